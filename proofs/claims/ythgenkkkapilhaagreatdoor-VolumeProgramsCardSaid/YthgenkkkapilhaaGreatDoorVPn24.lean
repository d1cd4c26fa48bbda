/-
  Joined: VpR VpS FrE EncC FrN RangeOwnz EncCz OpnV.
-/
import Derived.Test.YthgenkkkapilhaaGreatDoorVPn08
import Derived.Test.YthgenkkkapilhaaGreatDoorVPn20
import Derived.Test.YthgenkkkapilhaaGreatDoorVPn23
import Derived.HandedShaped
set_option linter.all false
set_option maxRecDepth 100000
set_option maxHeartbeats 64000000
namespace Go.Proofs.YthgenkkkapilhaaGreatDoor
open Go.Proofs.Tryz
section
open Go.RowKit
structure SesOk (x:Ses):Prop where
 num:0<=x.num/\x.num<=1000000000
 date:0<=x.date/\x.date<=1000000000
 prev:x.prev.size=0∨x.prev.size=32
 str:x.str.size<=14680064
 ents:x.ents.length<=100
 ok:∀e∈x.ents,EntB e
 sig:x.sig=⟨#[]⟩
theorem last39_any (w:World) (id d s:Int) (v:Value) (L:List Ses) (hv:SeqAt sesS w v L) (hl:L.length<=1000) (hs:∀x∈L,SesOk x):Calls prog 148 #[.agg #[.int .u32 id,.int .i64 d,.int .i64 s,v]] w fun e w'=>(∃p:ByteArray,e=.returned (.string p)/\(p.size=0∨p.size=32))/\Below w.heap.size w w':=by
 have HD:=zY (fun(W:World) (num date:Nat) (prev st sg:ByteArray) (ve:Value) (l:List Ent) (hv:SeqAt entS W ve l) (hn:num<=1000000000) (hd:date<=1000000000) (hp:prev.size<=1000000) (hst:st.size<=100000000) (hl:l.length<=100) (he:∀e∈l,EntB e)=>digest39_any W num date prev st sg ve l hv hn hd hp hst hl he);obtain⟨A,c,rfl,h1,h2⟩:=hv.slice;have hK:=Blk.new w 28 [.int .u32 id,.int .i64 d,.int .i64 s,.slice A L.length c];change Blk (w.alloc (.cells #[.int .u32 id,.int .i64 d,.int .i64 s,.slice A L.length c] 28)) _ _ _ at hK;have HK:=zY hK;have HB0:=zY (zBl w (.cells #[.int .u32 id,.int .i64 d,.int .i64 s,.slice A L.length c] 28));have Hv:=zY (hv.below HB0.out);have Hs:=zY hs;clear hK hv hs;go_enter func148,ntmps148;go_upto_region 1 with fail;generalize w.alloc (.cells #[.int .u32 id,.int .i64 d,.int .i64 s,.slice A L.length c] 28)=wa at *;have c3:=HK.c 3;by_cases h0:L.length=0;{
 have f0:((L.length:Int)==0)=true:=by rw[beq_iff_eq];omega
 go_wp2;go_ret;exact⟨⟨_,rfl,.inl rfl⟩,HB0.out⟩};{
 have f0:((L.length:Int)==0)=false:=by rw[beq_eq_false_iff_ne];omega
 obtain⟨m,hm⟩:∃m,L.length=m+1:=⟨L.length-1,by omega⟩;have hmI:(L.length:Int)-1=m:=by omega
 have hml:m<L.length:=by omega
 have hmL:(m:Int)<L.length:=by omega
 obtain⟨x,hx⟩:∃x,L[m]?=some x:=⟨_,List.getElem?_eq_getElem hml⟩;have HO:=zY (Hs.out x (List.mem_of_getElem? hx));obtain⟨_,_,e9,_,_,h4⟩:=Hv.out;cases e9;obtain⟨b,o,cs,rfl,⟨ve,rfl,hve⟩,hc⟩:=h4 m x hx;have HVe:=zY hve;obtain⟨Ae,ce,rfl,_,_⟩:=hve.slice;obtain⟨num,date,prev,ents,str,sig⟩:=x;dsimp only at hc HVe;obtain⟨hnum,hdate,hprev,hstr,hents,hok,hsig⟩:=HO.out;dsimp only at hsig;subst hsig;obtain⟨num,rfl⟩:∃n:Nat,num=(n:Int):=⟨num.toNat,by have:=hnum.1;dsimp only at this;omega⟩;obtain⟨date,rfl⟩:∃n:Nat,date=(n:Int):=⟨date.toNat,by have:=hdate.1;dsimp only at this;omega⟩;dsimp only at hnum hdate hprev hstr hents hok;have HDg:=zY (HD.out wa num date prev str ⟨#[]⟩ _ ents HVe.out (by omega) (by omega) (by omega) (by omega) hents hok);generalize ents.length=ne at *;have e0:wa.cell? ⟨b,o+m*6,none⟩=some (.int .i64 num):=hc 0 _ rfl;have e1:wa.cell? ⟨b,o+m*6+1,none⟩=some (.int .i64 date):=hc 1 _ rfl;have e2:wa.cell? ⟨b,o+m*6+2,none⟩=some (.string prev):=hc 2 _ rfl;have e3:wa.cell? ⟨b,o+m*6+3,none⟩=some (.slice Ae ne ce):=hc 3 _ rfl;have e4:wa.cell? ⟨b,o+m*6+4,none⟩=some (.string str):=hc 4 _ rfl;have e5:wa.cell? ⟨b,o+m*6+5,none⟩=some (.string ⟨#[]⟩):=hc 5 _ rfl;clear hc h4 hx hve hm hnum hdate hprev hstr hents hok;go_wp2_with fail;refine HDg.mono ?_;rintro e6 w6 ⟨⟨p,rfl,hp⟩,hb⟩;go_wp2;go_ret;exact⟨⟨p,rfl,.inr hp⟩,HB0.trans (hb.mono HB0.size)⟩}
def setAll (W:World) (g:Nat):Nat->List Value->World
 |_,[]=>W
 |i,u::r=>setAll (W.setCell ⟨g,i,none⟩ u) g (i+1) r
theorem grown_refl (W:World) (r:Option Nat):W.grownBy W r:=⟨rfl,rfl,rfl,Nat.le_refl _,fun _ _ _=>rfl⟩
theorem grown_setAll (g:Nat):∀(us:List Value) (W:World) (i:Nat),W.grownBy (setAll W g i us) (some g)
 |[],W,_=>grown_refl W _
 |u::r,W,i=>grownBy_trans (grown_set W g i u) (grown_setAll g r _ _)
theorem below_setAll {w:World} {B g:Nat} (hg:B<=g):∀(us:List Value) (W:World) (i:Nat),Below B w W->Below B w (setAll W g i us)
 |[],_,_,h=>h
 |u::r,W,i,h=>below_setAll hg r _ _ (h.setCell (p:=⟨g,i,none⟩) hg u)
def lset:List Value->Nat->List Value->List Value
 |l,_,[]=>l
 |l,i,u::r=>lset (l.set i u) (i+1) r
theorem Blk.setAll {g:Nat} {t:TypeId}:∀(us:List Value) {W:World} {i:Nat} {old:List Value},Blk W g t old->Blk (setAll W g i us) g t (lset old i us)
 |[],_,_,_,h=>h
 |u::r,_,i,_,h=>Blk.setAll r (h.set i u)
theorem Blk.grownN {W W':World} {g g':Nat} {t:TypeId} {us:List Value} (h:Blk W g t us) (hg:W.grownBy W' (some g')) (hne:g≠g'):Blk W' g t us:=h.grownB hg (fun e=>hne (Option.some.inj e).symm)
def entN:List Ses->Nat
 |[]=>0
 |x::r=>x.ents.length+entN r
theorem entN_app (l m:List Ses):entN (l++m)=entN l+entN m:=by
 induction l with
 |nil=>simp[entN]
 |cons x r ih=>rw[List.cons_append,entN,entN,ih];omega
theorem entN_take (l:List Ses) {i:Nat} {x:Ses} (h:l[i]?=some x):entN (l.take (i+1))=entN (l.take i)+x.ents.length:=by
 rw[List.take_add_one,h,entN_app];simp[entN]
theorem entN_le (l:List Ses) (i:Nat):entN (l.take i)<=entN l:=by
 have h:=entN_app (l.take i) (l.drop i);rw[List.take_append_drop]at h;omega
def safe (ks:List Nat):Bool:=noFit [1,3,4,3,1,3,4] ks&&noFit [1,1,1] ks&&noFit [3,3] ks&&noFit [3,1,1,1] ks&&noFit [3,1] ks
structure DrA (W:World) (ve vc vt vh:Value) (E:List Ent) (C:List Cnk) (T:List Ent) (H:List Hol):Prop where
 e:SeqAt entS W ve E
 c:SeqAt chkS W vc C
 t:SeqAt entS W vt T
 h:SeqAt holS W vh H
section
variable {W W':World} {ve vc vt vh:Value} {E T:List Ent} {C:List Cnk} {H:List Hol}
theorem DrA.below (h:DrA W ve vc vt vh E C T H) (hb:Below W.heap.size W W'):DrA W' ve vc vt vh E C T H:=⟨h.e.below hb,h.c.below hb,h.t.below hb,h.h.below hb⟩
theorem DrA.box (h:DrA W ve vc vt vh E C T H) {D:Nat} {t:TypeId} {us:List Value} (hB:Blk W D t us) (hg:W.grownBy W' (some D)) (hs:safe (us.map kd)=true):DrA W' ve vc vt vh E C T H:=by
 simp only[safe,Bool.and_eq_true]at hs;obtain⟨⟨⟨⟨h1,h2⟩,h3⟩,h4⟩,h5⟩:=hs;have hb:Box W D (us.map kd):=⟨t,us,hB,rfl⟩;exact⟨off_ent h1 h2 h3 W W' D _ _ hb hg h.e,off_chk h4 W W' D _ _ hb hg h.c,off_ent h1 h2 h3 W W' D _ _ hb hg h.t,off_hol h5 W W' D _ _ hb hg h.h⟩
theorem DrA.nil (W:World):DrA W (.slice none 0 0) (.slice none 0 0) (.slice none 0 0) (.slice none 0 0) [] [] [] []:=⟨SeqAt.nil _,SeqAt.nil _,SeqAt.nil _,SeqAt.nil _⟩
end
end
section
open Go.RowKit
abbrev Box9 (W:World) (H:Nat) (c0 c1 c2 c3 c4 c5 c6 c7 c8:Value):Prop:=W.cell? ⟨H,0,none⟩=some c0/\W.cell? ⟨H,1,none⟩=some c1/\W.cell? ⟨H,2,none⟩=some c2/\W.cell? ⟨H,3,none⟩=some c3/\W.cell? ⟨H,4,none⟩=some c4/\W.cell? ⟨H,5,none⟩=some c5/\W.cell? ⟨H,6,none⟩=some c6/\W.cell? ⟨H,7,none⟩=some c7/\W.cell? ⟨H,8,none⟩=some c8
theorem Box9.keep {A B:World} {H:Nat} {c0 c1 c2 c3 c4 c5 c6 c7 c8:Value} (h:Box9 A H c0 c1 c2 c3 c4 c5 c6 c7 c8) (hb:Below A.heap.size A B):Box9 B H c0 c1 c2 c3 c4 c5 c6 c7 c8:=by
 obtain⟨h0,h1,h2,h3,h4,h5,h6,h7,h8⟩:=h;exact⟨cell_below hb h0,cell_below hb h1,cell_below hb h2,cell_below hb h3,cell_below hb h4,cell_below hb h5,cell_below hb h6,cell_below hb h7,cell_below hb h8⟩
theorem Box9.drw {A:World} {H:Nat} {c0 c1 c2 c3 c4 c5 c6 c7 c8:Value} (h:Box9 A H c0 c1 c2 c3 c4 c5 c6 c7 c8):Box9 A.drew H c0 c1 c2 c3 c4 c5 c6 c7 c8:=h
theorem Box9.blk {W:World} {g:Nat} {t:TypeId} {c0 c1 c2 c3 c4 c5 c6 c7 c8:Value} (h:Blk W g t [c0,c1,c2,c3,c4,c5,c6,c7,c8]):Box9 W g c0 c1 c2 c3 c4 c5 c6 c7 c8:=
 ⟨h.c 0,h.c 1,h.c 2,h.c 3,h.c 4,h.c 5,h.c 6,h.c 7,h.c 8⟩
def msgL (k r s i l d p a:Nat) (t:ByteArray):List Nat:=beL k 1++beL r 1++beL s 2++beL i 2++beL l 1++beL (16*d+p) 1++beL a 4++bs t
def marL (k r s i l d p a:Nat) (t:ByteArray):List Nat:=msgL k r s i l d p a t++be4 (sumL [strB (msgL k r s i l d p a t)])
def marR (k r s i l d p a:Int) (t:ByteArray):Value:=
 if frE k r s i l d p t≠0 then .tuple #[.string ⟨#[]⟩,.int .i64 (frE k r s i l d p t)] else .tuple #[.string (strB (marL k.toNat r.toNat s.toNat i.toNat l.toNat d.toNat p.toNat a.toNat t)),.int .i64 0]
theorem frE_ok {k r s i l d p:Int} {t:ByteArray} (h:frE k r s i l d p t=0):
  (k=66∨k=68)/\(1<=d/\d<=8)/\(0<=p/\p<=7)/\(0<=r/\r<=d+p-1)/\(1<=s/\s<=255)/\(0<=i/\i<=65535)/\(0<=l/\l<=28)/\t.size=28:=by
 unfold frE inR at h;split at h;{cases h};{
 split at h;{cases h};{
 split at h;{cases h};{
 split at h;{cases h};{
 next h1 h2 h3 h4=>
 simp only[Bool.and_eq_true,Bool.or_eq_true,bne_iff_ne,ne_eq,Bool.not_eq_true',Bool.and_eq_false_imp,decide_eq_true_eq,decide_eq_false_iff_not,not_and,not_or,Decidable.not_not]at h1 h2 h3 h4;refine⟨by omega,by omega,by omega,by omega,by omega,by omega,by omega,by omega⟩}}}}
def hdrL (k r s i l d p a:Nat):List Nat:=[k,r,s/256,s%256,i/256,i%256,l,16*d+p,a/16777216,a/65536%256,a/256%256,a%256]
theorem hdr_msg (k r s i l d p a:Nat) (t:ByteArray) (hk:k<256) (hr:r<256) (hs:s<256) (hi:i<65536) (hl:l<256) (hd:16*d+p<256) (ha:a<4294967296):
  hdrL k r s i l d p a++bs t=msgL k r s i l d p a t:=by
 have e1:∀n,n<256->beL n 1=[n]:=fun n hn=>by simp[beL];omega
 have e2:∀n,n<65536->beL n 2=[n/256,n%256]:=fun n hn=>by simp[beL];omega
 have e4:beL a 4=[a/16777216,a/65536%256,a/256%256,a%256]:=by simp[beL];omega
 unfold msgL hdrL;rw[e1 k hk,e1 r hr,e2 s (by omega),e2 i hi,e1 l hl,e1 _ hd,e4];simp
theorem hdr_bytes (k r s i l d p a:Nat) (hk:k<256) (hr:r<256) (hs:s<256) (hi:i<65536) (hl:l<256) (hd:16*d+p<256) (ha:a<4294967296):Bytes (hdrL k r s i l d p a):=by
 intro x hx;unfold hdrL at hx;simp only[List.mem_cons,List.not_mem_nil,or_false]at hx;omega
def bitU (l:List Nat):List Nat:=(frmB l).map (· - 48)
theorem bitU_bits (l:List Nat):Bits (bitU l):=by
 intro x hx;obtain⟨c,hc,rfl⟩:=List.mem_map.1 hx;rcases frmB_01 l c hc with rfl|rfl<;>decide
theorem bitsS_bitU (l:List Nat):bitsS (bitU l)=frmB l:=by
 unfold bitsS bitU;rw[List.map_map];conv=>rhs;rw[<-List.map_id (frmB l)]
 refine List.map_congr_left fun c hc=>?_;rcases frmB_01 l c hc with rfl|rfl<;>rfl
theorem bitU_len (l:List Nat):(bitU l).length=8*l.length:=by unfold bitU;rw[List.length_map,frmB_len]
def cellL (m:List Nat):List Nat:=cenc 0 (bitU (rsEnc m)++[0,0])
def bodyL (m:List Nat):List Nat:=interL (cellL m)
theorem rsEnc_ok {m:List Nat} (hm:Bytes m) (hl:m.length=44):(rsEnc m).length=52/\Bytes (rsEnc m):=by
 obtain⟨h1,h2,_⟩:=rsPar_inv m hm;unfold rsEnc;refine⟨by rw[List.length_append,h1,hl],fun x hx=>?_⟩;rcases List.mem_append.1 hx with hx|hx;{exact hm x hx};{exact h2 x hx}
theorem cenc_01:∀(u:List Nat) (s:Nat),B01 (cenc s u)
 |[],_=>fun c hc=>by cases hc
 |b::r,s=>fun c hc=>by
  simp only[cenc,List.mem_cons]at hc
  rcases hc with rfl|rfl|hc
  ·unfold co1;omega
  ·unfold co2;omega
  ·exact cenc_01 r _ c hc
theorem cellL_len {m:List Nat} (hm:Bytes m) (hl:m.length=44):(cellL m).length=836:=by
 unfold cellL;rw[cenc_len,List.length_append,bitU_len,(rsEnc_ok hm hl).1];rfl
theorem cellL_01 (m:List Nat):B01 (cellL m):=cenc_01 _ _
theorem inter_mem {l:List Nat} (hl:l.length=836) {x:Nat} (h:x∈interL l):x∈l:=by
 unfold interL at h;obtain⟨j,hj,rfl⟩:=List.mem_map.1 h;have hj':=(ilv_uil (List.mem_range.1 hj)).2;have hlt:uil j<l.length:=by omega
 rw[cf_get (List.getElem?_eq_getElem hlt)];exact List.getElem_mem hlt
theorem bodyL_01 {m:List Nat} (hm:Bytes m) (hl:m.length=44):B01 (bodyL m):=fun c hc=>cellL_01 m c (inter_mem (cellL_len hm hl) hc)
theorem bodyL_bytes {m:List Nat} (hm:Bytes m) (hl:m.length=44):Bytes (bodyL m):=fun c hc=>by rcases bodyL_01 hm hl c hc with rfl|rfl<;>decide
theorem bodyL_len (m:List Nat):(bodyL m).length=836:=interL_len _
theorem be4_bytes {c:Nat} (h:c<4294967296):Bytes (be4 c):=by
 intro x hx;unfold be4 at hx;simp only[List.mem_cons,List.not_mem_nil,or_false]at hx;omega
theorem mar_ok {k r s i l d p a:Nat} {t:ByteArray} (he:frE k r s i l d p t=0) (ha:a<4294967296):
  ∃c,c<4294967296/\marL k r s i l d p a t=hdrL k r s i l d p a++bs t++be4 c/\Bytes (marL k r s i l d p a t)/\(marL k r s i l d p a t).length=44/\c=sumL [strB (hdrL k r s i l d p a++bs t)]/\Bytes (hdrL k r s i l d p a++bs t):=by
 obtain⟨h1,h2,h3,h4,h5,h6,h7,h8⟩:=frE_ok he;have hm:=hdr_msg k r s i l d p a t (by omega) (by omega) (by omega) (by omega) (by omega) (by omega) ha;have hb:=hdr_bytes k r s i l d p a (by omega) (by omega) (by omega) (by omega) (by omega) (by omega) ha;have hb2:Bytes (hdrL k r s i l d p a++bs t):=fun x hx=>by
  rcases List.mem_append.1 hx with hx|hx
  ·exact hb x hx
  ·exact bs_lt t x hx
 have e:marL k r s i l d p a t=hdrL k r s i l d p a++bs t++be4 (sumL [strB (hdrL k r s i l d p a++bs t)]):=by unfold marL;rw[<-hm]
 refine⟨_,sumL_lt _,e,?_,?_,rfl,hb2⟩;{
 rw[e];intro x hx;rcases List.mem_append.1 hx with hx|hx;{exact hb2 x hx};{exact be4_bytes (sumL_lt _) x hx}};{
 rw[e,List.length_append,List.length_append,bs_len,h8];rfl}
end
section
open Go.RowKit Go.Shelf
attribute [local go_sem] Oper.semAt_some
theorem Bld.moved {A B:World} {K b:Nat} {l:List Nat} (h:Bld A K b l) (hc:∀(k:Nat) (o:Obj),A.heap[k]?=some o->o.isCells=true->B.heap[k]?=some o):Bld B K b l:=by
 have key:∀p,Lib.BuilderAtF 135 5 K b p (l.map u8V) A->Lib.BuilderAtF 135 5 K b p (l.map u8V) B:=by rintro p ⟨hB,v,hb,hown,hne⟩;refine⟨hB,v,hc _ _ hb rfl,⟨hown.1,?_⟩,hne⟩;rcases hown.2 with hn|⟨g,cap,cur,fz,hv,hbg,hg,rest⟩;{exact .inl hn};{exact .inr ⟨g,cap,cur,fz,hv,hbg,hc _ _ hg rfl,rest⟩}
 exact Or.elim h (fun x=>.inl (key _ x)) (fun x=>.inr (key _ x))
attribute [local go_sem] Oper.semAt_some
end
section
open Go.RowKit
def fencR (k r s i l d p a:Int) (t:ByteArray):Value:=
 if frE k r s i l d p t≠0 then .tuple #[.string ⟨#[]⟩,.int .i64 (frE k r s i l d p t)]
 else .tuple #[.string (markS++strB (bodyL (marL k.toNat r.toNat s.toNat i.toNat l.toNat d.toNat p.toNat a.toNat t))),.int .i64 0]
def stepS (m:List Nat):Nat->ByteArray
 |0=>strB m
 |1=>strB (rsEnc m)
 |2=>strB (frmB (rsEnc m))
 |3=>strB (cellL m)
 |_=>strB (bodyL m)
def markL:List Nat:=bs markS
theorem markL_eq:markL=[49,49,49,49,49,48,48,49,49,48,49,48,49,48,48,48]:=by decide
def mt (l:List Nat) (k:Nat):Nat->Nat
 |0=>0
 |i+1=>mt l k i+if cf l (k+i)=cf markL i then 1 else 0
def hit (l:List Nat) (k:Nat):Bool:=decide (14<=mt l k 16)
structure Frm where
 k:Int
 r:Int
 s:Int
 i:Int
 l:Int
 d:Int
 p:Int
 a:Int
 t:ByteArray
def Frm.v (f:Frm):Value:=frV f.k f.r f.s f.i f.l f.d f.p f.a f.t
def Frm.cells (f:Frm):List Value:=[.int .i64 f.k,.int .i64 f.r,.int .i64 f.s,.int .i64 f.i,.int .i64 f.l,.int .i64 f.d,.int .i64 f.p,.int .u32 f.a,.string f.t]
theorem markL_len:markL.length=16:=by rw[markL_eq];rfl
theorem markL_01:B01 markL:=by rw[markL_eq];decide
theorem b01_bytes {l:List Nat} (h:B01 l):Bytes l:=fun x hx=>by rcases h x hx with rfl|rfl<;>decide
theorem bytes_app {l r:List Nat} (h:Bytes l) (k:Bytes r):Bytes (l++r):=fun x hx=>by
 rcases List.mem_append.1 hx with hx|hx
 ·exact h x hx
 ·exact k x hx
theorem mark_cat (m:List Nat):markS++strB (bodyL m)=strB (markL++bodyL m):=by
 conv=>lhs;rw[<-strB_bs markS,strB_cat]
 rfl
def flatCl (ms:List (List Nat)):List Nat:=ms.flatMap fun m=>markL++bodyL m
theorem flatC_len (ms:List (List Nat)):(flatCl ms).length=852*ms.length:=by
 induction ms with
 |nil=>rfl
 |cons m r ih=>
 unfold flatCl at ih⊢;rw[List.flatMap_cons,List.length_append,ih,List.length_append,markL_len,bodyL_len,List.length_cons];omega
theorem flatC_app (a b:List (List Nat)):flatCl (a++b)=flatCl a++flatCl b:=by unfold flatCl;rw[List.flatMap_append]
theorem flatC_bytes {ms:List (List Nat)} (h:∀m∈ms,Bytes m/\m.length=44):Bytes (flatCl ms):=fun x hx=>by
 unfold flatCl at hx
 obtain⟨m,hm,hx⟩:=List.mem_flatMap.1 hx
 obtain⟨h1,h2⟩:=h m hm
 exact bytes_app (b01_bytes markL_01) (bodyL_bytes h1 h2) x hx
end
end Go.Proofs.YthgenkkkapilhaaGreatDoor
namespace Go.Proofs.YthgenkkkapilhaaGreatDoor.rangeStr
open Go.Proofs.Tryz
section
open Go.RowKit Go.Proofs.YthgenkkkapilhaaGreatDoor.rangeOwn
theorem wpIn_rangeFunc_str {α:Type} {P:Program} {g:Operand} {ps:Array Tmp} {assign body:Code} {Q:Exit->Act->World->Prop} {a:Act} {w:World}
  {gf:Nat} {lb:Array Value} (hg:a.eval g=.func (.func gf) #[] lb) (eg:∀args w,(callFunc gf args).run P w=.ok (.enter gf args) w)
  {Rd:α->Array Value->World->Prop} {old:Nat->Prop} {xs:List α} (hseq:IterStr P gf lb Rd old xs w)
  (hps:∀x args W,Rd x args W->args.size=ps.size) (hRd:∀x args A B,Rd x args A->rangeOwn.Aside No w.heap.size A B->Rd x args B)
  (I:List α->World->Prop) (hI:∀s A B,I s A->w.heap.size<=A.heap.size->rangeOwn.Aside No w.heap.size A B->I s B) (h0:I [] w) (a₁:Array Value->Act)
  (hassign:∀(l:Nat) (x:α) (args:Array Value) (W:World) (K:Act->World->Prop),Rd x args W->K (a₁ args) W ->
   assign.wpIn (Fence.wide.inRound l) 0 P (Exit.then K (fun _ _ _=>False)) { tmps:=(ps.zip args).foldl (fun t (p,v)=>t.setIfInBounds p v) a.tmps,defers:=[] } W)
  (hbody:∀(l:Nat) (pre:List α) (x:α) (args:Array Value) (W:World),w.heap.size+2<=W.heap.size->I pre W->Rd x args W->(pre++[x]) <+: xs ->
   body.wpIn (Fence.wide.inRound l) 0 P (goesOn old I (pre++[x]) W) (a₁ args) W)
  (hdone:∀(D:Nat) (W:World),w.heap.size<=D->I xs W->W.heap[D]?=some (.deferred (some []))->Q .normal { a with defers:={ target:=.collected D,args:= #[] }::a.defers } W):
  (Code.rangeFunc g ps assign body).wpIn Fence.wide 0 P Q a w:=by
 refine wpIn_rangeFunc ?_;intro fn _;obtain⟨rec,hrec⟩:∃rec:LoopState->Option Code->Loop,rec=fun st pe=>{ state:=st,pending:=pe,fn,tmps:=a.tmps,params:=ps,assign,body,defers:=w.heap.size }:=⟨_,rfl⟩;obtain⟨W1,hW1⟩:=zNm ((w.alloc (.deferred (some []))).alloc (.loop (rec .ready none)));have hs1:W1.heap.size=w.heap.size+2:=by rw[<-hW1];simp
 have hL1:W1.heap[w.heap.size+1]?=some (.loop (rec .ready none)):=by rw[<-hW1];have:=World.alloc_heap_new (w.alloc (.deferred (some []))) (.loop (rec .ready none));rwa [World.size_alloc]at this
 have hK1:W1.heap[w.heap.size]?=some (.deferred (some [])):=by rw[<-hW1];exact(Below.heap_alloc _ _ _ (by simp)).trans (World.alloc_heap_new w _)
 have hb1:Below w.heap.size w W1:=by rw[<-hW1];exact((Below.refl _ w).alloc (Nat.le_refl _) _).alloc (by simp) _
 have hI1:I [] W1:=hI _ _ _ h0 (Nat.le_refl _) (rangeOwn.Aside.of_below hb1 (Nat.le_refl _));refine⟨w.heap.size+1,[{ target:=.collected w.heap.size,args:= #[] }],W1,{ target:=.fn (.func gf) lb,args:= #[.func (.yield (w.heap.size+1)) #[] #[]] },W1,gf,
  #[.func (.yield (w.heap.size + 1)) #[] #[]] ++ lb, W1, ?_, ?_, fun _ _ => trivial, ?_, (fun h => by cases h), ?_⟩;{rw[<-hW1,hrec];exact run_enterLoop_outer _ _ _ _ _};{
 simp only[resolve,hg];simp[go_sem]};{simp[invoke,go_sem,eg]};{
 refine(hseq (w.heap.size+1)
  (fun pre W=>w.heap.size+2<=W.heap.size/\I pre W/\W.heap[w.heap.size+1]?=some (.loop (rec .ready none))/\W.heap[w.heap.size]?=some (.deferred (some [])))
  W1 hb1 (fun s A B hs hsz hAB=>⟨Nat.le_trans hs.1 hAB.size,hI _ _ _ hs.2.1 (by omega) (hAB.mono (by omega)),(hAB.low _ (by omega) (fun h=>h)).trans hs.2.2.1,(hAB.low _ (by omega) (fun h=>h)).trans hs.2.2.2⟩)
  ?_ ⟨by omega,hI1,hL1,hK1⟩).mono ?_;{
 rintro pre x args W ⟨hsz,hi,hl,hk⟩ hrd hpre;have hy:=run_yield (P:=P) (args:=args) hl (by rw[hrec];exact hps x args W hrd);rw[hrec]at hy;refine⟨fn,_,assign,body,hy,roundIn_of_wpIn trivial (hassign _ x args W _ hrd ⟨_,run_beginRound hl (by rw[hrec]),?_⟩)⟩;obtain⟨W2,hW2⟩:=zNm (W.putObj (w.heap.size+1) (.loop { rec .ready none with state:=.busy }));have hA2:rangeOwn.Aside No w.heap.size W W2:=by rw[<-hW2];exact rangeOwn.Aside.putObj _ (by omega) hl rfl
 have hl2:W2.heap[w.heap.size+1]?=some (.loop { rec .ready none with state:=.busy }):=by rw[<-hW2];exact World.putObj_heap_same (by omega)
 have hk2:W2.heap[w.heap.size]?=some (.deferred (some [])):=by rw[<-hW2];exact(World.putObj_heap_other (by omega)).trans hk
 have hs2:W2.heap.size=W.heap.size:=by rw[<-hW2];simp
 rw[hW2];refine wpIn_mono (hbody _ pre x args W2 (by omega) (hI _ _ _ hi (by omega) hA2) (hRd _ _ _ _ hrd hA2) hpre) ?_;rintro e a3 W3 hp;cases e with
 |normal=>(
 obtain⟨hk3,hi3⟩:=hp;have hl3:W3.heap[w.heap.size+1]?=some (.loop { rec .ready none with state:=.busy }):=hk3.2 _ _ hl2 (.inl rfl);have hd3:W3.heap[w.heap.size]?=some (.deferred (some [])):=hk3.2 _ _ hk2 (.inl rfl);have hs3:=hk3.1;have hr:=run_endRound (P:=P) none hl3;rw[hrec]at hr;have hA4:rangeOwn.Aside No w.heap.size W3 (W3.putObj (w.heap.size+1) (.loop (rec .ready none))):=rangeOwn.Aside.putObj _ (by omega) hl3 rfl;rw[hrec]at hA4;refine⟨_,_,hr,rfl,⟨by simp;omega,hI _ _ _ hi3 (by omega) hA4,?_,?_⟩,by simp;omega,fun k o hko hkS=>?_⟩;{rw[hrec];exact World.putObj_heap_same (by omega)};{exact(World.putObj_heap_other (by omega)).trans hd3};{
 by_cases hkne:k=w.heap.size+1;{
 subst hkne;rw[hl]at hko;rw[<-hko,hrec];exact World.putObj_heap_same (by omega)};{
 refine(World.putObj_heap_other hkne).trans (hk3.2 k o ?_ hkS);rw[<-hW2];exact(World.putObj_heap_other hkne).trans hko}})
 |_=>exact hp.elim};{
 rintro e W2 ⟨⟨v,rfl⟩,hsz,hi,hl,hk⟩;refine⟨none,_,by have:=run_endLoop (P:=P) hl (by rw[hrec];simp);rw[hrec]at this;exact this,hdone _ _ (Nat.le_refl _) (hI _ _ _ hi (by omega) (rangeOwn.Aside.putObj _ (by omega) hl rfl)) ((World.putObj_heap_other (by omega)).trans hk)⟩}}
end
end Go.Proofs.YthgenkkkapilhaaGreatDoor.rangeStr
namespace Go.Proofs.YthgenkkkapilhaaGreatDoor
open Go.Proofs.Tryz
section
open Go.RowKit Go.Shelf
attribute [local go_sem] Oper.semAt_some
def outsL:Nat->List Nat->List ByteArray
 |_,[]=>[]
 |s,b::r=>outS s b::outsL (cnx s b) r
theorem outsL_flat:∀(u:List Nat) (s:Nat),(outsL s u).flatMap bs=cenc s u
 |[],_=>rfl
 |b::r,s=>by
  rw[outsL,List.flatMap_cons,bs_outS,outsL_flat r (cnx s b)]
  rfl
def RdStr (x:ByteArray) (args:Array Value) (_:World):Prop:=args= #[.string x]
def iterLeft (W:World) (k:Nat):Nat:=match W.heap[k]? with
 |some (.stringIter s pos)=>s.size-pos
 |_=>0
theorem iterLeft_eq {W:World} {k:Nat} {s:ByteArray} {pos:Nat} (h:W.heap[k]?=some (.stringIter s pos)):iterLeft W k=s.size-pos:=by
 unfold iterLeft;rw[h]
theorem aside_iterAt {A:World} {n k:Nat} {S:ByteArray} {pos:Nat} (hk:A.heap[k]?=some (.stringIter S pos)) (hn:n<=k) (pos':Nat):rangeOwn.Aside rangeStr.No n A (A.iterAt k S pos'):=
 ⟨rfl,rfl,rfl,by rw[Lib.iterAt_size];exact Nat.le_refl _,fun i hi _=>Lib.iterAt_other A k i S pos' (by omega),fun i o _ hi hc=>(Lib.iterAt_other A k i S pos' (fun e=>by subst e;rw[hk]at hi;cases hi;cases hc)).trans hi⟩
theorem outputs_all (s:ByteArray) (u:List Nat) (nb:Nat) (W0:World) (hs:bs s=bitsS u) (hu:Bits u) (hz:s.size=416) (hb0:Boxed W0 nb 9 (.string s)):
  rangeStr.IterStr prog 358 #[.pointer (some ⟨nb,0,none⟩)] RdStr (fun _=>False) (outsL 0 (u++[0,0])) W0:=by
 intro l J W hb hJ hY h0;have hbx:Boxed W nb 9 (.string s):=(hb.block nb hb0.lt).trans hb0;have hcell:=hbx.cell;obtain⟨S,hS⟩:=zNm (s++⟨#[48,48]⟩);have hul:u.length=416:=by rw[<-bitsS_len,<-hs,bs_len,hz]
 have hbS:bs S=bitsS (u++[0,0]):=by{
 rw[<-hS,<-strB_bs s,show (⟨#[48,48]⟩:ByteArray)=strB [48,48] from rfl,strB_cat,bs_strB];{rw[hs];unfold bitsS;rw[List.map_append];rfl};{
 intro x hx;rcases List.mem_append.1 hx with hx|hx;{exact bs_lt s x hx};{simp at hx;omega}}};have zS:S.size=418:=by rw[<-bs_len,hbS,bitsS_len,List.length_append,hul];rfl
 have hap:∀x y:ByteArray,(x++y).size=x.size+y.size:=fun x y=>ByteArray.size_append;have z2:(⟨#[48,48]⟩:ByteArray).size=2:=rfl;have HJ:=zY hJ;have HY:=zY hY;have HbS:=zY hbS;have Hul:=zY hul;have HN:Hid (∀(W:World) (st b:Nat),st<4->b<2->Calls prog 334 #[.int .i64 (st:Int),.int .i64 (b:Int)] W fun e w'=>e=.returned (.tuple #[.int .i64 (cnx st b:Nat),.string (outS st b)])/\W=w'):=zY (fun W st b h1 h2=>vnext_any W st b h1 h2);have Hu2:Hid (Bits (u++[0,0])):=zY (fun x hx=>by
  rcases List.mem_append.1 hx with hx|hx
  ·exact hu x hx
  ·simp at hx;omega);obtain⟨v,hv⟩:=zNm (u++[0,0]);have hvl:v.length=418:=by rw[<-hv,List.length_append,hul];rfl
 rw[hv]at HbS Hu2 HY⊢;have Hvl:=zY hvl;clear hbx hJ hY hbS hul hs hu hv hvl;refine callsIn_of_wp func358 rfl trivial ?_ rfl;simp only[ntmps358,List.size_toArray,List.length_cons,List.length_nil,Nat.reduceAdd,Nat.reduceSub,Array.replicate_succ,Array.replicate_zero,List.push_toArray,List.append_toArray,List.nil_append,List.cons_append];gi_wp2;gi_loopw [3] (fun x wr=>∃(k st:Nat) (pre:List ByteArray),k<=418/\st<4/\x=.int .i64 (st:Int)/\wr.heap[W.heap.size]?=some (.stringIter S k)/\W.heap.size<=wr.heap.size/\pre++outsL st (v.drop k)=outsL 0 v/\J pre wr)
  (fun _ wr=>iterLeft wr W.heap.size);case atStart=>refine⟨0,0,[],by omega,by omega,rfl,?_,?_,rfl,HJ.out _ _ _ h0 (Nat.le_refl _) ?_⟩;{exact World.alloc_heap_new W (.stringIter S 0)};{exact Nat.le_of_lt (by simp[World.iter])};{exact rangeOwn.Aside.of_below ((Below.refl _ _).alloc (Nat.le_refl _) (.stringIter S 0)) (Nat.le_refl _)}
 case round=>
 obtain⟨k,st,pre,hk,hst,rfl,hit,hsz,hpre,hj⟩:=hrel;by_cases h:k<418;{
 have hkS:k<S.size:=by omega
 have hkv:k<v.length:=by rw[Hvl.out];exact h
 obtain⟨b,hbk⟩:=zNm (v[k]'hkv);have hb2:b<2:=by rw[<-hbk];exact Hu2.out _ (List.getElem_mem hkv)
 have hsk:(S[k]'hkS).toNat=48+b:=by have h1:=bs_get S k hkS;rw[HbS.out]at h1;unfold bitsS at h1;rw[List.getElem?_map,List.getElem?_eq_getElem hkv,hbk,Option.map_some]at h1;exact(Option.some.inj h1).symm
 have hdr:v.drop k=b::v.drop (k+1):=by rw[List.drop_eq_getElem_cons hkv,hbk]
 rw[hdr,outsL]at hpre;have hnx:∀ty,(Instr.next (.pointer (some ⟨W.heap.size,0,none⟩)) true ty).run prog wr=.ok (.tuple #[.bool true,.int .i64 (k:Int),.int .i32 ((48+b:Nat):Int)]) (wr.iterAt W.heap.size S (k+1)):=fun ty=>by
  have h1:=Lib.run_next_ascii_at (P:=prog) wr W.heap.size S k ty hit hkS (by omega)
  rw[hsk]at h1
  exact h1
 have hj2:=HJ.out _ _ _ hj hsz (aside_iterAt hit (Nat.le_refl _) (k+1));have hit2:=Lib.iterAt_heap wr W.heap.size S k (k+1) hit;have hsz2:W.heap.size<=(wr.iterAt W.heap.size S (k+1)).heap.size:=by rw[Lib.iterAt_size];exact hsz
 generalize wr.iterAt W.heap.size S (k+1)=wt at *;obtain⟨fn,tmps,assign,body,hy,hR⟩:=HY.out pre (outS st b) #[.string (outS st b)] wt hj2 rfl ⟨outsL (cnx st b) (v.drop (k+1)),by rw[<-hpre];simp⟩;have HR:=zY hR;have Hpre:=zY hpre;have Hit:=zY hit;have Hit2:=zY hit2;have Hsz2:=zY hsz2;have Hst:=zY hst;have Hb2:=zY hb2;clear hR hpre hit hit2 hj hj2 hsz hsz2 hst hdr hsk hbk;rcases (by omega:b=0∨b=1)with rfl|rfl;all_goals
 have HN2:=zY (HN.out wt st _ Hst.out Hb2.out);gi_wp2_with (refine⟨trivial,rfl,?_⟩;gi_at_call 334;refine(callsIn_wide.2 HN2.out).mono ?_;rintro e w' ⟨rfl,rfl⟩);refine⟨rfl,HR.mono ?_⟩;rintro e W1 ⟨rfl,hj1,hk1⟩;have Hj1:=zY hj1;have Hk1:=zY hk1;clear hj1 hk1;gi_wp2;go_roundw;case rel=>exact⟨k+1,cnx st _,pre++[outS st _],by omega,cnx_lt Hst.out Hb2.out,rfl,Hk1.2 _ _ Hit2.out (.inl rfl),Nat.le_trans Hsz2.out Hk1.1,by rw[<-Hpre.out];simp,Hj1.out⟩
 case measure=>
 rw[iterLeft_eq (Hk1.2 _ _ Hit2.out (.inl rfl)),iterLeft_eq Hit.out];omega};{
 obtain rfl:k=418:=by omega
 have hnx:∀ty,(Instr.next (.pointer (some ⟨W.heap.size,0,none⟩)) true ty).run prog wr=.ok (.tuple #[.bool false]) wr:=fun ty=>Lib.run_next_end_at (P:=prog) wr W.heap.size S 418 ty hit (by omega);have e:pre=outsL 0 v:=by rw[<-hpre,List.drop_eq_nil_of_le (by rw[Hvl.out];exact Nat.le_refl _)];simp[outsL]
 have He:=zY e;have Hj:=zY hj;clear hpre hj e hit;gi_wp2;go_end0;exact⟨⟨_,rfl⟩,He.out▸Hj.out⟩}
attribute [local go_sem] Oper.semAt_some
theorem outputs_any (w:World) (s:ByteArray):Calls prog 308 #[.string s] w fun e w'=>e=.returned (.func (.func 358) #[] #[.pointer (some ⟨w.heap.size,0,none⟩)])/\w.alloc (.cells #[.string s] 9)=w':=by
 go_enter func308,ntmps308;go_wp2;go_ret;exact⟨rfl,rfl⟩
theorem wsk_any (w:World) (B b:Nat) (l:List Nat) (s:ByteArray) (h:Bld w B b l) (hl:l.length<=1000000) (hs:s.size<=1000000) (hB:B<=w.heap.size):
  Calls prog 64 #[.pointer (some ⟨b,0,none⟩),.string s] w fun e w'=>e=.returned (.tuple #[.int .i64 s.size,.nilIface])/\Bld w' B b (l++bs s)/\Below B w w'/\Lib.OthersKept 5 (some b) w w':=by
 refine(Tryz.Builder_WriteString_k B b _ s w h (by rw[List.length_map];omega) hB).mono fun e w' ⟨he,h1,hb,hk⟩=>⟨he,?_,hb,hk⟩
 have:=Or.inr (a:=Lib.BuilderAtF 135 5 B b (.pointer none) (l.map u8V++Lib.strCells s) w') h1;have e1:(l++bs s).map u8V=l.map u8V++Lib.strCells s:=by rw[List.map_append];unfold Lib.strCells bs;rw[List.map_map];rfl
 show Lib.IsBuilderF _ _ _ _ _ _;rw[e1];exact this
theorem strk_any (w:World) (B b:Nat) (l:List Nat) (hl:Bytes l) (h:Bld w B b l) (hB:B<=w.heap.size):
  Calls prog 65 #[.pointer (some ⟨b,0,none⟩)] w fun e w'=>e=.returned (.string (strB l))/\Below B w w'/\Lib.OthersKept 5 (some b) w w':=by
 have e1:Lib.byteCells (l.map UInt8.ofNat)=l.map u8V:=by unfold Lib.byteCells;rw[List.map_map];refine List.map_congr_left fun x hx=>?_;have:=hl x hx;simp[Nat.mod_eq_of_lt this]
 exact(Tryz.Builder_String_any_k B b (l.map UInt8.ofNat) w (by rw[e1];exact h) hB).mono fun e w' ⟨he,_,hb,hk⟩=>⟨he,hb,hk⟩
structure EncI (w:World) (B:Nat) (pre:List ByteArray) (W:World):Prop where
 bld:Bld W B B (pre.flatMap bs)
 below:Below w.heap.size w W
 le:w.heap.size<=B
 lt:B<W.heap.size
theorem outsL_mem:∀(u:List Nat) (s:Nat) (x:ByteArray),x∈outsL s u->x.size=2
 |[],_,x,h=>by cases h
 |b::r,s,x,h=>by
  rw[outsL]at h
  rcases List.mem_cons.1 h with rfl|h
  ·rw[<-bs_len,bs_outS];rfl
  {
  exact outsL_mem r _ x h}
theorem venc_any (w:World) (s:ByteArray) (u:List Nat) (hs:bs s=bitsS u) (hu:Bits u) (hz:s.size=416):
  Calls prog 255 #[.string s] w fun e w'=>e=.returned (.tuple #[.string (strB (cenc 0 (u++[0,0]))),.int .i64 0])/\Below w.heap.size w w':=by
 have hall:allIn (bs ⟨#[48,49]⟩) (bs s)=true:=by unfold allIn;rw[List.all_eq_true,hs];intro x hx;rcases bitsS_01 hu x hx with rfl|rfl<;>decide
 have Ht:=zY (fun W=>trim_any W s ⟨#[48,49]⟩ (by omega) (by decide) (by decide));have Hall:=zY hall;have hI:decide ((65536:Int)<s.size)=false:=decide_eq_false (by omega);have Hs:=zY hs;have Hu:=zY hu;have Hz:=zY hz;clear hall hs hu hz;refine(callsIn_wide (n:=0)).1 ?_;refine callsIn_of_wp_marks func255 rfl trivial ?_ rfl;simp only[ntmps255,List.size_toArray,List.length_cons,List.length_nil,Nat.reduceAdd,Nat.reduceSub,Array.replicate_succ,Array.replicate_zero,List.push_toArray,List.append_toArray,List.nil_append,List.cons_append];gi_wp2_with fail;refine⟨trivial,rfl,?_⟩;gi_at_call 57;refine(callsIn_wide.2 (Ht.out _)).mono ?_;rintro e w1 ⟨t,rfl,ht,hb1⟩;have ht1:t.toList.isEmpty=true:=ht.trans Hall.out;have ht2:(!t.toList.isEmpty)=false:=by rw[ht1];rfl
 clear ht Ht;gi_wp2_with (refine⟨trivial,rfl,?_⟩;gi_at_call 308;refine(callsIn_wide.2 (outputs_any _ _)).mono ?_;rintro e w' ⟨rfl,rfl⟩);have Hb1:=zY hb1;have hs1:=hb1.size;clear hb1;obtain⟨W0,hW0⟩:=zNm ((w1.alloc (.cells #[.pointer none,.slice none 0 0] 135)).alloc (.cells #[.string s] 9));have hsz0:W0.heap.size=w1.heap.size+1+1:=by rw[<-hW0];simp
 have hb0:Below w.heap.size w W0:=by rw[<-hW0];exact((Hb1.alloc hs1 _).alloc (by simp;omega) _)
 have hbx:Boxed W0 (w1.heap.size+1) 9 (.string s):=by rw[<-hW0];have:=Boxed.new (w1.alloc (.cells #[.pointer none,.slice none 0 0] 135)) 9 (.string s);simpa using this
 have hbl0:Bld W0 w1.heap.size w1.heap.size []:=by rw[<-hW0];exact Lib.IsBuilderF.alloc (Bld.new w1) _
 have hI0:EncI w w1.heap.size [] W0:=⟨hbl0,hb0,hs1,by omega⟩;have hIt:=outputs_all s u (w1.heap.size+1) W0 Hs.out Hu.out Hz.out hbx;rw[hW0];clear hW0 hbx hbl0;refine rangeStr.wpIn_rangeFunc_str (gf:=358) (lb:= #[.pointer (some ⟨w1.heap.size+1,0,none⟩)]) rfl (enters_of func358 (by kernel_rfl) rfl) hIt
  (fun x args W hr=>by rw[show args= #[.string x] from hr];rfl) (fun x args X Y hr _=>hr)
  (EncI w w1.heap.size) (fun q X Y hq hsz ha=>?_) hI0
  (fun args=>{ tmps:= #[.string s,undef,.string ⟨#[]⟩,.int .i64 0,.pointer (some ⟨w1.heap.size,0,none⟩),args.getD 0 undef,.bool false,.string s,.int .i64 (s.size:Int),.bool false,.bool false,.string s,.string t,.bool false,.string s,
   .func (.func 358) #[] #[.pointer (some ⟨w1.heap.size+1,0,none⟩)],args.getD 0 undef,undef,undef,undef],defers:=[] })
  ?assign ?body ?done;{refine⟨hq.bld.moved (fun k o ho hc=>ha.cells k o (fun h=>h) ho hc),⟨ha.os.trans hq.below.os,ha.tape.trans hq.below.tape,ha.output.trans hq.below.output,Nat.le_trans hq.below.size ha.size,fun k hk=>(ha.low k (by omega) (fun h=>h)).trans (hq.below.block k hk)⟩,hq.le,Nat.lt_of_lt_of_le hq.lt ha.size⟩};case assign=>intro l x args W K hr hK;obtain rfl:args= #[.string x]:=hr;simp only[Array.getD,List.size_toArray,List.length_cons,List.length_nil,Nat.zero_add,Nat.lt_add_one,dite_true,List.getElem_toArray,List.getElem_cons_zero,Array.getInternal_eq_getElem]at hK;gi_wp2;exact hK
 case body=>(
 intro l pre x args W hsz hI hr hpre;obtain rfl:args= #[.string x]:=hr;have hx2:x.size=2:=outsL_mem _ _ x (hpre.subset (by simp));have hpl:(pre.flatMap bs).length<=1000000:=by obtain⟨rest,hrest⟩:=hpre;have h1:=outsL_flat (u++[0,0]) 0;rw[<-hrest,List.flatMap_append,List.flatMap_append]at h1;have h2:=congrArg List.length h1;rw[List.length_append,List.length_append,cenc_len,List.length_append,<-bitsS_len u,<-Hs.out,bs_len,Hz.out]at h2;simp only[List.length_cons,List.length_nil]at h2;omega
 have hc0:∃v0 v1,W.heap[w1.heap.size]?=some (.cells #[v0,v1] 135 (0,0)):=by rcases hI.bld with⟨_,v,hb,_⟩|⟨_,v,hb,_⟩;{exact⟨_,_,hb⟩};{exact⟨_,_,hb⟩}
 have Hws:=zY (wsk_any W w1.heap.size w1.heap.size (pre.flatMap bs) x hI.bld hpl (by omega) (Nat.le_of_lt hI.lt));have HI:=zY hI;clear hI hpl hpre hIt hb0 Hb1 ht1 ht2 hI0;simp only[Array.getD,List.size_toArray,List.length_cons,List.length_nil,Nat.zero_add,Nat.lt_add_one,dite_true,List.getElem_toArray,List.getElem_cons_zero,Array.getInternal_eq_getElem];gi_wp2_with fail;refine⟨trivial,rfl,(CallsIn.inRound l (callsIn_wide.2 Hws.out)).mono ?_⟩;rintro e w2 ⟨rfl,hbl,hbw,hk⟩;gi_wp2;refine⟨⟨hbw.size,fun k o hko hor=>hk k o hko ?_ ?_⟩,by rw[List.flatMap_append];simpa using hbl,HI.below.trans (hbw.mono HI.le),HI.le,Nat.lt_of_lt_of_le HI.lt hbw.size⟩;{
 intro e;obtain⟨v0,v1,hc⟩:=hc0;cases e;rw[hc]at hko;cases hko;rcases hor with h|h;{cases h};{exact h}};{
 intro c fz e;subst e;rcases hor with h|h;{cases h};{exact h}})
 case done=>
 intro D W hD hI hk;have hby:Bytes (cenc 0 (u++[0,0])):=fun c hc=>by
  have h1:=outsL_flat (u++[0,0]) 0
  rw[<-h1]at hc
  obtain⟨y,_,hy⟩:=List.mem_flatMap.1 hc
  exact bs_lt y c hy
 have hbl:=hI.bld;rw[outsL_flat]at hbl;have Hst:=zY (strk_any W w1.heap.size w1.heap.size _ hby hbl (Nat.le_of_lt hI.lt));have HI:=zY hI;have Hk:=zY hk;clear hI hbl hby hk hI0 hIt hb0 ht1 ht2;gi_wp2_with fail;refine⟨trivial,rfl,(callsIn_wide.2 Hst.out).mono ?_⟩;rintro e w3 ⟨rfl,hb3,hk3⟩;have hk4:w3.heap[D]?=some (.deferred (some [])):=hk3 D _ Hk.out (fun e=>by cases e;omega) (fun c fz e=>by cases e);have HB3:=zY (HI.below.trans (hb3.mono HI.le));clear hb3 hk3;gi_wp2;refine⟨by simp,.inl ⟨_,_,rfl,run_takeDeferred hk4,_,results_tmp2 rfl _ _ _,rfl,?_⟩⟩;exact⟨HB3.os,HB3.tape,HB3.output,Nat.le_trans HB3.size (by simp),fun k hk2=>(World.putObj_heap_other (by omega)).trans (HB3.block k hk2)⟩
end
section
open Go.ChangeShapes Go.WideShapes Go.ChangeAt Go.RowKit Go.Deep
theorem cellsBat:prog.cellsOf 88=2:=by kernel_rfl
theorem cellsCha:prog.cellsOf 91=5:=by kernel_rfl
theorem cellsAtr:prog.cellsOf 93=2:=by kernel_rfl
theorem cellsAtrs:prog.cellsOf 89=1:=by kernel_rfl
theorem cellsChas:prog.cellsOf 86=1:=by kernel_rfl
instance:Inhabited Atr:=⟨⟨⟨#[]⟩,⟨#[]⟩⟩⟩
instance:Inhabited Cha:=⟨⟨0,⟨#[]⟩,[],⟨#[]⟩,⟨#[]⟩⟩⟩
instance:Inhabited Bat:=⟨⟨0,[]⟩⟩
theorem list5 {α:Type} {l:List α} (h:l.length=5):∃c0 c1 c2 c3 c4,l=[c0,c1,c2,c3,c4]:=by
 match l,h with
 |[c0,c1,c2,c3,c4],_=>exact⟨c0,c1,c2,c3,c4,rfl⟩
theorem list2 {α:Type} {l:List α} (h:l.length=2):∃c0 c1,l=[c0,c1]:=by
 match l,h with
 |[c0,c1],_=>exact⟨c0,c1,rfl⟩
section
variable {H:Type} {enc:TypeId×Value->H} {w:World}
theorem seq_of {α:Type} [Inhabited α] {ρ:Shape α} {TS T:TypeId} (hu:prog.underlying TS=some (.slice T)) (hc:prog.cellsOf T=ρ.n) (hn:0<ρ.n)
  (hcell:∀{fuel:Nat} {cs:List Value} {y:DataW H×List MemPlace},cs.length=ρ.n->DataW.trod enc prog w 0 (fun _=>true) true fuel T cs=some y->∃x,ρ.R w cs x)
  {fuel:Nat} {c:Value} {y:DataW H×List MemPlace} (hf:DataW.trod enc prog w 0 (fun _=>true) true fuel TS [c]=some y):∃xs,SeqAt ρ w c xs:=by
 rcases open_slice hu hf with⟨hcs,_⟩|⟨a,len,cap,m,n,D,Pl,hcs,_,hl,hm,hmm,_,hx⟩;{
 simp only[List.cons.injEq,and_true]at hcs;subst hcs;exact⟨[],SeqAt.nil _⟩};{
 simp only[List.cons.injEq,and_true]at hcs;have hmc:m=cap:=by simpa using hmm
 rw[hc]at hx;obtain⟨F,hF⟩:=choose_lt (α:=α) (n:=len) (p:=fun i x=>∃cs,ρ.R w cs x/\∀j u,cs[j]?=some u->w.cell? ((a.add (i*ρ.n)).add j)=some u) fun i hi=>by
  obtain⟨cs',hcc,ht⟩:=hx i (by omega)
  obtain⟨_,hcl,hat⟩:=World.cells?_some hcc
  obtain⟨x,hr⟩:=hcell hcl ht
  exact⟨x,cs',hr,fun j u hu=>by
   have hj:j<ρ.n:=by
    have:=(List.getElem?_eq_some_iff.1 hu).1
    rwa [hcl]at this
   rw[hat j hj,hu]⟩
 obtain⟨b,o,spt⟩:=a;refine⟨(List.range len).map F,some ⟨b,o,spt⟩,cap,by simpa using hcs,by simpa using hl,by unfold maxLen at hm;omega,fun i x hi=>?_⟩;rw[List.getElem?_map]at hi;obtain⟨j,hj,rfl⟩:=Option.map_eq_some_iff.1 hi;obtain⟨h1,h2⟩:=List.getElem?_eq_some_iff.1 hj;simp at h1 h2;subst h2;obtain⟨cs,hr,hcs2⟩:=hF i h1;have hspot:spt=none:=by{
 obtain⟨cs0,hr0,hc0⟩:=hF 0 (by omega);have h0:0<cs0.length:=by rw[ρ.len hr0];exact hn
 have h3:=hc0 0 _ (List.getElem?_eq_getElem h0);simpa [Addr.add]using World.cell?_spot h3};subst hspot;exact⟨b,o,cs,rfl,hr,fun j u hu=>by
  have h:=hcs2 j u hu
  rwa [Addr.add_lit,Addr.add_lit]at h⟩}
theorem atr_cells {fuel:Nat} {cs:List Value} {y:DataW H×List MemPlace} (hl:cs.length=2) (hf:DataW.trod enc prog w 0 (fun _=>true) true fuel 93 cs=some y):∃x:Atr,atrS.R w cs x:=by
 obtain⟨c0,c1,rfl⟩:=list2 hl;obtain⟨xs,n,_,_,_,hlen,hfs⟩:=DataW.trod_struct underlying93 hf;obtain⟨y0,y1,rfl⟩:=list2 (l:=xs) hlen;have f0:DataW.trod enc prog w 0 (fun _=>true) true n 9 (([c0,c1].drop 0).take (prog.cellsOf 9))=some y0:=hfs 0 _ rfl;have f1:DataW.trod enc prog w 0 (fun _=>true) true n 9 (([c0,c1].drop 1).take (prog.cellsOf 9))=some y1:=hfs 1 _ rfl;rw[cellsS]at f0 f1;replace f0:DataW.trod enc prog w 0 (fun _=>true) true n 9 [c0]=some y0:=f0;replace f1:DataW.trod enc prog w 0 (fun _=>true) true n 9 [c1]=some y1:=f1;obtain⟨k,e0,_,_⟩:=DataW.trod_string underlying9 f0;obtain⟨v,e1,_,_⟩:=DataW.trod_string underlying9 f1;have h0:c0=.string k:=by simpa [Value.cells]using e0
 have h1:c1=.string v:=by simpa [Value.cells]using e1
 subst h0 h1;exact⟨⟨k,v⟩,rfl⟩
theorem cha_cells {fuel:Nat} {cs:List Value} {y:DataW H×List MemPlace} (hl:cs.length=5) (hf:DataW.trod enc prog w 0 (fun _=>true) true fuel 91 cs=some y):∃x:Cha,chaS.R w cs x:=by
 obtain⟨c0,c1,c2,c3,c4,rfl⟩:=list5 hl;obtain⟨xs,n,_,_,_,hlen,hfs⟩:=DataW.trod_struct underlying91 hf;obtain⟨y0,y1,y2,y3,y4,rfl⟩:=list5 (l:=xs) hlen;have f0:DataW.trod enc prog w 0 (fun _=>true) true n 3 (([c0,c1,c2,c3,c4].drop 0).take (prog.cellsOf 3))=some y0:=hfs 0 _ rfl;have f1:DataW.trod enc prog w 0 (fun _=>true) true n 9 (([c0,c1,c2,c3,c4].drop 1).take (prog.cellsOf 9))=some y1:=hfs 1 _ rfl;have f2:DataW.trod enc prog w 0 (fun _=>true) true n 89 (([c0,c1,c2,c3,c4].drop 2).take (prog.cellsOf 89))=some y2:=hfs 2 _ rfl;have f3:DataW.trod enc prog w 0 (fun _=>true) true n 9 (([c0,c1,c2,c3,c4].drop 3).take (prog.cellsOf 9))=some y3:=hfs 3 _ rfl;have f4:DataW.trod enc prog w 0 (fun _=>true) true n 9 (([c0,c1,c2,c3,c4].drop 4).take (prog.cellsOf 9))=some y4:=hfs 4 _ rfl;rw[cellsI]at f0;rw[cellsS]at f1 f3 f4;rw[cellsAtrs]at f2;replace f0:DataW.trod enc prog w 0 (fun _=>true) true n 3 [c0]=some y0:=f0;replace f1:DataW.trod enc prog w 0 (fun _=>true) true n 9 [c1]=some y1:=f1;replace f2:DataW.trod enc prog w 0 (fun _=>true) true n 89 [c2]=some y2:=f2;replace f3:DataW.trod enc prog w 0 (fun _=>true) true n 9 [c3]=some y3:=f3;replace f4:DataW.trod enc prog w 0 (fun _=>true) true n 9 [c4]=some y4:=f4;obtain⟨k0,e0,_,_⟩:=DataW.trod_int underlying3 f0;obtain⟨k1,e1,_,_⟩:=DataW.trod_string underlying9 f1;obtain⟨al,h2⟩:=seq_of (ρ:=atrS) underlying89 cellsAtr (by decide) atr_cells f2;obtain⟨k3,e3,_,_⟩:=DataW.trod_string underlying9 f3;obtain⟨k4,e4,_,_⟩:=DataW.trod_string underlying9 f4;have h0:c0=.int .i64 k0:=by simpa [Value.cells]using e0
 have h1:c1=.string k1:=by simpa [Value.cells]using e1
 have h3:c3=.string k3:=by simpa [Value.cells]using e3
 have h4:c4=.string k4:=by simpa [Value.cells]using e4
 subst h0 h1 h3 h4;exact⟨⟨k0,k1,al,k3,k4⟩,c2,rfl,h2⟩
theorem bat_cells {fuel:Nat} {cs:List Value} {y:DataW H×List MemPlace} (hl:cs.length=2) (hf:DataW.trod enc prog w 0 (fun _=>true) true fuel 88 cs=some y):∃x:Bat,batS.R w cs x:=by
 obtain⟨c0,c1,rfl⟩:=list2 hl;obtain⟨xs,n,_,_,_,hlen,hfs⟩:=DataW.trod_struct underlying88 hf;obtain⟨y0,y1,rfl⟩:=list2 (l:=xs) hlen;have f0:DataW.trod enc prog w 0 (fun _=>true) true n 3 (([c0,c1].drop 0).take (prog.cellsOf 3))=some y0:=hfs 0 _ rfl;have f1:DataW.trod enc prog w 0 (fun _=>true) true n 86 (([c0,c1].drop 1).take (prog.cellsOf 86))=some y1:=hfs 1 _ rfl;rw[cellsI]at f0;rw[cellsChas]at f1;replace f0:DataW.trod enc prog w 0 (fun _=>true) true n 3 [c0]=some y0:=f0;replace f1:DataW.trod enc prog w 0 (fun _=>true) true n 86 [c1]=some y1:=f1;obtain⟨k0,e0,_,_⟩:=DataW.trod_int underlying3 f0;obtain⟨cs',h1⟩:=seq_of (ρ:=chaS) underlying86 cellsCha (by decide) cha_cells f1;have h0:c0=.int .i64 k0:=by simpa [Value.cells]using e0
 subst h0;exact⟨⟨k0,cs'⟩,c1,rfl,h1⟩
theorem open_bats {v:Value} {d:DataW H} {p:List MemPlace} {b0:Nat} (hv:Value.okWide prog w .any b0 22 v) (h:DataW.Trod enc prog w 0 (fun _=>true) true 22 v d p):∃l,SeqAt batS w v l:=by
 obtain⟨a0,len0,cap0,rfl⟩:=okWide_slice underlying22 hv;obtain⟨fuel,hf⟩:=h;exact seq_of (ρ:=batS) underlying22 cellsBat (by decide) bat_cells (by simpa [Value.cells]using hf)
theorem open_layout {v:Value} {d:DataW H} {p:List MemPlace} {b0:Nat} (hval:Value.okWide prog w .any b0 24 v) (hd:DataW.Trod enc prog w 0 (fun _=>true) true 24 v d p):
  ∃a b:Int,v=.agg #[.int .i64 a,.int .i64 b]:=by
 obtain⟨⟨cs⟩,rfl,hsz⟩:=okWide_struct underlying24 hval;rw[cellsL]at hsz;obtain⟨c0,c1,rfl⟩:=list2 hsz;obtain⟨fuel,hf⟩:=hd;obtain⟨z0,z1,m,_,_,g0,g1⟩:=trod_struct2 underlying24 hf;replace g0:DataW.trod enc prog w 0 (fun _=>true) true m 3 (([c0,c1].drop 0).take (prog.cellsOf 3))=some z0:=g0;replace g1:DataW.trod enc prog w 0 (fun _=>true) true m 3 (([c0,c1].drop 1).take (prog.cellsOf 3))=some z1:=g1;rw[cellsI]at g0 g1;replace g0:DataW.trod enc prog w 0 (fun _=>true) true m 3 [c0]=some z0:=g0;replace g1:DataW.trod enc prog w 0 (fun _=>true) true m 3 [c1]=some z1:=g1;obtain⟨k0,e0,_,_⟩:=DataW.trod_int underlying3 g0;obtain⟨k1,e1,_,_⟩:=DataW.trod_int underlying3 g1;have h0:c0=.int .i64 k0:=by simpa [Value.cells]using e0
 have h1:c1=.int .i64 k1:=by simpa [Value.cells]using e1
 subst h0 h1;exact⟨k0,k1,rfl⟩
end
theorem tab_of {W : World} {L : List (String × DataW Unit)} (hL : laidMetH prog L W) (hk : (L.filter fun x => x.1 == "internal/strconv.uint64pow10") = [("internal/strconv.uint64pow10", Lib.tabData .u64 Lib.pow10Tab)]) (hsh : W.ShapedOpen prog) : Tab W := by
 have h1 := hL.filter fun x => x.1 == "internal/strconv.uint64pow10";rw[hk,MakeChecks.laidMetH_plain _ _ _ (by kernel_rfl)]at h1;refine⟨?_,?_⟩;{exact Lib.tabIs_of_head (g:=0) (t:=356) (e:=211) (n:=20) (by kernel_rfl) (by kernel_rfl) underlying356 underlying211 (by kernel_rfl) (by kernel_rfl) h1};{
 exact cell_of_shapedOpen_int (P:=prog) (g:=1) (t:=3) (zero:= #[.int .i64 0]) hsh (of_decide_eq_true (by kernel_rfl)) (by kernel_rfl) rfl (by kernel_rfl) (by kernel_rfl) underlying3}
theorem returns_shaped {H:Type} {enc:TypeId×Value->H} {a:Assume} {C:Checked} {os:Os} {f:FuncId} {fn:Func} {s:ChangeSpec} {conds:List PathCond} {apart fresh handsOn again:Bool} {X:World->Array Value->Prop}
  (hX:∀(w w':World) (args:Array Value),w.heap=w'.heap->X w args->X w' args)
  (own:ownKnob C.prog.godebug=none) (started:os.Started) (noInit:C.prog.inits.idxOf? f=none) (hfn:C.prog.funcs[f]?=some fn)
  (witness:∃(w:World) (tape:Tape) (i:Input),w.os=os/\(w.forCall tape i).Shaped C.prog/\i.vars=[]/\Input.okWide C.prog (w.forCall tape i) .any w.heap.size f i /\
   ((s.pre enc C.prog fn conds apart (w.forCall tape i).memory i.args/\X (w.forCall tape i).memory i.args)/\sizedMet enc C.prog fn (OpenSpec.ofChange s) apart (w.forCall tape i).memory i.args)/\a.holds C.prog (lone (Frame.enter C.prog f i.args .normal) [] (w.forCall tape i)))
  (contract:∀(W:World) (base:Nat) (args:Array Value) (ds gs:List (DataW H)) (before:List MemPlace),
   (∀(j:Nat) t v,fn.params[j]?=some t->args[j]?=some v->Value.okWide C.prog W .any base t v) ->
   DataW.Whole enc C.prog fn.params.toList s.vars apart W args.toList ds gs before ->
   conds.all (PathCond.test C.prog ⟨fn.params.toList,ds,s.plain.varTypes C.prog,gs⟩)=true ->
   (DataW.weightsEach C.prog (fn.params.toList++s.plain.varTypes C.prog) (ds++gs)).all (· <= reachBytes)=true->X W args->W.ShapedOpen C.prog ->
   a.holds C.prog (lone (Frame.enter C.prog f args .normal) [] W) ->
   Calls C.prog f args W fun e W'=>∃v,e=.returned v/\s.post enc C.prog fn apart fresh handsOn again W args v W'):
  ReturnsInHanded a C os f .any (fun w args=>(s.pre enc C.prog fn conds apart w args/\X w args)/\sizedMet enc C.prog fn (OpenSpec.ofChange s) apart w args) (s.post enc C.prog fn apart fresh handsOn again):=by
 refine returnsInHanded_of_calls own started noInit witness ?_;intro w tape i _ hsh _ hok hpre hholds;obtain⟨_,_,_,fn',hfn',_,_,_,_,hval⟩:=hok;have e:fn'=fn:=Option.some.inj (hfn'.symm.trans hfn);subst e;obtain⟨⟨⟨ds,gs,before,hw,hc⟩,hx⟩,hz⟩:=hpre;have hw':=DataW.Whole.of_heap (w':=w.forCall tape i) (by rfl) hw;refine(contract (w.forCall tape i) w.heap.size i.args ds gs before hval hw' hc (hz.weights hw) (hX _ _ _ (by rfl) hx) hsh hholds).mono fun e W' ⟨v,he,hp⟩=>?_;subst he;exact ChangeSpec.post_blind hp
end
end Go.Proofs.YthgenkkkapilhaaGreatDoor