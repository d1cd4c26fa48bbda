/-
  Joined: VrQ FrE FrN FrBz RangeOwnz EncCz SgJ LvsB.
-/
import Derived.Test.YthgenkkkapilhaaGreatDoorVSn30
import Derived.Test.YthgenkkkapilhaaGreatDoorVSn32
set_option linter.all false
set_option maxRecDepth 100000
set_option maxHeartbeats 64000000
namespace Go.Proofs.YthgenkkkapilhaaGreatDoor
section
open Go.RowKit
structure Pln where
 a:Nat
 i:Nat
 t:Nat
 x:ByteArray
def Pln.cells (p:Pln):List Value:=[.int .u32 (p.a:Int),.int .i64 (p.i:Int),.int .i64 (p.t:Int),.string p.x]
def plnS:Shape Pln where
 n:=4
 R _ cs f:=cs=f.cells
 len h:=by rw[h];rfl
 one h u hu:=by
  rw[h]at hu
  simp only[Pln.cells,List.mem_cons,List.not_mem_nil,or_false]at hu
  rcases hu with rfl|rfl|rfl|rfl<;>rfl
 keep h _:=h
theorem flatP:Flat plnS:=fun _ _ _ _ h=>h
theorem Tryz.elemPln:Elem Tryz.prog 59 124 4 40 (.agg #[.int .u32 0,.int .i64 0,.int .i64 0,.string ⟨#[]⟩]):=⟨Tryz.underlying59,by kernel_rfl,rfl,by decide,by decide⟩
def plnT (s:ByteArray):Nat:=(s.size+63)/64
def padS (s:ByteArray):ByteArray:=s++strB (List.replicate (64*plnT s-s.size) 32)
def plnAt (a:Nat) (s:ByteArray) (i:Nat):Pln:=⟨a,i,plnT s,(padS s).extract (64*i) (64*i+64)⟩
def plnsL (a:Nat) (s:ByteArray):List Pln:=(List.range (plnT s)).map (plnAt a s)
def splitE (s:ByteArray):Int:=if 40000<s.size then 6 else if prtL (bs s)=false then 3 else 0
def splitR (a:Nat) (s:ByteArray):List Pln:=if splitE s=0 then plnsL a s else []
theorem padS_size (s:ByteArray):(padS s).size=64*plnT s:=by
 rw[padS,ByteArray.size_append,strB_size,List.length_replicate]
 unfold plnT
 omega
theorem plsplit_any (w:World) (s:ByteArray) (a:Nat) (hs:s.size<=1000000):Calls Tryz.prog 23 #[.string s,.int .u32 (a:Int)] w fun e w'=>(∃v,e=.returned (.tuple #[v,.int .i64 (splitE s)])/\OwnSeq plnS 124 w w' v (splitR a s))/\Below w.heap.size w w':=by
 have HP:=zY (fun W=>printable_any W s hs)
 obtain⟨n,hn⟩:=zNm (s.size)
 have hnI:(s.size:Int)=n:=by omega
 by_cases h1:40000<n
 {
 have h1I:(40000:Int)<n:=by omega
 have he:splitE s=6:=by rw[splitE,if_pos (by omega)]
 have HR:Hid (splitR a s=[]):=zY (by rw[splitR,if_neg (by rw[he];decide)])
 rw[he]
 clear hn he
 go_enter Tryz.func23,Tryz.ntmps23
 go_wp2
 go_ret2
 exact⟨⟨_,rfl,by rw[HR.out];exact OwnSeq.nil _⟩,Below.refl _ _⟩}
 {
 have h1I:¬(40000:Int)<n:=by omega
 obtain⟨b,hb⟩:=zNm (prtL (bs s))
 rw[hb]at HP
 cases b with
 |false=>
  have he:splitE s=3:=by rw[splitE,if_neg (by omega),if_pos hb]
  have HR:Hid (splitR a s=[]):=zY (by rw[splitR,if_neg (by rw[he];decide)])
  rw[he]
  clear hn he hb
  go_enter Tryz.func23,Tryz.ntmps23
  go_wp2_with fail
  refine(HP.out _).mono ?_
  rintro e1 w1 ⟨rfl,rfl⟩
  go_wp2
  go_ret2
  exact⟨⟨_,rfl,by rw[HR.out];exact OwnSeq.nil _⟩,Below.refl _ _⟩
 |true=>
  have he:splitE s=0:=by rw[splitE,if_neg (by omega),if_neg (by rw[hb];decide)]
  obtain⟨t,ht⟩:=zNm (plnT s)
  have htn:t=(n+63)/64:=by rw[<-ht,plnT,hn]
  obtain⟨z,hz⟩:=zNm (64*t-n)
  have HR:Hid (splitR a s=(List.range t).map (plnAt a s)):=zY (by rw[splitR,if_pos he,plnsL,ht])
  have HR2:=zY (fun W=>repeat_any W 32 z (by omega))
  have hcI:((32:UInt8).toNat)=32:=rfl
  rw[hcI]at HR2
  obtain⟨X,hX⟩:=zNm (padS s)
  obtain⟨Z,hZ⟩:=zNm (strB (List.replicate z 32))
  have hZz:Z.size=z:=by rw[<-hZ,strB_size,List.length_replicate]
  have hXz:X.size=64*t:=by rw[<-hX,padS_size,ht]
  have HX:Hid (s++Z=X):=zY (by rw[<-hX,padS,ht,hn,hz,hZ])
  have HA:Hid (∀i,plnAt a s i=⟨a,i,t,X.extract (64*i) (64*i+64)⟩):=zY (fun i=>by rw[plnAt,ht,hX])
  rw[hZ]at HR2
  have hcc:¬9223372036854775807<s.size+Z.size:=by omega
  have g1:IntKind.i64.wrap ((n:Int)+64)=(n:Int)+64:=zIw (by omega)
  have g2:IntKind.i64.wrap ((n:Int)+64-1)=(n:Int)+63:=by rw[show (n:Int)+64-1=n+63 by omega];exact zIw (by omega)
  have g3:((n:Int)+63)/64=t:=by omega
  have g4:IntKind.i64.wrap (t:Int)=t:=zIw (by omega)
  have g5:IntKind.i64.wrap ((t:Int)*64)=(t:Int)*64:=zIw (by omega)
  have g6:IntKind.i64.wrap ((t:Int)*64-n)=z:=by rw[show (t:Int)*64-n=z by omega];exact zIw (by omega)
  have ht1:t<=626:=by omega
  have hXzI:(X.size:Int)=64*(t:Int):=by omega
  have HXz:=zY hXz
  rw[he]
  clear hb he hn ht htn hz hX hZ hZz hcI hXz
  go_enter Tryz.func23,Tryz.ntmps23
  go_wp2_with fail
  refine(HP.out _).mono ?_
  rintro e1 w1 ⟨rfl,rfl⟩
  go_upto_region 6 with fail
  go_wp2_with fail
  refine(HR2.out _).mono ?_
  rintro e2 w2 ⟨rfl,hb2⟩
  have HB2:=zY hb2
  clear hb2
  go_upto_region 7 with fail
  rw[HX.out]
  clear hcc g1 g2 g3 g5 g6 HP HR2
  go_wp2
  go_loopw [7,31] (fun y x wr=>∃i:Nat,i<=t/\x=.int .i64 (i:Int)/\OwnSeq plnS 124 w2 wr y ((List.range i).map (plnAt a s))/\Below w2.heap.size w2 wr) (fun _ x _=>t-(intOf x).toNat)
  case atStart=>exact⟨0,by omega,rfl,OwnSeq.nil _,Below.refl _ _⟩
  case round=>
   obtain⟨i,hi,rfl,ho,hB⟩:=hrel
   have HO:=zY ho
   have HB:=zY hB
   obtain⟨Ao,co,rfl⟩:=ho.slice
   clear ho hB
   by_cases h:i<t
   {
   have hiI:(i:Int)<t:=by omega
   obtain⟨q,hq⟩:=zNm (64*i)
   have hqI:(i:Int)*64=q:=by omega
   have hqw:IntKind.i64.wrap ((i:Int)*64)=q:=by rw[hqI];exact zIw (by omega)
   have hi1:IntKind.i64.wrap ((i:Int)+1)=(i:Int)+1:=zIw (by omega)
   have hq2:IntKind.i64.wrap (((i:Int)+1)*64)=((q+64:Nat):Int):=by rw[show ((i:Int)+1)*64=((q+64:Nat):Int) by omega];exact zIw (by omega)
   have hq3:q+64<=X.size:=by have:=HXz.out;omega
   have hq4:((q+64:Nat):Int)<=X.size:=by omega
   have hq5:(q:Int)<=((q+64:Nat):Int):=by omega
   have hq0:(0:Int)<=q:=by omega
   obtain⟨T,hT⟩:=zNm (X.extract q (q+64))
   have HF:Hid ((List.range (i+1)).map (plnAt a s)=(List.range i).map (plnAt a s)++[⟨a,i,t,T⟩]):=zY (by rw[List.range_succ,List.map_append,List.map_singleton,HA.out,hq,hT])
   have Hl1:Hid (((List.range i).map (plnAt a s)).length+1<=100000000):=zY (by simp;omega)
   generalize hno:((List.range i).map (plnAt a s)).length=no at *
   have Hno:=zY hno
   have Hl1:Hid (((List.range i).map (plnAt a s)).length+1<=100000000):=zY (by rw[hno];exact Hl1.out)
   have HX1:Hid (SrcAt plnS w2 (wr.alloc (.cells (Pln.cells ⟨a,i,t,T⟩).toArray 124)) (.slice (some ⟨wr.heap.size,0,none⟩) 1 1) [⟨a,i,t,T⟩]):=zY (src1 (ρ:=plnS) (wr:=wr) (Pln.cells ⟨a,i,t,T⟩) ⟨a,i,t,T⟩ rfl rfl)
   have HO1:=zY (HO.out.alloc (.cells (Pln.cells ⟨a,i,t,T⟩).toArray 124))
   have HB1:=zY (HB.out.alloc HB.out.size (.cells (Pln.cells ⟨a,i,t,T⟩).toArray 124))
   clear hno hq
   go_wp2_with (at_builtin;refine append_seq (w0:=w2) Tryz.elemPln rfl _ _ rfl rfl HO1.out rfl HX1.out Hl1.out HB1.out ?_;intro vb w6 hob _ hbb;have KV:=zY hob;have KC:=zY hbb;clear hob hbb)
   go_roundw
   case rel=>exact⟨i+1,by omega,by go_num,by rw[HF.out];exact KV.out,KC.out⟩
   case measure=>simp[intOf];omega}
   {
   obtain rfl:i=t:=by omega
   have hiI:¬((i:Nat):Int)<(i:Int):=by omega
   have hlen:((List.range i).map (plnAt a s)).length=i:=by simp
   rw[hlen]at HO
   clear hlen
   go_wp2
   go_ret2
   exact⟨⟨_,rfl,by rw[HR.out];exact HO.out.low flatP HB2.out.size⟩,HB2.out.trans (HB.out.mono HB2.out.size)⟩}}
abbrev Box9 (W:World) (H:Nat) (c0 c1 c2 c3 c4 c5 c6 c7 c8:Value):Prop:=W.cell? ⟨H,0,none⟩=some c0/\W.cell? ⟨H,1,none⟩=some c1/\W.cell? ⟨H,2,none⟩=some c2/\W.cell? ⟨H,3,none⟩=some c3/\W.cell? ⟨H,4,none⟩=some c4/\W.cell? ⟨H,5,none⟩=some c5/\W.cell? ⟨H,6,none⟩=some c6/\W.cell? ⟨H,7,none⟩=some c7/\W.cell? ⟨H,8,none⟩=some c8
theorem Box9.keep {A B:World} {H:Nat} {c0 c1 c2 c3 c4 c5 c6 c7 c8:Value} (h:Box9 A H c0 c1 c2 c3 c4 c5 c6 c7 c8) (hb:Below A.heap.size A B):Box9 B H c0 c1 c2 c3 c4 c5 c6 c7 c8:=by
 obtain⟨h0,h1,h2,h3,h4,h5,h6,h7,h8⟩:=h
 exact⟨cell_below hb h0,cell_below hb h1,cell_below hb h2,cell_below hb h3,cell_below hb h4,cell_below hb h5,cell_below hb h6,cell_below hb h7,cell_below hb h8⟩
theorem Box9.drw {A:World} {H:Nat} {c0 c1 c2 c3 c4 c5 c6 c7 c8:Value} (h:Box9 A H c0 c1 c2 c3 c4 c5 c6 c7 c8):Box9 A.drew H c0 c1 c2 c3 c4 c5 c6 c7 c8:=h
theorem Box9.blk {W:World} {g:Nat} {t:TypeId} {c0 c1 c2 c3 c4 c5 c6 c7 c8:Value} (h:Blk W g t [c0,c1,c2,c3,c4,c5,c6,c7,c8]):Box9 W g c0 c1 c2 c3 c4 c5 c6 c7 c8:=
 ⟨h.c 0,h.c 1,h.c 2,h.c 3,h.c 4,h.c 5,h.c 6,h.c 7,h.c 8⟩
def msgL (k r s i l d p a:Nat) (t:ByteArray):List Nat:=beL k 1++beL r 1++beL s 2++beL i 2++beL l 1++beL (16*d+p) 1++beL a 4++bs t
def marL (k r s i l d p a:Nat) (t:ByteArray):List Nat:=msgL k r s i l d p a t++be4 (sumL [strB (msgL k r s i l d p a t)])
def marR (k r s i l d p a:Int) (t:ByteArray):Value:=
 if frE k r s i l d p t≠0 then .tuple #[.string ⟨#[]⟩,.int .i64 (frE k r s i l d p t)] else .tuple #[.string (strB (marL k.toNat r.toNat s.toNat i.toNat l.toNat d.toNat p.toNat a.toNat t)),.int .i64 0]
theorem frE_ok {k r s i l d p:Int} {t:ByteArray} (h:frE k r s i l d p t=0):
  (k=66∨k=68)/\(1<=d/\d<=8)/\(0<=p/\p<=7)/\(0<=r/\r<=d+p-1)/\(1<=s/\s<=255)/\(0<=i/\i<=65535)/\(0<=l/\l<=28)/\t.size=28:=by
 unfold frE inR at h
 split at h
 ·cases h
 {
 split at h
 ·cases h
 {
 split at h
 ·cases h
 {
 split at h
 ·cases h
 {
 next h1 h2 h3 h4=>
 simp only[Bool.and_eq_true,Bool.or_eq_true,bne_iff_ne,ne_eq,Bool.not_eq_true',Bool.and_eq_false_imp,decide_eq_true_eq,decide_eq_false_iff_not,not_and,not_or,Decidable.not_not]at h1 h2 h3 h4
 refine⟨by omega,by omega,by omega,by omega,by omega,by omega,by omega,by omega⟩
}}}}
def hdrL (k r s i l d p a:Nat):List Nat:=[k,r,s/256,s%256,i/256,i%256,l,16*d+p,a/16777216,a/65536%256,a/256%256,a%256]
theorem hdr_msg (k r s i l d p a:Nat) (t:ByteArray) (hk:k<256) (hr:r<256) (hs:s<256) (hi:i<65536) (hl:l<256) (hd:16*d+p<256) (ha:a<4294967296):
  hdrL k r s i l d p a++bs t=msgL k r s i l d p a t:=by
 have e1:∀n,n<256->beL n 1=[n]:=fun n hn=>by simp[beL];omega
 have e2:∀n,n<65536->beL n 2=[n/256,n%256]:=fun n hn=>by simp[beL];omega
 have e4:beL a 4=[a/16777216,a/65536%256,a/256%256,a%256]:=by simp[beL];omega
 unfold msgL hdrL
 rw[e1 k hk,e1 r hr,e2 s (by omega),e2 i hi,e1 l hl,e1 _ hd,e4]
 simp
theorem hdr_bytes (k r s i l d p a:Nat) (hk:k<256) (hr:r<256) (hs:s<256) (hi:i<65536) (hl:l<256) (hd:16*d+p<256) (ha:a<4294967296):Bytes (hdrL k r s i l d p a):=by
 intro x hx
 unfold hdrL at hx
 simp only[List.mem_cons,List.not_mem_nil,or_false]at hx
 omega
def bitU (l:List Nat):List Nat:=(frmB l).map (· - 48)
theorem bitU_bits (l:List Nat):Bits (bitU l):=by
 intro x hx
 obtain⟨c,hc,rfl⟩:=List.mem_map.1 hx
 rcases frmB_01 l c hc with rfl|rfl<;>decide
theorem bitsS_bitU (l:List Nat):bitsS (bitU l)=frmB l:=by
 unfold bitsS bitU
 rw[List.map_map]
 conv=>rhs;rw[<-List.map_id (frmB l)]
 refine List.map_congr_left fun c hc=>?_
 rcases frmB_01 l c hc with rfl|rfl<;>rfl
theorem bitU_len (l:List Nat):(bitU l).length=8*l.length:=by unfold bitU;rw[List.length_map,frmB_len]
def cellL (m:List Nat):List Nat:=cenc 0 (bitU (rsEnc m)++[0,0])
def bodyL (m:List Nat):List Nat:=interL (cellL m)
theorem rsEnc_ok {m:List Nat} (hm:Bytes m) (hl:m.length=44):(rsEnc m).length=52/\Bytes (rsEnc m):=by
 obtain⟨h1,h2,_⟩:=rsPar_inv m hm
 unfold rsEnc
 refine⟨by rw[List.length_append,h1,hl],fun x hx=>?_⟩
 rcases List.mem_append.1 hx with hx|hx
 ·exact hm x hx
 ·exact h2 x hx
theorem cenc_01:∀(u:List Nat) (s:Nat),B01 (cenc s u)
 |[],_=>fun c hc=>by cases hc
 |b::r,s=>fun c hc=>by
  simp only[cenc,List.mem_cons]at hc
  rcases hc with rfl|rfl|hc
  ·unfold co1;omega
  ·unfold co2;omega
  ·exact cenc_01 r _ c hc
theorem cellL_len {m:List Nat} (hm:Bytes m) (hl:m.length=44):(cellL m).length=836:=by
 unfold cellL
 rw[cenc_len,List.length_append,bitU_len,(rsEnc_ok hm hl).1]
 rfl
theorem cellL_01 (m:List Nat):B01 (cellL m):=cenc_01 _ _
theorem inter_mem {l:List Nat} (hl:l.length=836) {x:Nat} (h:x∈interL l):x∈l:=by
 unfold interL at h
 obtain⟨j,hj,rfl⟩:=List.mem_map.1 h
 have hj':=(ilv_uil (List.mem_range.1 hj)).2
 have hlt:uil j<l.length:=by omega
 rw[cf_get (List.getElem?_eq_getElem hlt)]
 exact List.getElem_mem hlt
theorem bodyL_01 {m:List Nat} (hm:Bytes m) (hl:m.length=44):B01 (bodyL m):=fun c hc=>cellL_01 m c (inter_mem (cellL_len hm hl) hc)
theorem bodyL_bytes {m:List Nat} (hm:Bytes m) (hl:m.length=44):Bytes (bodyL m):=fun c hc=>by rcases bodyL_01 hm hl c hc with rfl|rfl<;>decide
theorem bodyL_len (m:List Nat):(bodyL m).length=836:=interL_len _
theorem be4_bytes {c:Nat} (h:c<4294967296):Bytes (be4 c):=by
 intro x hx
 unfold be4 at hx
 simp only[List.mem_cons,List.not_mem_nil,or_false]at hx
 omega
theorem mar_ok {k r s i l d p a:Nat} {t:ByteArray} (he:frE k r s i l d p t=0) (ha:a<4294967296):
  ∃c,c<4294967296/\marL k r s i l d p a t=hdrL k r s i l d p a++bs t++be4 c/\Bytes (marL k r s i l d p a t)/\(marL k r s i l d p a t).length=44/\c=sumL [strB (hdrL k r s i l d p a++bs t)]/\Bytes (hdrL k r s i l d p a++bs t):=by
 obtain⟨h1,h2,h3,h4,h5,h6,h7,h8⟩:=frE_ok he
 have hm:=hdr_msg k r s i l d p a t (by omega) (by omega) (by omega) (by omega) (by omega) (by omega) ha
 have hb:=hdr_bytes k r s i l d p a (by omega) (by omega) (by omega) (by omega) (by omega) (by omega) ha
 have hb2:Bytes (hdrL k r s i l d p a++bs t):=fun x hx=>by
  rcases List.mem_append.1 hx with hx|hx
  ·exact hb x hx
  ·exact bs_lt t x hx
 have e:marL k r s i l d p a t=hdrL k r s i l d p a++bs t++be4 (sumL [strB (hdrL k r s i l d p a++bs t)]):=by unfold marL;rw[<-hm]
 refine⟨_,sumL_lt _,e,?_,?_,rfl,hb2⟩
 {
 rw[e]
 intro x hx
 rcases List.mem_append.1 hx with hx|hx
 ·exact hb2 x hx
 ·exact be4_bytes (sumL_lt _) x hx}
 {
 rw[e,List.length_append,List.length_append,bs_len,h8]
 rfl}
def fencR (k r s i l d p a:Int) (t:ByteArray):Value:=
 if frE k r s i l d p t≠0 then .tuple #[.string ⟨#[]⟩,.int .i64 (frE k r s i l d p t)]
 else .tuple #[.string (markS++strB (bodyL (marL k.toNat r.toNat s.toNat i.toNat l.toNat d.toNat p.toNat a.toNat t))),.int .i64 0]
def stepS (m:List Nat):Nat->ByteArray
 |0=>strB m
 |1=>strB (rsEnc m)
 |2=>strB (frmB (rsEnc m))
 |3=>strB (cellL m)
 |_=>strB (bodyL m)
def markL:List Nat:=bs markS
theorem markL_eq:markL=[49,49,49,49,49,48,48,49,49,48,49,48,49,48,48,48]:=by decide
def mt (l:List Nat) (k:Nat):Nat->Nat
 |0=>0
 |i+1=>mt l k i+if cf l (k+i)=cf markL i then 1 else 0
def hit (l:List Nat) (k:Nat):Bool:=decide (14<=mt l k 16)
structure Frm where
 k:Int
 r:Int
 s:Int
 i:Int
 l:Int
 d:Int
 p:Int
 a:Int
 t:ByteArray
def Frm.v (f:Frm):Value:=frV f.k f.r f.s f.i f.l f.d f.p f.a f.t
def Frm.cells (f:Frm):List Value:=[.int .i64 f.k,.int .i64 f.r,.int .i64 f.s,.int .i64 f.i,.int .i64 f.l,.int .i64 f.d,.int .i64 f.p,.int .u32 f.a,.string f.t]
theorem markL_len:markL.length=16:=by rw[markL_eq];rfl
theorem markL_01:B01 markL:=by rw[markL_eq];decide
theorem b01_bytes {l:List Nat} (h:B01 l):Bytes l:=fun x hx=>by rcases h x hx with rfl|rfl<;>decide
theorem bytes_app {l r:List Nat} (h:Bytes l) (k:Bytes r):Bytes (l++r):=fun x hx=>by
 rcases List.mem_append.1 hx with hx|hx
 ·exact h x hx
 ·exact k x hx
theorem mark_cat (m:List Nat):markS++strB (bodyL m)=strB (markL++bodyL m):=by
 conv=>lhs;rw[<-strB_bs markS,strB_cat]
 rfl
def flatCl (ms:List (List Nat)):List Nat:=ms.flatMap fun m=>markL++bodyL m
theorem flatC_len (ms:List (List Nat)):(flatCl ms).length=852*ms.length:=by
 induction ms with
 |nil=>rfl
 |cons m r ih=>
  unfold flatCl at ih⊢
  rw[List.flatMap_cons,List.length_append,ih,List.length_append,markL_len,bodyL_len,List.length_cons]
  omega
theorem flatC_app (a b:List (List Nat)):flatCl (a++b)=flatCl a++flatCl b:=by unfold flatCl;rw[List.flatMap_append]
theorem flatC_bytes {ms:List (List Nat)} (h:∀m∈ms,Bytes m/\m.length=44):Bytes (flatCl ms):=fun x hx=>by
 unfold flatCl at hx
 obtain⟨m,hm,hx⟩:=List.mem_flatMap.1 hx
 obtain⟨h1,h2⟩:=h m hm
 exact bytes_app (b01_bytes markL_01) (bodyL_bytes h1 h2) x hx
theorem beL_length (n:Nat):∀k,(beL n k).length=k
 |0=>rfl
 |k+1=>by rw[beL,List.length_cons,beL_length n k]
def numK (n m k:Nat):List Nat:=List.replicate (m-k) 0++beL n k
theorem numK_len {n m k:Nat} (h:k<=m):(numK n m k).length=m:=by
 unfold numK
 rw[List.length_append,List.length_replicate,beL_length]
 omega
theorem numK_set {n m k:Nat} (h:k<m):(numK n m k).set (m-1-k) (n/256^k%256)=numK n m (k+1):=by
 unfold numK
 rw[beL,show m-k=(m-(k+1))+1 by omega,List.replicate_succ',List.append_assoc,List.set_append_right _ _ (by rw[List.length_replicate];omega),List.length_replicate,show m-1-k-(m-(k+1))=0 by omega]
 rfl
theorem numK_get {n m k:Nat} (h:k<m):(numK n m k)[m-1-k]?=some 0:=by
 unfold numK
 rw[List.getElem?_append_left (by rw[List.length_replicate];omega),List.getElem?_replicate,if_pos (by omega)]
theorem fnumber_any (w:World) (n m:Nat) (_hn:n<4294967296) (hm:m<=8):Calls Tryz.prog 250 #[.int .u32 (n:Int),.int .i64 (m:Int)] w fun e w'=>e=.returned (.string (strB (beL n m)))/\Below w.heap.size w w':=by
 have hmk:=make_u8 m m (Nat.le_refl _) (by omega)
 have hmJ:(m:Int)<=8:=by omega
 go_enter Tryz.func250,Tryz.ntmps250
 go_wp2
 go_loopw [0,11] (fun v c wr=>∃k:Nat,k<=m/\v=.int .u32 ((n/256^k:Nat):Int)/\c=.int .i64 (k:Int)/\U8B wr w.heap.size (numK n m k)/\Below w.heap.size w wr) (fun _ c _=>m-(intOf c).toNat)
 case atStart=>exact⟨0,by omega,by simp,rfl,by have:=U8B.new w (List.replicate m 0);unfold numK beL;simpa using this,(Below.refl _ _).alloc (Nat.le_refl _) _⟩
 case round=>
  obtain⟨k,hk,rfl,rfl,hb,hB⟩:=hrel
  have Hb:=zY hb
  have HB:=zY hB
  by_cases h:k<m
  {
  have hkI:(k:Int)<m:=by omega
  have hc:=hb.cell (numK_get (n:=n) h)
  have hf:=hb.frozen (m-1-k)
  have hi:((m:Int)-1-k).toNat=m-1-k:=by omega
  have hw:IntKind.i64.wrap ((m:Int)-1-k)=m-1-k:=by rw[IntKind.wrap_i64];omega
  have hw1:IntKind.i64.wrap ((m:Int)-1)=m-1:=by rw[IntKind.wrap_i64];omega
  have h0:(0:Int)<=m-1-k:=by omega
  have h2:(m:Int)-1-k<m:=by omega
  have HS:=zY (hb.set (m-1-k) (n/256^k%256))
  have Hset:=zY (numK_set (n:=n) h)
  clear hb hB
  go_wp2
  go_roundw
  case rel=>
   have e1:((n:Int)/256^k/256)=((n/256^(k+1):Nat):Int):=by rw[Nat.pow_succ,<-Nat.div_div_eq_div_mul];push_cast;rfl
   have e2:((n:Int)/256^k%256)=((n/256^k%256:Nat):Int):=by push_cast;rfl
   rw[e1,e2]
   exact⟨k+1,by omega,rfl,by go_num,by rw[<-Hset.out];exact HS.out,HB.out.setCell (p:=⟨w.heap.size,m-1-k,none⟩) (Nat.le_refl _) _⟩
  case measure=>simp[intOf];omega}
  {
  have hkm:k=m:=by omega
  subst hkm
  have hcs:=run_toStr (hb.bytes (n:=k) (c:=k) (numK_len (Nat.le_refl _)).symm (Nat.le_refl _) (by omega)) (numK_len (Nat.le_refl _)).symm
  have e:numK n k k=beL n k:=by unfold numK;simp
  rw[e]at hcs
  clear hb hB
  go_wp2
  go_ret
  exact⟨rfl,HB.out⟩
}
end
end Go.Proofs.YthgenkkkapilhaaGreatDoor
namespace Go.Proofs.YthgenkkkapilhaaGreatDoor.rangeStr
section
open Go.RowKit Go.Proofs.YthgenkkkapilhaaGreatDoor.rangeOwn
theorem wpIn_rangeFunc_str {α:Type} {P:Program} {g:Operand} {ps:Array Tmp} {assign body:Code} {Q:Exit->Act->World->Prop} {a:Act} {w:World}
  {gf:Nat} {lb:Array Value} (hg:a.eval g=.func (.func gf) #[] lb) (eg:∀args w,(callFunc gf args).run P w=.ok (.enter gf args) w)
  {Rd:α->Array Value->World->Prop} {old:Nat->Prop} {xs:List α} (hseq:IterStr P gf lb Rd old xs w)
  (hps:∀x args W,Rd x args W->args.size=ps.size) (hRd:∀x args A B,Rd x args A->rangeOwn.Aside No w.heap.size A B->Rd x args B)
  (I:List α->World->Prop) (hI:∀s A B,I s A->w.heap.size<=A.heap.size->rangeOwn.Aside No w.heap.size A B->I s B) (h0:I [] w) (a₁:Array Value->Act)
  (hassign:∀(l:Nat) (x:α) (args:Array Value) (W:World) (K:Act->World->Prop),Rd x args W->K (a₁ args) W ->
   assign.wpIn (Fence.wide.inRound l) 0 P (Exit.then K (fun _ _ _=>False)) { tmps:=(ps.zip args).foldl (fun t (p,v)=>t.setIfInBounds p v) a.tmps,defers:=[] } W)
  (hbody:∀(l:Nat) (pre:List α) (x:α) (args:Array Value) (W:World),w.heap.size+2<=W.heap.size->I pre W->Rd x args W->(pre++[x]) <+: xs ->
   body.wpIn (Fence.wide.inRound l) 0 P (goesOn old I (pre++[x]) W) (a₁ args) W)
  (hdone:∀(D:Nat) (W:World),w.heap.size<=D->I xs W->W.heap[D]?=some (.deferred (some []))->Q .normal { a with defers:={ target:=.collected D,args:= #[] }::a.defers } W):
  (Code.rangeFunc g ps assign body).wpIn Fence.wide 0 P Q a w:=by
 refine wpIn_rangeFunc ?_
 intro fn _
 obtain⟨rec,hrec⟩:∃rec:LoopState->Option Code->Loop,rec=fun st pe=>{ state:=st,pending:=pe,fn,tmps:=a.tmps,params:=ps,assign,body,defers:=w.heap.size }:=⟨_,rfl⟩
 obtain⟨W1,hW1⟩:=zNm ((w.alloc (.deferred (some []))).alloc (.loop (rec .ready none)))
 have hs1:W1.heap.size=w.heap.size+2:=by rw[<-hW1];simp
 have hL1:W1.heap[w.heap.size+1]?=some (.loop (rec .ready none)):=by
  rw[<-hW1];have:=World.alloc_heap_new (w.alloc (.deferred (some []))) (.loop (rec .ready none));rwa [World.size_alloc]at this
 have hK1:W1.heap[w.heap.size]?=some (.deferred (some [])):=by
  rw[<-hW1];exact(Below.heap_alloc _ _ _ (by simp)).trans (World.alloc_heap_new w _)
 have hb1:Below w.heap.size w W1:=by rw[<-hW1];exact((Below.refl _ w).alloc (Nat.le_refl _) _).alloc (by simp) _
 have hI1:I [] W1:=hI _ _ _ h0 (Nat.le_refl _) (rangeOwn.Aside.of_below hb1 (Nat.le_refl _))
 refine⟨w.heap.size+1,[{ target:=.collected w.heap.size,args:= #[] }],W1,{ target:=.fn (.func gf) lb,args:= #[.func (.yield (w.heap.size+1)) #[] #[]] },W1,gf,
  #[.func (.yield (w.heap.size + 1)) #[] #[]] ++ lb, W1, ?_, ?_, fun _ _ => trivial, ?_, (fun h => by cases h), ?_⟩
 ·rw[<-hW1,hrec];exact run_enterLoop_outer _ _ _ _ _
 {
 simp only[resolve,hg]
 simp[go_sem]}
 ·simp[invoke,go_sem,eg]
 {
 refine(hseq (w.heap.size+1)
  (fun pre W=>w.heap.size+2<=W.heap.size/\I pre W/\W.heap[w.heap.size+1]?=some (.loop (rec .ready none))/\W.heap[w.heap.size]?=some (.deferred (some [])))
  W1 hb1 (fun s A B hs hsz hAB=>⟨Nat.le_trans hs.1 hAB.size,hI _ _ _ hs.2.1 (by omega) (hAB.mono (by omega)),(hAB.low _ (by omega) (fun h=>h)).trans hs.2.2.1,(hAB.low _ (by omega) (fun h=>h)).trans hs.2.2.2⟩)
  ?_ ⟨by omega,hI1,hL1,hK1⟩).mono ?_
 {
 rintro pre x args W ⟨hsz,hi,hl,hk⟩ hrd hpre
 have hy:=run_yield (P:=P) (args:=args) hl (by rw[hrec];exact hps x args W hrd)
 rw[hrec]at hy
 refine⟨fn,_,assign,body,hy,roundIn_of_wpIn trivial (hassign _ x args W _ hrd ⟨_,run_beginRound hl (by rw[hrec]),?_⟩)⟩
 obtain⟨W2,hW2⟩:=zNm (W.putObj (w.heap.size+1) (.loop { rec .ready none with state:=.busy }))
 have hA2:rangeOwn.Aside No w.heap.size W W2:=by rw[<-hW2];exact rangeOwn.Aside.putObj _ (by omega) hl rfl
 have hl2:W2.heap[w.heap.size+1]?=some (.loop { rec .ready none with state:=.busy }):=by rw[<-hW2];exact World.putObj_heap_same (by omega)
 have hk2:W2.heap[w.heap.size]?=some (.deferred (some [])):=by rw[<-hW2];exact(World.putObj_heap_other (by omega)).trans hk
 have hs2:W2.heap.size=W.heap.size:=by rw[<-hW2];simp
 rw[hW2]
 refine wpIn_mono (hbody _ pre x args W2 (by omega) (hI _ _ _ hi (by omega) hA2) (hRd _ _ _ _ hrd hA2) hpre) ?_
 rintro e a3 W3 hp
 cases e with
 |normal=>
  obtain⟨hk3,hi3⟩:=hp
  have hl3:W3.heap[w.heap.size+1]?=some (.loop { rec .ready none with state:=.busy }):=hk3.2 _ _ hl2 (.inl rfl)
  have hd3:W3.heap[w.heap.size]?=some (.deferred (some [])):=hk3.2 _ _ hk2 (.inl rfl)
  have hs3:=hk3.1
  have hr:=run_endRound (P:=P) none hl3
  rw[hrec]at hr
  have hA4:rangeOwn.Aside No w.heap.size W3 (W3.putObj (w.heap.size+1) (.loop (rec .ready none))):=rangeOwn.Aside.putObj _ (by omega) hl3 rfl
  rw[hrec]at hA4
  refine⟨_,_,hr,rfl,⟨by simp;omega,hI _ _ _ hi3 (by omega) hA4,?_,?_⟩,by simp;omega,fun k o hko hkS=>?_⟩
  ·rw[hrec];exact World.putObj_heap_same (by omega)
  ·exact(World.putObj_heap_other (by omega)).trans hd3
  {
  by_cases hkne:k=w.heap.size+1
  {
  subst hkne
  rw[hl]at hko
  rw[<-hko,hrec]
  exact World.putObj_heap_same (by omega)}
  {
  refine(World.putObj_heap_other hkne).trans (hk3.2 k o ?_ hkS)
  rw[<-hW2]
  exact(World.putObj_heap_other hkne).trans hko}}
 |_=>exact hp.elim}
 {
 rintro e W2 ⟨⟨v,rfl⟩,hsz,hi,hl,hk⟩
 refine⟨none,_,by have:=run_endLoop (P:=P) hl (by rw[hrec];simp);rw[hrec]at this;exact this,hdone _ _ (Nat.le_refl _) (hI _ _ _ hi (by omega) (rangeOwn.Aside.putObj _ (by omega) hl rfl)) ((World.putObj_heap_other (by omega)).trans hk)⟩
}}
end
end Go.Proofs.YthgenkkkapilhaaGreatDoor.rangeStr
namespace Go.Proofs.YthgenkkkapilhaaGreatDoor
section
open Go.RowKit Go.Shelf
attribute [local go_sem] Oper.semAt_some
def outsL:Nat->List Nat->List ByteArray
 |_,[]=>[]
 |s,b::r=>outS s b::outsL (cnx s b) r
theorem outsL_flat:∀(u:List Nat) (s:Nat),(outsL s u).flatMap bs=cenc s u
 |[],_=>rfl
 |b::r,s=>by
  rw[outsL,List.flatMap_cons,bs_outS,outsL_flat r (cnx s b)]
  rfl
def RdStr (x:ByteArray) (args:Array Value) (_:World):Prop:=args= #[.string x]
def iterLeft (W:World) (k:Nat):Nat:=match W.heap[k]? with
 |some (.stringIter s pos)=>s.size-pos
 |_=>0
theorem iterLeft_eq {W:World} {k:Nat} {s:ByteArray} {pos:Nat} (h:W.heap[k]?=some (.stringIter s pos)):iterLeft W k=s.size-pos:=by
 unfold iterLeft
 rw[h]
theorem aside_iterAt {A:World} {n k:Nat} {S:ByteArray} {pos:Nat} (hk:A.heap[k]?=some (.stringIter S pos)) (hn:n<=k) (pos':Nat):rangeOwn.Aside rangeStr.No n A (A.iterAt k S pos'):=
 ⟨rfl,rfl,rfl,by rw[Lib.iterAt_size];exact Nat.le_refl _,fun i hi _=>Lib.iterAt_other A k i S pos' (by omega),fun i o _ hi hc=>(Lib.iterAt_other A k i S pos' (fun e=>by subst e;rw[hk]at hi;cases hi;cases hc)).trans hi⟩
theorem outputs_all (s:ByteArray) (u:List Nat) (nb:Nat) (W0:World) (hs:bs s=bitsS u) (hu:Bits u) (hz:s.size=416) (hb0:Boxed W0 nb 9 (.string s)):
  rangeStr.IterStr Tryz.prog 358 #[.pointer (some ⟨nb,0,none⟩)] RdStr (fun _=>False) (outsL 0 (u++[0,0])) W0:=by
 intro l J W hb hJ hY h0
 have hbx:Boxed W nb 9 (.string s):=(hb.block nb hb0.lt).trans hb0
 have hcell:=hbx.cell
 obtain⟨S,hS⟩:=zNm (s++⟨#[48,48]⟩)
 have hul:u.length=416:=by rw[<-bitsS_len,<-hs,bs_len,hz]
 have hbS:bs S=bitsS (u++[0,0]):=by
  rw[<-hS,<-strB_bs s,show (⟨#[48,48]⟩:ByteArray)=strB [48,48] from rfl,strB_cat,bs_strB]
  ·rw[hs];unfold bitsS;rw[List.map_append];rfl
  {
  intro x hx
  rcases List.mem_append.1 hx with hx|hx
  ·exact bs_lt s x hx
  ·simp at hx;omega}
 have zS:S.size=418:=by rw[<-bs_len,hbS,bitsS_len,List.length_append,hul];rfl
 have hap:∀x y:ByteArray,(x++y).size=x.size+y.size:=fun x y=>ByteArray.size_append
 have z2:(⟨#[48,48]⟩:ByteArray).size=2:=rfl
 have HJ:=zY hJ
 have HY:=zY hY
 have HbS:=zY hbS
 have Hul:=zY hul
 have HN:Hid (∀(W:World) (st b:Nat),st<4->b<2->Calls Tryz.prog 334 #[.int .i64 (st:Int),.int .i64 (b:Int)] W fun e w'=>e=.returned (.tuple #[.int .i64 (cnx st b:Nat),.string (outS st b)])/\W=w'):=zY (fun W st b h1 h2=>vnext_any W st b h1 h2)
 have Hu2:Hid (Bits (u++[0,0])):=zY (fun x hx=>by
  rcases List.mem_append.1 hx with hx|hx
  ·exact hu x hx
  ·simp at hx;omega)
 obtain⟨v,hv⟩:=zNm (u++[0,0])
 have hvl:v.length=418:=by rw[<-hv,List.length_append,hul];rfl
 rw[hv]at HbS Hu2 HY⊢
 have Hvl:=zY hvl
 clear hbx hJ hY hbS hul hs hu hv hvl
 refine callsIn_of_wp Tryz.func358 rfl trivial ?_ rfl
 simp only[Tryz.ntmps358,List.size_toArray,List.length_cons,List.length_nil,Nat.reduceAdd,Nat.reduceSub,Array.replicate_succ,Array.replicate_zero,List.push_toArray,List.append_toArray,List.nil_append,List.cons_append]
 gi_wp2
 gi_loopw [3] (fun x wr=>∃(k st:Nat) (pre:List ByteArray),k<=418/\st<4/\x=.int .i64 (st:Int)/\wr.heap[W.heap.size]?=some (.stringIter S k)/\W.heap.size<=wr.heap.size/\pre++outsL st (v.drop k)=outsL 0 v/\J pre wr)
  (fun _ wr=>iterLeft wr W.heap.size)
 case atStart=>
  refine⟨0,0,[],by omega,by omega,rfl,?_,?_,rfl,HJ.out _ _ _ h0 (Nat.le_refl _) ?_⟩
  ·exact World.alloc_heap_new W (.stringIter S 0)
  ·exact Nat.le_of_lt (by simp[World.iter])
  ·exact rangeOwn.Aside.of_below ((Below.refl _ _).alloc (Nat.le_refl _) (.stringIter S 0)) (Nat.le_refl _)
 case round=>
  obtain⟨k,st,pre,hk,hst,rfl,hit,hsz,hpre,hj⟩:=hrel
  by_cases h:k<418
  {
  have hkS:k<S.size:=by omega
  have hkv:k<v.length:=by rw[Hvl.out];exact h
  obtain⟨b,hbk⟩:=zNm (v[k]'hkv)
  have hb2:b<2:=by rw[<-hbk];exact Hu2.out _ (List.getElem_mem hkv)
  have hsk:(S[k]'hkS).toNat=48+b:=by
   have h1:=bs_get S k hkS
   rw[HbS.out]at h1
   unfold bitsS at h1
   rw[List.getElem?_map,List.getElem?_eq_getElem hkv,hbk,Option.map_some]at h1
   exact(Option.some.inj h1).symm
  have hdr:v.drop k=b::v.drop (k+1):=by rw[List.drop_eq_getElem_cons hkv,hbk]
  rw[hdr,outsL]at hpre
  have hnx:∀ty,(Instr.next (.pointer (some ⟨W.heap.size,0,none⟩)) true ty).run Tryz.prog wr=.ok (.tuple #[.bool true,.int .i64 (k:Int),.int .i32 ((48+b:Nat):Int)]) (wr.iterAt W.heap.size S (k+1)):=fun ty=>by
   have h1:=Lib.run_next_ascii_at (P:=Tryz.prog) wr W.heap.size S k ty hit hkS (by omega)
   rw[hsk]at h1
   exact h1
  have hj2:=HJ.out _ _ _ hj hsz (aside_iterAt hit (Nat.le_refl _) (k+1))
  have hit2:=Lib.iterAt_heap wr W.heap.size S k (k+1) hit
  have hsz2:W.heap.size<=(wr.iterAt W.heap.size S (k+1)).heap.size:=by rw[Lib.iterAt_size];exact hsz
  generalize wr.iterAt W.heap.size S (k+1)=wt at *
  obtain⟨fn,tmps,assign,body,hy,hR⟩:=HY.out pre (outS st b) #[.string (outS st b)] wt hj2 rfl ⟨outsL (cnx st b) (v.drop (k+1)),by rw[<-hpre];simp⟩
  have HR:=zY hR
  have Hpre:=zY hpre
  have Hit:=zY hit
  have Hit2:=zY hit2
  have Hsz2:=zY hsz2
  have Hst:=zY hst
  have Hb2:=zY hb2
  clear hR hpre hit hit2 hj hj2 hsz hsz2 hst hdr hsk hbk
  rcases (by omega:b=0∨b=1)with rfl|rfl
  all_goals
   have HN2:=zY (HN.out wt st _ Hst.out Hb2.out)
   gi_wp2_with (refine⟨trivial,rfl,?_⟩;gi_at_call 334;refine(callsIn_wide.2 HN2.out).mono ?_;rintro e w' ⟨rfl,rfl⟩)
   refine⟨rfl,HR.out.mono ?_⟩
   rintro e W1 ⟨rfl,hj1,hk1⟩
   have Hj1:=zY hj1
   have Hk1:=zY hk1
   clear hj1 hk1
   gi_wp2
   go_roundw
   case rel=>exact⟨k+1,cnx st _,pre++[outS st _],by omega,cnx_lt Hst.out Hb2.out,rfl,Hk1.out.2 _ _ Hit2.out (.inl rfl),Nat.le_trans Hsz2.out Hk1.out.1,by rw[<-Hpre.out];simp,Hj1.out⟩
   case measure=>
    rw[iterLeft_eq (Hk1.out.2 _ _ Hit2.out (.inl rfl)),iterLeft_eq Hit.out]
    omega}
  {
  obtain rfl:k=418:=by omega
  have hnx:∀ty,(Instr.next (.pointer (some ⟨W.heap.size,0,none⟩)) true ty).run Tryz.prog wr=.ok (.tuple #[.bool false]) wr:=fun ty=>Lib.run_next_end_at (P:=Tryz.prog) wr W.heap.size S 418 ty hit (by omega)
  have e:pre=outsL 0 v:=by
   rw[<-hpre,List.drop_eq_nil_of_le (by rw[Hvl.out];exact Nat.le_refl _)]
   simp[outsL]
  have He:=zY e
  have Hj:=zY hj
  clear hpre hj e hit
  gi_wp2
  go_end0
  exact⟨⟨_,rfl⟩,He.out▸Hj.out⟩
}
attribute [local go_sem] Oper.semAt_some
theorem outputs_any (w:World) (s:ByteArray):Calls Tryz.prog 308 #[.string s] w fun e w'=>e=.returned (.func (.func 358) #[] #[.pointer (some ⟨w.heap.size,0,none⟩)])/\w.alloc (.cells #[.string s] 9)=w':=by
 go_enter Tryz.func308,Tryz.ntmps308
 go_wp2
 go_ret
 exact⟨rfl,rfl⟩
theorem wsk_any (w:World) (B b:Nat) (l:List Nat) (s:ByteArray) (h:Bld w B b l) (hl:l.length<=1000000) (hs:s.size<=1000000) (hB:B<=w.heap.size):
  Calls Tryz.prog 64 #[.pointer (some ⟨b,0,none⟩),.string s] w fun e w'=>e=.returned (.tuple #[.int .i64 s.size,.nilIface])/\Bld w' B b (l++bs s)/\Below B w w'/\Lib.OthersKept 5 (some b) w w':=by
 refine(Tryz.Builder_WriteString_k B b _ s w h (by rw[List.length_map];omega) hB).mono fun e w' ⟨he,h1,hb,hk⟩=>⟨he,?_,hb,hk⟩
 have:=Or.inr (a:=Lib.BuilderAtF 135 5 B b (.pointer none) (l.map u8V++Lib.strCells s) w') h1
 have e1:(l++bs s).map u8V=l.map u8V++Lib.strCells s:=by
  rw[List.map_append]
  unfold Lib.strCells bs
  rw[List.map_map]
  rfl
 show Lib.IsBuilderF _ _ _ _ _ _
 rw[e1]
 exact this
theorem strk_any (w:World) (B b:Nat) (l:List Nat) (hl:Bytes l) (h:Bld w B b l) (hB:B<=w.heap.size):
  Calls Tryz.prog 65 #[.pointer (some ⟨b,0,none⟩)] w fun e w'=>e=.returned (.string (strB l))/\Below B w w'/\Lib.OthersKept 5 (some b) w w':=by
 have e1:Lib.byteCells (l.map UInt8.ofNat)=l.map u8V:=by
  unfold Lib.byteCells
  rw[List.map_map]
  refine List.map_congr_left fun x hx=>?_
  have:=hl x hx
  simp[Nat.mod_eq_of_lt this]
 exact(Tryz.Builder_String_any_k B b (l.map UInt8.ofNat) w (by rw[e1];exact h) hB).mono fun e w' ⟨he,_,hb,hk⟩=>⟨he,hb,hk⟩
structure EncI (w:World) (B:Nat) (pre:List ByteArray) (W:World):Prop where
 bld:Bld W B B (pre.flatMap bs)
 below:Below w.heap.size w W
 le:w.heap.size<=B
 lt:B<W.heap.size
theorem outsL_mem:∀(u:List Nat) (s:Nat) (x:ByteArray),x∈outsL s u->x.size=2
 |[],_,x,h=>by cases h
 |b::r,s,x,h=>by
  rw[outsL]at h
  rcases List.mem_cons.1 h with rfl|h
  ·rw[<-bs_len,bs_outS];rfl
  {
  exact outsL_mem r _ x h
}
theorem venc_any (w:World) (s:ByteArray) (u:List Nat) (hs:bs s=bitsS u) (hu:Bits u) (hz:s.size=416):
  Calls Tryz.prog 255 #[.string s] w fun e w'=>e=.returned (.tuple #[.string (strB (cenc 0 (u++[0,0]))),.int .i64 0])/\Below w.heap.size w w':=by
 have hall:allIn (bs ⟨#[48,49]⟩) (bs s)=true:=by
  unfold allIn
  rw[List.all_eq_true,hs]
  intro x hx
  rcases bitsS_01 hu x hx with rfl|rfl<;>decide
 have Ht:=zY (fun W=>trim_any W s ⟨#[48,49]⟩ (by omega) (by decide) (by decide))
 have Hall:=zY hall
 have hI:decide ((65536:Int)<s.size)=false:=decide_eq_false (by omega)
 have Hs:=zY hs
 have Hu:=zY hu
 have Hz:=zY hz
 clear hall hs hu hz
 refine(callsIn_wide (n:=0)).1 ?_
 refine callsIn_of_wp_marks Tryz.func255 rfl trivial ?_ rfl
 simp only[Tryz.ntmps255,List.size_toArray,List.length_cons,List.length_nil,Nat.reduceAdd,Nat.reduceSub,Array.replicate_succ,Array.replicate_zero,List.push_toArray,List.append_toArray,List.nil_append,List.cons_append]
 gi_wp2_with fail
 refine⟨trivial,rfl,?_⟩
 gi_at_call 57
 refine(callsIn_wide.2 (Ht.out _)).mono ?_
 rintro e w1 ⟨t,rfl,ht,hb1⟩
 have ht1:t.toList.isEmpty=true:=ht.trans Hall.out
 have ht2:(!t.toList.isEmpty)=false:=by rw[ht1];rfl
 clear ht Ht
 gi_wp2_with (refine⟨trivial,rfl,?_⟩;gi_at_call 308;refine(callsIn_wide.2 (outputs_any _ _)).mono ?_;rintro e w' ⟨rfl,rfl⟩)
 have Hb1:=zY hb1
 have hs1:=hb1.size
 clear hb1
 obtain⟨W0,hW0⟩:=zNm ((w1.alloc (.cells #[.pointer none,.slice none 0 0] 135)).alloc (.cells #[.string s] 9))
 have hsz0:W0.heap.size=w1.heap.size+1+1:=by rw[<-hW0];simp
 have hb0:Below w.heap.size w W0:=by rw[<-hW0];exact((Hb1.out.alloc hs1 _).alloc (by simp;omega) _)
 have hbx:Boxed W0 (w1.heap.size+1) 9 (.string s):=by
  rw[<-hW0]
  have:=Boxed.new (w1.alloc (.cells #[.pointer none,.slice none 0 0] 135)) 9 (.string s)
  simpa using this
 have hbl0:Bld W0 w1.heap.size w1.heap.size []:=by
  rw[<-hW0]
  exact Lib.IsBuilderF.alloc (Bld.new w1) _
 have hI0:EncI w w1.heap.size [] W0:=⟨hbl0,hb0,hs1,by omega⟩
 have hIt:=outputs_all s u (w1.heap.size+1) W0 Hs.out Hu.out Hz.out hbx
 rw[hW0]
 clear hW0 hbx hbl0
 refine rangeStr.wpIn_rangeFunc_str (gf:=358) (lb:= #[.pointer (some ⟨w1.heap.size+1,0,none⟩)]) rfl (enters_of Tryz.func358 (by kernel_rfl) rfl) hIt
  (fun x args W hr=>by rw[show args= #[.string x] from hr];rfl) (fun x args X Y hr _=>hr)
  (EncI w w1.heap.size) (fun q X Y hq hsz ha=>?_) hI0
  (fun args=>{ tmps:= #[.string s,undef,.string ⟨#[]⟩,.int .i64 0,.pointer (some ⟨w1.heap.size,0,none⟩),args.getD 0 undef,.bool false,.string s,.int .i64 (s.size:Int),.bool false,.bool false,.string s,.string t,.bool false,.string s,
   .func (.func 358) #[] #[.pointer (some ⟨w1.heap.size+1,0,none⟩)],args.getD 0 undef,undef,undef,undef],defers:=[] })
  ?assign ?body ?done
 ·refine⟨hq.bld.moved (fun k o ho hc=>ha.cells k o (fun h=>h) ho hc),⟨ha.os.trans hq.below.os,ha.tape.trans hq.below.tape,ha.output.trans hq.below.output,Nat.le_trans hq.below.size ha.size,fun k hk=>(ha.low k (by omega) (fun h=>h)).trans (hq.below.block k hk)⟩,hq.le,Nat.lt_of_lt_of_le hq.lt ha.size⟩
 case assign=>
  intro l x args W K hr hK
  obtain rfl:args= #[.string x]:=hr
  simp only[Array.getD,List.size_toArray,List.length_cons,List.length_nil,Nat.zero_add,Nat.lt_add_one,dite_true,List.getElem_toArray,List.getElem_cons_zero,Array.getInternal_eq_getElem]at hK
  gi_wp2
  exact hK
 case body=>
  intro l pre x args W hsz hI hr hpre
  obtain rfl:args= #[.string x]:=hr
  have hx2:x.size=2:=outsL_mem _ _ x (hpre.subset (by simp))
  have hpl:(pre.flatMap bs).length<=1000000:=by
   obtain⟨rest,hrest⟩:=hpre
   have h1:=outsL_flat (u++[0,0]) 0
   rw[<-hrest,List.flatMap_append,List.flatMap_append]at h1
   have h2:=congrArg List.length h1
   rw[List.length_append,List.length_append,cenc_len,List.length_append,<-bitsS_len u,<-Hs.out,bs_len,Hz.out]at h2
   simp only[List.length_cons,List.length_nil]at h2
   omega
  have hc0:∃v0 v1,W.heap[w1.heap.size]?=some (.cells #[v0,v1] 135 (0,0)):=by
   rcases hI.bld with⟨_,v,hb,_⟩|⟨_,v,hb,_⟩
   ·exact⟨_,_,hb⟩
   ·exact⟨_,_,hb⟩
  have Hws:=zY (wsk_any W w1.heap.size w1.heap.size (pre.flatMap bs) x hI.bld hpl (by omega) (Nat.le_of_lt hI.lt))
  have HI:=zY hI
  clear hI hpl hpre hIt hb0 Hb1 ht1 ht2 hI0
  simp only[Array.getD,List.size_toArray,List.length_cons,List.length_nil,Nat.zero_add,Nat.lt_add_one,dite_true,List.getElem_toArray,List.getElem_cons_zero,Array.getInternal_eq_getElem]
  gi_wp2_with fail
  refine⟨trivial,rfl,(CallsIn.inRound l (callsIn_wide.2 Hws.out)).mono ?_⟩
  rintro e w2 ⟨rfl,hbl,hbw,hk⟩
  gi_wp2
  refine⟨⟨hbw.size,fun k o hko hor=>hk k o hko ?_ ?_⟩,by rw[List.flatMap_append];simpa using hbl,HI.out.below.trans (hbw.mono HI.out.le),HI.out.le,Nat.lt_of_lt_of_le HI.out.lt hbw.size⟩
  {
  intro e
  obtain⟨v0,v1,hc⟩:=hc0
  cases e
  rw[hc]at hko
  cases hko
  rcases hor with h|h
  ·cases h
  ·exact h}
  {
  intro c fz e
  subst e
  rcases hor with h|h
  ·cases h
  ·exact h}
 case done=>
  intro D W hD hI hk
  have hby:Bytes (cenc 0 (u++[0,0])):=fun c hc=>by
   have h1:=outsL_flat (u++[0,0]) 0
   rw[<-h1]at hc
   obtain⟨y,_,hy⟩:=List.mem_flatMap.1 hc
   exact bs_lt y c hy
  have hbl:=hI.bld
  rw[outsL_flat]at hbl
  have Hst:=zY (strk_any W w1.heap.size w1.heap.size _ hby hbl (Nat.le_of_lt hI.lt))
  have HI:=zY hI
  have Hk:=zY hk
  clear hI hbl hby hk hI0 hIt hb0 ht1 ht2
  gi_wp2_with fail
  refine⟨trivial,rfl,(callsIn_wide.2 Hst.out).mono ?_⟩
  rintro e w3 ⟨rfl,hb3,hk3⟩
  have hk4:w3.heap[D]?=some (.deferred (some [])):=hk3 D _ Hk.out (fun e=>by cases e;omega) (fun c fz e=>by cases e)
  have HB3:=zY (HI.out.below.trans (hb3.mono HI.out.le))
  clear hb3 hk3
  gi_wp2
  refine⟨by simp,.inl ⟨_,_,rfl,run_takeDeferred hk4,_,results_tmp2 rfl _ _ _,rfl,?_⟩⟩
  exact⟨HB3.out.os,HB3.out.tape,HB3.out.output,Nat.le_trans HB3.out.size (by simp),fun k hk2=>(World.putObj_heap_other (by omega)).trans (HB3.out.block k hk2)⟩
end
section
open Go.RowKit
theorem same32_any (w:World) (v:Value) (fs:List Atr) (h1:SeqAt atrS w v fs):Calls Tryz.prog 206 #[v,v] w fun e w'=>e=.returned (.bool true)/\Below w.heap.size w w':=by
 obtain⟨A1,cc1,rfl,hl1,hm1,d1⟩:=h1
 have D1:=zY d1
 clear d1
 go_enter Tryz.func206,Tryz.ntmps206
 go_wp2
 go_loopw [5] (fun x wr=>∃k:Nat,k<=fs.length/\x=.int .i64 (k:Int)/\Below w.heap.size w wr) (fun x _=>fs.length-(intOf x).toNat)
 case atStart=>exact⟨0,by omega,rfl,Below.refl _ _⟩
 case round=>
  obtain⟨k,hk,rfl,hB⟩:=hrel
  have HBr:=zY hB
  clear hB
  by_cases h:k<fs.length
  {
  have hkI:(k:Int)<fs.length:=by omega
  obtain⟨x,hx⟩:∃x,fs[k]?=some x:=⟨_,List.getElem?_eq_getElem h⟩
  obtain⟨q1,o1,_,rfl,rfl,g1⟩:=D1.out k _ hx
  have c0:wr.cell? ⟨q1,o1+k*2+0,none⟩=some (.string x.k):=cell_below HBr.out (g1 0 _ rfl)
  have c1:wr.cell? ⟨q1,o1+k*2+1,none⟩=some (.string x.v):=cell_below HBr.out (g1 1 _ rfl)
  rw[Nat.add_zero]at c0
  clear g1 hx D1
  go_upto_region 6 with fail
  go_quiet (fail)
  clear c0 c1
  go_wp2
  go_roundw
  case rel=>exact⟨k+1,by omega,by go_num,blwN HBr.out nq⟩
  case measure=>simp[intOf];omega}
  {
  have hkI:¬(k:Int)<fs.length:=by omega
  go_wp2
  go_ret
  exact⟨rfl,HBr.out⟩
}
theorem equal36_any (w:World) (x:Ent) (va vx:Value) (ha:SeqAt atrS w va x.attrs) (hx:SeqAt extS w vx x.exts):Calls Tryz.prog 139 #[entV x va vx,entV x va vx] w fun e w'=>e=.returned (.bool true)/\Below w.heap.size w w':=by
 obtain⟨k,path,attrs,t,size,dig,exts⟩:=x
 dsimp only at ha hx
 rw[entV]
 dsimp only
 have Hx:=zY hx
 obtain⟨A,c,rfl,_,_⟩:=hx.slice
 have hB1:=zBl w (.cells #[.int .i64 k,.string path,va,.string t,.int .i64 size,.string dig,.slice A exts.length c] 182)
 have hK1:Blk (w.alloc (.cells #[.int .i64 k,.string path,va,.string t,.int .i64 size,.string dig,.slice A exts.length c] 182)) w.heap.size 182 [.int .i64 k,.string path,va,.string t,.int .i64 size,.string dig,.slice A exts.length c]:=Blk.new w _ _
 have HK1:=zY (hK1.alloc (.cells #[.int .i64 k,.string path,va,.string t,.int .i64 size,.string dig,.slice A exts.length c] 182))
 have hK2:Blk ((w.alloc (.cells #[.int .i64 k,.string path,va,.string t,.int .i64 size,.string dig,.slice A exts.length c] 182)).alloc (.cells #[.int .i64 k,.string path,va,.string t,.int .i64 size,.string dig,.slice A exts.length c] 182)) (w.alloc (.cells #[.int .i64 k,.string path,va,.string t,.int .i64 size,.string dig,.slice A exts.length c] 182)).heap.size 182 [.int .i64 k,.string path,va,.string t,.int .i64 size,.string dig,.slice A exts.length c]:=Blk.new _ _ _
 rw[World.size_alloc]at hK2
 have HK2:=zY hK2
 have HB:=zY (hB1.alloc hB1.size (.cells #[.int .i64 k,.string path,va,.string t,.int .i64 size,.string dig,.slice A exts.length c] 182))
 have HS:=zY (same32_any _ va attrs (ha.below HB.out))
 have n1:(path != path)=false:=bneV_false rfl
 have n2:(t != t)=false:=bneV_false rfl
 have n3:(dig != dig)=false:=bneV_false rfl
 clear hB1 hK1 hK2 ha hx
 go_enter Tryz.func139,Tryz.ntmps139
 go_upto_region 1 with fail
 generalize (w.alloc (.cells #[.int .i64 k,.string path,va,.string t,.int .i64 size,.string dig,.slice A exts.length c] 182)).alloc (.cells #[.int .i64 k,.string path,va,.string t,.int .i64 size,.string dig,.slice A exts.length c] 182)=w1 at *
 obtain⟨g,hg⟩:=zNm (w.heap.size)
 rw[hg]at HK1 HK2⊢
 have a0:=HK1.out.c 0
 have a1:=HK1.out.c 1
 have a2:=HK1.out.c 2
 have a3:=HK1.out.c 3
 have a4:=HK1.out.c 4
 have a5:=HK1.out.c 5
 have a6:=HK1.out.c 6
 have b0:=HK2.out.c 0
 have b1:=HK2.out.c 1
 have b2:=HK2.out.c 2
 have b3:=HK2.out.c 3
 have b4:=HK2.out.c 4
 have b5:=HK2.out.c 5
 have b6:=HK2.out.c 6
 go_wp2_with fail
 refine HS.out.mono ?_
 rintro e2 w2 ⟨rfl,hb2⟩
 have HK1:=zY (HK1.out.kept hb2)
 have HK2:=zY (HK2.out.kept hb2)
 have HB2:=zYt HB hb2
 have HX2:=zY (Hx.out.below HB2.out)
 clear hb2 HS HB a0 a1 a2 a3 a4 a5 a6 b0 b1 b2 b3 b4 b5 b6 Hx
 have a0:=HK1.out.c 0
 have a1:=HK1.out.c 1
 have a2:=HK1.out.c 2
 have a3:=HK1.out.c 3
 have a4:=HK1.out.c 4
 have a5:=HK1.out.c 5
 have a6:=HK1.out.c 6
 have b0:=HK2.out.c 0
 have b1:=HK2.out.c 1
 have b2:=HK2.out.c 2
 have b3:=HK2.out.c 3
 have b4:=HK2.out.c 4
 have b5:=HK2.out.c 5
 have b6:=HK2.out.c 6
 go_wp2_with fail
 go_loopw [5] (fun x wr=>∃k:Nat,k<=exts.length/\x=.int .i64 (k:Int)/\Below w2.heap.size w2 wr) (fun x _=>exts.length-(intOf x).toNat)
 case atStart=>exact⟨0,by omega,rfl,Below.refl _ _⟩
 case round=>
  obtain⟨j,hj,rfl,hB⟩:=hrel
  have HBr:=zY hB
  clear hB a0 a1 a2 a3 a4 a5 a6 b0 b1 b2 b3 b4 b5 b6 n1 n2 n3
  have a6:=(HK1.out.kept HBr.out).c 6
  have b6:=(HK2.out.kept HBr.out).c 6
  by_cases h:j<exts.length
  {
  have hjI:(j:Int)<exts.length:=by omega
  obtain⟨x,hx⟩:∃x,exts[j]?=some x:=⟨_,List.getElem?_eq_getElem h⟩
  obtain⟨_,_,e9,_,_,h4⟩:=HX2.out.below HBr.out
  cases e9
  obtain⟨b,o,_,rfl,rfl,hc⟩:=h4 j x hx
  have c0:wr.cell? ⟨b,o+j*3+0,none⟩=some (.int .i64 x.s):=hc 0 _ rfl
  have c1:wr.cell? ⟨b,o+j*3+1,none⟩=some (.int .i64 x.o):=hc 1 _ rfl
  have c2:wr.cell? ⟨b,o+j*3+2,none⟩=some (.int .i64 x.l):=hc 2 _ rfl
  rw[Nat.add_zero]at c0
  clear hc h4 hx
  go_upto_region 6 with fail
  go_quiet (fail)
  clear c0 c1 c2 a6 b6
  go_wp2
  go_roundw
  case rel=>exact⟨j+1,by omega,by go_num,blwN HBr.out nq⟩
  case measure=>simp[intOf];omega}
  {
  obtain rfl:j=exts.length:=by omega
  have hjI:¬((exts.length:Nat):Int)<(exts.length:Int):=by omega
  go_wp2
  go_ret
  exact⟨rfl,by rw[<-hg];exact HB2.out.trans (HBr.out.mono HB2.out.size)⟩
}
theorem same39e_any (w:World) (v:Value) (E:List Ent) (hv:SeqAt entS w v E):Calls Tryz.prog 75 #[v,v] w fun e w'=>e=.returned (.bool true)/\Below w.heap.size w w':=by
 have HV:=zY hv
 obtain⟨A1,cc1,rfl,_,_⟩:=hv.slice
 clear hv
 go_enter Tryz.func75,Tryz.ntmps75
 go_wp2
 go_loopw [5] (fun x wr=>∃k:Nat,k<=E.length/\x=.int .i64 (k:Int)/\Below w.heap.size w wr) (fun x _=>E.length-(intOf x).toNat)
 case atStart=>exact⟨0,by omega,rfl,Below.refl _ _⟩
 case round=>
  obtain⟨k,hk,rfl,hB⟩:=hrel
  have HBr:=zY hB
  clear hB
  by_cases h:k<E.length
  {
  have hkI:(k:Int)<E.length:=by omega
  obtain⟨x,hx⟩:∃x,E[k]?=some x:=⟨_,List.getElem?_eq_getElem h⟩
  obtain⟨_,_,e9,_,_,h4⟩:=HV.out.below HBr.out
  cases e9
  obtain⟨b,o,_,rfl,⟨va,vx,rfl,hva,hvx⟩,hc⟩:=h4 k x hx
  have HVa:=zY hva
  have HVx:=zY hvx
  have HBk:Hid (∀W,Below wr.heap.size wr W->Calls Tryz.prog 139 #[entV x va vx,entV x va vx] W fun e w'=>e=.returned (.bool true)/\Below W.heap.size W w'):=zY (fun W hW=>equal36_any W x va vx (HVa.out.below hW) (HVx.out.below hW))
  have hcs:∀W,Below wr.heap.size wr W->(W.cell? ⟨b,o+k*7,none⟩=some (.int .i64 x.k)/\W.cell? ⟨b,o+k*7+1,none⟩=some (.string x.path)/\W.cell? ⟨b,o+k*7+2,none⟩=some va/\W.cell? ⟨b,o+k*7+3,none⟩=some (.string x.tgt)/\W.cell? ⟨b,o+k*7+4,none⟩=some (.int .i64 x.size)/\W.cell? ⟨b,o+k*7+5,none⟩=some (.string x.dig)/\W.cell? ⟨b,o+k*7+6,none⟩=some vx):=fun W hW=>⟨cell_below hW (hc 0 _ rfl),cell_below hW (hc 1 _ rfl),cell_below hW (hc 2 _ rfl),cell_below hW (hc 3 _ rfl),cell_below hW (hc 4 _ rfl),cell_below hW (hc 5 _ rfl),cell_below hW (hc 6 _ rfl)⟩
  have HCs:=zY hcs
  obtain⟨ka,path,attrs,t,size,dig,exts⟩:=x
  unfold entV at HBk
  dsimp only at HBk HCs
  obtain⟨Aa,ca,rfl,_,_⟩:=hva.slice
  obtain⟨Ax,cx,rfl,_,_⟩:=hvx.slice
  dsimp only at HBk HCs
  clear hc h4 hx hva hvx hcs HVa HVx
  go_upto_region 6 with fail
  have HBc:=zY (Below.refl wr.heap.size wr).drew
  refine wp_region_held_drew (S:=(fun W=>W.cell? ⟨b,o+k*7,none⟩=some (.int .i64 ka)/\W.cell? ⟨b,o+k*7+1,none⟩=some (.string path)/\W.cell? ⟨b,o+k*7+2,none⟩=some (.slice Aa attrs.length ca)/\W.cell? ⟨b,o+k*7+3,none⟩=some (.string t)/\W.cell? ⟨b,o+k*7+4,none⟩=some (.int .i64 size)/\W.cell? ⟨b,o+k*7+5,none⟩=some (.string dig)/\W.cell? ⟨b,o+k*7+6,none⟩=some (.slice Ax exts.length cx))) (by kernel_rfl) ?_ (fun hHeld=>?_)
  ·exact HCs.out _ HBc.out
  refine tk 0 ?_
  refine tk 1 ?_
  refine tk 2 ?_
  refine tk 3 ?_
  refine tk 4 ?_
  refine tk 5 ?_
  refine tk 6 ?_
  refine tk 7 ?_
  refine zE1 8 fun K hK=>?_
  go_simp
  refine(HBk.out _ HBc.out).mono ?_
  rintro e5 w5 ⟨rfl,hb5⟩
  (try go_wp2_with fail)
  have HBc:=zYt HBc hb5
  clear hb5
  refine hko hK (by exact HCs.out _ HBc.out) (fun _=>?_)
  clear hK K
  refine tk 9 ?_
  refine wpAnyH_done (by kernel_rfl) ?_ _
  go_wp2_with fail
  go_roundw
  case rel=>exact⟨k+1,by omega,by go_num,HBr.out.trans (HBc.out.mono HBr.out.size)⟩
  case measure=>simp[intOf];omega}
  {
  have hkI:¬(k:Int)<E.length:=by omega
  go_wp2
  go_ret
  exact⟨rfl,HBr.out⟩
}
theorem same39s_any (w:World) (y:Ses) (ve:Value) (hv:SeqAt entS w ve y.ents):Calls Tryz.prog 31 #[.agg #[.int .i64 y.num,.int .i64 y.date,.string y.prev,ve,.string y.str,.string y.sig],.agg #[.int .i64 y.num,.int .i64 y.date,.string y.prev,ve,.string y.str,.string y.sig]] w fun e w'=>e=.returned (.bool true)/\Below w.heap.size w w':=by
 obtain⟨num,date,prev,ents,str,sig⟩:=y
 dsimp only at hv⊢
 have HV:=zY hv
 obtain⟨A,c,rfl,_,_⟩:=hv.slice
 have hB1:=zBl w (.cells #[.int .i64 num,.int .i64 date,.string prev,.slice A ents.length c,.string str,.string sig] 45)
 have hK1:Blk (w.alloc (.cells #[.int .i64 num,.int .i64 date,.string prev,.slice A ents.length c,.string str,.string sig] 45)) w.heap.size 45 [.int .i64 num,.int .i64 date,.string prev,.slice A ents.length c,.string str,.string sig]:=Blk.new w _ _
 have HK1:=zY (hK1.alloc (.cells #[.int .i64 num,.int .i64 date,.string prev,.slice A ents.length c,.string str,.string sig] 45))
 have hK2:Blk ((w.alloc (.cells #[.int .i64 num,.int .i64 date,.string prev,.slice A ents.length c,.string str,.string sig] 45)).alloc (.cells #[.int .i64 num,.int .i64 date,.string prev,.slice A ents.length c,.string str,.string sig] 45)) (w.alloc (.cells #[.int .i64 num,.int .i64 date,.string prev,.slice A ents.length c,.string str,.string sig] 45)).heap.size 45 [.int .i64 num,.int .i64 date,.string prev,.slice A ents.length c,.string str,.string sig]:=Blk.new _ _ _
 rw[World.size_alloc]at hK2
 have HK2:=zY hK2
 have HB:=zY (hB1.alloc hB1.size (.cells #[.int .i64 num,.int .i64 date,.string prev,.slice A ents.length c,.string str,.string sig] 45))
 have HS:=zY (same39e_any _ _ ents (HV.out.below HB.out))
 have n1:(prev==prev)=true:=beqV_true rfl
 have n2:(str==str)=true:=beqV_true rfl
 have n3:(sig==sig)=true:=beqV_true rfl
 clear hB1 hK1 hK2 hv
 go_enter Tryz.func31,Tryz.ntmps31
 go_upto_region 1 with fail
 generalize (w.alloc (.cells #[.int .i64 num,.int .i64 date,.string prev,.slice A ents.length c,.string str,.string sig] 45)).alloc (.cells #[.int .i64 num,.int .i64 date,.string prev,.slice A ents.length c,.string str,.string sig] 45)=w1 at *
 obtain⟨g,hg⟩:=zNm (w.heap.size)
 rw[hg]at HK1 HK2⊢
 have a0:=HK1.out.c 0
 have a1:=HK1.out.c 1
 have a2:=HK1.out.c 2
 have a3:=HK1.out.c 3
 have a4:=HK1.out.c 4
 have a5:=HK1.out.c 5
 have b0:=HK2.out.c 0
 have b1:=HK2.out.c 1
 have b2:=HK2.out.c 2
 have b3:=HK2.out.c 3
 have b4:=HK2.out.c 4
 have b5:=HK2.out.c 5
 go_wp2_with fail
 refine HS.out.mono ?_
 rintro e2 w2 ⟨rfl,hb2⟩
 have HB2:=zYt HB hb2
 clear hb2
 go_wp2
 go_ret
 exact⟨rfl,HB2.out⟩
end
end Go.Proofs.YthgenkkkapilhaaGreatDoor
namespace Go.Proofs.YthgenkkkapilhaaGreatDoor.lawVoSigns
section
open Go.ChangeShapes Go.WideShapes Go.ChangeAt Go.RowKit
theorem closed:joinedFacts Tryz.prog 9 Tryz.f9 Rows.volumeSignsSpec Rows.volumeSignsRow=true:=by
 unfold joinedFacts
 simp only[Bool.and_eq_true]
 repeat' apply And.intro
 all_goals as_aux_lemma=>kernel_rfl
end
end Go.Proofs.YthgenkkkapilhaaGreatDoor.lawVoSigns
