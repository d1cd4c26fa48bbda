/-
  Joined: PgG PgH PgI PgJ.
-/
import Derived.Test.YthgenkkkapilhaaGreatDoorVPn42
import Derived.Test.YthgenkkkapilhaaGreatDoorVPn44
import Derived.Maps.OwnIn
import Derived.Maps.StringElems
set_option linter.all false
set_option maxRecDepth 100000
set_option maxHeartbeats 64000000
namespace Go.Proofs.YthgenkkkapilhaaGreatDoor
open Go.Proofs.Tryz
section
open Go.RowKit
def totS (L:List ByteArray):Nat:=(L.map ByteArray.size).sum
theorem totS_snoc (L:List ByteArray) (s:ByteArray):totS (L++[s])=totS L+s.size:=by simp[totS]
theorem totS_take {L:List ByteArray} {k:Nat} {s:ByteArray} (h:L[k]?=some s):totS (L.take (k+1))=totS (L.take k)+s.size:=by
 have e:L.take (k+1)=L.take k++[s]:=by rw[List.take_add_one,h];rfl
 rw[e,totS_snoc]
theorem totS_le (L:List ByteArray) (k:Nat):totS (L.take k)<=totS L:=by
 have h:totS (L.take k++L.drop k)=totS (L.take k)+totS (L.drop k):=by unfold totS;rw[List.map_append,List.sum_append]
 rw[List.take_append_drop]at h;omega
def RetLen (m:Nat) (e:Ending):Prop:=∃(A:Option Addr) (n c:Nat),e=.returned (.slice A n c)/\m<=n
theorem hitsP_take {a:Nat} {L:List ByteArray} {k:Nat} {s:ByteArray} (h:L[k]?=some s):hitsP a (L.take (k+1))=hitsP a (L.take k)++hitsS a (bs s):=by
 have e:L.take (k+1)=L.take k++[s]:=by rw[List.take_add_one,h];rfl
 rw[e];unfold hitsP;rw[List.flatMap_append];simp
theorem hitsK_none {a:Nat} {l:List Nat} {k:Nat} (h:∀p,¬HitP a l k p):hitsK a l (k+1)=hitsK a l k:=by
 rw[hitsK_succ,hitO_none h];simp
theorem hitsK_some {a:Nat} {l:List Nat} {k:Nat} {p:Pln} (h:HitP a l k p):hitsK a l (k+1)=hitsK a l k++[p]:=by
 rw[hitsK_succ,hitO_some h];rfl
theorem hitsK_le (a:Nat) (l:List Nat) (k:Nat):(hitsK a l (k+1)).length<=(hitsK a l k).length+1:=by
 rw[hitsK_succ,List.length_append];cases hitO a l k<;>simp
theorem hit_mark {a:Nat} {l:List Nat} {k:Nat} {p:Pln} (h:HitP a l k p):plAtB l k=true:=by rw[plAtB,beq_iff_eq];exact h.2.1
theorem hit_cut (s:ByteArray) (i:Nat):bs (s.extract (i+16) (i+768))=((bs s).drop (i+16)).take 752:=by
 rw[bs_extract,List.drop_take,show i+768-(i+16)=752 by omega]
theorem r27pieces_any (w:World) (v:Value) (L:List ByteArray) (a:Nat) (hv:SeqAt strS w v L) (hS:totS L<=90000000) (hs:∀s∈L,s.size<=10000000):Calls prog 24 #[v,.int .u32 (a:Int)] w fun e w'=>RetLen (hitsP a L).length e/\Below w.heap.size w w':=by
 have HV:=zY hv;have HS:=zY hS;have HSs:=zY hs;obtain⟨A,c,rfl,_,_⟩:=hv.slice;have HN0:=zY (OwnSeq.newAt (ρ:=plnS) (t:=124) (w:=w) (Nat.le_refl _));have HB0:=zY (zBl w (.cells #[] 124));clear hv hS hs;go_enter func24,ntmps24;go_upto_region 2 with fail;generalize w.alloc (.cells #[] 124)=wa at *;go_wp2;go_loopw [5,6] (fun v x wr=>∃(k:Nat) (l:List Pln),k<=L.length/\x=.int .i64 (k:Int)/\OwnSeq plnS 124 w wr v l/\(hitsP a (L.take k)).length<=l.length/\l.length<=totS (L.take k)/\Below w.heap.size w wr) (fun _ x _=>L.length-(intOf x).toNat);case atStart=>exact⟨0,[],by omega,rfl,HN0.out,by simp[hitsP],by simp,HB0.out⟩
 case round=>
 obtain⟨k,l,hk,rfl,ho,hh,hl,hB⟩:=hrel;have HO:=zY ho;have HH:=zY hh;have HL:=zY hl;have HB:=zY hB;clear ho hh hl hB HN0 HB0;by_cases h:k<L.length;{
 have hkI:(k:Int)<L.length:=by omega
 obtain⟨s,hs⟩:∃s,L[k]?=some s:=⟨_,List.getElem?_eq_getElem h⟩;have HGs:=zY hs;have hz:=HSs.out s (List.mem_of_getElem? hs);have HT:=zY (totS_take hs);have HTl:=zY (totS_le L (k+1));have HF:=zY (hitsP_take (a:=a) hs);clear hs;obtain⟨wk,rfl⟩:∃x,x=wr:=⟨_,rfl⟩;go_wp2;go_loopw [5,7] (fun v y wx=>∃(i:Nat) (l:List Pln),i<=s.size-767/\y=.int .i64 (i:Int)/\OwnSeq plnS 124 w wx v l/\(hitsP a (L.take k)++hitsK a (bs s) i).length<=l.length/\l.length<=totS (L.take k)+i/\Below w.heap.size w wx) (fun _ y _=>s.size-(intOf y).toNat);case atStart=>exact⟨0,l,by omega,rfl,HO.out,by simp[hitsK];exact HH.out,by have:=HL.out;omega,HB.out⟩
 case round=>
 obtain⟨i,l2,hi,rfl,ho,hh,hl,hB2⟩:=hrel;have HO2:=zY ho;have HH2:=zY hh;have HL2:=zY hl;have HB2:=zY hB2;have HVr:=zY (HV.below hB2);clear ho hh hl hB2;obtain⟨_,_,e9,_,_,h4⟩:=HVr.out;cases e9;obtain⟨b,o,cs,rfl,rfl,hc⟩:=h4 k s HGs.out;have c0:wr.cell? ⟨b,o+k,none⟩=some (.string s):=by have:=hc 0 _ rfl;rwa [show o+k*strS.n+0=o+k by rw[show strS.n=1 from rfl];omega]at this
 clear hc h4;obtain⟨q,hq⟩:=zNm (i+768);have hq1:(i:Int)+768=q:=by omega
 have hq2:IntKind.i64.wrap (q:Int)=q:=zIw (by omega);by_cases h7:q<=s.size;{
 have h7I:(q:Int)<=s.size:=by omega
 have HPl:=zY (fun W=>risplain_any W s i (by omega) (by omega));have HBq:=zY (fun(p:Pln) (hp:HitP a (bs s) i p)=>hit_mark hp);obtain⟨m,hm⟩:=zNm (plAtB (bs s) i);rw[hm]at HPl HBq;have h7b:i<s.size-767:=by omega
 clear hm;go_wp2_with fail;refine(HPl.out _).mono ?_;rintro e1 w1 ⟨rfl,rfl⟩;cases m with
 |false=>(
 have HE:=zY (hitsK_none (fun p hp=>by have:=HBq.out p hp;cases this):hitsK a (bs s) (i+1)=hitsK a (bs s) i);clear HPl HBq;go_wp2;go_roundw;case rel=>exact⟨i+1,l2,by omega,by go_num,HO2.out,by rw[HE.out];exact HH2.out,by have:=HL2.out;omega,HB2.out⟩
 case measure=>simp[intOf];omega)
 |true=>
 clear HPl HBq;obtain⟨r,hr⟩:=zNm (i+16);have hr1:(i:Int)+16=r:=by omega
 have hr2:IntKind.i64.wrap (r:Int)=r:=zIw (by omega);have j1:(r:Int)<=(q:Int):=by omega
 have j2:r<=q:=by omega
 obtain⟨C,hC⟩:=zNm (s.extract r q);have hCz:C.size<=100000:=by rw[<-hC,ByteArray.size_extract];omega
 have HCb:Hid (((bs s).drop (i+16)).take 752=bs C):=zY (by rw[<-hit_cut,hr,hq,hC]);have HD:=zY (fun W=>rdec26_any W C hCz);have H7:=zY (And.intro h7 h7b);have HLn:Hid (l2.length+1<=100000000):=zY (by have h1:=HL2.out;have h2:=HT.out;have h3:=HTl.out;have h4:=HS.out;omega);clear hCz h7b hr hq;go_wp2_with fail;refine(HD.out _).mono ?_;rintro e2 w2 ⟨⟨⟨pa,pi,pt,px⟩,n,rfl,hp⟩,hb2⟩;dsimp only[Pln.cells];have hHit:∀p,HitP a (bs s) i p->n=0/\pa=a:=fun p h=>by
  have h1:=h.2.2.1
  rw[HCb.out]at h1
  obtain⟨e1,e2⟩:=hp p h1
  exact⟨e1,(congrArg Pln.a e2).trans h.2.2.2⟩
 have HHit:=zY hHit;have HK:Hid (Blk (w2.alloc (.cells #[.int .u32 (pa:Int),.int .i64 (pi:Int),.int .i64 (pt:Int),.string px] 124)) w2.heap.size 124 [.int .u32 (pa:Int),.int .i64 (pi:Int),.int .i64 (pt:Int),.string px]):=zY (Blk.new w2 124 [.int .u32 (pa:Int),.int .i64 (pi:Int),.int .i64 (pt:Int),.string px]);have hb3:=hb2.alloc hb2.size (.cells #[.int .u32 (pa:Int),.int .i64 (pi:Int),.int .i64 (pt:Int),.string px] 124);have HO3:=zY (HO2.below hb3);have HB3:=zYt HB2 hb3;clear hp hHit hb2 hb3 HD HO2 HB2 HVr c0;go_upto_region 10 with fail;generalize w2.alloc (.cells #[.int .u32 (pa:Int),.int .i64 (pi:Int),.int .i64 (pt:Int),.string px] 124)=w3 at *;generalize w2.heap.size=g at *;have c0:=HK.c 0;by_cases hit:n=0/\pa=a;{
 obtain⟨rfl,rfl⟩:=hit;have c1:=HK.c 1;have c2:=HK.c 2;have c3:=HK.c 3;obtain⟨Ao,co,rfl⟩:=HO3.slice;have HX1:Hid (SrcAt plnS w (w3.alloc (.cells (Pln.cells ⟨pa,pi,pt,px⟩).toArray 124)) (.slice (some ⟨w3.heap.size,0,none⟩) 1 1) [⟨pa,pi,pt,px⟩]):=zY (src1 (ρ:=plnS) (wr:=w3) (w0:=w) (t:=124) (Pln.cells ⟨pa,pi,pt,px⟩) ⟨pa,pi,pt,px⟩ rfl rfl);have HO1:=zY (HO3.alloc (.cells (Pln.cells ⟨pa,pi,pt,px⟩).toArray 124));have HB1:=zY (HB3.alloc HB3.size (.cells (Pln.cells ⟨pa,pi,pt,px⟩).toArray 124));have HLe:=zY (hitsK_le pa (bs s) i);go_wp2_with (at_builtin;refine append_seq (w0:=w) Tryz.elemPln rfl _ _ rfl rfl HO1.out rfl HX1.out HLn.out HB1.out ?_;intro vb w6 hob _ hbb;have KV:=zY hob;have KC:=zY hbb;clear hob hbb);go_roundw;case rel=>exact⟨i+1,_,by have:=H7.2;omega,by go_num,KV.out,by have h1:=HH2.out;have h2:=HLe.out;rw[List.length_append]at h1⊢;simp;omega,by have:=HL2.out;simp;omega,KC.out⟩
 case measure=>have:=H7.2;simp[intOf];omega};{
 have HE:Hid (hitsK a (bs s) (i+1)=hitsK a (bs s) i):=zY (hitsK_none fun p h=>hit (HHit.out p h));by_cases h0:n=0;{
 have f1:((pa:Int)==(a:Int))=false:=by rw[beq_eq_false_iff_ne];intro e;exact hit ⟨h0,by omega⟩
 subst h0;clear hit;go_wp2;go_roundw;case rel=>exact⟨i+1,l2,by have:=H7.2;omega,by go_num,HO3.out,by rw[HE.out];exact HH2.out,by have:=HL2.out;omega,HB3.out⟩
 case measure=>have:=H7.2;simp[intOf];omega};{
 have f1:(n==0)=false:=by rw[beq_eq_false_iff_ne];exact h0
 clear hit;go_wp2;go_roundw;case rel=>exact⟨i+1,l2,by have:=H7.2;omega,by go_num,HO3.out,by rw[HE.out];exact HH2.out,by have:=HL2.out;omega,HB3.out⟩
 case measure=>have:=H7.2;simp[intOf];omega}}};{
 have h7I:¬(q:Int)<=s.size:=by omega
 have HE:Hid (hitsK a (bs s) i=hitsS a (bs s)):=zY (by unfold hitsS;rw[bs_len,show i=s.size-767 by omega]);go_wp2;go_roundw;case rel=>exact⟨k+1,l2,by omega,by go_num,HO2.out,by rw[HF.out,<-HE.out];exact HH2.out,by rw[HT.out];have:=HL2.out;omega,HB2.out⟩
 case measure=>simp[intOf];omega}};{
 obtain rfl:k=L.length:=by omega
 have hkI:¬((L.length:Nat):Int)<(L.length:Int):=by omega
 have HE:Hid (L.take L.length=L):=zY (List.take_length);obtain⟨Ao,co,rfl⟩:=HO.slice;go_wp2;go_ret;exact⟨⟨_,_,_,rfl,by have:=HH.out;rwa [HE.out]at this⟩,HB.out⟩}
end
section
open Go.RowKit Go.Shelf
attribute [local go_sem] Oper.semAt_some
theorem hitsK_pre (a:Nat) (l:List Nat) {i n:Nat} (h:i<=n):hitsK a l i <+: hitsK a l n:=by
 obtain⟨d,rfl⟩:∃d,n=i+d:=⟨n-i,by omega⟩;clear h;induction d with
 |zero=>exact List.prefix_refl _
 |succ d ih=>
 rw[<-Nat.add_assoc,hitsK_succ];exact ih.trans (List.prefix_append _ _)
theorem hits_pre {a:Nat} {L:List ByteArray} {k i:Nat} {s:ByteArray} (h:L[k]?=some s) (hi:i<=s.size-767):hitsP a (L.take k)++hitsK a (bs s) i <+: hitsP a L:=by
 have h1:hitsP a (L.take (k+1)) <+: hitsP a L:=by{
 have e:=List.take_append_drop (k+1) L;have e2:hitsP a L=hitsP a (L.take (k+1))++hitsP a (L.drop (k+1)):=by{
 conv=>lhs;rw[<-e]
 exact List.flatMap_append};rw[e2];exact List.prefix_append _ _};rw[hitsP_take h]at h1;refine List.IsPrefix.trans ?_ h1;have h2:hitsK a (bs s) i <+: hitsS a (bs s):=hitsK_pre a (bs s) (by rw[bs_len];exact hi);obtain⟨t,ht⟩:=h2;exact⟨t,by rw[List.append_assoc,ht]⟩
theorem heap_same {w0 wr:World} (hs:w0.heap.size<=wr.heap.size) (hb:∀k,k<w0.heap.size->wr.heap[k]?=w0.heap[k]?):Below w0.heap.size { wr with heap:=w0.heap } wr:=⟨rfl,rfl,rfl,hs,hb⟩
theorem Tab.same {w0 wr:World} (h:Tab w0) (hs:w0.heap.size<=wr.heap.size) (hb:∀k,k<w0.heap.size->wr.heap[k]?=w0.heap[k]?):Tab wr:=
 Tab.below (w:={ wr with heap:=w0.heap }) ⟨h.pow,h.most⟩ (heap_same hs hb)
theorem SeqAt.same {w0 wr:World} {v:Value} {L:List ByteArray} (h:SeqAt strS w0 v L) (hs:w0.heap.size<=wr.heap.size) (hb:∀k,k<w0.heap.size->wr.heap[k]?=w0.heap[k]?):SeqAt strS wr v L:=
 SeqAt.below (w:={ wr with heap:=w0.heap }) h (heap_same hs hb)
def RdP (x:Pln) (args:Array Value) (_:World):Prop:=args= #[.agg x.cells.toArray]
structure FrmI (w0:World) (bl ba a:Nat) (v:Value) (n:Nat) (W:World):Prop where
 sz:n<=W.heap.size
 lo:∀k,k<w0.heap.size->W.heap[k]?=w0.heap[k]?
 bl:Boxed W bl 51 v
 ba:Boxed W ba 25 (.int .u32 (a:Int))
theorem FrmI.below {w0:World} {bl ba a n:Nat} {v:Value} {W W':World} (h:FrmI w0 bl ba a v n W) (hb:Below W.heap.size W W') (h0:w0.heap.size<=W.heap.size):FrmI w0 bl ba a v n W':=
 ⟨Nat.le_trans h.sz hb.size,fun k hk=>(hb.block k (by omega)).trans (h.lo k hk),(hb.block _ h.bl.lt).trans h.bl,(hb.block _ h.ba.lt).trans h.ba⟩
theorem FrmI.kept {w0:World} {bl ba a n:Nat} {v:Value} {W W':World} (h:FrmI w0 bl ba a v n W) (hk:rangeStr.KeptM (fun k=>k<w0.heap.size∨k=bl∨k=ba) W W') (h0:w0.heap.size<=W.heap.size):FrmI w0 bl ba a v n W':=by
 refine⟨Nat.le_trans h.sz hk.1,fun k hlt=>?_,hk.2 _ _ h.bl (.inr (.inr (.inl rfl))),hk.2 _ _ h.ba (.inr (.inr (.inr rfl)))⟩;have hx:=h.lo k hlt;obtain⟨o,ho⟩:∃o,W.heap[k]?=some o:=⟨_,Array.getElem?_eq_getElem (by omega)⟩;rw[<-hx,ho];exact hk.2 k o ho (.inr (.inl hlt))
theorem ldframes_any (w:World) (v:Value) (a:Nat) (hv:v.oneCell'=true):Calls prog 63 #[v,.int .u32 (a:Int)] w fun e w'=>e=.returned (.func (.func 124) #[] #[.pointer (some ⟨w.heap.size,0,none⟩),.pointer (some ⟨w.heap.size+1,0,none⟩)])/\w'=(w.alloc (.cells #[v] 51)).alloc (.cells #[.int .u32 (a:Int)] 25):=by
 go_enter func63,ntmps63;go_wp2;go_ret;exact⟨rfl,rfl⟩
theorem frames_all (w0 W0:World) (bl ba a:Nat) (v:Value) (L:List ByteArray) (hv:SeqAt strS w0 v L) (hT:Tab w0) (hs:∀s∈L,s.size<=10000000) (h0:w0.heap.size<=W0.heap.size) (hI:FrmI w0 bl ba a v W0.heap.size W0):
  rangeStr.IterM prog 124 #[.pointer (some ⟨bl,0,none⟩),.pointer (some ⟨ba,0,none⟩)] RdP (fun k=>k<w0.heap.size∨k=bl∨k=ba) (fun _=>False) (hitsP a L) W0:=by
 intro l J W hW hJ hY hj0;have HI:=zY (hI.below hW h0);have HJ:=zY hJ;have HY:=zY hY;have H0:=zY hj0;have HWz:=zY hW.size;have HV:=zY hv;have HT:=zY hT;have HSs:=zY hs;have Hz0:=zY h0;obtain⟨A,c,rfl,_,_⟩:=hv.slice;have c0:=HI.bl.cell;clear hJ hY hj0 hW hI hv hT hs h0;refine callsIn_of_wp func124 rfl trivial ?_ rfl;simp only[ntmps124,List.size_toArray,List.length_cons,List.length_nil,Nat.reduceAdd,Nat.reduceSub,Array.replicate_succ,Array.replicate_zero,List.push_toArray,List.append_toArray,List.nil_append,List.cons_append];gi_wp2;gi_loopw [11] (fun x wr=>∃k:Nat,k<=L.length/\x=.int .i64 (k:Int)/\FrmI w0 bl ba a (.slice A L.length c) W.heap.size wr/\J (hitsP a (L.take k)) wr) (fun x _=>L.length-(intOf x).toNat);case atStart=>exact⟨0,by omega,rfl,⟨Nat.le_refl _,HI.lo,HI.bl,HI.ba⟩,by exact H0.out⟩
 case round=>
 obtain⟨k,hk,rfl,hir,hjr⟩:=hrel;have HIr:=zY hir;have HJr:=zY hjr;clear hir hjr c0 HI H0;by_cases h:k<L.length;{
 have hkI:(k:Int)<L.length:=by omega
 obtain⟨s,hs⟩:∃s,L[k]?=some s:=⟨_,List.getElem?_eq_getElem h⟩;have HGs:=zY hs;have hz:=HSs.out s (List.mem_of_getElem? hs);have HF:=zY (hitsP_take (a:=a) hs);have HSq:=zY (HV.same (Nat.le_trans Hz0.out (Nat.le_trans HWz.out HIr.sz)) HIr.lo);clear hs;obtain⟨_,_,e9,_,_,h4⟩:=HSq.out;cases e9;obtain⟨b,o,cs,rfl,rfl,hc⟩:=h4 k s HGs.out;have c1:wr.cell? ⟨b,o+k,none⟩=some (.string s):=by have:=hc 0 _ rfl;rwa [show o+k*strS.n+0=o+k by rw[show strS.n=1 from rfl];omega]at this
 clear hc h4 HSq;obtain⟨wk,rfl⟩:∃x,x=wr:=⟨_,rfl⟩;gi_wp2;gi_loopw [6] (fun y wx=>∃i:Nat,i<=s.size-767/\y=.int .i64 (i:Int)/\FrmI w0 bl ba a (.slice (some ⟨b,o,none⟩) L.length c) W.heap.size wx/\J (hitsP a (L.take k)++hitsK a (bs s) i) wx) (fun y _=>s.size-(intOf y).toNat);case atStart=>exact⟨0,by omega,rfl,HIr.out,by have:=HJr.out;simpa [hitsK]using this⟩
 case round=>
 obtain⟨i,hi,rfl,hix,hjx⟩:=hrel;have HIx:=zY hix;have HJx:=zY hjx;clear hix hjx c1 HIr HJr;obtain⟨q,hq⟩:=zNm (i+768);have hq1:(i:Int)+768=q:=by omega
 have hq2:IntKind.i64.wrap (q:Int)=q:=zIw (by omega);by_cases h7:q<=s.size;{
 have h7I:(q:Int)<=s.size:=by omega
 have HPl:=zY (fun W=>smplain_any W s i (by omega) (by omega));have HBq:=zY (fun(p:Pln) (hp:HitP a (bs s) i p)=>hit_mark hp);obtain⟨m,hm⟩:=zNm (plAtB (bs s) i);rw[hm]at HPl HBq;have h7b:i<s.size-767:=by omega
 have Hmk:=zY hm;clear hm;gi_wp2_with fail;refine⟨trivial,rfl,?_⟩;gi_at_call 125;refine(callsIn_wide.2 (HPl.out _)).mono ?_;rintro e1 w1 ⟨rfl,rfl⟩;cases m with
 |false=>(
 have HE:=zY (hitsK_none (fun p hp=>by have:=HBq.out p hp;cases this):hitsK a (bs s) (i+1)=hitsK a (bs s) i);clear HPl HBq;gi_wp2;go_roundw;case rel=>exact⟨i+1,by omega,by go_num,HIx.out,by rw[HE.out];exact HJx.out⟩
 case measure=>simp[intOf];omega)
 |true=>
 clear HPl HBq;have HTx:=zY (HT.same (Nat.le_trans Hz0.out (Nat.le_trans HWz.out HIx.sz)) HIx.lo);obtain⟨r,hr⟩:=zNm (i+16);have hr1:(i:Int)+16=r:=by omega
 have hr2:IntKind.i64.wrap (r:Int)=r:=zIw (by omega);have j1:(r:Int)<=(q:Int):=by omega
 have j2:r<=q:=by omega
 obtain⟨C,hC⟩:=zNm (s.extract r q);have hCz:C.size<=100000:=by rw[<-hC,ByteArray.size_extract];omega
 have HCb:Hid (((bs s).drop (i+16)).take 752=bs C):=zY (by rw[<-hit_cut,hr,hq,hC]);have HD:=zY (pldec_any wr C hCz HTx.out);have H7:=zY (And.intro h7 h7b);have HzI:Hid (w0.heap.size<=wr.heap.size):=zY (Nat.le_trans Hz0.out (Nat.le_trans HWz.out HIx.sz));have HLn:Hid (i+768<=s.size):=zY (by omega);clear hCz h7b hr hq HTx;gi_wp2_with fail;refine⟨trivial,rfl,?_⟩;gi_at_call 126;refine(callsIn_wide.2 HD.out).mono ?_;rintro e2 w2 ⟨⟨⟨pa,pi,pt,px⟩,n,rfl,hp1,hp2⟩,hb2⟩;dsimp only[Pln.cells];have HHit:Hid (n=0->pa=a->HitP a (bs s) i ⟨pa,pi,pt,px⟩):=zY (fun h0 h1=>⟨by rw[bs_len];exact HLn.out,by have:=Hmk.out;rwa [plAtB,beq_iff_eq]at this,by rw[HCb.out];exact hp1 h0,h1⟩);have HNo:Hid (¬(n=0/\pa=a)->∀p,¬HitP a (bs s) i p):=zY (fun hne p hp=>by
  have h1:=hp.2.2.1
  rw[HCb.out]at h1
  by_cases h0:n=0
  ·exact hne ⟨h0,(congrArg Pln.a ((hp1 h0).one h1)).trans hp.2.2.2⟩
  ·exact hp2 h0 _ h1);have HK:Hid (Blk (w2.alloc (.cells #[.int .u32 (pa:Int),.int .i64 (pi:Int),.int .i64 (pt:Int),.string px] 124)) w2.heap.size 124 [.int .u32 (pa:Int),.int .i64 (pi:Int),.int .i64 (pt:Int),.string px]):=zY (Blk.new w2 124 [.int .u32 (pa:Int),.int .i64 (pi:Int),.int .i64 (pt:Int),.string px]);have hb3:=hb2.alloc hb2.size (.cells #[.int .u32 (pa:Int),.int .i64 (pi:Int),.int .i64 (pt:Int),.string px] 124);have HI3:=zY (HIx.below hb3 HzI.out);have HJ3:=zY (HJ.out _ _ _ HJx.out HIx.sz (rangeOwn.Aside.of_below hb3 HIx.sz));have Hz3:Hid (w0.heap.size<=(w2.alloc (.cells #[.int .u32 (pa:Int),.int .i64 (pi:Int),.int .i64 (pt:Int),.string px] 124)).heap.size):=zY (Nat.le_trans HzI.out hb3.size);clear hp1 hp2 hb2 hb3 HD HIx HJx HzI HCb Hmk HLn;gi_upto_region 8 with fail;generalize w2.alloc (.cells #[.int .u32 (pa:Int),.int .i64 (pi:Int),.int .i64 (pt:Int),.string px] 124)=w3 at *;generalize w2.heap.size=g at *;have c0:=HK.c 0;have ca:=HI3.ba.cell;by_cases hit:n=0/\pa=a;{
 have hh:=HHit.out hit.1 hit.2;obtain⟨rfl,rfl⟩:=hit;have HE:=zY (hitsK_some hh);have hpre:=hits_pre HGs.out (show i+1<=s.size-767 by have:=H7.2;omega) (a:=pa);rw[HE.out,<-List.append_assoc]at hpre;have c1:=HK.c 1;have c2:=HK.c 2;have c3:=HK.c 3;obtain⟨fn,tmps,assign,body,hy,hR⟩:=HY.out (hitsP pa (L.take k)++hitsK pa (bs s) i) ⟨pa,pi,pt,px⟩ #[.agg #[.int .u32 (pa:Int),.int .i64 (pi:Int),.int .i64 (pt:Int),.string px]] w3 HJ3.out rfl hpre;have HR:=zY hR;clear hR hpre hh HHit HNo;gi_wp2;refine⟨rfl,HR.mono ?_⟩;rintro e W1 ⟨rfl,hj1,hk1⟩;have HJ4:=zY hj1;have HI4:=zY (HI3.kept hk1 Hz3.out);clear hj1 hk1 c0 c1 c2 c3 ca;gi_wp2;go_roundw;case rel=>exact⟨i+1,by have:=H7.2;omega,by go_num,HI4.out,by rw[HE.out,<-List.append_assoc];exact HJ4.out⟩
 case measure=>have:=H7.2;simp[intOf];omega};{
 have HE:Hid (hitsK a (bs s) (i+1)=hitsK a (bs s) i):=zY (hitsK_none (HNo.out hit));by_cases h0:n=0;{
 have f1:((pa:Int)==(a:Int))=false:=by rw[beq_eq_false_iff_ne];intro e;exact hit ⟨h0,by omega⟩
 subst h0;clear hit;gi_wp2;refine⟨fun f h=>(by cases h),?_⟩;gi_wp2;go_roundw;case rel=>exact⟨i+1,by have:=H7.2;omega,by go_num,HI3.out,by rw[HE.out];exact HJ3.out⟩
 case measure=>have:=H7.2;simp[intOf];omega};{
 have f1:(n==0)=false:=by rw[beq_eq_false_iff_ne];exact h0
 clear hit;gi_wp2;refine⟨fun f h=>(by cases h),?_⟩;gi_wp2;go_roundw;case rel=>exact⟨i+1,by have:=H7.2;omega,by go_num,HI3.out,by rw[HE.out];exact HJ3.out⟩
 case measure=>have:=H7.2;simp[intOf];omega}}};{
 have h7I:¬(q:Int)<=s.size:=by omega
 have HE:Hid (hitsK a (bs s) i=hitsS a (bs s)):=zY (by unfold hitsS;rw[bs_len,show i=s.size-767 by omega]);gi_wp2;go_roundw;case rel=>exact⟨k+1,by omega,by go_num,HIx.out,by rw[HF.out,<-HE.out];exact HJx.out⟩
 case measure=>simp[intOf];omega}};{
 obtain rfl:k=L.length:=by omega
 have hkI:¬((L.length:Nat):Int)<(L.length:Int):=by omega
 have HE:Hid (L.take L.length=L):=zY (List.take_length);gi_wp2;have key:J (hitsP a L) wr:=by have:=HJr.out;rwa [HE.out]at this
 go_end0;exact⟨⟨_,rfl⟩,key⟩}
end
section
open Go.RowKit Go.Shelf Go.Maps
attribute [local go_sem] Oper.semAt_some
structure TxD (D:DataW Unit) (X:Nat->ByteArray) (n:Nat):Prop where
 isMap:IsMap D
 has_:∀i:Nat,Maps.has D (.int .i64 (i:Int))=decide (i<n)
 at_:∀i:Nat,i<n->∀z,D.atKey (.int .i64 (i:Int)) z=.lit (.string (X i).data.toList)
theorem ne_key {i n:Nat} (e:¬i=n):(Lit.int .i64 (i:Int))≠.int .i64 (n:Int):=fun h=>e (by have:=(Lit.int.inj h).2;omega)
theorem TxD.empty (X:Nat->ByteArray):TxD (.map []) X 0:=⟨isMap_empty,fun _=>rfl,fun i hi=>absurd hi (by omega)⟩
theorem TxD.put {D:DataW Unit} {X:Nat->ByteArray} {n:Nat} (h:TxD D X n):TxD (D.put (.int .i64 (n:Int)) (.lit (.string (X n).data.toList))) X (n+1):=by
 refine⟨h.isMap.put _ _,fun i=>?_,fun i hi z=>?_⟩;{
 by_cases e:i=n;{
 subst e;rw[has_put_same (k:=.int .i64 (i:Int)) h.isMap trivial];simp};{
 rw[has_put_other (ne_key e),h.has_];exact decide_eq_decide.2 (by omega)}};{
 by_cases e:i=n;{
 subst e;rw[atKey_put_same (k:=.int .i64 (i:Int)) h.isMap trivial]};{rw[atKey_put_other (ne_key e),h.at_ i (by omega)]}}
theorem map_same {A B:World} {k:TypeId} {R:Value->Option (DataW Unit×List MemPlace)} {b n:Nat} {D:DataW Unit} (h:A.ownsMap prog k R b n D) (e:B.heap[b]?=A.heap[b]?):B.ownsMap prog k R b n D:=by
 obtain⟨es,clock,hb,hr⟩:=h;exact⟨es,clock,e.trans hb,hr⟩
theorem keyIS:Keyed prog 3:=int_keyed underlying3
theorem zeroElS (W:World):(zeroValue 9).run prog W=.ok (.string ⟨#[]⟩) W:=zeroValue9 W
theorem keyS (i:Nat) (h:i<1000000):keyOf prog 3 (.int .i64 (i:Int))=some (.int .i64 (i:Int)):=keyOf_int_mk underlying3 (WalkArith.wf_i64 (by omega))
theorem tx_look {W:World} {b n:Nat} {D:DataW Unit} {X:Nat->ByteArray} (h:W.ownsMap prog 3 (plainElem prog 9) b n D) (hD:TxD D X n) (i:Nat) (hi:i<1000000):∃s:ByteArray,(Instr.lookup 128 (.map (some b)) (.int .i64 (i:Int)) true).run prog W=.ok (.tuple #[.string s,.bool (decide (i<n))]) W/\(i<n->s=X i):=by
 obtain⟨v,ps,hr,hv⟩:=h.look_ok keyIS underlying128 (zeroElS W) (plainElem_string underlying9 (s:=⟨#[]⟩) (by decide)) (keyS i hi);obtain⟨s,rfl,hz,_⟩:=plainElem_string_inv underlying9 hv;rw[hD.has_]at hr;refine⟨s,hr,fun hin=>?_⟩;have h1:=(Prod.mk.inj hz).1;rw[hD.at_ i hin]at h1;have h2:(X i).data.toList=s.data.toList:=by simpa using h1
 have h3:(X i).data=s.data:=Array.toList_inj.1 h2;cases s;cases e:X i;rw[e]at h3;exact congrArg ByteArray.mk h3.symm
theorem tx_put {W:World} {b n:Nat} {D:DataW Unit} {X:Nat->ByteArray} (h:W.ownsMap prog 3 (plainElem prog 9) b n D) (hD:TxD D X n) (hn:n<1000000) (hX:(X n).size<=1000000):∃W',(Instr.mapUpdate 128 (.map (some b)) (.int .i64 (n:Int)) (.string (X n))).run prog W=.ok () W'/\(∃D',W'.ownsMap prog 3 (plainElem prog 9) b (n+1) D'/\TxD D' X (n+1))/\W.grownBy W' (some b):=by
 obtain⟨W',hr,h1,h2⟩:=h.update keyIS underlying128 (by unfold maxLen;omega) (keyS n hn) (plainElem_string underlying9 (s:=X n) (by unfold maxLen;omega));exact⟨W',hr,⟨_,h1,hD.put⟩,h2⟩
structure LdI (w:World) (T:Nat) (X:Nat->ByteArray) (n:Nat) (W:World):Prop where
 below:Below w.heap.size w W
 r4:Boxed W w.heap.size 9 (.string ⟨#[]⟩)
 r5:Boxed W (w.heap.size+1) 65 (.slice none 0 0)
 r6:Boxed W (w.heap.size+1+1) 33 (.int .i64 0)
 map:∃D,W.ownsMap prog 3 (plainElem prog 9) (w.heap.size+1+1+1) n D/\TxD D X n
 tot:Boxed W (w.heap.size+1+1+1+1) 3 (.int .i64 ((if n=0 then 0 else T:Nat):Int))
 tx:Boxed W (w.heap.size+1+1+1+1+1) 128 (.map (some (w.heap.size+1+1+1)))
theorem LdI.same {w A B:World} {T n:Nat} {X:Nat->ByteArray} (h:LdI w T X n A) (hb:Below w.heap.size w B) (hs:∀k,w.heap.size<=k->k<w.heap.size+6->B.heap[k]?=A.heap[k]?):LdI w T X n B:=by
 obtain⟨D,h1,h2⟩:=h.map;exact⟨hb,(hs _ (by omega) (by omega)).trans h.r4,(hs _ (by omega) (by omega)).trans h.r5,(hs _ (by omega) (by omega)).trans h.r6,⟨D,map_same h1 (hs _ (by omega) (by omega)),h2⟩,(hs _ (by omega) (by omega)).trans h.tot,(hs _ (by omega) (by omega)).trans h.tx⟩
theorem LdI.aside {w A B:World} {T n m:Nat} {X:Nat->ByteArray} (h:LdI w T X n A) (ha:rangeOwn.Aside (fun _=>False) m A B) (hm:w.heap.size+6<=m):LdI w T X n B:=
 h.same ⟨ha.os.trans h.below.os,ha.tape.trans h.below.tape,ha.output.trans h.below.output,Nat.le_trans h.below.size ha.size,fun k hk=>(ha.low k (by omega) (fun e=>e)).trans (h.below.block k hk)⟩ (fun k _ hk=>ha.low k (by omega) (fun e=>e))
theorem ld_step {w wq W':World} {T n:Nat} {X:Nat->ByteArray} (h:LdI w T X n wq) (hg:(wq.setCell ⟨w.heap.size+1+1+1+1,0,none⟩ (.int .i64 (T:Int))).grownBy W' (some (w.heap.size+1+1+1)))
  (hm:∃D',W'.ownsMap prog 3 (plainElem prog 9) (w.heap.size+1+1+1) (n+1) D'/\TxD D' X (n+1)):LdI w T X (n+1) W':=by
 have hlt:=h.tx.lt;have hs:∀k,k<wq.heap.size->k≠w.heap.size+1+1+1->k≠w.heap.size+1+1+1+1->W'.heap[k]?=wq.heap[k]?:=fun k h1 h2 h3=>
  (hg.block k (by simpa using h1) (fun e=>h2 (Option.some.inj e))).trans (Below.heap_setCell _ ⟨w.heap.size+1+1+1+1,0,none⟩ _ k h3);have hb1:=h.below.setCell (p:=⟨w.heap.size+1+1+1+1,0,none⟩) (show w.heap.size<=w.heap.size+1+1+1+1 by omega) (.int .i64 (T:Int));refine⟨hb1.grown hg hb1.size (fun k hk=>by have:=Option.some.inj hk;omega),(hs _ (by omega) (by omega) (by omega)).trans h.r4,(hs _ (by omega) (by omega) (by omega)).trans h.r5,(hs _ (by omega) (by omega) (by omega)).trans h.r6,hm,?_,(hs _ (by omega) (by omega) (by omega)).trans h.tx⟩;rw[if_neg (by omega)];have h1:Boxed (wq.setCell ⟨w.heap.size+1+1+1+1,0,none⟩ (.int .i64 (T:Int))) (w.heap.size+1+1+1+1) 3 (.int .i64 (T:Int)):=Boxed.set _ h.tot;exact(hg.block _ h1.lt (fun e=>by have:=Option.some.inj e;omega)).trans h1
theorem ld_kept {w W wq W':World} {T n bl ba:Nat} {X:Nat->ByteArray} {u:Value} (h:LdI w T X n W) (hq:Below W.heap.size W wq) (hg:(wq.setCell ⟨w.heap.size+1+1+1+1,0,none⟩ u).grownBy W' (some (w.heap.size+1+1+1))) (hbl:w.heap.size+6<=bl) (hba:w.heap.size+6<=ba):
  rangeStr.KeptM (fun k=>k<w.heap.size∨k=bl∨k=ba) W W':=by
 refine⟨Nat.le_trans hq.size (by have:=hg.size;simpa using this),fun k o hk ho=>?_⟩;have hlt:=(Array.getElem?_eq_some_iff.1 hk).1;obtain⟨D,⟨es,clock,hm,_⟩,_⟩:=h.map;have h3:k≠w.heap.size+1+1+1:=fun e=>by
  subst e
  rcases ho with ho|ho
  {
  rw[hm]at hk
  cases hk
  cases ho}
  ·omega
 have h4:k≠w.heap.size+1+1+1+1:=fun e=>by
  subst e
  rcases ho with ho|ho
  {
  rw[show W.heap[w.heap.size+1+1+1+1]?=_ from h.tot]at hk
  cases hk
  cases ho}
  ·omega
 exact(hg.block k (by simpa using Nat.lt_of_lt_of_le hlt hq.size) (fun e=>h3 (Option.some.inj e))).trans ((Below.heap_setCell _ ⟨w.heap.size+1+1+1+1,0,none⟩ _ k h4).trans ((hq.block k hlt).trans hk))
theorem run_loadVar1 {P:Program} {w:World} {t:TypeId} {ad:Addr} {u:Value} (ha:(isAgg t).run P w=.ok false w) (hc:w.cell? ad=some u):(loadVar t ad).run P w=.ok u w:=by
 simp[loadVar,Sem.run_bind,ha,hc,Result.andThen,go_sem]
theorem results_cell3 {P:Program} {fn:Func} {p q r:Tmp} {tp tq tr:TypeId} {a b c:Addr} {u v z:Value} (h:fn.results= #[.cell p tp,.cell q tq,.cell r tr]) (tmps:Array Value) (w:World)
  (hp:tmps.getD p undef=.pointer (some a)) (hq:tmps.getD q undef=.pointer (some b)) (hr:tmps.getD r undef=.pointer (some c))
  (h1:(loadVar tp a).run P w=.ok u w) (h2:(loadVar tq b).run P w=.ok v w) (h3:(loadVar tr c).run P w=.ok z w):
  (results fn tmps).run P w=.ok (.tuple #[u,v,z]) w:=by
 have hp':tmps[p]?.getD undef=.pointer (some a):=by simpa using hp
 have hq':tmps[q]?.getD undef=.pointer (some b):=by simpa using hq
 have hr':tmps[r]?.getD undef=.pointer (some c):=by simpa using hr
 simp only[results,h];simp[Sem.run_bind,hp',hq',hr',asAddr,Result.andThen,h1,h2,h3]
theorem padT_bytes (x:ByteArray) (i:Nat):Bytes (padT x i):=fun c hc=>by
 obtain⟨d,_,rfl⟩:=List.mem_map.1 (List.mem_of_mem_take hc)
 exact UInt8.toNat_lt d
theorem six_new (w:World) (o0 o1 o2 o3 o4 o5:Obj):∃W,((((((w.alloc o0).alloc o1).alloc o2).alloc o3).alloc o4).alloc o5)=W/\W.heap[w.heap.size]?=some o0/\W.heap[w.heap.size+1]?=some o1/\W.heap[w.heap.size+1+1]?=some o2/\W.heap[w.heap.size+1+1+1]?=some o3/\W.heap[w.heap.size+1+1+1+1]?=some o4/\W.heap[w.heap.size+1+1+1+1+1]?=some o5/\Below w.heap.size w W/\W.heap.size=w.heap.size+6:=by
 have s0:=World.alloc_heap_new w o0;have s1:=World.alloc_heap_new (w.alloc o0) o1;have s2:=World.alloc_heap_new ((w.alloc o0).alloc o1) o2;have s3:=World.alloc_heap_new (((w.alloc o0).alloc o1).alloc o2) o3;have s4:=World.alloc_heap_new ((((w.alloc o0).alloc o1).alloc o2).alloc o3) o4;have s5:=World.alloc_heap_new (((((w.alloc o0).alloc o1).alloc o2).alloc o3).alloc o4) o5;simp only[World.size_alloc]at s1 s2 s3 s4 s5;refine⟨_,rfl,?_,?_,?_,?_,?_,s5,?_,by simp⟩;{repeat (first|exact s0|rw[Below.heap_alloc _ _ _ (by simp only[World.size_alloc];omega)])};{repeat (first|exact s1|rw[Below.heap_alloc _ _ _ (by simp only[World.size_alloc];omega)])};{repeat (first|exact s2|rw[Below.heap_alloc _ _ _ (by simp only[World.size_alloc];omega)])};{repeat (first|exact s3|rw[Below.heap_alloc _ _ _ (by simp only[World.size_alloc];omega)])};{repeat (first|exact s4|rw[Below.heap_alloc _ _ _ (by simp only[World.size_alloc];omega)])};{exact(((((zBl w _).alloc (by simp) _).alloc (by simp;omega) _).alloc (by simp;omega) _).alloc (by simp;omega) _).alloc (by simp;omega) _}
def ldTmps (v:Value) (w:World) (a bl:Nat) (q:Value) (p:Value):Array Value:=
 #[v, .int .u32 (a : Int), undef, undef, .pointer (some ⟨w.heap.size, 0, none⟩), .pointer (some ⟨w.heap.size + 1, 0, none⟩), .pointer (some ⟨w.heap.size + 1 + 1, 0, none⟩), .pointer (some ⟨w.heap.size + 1 + 1 + 1 + 1, 0, none⟩), .pointer (some ⟨w.heap.size + 1 + 1 + 1 + 1 + 1, 0, none⟩), q] ++
 (Array.replicate 7 undef++ #[.map (some (w.heap.size+1+1+1)),v,.int .u32 (a:Int),.func (.func 124) #[] #[.pointer (some ⟨bl,0,none⟩),.pointer (some ⟨bl+1,0,none⟩)],p]++Array.replicate 57 undef)
theorem ldload_ok (w:World) (v:Value) (L:List ByteArray) (a:Nat) (x:ByteArray) (hv:SeqAt strS w v L) (hs:∀s∈L,s.size<=10000000) (hT:Tab w) (hH:hitsP a L=plnsL a x) (hx:1<=plnT x/\plnT x<=1000):Calls prog 25 #[v,.int .u32 (a:Int)] w fun e w'=>e=.returned (.tuple #[.string (padS x),.slice none 0 0,.int .i64 0])/\Below w.heap.size w w':=by
 have hone:=hv.one;obtain⟨X,hX⟩:∃X:Nat->ByteArray,(fun i=>(plnAt a x i).x)=X:=⟨_,rfl⟩;obtain⟨T,hTe⟩:=zNm (plnT x);have HPx:Hid (∀(pre:List Pln) (p:Pln),(pre++[p]) <+: plnsL a x->pre.length<T/\p=⟨a,pre.length,T,X pre.length⟩):=zY (fun pre p h=>by
  have h1:(plnsL a x)[pre.length]?=some p:=by
   obtain⟨t,ht⟩:=h
   rw[<-ht,List.append_assoc,List.getElem?_append_right (Nat.le_refl _)]
   simp
  unfold plnsL at h1
  rw[List.getElem?_map]at h1
  by_cases hlt:pre.length<plnT x
  {
  rw[List.getElem?_range hlt]at h1
  refine⟨by rw[<-hTe];exact hlt,?_⟩
  rw[<-hX,<-hTe]
  exact(Option.some.inj h1).symm}
  ·rw[List.getElem?_eq_none (by rw[List.length_range];omega)]at h1
   cases h1);have HXz:Hid (∀i,(X i).size<=64):=zY (fun i=>by rw[<-hX];show ((padS x).extract _ _).size<=64;rw[ByteArray.size_extract];omega);have HTx:Hid (∀i,i<T->padT x (i+1)=padT x i++bs (X i)):=zY (fun i _=>by rw[<-hX];exact padT_succ a x i);have HTa:Hid (strB (padT x T)=padS x):=zY (by rw[<-hTe];exact padT_all x);have HTl:Hid ((plnsL a x).length=T):=zY (by unfold plnsL;rw[List.length_map,List.length_range];exact hTe);rw[hTe]at hx;obtain⟨w2,hw2,q0,q1,q2,q3,q4,q5,hB2,hz2⟩:=six_new w (.cells #[.string ⟨#[]⟩] 9) (.cells #[.slice none 0 0] 65) (.cells #[.int .i64 0] 33) (.map #[] 0) (.cells #[.int .i64 0] 3) (.cells #[.map (some (w.heap.size+1+1+1))] 128);have hM0:w2.ownsMap prog 3 (plainElem prog 9) (w.heap.size+1+1+1) 0 (.map []:DataW Unit):=⟨#[],0,q3,by
  obtain⟨es,clock,hb,F,_,_⟩:=World.ownsMap_made (H:=Unit) w prog 3 (plainElem prog 9)
  rw[World.alloc_heap_new]at hb
  cases hb
  exact F,Nat.le_refl _,rfl⟩;have hI0:LdI w T X 0 w2:=⟨hB2,q0,q1,q2,⟨_,hM0,TxD.empty X⟩,q4,q5⟩;have HI0:=zY hI0;have Hz2:=zY hz2;have Hw2:=zY hw2;have Hv:=zY hv;have Hs:=zY hs;have HT:=zY hT;have HH:=zY hH;obtain⟨A,c,rfl,_,_⟩:=hv.slice;clear hI0 hM0 q0 q1 q2 q3 q4 q5 hB2 hz2 hX hTe hw2 hv hs hT hH;refine(callsIn_wide (n:=0)).1 ?_;refine callsIn_of_wp_marks func25 rfl trivial ?_ rfl;simp only[ntmps25,List.size_toArray,List.length_cons,List.length_nil,Nat.reduceAdd,Nat.reduceSub,Array.replicate_succ,Array.replicate_zero,List.push_toArray,List.append_toArray,List.nil_append,List.cons_append];have hmm:= @run_makeMap prog;gi_upto_region 2 with fail;rw[Hw2.out];clear hmm;gi_wp2_with fail;refine⟨trivial,rfl,?_⟩;gi_at_call 63;refine(callsIn_wide.2 (ldframes_any w2 _ a hone)).mono ?_;rintro e3 w3 ⟨rfl,hw3⟩;have hsz:w3.heap.size=w2.heap.size+2:=by rw[hw3];simp
 have hb3:Below w2.heap.size w2 w3:=by rw[hw3];exact((Below.refl _ _).alloc (Nat.le_refl _) _).alloc (by simp) _
 have hFI:FrmI w w2.heap.size (w2.heap.size+1) a (.slice A L.length c) w3.heap.size w3:=by{
 refine⟨Nat.le_refl _,fun k hk=>?_,?_,?_⟩;{
 have h6:=Hz2.out;exact(hb3.block k (by omega)).trans (HI0.below.block k hk)};{rw[hw3];exact(Blk.new w2 51 [.slice A L.length c]).alloc _};{
 rw[hw3];have:=Boxed.new (w2.alloc (.cells #[.slice A L.length c] 51)) 25 (.int .u32 (a:Int));simpa using this}};have h6:=Hz2.out;have hI3:LdI w T X 0 w3:=HI0.same (HI0.below.trans (hb3.mono HI0.below.size)) (fun k h1 h2=>hb3.block k (by omega));have hIt:=frames_all w w3 w2.heap.size (w2.heap.size+1) a (.slice A L.length c) L Hv.out HT.out Hs.out (by omega) hFI;rw[HH.out]at hIt;have HI3:=zY hI3;have HIt:=zY hIt;have Hsz:=zY hsz;clear hsz hb3 hFI hw3 h6 hI3 hIt;gi_wp2;have hsz:=Hsz.out;have h6:=Hz2.out;refine rangeStr.wpIn_rangeFunc_boxM (gf:=124) (lb:= #[.pointer (some ⟨w2.heap.size,0,none⟩),.pointer (some ⟨w2.heap.size+1,0,none⟩)]) rfl (enters_of func124 (by kernel_rfl) rfl) HIt.out
  (fun k hk=>hk.elim) (fun x args W hr=>by rw[hr];rfl)
  (fun args W=>{ tmps:=ldTmps (.slice A L.length c) w a w2.heap.size (.pointer (some ⟨W.heap.size,0,none⟩)) (args.getD 0 undef),defers:=[] })
  (fun args W=>W.alloc (.cells (match args.getD 0 undef with|.agg cs=>cs|_=> #[]) 124)) (fun args W=>(Below.refl _ _).alloc (Nat.le_refl _) _)
  (fun pre=>LdI w T X pre.length)
  (fun p _ a' W=>∃g,a'={ tmps:=ldTmps (.slice A L.length c) w a w2.heap.size (.pointer (some ⟨g,0,none⟩)) (.agg p.cells.toArray),defers:=[] }/\Blk W g 124 p.cells/\w3.heap.size<=g)
  (fun pre p args W hsW _ hr=>by
   rw[hr]
   exact⟨W.heap.size,rfl,Blk.new W 124 p.cells,by omega⟩)
  (fun p args a' A' B hb _ ha=>by
   obtain⟨g,e,h1,h2⟩:=hb
   exact⟨g,e,ha.cells _ _ (fun h=>h) h1 rfl,h2⟩)
  (fun pre A' B hi _ ha=>hi.aside ha (by omega)) HI3.out ?assign ?body ?done;case assign=>intro l p args W K hr hK;clear hsz h6;rw[hr]at hK⊢;obtain⟨pa,pi,pt,px⟩:=p;simp only[ldTmps,Pln.cells,Array.getD,List.size_toArray,List.length_cons,List.length_nil,Nat.zero_add,Nat.lt_add_one,dite_true,List.getElem_toArray,List.getElem_cons_zero,Array.getInternal_eq_getElem,Array.replicate_succ,Array.replicate_zero,List.push_toArray,List.append_toArray,List.nil_append,List.cons_append]at hK⊢;gi_wp2;exact hK
 case body=>(
 intro l pre p args a' W hsW hI hbd hpre;obtain⟨g,rfl,hdat,hgg⟩:=hbd;obtain⟨hlt,rfl⟩:=HPx.out pre p hpre;have HG:Hid ((pre++[(⟨a,pre.length,T,X pre.length⟩:Pln)]).length=pre.length+1):=zY (by simp);have Hbl:Hid (w.heap.size+6<=w2.heap.size/\w.heap.size+6<=w2.heap.size+1):=zY (by omega);have Hgw:Hid (w.heap.size+6<=g):=zY (by omega);generalize hn:pre.length=n at *;change Blk W g 124 [.int .u32 (a:Int),.int .i64 (n:Int),.int .i64 (T:Int),.string (X n)]at hdat;have HW:=zY hI;have HD:=zY hdat;have HsW:=zY hsW;obtain⟨D,hM,hD⟩:=hI.map;obtain⟨s0,hlk,_⟩:=tx_look hM hD n (by omega);rw[decide_eq_false (Nat.lt_irrefl n)]at hlk;obtain⟨t,ht⟩:∃t:Nat,(if n=0 then 0 else T)=t:=⟨_,rfl⟩;have htot:=hI.tot;rw[ht]at htot;have hto:0=t∨T=t:=by rw[<-ht];split<;>simp
 have hT0:((T:Int) != 0)=true:=by rw[bne_iff_ne];omega
 have HM:=zY hM;have HDd:=zY hD;have Htot:=zY htot;have ct:=htot.cell;have cx:=hI.tx.cell;have c1:=hdat.c 1;have c2:=hdat.c 2;have c3:=hdat.c 3;have Hlt:=zY hlt;have HXn:=zY (HXz.out n);clear hn hpre hI hdat hgg hsW hM hD ht htot hsz h6 hlt HIt;simp only[ldTmps,Pln.cells,Array.replicate_succ,Array.replicate_zero,List.push_toArray,List.append_toArray,List.nil_append,List.cons_append];rcases hto with rfl|rfl;all_goals
 gi_upto_region 7 with fail;clear ct cx c1 c2 c3 hlk;obtain⟨wq,hwq⟩:=zNm (W.drew);have hbq:Below W.heap.size W wq:=by rw[<-hwq];exact(Below.refl _ _).drew
 have HIq:Hid (LdI w T X n wq):=zY (HW.same (HW.below.trans (hbq.mono HW.below.size)) (fun k h1 h2=>hbq.block k (by have h5:=HsW.out;have h6:=Hsz.out;have h7:=Hz2.out;omega)));have HDq:=zY (HD.kept hbq);have HBq:=zY hbq;have HMq:=zY (map_same HM.out (hbq.block _ HM.lt));have Htq:Hid (Boxed wq (w.heap.size+1+1+1+1) 3 _):=zY ((hbq.block _ Htot.lt).trans Htot.out);have HM5:=zY (HMq.setCell (a:=⟨w.heap.size+1+1+1+1,0,none⟩) (show w.heap.size+1+1+1≠w.heap.size+1+1+1+1 by omega) (.int .i64 (T:Int)));have Hput:=zY (tx_put HM5.out HDd.out (by have:=Hlt.out;omega) (by have:=HXn.out;omega));have HS5:Hid ((fun W'=>W'.cell? ⟨w.heap.size+1+1+1+1+1,0,none⟩=some (.map (some (w.heap.size+1+1+1)))/\W'.cell? ⟨g,1,none⟩=some (.int .i64 (n:Int))/\W'.cell? ⟨g,2,none⟩=some (.int .i64 (T:Int))/\W'.cell? ⟨g,3,none⟩=some (.string (X n))) (wq.setCell ⟨w.heap.size+1+1+1+1,0,none⟩ (.int .i64 (T:Int)))):=zY (by
  have hx:=(show Blk wq (w.heap.size+1+1+1+1+1) 128 [.map (some (w.heap.size+1+1+1))] from HIq.tx).far (p:=⟨w.heap.size+1+1+1+1,0,none⟩) (show w.heap.size+1+1+1+1+1≠w.heap.size+1+1+1+1 by omega) (.int .i64 (T:Int))
  have hd:=HDq.far (p:=⟨w.heap.size+1+1+1+1,0,none⟩) (show g≠w.heap.size+1+1+1+1 by have:=Hgw.out;omega) (.int .i64 (T:Int))
  exact⟨hx.c 0,hd.c 1,hd.c 2,hd.c 3⟩);have HS5b:=zY (And.intro ((show Blk wq (w.heap.size+1+1+1+1+1) 128 [.map (some (w.heap.size+1+1+1))] from HIq.tx).far (p:=⟨w.heap.size+1+1+1+1,0,none⟩) (show w.heap.size+1+1+1+1+1≠w.heap.size+1+1+1+1 by omega) (.int .i64 (T:Int))) (HDq.far (p:=⟨w.heap.size+1+1+1+1,0,none⟩) (show g≠w.heap.size+1+1+1+1 by have:=Hgw.out;omega) (.int .i64 (T:Int))));clear hbq;refine rangeStr.wpIn_region_held (S:=fun W'=>W'.cell? ⟨w.heap.size+1+1+1+1+1,0,none⟩=some (.map (some (w.heap.size+1+1+1)))/\W'.cell? ⟨g,1,none⟩=some (.int .i64 (n:Int))/\W'.cell? ⟨g,2,none⟩=some (.int .i64 (T:Int))/\W'.cell? ⟨g,3,none⟩=some (.string (X n))) (by kernel_rfl) (by kernel_rfl) (fun _ _ h=>h) ?_ (fun hHeld=>?_);{
 rw[hwq];exact⟨HIq.tx.cell,HDq.c 1,HDq.c 2,HDq.c 3⟩};rw[hwq]at hHeld⊢;clear hwq;refine tk 0 ?_;refine tk 1 ?_;refine tk 2 ?_;refine tk 3 ?_;refine tk 4 ?_;refine tk 5 ?_;refine tk 6 ?_;refine zE1 7 fun K hK=>?_;have qc:=Htq.cell;have qf:=Htq.frozen;go_simp;clear qc qf;refine hko hK (by exact HS5.out) (fun _=>?_);clear hK K;refine zE1 8 fun K hK=>?_;obtain⟨W9,hrun,hm9,hg9⟩:=Hput.out;have Hm9:=zY hm9;have Hg9:=zY hg9;clear hm9 hg9;go_simp;clear hrun;refine hko hK (by exact⟨(Blk.grownB HS5b.1 Hg9.out (by simp)).c 0,(Blk.grownB HS5b.2 Hg9.out (by have:=Hgw.out;simp;omega)).c 1,(Blk.grownB HS5b.2 Hg9.out (by have:=Hgw.out;simp;omega)).c 2,(Blk.grownB HS5b.2 Hg9.out (by have:=Hgw.out;simp;omega)).c 3⟩) (fun _=>?_);clear hK K;refine wpAnyH_done (by kernel_rfl) ?_ _;refine(show rangeStr.KeptM (fun k=>k<w.heap.size∨k=w2.heap.size∨k=w2.heap.size+1) W W9/\LdI w T X (pre++[(⟨a,n,T,X n⟩:Pln)]).length W9 from ?_);rw[HG.out];exact⟨ld_kept HW.out HBq.out Hg9.out Hbl.1 Hbl.2,ld_step HIq.out Hg9.out Hm9.out⟩)
 case done=>
 intro D W hD hI hk;rw[HTl.out]at hI;have hzD:w3.heap.size<=D:=hD;have hWz:D<W.heap.size:=(Array.getElem?_eq_some_iff.1 hk).1;have HI:=zY hI;have Hk:=zY hk;have Hzz:Hid (w.heap.size+6<=W.heap.size/\w.heap.size+6<=D):=zY (by omega);obtain⟨Dm,hM,hDm⟩:=hI.map;have HM:=zY hM;have HDm:=zY hDm;have htot:=hI.tot;rw[if_neg (show ¬T=0 by omega)]at htot;have ct:=htot.cell;have hT0:((T:Int)==0)=false:=by rw[beq_eq_false_iff_ne];omega
 have HBl0:Hid (Bld (W.alloc (.cells #[.pointer none,.slice none 0 0] 135)) W.heap.size W.heap.size (padT x 0)):=zY (Bld.new W);have HB0:=zY (zBl W (.cells #[.pointer none,.slice none 0 0] 135));clear hM hDm hI hk hD hzD hWz hsz h6 HIt HI3 HI0 htot;gi_upto_region 11 with fail;generalize hwb:W.alloc (.cells #[.pointer none,.slice none 0 0] 135)=wb at *;have ct2:=cell_below HB0.out ct;clear ct;gi_wp2;gi_loopw [13,56] (fun m y wr=>∃i:Nat,i<=T/\y=.int .i64 (i:Int)/\m=.slice none 0 0/\Bld wr W.heap.size W.heap.size (padT x i)/\Below W.heap.size W wr) (fun _ y _=>T-(intOf y).toNat);case atStart=>exact⟨0,by omega,rfl,rfl,HBl0.out,HB0.out⟩
 case round=>
 obtain⟨i,hi,rfl,rfl,hbl,hbe⟩:=hrel;have HBl:=zY hbl;have HB:=zY hbe;clear hbl hbe HBl0 HB0 ct2;by_cases h:i<T;{
 have hiI:(i:Int)<T:=by omega
 obtain⟨s0,hlk,hs0⟩:=tx_look (map_same HM.out (HB.block _ HM.lt)) HDm.out i (by omega);obtain rfl:=hs0 h;rw[decide_eq_true h]at hlk;have cx:=cell_below HB.out HI.tx.cell;have HWs:=zY (ws_any wr W.heap.size W.heap.size (padT x i) (X i) HBl.out (by have:=padT_len x i;omega) (by have:=HXz.out i;omega) HB.size);have HTn:=zY (HTx.out i h);gi_wp2_with fail;refine⟨trivial,rfl,?_⟩;gi_at_call 64;refine(callsIn_wide.2 HWs.out).mono ?_;rintro e5 w5 ⟨rfl,hb5,hbb5⟩;have HBl5:=zY hb5;have HB5:=zY (HB.trans hbb5);clear hb5 hbb5 hlk cx;gi_wp2;go_roundw;case rel=>exact⟨i+1,by omega,by go_num,rfl,by rw[HTn.out];exact HBl5.out,HB5.out⟩
 case measure=>simp[intOf];omega};{
 obtain rfl:i=T:=by omega
 have hiI:¬((i:Nat):Int)<(i:Int):=by omega
 have HSt:=zY (str_any wr W.heap.size W.heap.size (padT x i) (padT_bytes x i) HBl.out HB.size);rw[HTa.out]at HSt;gi_wp2_with fail;refine⟨trivial,rfl,?_⟩;gi_at_call 65;refine(callsIn_wide.2 HSt.out).mono ?_;rintro e5 w5 ⟨rfl,_,hbb5⟩;have HB5:=zY (HB.trans hbb5);clear hbb5 HSt HBl;have r4:=(show Blk W w.heap.size 9 [.string ⟨#[]⟩] from HI.r4).kept HB5.out;have r5:=(show Blk W (w.heap.size+1) 65 [.slice none 0 0] from HI.r5).kept HB5.out;have r6:=(show Blk W (w.heap.size+1+1) 33 [.int .i64 0] from HI.r6).kept HB5.out;have q4:=r4.c 0;have q5:=r5.c 0;have q6:=r6.c 0;have f4:=r4.frozen 0;have f5:=r5.frozen 0;have f6:=r6.frozen 0;have HR4:=zY r4;have HR5:=zY r5;have HR6:=zY r6;clear r4 r5 r6;have hD5:w5.heap[D]?=some (.deferred (some [])):=(HB5.block D (Array.getElem?_eq_some_iff.1 Hk.out).1).trans Hk.out;have HD5:=zY hD5;clear hD5;gi_wp2;have hzz:=Hzz.out;have b4:Blk w5 w.heap.size 9 [.string ⟨#[]⟩]:=HR4.out;have b5:Blk w5 (w.heap.size+1) 65 [.slice none 0 0]:=HR5.out;have b6:Blk w5 (w.heap.size+1+1) 33 [.int .i64 0]:=HR6.out;have b4':=((b4.set 0 (.string (padS x))).far (p:=⟨w.heap.size+1,0,none⟩) (show w.heap.size≠w.heap.size+1 by omega) (.slice none 0 0)).far (p:=⟨w.heap.size+1+1,0,none⟩) (show w.heap.size≠w.heap.size+1+1 by omega) (.int .i64 0);have b5':=((b5.far (p:=⟨w.heap.size,0,none⟩) (show w.heap.size+1≠w.heap.size by omega) (.string (padS x))).set 0 (.slice none 0 0)).far (p:=⟨w.heap.size+1+1,0,none⟩) (show w.heap.size+1≠w.heap.size+1+1 by omega) (.int .i64 0)
 have b6':=((b6.far (p:=⟨w.heap.size,0,none⟩) (show w.heap.size+1+1≠w.heap.size by omega) (.string (padS x))).far (p:=⟨w.heap.size+1,0,none⟩) (show w.heap.size+1+1≠w.heap.size+1 by omega) (.slice none 0 0)).set 0 (.int .i64 0);have hbz:=((HI.below.trans (HB5.mono HI.below.size)).setCell (p:=⟨w.heap.size,0,none⟩) (Nat.le_refl _) (.string (padS x))).setCell (p:=⟨w.heap.size+1,0,none⟩) (show w.heap.size<=w.heap.size+1 by omega) (.slice none 0 0) |>.setCell (p:=⟨w.heap.size+1+1,0,none⟩) (show w.heap.size<=w.heap.size+1+1 by omega) (.int .i64 0);have hDz:(((w5.setCell ⟨w.heap.size,0,none⟩ (.string (padS x))).setCell ⟨w.heap.size+1,0,none⟩ (.slice none 0 0)).setCell ⟨w.heap.size+1+1,0,none⟩ (.int .i64 0)).heap[D]?=some (.deferred (some [])):=by rw[Below.heap_setCell _ ⟨w.heap.size+1+1,0,none⟩ _ D (show D≠w.heap.size+1+1 by omega),Below.heap_setCell _ ⟨w.heap.size+1,0,none⟩ _ D (show D≠w.heap.size+1 by omega),Below.heap_setCell _ ⟨w.heap.size,0,none⟩ _ D (show D≠w.heap.size by omega)];exact HD5.out
 generalize ((w5.setCell ⟨w.heap.size,0,none⟩ (.string (padS x))).setCell ⟨w.heap.size+1,0,none⟩ (.slice none 0 0)).setCell ⟨w.heap.size+1+1,0,none⟩ (.int .i64 0)=wz at *;have oth:∀k,k≠D->(wz.putObj D (.deferred none)).heap[k]?=wz.heap[k]?:=fun k hk=>World.putObj_heap_other hk;have c4:Blk (wz.putObj D (.deferred none)) w.heap.size 9 [.string (padS x)]:=(oth _ (by omega)).trans b4';have c5:Blk (wz.putObj D (.deferred none)) (w.heap.size+1) 65 [.slice none 0 0]:=(oth _ (by omega)).trans b5';have c6:Blk (wz.putObj D (.deferred none)) (w.heap.size+1+1) 33 [.int .i64 0]:=(oth _ (by omega)).trans b6';refine⟨by simp,.inl ⟨_,_,rfl,run_takeDeferred hDz,_,results_cell3 rfl _ _ rfl rfl rfl (run_loadVar1 (isAgg9 _) (c4.c 0)) (run_loadVar1 (isAgg65 _) (c5.c 0)) (run_loadVar1 (isAgg33 _) (c6.c 0)),rfl,?_⟩⟩;exact⟨hbz.os,hbz.tape,hbz.output,Nat.le_trans hbz.size (by simp),fun k hk=>(oth k (by omega)).trans (hbz.block k hk)⟩}
end
section
open Go.RowKit
theorem totS_app (A B:List ByteArray):totS (A++B)=totS A+totS B:=by
 unfold totS;rw[List.map_append,List.sum_append]
theorem tot_groups {α:Type} (f:List α->List Nat) (k:Nat):∀G:List (List α),(∀g∈G,(f g).length<=k*g.length)->totS (G.map fun g=>strB (f g))<=k*G.flatten.length
 |[],_=>by simp[totS]
 |g::G,h=>by
  have h1:=tot_groups f k G fun g hg=>h g (List.mem_cons_of_mem _ hg)
  have h2:=h g List.mem_cons_self
  have e:totS ((g::G).map fun g=>strB (f g))=(strB (f g)).size+totS (G.map fun g=>strB (f g)):=by simp[totS]
  rw[e,strB_size,List.flatten_cons,List.length_append,Nat.mul_add]
  omega
theorem rows_small {d s:Nat} {st:ByteArray} (hd:1<=d) (hs:st.size<=661360):(rowsL d s st).length<=23621:=by
 rw[rowsL,List.length_map,stripL,List.length_map,List.length_range];unfold strN;apply Nat.le_of_lt_succ;rw[Nat.div_lt_iff_lt_mul (by omega)];have h1:28*1<=28*d:=by omega
 have:=Nat.mul_le_mul_left 23621 h1;show _<(23621+1)*(28*d);rw[Nat.add_mul];omega
theorem ses_small {L:List Ses} (h:MadeOk L) {y:Ses} (hy:L[0]?=some y) {d s:Nat} (hd:1<=d) (r:Nat):totS (sesP ((7:Nat):Int) d s L r 0)<=80000000/\∀p∈sesP ((7:Nat):Int) d s L r 0,p.size<=10000000:=by
 unfold sesP;rw[hy];dsimp only;have h1:=dir_small h hy;have h2:=rows_small (d:=d) (s:=s) (st:=y.str) hd (h.str y (List.mem_of_getElem? hy));have h3:(reelL ((7:Nat):Int) (d:Int) (s:Int) ((0:Nat)+1) r (partsB (strB (dirL y))) (rowsL d s y.str) y.str).length<=73623:=by rw[reelL_len,partsB_len,strB_size];omega
 constructor;{
 have h4:=tot_groups celsL 852 (chks 8 (reelL ((7:Nat):Int) (d:Int) (s:Int) ((0:Nat)+1) r (partsB (strB (dirL y))) (rowsL d s y.str) y.str)) (fun g _=>by rw[celsL_len];exact Nat.le_refl _);rw[chks_flat (by omega)]at h4;exact Nat.le_trans h4 (by omega)};{
 intro p hp;obtain⟨g,hg,rfl⟩:=List.mem_map.1 hp;have:=(chks_mem hg).2;rw[strB_size,celsL_len];omega}
theorem strips_small {x:ByteArray} (hx:x.size<=300) (he:splitE x=0):totS (stripsT 7 x)<=40000/\∀p∈stripsT 7 x,p.size<=10000000:=by
 have hok:∀g∈chks 4 (plnsL 7 x),∀p∈g,PlnOk p.a p.i p.t p.x:=fun g hg p hp=>by
  obtain⟨j,hj,rfl⟩:=List.mem_map.1 ((chks_mem hg).1 p hp)
  exact plnAt_ok (a:=7) (by omega) he (List.mem_range.1 hj)
 have hT:plnT x<=5:=by unfold plnT;omega
 constructor;{
 have h4:=tot_groups plCells 8000 (chks 4 (plnsL 7 x)) (fun g hg=>plCells_len (hok g hg));rw[chks_flat (by omega)]at h4;have:(plnsL 7 x).length<=5:=by unfold plnsL;rw[List.length_map,List.length_range];exact hT
 exact Nat.le_trans h4 (by omega)};{
 intro p hp;obtain⟨g,hg,rfl⟩:=List.mem_map.1 hp;have h1:=plCells_len (hok g hg);have h2:=(chks_mem hg).2;rw[strB_size];omega}
theorem reel_small {L:List Ses} (h:MadeOk L) (h1:L.length<=1) {d s:Nat} (hd:1<=d) {x:ByteArray} (hx:x.size<=300) (he:splitE x=0) (r:Nat):totS (reelP 7 d s L x r L.length)<=90000000/\∀p∈reelP 7 d s L x r L.length,p.size<=10000000:=by
 have hS:=strips_small hx he;unfold reelP;match L,h,h1 with
 |[],_,_=>have e:sesPs ((7:Nat):Int) (d:Int) (s:Int) [] r ([]:List Ses).length=[]:=rfl;rw[e,List.append_nil];exact⟨Nat.le_trans hS.1 (by omega),hS.2⟩
 |[y],h,_=>(
 have e:sesPs ((7:Nat):Int) (d:Int) (s:Int) [y] r [y].length=sesP ((7:Nat):Int) d s [y] r 0:=by show sesPs ((7:Nat):Int) (d:Int) (s:Int) [y] r (0+1)=_;rw[sesPs_succ];rfl
 have h2:=ses_small h (y:=y) rfl (s:=s) hd r;rw[e,totS_app];refine⟨by have:=hS.1;have:=h2.1;omega,fun p hp=>?_⟩;rcases List.mem_append.1 hp with hp|hp;{exact hS.2 p hp};{exact h2.2 p hp})
 |_::_::_,_,h1=>simp at h1
theorem reels_ok {L:List Ses} (h:MadeOk L) {d s:Nat} (hd:1<=d/\d<=3) (hs:s<=2) {x:ByteArray} (he:splitE x=0):reelsE d s L x=0/\reelsR 7 d s L x=(List.range (d+s)).map fun r=>(r,reelP 7 d s L x r L.length):=by
 have h0:reelsE d s L x=0:=by{
 unfold reelsE;have e1:layE (d:Int) (s:Int)=0:=by unfold layE;rw[if_neg (by omega)]
 rw[if_neg (by rw[e1];decide),if_neg (by rw[he];decide)];refine firstN_zero fun m hm=>?_;obtain⟨y,hy⟩:∃y,L[m]?=some y:=⟨_,List.getElem?_eq_getElem hm⟩;have h1:=(contE_made h hy hd hs).1;rw[h.num m y hy]at h1;exact h1};refine⟨h0,?_⟩;unfold reelsR;rw[if_pos h0];simp
theorem reels_err {L:List Ses} {d s:Nat} (hd:1<=d/\d<=3) (hs:s<=2) {x:ByteArray} (he:splitE x≠0):reelsE d s L x=splitE x/\reelsR 7 d s L x=[]:=by
 have h0:reelsE d s L x=splitE x:=by{
 unfold reelsE;have e1:layE (d:Int) (s:Int)=0:=by unfold layE;rw[if_neg (by omega)]
 rw[if_neg (by rw[e1];decide),if_pos he]};refine⟨h0,?_⟩;unfold reelsR;rw[if_neg (by rw[h0];exact he)]
theorem padS_has (x:ByteArray):Lib.hasPrefix (padS x).data.toList x.data.toList=true:=by
 have e:(padS x).data.toList=x.data.toList++(strB (List.replicate (64*plnT x-x.size) 32)).data.toList:=by rw[padS,ByteArray.data_append,Array.toList_append]
 rw[e];unfold Lib.hasPrefix;simp
theorem padS_trim (x:ByteArray):(⟨(Lib.trimRightB ((padS x).extract x.size (padS x).size).data.toList 32).toArray⟩:ByteArray)=⟨#[]⟩:=by
 have hT:(padS x).extract x.size (padS x).size=strB (List.replicate (64*plnT x-x.size) 32):=bs_inj (by
  rw[bs_extract,List.take_of_length_le (by rw[bs_len];exact Nat.le_refl _),padS_bs,List.drop_left' (bs_len x),bs_strB]
  intro b hb
  rw[(List.mem_replicate.1 hb).2]
  decide);rw[hT];show (⟨(((List.replicate (64*plnT x-x.size) 32).map UInt8.ofNat).reverse.dropWhile (· == 32)).reverse.toArray⟩:ByteArray)=⟨#[]⟩;rw[List.map_replicate,List.reverse_replicate];simp[List.dropWhile_replicate]
end
end Go.Proofs.YthgenkkkapilhaaGreatDoor