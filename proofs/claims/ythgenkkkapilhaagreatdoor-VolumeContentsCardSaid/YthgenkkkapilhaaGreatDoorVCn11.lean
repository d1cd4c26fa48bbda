/-
  Joined: EncAz VpC.
-/
import Derived.Test.YthgenkkkapilhaaGreatDoorVCn09
set_option linter.all false
set_option maxRecDepth 100000
set_option maxHeartbeats 64000000
namespace Go.Proofs.YthgenkkkapilhaaGreatDoor
section
open Go.RowKit
def perI (l:List Nat) (i:Nat):List Nat:=(List.range 836).map fun j=>if uil j<i then cf l (uil j) else 0
theorem perI_len (l:List Nat) (i:Nat):(perI l i).length=836:=by unfold perI;rw[List.length_map,List.length_range]
theorem perI_cf (l:List Nat) (i j:Nat):cf (perI l i) j=if j<836 then (if uil j<i then cf l (uil j) else 0) else 0:=by unfold perI;rw[cf_map]
theorem perI_set {l:List Nat} {i:Nat} (h:i<836):(perI l i).set (ilv i) (cf l i)=perI l (i+1):=by
 refine list_ext836 (by rw[List.length_set,perI_len]) (perI_len _ _) fun j hj=>?_
 rw[cf_set _ _ _ _ (by rw[perI_len];exact ilv_lt h),perI_cf,perI_cf,if_pos hj,if_pos hj]
 by_cases e:ilv i=j
 {
 subst e
 rw[if_pos rfl,uil_ilv h,if_pos (by omega)]}
 {
 rw[if_neg e]
 have hne:uil j≠i:=fun hu=>e (by rw[<-hu];exact(ilv_uil hj).1)
 by_cases h1:uil j<i
 ·rw[if_pos h1,if_pos (by omega)]
 ·rw[if_neg h1,if_neg (by omega)]}
theorem perI_zero (l:List Nat):perI l 0=List.replicate 836 0:=by
 refine list_ext836 (perI_len _ _) List.length_replicate fun j hj=>?_
 rw[perI_cf,if_pos hj,if_neg (by omega)]
 unfold cf
 rw[List.getElem?_replicate,if_pos hj]
 rfl
theorem perI_end (l:List Nat):perI l 836=interL l:=by
 unfold perI interL
 refine List.map_congr_left fun j hj=>?_
 rw[if_pos (ilv_uil (List.mem_range.1 hj)).2]
theorem permI_any (w:World) (s:ByteArray) (hs:s.size=836):Calls Tryz.prog 309 #[.string s,.int .i64 8,.func (.func 310) #[] #[]] w fun e w'=>e=.returned (.tuple #[.string (strB (interL (bs s))),.int .i64 0])/\Below w.heap.size w w':=by
 have hmk:=make_u8_836
 have hsI:(s.size:Int)=836:=by omega
 have hK0:U8B (w.alloc (.cells (arrB (perD [] 0)) 5)) w.heap.size (perI (bs s) 0):=by
  rw[perI_zero,<-perD_zero []]
  exact U8B.new w _
 have HK0:=zY hK0
 have HB0:=zY (zBl w (.cells (arrB (perD [] 0)) 5))
 have hbl:=bs_len s
 clear hK0
 go_enter Tryz.func309,Tryz.ntmps309
 go_wp2
 go_loopw [19] (fun x wr=>∃i:Nat,i<=836/\x=.int .i64 i/\U8B wr w.heap.size (perI (bs s) i)/\Below w.heap.size w wr) (fun x _=>836-(intOf x).toNat)
 case atStart=>exact⟨0,by omega,rfl,HK0.out,HB0.out⟩
 case round=>
  obtain⟨i,hi,rfl,hb,hB⟩:=hrel
  have Hb:=zY hb
  have HBr:=zY hB
  clear hb hB HK0 HB0
  by_cases h:i<836
  {
  have hiI:(i:Int)<836:=by omega
  go_wp2_with fail
  refine(ilindex_any _ i h).mono ?_
  rintro e w1 ⟨rfl,hb⟩
  have Hb1:=zY (Blk.kept Hb.out hb)
  have HB1:=zYt HBr hb
  have hlt:=Blk.lt Hb.out
  clear hb
  have hil:=ilv_lt h
  have hx:i<s.size:=by omega
  have hxI:(i:Int)<s.size:=by omega
  have hxJ:((ilv i:Nat):Int)<836:=by omega
  have hcx:cf (bs s) i=(s[i]'hx).toNat:=cf_get (bs_get s _ hx)
  have hc1:=U8B.cell Hb1.out (i:=ilv i) (x:=cf (perI (bs s) i) (ilv i)) (by unfold cf;rw[List.getElem?_eq_getElem (by rw[perI_len];exact hil)];rfl)
  have hf1:=Blk.frozen Hb1.out (ilv i)
  have Hset:Hid (U8B (w1.setCell ⟨w.heap.size,ilv i,none⟩ (.int .u8 ((s[i]'hx).toNat:Nat))) w.heap.size (perI (bs s) (i+1))):=zY (by
   rw[<-hcx,<-perI_set h]
   exact U8B.set Hb1.out (ilv i) _)
  clear hcx
  go_wp2_with (go_at_call 310;refine(inter1_any _ _ _).mono ?_;rintro e w' ⟨rfl,rfl⟩)
  go_roundw
  case rel=>exact⟨i+1,by omega,by go_num,Hset.out,HB1.out.setCell (p:=⟨w.heap.size,ilv i,none⟩) (Nat.le_refl _) _⟩
  case measure=>simp[intOf];omega}
  {
  have hi8:i=836:=by omega
  subst hi8
  have hv:=U8B.bytes Hb.out (n:=836) (c:=836) (by rw[perI_len]) (Nat.le_refl _) (by omega)
  rw[perI_end]at hv
  have hcs:=run_toStr hv (interL_len _).symm
  clear hv
  go_wp2
  go_ret2
  exact⟨rfl,HBr.out⟩}
theorem inter_any (w:World) (s:ByteArray) (hs:s.size=836):Calls Tryz.prog 257 #[.string s,.int .i64 8] w fun e w'=>e=.returned (.tuple #[.string (strB (interL (bs s))),.int .i64 0])/\Below w.heap.size w w':=by
 have H:=zY (permI_any w s hs)
 clear hs
 go_enter Tryz.func257,Tryz.ntmps257
 go_wp2_with (go_at_call 309;refine H.out.mono ?_;rintro e w' ⟨rfl,hb⟩)
 go_ret2
 exact⟨rfl,hb⟩
theorem u8_sh1:∀(j:Fin 8) (b:Fin 256),bits .and .u8 ((b.val:Int)/(2:Int)^j.val) 1=((b.val/2^j.val%2:Nat):Int):=by decide +kernel
theorem cfrom_any (w:World) (s:ByteArray) (hs:s.size<=10000):Calls Tryz.prog 168 #[.string s] w fun e w'=>e=.returned (.string (strB (frmB (bs s))))/\Below w.heap.size w w':=by
 have hbl:=bs_len s
 go_enter Tryz.func168,Tryz.ntmps168
 go_wp2
 go_loopw [8] (fun x wr=>∃i:Nat,i<=s.size/\x=.int .i64 (i:Int)/\Bld wr w.heap.size w.heap.size (frmB ((bs s).take i))/\Below w.heap.size w wr) (fun x _=>s.size-(intOf x).toNat)
 case atStart=>exact⟨0,by omega,rfl,Bld.new w,(Below.refl _ _).alloc (Nat.le_refl _) _⟩
 case round=>
  obtain⟨i,hi,rfl,hbl1,hB⟩:=hrel
  have Hbl:=zY hbl1
  have HBr:=zY hB
  clear hbl1 hB
  by_cases h:i<s.size
  {
  have hiI:(i:Int)<s.size:=by omega
  have hst:frmB ((bs s).take (i+1))=frmB ((bs s).take i)++byCs (s[i]'h).toNat:=by
   rw[List.take_add_one,bs_get s i h]
   exact frmB_snoc _ _
  have Hst:=zY hst
  have hlen:(frmB ((bs s).take i)).length<=80000:=by rw[frmB_len,List.length_take];omega
  have hb8:(s[i]'h).toNat<256:=UInt8.toNat_lt _
  obtain⟨L,hL⟩:=zNm (frmB ((bs s).take i))
  rw[hL]at Hbl Hst hlen
  have Hlen:=zY hlen
  have Hb8:=zY hb8
  clear hst hL hlen hb8
  go_wp2
  go_loopw [11] (fun x wq=>∃k:Nat,k<=8/\x=.int .i64 (k:Int)/\Bld wq w.heap.size w.heap.size (L++(List.range k).map (byC (s[i]'h).toNat))/\Below w.heap.size w wq) (fun x _=>8-(intOf x).toNat)
  case atStart=>exact⟨0,by omega,rfl,by simpa using Hbl.out,HBr.out⟩
  case round=>
   obtain⟨k,hk,rfl,hbl2,hB2⟩:=hrel
   by_cases h':k<8
   {
   have hkI:(k:Int)<8:=by omega
   have Hwb:=zY (wb_any wr w.heap.size w.heap.size _ (byC (s[i]'h).toNat k) hbl2 (by rw[List.length_append,List.length_map,List.length_range];have:=Hlen.out;omega) hB2.size)
   have hsn:(L++(List.range k).map (byC (s[i]'h).toNat))++[byC (s[i]'h).toNat k]=L++(List.range (k+1)).map (byC (s[i]'h).toNat):=by rw[List.range_succ,List.map_append,List.append_assoc];rfl
   have Hsn:=zY hsn
   have HB2:=zY hB2
   have hsh:=u8_sh1 ⟨7-k,by omega⟩ ⟨(s[i]'h).toNat,Hb8.out⟩
   dsimp only at hsh
   have hx2:(s[i]'h).toNat/2^(7-k)%2<2:=Nat.mod_lt _ (by decide)
   have hbc:byC (s[i]'h).toNat k=48+(s[i]'h).toNat/2^(7-k)%2:=rfl
   rw[hsn,hbc]at Hwb
   generalize (s[i]'h).toNat/2^(7-k)%2=x at *
   have hw1:IntKind.u8.wrap (48+(x:Int))=48+x:=by rw[IntKind.wrap_u8];omega
   have hw2:(48+(x:Int))%256=48+x:=by omega
   have hw3:(((48+x:Nat)):Int)=48+x:=by omega
   rw[hw3]at Hwb
   clear hsn hbc hx2 hw3 hbl2 hB2
   rcases (by omega:k=0∨k=1∨k=2∨k=3∨k=4∨k=5∨k=6∨k=7)with rfl|rfl|rfl|rfl|rfl|rfl|rfl|rfl
   all_goals
    simp only[Nat.sub_zero,Nat.reduceSub,Nat.sub_self,Int.reducePow,Int.ediv_one]at hsh
    go_wp2_with fail
    refine Hwb.out.mono ?_
    rintro e w2 ⟨rfl,hbl3,hb3⟩
    have HL3:=zY hbl3
    have HB3:=zY hb3
    clear hbl3 hb3 Hwb Hbl HBr Hst Hlen Hb8 Hsn hsh
    go_wp2_with fail
    refine⟨⟨_,?_,?_,HL3.out,HB2.out.trans HB3.out⟩,?_⟩
    ·omega
    ·rfl
    ·simp[intOf]}
   {
   obtain rfl:k=8:=by omega
   have HB2:=zY hB2
   have Hb2:Hid (Bld wr w.heap.size w.heap.size (frmB ((bs s).take (i+1)))):=zY (by rw[Hst.out];exact hbl2)
   clear hbl2 hB2
   go_wp2
   go_roundw
   case rel=>exact⟨i+1,by omega,by go_num,Hb2.out,HB2.out⟩
   case measure=>simp[intOf];omega}}
  {
  obtain rfl:i=s.size:=by omega
  have hl:=Hbl.out
  rw[List.take_of_length_le (by omega)]at hl
  have Hs:=zY (str_any wr w.heap.size w.heap.size _ (fun c hc=>by rcases frmB_01 _ c hc with rfl|rfl<;>omega) hl HBr.out.size)
  clear hl Hbl
  go_wp2_with (go_at_call 65;refine Hs.out.mono ?_;rintro e w2 ⟨rfl,hbl3,hb3⟩;have HB3:=zY hb3;clear hbl3 hb3)
  go_ret
  exact⟨rfl,HBr.out.trans HB3.out⟩
}
end
section
def parts (r w:List Nat) (j:Nat):Bool:=cf r j != cf w j
end
section
open Go.RowKit
theorem Tryz.elemSeg:Elem Tryz.prog 290 293 2 24 (.agg #[.int .i64 0,.string ⟨#[]⟩]):=⟨Tryz.underlying290,by kernel_rfl,rfl,by decide,by decide⟩
theorem Tryz.elemChk:Elem Tryz.prog 158 298 4 40 (.agg #[.string ⟨#[]⟩,.int .i64 0,.int .i64 0,.int .i64 0]):=⟨Tryz.underlying158,by kernel_rfl,rfl,by decide,by decide⟩
theorem Tryz.elemExt:Elem Tryz.prog 180 252 3 24 (.agg #[.int .i64 0,.int .i64 0,.int .i64 0]):=⟨Tryz.underlying180,by kernel_rfl,rfl,by decide,by decide⟩
theorem Tryz.elemHol:Elem Tryz.prog 161 289 2 24 (.agg #[.string ⟨#[]⟩,.int .i64 0]):=⟨Tryz.underlying161,by kernel_rfl,rfl,by decide,by decide⟩
theorem Tryz.elemStr:Elem Tryz.prog 51 9 1 16 (.string ⟨#[]⟩):=⟨Tryz.underlying51,by kernel_rfl,rfl,by decide,by decide⟩
theorem Tryz.elemEnt:Elem Tryz.prog 43 182 7 112 (.agg #[.int .i64 0,.string ⟨#[]⟩,.slice none 0 0,.string ⟨#[]⟩,.int .i64 0,.string ⟨#[]⟩,.slice none 0 0]):=⟨Tryz.underlying43,by kernel_rfl,rfl,by decide,by decide⟩
theorem src1 {α:Type} {ρ:Shape α} {w0 wr:World} {t:TypeId} (cs:List Value) (x:α) {o:Obj} (h:ρ.R w0 cs x) (ho:o=.cells cs.toArray t):SrcAt ρ w0 (wr.alloc o) (.slice (some ⟨wr.heap.size,0,none⟩) 1 1) [x]:=by
 subst ho
 exact SrcAt.lit h (Blk.new _ _ _)
def segSum:List Seg->Nat
 |[]=>0
 |x::r=>x.n.toNat+x.d.size+segSum r
theorem segSum_app (l m:List Seg):segSum (l++m)=segSum l+segSum m:=by
 induction l with
 |nil=>simp[segSum]
 |cons x r ih=>rw[List.cons_append,segSum,segSum,ih];omega
def SegOk (n m:Nat) (l:List Seg):Prop:=l.length<=m/\segSum l<=n/\∀x∈l,0<=x.n
theorem SegOk.snoc {n m k:Nat} {l:List Seg} {x:Seg} (h:SegOk n m l) (h0:0<=x.n) (hk:n+x.n.toNat+x.d.size<=k):SegOk k (m+1) (l++[x]):=
 ⟨by rw[List.length_append];have:=h.1;simp;omega,by rw[segSum_app];have:=h.2.1;simp only[segSum];omega,fun y hy=>by
  rcases List.mem_append.1 hy with hy|hy
  ·exact h.2.2 y hy
  ·rw[List.mem_singleton.1 hy];exact h0⟩
theorem SegOk.mono {n m n' m':Nat} {l:List Seg} (h:SegOk n m l) (hn:n<=n') (hm:m<=m'):SegOk n' m' l:=⟨by have:=h.1;omega,by have:=h.2.1;omega,h.2.2⟩
theorem SegOk.mem {n m:Nat} {l:List Seg} (h:SegOk n m l) {x:Seg} (hx:x∈l):0<=x.n/\x.n.toNat+x.d.size<=n:=by
 refine⟨h.2.2 x hx,?_⟩
 have h2:=h.2.1
 clear h
 induction l with
 |nil=>cases hx
 |cons y r ih=>
  rw[segSum]at h2
  rcases List.mem_cons.1 hx with rfl|hx
  ·omega
  {
  have:=ih hx (by omega)
  omega}
def RetSegs (w0 W:World) (n:Nat) (e:Ending):Prop:=∃v l,e=.returned v/\OwnSeq segS 293 w0 W v l/\SegOk n (2*n+1) l
theorem split34_any (w:World) (s:ByteArray) (hs:s.size<=100000):Calls Tryz.prog 218 #[.string s] w fun e w'=>RetSegs w w' s.size e/\Below w.heap.size w w':=by
 have HZ:=zY (fun(W:World) (i:Nat) (hi:i<=s.size)=>zeros_any W s i hi (by omega))
 go_enter Tryz.func218,Tryz.ntmps218
 go_wp2
 go_loopw [3,4,5,6] (fun y f x _ wr=>∃(fr i:Nat) (l:List Seg),fr<=i/\i<=s.size/\x=.int .i64 (i:Int)/\f=.int .i64 (fr:Int)/\SegOk fr (2*i) l/\OwnSeq segS 293 w wr y l/\Below w.heap.size w wr) (fun _ _ x _ _=>s.size-(intOf x).toNat)
 case atStart=>exact⟨0,0,[],by omega,by omega,rfl,rfl,⟨by simp,by simp[segSum],(fun x hx=>nomatch hx)⟩,OwnSeq.new _,(Below.refl _ _).alloc (Nat.le_refl _) _⟩
 case round=>
  obtain⟨fr,i,l,hfi,his,rfl,rfl,hok,ho,hB⟩:=hrel
  have Hok:=zY hok
  have Ho:=zY ho
  have HB:=zY hB
  have hll:l.length<=2*i:=hok.1
  clear hok ho hB
  by_cases h:i<s.size
  {
  have hI:(i:Int)<s.size:=by omega
  have HF:=zY (HZ.out wr i his)
  go_wp2_with fail
  refine HF.out.mono ?_
  rintro e1 w1 ⟨⟨n,rfl,hn1⟩,rfl⟩
  obtain⟨j,hj⟩:=zNm (i+n)
  have hjI:(i:Int)+n=j:=by omega
  have Hl1:Hid (l.length+1<=100000000):=zY (by omega)
  by_cases h32:32<=n
  {
  have g1:(32:Int)<=n:=by omega
  have g2:((n:Int)==0)=false:=by rw[beq_eq_false_iff_ne];omega
  by_cases hif:fr<i
  {
  have g3:(fr:Int)<i:=by omega
  obtain⟨S,hS⟩:=zNm (s.extract fr i)
  have HSz:Hid (S.size=i-fr):=zY (by rw[<-hS,ByteArray.size_extract];omega)
  have Hl2:Hid ((l++[(⟨0,S⟩:Seg)]).length+1<=100000000):=zY (by simp;omega)
  have HL:Hid (SegOk j (2*i+1+1) (l++[(⟨0,S⟩:Seg)]++[(⟨(n:Int),⟨#[]⟩⟩:Seg)])):=zY (SegOk.snoc (SegOk.snoc Hok.out (Int.le_refl 0) (k:=i) (by show fr+0+S.size<=i;have:=HSz.out;omega)) (by simp) (by show i+n+0<=j;omega))
  have hjs:j<=s.size:=by omega
  have hij:i+32<=j:=by omega
  clear hj
  go_wp2_with (at_builtin;first|(refine append_seq (w0:=w) Tryz.elemSeg rfl _ _ rfl rfl (Ho.out.alloc _) rfl (src1 (ρ:=segS) [.int .i64 0,.string S] ⟨0,S⟩ rfl rfl) Hl1.out (HB.out.alloc HB.out.size _) ?_;intro va wa hob _ hbb;have KU:=zY hob;have KB:=zY hbb;clear hob hbb)|(refine append_seq (w0:=w) Tryz.elemSeg rfl _ _ rfl rfl (KU.out.alloc _) rfl (src1 (ρ:=segS) [.int .i64 (n:Int),.string ⟨#[]⟩] ⟨(n:Int),⟨#[]⟩⟩ rfl rfl) Hl2.out (KB.out.alloc KB.out.size _) ?_;intro vb wb hob _ hbb;have KV:=zY hob;have KC:=zY hbb;clear hob hbb))
  go_roundw
  case rel=>exact⟨j,j,_,Nat.le_refl _,hjs,rfl,rfl,HL.out.mono (Nat.le_refl _) (by omega),KV.out,KC.out⟩
  case measure=>simp[intOf];omega}
  {
  have g3:¬(fr:Int)<i:=by omega
  obtain rfl:fr=i:=by omega
  have HL:Hid (SegOk j (2*fr+1) (l++[(⟨(n:Int),⟨#[]⟩⟩:Seg)])):=zY (SegOk.snoc Hok.out (by simp) (by show fr+n+0<=j;omega))
  have hjs:j<=s.size:=by omega
  have hij:fr+32<=j:=by omega
  clear hj
  go_wp2_with (at_builtin;refine append_seq (w0:=w) Tryz.elemSeg rfl _ _ rfl rfl (Ho.out.alloc _) rfl (src1 (ρ:=segS) [.int .i64 (n:Int),.string ⟨#[]⟩] ⟨(n:Int),⟨#[]⟩⟩ rfl rfl) Hl1.out (HB.out.alloc HB.out.size _) ?_;intro vb wb hob _ hbb;have KV:=zY hob;have KC:=zY hbb;clear hob hbb)
  go_roundw
  case rel=>exact⟨j,j,_,Nat.le_refl _,hjs,rfl,rfl,HL.out.mono (Nat.le_refl _) (by omega),KV.out,KC.out⟩
  case measure=>simp[intOf];omega}}
  {
  have g1:¬(32:Int)<=n:=by omega
  by_cases h0:n=0
  {
  subst h0
  rw[show ((0:Nat):Int)=0 from rfl]
  clear hj hjI
  go_wp2
  go_roundw
  case rel=>exact⟨fr,i+1,l,by omega,by omega,by go_num,rfl,Hok.out.mono (Nat.le_refl _) (by omega),Ho.out,HB.out⟩
  case measure=>simp[intOf];omega}
  {
  have g2:((n:Int)==0)=false:=by rw[beq_eq_false_iff_ne];omega
  have hjs:j<=s.size:=by omega
  have hij:i<j:=by omega
  clear hj
  go_wp2
  go_roundw
  case rel=>exact⟨fr,j,l,by omega,by omega,rfl,rfl,Hok.out.mono (Nat.le_refl _) (by omega),Ho.out,HB.out⟩
  case measure=>simp[intOf];omega}}}
  {
  obtain rfl:i=s.size:=by omega
  have hI:¬((s.size:Nat):Int)<(s.size:Int):=by omega
  by_cases hif:fr<s.size
  {
  have g3:(fr:Int)<s.size:=by omega
  obtain⟨S,hS⟩:=zNm (s.extract fr s.size)
  have HSz:Hid (S.size=s.size-fr):=zY (by rw[<-hS,ByteArray.size_extract];omega)
  have Hl1:Hid (l.length+1<=100000000):=zY (by omega)
  have HL:Hid (SegOk s.size (2*s.size+1) (l++[(⟨0,S⟩:Seg)])):=zY (SegOk.snoc Hok.out (Int.le_refl 0) (by show fr+0+S.size<=s.size;have:=HSz.out;omega))
  go_wp2_with (at_builtin;refine append_seq (w0:=w) Tryz.elemSeg rfl _ _ rfl rfl (Ho.out.alloc _) rfl (src1 (ρ:=segS) [.int .i64 0,.string S] ⟨0,S⟩ rfl rfl) Hl1.out (HB.out.alloc HB.out.size _) ?_;intro va wa hob _ hbb;have KU:=zY hob;have KB:=zY hbb;clear hob hbb)
  go_ret
  exact⟨⟨_,_,rfl,KU.out,HL.out⟩,KB.out⟩}
  {
  have g3:¬(fr:Int)<s.size:=by omega
  go_wp2
  go_ret
  exact⟨⟨_,l,rfl,Ho.out,Hok.out.mono (by omega) (by omega)⟩,HB.out⟩}}
end
end Go.Proofs.YthgenkkkapilhaaGreatDoor
