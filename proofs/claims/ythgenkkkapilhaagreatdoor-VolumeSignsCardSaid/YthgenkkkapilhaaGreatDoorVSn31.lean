/-
  Joined: StrWz EncAz VqF VpS.
-/
import Derived.Test.YthgenkkkapilhaaGreatDoorVSn22
import Derived.Test.YthgenkkkapilhaaGreatDoorVSn26
set_option linter.all false
set_option maxRecDepth 100000
set_option maxHeartbeats 64000000
namespace Go.Proofs.YthgenkkkapilhaaGreatDoor
section
open Go.RowKit
theorem inter1_any (w:World) (a b:Int):Calls Tryz.prog 310 #[.int .i64 a,.int .i64 b] w fun e w'=>e=.returned (.tuple #[.int .i64 a,.int .i64 b])/\w=w':=by
 go_enter Tryz.func310,Tryz.ntmps310
 go_wp2
 go_ret2
 exact⟨rfl,rfl⟩
def perI (l:List Nat) (i:Nat):List Nat:=(List.range 836).map fun j=>if uil j<i then cf l (uil j) else 0
theorem perI_len (l:List Nat) (i:Nat):(perI l i).length=836:=by unfold perI;rw[List.length_map,List.length_range]
theorem perI_cf (l:List Nat) (i j:Nat):cf (perI l i) j=if j<836 then (if uil j<i then cf l (uil j) else 0) else 0:=by unfold perI;rw[cf_map]
theorem perI_set {l:List Nat} {i:Nat} (h:i<836):(perI l i).set (ilv i) (cf l i)=perI l (i+1):=by
 refine list_ext836 (by rw[List.length_set,perI_len]) (perI_len _ _) fun j hj=>?_
 rw[cf_set _ _ _ _ (by rw[perI_len];exact ilv_lt h),perI_cf,perI_cf,if_pos hj,if_pos hj]
 by_cases e:ilv i=j
 {
 subst e
 rw[if_pos rfl,uil_ilv h,if_pos (by omega)]}
 {
 rw[if_neg e]
 have hne:uil j≠i:=fun hu=>e (by rw[<-hu];exact(ilv_uil hj).1)
 by_cases h1:uil j<i
 ·rw[if_pos h1,if_pos (by omega)]
 ·rw[if_neg h1,if_neg (by omega)]}
theorem perI_zero (l:List Nat):perI l 0=List.replicate 836 0:=by
 refine list_ext836 (perI_len _ _) List.length_replicate fun j hj=>?_
 rw[perI_cf,if_pos hj,if_neg (by omega)]
 unfold cf
 rw[List.getElem?_replicate,if_pos hj]
 rfl
theorem perI_end (l:List Nat):perI l 836=interL l:=by
 unfold perI interL
 refine List.map_congr_left fun j hj=>?_
 rw[if_pos (ilv_uil (List.mem_range.1 hj)).2]
theorem permI_any (w:World) (s:ByteArray) (hs:s.size=836):Calls Tryz.prog 309 #[.string s,.int .i64 8,.func (.func 310) #[] #[]] w fun e w'=>e=.returned (.tuple #[.string (strB (interL (bs s))),.int .i64 0])/\Below w.heap.size w w':=by
 have hmk:=make_u8_836
 have hsI:(s.size:Int)=836:=by omega
 have hK0:U8B (w.alloc (.cells (arrB (perD [] 0)) 5)) w.heap.size (perI (bs s) 0):=by
  rw[perI_zero,<-perD_zero []]
  exact U8B.new w _
 have HK0:=zY hK0
 have HB0:=zY (zBl w (.cells (arrB (perD [] 0)) 5))
 have hbl:=bs_len s
 clear hK0
 go_enter Tryz.func309,Tryz.ntmps309
 go_wp2
 go_loopw [19] (fun x wr=>∃i:Nat,i<=836/\x=.int .i64 i/\U8B wr w.heap.size (perI (bs s) i)/\Below w.heap.size w wr) (fun x _=>836-(intOf x).toNat)
 case atStart=>exact⟨0,by omega,rfl,HK0.out,HB0.out⟩
 case round=>
  obtain⟨i,hi,rfl,hb,hB⟩:=hrel
  have Hb:=zY hb
  have HBr:=zY hB
  clear hb hB HK0 HB0
  by_cases h:i<836
  {
  have hiI:(i:Int)<836:=by omega
  go_wp2_with fail
  refine(ilindex_any _ i h).mono ?_
  rintro e w1 ⟨rfl,hb⟩
  have Hb1:=zY (Blk.kept Hb.out hb)
  have HB1:=zYt HBr hb
  have hlt:=Blk.lt Hb.out
  clear hb
  have hil:=ilv_lt h
  have hx:i<s.size:=by omega
  have hxI:(i:Int)<s.size:=by omega
  have hxJ:((ilv i:Nat):Int)<836:=by omega
  have hcx:cf (bs s) i=(s[i]'hx).toNat:=cf_get (bs_get s _ hx)
  have hc1:=U8B.cell Hb1.out (i:=ilv i) (x:=cf (perI (bs s) i) (ilv i)) (by unfold cf;rw[List.getElem?_eq_getElem (by rw[perI_len];exact hil)];rfl)
  have hf1:=Blk.frozen Hb1.out (ilv i)
  have Hset:Hid (U8B (w1.setCell ⟨w.heap.size,ilv i,none⟩ (.int .u8 ((s[i]'hx).toNat:Nat))) w.heap.size (perI (bs s) (i+1))):=zY (by
   rw[<-hcx,<-perI_set h]
   exact U8B.set Hb1.out (ilv i) _)
  clear hcx
  go_wp2_with (go_at_call 310;refine(inter1_any _ _ _).mono ?_;rintro e w' ⟨rfl,rfl⟩)
  go_roundw
  case rel=>exact⟨i+1,by omega,by go_num,Hset.out,HB1.out.setCell (p:=⟨w.heap.size,ilv i,none⟩) (Nat.le_refl _) _⟩
  case measure=>simp[intOf];omega}
  {
  have hi8:i=836:=by omega
  subst hi8
  have hv:=U8B.bytes Hb.out (n:=836) (c:=836) (by rw[perI_len]) (Nat.le_refl _) (by omega)
  rw[perI_end]at hv
  have hcs:=run_toStr hv (interL_len _).symm
  clear hv
  go_wp2
  go_ret2
  exact⟨rfl,HBr.out⟩}
theorem inter_any (w:World) (s:ByteArray) (hs:s.size=836):Calls Tryz.prog 257 #[.string s,.int .i64 8] w fun e w'=>e=.returned (.tuple #[.string (strB (interL (bs s))),.int .i64 0])/\Below w.heap.size w w':=by
 have H:=zY (permI_any w s hs)
 clear hs
 go_enter Tryz.func257,Tryz.ntmps257
 go_wp2_with (go_at_call 309;refine H.out.mono ?_;rintro e w' ⟨rfl,hb⟩)
 go_ret2
 exact⟨rfl,hb⟩
theorem u8_sh1:∀(j:Fin 8) (b:Fin 256),bits .and .u8 ((b.val:Int)/(2:Int)^j.val) 1=((b.val/2^j.val%2:Nat):Int):=by decide +kernel
theorem cfrom_any (w:World) (s:ByteArray) (hs:s.size<=10000):Calls Tryz.prog 168 #[.string s] w fun e w'=>e=.returned (.string (strB (frmB (bs s))))/\Below w.heap.size w w':=by
 have hbl:=bs_len s
 go_enter Tryz.func168,Tryz.ntmps168
 go_wp2
 go_loopw [8] (fun x wr=>∃i:Nat,i<=s.size/\x=.int .i64 (i:Int)/\Bld wr w.heap.size w.heap.size (frmB ((bs s).take i))/\Below w.heap.size w wr) (fun x _=>s.size-(intOf x).toNat)
 case atStart=>exact⟨0,by omega,rfl,Bld.new w,(Below.refl _ _).alloc (Nat.le_refl _) _⟩
 case round=>
  obtain⟨i,hi,rfl,hbl1,hB⟩:=hrel
  have Hbl:=zY hbl1
  have HBr:=zY hB
  clear hbl1 hB
  by_cases h:i<s.size
  {
  have hiI:(i:Int)<s.size:=by omega
  have hst:frmB ((bs s).take (i+1))=frmB ((bs s).take i)++byCs (s[i]'h).toNat:=by
   rw[List.take_add_one,bs_get s i h]
   exact frmB_snoc _ _
  have Hst:=zY hst
  have hlen:(frmB ((bs s).take i)).length<=80000:=by rw[frmB_len,List.length_take];omega
  have hb8:(s[i]'h).toNat<256:=UInt8.toNat_lt _
  obtain⟨L,hL⟩:=zNm (frmB ((bs s).take i))
  rw[hL]at Hbl Hst hlen
  have Hlen:=zY hlen
  have Hb8:=zY hb8
  clear hst hL hlen hb8
  go_wp2
  go_loopw [11] (fun x wq=>∃k:Nat,k<=8/\x=.int .i64 (k:Int)/\Bld wq w.heap.size w.heap.size (L++(List.range k).map (byC (s[i]'h).toNat))/\Below w.heap.size w wq) (fun x _=>8-(intOf x).toNat)
  case atStart=>exact⟨0,by omega,rfl,by simpa using Hbl.out,HBr.out⟩
  case round=>
   obtain⟨k,hk,rfl,hbl2,hB2⟩:=hrel
   by_cases h':k<8
   {
   have hkI:(k:Int)<8:=by omega
   have Hwb:=zY (wb_any wr w.heap.size w.heap.size _ (byC (s[i]'h).toNat k) hbl2 (by rw[List.length_append,List.length_map,List.length_range];have:=Hlen.out;omega) hB2.size)
   have hsn:(L++(List.range k).map (byC (s[i]'h).toNat))++[byC (s[i]'h).toNat k]=L++(List.range (k+1)).map (byC (s[i]'h).toNat):=by rw[List.range_succ,List.map_append,List.append_assoc];rfl
   have Hsn:=zY hsn
   have HB2:=zY hB2
   have hsh:=u8_sh1 ⟨7-k,by omega⟩ ⟨(s[i]'h).toNat,Hb8.out⟩
   dsimp only at hsh
   have hx2:(s[i]'h).toNat/2^(7-k)%2<2:=Nat.mod_lt _ (by decide)
   have hbc:byC (s[i]'h).toNat k=48+(s[i]'h).toNat/2^(7-k)%2:=rfl
   rw[hsn,hbc]at Hwb
   generalize (s[i]'h).toNat/2^(7-k)%2=x at *
   have hw1:IntKind.u8.wrap (48+(x:Int))=48+x:=by rw[IntKind.wrap_u8];omega
   have hw2:(48+(x:Int))%256=48+x:=by omega
   have hw3:(((48+x:Nat)):Int)=48+x:=by omega
   rw[hw3]at Hwb
   clear hsn hbc hx2 hw3 hbl2 hB2
   rcases (by omega:k=0∨k=1∨k=2∨k=3∨k=4∨k=5∨k=6∨k=7)with rfl|rfl|rfl|rfl|rfl|rfl|rfl|rfl
   all_goals
    simp only[Nat.sub_zero,Nat.reduceSub,Nat.sub_self,Int.reducePow,Int.ediv_one]at hsh
    go_wp2_with fail
    refine Hwb.out.mono ?_
    rintro e w2 ⟨rfl,hbl3,hb3⟩
    have HL3:=zY hbl3
    have HB3:=zY hb3
    clear hbl3 hb3 Hwb Hbl HBr Hst Hlen Hb8 Hsn hsh
    go_wp2_with fail
    refine⟨⟨_,?_,?_,HL3.out,HB2.out.trans HB3.out⟩,?_⟩
    ·omega
    ·rfl
    ·simp[intOf]}
   {
   obtain rfl:k=8:=by omega
   have HB2:=zY hB2
   have Hb2:Hid (Bld wr w.heap.size w.heap.size (frmB ((bs s).take (i+1)))):=zY (by rw[Hst.out];exact hbl2)
   clear hbl2 hB2
   go_wp2
   go_roundw
   case rel=>exact⟨i+1,by omega,by go_num,Hb2.out,HB2.out⟩
   case measure=>simp[intOf];omega}}
  {
  obtain rfl:i=s.size:=by omega
  have hl:=Hbl.out
  rw[List.take_of_length_le (by omega)]at hl
  have Hs:=zY (str_any wr w.heap.size w.heap.size _ (fun c hc=>by rcases frmB_01 _ c hc with rfl|rfl<;>omega) hl HBr.out.size)
  clear hl Hbl
  go_wp2_with (go_at_call 65;refine Hs.out.mono ?_;rintro e w2 ⟨rfl,hbl3,hb3⟩;have HB3:=zY hb3;clear hbl3 hb3)
  go_ret
  exact⟨rfl,HBr.out.trans HB3.out⟩
}
end
section
def parts (r w:List Nat) (j:Nat):Bool:=cf r j != cf w j
end
section
open Go.RowKit
def layE (d s:Int):Int:=if d<1∨8<d∨s<0∨7<s then 2 else 0
theorem laycheck_any (w:World) (d s:Int):Calls Tryz.prog 45 #[.agg #[.int .i64 d,.int .i64 s]] w fun e w'=>e=.returned (.int .i64 (layE d s))/\Below w.heap.size w w':=by
 have hK:=Blk.new w 24 [.int .i64 d,.int .i64 s]
 change Blk (w.alloc (.cells #[.int .i64 d,.int .i64 s] 24)) _ _ _ at hK
 have HK:=zY hK
 have HB:=zY (zBl w (.cells #[.int .i64 d,.int .i64 s] 24))
 obtain⟨R,hR⟩:=zNm (layE d s)
 rw[hR]
 unfold layE at hR
 have HR:=zY hR
 clear hK hR
 go_enter Tryz.func45,Tryz.ntmps45
 go_upto_region 1 with fail
 generalize w.alloc (.cells #[.int .i64 d,.int .i64 s] 24)=wa at *
 have c0:=HK.out.c 0
 have c1:=HK.out.c 1
 by_cases h1:d<1
 {
 go_wp2
 go_ret
 exact⟨by rw[<-HR.out,if_pos (by omega)];rfl,HB.out⟩}
 {
 by_cases h2:8<d
 {
 go_wp2
 go_ret
 exact⟨by rw[<-HR.out,if_pos (by omega)];rfl,HB.out⟩}
 {
 by_cases h3:s<0
 {
 go_wp2
 go_ret
 exact⟨by rw[<-HR.out,if_pos (by omega)];rfl,HB.out⟩}
 {
 by_cases h4:7<s
 {
 go_wp2
 go_ret
 exact⟨by rw[<-HR.out,if_pos (by omega)];rfl,HB.out⟩}
 {
 go_wp2
 go_ret
 exact⟨by rw[<-HR.out,if_neg (by omega)];rfl,HB.out⟩
}}}}
def setAll (W:World) (g:Nat):Nat->List Value->World
 |_,[]=>W
 |i,u::r=>setAll (W.setCell ⟨g,i,none⟩ u) g (i+1) r
theorem grown_refl (W:World) (r:Option Nat):W.grownBy W r:=⟨rfl,rfl,rfl,Nat.le_refl _,fun _ _ _=>rfl⟩
theorem grown_setAll (g:Nat):∀(us:List Value) (W:World) (i:Nat),W.grownBy (setAll W g i us) (some g)
 |[],W,_=>grown_refl W _
 |u::r,W,i=>grownBy_trans (grown_set W g i u) (grown_setAll g r _ _)
theorem below_setAll {w:World} {B g:Nat} (hg:B<=g):∀(us:List Value) (W:World) (i:Nat),Below B w W->Below B w (setAll W g i us)
 |[],_,_,h=>h
 |u::r,W,i,h=>below_setAll hg r _ _ (h.setCell (p:=⟨g,i,none⟩) hg u)
def lset:List Value->Nat->List Value->List Value
 |l,_,[]=>l
 |l,i,u::r=>lset (l.set i u) (i+1) r
theorem Blk.setAll {g:Nat} {t:TypeId}:∀(us:List Value) {W:World} {i:Nat} {old:List Value},Blk W g t old->Blk (setAll W g i us) g t (lset old i us)
 |[],_,_,_,h=>h
 |u::r,_,i,_,h=>Blk.setAll r (h.set i u)
theorem Blk.grownN {W W':World} {g g':Nat} {t:TypeId} {us:List Value} (h:Blk W g t us) (hg:W.grownBy W' (some g')) (hne:g≠g'):Blk W' g t us:=h.grownB hg (fun e=>hne (Option.some.inj e).symm)
def entN:List Ses->Nat
 |[]=>0
 |x::r=>x.ents.length+entN r
theorem entN_app (l m:List Ses):entN (l++m)=entN l+entN m:=by
 induction l with
 |nil=>simp[entN]
 |cons x r ih=>rw[List.cons_append,entN,entN,ih];omega
theorem entN_take (l:List Ses) {i:Nat} {x:Ses} (h:l[i]?=some x):entN (l.take (i+1))=entN (l.take i)+x.ents.length:=by
 rw[List.take_add_one,h,entN_app]
 simp[entN]
theorem entN_le (l:List Ses) (i:Nat):entN (l.take i)<=entN l:=by
 have h:=entN_app (l.take i) (l.drop i)
 rw[List.take_append_drop]at h
 omega
def safe (ks:List Nat):Bool:=noFit [1,3,4,3,1,3,4] ks&&noFit [1,1,1] ks&&noFit [3,3] ks&&noFit [3,1,1,1] ks&&noFit [3,1] ks
structure DrA (W:World) (ve vc vt vh:Value) (E:List Ent) (C:List Cnk) (T:List Ent) (H:List Hol):Prop where
 e:SeqAt entS W ve E
 c:SeqAt chkS W vc C
 t:SeqAt entS W vt T
 h:SeqAt holS W vh H
section
variable {W W':World} {ve vc vt vh:Value} {E T:List Ent} {C:List Cnk} {H:List Hol}
theorem DrA.below (h:DrA W ve vc vt vh E C T H) (hb:Below W.heap.size W W'):DrA W' ve vc vt vh E C T H:=⟨h.e.below hb,h.c.below hb,h.t.below hb,h.h.below hb⟩
theorem DrA.box (h:DrA W ve vc vt vh E C T H) {D:Nat} {t:TypeId} {us:List Value} (hB:Blk W D t us) (hg:W.grownBy W' (some D)) (hs:safe (us.map kd)=true):DrA W' ve vc vt vh E C T H:=by
 simp only[safe,Bool.and_eq_true]at hs
 obtain⟨⟨⟨⟨h1,h2⟩,h3⟩,h4⟩,h5⟩:=hs
 have hb:Box W D (us.map kd):=⟨t,us,hB,rfl⟩
 exact⟨off_ent h1 h2 h3 W W' D _ _ hb hg h.e,off_chk h4 W W' D _ _ hb hg h.c,off_ent h1 h2 h3 W W' D _ _ hb hg h.t,off_hol h5 W W' D _ _ hb hg h.h⟩
theorem DrA.nil (W:World):DrA W (.slice none 0 0) (.slice none 0 0) (.slice none 0 0) (.slice none 0 0) [] [] [] []:=⟨SeqAt.nil _,SeqAt.nil _,SeqAt.nil _,SeqAt.nil _⟩
end
end
end Go.Proofs.YthgenkkkapilhaaGreatDoor
