/-
  Joined: EncAz EncD VrH VrI.
-/
import Derived.Test.YthgenkkkapilhaaGreatDoorVFk31
import Derived.Test.YthgenkkkapilhaaGreatDoorVFk33
set_option linter.all false
set_option maxRecDepth 100000
set_option maxHeartbeats 64000000
namespace Go.Proofs.YthgenkkkapilhaaGreatDoor
section
open Go.RowKit
def perI (l:List Nat) (i:Nat):List Nat:=(List.range 836).map fun j=>if uil j<i then cf l (uil j) else 0
theorem perI_len (l:List Nat) (i:Nat):(perI l i).length=836:=by unfold perI;rw[List.length_map,List.length_range]
theorem perI_cf (l:List Nat) (i j:Nat):cf (perI l i) j=if j<836 then (if uil j<i then cf l (uil j) else 0) else 0:=by unfold perI;rw[cf_map]
theorem perI_set {l:List Nat} {i:Nat} (h:i<836):(perI l i).set (ilv i) (cf l i)=perI l (i+1):=by
 refine list_ext836 (by rw[List.length_set,perI_len]) (perI_len _ _) fun j hj=>?_
 rw[cf_set _ _ _ _ (by rw[perI_len];exact ilv_lt h),perI_cf,perI_cf,if_pos hj,if_pos hj]
 by_cases e:ilv i=j
 {
 subst e
 rw[if_pos rfl,uil_ilv h,if_pos (by omega)]}
 {
 rw[if_neg e]
 have hne:uil j≠i:=fun hu=>e (by rw[<-hu];exact(ilv_uil hj).1)
 by_cases h1:uil j<i
 ·rw[if_pos h1,if_pos (by omega)]
 ·rw[if_neg h1,if_neg (by omega)]}
theorem perI_zero (l:List Nat):perI l 0=List.replicate 836 0:=by
 refine list_ext836 (perI_len _ _) List.length_replicate fun j hj=>?_
 rw[perI_cf,if_pos hj,if_neg (by omega)]
 unfold cf
 rw[List.getElem?_replicate,if_pos hj]
 rfl
theorem perI_end (l:List Nat):perI l 836=interL l:=by
 unfold perI interL
 refine List.map_congr_left fun j hj=>?_
 rw[if_pos (ilv_uil (List.mem_range.1 hj)).2]
theorem permI_any (w:World) (s:ByteArray) (hs:s.size=836):Calls Tryz.prog 309 #[.string s,.int .i64 8,.func (.func 310) #[] #[]] w fun e w'=>e=.returned (.tuple #[.string (strB (interL (bs s))),.int .i64 0])/\Below w.heap.size w w':=by
 have hmk:=make_u8_836
 have hsI:(s.size:Int)=836:=by omega
 have hK0:U8B (w.alloc (.cells (arrB (perD [] 0)) 5)) w.heap.size (perI (bs s) 0):=by
  rw[perI_zero,<-perD_zero []]
  exact U8B.new w _
 have HK0:=zY hK0
 have HB0:=zY (zBl w (.cells (arrB (perD [] 0)) 5))
 have hbl:=bs_len s
 clear hK0
 go_enter Tryz.func309,Tryz.ntmps309
 go_wp2
 go_loopw [19] (fun x wr=>∃i:Nat,i<=836/\x=.int .i64 i/\U8B wr w.heap.size (perI (bs s) i)/\Below w.heap.size w wr) (fun x _=>836-(intOf x).toNat)
 case atStart=>exact⟨0,by omega,rfl,HK0.out,HB0.out⟩
 case round=>
  obtain⟨i,hi,rfl,hb,hB⟩:=hrel
  have Hb:=zY hb
  have HBr:=zY hB
  clear hb hB HK0 HB0
  by_cases h:i<836
  {
  have hiI:(i:Int)<836:=by omega
  go_wp2_with fail
  refine(ilindex_any _ i h).mono ?_
  rintro e w1 ⟨rfl,hb⟩
  have Hb1:=zY (Blk.kept Hb.out hb)
  have HB1:=zYt HBr hb
  have hlt:=Blk.lt Hb.out
  clear hb
  have hil:=ilv_lt h
  have hx:i<s.size:=by omega
  have hxI:(i:Int)<s.size:=by omega
  have hxJ:((ilv i:Nat):Int)<836:=by omega
  have hcx:cf (bs s) i=(s[i]'hx).toNat:=cf_get (bs_get s _ hx)
  have hc1:=U8B.cell Hb1.out (i:=ilv i) (x:=cf (perI (bs s) i) (ilv i)) (by unfold cf;rw[List.getElem?_eq_getElem (by rw[perI_len];exact hil)];rfl)
  have hf1:=Blk.frozen Hb1.out (ilv i)
  have Hset:Hid (U8B (w1.setCell ⟨w.heap.size,ilv i,none⟩ (.int .u8 ((s[i]'hx).toNat:Nat))) w.heap.size (perI (bs s) (i+1))):=zY (by
   rw[<-hcx,<-perI_set h]
   exact U8B.set Hb1.out (ilv i) _)
  clear hcx
  go_wp2_with (go_at_call 310;refine(inter1_any _ _ _).mono ?_;rintro e w' ⟨rfl,rfl⟩)
  go_roundw
  case rel=>exact⟨i+1,by omega,by go_num,Hset.out,HB1.out.setCell (p:=⟨w.heap.size,ilv i,none⟩) (Nat.le_refl _) _⟩
  case measure=>simp[intOf];omega}
  {
  have hi8:i=836:=by omega
  subst hi8
  have hv:=U8B.bytes Hb.out (n:=836) (c:=836) (by rw[perI_len]) (Nat.le_refl _) (by omega)
  rw[perI_end]at hv
  have hcs:=run_toStr hv (interL_len _).symm
  clear hv
  go_wp2
  go_ret2
  exact⟨rfl,HBr.out⟩}
theorem inter_any (w:World) (s:ByteArray) (hs:s.size=836):Calls Tryz.prog 257 #[.string s,.int .i64 8] w fun e w'=>e=.returned (.tuple #[.string (strB (interL (bs s))),.int .i64 0])/\Below w.heap.size w w':=by
 have H:=zY (permI_any w s hs)
 clear hs
 go_enter Tryz.func257,Tryz.ntmps257
 go_wp2_with (go_at_call 309;refine H.out.mono ?_;rintro e w' ⟨rfl,hb⟩)
 go_ret2
 exact⟨rfl,hb⟩
theorem u8_sh1:∀(j:Fin 8) (b:Fin 256),bits .and .u8 ((b.val:Int)/(2:Int)^j.val) 1=((b.val/2^j.val%2:Nat):Int):=by decide +kernel
theorem cfrom_any (w:World) (s:ByteArray) (hs:s.size<=10000):Calls Tryz.prog 168 #[.string s] w fun e w'=>e=.returned (.string (strB (frmB (bs s))))/\Below w.heap.size w w':=by
 have hbl:=bs_len s
 go_enter Tryz.func168,Tryz.ntmps168
 go_wp2
 go_loopw [8] (fun x wr=>∃i:Nat,i<=s.size/\x=.int .i64 (i:Int)/\Bld wr w.heap.size w.heap.size (frmB ((bs s).take i))/\Below w.heap.size w wr) (fun x _=>s.size-(intOf x).toNat)
 case atStart=>exact⟨0,by omega,rfl,Bld.new w,(Below.refl _ _).alloc (Nat.le_refl _) _⟩
 case round=>
  obtain⟨i,hi,rfl,hbl1,hB⟩:=hrel
  have Hbl:=zY hbl1
  have HBr:=zY hB
  clear hbl1 hB
  by_cases h:i<s.size
  {
  have hiI:(i:Int)<s.size:=by omega
  have hst:frmB ((bs s).take (i+1))=frmB ((bs s).take i)++byCs (s[i]'h).toNat:=by
   rw[List.take_add_one,bs_get s i h]
   exact frmB_snoc _ _
  have Hst:=zY hst
  have hlen:(frmB ((bs s).take i)).length<=80000:=by rw[frmB_len,List.length_take];omega
  have hb8:(s[i]'h).toNat<256:=UInt8.toNat_lt _
  obtain⟨L,hL⟩:=zNm (frmB ((bs s).take i))
  rw[hL]at Hbl Hst hlen
  have Hlen:=zY hlen
  have Hb8:=zY hb8
  clear hst hL hlen hb8
  go_wp2
  go_loopw [11] (fun x wq=>∃k:Nat,k<=8/\x=.int .i64 (k:Int)/\Bld wq w.heap.size w.heap.size (L++(List.range k).map (byC (s[i]'h).toNat))/\Below w.heap.size w wq) (fun x _=>8-(intOf x).toNat)
  case atStart=>exact⟨0,by omega,rfl,by simpa using Hbl.out,HBr.out⟩
  case round=>
   obtain⟨k,hk,rfl,hbl2,hB2⟩:=hrel
   by_cases h':k<8
   {
   have hkI:(k:Int)<8:=by omega
   have Hwb:=zY (wb_any wr w.heap.size w.heap.size _ (byC (s[i]'h).toNat k) hbl2 (by rw[List.length_append,List.length_map,List.length_range];have:=Hlen.out;omega) hB2.size)
   have hsn:(L++(List.range k).map (byC (s[i]'h).toNat))++[byC (s[i]'h).toNat k]=L++(List.range (k+1)).map (byC (s[i]'h).toNat):=by rw[List.range_succ,List.map_append,List.append_assoc];rfl
   have Hsn:=zY hsn
   have HB2:=zY hB2
   have hsh:=u8_sh1 ⟨7-k,by omega⟩ ⟨(s[i]'h).toNat,Hb8.out⟩
   dsimp only at hsh
   have hx2:(s[i]'h).toNat/2^(7-k)%2<2:=Nat.mod_lt _ (by decide)
   have hbc:byC (s[i]'h).toNat k=48+(s[i]'h).toNat/2^(7-k)%2:=rfl
   rw[hsn,hbc]at Hwb
   generalize (s[i]'h).toNat/2^(7-k)%2=x at *
   have hw1:IntKind.u8.wrap (48+(x:Int))=48+x:=by rw[IntKind.wrap_u8];omega
   have hw2:(48+(x:Int))%256=48+x:=by omega
   have hw3:(((48+x:Nat)):Int)=48+x:=by omega
   rw[hw3]at Hwb
   clear hsn hbc hx2 hw3 hbl2 hB2
   rcases (by omega:k=0∨k=1∨k=2∨k=3∨k=4∨k=5∨k=6∨k=7)with rfl|rfl|rfl|rfl|rfl|rfl|rfl|rfl
   all_goals
    simp only[Nat.sub_zero,Nat.reduceSub,Nat.sub_self,Int.reducePow,Int.ediv_one]at hsh
    go_wp2_with fail
    refine Hwb.out.mono ?_
    rintro e w2 ⟨rfl,hbl3,hb3⟩
    have HL3:=zY hbl3
    have HB3:=zY hb3
    clear hbl3 hb3 Hwb Hbl HBr Hst Hlen Hb8 Hsn hsh
    go_wp2_with fail
    refine⟨⟨_,?_,?_,HL3.out,HB2.out.trans HB3.out⟩,?_⟩
    ·omega
    ·rfl
    ·simp[intOf]}
   {
   obtain rfl:k=8:=by omega
   have HB2:=zY hB2
   have Hb2:Hid (Bld wr w.heap.size w.heap.size (frmB ((bs s).take (i+1)))):=zY (by rw[Hst.out];exact hbl2)
   clear hbl2 hB2
   go_wp2
   go_roundw
   case rel=>exact⟨i+1,by omega,by go_num,Hb2.out,HB2.out⟩
   case measure=>simp[intOf];omega}}
  {
  obtain rfl:i=s.size:=by omega
  have hl:=Hbl.out
  rw[List.take_of_length_le (by omega)]at hl
  have Hs:=zY (str_any wr w.heap.size w.heap.size _ (fun c hc=>by rcases frmB_01 _ c hc with rfl|rfl<;>omega) hl HBr.out.size)
  clear hl Hbl
  go_wp2_with (go_at_call 65;refine Hs.out.mono ?_;rintro e w2 ⟨rfl,hbl3,hb3⟩;have HB3:=zY hb3;clear hbl3 hb3)
  go_ret
  exact⟨rfl,HBr.out.trans HB3.out⟩
}
end
section
def parts (r w:List Nat) (j:Nat):Bool:=cf r j != cf w j
end
section
open Go.RowKit
theorem genP_all:allB 9 (fun i=>(genP i).all (fun x=>decide (x<256))&&decide ((genP i).length<=9))=true:=by decide +kernel
theorem genP_bytes {i:Nat} (h:i<9):Bytes (genP i)/\(genP i).length<=9:=by
 have h1:=allB_out genP_all i h
 simp only[Bool.and_eq_true,decide_eq_true_eq,List.all_eq_true]at h1
 exact⟨fun x hx=>by simpa using h1.1 x hx,h1.2⟩
theorem gexp_small {i:Nat} (h:i<8):gexp (i:Int)=pw i:=by
 unfold gexp gexpN
 congr 1
 omega
theorem gen_any (w:World):Calls Tryz.prog 306 #[.int .i64 8] w fun e w'=>∃v,e=.returned (.tuple #[v,.int .i64 0])/\BytesAt w' v G8/\Below w.heap.size w w':=by
 go_enter Tryz.func306,Tryz.ntmps306
 go_wp2
 go_loopw [4,14] (fun v x wr=>∃i:Nat,i<=8/\x=.int .i64 (i:Int)/\BytesAt wr v (genP i)/\Below w.heap.size w wr) (fun _ x _=>8-(intOf x).toNat)
 case atStart=>exact⟨0,by omega,rfl,BytesAt.one w 1,(Below.refl _ _).alloc (Nat.le_refl _) _⟩
 case round=>
  obtain⟨i,hi,rfl,hv,hB⟩:=hrel
  rename_i v _
  by_cases h:i<8
  {
  have hiI:(i:Int)<8:=by omega
  obtain⟨hgb,hgl⟩:=genP_bytes (i:=i) (by omega)
  have Hv:=zY hv
  have HBr:=zY hB
  have He:=zY (gexp_any wr (i:Int) (by omega))
  rw[gexp_small h]at He
  have hnext:pmul (genP i) [pw i,1]=genP (i+1):=rfl
  have Hnext:=zY hnext
  have hpw:=pw_lt i
  clear hv hB hnext
  go_wp2_with fail
  refine He.out.mono ?_
  rintro e w1 ⟨rfl,hb1⟩
  have hv1:=BytesAt.below Hv.out hb1
  have hA:Below w1.heap.size w1 (w1.alloc (.cells #[.int .u8 (pw i:Nat),.int .u8 1] 5)):=(Below.refl _ _).alloc (Nat.le_refl _) _
  have hv2:=BytesAt.below hv1 hA
  have hq:BytesAt (w1.alloc (.cells #[.int .u8 (pw i:Nat),.int .u8 1] 5)) (.slice (some ⟨w1.heap.size,0,none⟩) 2 2) [pw i,1]:=(U8B.new w1 [pw i,1]).bytes rfl (Nat.le_refl _) (by omega)
  have Hm:=zY (pmul_any _ _ _ _ _ hv2 hq hgb (fun x hx=>by simp at hx;omega) (by omega) (by simp))
  have HB2:=zY (HBr.out.trans ((hb1.trans (hA.mono hb1.size)).mono HBr.out.size))
  clear hv1 hA hv2 hq hb1 hgb hgl hpw
  go_wp2_with fail
  refine Hm.out.mono ?_
  rintro e w2 ⟨v',rfl,hv',hb2⟩
  rw[Hnext.out]at hv'
  have Hv':=zY hv'
  have HB3:=zYt HB2 hb2
  clear hv' hb2
  go_wp2
  go_roundw
  case rel=>exact⟨i+1,by omega,by go_num,Hv'.out,HB3.out⟩
  case measure=>simp[intOf];omega}
  {
  obtain rfl:i=8:=by omega
  have Hv:=zY hv
  have HBr:=zY hB
  clear hv hB
  go_wp2
  go_ret2
  exact⟨_,rfl,by rw[<-genP_8];exact Hv.out,HBr.out⟩
}
def lfI (r:List Nat) (s i:Nat):List Nat:=(List.range 8).map fun j=>if j<i then cf r (j+1)^^^gmul (s^^^cf r 0) (cf G8 (7-j)) else cf r (j+1)
theorem lfI_len (r:List Nat) (s i:Nat):(lfI r s i).length=8:=by unfold lfI;rw[List.length_map,List.length_range]
theorem lfI_cf (r:List Nat) (s i j:Nat):cf (lfI r s i) j=if j<8 then (if j<i then cf r (j+1)^^^gmul (s^^^cf r 0) (cf G8 (7-j)) else cf r (j+1)) else 0:=by unfold lfI;rw[cf_map]
theorem list_ext8 {a b:List Nat} (ha:a.length=8) (hb:b.length=8) (h:∀i,i<8->cf a i=cf b i):a=b:=by
 refine List.ext_getElem? fun i=>?_
 by_cases hi:i<8
 {
 have:=h i hi
 unfold cf at this
 rw[List.getElem?_eq_getElem (by omega),List.getElem?_eq_getElem (by omega)]at this⊢
 simpa using this}
 ·rw[List.getElem?_eq_none (by omega),List.getElem?_eq_none (by omega)]
theorem lfI_zero {r:List Nat} (h:r.length=8) (s:Nat):r.drop 1++[0]=lfI r s 0:=by
 refine list_ext8 (by simp[h]) (lfI_len _ _ _) fun j hj=>?_
 rw[lfI_cf,if_pos hj,if_neg (by omega)]
 unfold cf
 by_cases h7:j<7
 ·rw[List.getElem?_append_left (by simp;omega),List.getElem?_drop,Nat.add_comm]
 {
 obtain rfl:j=7:=by omega
 rw[List.getElem?_append_right (by simp[h]),List.getElem?_eq_none (l:=r) (by omega)]
 simp[h]}
theorem lfI_set {r:List Nat} {s i:Nat} (h:i<8):(lfI r s i).set i (cf (lfI r s i) i^^^gmul (s^^^cf r 0) (cf G8 (7-i)))=lfI r s (i+1):=by
 refine list_ext8 (by rw[List.length_set,lfI_len]) (lfI_len _ _ _) fun j hj=>?_
 rw[cf_set _ _ _ _ (by rw[lfI_len];exact h),lfI_cf,lfI_cf,lfI_cf,if_pos hj,if_pos hj,if_pos h,if_neg (Nat.lt_irrefl i)]
 by_cases e:i=j
 {
 subst e
 rw[if_pos rfl,if_pos (by omega)]}
 {
 rw[if_neg e]
 by_cases h1:j<i
 ·rw[if_pos h1,if_pos (by omega)]
 ·rw[if_neg h1,if_neg (by omega)]}
theorem lfI_end (r:List Nat) (s:Nat):lfI r s 8=lfsr G8 r s:=by
 unfold lfI lfsr
 refine List.map_congr_left fun j hj=>?_
 rw[if_pos (List.mem_range.1 hj)]
structure DivSt (W:World) (B gb go gc:Nat) (r:List Nat):Prop where
 g:W.cell? ⟨B,0,none⟩=some (.slice (some ⟨gb,go,none⟩) 9 gc)
 n:W.cell? ⟨B+1,0,none⟩=some (.int .i64 8)
 row:U8B W (B+2) r
 rest:W.cell? ⟨B+3,0,none⟩=some (.slice (some ⟨B+2,0,none⟩) 8 8)
 gs:∀i,i<9->W.cell? ⟨gb,go+i,none⟩=some (.int .u8 (cf G8 i:Nat))
 lt:gb<B
theorem DivSt.turned {A C:World} {B gb go gc:Nat} {r r':List Nat} (h:DivSt A B gb go gc r) (t:Turned A C (B+2)) (hr:U8B C (B+2) r'):DivSt C B gb go gc r':=by
 have hlt:=h.lt
 have hk:∀p:Addr,p.block≠B+2->∀u,A.cell? p=some u->C.cell? p=some u:=fun p hp u hu=>(World.cell?_of_block (t.other p.block hp)).trans hu
 exact⟨hk _ (by show B≠B+2;omega) _ h.g,hk _ (by show B+1≠B+2;omega) _ h.n,hr,hk _ (by show B+3≠B+2;omega) _ h.rest,fun i hi=>hk _ (by show gb≠B+2;omega) _ (h.gs i hi),h.lt⟩
theorem DivSt.drw {A:World} {B gb go gc:Nat} {r:List Nat} (h:DivSt A B gb go gc r):DivSt A.drew B gb go gc r:=⟨h.g,h.n,h.row,h.rest,h.gs,h.lt⟩
theorem setRow_turned (W:World) (g:Nat) (cs:Array Value):Turned W (W.setRow g cs) g:=
 ⟨rfl,rfl,rfl,by simp[World.setRow],fun k hk=>setRow_other W g k cs hk⟩
theorem run_copyT {W:World} {g n c:Nat} {ad:Addr} {m k:Nat} {cur p:List Nat} (ty:TypeId) (hg:U8B W g cur) (hp:BytesAt W (.slice (some ad) m c) p) (hm:m=p.length) (hpn:p.length<=n) (hn:n=cur.length):
  ∃w2,(Builtin.copy_ #[117,117] ty #[.slice (some ⟨g,0,none⟩) n k,.slice (some ad) m c]).run Tryz.prog W=.ok (.int .i64 (m:Int)) w2/\U8B w2 g (p++cur.drop p.length)/\Turned W w2 g:=by
 subst hm hn
 obtain⟨h1,h2⟩:=cells_of hp
 have hmin:Nat.min p.length cur.length=p.length:=Nat.min_eq_left hpn
 have hr:=run_copy_row (P:=Tryz.prog) W 117 117 ty 5 g 0 cur.length k ad p.length c _ 5 (p.map u8V) Tryz.underlying117 (by kernel_rfl) hg (by rw[List.length_map];exact hmin.symm) (h2 ad rfl) (by simpa using hpn) (one_u8s p)
 rw[List.length_map]at hr
 have hs:=setRow_heap W g (cur.map u8V).toArray (List.take 0 ((cur.map u8V).toArray.toList)++p.map u8V++List.drop (0+p.length) ((cur.map u8V).toArray.toList)).toArray 5 _ hg
 refine⟨_,hr,hs.trans ?_,setRow_turned _ _ _⟩
 simp
theorem div1_any (W:World) (B gb go gc:Nat) (r:List Nat) (s:Nat) (h:DivSt W B gb go gc r) (hr:r.length=8) (hrb:Bytes r) (hs:s<256):
  Calls Tryz.prog 357 #[.int .u8 (s:Int),.pointer (some ⟨B+3,0,none⟩),.pointer (some ⟨B+1,0,none⟩),.pointer (some ⟨B,0,none⟩)] W fun e w'=>(∃x,e=.returned x)/\DivSt w' B gb go gc (lfsr G8 r s)/\Below B W w':=by
 have HA:=zY (fun V=>gadd_any V s (cf r 0) hs (cf_lt hrb 0))
 have hx:s^^^cf r 0<256:=xor_lt hs (cf_lt hrb 0)
 obtain⟨r0,t0,hrt⟩:∃a b,r=a::b:=by
  cases r with
  |nil=>simp at hr
  |cons a b=>exact⟨a,b,rfl⟩
 have hc0:=h.row.cell (i:=0) (x:=cf r 0) (by rw[hrt];rfl)
 have hcr:=h.rest
 have H:=zY h
 have Hr:=zY hr
 have Hrb:=zY hrb
 have Hx:=zY hx
 clear hrt h hr hrb hx hs
 go_enter Tryz.func357,Tryz.ntmps357
 go_upto_region 1 with(go_at_call 189;refine(HA.out _).mono ?_;rintro e w' ⟨rfl,rfl⟩)
 obtain⟨w2,hcopy,hrow2,ht2⟩:=run_copyT (W:=W.drew) (n:=8) (k:=8) (c:=7) (m:=7) (ad:=⟨B+2,1,none⟩) (p:=r.drop 1) 3 H.out.row (by
  refine⟨some ⟨B+2,1,none⟩,7,by simp[Hr.out],by simp[Hr.out],by decide,fun j x hj=>?_⟩
  rw[List.getElem?_drop]at hj
  exact⟨B+2,1,_,rfl,by rw[show 1+j=1+j from rfl];exact H.out.row.cell hj,rfl⟩) (by simp[Hr.out]) (by simp[Hr.out]) Hr.out.symm
 rw[show (r.drop 1).length=7 by simp[Hr.out]]at hrow2
 have Hrow2:=zY hrow2
 have Ht2:=zY ht2
 clear hrow2 ht2
 go_cut [] (fun wx=>DivSt wx B gb go gc (r.drop 1++r.drop 7)/\Below B W wx)
 case first=>
  refine wp_region_held_drew (S:=(fun w'=>w'.cell? ⟨B+3,0,none⟩=some (.slice (some ⟨B+2,0,none⟩) 8 8))) (by kernel_rfl) ?_ (fun hHeld=>?_)
  ·(first|exact H.out.rest|exact(World.cell?_of_block (Ht2.out.other (B+3) (by omega))).trans H.out.rest)
  refine tk 0 ?_
  refine tk 1 ?_
  refine tk 2 ?_
  refine zE1 3 fun K hK=>?_
  go_simp
  refine hko hK (by(first|exact H.out.rest|exact(World.cell?_of_block (Ht2.out.other (B+3) (by omega))).trans H.out.rest)) (fun _=>?_)
  clear hK K
  refine wpAnyH_done (by kernel_rfl) ?_ _
  have hD:=H.out.drw.turned Ht2.out Hrow2.out
  go_wp2_with fail
  go_meet
  exact⟨hD,Ht2.out.below (Below.refl B W).drew (by omega)⟩
 case rest=>
  obtain⟨hd,hbw⟩:=hcut
  have HD:=zY hd
  have HBw:=zY hbw
  have hcr:=hd.rest
  have hcn:=hd.n
  have e1:(r.drop 1++r.drop 7).set 7 0=lfI r s 0:=by
   rw[<-lfI_zero Hr.out s]
   have h7:(r.drop 7).length=1:=by simp[Hr.out]
   match hq:r.drop 7,h7 with
   |[q],_=>rw[List.set_append_right _ _ (by simp[Hr.out])];simp[Hr.out]
  have hc7:=hd.row.cell (i:=7) (x:=cf r 7) (by rw[List.getElem?_append_right (by simp[Hr.out])];simp[Hr.out,cf])
  have hf7:=hd.row.frozen 7
  have HR7:=zY (hd.row.set 7 0)
  rw[e1]at HR7
  have HD2:=zY (hd.turned (turned_set1 wc (B+2) 7 (.int .u8 0)) HR7.out)
  have HB2:=zY (hbw.setCell (p:=⟨B+2,7,none⟩) (by show B<=B+2;omega) (.int .u8 0))
  clear hd hbw e1 hcopy Hrow2 Ht2 H HA
  go_upto_region 3 with fail
  generalize wc.setCell ⟨B+2,7,none⟩ (.int .u8 0)=wd at *
  clear hc7 hf7 HR7 hcr hcn HD HBw
  have hcr:=HD2.out.rest
  go_upto_region 4 with fail
  clear hcr
  go_loopw [22] (fun x wr=>∃i:Nat,i<=8/\x=.int .i64 (i:Int)/\DivSt wr B gb go gc (lfI r s i)/\Below B W wr) (fun x _=>8-(intOf x).toNat)
  case atStart=>exact⟨0,by omega,rfl,HD2.out,HB2.out⟩
  case round=>
   obtain⟨i,hi,rfl,hd,hbw⟩:=hrel
   have HD:=zY hd
   have HBw:=zY hbw
   clear hbw HD2 HB2
   by_cases h:i<8
   {
   have hiI:(i:Int)<8:=by omega
   have hw0:IntKind.i64.wrap 7=7:=by decide
   have hw1:IntKind.i64.wrap (7-(i:Int))=7-i:=by rw[IntKind.wrap_i64];omega
   have hw2:(7-(i:Int)).toNat=7-i:=by omega
   have hw3:(0:Int)<=7-i:=by omega
   have hw4:(7:Int)-i<9:=by omega
   have hw5:(i:Int)<=7:=by omega
   have hlb:cf (lfI r s i) i<256:=by rw[lfI_cf,if_pos h,if_neg (Nat.lt_irrefl i)];exact cf_lt Hrb.out _
   have hgb:cf G8 (7-i)<256:=cf_lt (by decide) _
   have HM:Hid (∀V:World,Calls Tryz.prog 188 #[.int .u8 ((s^^^cf r 0:Nat):Int),.int .u8 (cf G8 (7-i):Nat)] V fun e w'=>e=.returned (.int .u8 (gmul (s^^^cf r 0) (cf G8 (7-i)):Nat))/\V=w'):=zY (fun V=>gmul_any V _ _ Hx.out hgb)
   have HA2:Hid (∀V:World,Calls Tryz.prog 189 #[.int .u8 (cf (lfI r s i) i:Nat),.int .u8 (gmul (s^^^cf r 0) (cf G8 (7-i)):Nat)] V fun e w'=>e=.returned (.int .u8 ((cf (lfI r s i) i^^^gmul (s^^^cf r 0) (cf G8 (7-i)):Nat):Int))/\V=w'):=zY (fun V=>gadd_any V _ _ hlb (gmul_lt _ Hx.out))
   have hcl:=hd.row.cell (i:=i) (x:=cf (lfI r s i) i) (by unfold cf;rw[List.getElem?_eq_getElem (by rw[lfI_len];exact h)];rfl)
   have hfl:=hd.row.frozen i
   have HG:Hid (wr.cell? ⟨gb,go+(7-i),none⟩=some (.int .u8 (cf G8 (7-i):Nat))):=zY (hd.gs (7-i) (by omega))
   have HSet:Hid (U8B (wr.setCell ⟨B+2,i,none⟩ (.int .u8 ((cf (lfI r s i) i^^^gmul (s^^^cf r 0) (cf G8 (7-i)):Nat):Int))) (B+2) (lfI r s (i+1))):=zY (by rw[<-lfI_set h];exact hd.row.set i _)
   have hlt:=hd.lt
   clear hd hlb hgb
   generalize cf (lfI r s i) i=cl at *
   generalize gmul (s^^^cf r 0) (cf G8 (7-i))=cm at *
   generalize s^^^cf r 0=f at *
   generalize cf G8 (7-i)=cg at *
   go_upto_region 6 with fail
   refine wp_region_held_drew (S:=(fun w'=>w'.cell? ⟨B,0,none⟩=some (.slice (some ⟨gb,go,none⟩) 9 gc)/\w'.cell? ⟨B+1,0,none⟩=some (.int .i64 8)/\w'.cell? ⟨B+3,0,none⟩=some (.slice (some ⟨B+2,0,none⟩) 8 8)/\w'.cell? ⟨gb,go+(7-i),none⟩=some (.int .u8 (cg:Int)))) (by kernel_rfl) ?_ (fun hHeld=>?_)
   ·(first|exact⟨HD.out.g,HD.out.n,HD.out.rest,HG.out⟩|exact⟨(World.cell?_setCell_other _ _ _ _ (by first|(simp;done)|(simp;omega))).trans HD.out.g,(World.cell?_setCell_other _ _ _ _ (by first|(simp;done)|(simp;omega))).trans HD.out.n,(World.cell?_setCell_other _ _ _ _ (by first|(simp;done)|(simp;omega))).trans HD.out.rest,(World.cell?_setCell_other _ _ _ _ (by first|(simp;done)|(simp;omega))).trans HG.out⟩)
   refine tk 0 ?_
   refine tk 1 ?_
   refine tk 2 ?_
   refine tk 3 ?_
   refine tk 4 ?_
   refine tk 6 ?_
   refine tk 7 ?_
   refine tk 8 ?_
   refine tk 9 ?_
   refine tk 10 ?_
   refine tk 11 ?_
   refine tk 12 ?_
   refine tk 13 ?_
   refine take_call (i:=14) (oi:=_) (v:=(.int .u8 (cm:Int))) rfl (by kernel_rfl) (by kernel_rfl) (by kernel_rfl) (fun _ _ _ h=>h) (And.intro (by rfl) ?hyb14) (by assumption) ?restb14
   case hyb14=>
    intro V hSw
    exact⟨188,#[.int .u8 (f:Int),.int .u8 (cg:Int)],by go_simp,HM.out V⟩
   try simp only[Act.put,List.setIfInBounds_toArray]
   try simp only[List.getElem_toArray,List.getElem_cons_zero,List.getElem_cons_succ]
   refine zE1 5 fun K hK=>?_
   go_simp
   refine hko hK (by(first|exact⟨HD.out.g,HD.out.n,HD.out.rest,HG.out⟩|exact⟨(World.cell?_setCell_other _ _ _ _ (by first|(simp;done)|(simp;omega))).trans HD.out.g,(World.cell?_setCell_other _ _ _ _ (by first|(simp;done)|(simp;omega))).trans HD.out.n,(World.cell?_setCell_other _ _ _ _ (by first|(simp;done)|(simp;omega))).trans HD.out.rest,(World.cell?_setCell_other _ _ _ _ (by first|(simp;done)|(simp;omega))).trans HG.out⟩)) (fun _=>?_)
   clear hK K
   refine take_call (i:=15) (oi:=_) (v:=(.int .u8 ((cl^^^cm:Nat):Int))) rfl (by kernel_rfl) (by kernel_rfl) (by kernel_rfl) (fun _ _ _ h=>h) (And.intro (by rfl) ?hyb15) (by assumption) ?restb15
   case hyb15=>
    intro V hSw
    exact⟨189,#[.int .u8 (cl:Int),.int .u8 (cm:Int)],by go_simp,HA2.out V⟩
   try simp only[Act.put,List.setIfInBounds_toArray]
   try simp only[List.getElem_toArray,List.getElem_cons_zero,List.getElem_cons_succ]
   refine tk 16 ?_
   refine zE1 17 fun K hK=>?_
   go_simp
   refine hko hK (by(first|exact⟨HD.out.g,HD.out.n,HD.out.rest,HG.out⟩|exact⟨(World.cell?_setCell_other _ _ _ _ (by first|(simp;done)|(simp;omega))).trans HD.out.g,(World.cell?_setCell_other _ _ _ _ (by first|(simp;done)|(simp;omega))).trans HD.out.n,(World.cell?_setCell_other _ _ _ _ (by first|(simp;done)|(simp;omega))).trans HD.out.rest,(World.cell?_setCell_other _ _ _ _ (by first|(simp;done)|(simp;omega))).trans HG.out⟩)) (fun _=>?_)
   clear hK K
   refine wpAnyH_done (by kernel_rfl) ?_ _
   have HD3:=zY (DivSt.turned HD.out.drw (turned_set1 wr.drew (B+2) i _) HSet.out)
   have HB3:=zY ((HBw.out.drew).setCell (p:=⟨B+2,i,none⟩) (by show B<=B+2;omega) (.int .u8 ((cl^^^cm:Nat):Int)))
   clear HD HBw hcl hfl HG HSet HM HA2
   go_wp2_with fail
   go_roundw
   case rel=>exact⟨i+1,by omega,by go_num,HD3.out,HB3.out⟩
   case measure=>simp[intOf];omega}
   {
   obtain rfl:i=8:=by omega
   clear hd
   go_wp2_with fail
   go_end0
   exact⟨⟨_,rfl⟩,by rw[<-lfI_end];exact HD.out,HBw.out⟩
}
theorem divider_any (w:World) (gb go gc:Nat) (hg:∀i,i<9->w.cell? ⟨gb,go+i,none⟩=some (.int .u8 (cf G8 i:Nat))):
  Calls Tryz.prog 307 #[.slice (some ⟨gb,go,none⟩) 9 gc] w fun e w'=>e=.returned (.tuple #[.func (.func 357) #[] #[.pointer (some ⟨w.heap.size+3,0,none⟩),.pointer (some ⟨w.heap.size+1,0,none⟩),.pointer (some ⟨w.heap.size,0,none⟩)],.slice (some ⟨w.heap.size+2,0,none⟩) 8 8]) /\
   DivSt w' w.heap.size gb go gc (List.replicate 8 0)/\Below w.heap.size w w':=by
 have hmk:=make_u8_8
 have hm:∃W4,((((w.alloc (.cells #[.slice (some ⟨gb,go,none⟩) 9 gc] 117)).alloc (.cells #[.int .i64 8] 3)).alloc (.cells (arrB [0,0,0,0,0,0,0,0]) 5)).alloc (.cells #[.slice (some ⟨w.heap.size+1+1,0,none⟩) 8 8] 117))=W4/\DivSt W4 w.heap.size gb go gc [0,0,0,0,0,0,0,0]/\Below w.heap.size w W4:=by
  have b1:Below w.heap.size w (w.alloc (.cells #[.slice (some ⟨gb,go,none⟩) 9 gc] 117)):=(Below.refl _ _).alloc (Nat.le_refl _) _
  have b2:Below (w.alloc (.cells #[.slice (some ⟨gb,go,none⟩) 9 gc] 117)).heap.size (w.alloc (.cells #[.slice (some ⟨gb,go,none⟩) 9 gc] 117)) ((w.alloc (.cells #[.slice (some ⟨gb,go,none⟩) 9 gc] 117)).alloc (.cells #[.int .i64 8] 3)):=(Below.refl _ _).alloc (Nat.le_refl _) _
  have b3:Below ((w.alloc (.cells #[.slice (some ⟨gb,go,none⟩) 9 gc] 117)).alloc (.cells #[.int .i64 8] 3)).heap.size ((w.alloc (.cells #[.slice (some ⟨gb,go,none⟩) 9 gc] 117)).alloc (.cells #[.int .i64 8] 3)) (((w.alloc (.cells #[.slice (some ⟨gb,go,none⟩) 9 gc] 117)).alloc (.cells #[.int .i64 8] 3)).alloc (.cells (arrB [0,0,0,0,0,0,0,0]) 5)):=(Below.refl _ _).alloc (Nat.le_refl _) _
  have b4:Below (((w.alloc (.cells #[.slice (some ⟨gb,go,none⟩) 9 gc] 117)).alloc (.cells #[.int .i64 8] 3)).alloc (.cells (arrB [0,0,0,0,0,0,0,0]) 5)).heap.size (((w.alloc (.cells #[.slice (some ⟨gb,go,none⟩) 9 gc] 117)).alloc (.cells #[.int .i64 8] 3)).alloc (.cells (arrB [0,0,0,0,0,0,0,0]) 5)) ((((w.alloc (.cells #[.slice (some ⟨gb,go,none⟩) 9 gc] 117)).alloc (.cells #[.int .i64 8] 3)).alloc (.cells (arrB [0,0,0,0,0,0,0,0]) 5)).alloc (.cells #[.slice (some ⟨w.heap.size+1+1,0,none⟩) 8 8] 117)):=(Below.refl _ _).alloc (Nat.le_refl _) _
  have s1:(w.alloc (.cells #[.slice (some ⟨gb,go,none⟩) 9 gc] 117)).heap.size=w.heap.size+1:=by simp
  have s2:((w.alloc (.cells #[.slice (some ⟨gb,go,none⟩) 9 gc] 117)).alloc (.cells #[.int .i64 8] 3)).heap.size=w.heap.size+2:=by simp
  have s3:(((w.alloc (.cells #[.slice (some ⟨gb,go,none⟩) 9 gc] 117)).alloc (.cells #[.int .i64 8] 3)).alloc (.cells (arrB [0,0,0,0,0,0,0,0]) 5)).heap.size=w.heap.size+3:=by simp
  have k1:=(Boxed.new w 117 (.slice (some ⟨gb,go,none⟩) 9 gc)).cell
  have k2:=(Boxed.new (w.alloc (.cells #[.slice (some ⟨gb,go,none⟩) 9 gc] 117)) 3 (.int .i64 8)).cell
  have k3:=U8B.new ((w.alloc (.cells #[.slice (some ⟨gb,go,none⟩) 9 gc] 117)).alloc (.cells #[.int .i64 8] 3)) [0,0,0,0,0,0,0,0]
  have k4:=(Boxed.new (((w.alloc (.cells #[.slice (some ⟨gb,go,none⟩) 9 gc] 117)).alloc (.cells #[.int .i64 8] 3)).alloc (.cells (arrB [0,0,0,0,0,0,0,0]) 5)) 117 (.slice (some ⟨w.heap.size+1+1,0,none⟩) 8 8)).cell
  rw[s1]at k2
  rw[s2]at k3
  rw[s3]at k4
  have hgl:gb<w.heap.size:=World.block_lt_of_cell? _ _ (hg 0 (by omega))
  refine⟨_,rfl,⟨?_,?_,?_,k4,fun i hi=>?_,hgl⟩,?_⟩
  ·exact cell_below b4 (cell_below b3 (cell_below b2 k1))
  ·exact cell_below b4 (cell_below b3 k2)
  ·exact Blk.kept k3 b4
  ·exact cell_below b4 (cell_below b3 (cell_below b2 (cell_below b1 (hg i hi))))
  ·exact b1.trans ((b2.trans ((b3.trans (b4.mono b3.size)).mono b2.size)).mono b1.size)
 obtain⟨W4,hW4,hd,hbw⟩:=hm
 have HW4:=zY hW4
 have HD:=zY hd
 have HB:=zY hbw
 clear hW4 hd hbw hg
 go_enter Tryz.func307,Tryz.ntmps307
 go_wp2
 rw[HW4.out]
 clear HW4
 go_cut [2,3] (fun s2 s3 wx=>s2=.func (.func 357) #[] #[.pointer (some ⟨w.heap.size+3,0,none⟩),.pointer (some ⟨w.heap.size+1,0,none⟩),.pointer (some ⟨w.heap.size,0,none⟩)]/\s3=.slice (some ⟨w.heap.size+2,0,none⟩) 8 8/\DivSt wx w.heap.size gb go gc [0,0,0,0,0,0,0,0]/\Below w.heap.size w wx)
 case first=>
  refine wp_region_held_drew (S:=(fun w'=>w'.cell? ⟨w.heap.size+1+1+1,0,none⟩=some (.slice (some ⟨w.heap.size+2,0,none⟩) 8 8))) (by kernel_rfl) ?_ (fun hHeld=>?_)
  ·exact HD.out.rest
  refine tk 0 ?_
  refine tk 1 ?_
  refine tk 2 ?_
  refine tk 3 ?_
  refine wpAnyH_done (by kernel_rfl) ?_ _
  go_wp2_with fail
  go_meet
  exact⟨rfl,rfl,HD.out.drw,HB.out.drew⟩
 case rest=>
  obtain⟨rfl,rfl,hd,hbw⟩:=hcut
  have HD2:=zY hd
  have HB2:=zY hbw
  clear hd hbw HD HB
  go_wp2_with fail
  go_ret2
  exact⟨rfl,HD2.out,HB2.out⟩
theorem rsencode_any (w:World) (s:ByteArray) (hs:s.size=44):Calls Tryz.prog 253 #[.string s,.int .i64 8] w fun e w'=>e=.returned (.tuple #[.string (strB (rsEnc (bs s))),.int .i64 0])/\Below w.heap.size w w':=by
 have hbl:=bs_len s
 go_enter Tryz.func253,Tryz.ntmps253
 go_wp2_with fail
 refine(gen_any _).mono ?_
 rintro e w1 ⟨v,rfl,hv,hb1⟩
 obtain⟨A,c,rfl,h1,h2,h3⟩:=hv
 have hv:BytesAt w1 (.slice A 9 c) G8:=⟨A,c,rfl,h1,h2,h3⟩
 obtain⟨gb,go,rfl,_⟩:=BytesAt.cell hv (i:=0) rfl
 have HG:Hid (∀i,i<9->w1.cell? ⟨gb,go+i,none⟩=some (.int .u8 (cf G8 i:Nat))):=zY (fun i hi=>by
  obtain⟨b',o',e1,e2⟩:=BytesAt.cell hv (i:=i) (x:=cf G8 i) (by unfold cf;rw[List.getElem?_eq_getElem (by simpa [G8]using hi)];rfl)
  cases e1
  exact e2)
 have Hb1:=zY hb1
 clear hv h1 h2 h3 hb1
 go_wp2_with fail
 refine(divider_any w1 gb go c HG.out).mono ?_
 rintro e w2 ⟨rfl,hd,hb2⟩
 have HD:=zY hd
 have HB2:=zY hb2
 have hszB:=Hb1.out.size
 clear hd hb2 HG
 generalize w1.heap.size=B at *
 go_wp2_with fail
 go_loopw [31] (fun x wr=>∃i:Nat,i<=s.size/\x=.int .i64 (i:Int)/\DivSt wr B gb go c (((bs s).take i).foldl (lfsr G8) (List.replicate 8 0))/\Below B w1 wr) (fun x _=>s.size-(intOf x).toNat)
 case atStart=>exact⟨0,by omega,rfl,HD.out,HB2.out⟩
 case round=>
  obtain⟨i,hi,rfl,hd,hbw⟩:=hrel
  have hrl:(((bs s).take i).foldl (lfsr G8) (List.replicate 8 0)).length=8/\Bytes (((bs s).take i).foldl (lfsr G8) (List.replicate 8 0)):=by
   have h:=rsPar_inv ((bs s).take i) (fun x hx=>bs_lt s x (List.mem_of_mem_take hx))
   unfold rsPar at h
   rw[genP_8]at h
   exact⟨h.1,h.2.1⟩
  by_cases h:i<s.size
  {
  have hiI:(i:Int)<s.size:=by omega
  have hb8:(s[i]'h).toNat<256:=UInt8.toNat_lt _
  have hst:((bs s).take (i+1)).foldl (lfsr G8) (List.replicate 8 0)=lfsr G8 (((bs s).take i).foldl (lfsr G8) (List.replicate 8 0)) (s[i]'h).toNat:=by
   rw[List.take_add_one,bs_get s i h]
   simp[List.foldl_append]
  have Hst:=zY hst
  have Hc:=zY (div1_any wr B gb go c _ (s[i]'h).toNat hd hrl.1 hrl.2 hb8)
  have HBw:=zY hbw
  clear hst hd hbw hrl hb8
  go_wp2_with (go_at_call 357;refine Hc.out.mono ?_;rintro e w3 ⟨⟨x,rfl⟩,hd3,hb3⟩)
  go_roundw
  case rel=>exact⟨i+1,by omega,by go_num,by rw[Hst.out];exact hd3,HBw.out.trans hb3⟩
  case measure=>simp[intOf];omega}
  {
  obtain rfl:i=s.size:=by omega
  have hrw:((bs s).take s.size)=bs s:=List.take_of_length_le (by omega)
  rw[hrw]at hd hrl
  have hrr:(bs s).foldl (lfsr G8) (List.replicate 8 0)=rsPar (bs s):=by unfold rsPar;rw[genP_8]
  rw[hrr]at hd hrl
  have hcs:=run_toStr (hd.row.bytes (n:=8) (c:=8) hrl.1.symm (Nat.le_refl _) (by omega)) hrl.1.symm
  have zr:(strB (rsPar (bs s))).size=8:=by rw[strB_size,hrl.1]
  have HE:Hid (s++strB (rsPar (bs s))=strB (rsEnc (bs s))):=zY (by unfold rsEnc;rw[<-strB_cat,strB_bs])
  have HBw:=zY hbw
  clear hd hbw hrl hrw hrr hbl
  go_wp2_with fail
  go_ret2
  exact⟨by rw[<-HE.out];rfl,Hb1.out.trans (HBw.out.mono hszB)⟩
}
theorem r15over_any (w:World) (a b:Nat) (ha:a<256) (hb:b<256) (h0:b≠0):Calls Tryz.prog 302 #[.int .u8 (a:Int),.int .u8 (b:Int)] w fun e w'=>e=.returned (.int .u8 ((gdiv a b:Nat):Int))/\w'=w:=by
 obtain⟨q,hq⟩:=zNm (gdiv a b)
 have hq2:q<256:=by rw[<-hq];exact gdiv_lt ha
 have hqa:gmul q b=a:=by rw[<-hq];exact gdiv_mul ha hb h0
 have HU:Hid (∀x,x<256->gmul x b=a->x=q):=zY (fun x hx e=>by rw[<-hq];exact gdiv_unique hb hx h0 e)
 have HTi:Hid (∀(W:World) (x:Nat),x<256->Calls Tryz.prog 243 #[.int .u8 (x:Int),.int .u8 (b:Int)] W fun e w'=>e=.returned (.int .u8 ((gmul x b:Nat):Int))/\w'=W):=zY (fun W x hx=>still_of (r7times_any W x b hx hb))
 rw[hq]
 have Hqa:=zY hqa
 clear hq hqa
 go_enter Tryz.func302,Tryz.ntmps302
 go_wp2
 go_loopw [5] (fun y wr=>∃i:Nat,i<=q/\y=.int .i64 (i:Int)/\wr=w) (fun y _=>256-(intOf y).toNat)
 case atStart=>exact⟨0,by omega,rfl,rfl⟩
 case round=>
  obtain⟨i,hi,rfl,rfl⟩:=hrel
  have hiI:(i:Int)<256:=by omega
  have hw:IntKind.u8.wrap (i:Int)=i:=by rw[IntKind.wrap_u8];omega
  have hw2:(i:Int)%256=i:=by omega
  have HC:=zY (HTi.out wr i (by omega))
  by_cases h:i=q
  {
  subst h
  rw[Hqa.out]at HC
  go_wp2_with fail
  refine HC.out.mono ?_
  rintro e1 w1 ⟨rfl,rfl⟩
  go_wp2
  go_ret
  first|exact⟨rfl,rfl⟩|exact⟨rfl,trivial⟩}
  {
  have hne:gmul i b≠a:=fun e=>h (HU.out i (by omega) e)
  have hneI:(((gmul i b:Nat):Int)==(a:Int))=false:=by rw[beq_eq_false_iff_ne];omega
  have hneJ:¬((gmul i b:Nat):Int)=(a:Int):=by omega
  generalize gmul i b=p at *
  clear h0 hne
  go_wp2_with fail
  refine HC.out.mono ?_
  rintro e1 w1 ⟨rfl,rfl⟩
  go_wp2
  go_roundw
  case rel=>exact⟨i+1,by omega,by go_num,by trivial⟩
  case measure=>simp[intOf];omega
}
theorem r15weight_any (w:World) (v:Value) (xs:List Nat) (k x:Nat) (hv:BytesAt w v xs) (hx:x<256) (hk:k<xs.length) (hl:xs.length<=15) (hb:∀i,cf xs i<256) (hd:∀i,i<xs.length->i≠k->cf xs k≠cf xs i):
  Calls Tryz.prog 242 #[v,.int .i64 (k:Int),.int .u8 (x:Int)] w fun e w'=>e=.returned (.int .u8 ((wgt xs x k:Nat):Int))/\Below w.heap.size w w':=by
 have Hv:=zY hv
 have Hb:=zY hb
 have Hd:=zY hd
 obtain⟨A,c,rfl,h1,h2⟩:=hv.sliceV
 obtain⟨R,hR⟩:=zNm (wgt xs x k)
 rw[hR]
 have HR:=zY hR
 have hkI:(k:Int)<xs.length:=by omega
 clear hv hb hd hR
 go_enter Tryz.func242,Tryz.ntmps242
 go_wp2
 go_loopw [7,8] (fun z y wr=>∃i:Nat,i<=xs.length/\y=.int .i64 (i:Int)/\z=.int .u8 ((wgtR xs k x i:Nat):Int)/\Below w.heap.size w wr) (fun _ y _=>xs.length-(intOf y).toNat)
 case atStart=>exact⟨0,by omega,rfl,rfl,Below.refl _ _⟩
 case round=>
  obtain⟨i,hi,rfl,rfl,hB⟩:=hrel
  have HB:=zY hB
  clear hB
  by_cases h:i<xs.length
  {
  have hiI:(i:Int)<xs.length:=by omega
  have hst:wgtR xs k x (i+1)=if i=k then wgtR xs k x i else gmul (wgtR xs k x i) (gdiv (x^^^cf xs i) (cf xs k^^^cf xs i)):=by rw[wgtR]
  by_cases hik:i=k
  {
  have i1:((i:Int) != k)=false:=by rw[hik];simp
  rw[if_pos hik]at hst
  have Hst:=zY hst
  clear hik hst
  go_wp2
  go_roundw
  case rel=>exact⟨i+1,by omega,by go_num,by rw[Hst.out],HB.out⟩
  case measure=>simp[intOf];omega}
  {
  have i1:((i:Int) != k)=true:=by rw[bne_iff_ne];omega
  rw[if_neg hik]at hst
  have Hst:=zY hst
  have hnz:=xor_ne (Hd.out i h hik)
  obtain⟨_,_,e9,_,_,h3⟩:=Hv.out.belowV HB.out
  cases e9
  obtain⟨b,o,u,rfl,hci,rfl⟩:=h3 i xs[i] (List.getElem?_eq_getElem h)
  obtain⟨b2,o2,u2,e2,hck,rfl⟩:=h3 k xs[k] (List.getElem?_eq_getElem hk)
  cases e2
  have em:xs[i]=cf xs i:=(cf_get (List.getElem?_eq_getElem h)).symm
  have ek:xs[k]=cf xs k:=(cf_get (List.getElem?_eq_getElem hk)).symm
  rw[em]at hci
  rw[ek]at hck
  have hib:=Hb.out i
  have hkb:=Hb.out k
  have hwb:=wgtR_lt (xs:=xs) (k:=k) (x:=x) i
  clear h3 em ek hik hst
  generalize wgtR xs k x i=p at *
  generalize hM:cf xs i=M at *
  generalize hK:cf xs k=K at *
  have hxM:x^^^M<256:=xor_lt hx hib
  have hKM:K^^^M<256:=xor_lt hkb hib
  have HOv:=zY (fun W=>r15over_any W (x^^^M) (K^^^M) hxM hKM hnz)
  have HTi:=zY (fun W=>still_of (r7times_any W p (gdiv (x^^^M) (K^^^M)) hwb (gdiv_lt hxM)))
  have hx1:=u8_xor hx hib
  have hx2:=u8_xor hkb hib
  obtain⟨q,hq⟩:=zNm (gdiv (x^^^M) (K^^^M))
  rw[hq]at HOv HTi Hst
  clear hq hM hK hnz
  generalize x^^^M=xM at *
  generalize K^^^M=kM at *
  generalize gmul p q=pq at *
  go_upto_region 6 with fail
  go_quiet (first|(go_at_call 302;refine Calls.quiet_of_same (HOv.out _))|(go_at_call 243;refine Calls.quiet_of_same (HTi.out _)))
  go_wp2_with fail
  go_roundw
  case rel=>exact⟨i+1,by omega,by go_num,by rw[Hst.out],blwN HB.out _⟩
  case measure=>simp[intOf];omega}}
  {
  obtain rfl:i=xs.length:=by omega
  have hiI:¬((xs.length:Nat):Int)<(xs.length:Int):=by omega
  have he:wgtR xs k x xs.length=R:=HR.out
  rw[he]
  clear he
  go_wp2
  go_ret
  exact⟨rfl,HB.out⟩}
theorem r15at_any (w:World) (vx v:Value) (xs:List Nat) (bl:List ByteArray) (hvx:BytesAt w vx xs) (hv:SeqAt strS w v bl) (x n:Nat) (hx:x<256) (hb:∀i,cf xs i<256) (hd:∀k i,k<xs.length->i<xs.length->i≠k->cf xs k≠cf xs i) (hn:∀b∈bl,b.size=n) (hl:bl.length=xs.length) (h0:1<=xs.length) (h15:xs.length<=15) (hn2:n<=1000):
  Calls Tryz.prog 164 #[vx,v,.int .u8 (x:Int)] w fun e w'=>e=.returned (.string (strB (atE xs (bl.map bs) n x)))/\Below w.heap.size w w':=by
 obtain⟨R,hR⟩:=zNm (atE xs (bl.map bs) n x)
 rw[hR]
 have HR:=zY hR
 have Hv:=zY hv
 have Hn:=zY hn
 have Hl:=zY hl
 have HWg:Hid (∀(W:World) (k:Nat),Below w.heap.size w W->k<xs.length->Calls Tryz.prog 242 #[vx,.int .i64 (k:Int),.int .u8 (x:Int)] W fun e w'=>e=.returned (.int .u8 ((wgt xs x k:Nat):Int))/\Below W.heap.size W w'):=zY (fun W k hW hk=>r15weight_any W vx xs k x (BytesAt.belowV hvx hW) hx hk h15 hb fun i hi hne=>hd k i hk hi hne)
 obtain⟨A,c,rfl,h1,h2⟩:=hv.slice
 obtain⟨Ax,cx,rfl,_,_⟩:=hvx.sliceV
 have hb0:0<bl.length:=by omega
 have hb0I:(0:Int)<bl.length:=by omega
 have hb1I:((bl.length:Int)==0)=false:=by rw[beq_eq_false_iff_ne];omega
 have hb2I:¬(bl.length:Int)=0:=by omega
 obtain⟨_,_,e9,_,_,h5⟩:=hv
 cases e9
 obtain⟨b0,o0,cs,rfl,rfl,hc⟩:=h5 0 bl[0] (List.getElem?_eq_getElem hb0)
 have q0:w.cell? ⟨b0,o0+0*1+0,none⟩=some (.string bl[0]):=hc 0 _ rfl
 simp only[Nat.zero_mul,Nat.add_zero]at q0
 obtain⟨B0,hB0⟩:=zNm (bl[0])
 have hBz:B0.size=n:=by rw[<-hB0];exact hn _ (List.getElem_mem hb0)
 rw[hB0]at q0
 clear hR hn hc h5 hB0 hl hvx hb hd
 have hmk:∀W:World,(Instr.makeSlice 117 (.int .i64 (n:Int)) (.int .i64 (n:Int))).run Tryz.prog W=.ok (.slice (some ⟨W.heap.size,0,none⟩) n n) (W.alloc (.cells (arrB (rowE xs (bl.map bs) n x 0 0)) 5)):=fun W=>by
  rw[rowE_zero]
  exact make_u8 n n (Nat.le_refl _) (by omega) W
 have HW0:=zY (U8B.new w (rowE xs (bl.map bs) n x 0 0))
 have HBa:=zY (zBl w (.cells (arrB (rowE xs (bl.map bs) n x 0 0)) 5))
 have HGe:Hid (w.heap.size<=w.heap.size):=zY (Nat.le_refl _)
 obtain⟨g,hgg⟩:∃g,g=w.heap.size:=⟨_,rfl⟩
 go_enter Tryz.func164,Tryz.ntmps164
 go_wp2_with fail
 try rw[hBz,hmk]
 clear hmk
 go_upto_region 4 with fail
 generalize w.alloc (.cells (arrB (rowE xs (bl.map bs) n x 0 0)) 5)=wa at *
 have HW1:Hid (U8B wa g (rowE xs (bl.map bs) n x 0 0)):=zY (by rw[hgg];exact HW0.out)
 have HGe:Hid (w.heap.size<=g):=zY (by omega)
 try rw[<-hgg]
 have Hgg:=zY hgg
 clear hgg HW0 q0 hBz
 clear h0
 go_wp2
 go_loopw [8] (fun y wr=>∃k:Nat,k<=xs.length/\y=.int .i64 (k:Int)/\U8B wr g (rowE xs (bl.map bs) n x k 0)/\Below w.heap.size w wr) (fun y _=>xs.length-(intOf y).toNat)
 case atStart=>exact⟨0,by omega,rfl,HW1.out,HBa.out⟩
 case round=>
  obtain⟨k,hk,rfl,hr,hB⟩:=hrel
  have HRo:=zY hr
  have HB:=zY hB
  clear hr hB
  obtain⟨wo,rfl⟩:∃x,x=wr:=⟨_,rfl⟩
  by_cases h:k<xs.length
  {
  have hkI:(k:Int)<xs.length:=by omega
  have hkl:k<bl.length:=by have:=Hl.out;omega
  have hkJ:(k:Int)<bl.length:=by omega
  obtain⟨B,hBk⟩:∃B,bl[k]?=some B:=⟨_,List.getElem?_eq_getElem hkl⟩
  have hBz:B.size=n:=Hn.out B (List.mem_of_getElem? hBk)
  obtain⟨_,_,e9,_,_,h5⟩:=Hv.out
  have e10:=(Value.slice.inj e9).1
  clear e9
  obtain⟨b1,o1,cs,e11,rfl,hc⟩:=h5 k B hBk
  rw[e11]at e10
  cases e10
  have q0:w.cell? ⟨b0,o0+k*1,none⟩=some (.string B):=hc 0 _ rfl
  rw[Nat.mul_one]at q0
  have HCS:Hid (∀W,Below w.heap.size w W->W.cell? ⟨b0,o0+k,none⟩=some (.string B)):=zY (fun W hW=>cell_below hW q0)
  have HWk:=zY (HWg.out wo k HB.out h)
  obtain⟨a,ha⟩:=zNm (wgt xs x k)
  rw[ha]at HWk
  have Ha:Hid (a<256):=zY (by rw[<-ha];exact wgt_lt _ _ _)
  have HBk:=zY hBk
  have Hae:=zY ha
  have HBz:=zY hBz
  clear hc h5 ha hBk hBz q0
  go_wp2_with fail
  refine HWk.out.mono ?_
  rintro e4 w4 ⟨rfl,hb4⟩
  have HRo4:=zY (show U8B w4 g (rowE xs (bl.map bs) n x k 0) from Blk.kept HRo.out hb4)
  have HB4:=zYt HB hb4
  clear hb4 HWk
  go_wp2
  go_loopw [10] (fun y wr=>∃i:Nat,i<=n/\y=.int .i64 (i:Int)/\U8B wr g (rowE xs (bl.map bs) n x k i)/\Below w.heap.size w wr) (fun y _=>n-(intOf y).toNat)
  case atStart=>exact⟨0,by omega,rfl,HRo4.out,HB4.out⟩
  case round=>
   obtain⟨i,hi,rfl,hr,hB2⟩:=hrel
   have HRr:=zY hr
   have HBr:=zY hB2
   clear hr hB2
   by_cases h':i<n
   {
   have hiI:(i:Int)<n:=by omega
   have hiB:i<B.size:=by rw[HBz.out];exact h'
   have hiBI:(i:Int)<B.size:=by omega
   obtain⟨b,hb⟩:=zNm ((B[i]'hiB).toNat)
   have hbI:(((B[i]'hiB).toNat:Nat):Int)=(b:Int):=by rw[hb]
   have Hb:Hid (b<256):=zY (by rw[<-hb];exact UInt8.toNat_lt _)
   have hbc:cf ((bl.map bs).getD k []) i=b:=by
    rw[List.getD,List.getElem?_map,HBk.out]
    show cf (bs B) i=b
    rw[bsc B i hiB,hb]
   obtain⟨c0,hc0⟩:=zNm (cf (rowE xs (bl.map bs) n x k i) i)
   have HRi:Hid ((rowE xs (bl.map bs) n x k i)[i]?=some c0):=zY (by
    have hl':i<(rowE xs (bl.map bs) n x k i).length:=by rw[rowE_len];exact h'
    rw[List.getElem?_eq_getElem hl',<-hc0,cf_get (List.getElem?_eq_getElem hl')])
   have hc02:c0<256:=rowE_lt _ (List.mem_of_getElem? HRi.out)
   have HSt:Hid ((rowE xs (bl.map bs) n x k i).set i (c0^^^gmul a b)=rowE xs (bl.map bs) n x k (i+1)):=zY (by rw[<-hc0,<-Hae.out,<-hbc];exact rowE_step h')
   have HTi:=zY (fun W=>r7times_any W a b Ha.out Hb.out)
   have hxx:=u8_xor hc02 (gmul_lt b Ha.out)
   clear hb hbc hc0
   generalize gmul a b=p at *
   go_upto_region 11 with fail
   have HRc:=zY (show U8B wr.drew g (rowE xs (bl.map bs) n x k i) from Blk.kept HRr.out (Below.refl _ _).drew)
   have HBc:=zY HBr.out.drew
   refine wp_region_held_drew (S:=(fun W=>W.cell? ⟨b0,o0+k,none⟩=some (.string B))) (by kernel_rfl) ?_ (fun hHeld=>?_)
   ·first|exact HCS.out _ HBn.out|exact HCS.out _ HBc.out
   refine tk 0 ?_
   refine tk 1 ?_
   refine tk 2 ?_
   refine tk 3 ?_
   refine tk 4 ?_
   refine tk 6 ?_
   refine tk 7 ?_
   refine tk 8 ?_
   refine tk 9 ?_
   refine tk 10 ?_
   refine tk 11 ?_
   refine tk 12 ?_
   refine take_call (i:=13) (oi:=_) (v:=(.int .u8 ((p:Nat):Int))) rfl (by kernel_rfl) (by kernel_rfl) (by kernel_rfl) (fun _ _ _ h=>h) (And.intro (by rfl) ?hy13) (by assumption) ?rest13
   case hy13=>
    intro W hSw
    exact⟨243,#[.int .u8 (a:Int),.int .u8 (b:Int)],by go_simp,HTi.out W⟩
   try simp only[Act.put,List.setIfInBounds_toArray,List.set_cons_zero,List.set_cons_succ]
   try simp only[List.getElem_toArray,List.getElem_cons_zero,List.getElem_cons_succ]
   refine zE1 5 fun K hK=>?_
   have q0:=U8B.cell HRc.out (i:=i) (x:=c0) HRi.out
   have q1:wr.cell? ⟨g,i,none⟩=some (.int .u8 (c0:Int)):=q0
   clear q0
   go_simp
   clear q1
   refine hko hK (by first|exact HCS.out _ HBn.out|exact HCS.out _ HBc.out) (fun _=>?_)
   clear hK K
   refine tk 14 ?_
   refine tk 15 ?_
   refine zE1 16 fun K hK=>?_
   have qc0:=U8B.cell HRc.out (i:=i) (x:=c0) HRi.out
   have qc:wr.cell? ⟨g,i,none⟩=some (.int .u8 (c0:Int)):=qc0
   have qz0:=Blk.frozen HRc.out i
   have qz:wr.frozen? ⟨g,i,none⟩=false:=qz0
   clear qc0 qz0
   go_simp
   have HRn:=zY (U8B.set HRc.out i (c0^^^p))
   have HBn:=zY (HBc.out.setCell (show w.heap.size<=(⟨g,i,none⟩:Addr).block from HGe.out) (.int .u8 ((c0^^^p:Nat):Int)))
   rw[HSt.out]at HRn
   clear qc qz
   refine hko hK (by first|exact HCS.out _ HBn.out|exact HCS.out _ HBc.out) (fun _=>?_)
   clear hK K
   refine wpAnyH_done (by kernel_rfl) ?_ _
   go_wp2_with fail
   go_roundw
   case rel=>exact⟨i+1,by omega,by go_num,HRn.out,HBn.out⟩
   case measure=>simp[intOf];omega}
   {
   obtain rfl:i=n:=by omega
   have hiI:¬((i:Nat):Int)<(i:Int):=by omega
   have HRn:Hid (U8B wr g (rowE xs (bl.map bs) i x (k+1) 0)):=zY (by rw[<-rowE_next];exact HRr.out)
   go_wp2
   go_roundw
   case rel=>exact⟨k+1,by omega,by go_num,HRn.out,HBr.out⟩
   case measure=>simp[intOf];omega}}
  {
  obtain rfl:k=xs.length:=by omega
  have hkI:¬((xs.length:Nat):Int)<(xs.length:Int):=by omega
  have HRe:Hid (U8B wo g R):=zY (by rw[<-HR.out,<-rowE_all];exact HRo.out)
  have hRl:n=R.length:=by rw[<-HR.out,atE_len]
  have hcv:(convert 117 9 (.slice (some ⟨g,0,none⟩) n n)).run Tryz.prog wo=.ok (.string (strB R)) wo:=run_toStr (p:=R) (HRe.out.bytes hRl (Nat.le_refl _) (by omega)) hRl
  clear hRl
  go_wp2
  go_ret
  exact⟨rfl,HB.out⟩}
end
end Go.Proofs.YthgenkkkapilhaaGreatDoor
