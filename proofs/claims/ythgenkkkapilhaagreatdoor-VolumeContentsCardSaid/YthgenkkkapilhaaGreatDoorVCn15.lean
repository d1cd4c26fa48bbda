/-
  Joined: VpJ OpnA.
-/
import Derived.Test.YthgenkkkapilhaaGreatDoorVCn11
import Derived.ProofKit
import Derived.OpenShut
import Derived.LaidMore
import Derived.Lay
import Derived.Deep.Slices
import Derived.Test.YthgenkkkapilhaaGreatDoorTie
set_option linter.all false
set_option maxRecDepth 100000
set_option maxHeartbeats 64000000
namespace Go.Proofs.YthgenkkkapilhaaGreatDoor
section
open Go.RowKit
theorem allowed38_any (w:World) (v:Value) (l:List Hol) (hv:SeqAt holS w v l) (hz:∀h∈l,h.p.size<=1000000) (k:Int) (path tgt dig:ByteArray) (Aa Ax:Option Addr) (na ca nx cx:Nat) (size:Int) (hp:path.size<=1000000) (date:Int):
  Calls Tryz.prog 156 #[v,.agg #[.int .i64 k,.string path,.slice Aa na ca,.string tgt,.int .i64 size,.string dig,.slice Ax nx cx],.int .i64 date] w fun e w'=>RetI e/\Below w.heap.size w w':=by
 have hK:=Blk.new w 182 [.int .i64 k,.string path,.slice Aa na ca,.string tgt,.int .i64 size,.string dig,.slice Ax nx cx]
 change Blk (w.alloc (.cells #[.int .i64 k,.string path,.slice Aa na ca,.string tgt,.int .i64 size,.string dig,.slice Ax nx cx] 182)) _ _ _ at hK
 have HK:=zY hK
 have HB0:=zY (zBl w (.cells #[.int .i64 k,.string path,.slice Aa na ca,.string tgt,.int .i64 size,.string dig,.slice Ax nx cx] 182))
 have Hv:=zY (hv.below HB0.out)
 obtain⟨A,c,rfl,h1,h2⟩:=hv.slice
 have HH:=zY (fun(W:World) (h:SeqAt holS W (.slice A l.length c) l)=>held_any W (.slice A l.length c) l h hz path hp date)
 have HU:=zY (fun(W:World) (q:ByteArray) (hq:q.size<=1000000)=>under_any W q path hq hp)
 have Hz:=zY hz
 clear hK hv hz
 go_enter Tryz.func156,Tryz.ntmps156
 go_upto_region 1 with fail
 generalize w.alloc (.cells #[.int .i64 k,.string path,.slice Aa na ca,.string tgt,.int .i64 size,.string dig,.slice Ax nx cx] 182)=wa at *
 have c0:=HK.out.c 0
 have c1:=HK.out.c 1
 have hk:(k=1∨k=2∨k=3)∨k=4∨(k≠1/\k≠2/\k≠3/\k≠4):=by omega
 rcases hk with hk|rfl|⟨k1,k2,k3,k4⟩
 {
 rcases hk with rfl|rfl|rfl
 all_goals
  go_wp2_with fail
  refine(HH.out _ Hv.out).mono ?_
  rintro e1 w1 ⟨⟨r,rfl⟩,hb1⟩
  have d0:=(HK.out.kept hb1).c 0
  have HBz:=zYt HB0 hb1
  clear hb1
  cases r with
  |true=>
   go_wp2_with fail
   go_ret
   exact⟨RetI.of 15,HBz.out⟩
  |false=>
   go_wp2_with fail
   go_ret
   exact⟨RetI.of 0,HBz.out⟩}
 {
 go_wp2_with fail
 refine(HH.out _ Hv.out).mono ?_
 rintro e1 w1 ⟨⟨r,rfl⟩,hb1⟩
 have HK1:=zY (HK.out.kept hb1)
 have Hv1:=zY (Hv.out.below hb1)
 have d0:=HK1.out.c 0
 have HBz:=zYt HB0 hb1
 clear hb1
 cases r with
 |true=>
  go_wp2_with fail
  go_ret
  exact⟨RetI.of 15,HBz.out⟩
 |false=>
  clear HB0 HK Hv c0 c1
  have HB0:=HBz
  go_wp2
  go_loopw [8] (fun x wr=>∃i:Nat,i<=l.length/\x=.int .i64 (i:Int)/\Below w1.heap.size w1 wr) (fun x _=>l.length-(intOf x).toNat)
  case atStart=>exact⟨0,by omega,rfl,Below.refl _ _⟩
  case round=>
   obtain⟨i,hi,rfl,hB⟩:=hrel
   have HBc:=zY hB
   clear hB
   by_cases h:i<l.length
   {
   have hiI:(i:Int)<l.length:=by omega
   obtain⟨x,hx⟩:∃x,l[i]?=some x:=⟨_,List.getElem?_eq_getElem h⟩
   have Hxz:=zY (Hz.out x (List.mem_of_getElem? hx))
   obtain⟨_,_,e9,_,_,h4⟩:=Hv1.out
   cases e9
   obtain⟨b,o,cs,rfl,rfl,hc⟩:=h4 i x hx
   have HL0:Hid (w1.cell? ⟨b,o+i*2,none⟩=some (.string x.p)):=zY (hc 0 _ rfl)
   have HL1:Hid (w1.cell? ⟨b,o+i*2+1,none⟩=some (.int .i64 x.u)):=zY (hc 1 _ rfl)
   have HL2:Hid (w1.cell? ⟨w.heap.size,1,none⟩=some (.string path)):=zY (HK1.out.c 1)
   obtain⟨q,uq⟩:=x
   dsimp only at HL0 HL1 Hxz
   clear hc h4 hx d0
   by_cases hd:date<=uq
   {
   have hdd:decide (date<=uq)=true:=decide_eq_true hd
   have HBc:=zY HBc.out.drew
   go_upto_region 8 with fail
   refine wp_region_held_drew (S:=(fun W=>W.cell? ⟨b,o+i*2,none⟩=some (.string q)/\W.cell? ⟨b,o+i*2+1,none⟩=some (.int .i64 uq)/\W.cell? ⟨w.heap.size,1,none⟩=some (.string path))) (by kernel_rfl) ?_ (fun hHeld=>?_)
   ·exact⟨cell_below HBc.out HL0.out,cell_below HBc.out HL1.out,cell_below HBc.out HL2.out⟩
   refine tk 0 ?_
   refine tk 1 ?_
   refine tk 2 ?_
   refine tk 3 ?_
   refine tk 4 ?_
   refine tk 5 ?_
   refine tk 6 ?_
   refine tk 7 ?_
   refine tk 8 ?_
   refine tk 9 ?_
   refine tk 10 ?_
   refine tk 11 ?_
   refine tk 12 ?_
   refine tk 13 ?_
   refine tk 14 ?_
   refine zE1 15 fun K hK=>?_
   go_simp
   refine(HU.out _ q Hxz.out).mono ?_
   rintro e2 w2 ⟨⟨r,rfl⟩,hb2⟩
   (try go_wp2_with fail)
   have HBc:=zYt HBc hb2
   clear hb2
   refine hko hK (by exact⟨cell_below HBc.out HL0.out,cell_below HBc.out HL1.out,cell_below HBc.out HL2.out⟩) (fun _=>?_)
   clear hK K
   refine tk 16 ?_
   refine wpAnyH_done (by kernel_rfl) ?_ _
   cases r with
   |true=>
    go_wp2_with fail
    go_ret
    exact⟨RetI.of 15,HB0.out.trans (HBc.out.mono HB0.out.size)⟩
   |false=>
    go_wp2_with fail
    go_roundw
    case rel=>exact⟨i+1,by omega,by go_num,HBc.out⟩
    case measure=>simp[intOf];omega}
   {
   have hdd:decide (date<=uq)=false:=decide_eq_false hd
   have m0:=cell_below HBc.out HL0.out
   have m1:=cell_below HBc.out HL1.out
   go_upto_region 8 with fail
   go_quiet (fail)
   go_wp2
   go_roundw
   case rel=>exact⟨i+1,by omega,by go_num,zBd HBc.out _⟩
   case measure=>simp[intOf];omega}}
   {
   have hiI:¬(i:Int)<l.length:=by omega
   go_wp2
   go_ret
   exact⟨RetI.of 0,HB0.out.trans (HBc.out.mono HB0.out.size)⟩}}
 {
 have f1:(k==1)=false:=by rw[beq_eq_false_iff_ne];exact k1
 have f2:(k==2)=false:=by rw[beq_eq_false_iff_ne];exact k2
 have f3:(k==3)=false:=by rw[beq_eq_false_iff_ne];exact k3
 have f4:(k==4)=false:=by rw[beq_eq_false_iff_ne];exact k4
 clear k1 k2 k3 k4
 go_wp2
 go_ret
 exact⟨RetI.of 0,HB0.out⟩}
end
section
open Go.ChangeShapes Go.WideShapes Go.ChangeAt Go.RowKit
theorem ownN:ownKnob Tryz.prog.godebug=none:=by kernel_rfl
theorem laidN:laidOutB Tryz.prog=true:=by kernel_rfl
theorem cellsI:Tryz.prog.cellsOf 3=1:=by kernel_rfl
theorem cellsL:Tryz.prog.cellsOf 24=2:=by kernel_rfl
theorem cellsS:Tryz.prog.cellsOf 9=1:=by kernel_rfl
end
section
open Go.ChangeShapes Go.WideShapes Go.ChangeAt Go.RowKit Go.Deep
section
variable {H:Type} {enc:TypeId×Value->H} {w:World}
theorem nat_of_u8 {z:Int} (h:(Lit.int .u8 z).wf=true):∃n:Nat,z=n/\n<256:=by
 simp only[Lit.wf,IntKind.min,IntKind.max,IntKind.signed,IntKind.bits,Bool.and_eq_true]at h
 simp at h
 exact⟨z.toNat,by omega,by omega⟩
theorem open_u8 {v:Value} {d:DataW H} {p:List MemPlace} {base:Nat} (hv:Value.okWide Tryz.prog w .any base 5 v) (h:DataW.Trod enc Tryz.prog w 0 (fun _=>true) true 5 v d p):∃n:Nat,v=.int .u8 (n:Int)/\n<256:=by
 obtain⟨z,rfl,_,_,hw⟩:=open_int Tryz.underlying5 hv h
 obtain⟨n,rfl,hn⟩:=nat_of_u8 hw
 exact⟨n,rfl,hn⟩
end
end
end Go.Proofs.YthgenkkkapilhaaGreatDoor
