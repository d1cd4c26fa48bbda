/-
 WALK: stelelaw44.CollectPayload.
-/
import Derived.Test.YtnlnmfkmbpihhaaGreatDoorCoD
namespace Go.Proofs.YtnlnmfkmbpihhaaGreatDoor
open Go.RowKit

theorem payF_form (kd ss rl ix : Int) : ∀ (fs : List Frm) (o : Option Frm), ∃ (a : ByteArray) (n e : Int), payF kd ss rl ix o fs = .tuple #[.string a, .int .i64 n, .int .i64 e]
 | [], none => ⟨_, _, _, rfl⟩
 | [], some g => ⟨_, _, _, rfl⟩
 | f :: r, none => by
  rw [payF]
  split
  ·exact payF_form kd ss rl ix r _
  ·exact payF_form kd ss rl ix r _
 | f :: r, some g => by
  rw [payF]
  split
  ·split
   ·exact payF_form kd ss rl ix r _
   ·exact ⟨_, _, _, rfl⟩
  ·exact payF_form kd ss rl ix r _
namespace copay

set_option maxRecDepth 100000 in
set_option maxHeartbeats 8000000 in
theorem walk (w : World) (ar : Int) (v : Value) (fs : List Frm) (hv : FrmsAt w v fs) (kd ss rl ix : Int) :
  Calls Tryz.prog 8 #[.agg #[.int .u32 ar, v], .int .i64 kd, .int .i64 ss, .int .i64 rl, .int .i64 ix] w fun e w' => e = .returned (.bool true) ∧ Below w.heap.size w w' := by
 have HA := Lib.hid (fun W => alive_any W)
 have HP : Hid (∀ W : World, Below w.heap.size w W → Calls Tryz.prog 29 #[.agg #[.int .u32 ar, v], .int .i64 kd, .int .i64 ss, .int .i64 rl, .int .i64 ix] W fun e w' => e = .returned (payF kd ss rl ix none fs) ∧ Below W.heap.size W w') := Lib.hid (fun W hb => pay_any W ar v fs kd ss rl ix (hv.below hb))
 have HR : Hid (∀ W : World, Below w.heap.size w W → Calls Tryz.prog 30 #[.agg #[.int .u32 ar, v], .int .i64 kd, .int .i64 ss, .int .i64 rl, .int .i64 ix] W fun e w' => e = .returned (payF kd ss rl ix none fs) ∧ Below W.heap.size W w') := Lib.hid (fun W hb => rpay_any W ar v fs kd ss rl ix (hv.below hb))
 obtain ⟨a, n, e, hp⟩ := payF_form kd ss rl ix fs none
 rw [hp] at HP HR
 clear hp
 obtain ⟨A, c, rfl, h1, h2, h3⟩ := hv
 clear h3
 have hw1 := Blk.new w 55 [.int .u32 ar, .slice A fs.length c]
 change Blk (w.alloc (.cells #[.int .u32 ar, .slice A fs.length c] 55)) _ _ _ at hw1
 have HZ := Lib.hid hw1
 have HBz := Lib.hid ((Below.refl w.heap.size w).alloc (Nat.le_refl _) (.cells #[.int .u32 ar, .slice A fs.length c] 55))
 clear hw1
 go_enter Tryz.func8, Tryz.ntmps8
 go_upto_region 1 with fail
 generalize w.alloc (.cells #[.int .u32 ar, .slice A fs.length c] 55) = wz at *
 go_wp2_with fail
 refine (HA.out _).mono ?_
 rintro e1 w1 ⟨rfl, hb1⟩
 have HZ1 := Lib.hid (HZ.out.kept hb1)
 have HB1 := Lib.hid (HBz.out.trans (hb1.mono HBz.out.size))
 clear hb1 HZ HBz
 have c0 := HZ1.out.cell (i := 0) rfl
 have c1 := HZ1.out.cell (i := 1) rfl
 by_cases h50 : 50 < fs.length
 ·have h50I : (50 : Int) < fs.length := by omega
  go_wp2
  go_ret
  exact ⟨rfl, HB1.out⟩
 ·have h50I : ¬ (50 : Int) < fs.length := by omega
  go_wp2_with fail
  refine (HP.out _ HB1.out).mono ?_
  rintro e2 w2 ⟨rfl, hb2⟩
  have HZ2 := Lib.hid (HZ1.out.kept hb2)
  have HB2 := Lib.hid (HB1.out.trans (hb2.mono HB1.out.size))
  clear hb2 HZ1 HB1 c0 c1 HP
  have c0 := HZ2.out.cell (i := 0) rfl
  have c1 := HZ2.out.cell (i := 1) rfl
  go_wp2_with fail
  refine (HR.out _ HB2.out).mono ?_
  rintro e3 w3 ⟨rfl, hb3⟩
  have HB3 := Lib.hid (HB2.out.trans (hb3.mono HB2.out.size))
  clear hb3 HB2 c0 c1 HR
  go_wp2
  go_ret
  exact ⟨rfl, HB3.out⟩
end copay
end Go.Proofs.YtnlnmfkmbpihhaaGreatDoor
