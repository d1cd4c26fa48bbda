/-
  Joined: McB LvmA.
-/
import Derived.Test.YthkjphebhafgoaaGreatDoorMBn26
import Derived.Test.YthkjphebhafgoaaGreatDoorMBn46
import Derived.Test.YthkjphebhafgoaaGreatDoorMBn48
import Derived.Test.YthkjphebhafgoaaGreatDoorCards
set_option linter.all false
set_option maxRecDepth 100000
set_option maxHeartbeats 64000000
namespace Go.Proofs.YthkjphebhafgoaaGreatDoor
section
open Go.RowKit
theorem migE_0 {a id d s : Int} {l : List Ses} (h : migE a id d s l = 0) : id ≠ a ∧ histC l = 0 := by
 unfold migE at h
 by_cases e : id = a
 ·have : (id == a) = true := by rw [e]; exact beq_self_eq_true a
  rw [this] at h
  exact absurd h (by simp [firstE])
 ·have : (id == a) = false := beq_eq_false_iff_ne.2 e
  rw [this] at h
  refine ⟨e, ?_⟩
  simp only [firstE, cond_false, if_true] at h
  by_cases e2 : layE d s = 0
  ·rw [if_pos e2] at h
   by_cases e3 : histC l = 0
   ·exact e3
   ·rw [if_neg e3] at h; exact h
  ·rw [if_neg e2] at h
   exact absurd h e2
theorem layE_2 {d s : Int} (h : layE d s ≠ 0) : layE d s = 2 := by
 unfold layE at *
 split at h
 ·rename_i hc; rw [if_pos hc]
 ·exact absurd rfl h
theorem migE_back {a id x y : Int} {l : List Ses} (h : id ≠ a) (h2 : histC l = 0) : migE id a x y l = 0 ∨ migE id a x y l = 2 := by
 unfold migE
 have : (a == id) = false := beq_eq_false_iff_ne.2 (fun e => h e.symm)
 rw [this, h2]
 simp only [firstE, cond_false, if_true]
 by_cases e : layE x y = 0
 ·rw [if_pos e]; exact .inl rfl
 ·rw [if_neg e]; exact .inr (layE_2 e)
theorem lawback_any (w : World) (a x y : Int) (u : Value) (l : List Ses) (hu : SeqAt sesS w u l) (id d s : Int) (hT : Tb w) :
  Calls Tryz.prog 3 #[.agg #[.int .u32 a, .int .i64 x, .int .i64 y, u], .int .u32 id, .agg #[.int .i64 d, .int .i64 s]] w fun r w' => r = .returned (.bool true) ∧ Below w.heap.size w w' := by
 have HU := Lib.hid hu
 obtain ⟨A, c, rfl, _, _⟩ := hu.slice
 have HT := Lib.hid hT
 obtain ⟨W1, hW1⟩ : ∃ W1, w.alloc (.cells #[.int .u32 a, .int .i64 x, .int .i64 y, .slice A l.length c] 27) = W1 := ⟨_, rfl⟩
 obtain ⟨W2, hW2⟩ : ∃ W2, W1.alloc (.cells #[.int .i64 d, .int .i64 s] 24) = W2 := ⟨_, rfl⟩
 have hn1 : W1.heap.size = w.heap.size + 1 := by rw [← hW1]; simp
 have hA : Blk W1 w.heap.size 27 [.int .u32 a, .int .i64 x, .int .i64 y, .slice A l.length c] := hW1 ▸ Blk.new w _ _
 have hL : Blk W2 (w.heap.size + 1) 24 [.int .i64 d, .int .i64 s] := by rw [← hn1, ← hW2]; exact Blk.new W1 _ _
 have hb1 : Below w.heap.size w W1 := hW1 ▸ (Below.refl _ w).alloc (Nat.le_refl _) _
 have hb2 : Below W1.heap.size W1 W2 := hW2 ▸ (Below.refl _ W1).alloc (Nat.le_refl _) _
 have HA := Lib.hid (hA.kept hb2)
 have HL := Lib.hid hL
 have HB := Lib.hid (hb1.trans (hb2.mono hb1.size))
 have HAl := Lib.hid (fun W => alive48_any W)
 clear hu hT hA hL hb1 hb2
 go_enter Tryz.func3, Tryz.ntmps3
 go_upto_region 1 with fail
 clear hW1 hW2 hn1
 go_wp2_with fail
 refine (HAl.out _).mono ?_
 rintro e1 w1 ⟨rfl, hb⟩
 have HA1 := Lib.hid (HA.out.kept hb)
 have HL1 := Lib.hid (HL.out.kept hb)
 have HB1 := Lib.hid (HB.out.trans (hb.mono HB.out.size))
 clear hb HA HL HB HAl
 have a3 := HA1.out.cell (i := 3) rfl
 have HGr := Lib.hid (great41_any w1 _ l (HU.out.below HB1.out))
 go_wp2_with fail
 refine HGr.out.mono ?_
 rintro e2 w2 ⟨⟨k, rfl, hk⟩, hb⟩
 have HA2 := Lib.hid (HA1.out.kept hb)
 have HL2 := Lib.hid (HL1.out.kept hb)
 have HB2 := Lib.hid (HB1.out.trans (hb.mono HB1.out.size))
 have Hk := Lib.hid hk
 clear hb hk HA1 HL1 HB1 HGr a3
 by_cases hgr : 0 < k
 ·go_wp2_with fail
  go_ret
  exact ⟨rfl, HB2.out⟩
 have HSm := Lib.hid (Hk.out (by omega))
 have HM := Lib.hid (fun (W : World) (hW : Below w.heap.size w W) (a x y id d s : Int) => migrate_any W a x y id d s _ l (HU.out.below hW) (by have := HSm.out.1; omega) HSm.out.2 (HT.out.below hW))
 have a0 := HA2.out.cell (i := 0) rfl
 have a1 := HA2.out.cell (i := 1) rfl
 have a2 := HA2.out.cell (i := 2) rfl
 have a3 := HA2.out.cell (i := 3) rfl
 have l0 := HL2.out.cell (i := 0) rfl
 have l1 := HL2.out.cell (i := 1) rfl
 go_wp2_with fail
 refine (HM.out _ HB2.out _ _ _ _ _ _).mono ?_
 rintro e3 w3 ⟨⟨v3, rfl, hz, hnz⟩, hb⟩
 have HA3 := Lib.hid (HA2.out.kept hb)
 have HB3 := Lib.hid (HB2.out.trans (hb.mono HB2.out.size))
 clear hb a0 a1 a2 a3 l0 l1 HA2 HL2 HB2 Hk
 obtain ⟨E, hE⟩ : ∃ E, migE a id d s l = E := ⟨_, rfl⟩
 rw [hE] at hz hnz ⊢
 by_cases hE0 : E = 0
 rotate_left
 ·have hv := hnz hE0
  subst hv
  have g1 : (E != 0) = true := by rw [bne, beq_eq_false_iff_ne.2 hE0]; rfl
  have hb9 := (Below.refl w3.heap.size w3).alloc (Nat.le_refl _) (.cells #[.int .u32 0, .int .i64 0, .int .i64 0, .slice none 0 0] 27)
  have HB4 := Lib.hid (HB3.out.trans (hb9.mono HB3.out.size))
  clear hz hnz hE hE0 hb9
  go_wp2_with fail
  go_ret
  exact ⟨rfl, HB4.out⟩
 subst hE0
 have hv := hz rfl
 subst hv
 obtain ⟨hne, hh⟩ := migE_0 hE
 have HE2 := Lib.hid (migE_back (x := x) (y := y) hne hh)
 clear hz hnz hE hh
 have hb9 := (Below.refl w3.heap.size w3).alloc (Nat.le_refl _) (.cells #[.int .u32 id, .int .i64 d, .int .i64 s, .slice A l.length c] 27)
 have HB4 := Lib.hid (HB3.out.trans (hb9.mono HB3.out.size))
 have hK : Blk (w3.alloc (.cells #[.int .u32 id, .int .i64 d, .int .i64 s, .slice A l.length c] 27)) w3.heap.size 27 [.int .u32 id, .int .i64 d, .int .i64 s, .slice A l.length c] := Blk.new w3 _ _
 have HA4 := Lib.hid (HA3.out.kept hb9)
 have HK4 := Lib.hid hK
 clear hb9 hK HB3 HA3
 go_upto_region 8 with fail
 generalize w3.alloc (.cells #[.int .u32 id, .int .i64 d, .int .i64 s, .slice A l.length c] 27) = w4 at *
 generalize w3.heap.size = g4 at *
 have a0 := HA4.out.cell (i := 0) rfl
 have a1 := HA4.out.cell (i := 1) rfl
 have a2 := HA4.out.cell (i := 2) rfl
 have a3 := HA4.out.cell (i := 3) rfl
 have k0 := HK4.out.cell (i := 0) rfl
 have k1 := HK4.out.cell (i := 1) rfl
 have k2 := HK4.out.cell (i := 2) rfl
 have k3 := HK4.out.cell (i := 3) rfl
 go_wp2_with fail
 refine (HM.out _ HB4.out _ _ _ _ _ _).mono ?_
 rintro e5 w5 ⟨⟨v5, rfl, hz, hnz⟩, hb⟩
 have HA5 := Lib.hid (HA4.out.kept hb)
 have HB5 := Lib.hid (HB4.out.trans (hb.mono HB4.out.size))
 clear hb a0 a1 a2 a3 k0 k1 k2 k3 HA4 HK4 HB4
 rcases HE2.out with h2 | h2
 ·rw [h2] at hz hnz ⊢
  have hv := hz rfl
  subst hv
  clear hz hnz h2 HE2
  have hb9 := (Below.refl w5.heap.size w5).alloc (Nat.le_refl _) (.cells #[.int .u32 a, .int .i64 x, .int .i64 y, .slice A l.length c] 27)
  have HB6 := Lib.hid (HB5.out.trans (hb9.mono HB5.out.size))
  have hK : Blk (w5.alloc (.cells #[.int .u32 a, .int .i64 x, .int .i64 y, .slice A l.length c] 27)) w5.heap.size 27 [.int .u32 a, .int .i64 x, .int .i64 y, .slice A l.length c] := Blk.new w5 _ _
  have HA6 := Lib.hid (HA5.out.kept hb9)
  have HK6 := Lib.hid hK
  clear hb9 hK HB5 HA5
  go_upto_region 11 with fail
  generalize w5.alloc (.cells #[.int .u32 a, .int .i64 x, .int .i64 y, .slice A l.length c] 27) = w6 at *
  generalize w5.heap.size = g6 at *
  have a0 := HA6.out.cell (i := 0) rfl
  have a1 := HA6.out.cell (i := 1) rfl
  have a2 := HA6.out.cell (i := 2) rfl
  have a3 := HA6.out.cell (i := 3) rfl
  have k0 := HK6.out.cell (i := 0) rfl
  have k1 := HK6.out.cell (i := 1) rfl
  have k2 := HK6.out.cell (i := 2) rfl
  have k3 := HK6.out.cell (i := 3) rfl
  have HS := Lib.hid (same46_any w6 _ l (HU.out.below HB6.out))
  go_wp2_with fail
  refine HS.out.mono ?_
  rintro e7 w7 ⟨rfl, hb⟩
  have HB7 := Lib.hid (HB6.out.trans (hb.mono HB6.out.size))
  clear hb a0 a1 a2 a3 k0 k1 k2 k3
  go_wp2_with fail
  go_ret
  exact ⟨rfl, HB7.out⟩
 ·rw [h2] at hz hnz ⊢
  have hv := hnz (by decide)
  subst hv
  clear hz hnz h2 HE2
  have hb9 := (Below.refl w5.heap.size w5).alloc (Nat.le_refl _) (.cells #[.int .u32 0, .int .i64 0, .int .i64 0, .slice none 0 0] 27)
  have HB6 := Lib.hid (HB5.out.trans (hb9.mono HB5.out.size))
  clear hb9 HB5 HA5
  go_wp2_with fail
  go_ret
  exact ⟨rfl, HB6.out⟩
end
end Go.Proofs.YthkjphebhafgoaaGreatDoor
namespace Go.Proofs.YthkjphebhafgoaaGreatDoor.lawMgBack
section
open Go.ChangeShapes Go.WideShapes Go.ChangeAt Go.RowKit
theorem lifted (os : Os) (started : os.Started) (H : Type) (enc : TypeId × Value → H) :
  ReturnsInHanded {} Tryz.checked os 3 .any (fun w args => (Rows.migrationBackSpec.pre enc Tryz.prog Tryz.f3 Rows.migrationBackRow.domain false w args ∧ laidMetH Tryz.prog Rows.migrationBackRow.laid w) ∧ sizedMet enc Tryz.prog Tryz.f3 (OpenSpec.ofChange Rows.migrationBackSpec) false w args)
   (Rows.migrationBackSpec.post enc Tryz.prog Tryz.f3 false true false false) := by
 refine returns_shaped (C := Tryz.checked) (X := fun w _ => laidMetH Tryz.prog Rows.migrationBackRow.laid w) (fun _ _ _ hh h => h.of_heap hh) ownN started (by kernel_rfl) Tryz.func3
  (ChangeSpec.witness_shaped (enc := enc) (C := Tryz.checked) (os := os) (X := fun w _ => laidMetH Tryz.prog Rows.migrationBackRow.laid w) false (World.laidAll Tryz.prog os Rows.migrationBackRow.laid) #[.agg #[.int .u32 0, .int .i64 0, .int .i64 0, .slice none 0 0], .int .u32 0, .agg #[.int .i64 0, .int .i64 0]] 8 (World.laidAll_os _ _ _)
   (World.shaped_of_ZipB (by kernel_rfl) (by kernel_rfl)) (by kernel_rfl) (by kernel_rfl) (by kernel_rfl)
   (by rw [MakeChecks.laidMetH_plain _ _ _ (by kernel_rfl)]; exact laidMet_laidAll _ (by kernel_rfl) (by kernel_rfl))) ?_
 intro W base args ds gs before hval0 hW hc _ hL hsh _
 have hT : Tb W := tb_of (n1 := "*errors.errorString") (n2 := "*errors.errorString") (D1 := .ptr (.agg [.lit (.string [105, 110, 118, 97, 108, 105, 100, 32, 115, 121, 110, 116, 97, 120])])) (D2 := .ptr (.agg [.lit (.string [118, 97, 108, 117, 101, 32, 111, 117, 116, 32, 111, 102, 32, 114, 97, 110, 103, 101])])) hL (by kernel_rfl) (by kernel_rfl) (by kernel_rfl) (by kernel_rfl) (by kernel_rfl) hsh
 have hval : ∀ (j : Nat) t v, Tryz.f3.params[j]? = some t → args[j]? = some v → Value.okWide Tryz.prog W .any base t v := hval0
 have hW' := hW
 obtain ⟨p, q, hA0, hV, rfl, _, _⟩ := hW
 have hA : DataW.TrodAll enc Tryz.prog W 0 (fun _ => true) true Tryz.f3.params.toList args.toList ds p := hA0
 rw [Tryz.params3] at hA hval
 obtain ⟨v0, vs0, d0, ds0, p0, q0, hargs, rfl, rfl, h0, r0⟩ := trodAll_cons hA
 obtain ⟨v1, vs1, d1, ds1, p1, q1, rfl, rfl, rfl, h1, r1⟩ := trodAll_cons r0
 obtain ⟨v2, vs2, d2, ds2, p2, q2, rfl, rfl, rfl, h2, r2⟩ := trodAll_cons r1
 obtain ⟨rfl, rfl, rfl⟩ := trodAll_nil r2
 obtain rfl : args = #[v0, v1, v2] := by cases args; simp_all
 obtain ⟨rfl, rfl⟩ := trodVars_none hV
 have k0 := h0
 have lt0 : ∀ x ∈ p0, x.block < W.heap.size := by obtain ⟨m, hm⟩ := k0; exact DataW.trod_lt m _ _ _ hm
 have k1 := h1
 have lt1 : ∀ x ∈ p1, x.block < W.heap.size := by obtain ⟨m, hm⟩ := k1; exact DataW.trod_lt m _ _ _ hm
 have k2 := h2
 have lt2 : ∀ x ∈ p2, x.block < W.heap.size := by obtain ⟨m, hm⟩ := k2; exact DataW.trod_lt m _ _ _ hm
 obtain ⟨x0, y0, z0, u0, l0, rfl, hl0⟩ := open_arch (hval 0 27 v0 rfl rfl) h0
 obtain ⟨x1, rfl, _, _, _⟩ := open_int Tryz.underlying22 (hval 1 22 v1 rfl rfl) h1
 obtain ⟨x2, y2, rfl⟩ := open_layout (hval 2 24 v2 rfl rfl) h2
 clear hA0 hval0 hL
 refine (lawback_any W x0 y0 z0 u0 l0 hl0 x1 x2 y2 hT).mono fun e W' ⟨he, bel⟩ => ?_
 subst he
 exact ⟨_, rfl, _, _, _, [], _, [], hW', trodAll_mk1 (shut_bool Tryz.underlying4 _), (trodAll_cons_mk (Below.trod laidN (by kernel_rfl) (of_decide_eq_true (by kernel_rfl)) k0 bel lt0) (trodAll_cons_mk (Below.trod laidN (by kernel_rfl) (of_decide_eq_true (by kernel_rfl)) k1 bel lt1) (trodAll_cons_mk (Below.trod laidN (by kernel_rfl) (of_decide_eq_true (by kernel_rfl)) k2 bel lt2) trodAll_mk0))), rfl, bel.frame _, fun h => by cases h⟩
end
end Go.Proofs.YthkjphebhafgoaaGreatDoor.lawMgBack
