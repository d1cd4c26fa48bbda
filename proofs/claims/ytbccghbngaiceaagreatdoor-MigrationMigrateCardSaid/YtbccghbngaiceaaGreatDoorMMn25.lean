/-
  Joined: VqS.
-/
import Derived.Test.YtbccghbngaiceaaGreatDoorMMn24
set_option linter.all false
set_option maxRecDepth 100000
set_option maxHeartbeats 64000000
namespace Go.Proofs.YtbccghbngaiceaaGreatDoor
section
open Go.RowKit
def entsL (l : List Ent) : List Nat := l.flatMap encL
def signL (x : Ses) : List Nat := numL x.num.toNat ++ numL x.date.toNat ++ nstL (bs x.prev) ++ (numL x.str.size ++ nstL (bs (strB (digL (bs x.str)))) ++ numL x.ents.length) ++ entsL x.ents
theorem entsL_take {l : List Ent} {i : Nat} {x : Ent} (h : l[i]? = some x) : entsL (l.take (i + 1)) = entsL (l.take i) ++ encL x := by
 unfold entsL
 rw [List.take_add_one, h, List.flatMap_append]
 simp
theorem entsL_len {l : List Ent} (h : ∀ e ∈ l, EntOk e) : (entsL l).length ≤ l.length * 4200000 := by
 induction l with
 | nil => simp [entsL]
 | cons x r ih =>
  have h1 := encL_len (h x List.mem_cons_self)
  have h2 := (h x List.mem_cons_self).z.exn
  have h3 := ih fun y hy => h y (List.mem_cons_of_mem _ hy)
  have e : entsL (x :: r) = encL x ++ entsL r := by unfold entsL; rw [List.flatMap_cons]
  rw [e, List.length_append, List.length_cons, Nat.add_mul, Nat.one_mul]
  omega
theorem entsL_lt (l : List Ent) : ∀ b ∈ entsL l, b < 256 := by
 intro b hb
 obtain ⟨x, _, hx⟩ := List.mem_flatMap.1 hb
 exact encL_lt x b hx
theorem signL_lt (x : Ses) : ∀ b ∈ signL x, b < 256 := by
 intro b hb
 unfold signL at hb
 simp only [List.mem_append] at hb
 rcases hb with (((hb | hb) | hb) | ((hb | hb) | hb)) | hb
 ·exact numL_lt _ b hb
 ·exact numL_lt _ b hb
 ·exact nstL_lt _ b hb
 ·exact numL_lt _ b hb
 ·exact nstL_lt _ b hb
 ·exact numL_lt _ b hb
 ·exact entsL_lt _ b hb
theorem dirfields_ok (w : World) (num date : Nat) (prev st sg : ByteArray) (ve : Value) (hn : 1 ≤ num ∧ num ≤ 255) (hd : date ≤ 1000000000) (hp : prev.size = 0 ∨ prev.size = 32) (h1 : ve.oneCell' = true) : Calls Tryz.prog 95 #[.agg #[.int .i64 (num : Int), .int .i64 (date : Int), .string prev, ve, .string st, .string sg]] w fun r w' => r = .returned (.int .i64 0) ∧ Below w.heap.size w w' := by
 have hK := Blk.new w 43 [.int .i64 (num : Int), .int .i64 (date : Int), .string prev, ve, .string st, .string sg]
 change Blk (w.alloc (.cells #[.int .i64 (num : Int), .int .i64 (date : Int), .string prev, ve, .string st, .string sg] 43)) _ _ _ at hK
 have HB0 := Lib.hid ((Below.refl w.heap.size w).alloc (Nat.le_refl _) (.cells #[.int .i64 (num : Int), .int .i64 (date : Int), .string prev, ve, .string st, .string sg] 43))
 have HK := Lib.hid hK
 clear hK
 have i1 : ¬ (num : Int) < 1 := by omega
 have i2 : ¬ (255 : Int) < num := by omega
 have i3 : ¬ (date : Int) < 0 := by omega
 have i4 : ¬ (1000000000 : Int) < date := by omega
 rcases hp with hp | hp
 ·have e0 : prev = ⟨#[]⟩ := by
   apply ByteArray.ext
   exact Array.eq_empty_of_size_eq_zero hp
  subst e0
  clear hp
  go_enter Tryz.func95, Tryz.ntmps95
  go_upto_region 1 with fail
  generalize w.alloc (.cells #[.int .i64 (num : Int), .int .i64 (date : Int), .string ⟨#[]⟩, ve, .string st, .string sg] 43) = wb at *
  have c0 := HK.out.cell (i := 0) rfl
  have c1 := HK.out.cell (i := 1) rfl
  have c2 := HK.out.cell (i := 2) rfl
  go_wp2_with fail
  go_ret
  exact ⟨rfl, HB0.out⟩
 ·have hb0 : prev.toList.isEmpty = false := isEmptyV (by omega)
  have i5 : ((prev.size : Int) != 32) = false := by rw [hp]; rfl
  clear hp
  go_enter Tryz.func95, Tryz.ntmps95
  go_upto_region 1 with fail
  generalize w.alloc (.cells #[.int .i64 (num : Int), .int .i64 (date : Int), .string prev, ve, .string st, .string sg] 43) = wb at *
  have c0 := HK.out.cell (i := 0) rfl
  have c1 := HK.out.cell (i := 1) rfl
  have c2 := HK.out.cell (i := 2) rfl
  go_wp2_with fail
  go_ret
  exact ⟨rfl, HB0.out⟩
end
end Go.Proofs.YtbccghbngaiceaaGreatDoor
