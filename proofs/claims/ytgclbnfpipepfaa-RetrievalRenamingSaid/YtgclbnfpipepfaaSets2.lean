/-
  WALK: sets, sets$1: the iterator's contract.
-/
import Derived.Test.YtgclbnfpipepfaaSets
import Derived.Laws.EntriesVeiled
namespace Go.Proofs.Ytgclbnfpipepfaa
open Go.RowKit Go.Shelf
attribute [local go_sem] Oper.semAt_some

def allSets (n : Nat) : List (List Int) := [] :: rest n n []
def RdInts (x : List Int) (args : Array Value) (W : World) : Prop := ∃ v, args = #[v] ∧ IntsAt W v x

theorem rsets_any (w : World) (n : Int) :
    Calls Try.prog 23 #[.int .i64 n] w fun e w' => e = .returned (.func (.func 31) #[] #[.pointer (some ⟨w.heap.size, 0, none⟩)]) ∧ w.alloc (.cells #[.int .i64 n] 3) = w' := by
  go_enter Try.func23, Try.ntmps23
  go_wp2
  go_ret
  exact ⟨rfl, rfl⟩

set_option maxHeartbeats 1000000 in
theorem sets_all (n nb : Nat) (W0 : World) (hn : n ≤ 1000) (hc : W0.cell? ⟨nb, 0, none⟩ = some (.int .i64 n)) :
    IterAll Try.prog 31 #[.pointer (some ⟨nb, 0, none⟩)] RdInts (fun k => k = nb) (allSets n) W0 := by
  intro l J W hb hJ hY h0
  have hnb : nb < W0.heap.size := World.block_lt_of_cell? _ _ hc
  have hcW := cell_below hb hc
  have hnbW : nb < W.heap.size := Nat.lt_of_lt_of_le hnb hb.size
  refine callsIn_wide.2 ?_
  -- the three boxes
  obtain ⟨W2, hW2⟩ : ∃ W2, ((W.alloc (.cells #[.func (.yield l) #[] #[]] 51)).alloc (.cells #[.nilFunc] 47)).setCell ⟨W.heap.size + 1, 0, none⟩ (.func (.func 32) #[] #[.pointer (some ⟨W.heap.size, 0, none⟩), .pointer (some ⟨nb, 0, none⟩), .pointer (some ⟨W.heap.size + 1, 0, none⟩)]) = W2 := ⟨_, rfl⟩
  have hbW : Below W.heap.size W W2 := by
    rw [← hW2]
    exact (((Below.refl _ _).alloc (Nat.le_refl _) _).alloc (by simp) _).setCell (p := ⟨W.heap.size + 1, 0, none⟩) (by show W.heap.size ≤ W.heap.size + 1; omega) _
  have hy2 : W2.cell? ⟨W.heap.size, 0, none⟩ = some (.func (.yield l) #[] #[]) := by
    rw [← hW2, World.cell?_setCell_other _ _ _ _ (by simp)]
    simp
  have hf2 : W2.cell? ⟨W.heap.size + 1, 0, none⟩ = some (.func (.func 32) #[] #[.pointer (some ⟨W.heap.size, 0, none⟩), .pointer (some ⟨nb, 0, none⟩), .pointer (some ⟨W.heap.size + 1, 0, none⟩)]) := by
    rw [← hW2]
    exact World.cell?_setCell_same' _ _ _ (by simp)
  have hcall := from_in l n W.heap.size nb (W.heap.size + 1) W.heap.size (fun k => k = nb ∨ W.heap.size ≤ k) (fun k hk => .inr hk) (.inr (Nat.le_refl _)) (.inl rfl) (.inr (by omega)) J (allSets n) hn hJ
    (fun pre x v W1 hj hv hp => hY pre x #[v] W1 hj ⟨v, rfl, hv⟩ hp) n [] (.slice none 0 0) [] W2 (Nat.le_refl _) (by simp) hbW.size (hJ _ _ _ h0 hbW) ⟨hy2, cell_below hbW hcW, hf2⟩
    ⟨none, 0, rfl, Nat.le_refl _, by omega, fun i x hx => by cases hx⟩ (fun a m c e => by cases e) (List.prefix_refl _)
  rw [Nat.sub_self] at hcall
  have Hcall := Lib.hid (callsIn_wide.1 hcall)
  clear hcall hy2 hbW hY hJ hcW
  go_enter Try.func31, Try.ntmps31
  go_wp2_with (go_at_call 32; refine Hcall.out.mono ?_; rintro e W' ⟨rfl, hj', hk'⟩)
  go_end0
  exact ⟨⟨_, rfl⟩, hj'⟩

end Go.Proofs.Ytgclbnfpipepfaa
