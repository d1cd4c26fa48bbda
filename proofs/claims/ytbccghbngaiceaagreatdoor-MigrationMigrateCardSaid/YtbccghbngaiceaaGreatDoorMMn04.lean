/-
  Joined: VitA TakeA.
-/
import Derived.Test.YtbccghbngaiceaaGreatDoorMMn02
import Derived.Deep.RegionHeld3
set_option linter.all false
set_option maxRecDepth 100000
set_option maxHeartbeats 64000000
namespace Go.Proofs.YtbccghbngaiceaaGreatDoor
section
open Go.RowKit
theorem tk {P : Program} {ops : Array Oper} {Q : Exit → Act → World → Prop} {md : Region.Mode} {S : World → Prop} (i : Nat) {oi : Oper} {v : Value} {fuel : Nat} {listed ls : Array Bool} {a a' : Act} {w : World}
  (h : wpAnyH P md ops Q S fuel ls a' w) (hi : ops[i]? = some oi := by rfl) (hs : Region.noSelect ops = true := by kernel_rfl) (hf : Region.free md ops listed i = true := by kernel_rfl)
  (hr : (Region.ready md ops listed).contains i = true := by kernel_rfl) (hQ : ∀ c a w, Q (.panic c) (a.put oi.dst v) w → Q (.panic c) a w := by exact fun _ _ _ h => h)
  (hw : Region.wanted oi (yielded ops a.tmps) = true := by rfl) (hy : ∀ w, S w → (execOp a.eval oi).run P w = .ok (.value v) w := by (intro W hSw; (try dsimp only at hSw); go_simp; try with_reducible rfl)) (hS : S w := by assumption)
  (e1 : listed.setIfInBounds i true = ls := by (try simp only [List.setIfInBounds_toArray, List.set_cons_zero, List.set_cons_succ]); with_reducible rfl)
  (e2 : a.put oi.dst v = a' := by (try simp only [Act.put, List.setIfInBounds_toArray, List.set_cons_zero, List.set_cons_succ, List.getElem_toArray, List.getElem_cons_zero, List.getElem_cons_succ]); with_reducible rfl) :
  wpAnyH P md ops Q S (fuel + 1) listed a w := by
 subst e1 e2
 exact wpAnyH_take hi hs hf hr hQ (Or.inl ⟨hw, hy⟩) hS h
theorem hko {P : Program} {ops : Array Oper} {Q : Exit → Act → World → Prop} {md : Region.Mode} {S : World → Prop} {i : Nat} {fuel : Nat} {listed ls : Array Bool} {K : Act → World → Prop} (hK : Shut (∀ a w, S w → (S w → wpAnyH P md ops Q S fuel (listed.setIfInBounds i true) a w) → K a w)) {a a' : Act} {w : World}
  (hS : S w) (h : S w → wpAnyH P md ops Q S fuel ls a' w)
  (e1 : listed.setIfInBounds i true = ls := by (try simp only [List.setIfInBounds_toArray, List.set_cons_zero, List.set_cons_succ]); with_reducible rfl)
  (e2 : a = a' := by (try simp only [Act.put, List.setIfInBounds_toArray, List.set_cons_zero, List.set_cons_succ, List.getElem_toArray, List.getElem_cons_zero, List.getElem_cons_succ]); with_reducible rfl) : K a w := by
 subst e1 e2
 exact hK.out _ _ hS h
end
section
open Go.RowKit
section
variable {P : Program} {ops : Array Oper} {Q : Exit → Act → World → Prop} {md : Region.Mode} {S : World → Prop}
def GivesIf (P : Program) (ops : Array Oper) (S : World → Prop) (o : Oper) (v : Value) (a : Act) : Prop :=
 Region.wanted o (yielded ops a.tmps) = true ∧ ∀ w, S w → ∃ f args, (execOp a.eval o).run P w = .ok (.enter f args) w ∧ Calls P f args w fun e w' => e = .returned v ∧ w = w'
theorem GivesIf.here {i : Nat} {o : Oper} {v : Value} {a : Act} (hi : ops[i]? = some o) (hg : GivesIf P ops S o v a) {K : Act → World → Prop} {w : World} (hS : S w) (h : K (a.put o.dst v) w) : wpOp P ops Q i K a w := by
 obtain ⟨hw, hv⟩ := hg
 obtain ⟨f, args, hr, hc⟩ := hv w hS
 unfold wpOp
 rw [hi]
 show if _ then _ else _
 rw [if_pos hw]
 refine .inl ?_
 unfold Oper.wp
 rw [hr, Oper.upon_enter]
 refine hc.mono ?_
 rintro e w' ⟨rfl, rfl⟩
 exact h
theorem wpOp_shape {j : Nat} {oj : Oper} (hj : ops[j]? = some oj) {Y : Act → Prop} (hput : ∀ b, Y b → ∀ u, Y (b.put oj.dst u)) (hdef : ∀ b d, Y b → Y { b with defers := d :: b.defers })
  {K : Act → World → Prop} {a : Act} {w : World} (hy : Y a) (h : wpOp P ops Q j K a w) : wpOp P ops Q j (fun a' w' => Y a' ∧ K a' w') a w := by
 unfold wpOp at *
 rw [hj] at *
 dsimp only at *
 split
 ·next hw =>
  rw [if_pos hw] at h
  rcases h with h | h
  ·left
   unfold Oper.wp at *
   cases hr : (execOp a.eval oj).run P w with
   | ok n w' =>
    rw [hr] at h
    cases n <;> simp only [Oper.upon] at h ⊢
    all_goals first
     | exact ⟨hput _ hy _, h⟩
     | exact ⟨hput _ (hdef _ _ hy) _, h⟩
     | exact Calls.mono h fun e w'' he => by cases e <;> first | exact ⟨hput _ hy _, he⟩ | exact he
     | exact Rows.mono h fun u w'' he => ⟨hput _ hy _, he⟩
   | halt x w' =>
    rw [hr] at h
    cases x <;> simp only [Oper.upon] at h ⊢
    exact h
  ·exact .inr h
 ·next hw =>
  rw [if_neg hw] at h
  exact ⟨hput _ hy _, h⟩
theorem call_first {i : Nat} {oi : Oper} {v : Value} (hi : ops[i]? = some oi) (hsel : ∀ (j : Nat) (o : Oper) cs b, ops[j]? = some o → o.op ≠ .select cs b)
  (hQ : ∀ c a w, Q (.panic c) (a.put oi.dst v) w → Q (.panic c) a w) (fuel : Nat) : ∀ (listed : Array Bool) (a : Act) (w : World),
   (∀ j oj, ops[j]? = some oj → j ≠ i → listed.getD j true = false → (∀ e ∈ oj.after, Region.binds md e = true → e.on ≠ i) → oi.apart ops oj = true) →
   i ∈ Region.ready md ops listed → GivesIf P ops S oi v a → S w →
   wpAnyH P md ops Q S fuel (listed.setIfInBounds i true) (a.put oi.dst v) w → wpAnyH P md ops Q S (fuel + 1) listed a w := by
 have key : ∀ (listed : Array Bool) (j : Nat) (oj : Oper), ops[j]? = some oj → i ∈ Region.ready md ops listed → j ∈ Region.ready md ops listed → ∀ e ∈ oj.after, Region.binds md e = true → e.on ≠ i := by
  intro listed j oj hj hir hjr e he hb heq
  have h0 := (mem_ready.1 hir).1
  obtain ⟨_, o, ho, hall⟩ := mem_ready.1 hjr
  rw [hj] at ho
  cases ho
  have h1 := hall e he hb
  rw [heq] at h1
  by_cases hlt : i < listed.size
  ·simp [hlt] at h0 h1
   rw [h0] at h1
   cases h1
  ·simp [hlt] at h0
 induction fuel with
 | zero =>
  intro listed a w _ hir hg hS H
  refine ⟨fun e => (by rw [e] at hir; cases hir), fun j hjr => ?_⟩
  by_cases hji : j = i
  ·subst hji
   exact hg.here hi hS ⟨hS, H⟩
  ·have := ready_mono hjr hji
   rw [H.1] at this
   cases this
 | succ fuel ih =>
  intro listed a w hfree hir hg hS H
  refine ⟨fun e => (by rw [e] at hir; cases hir), fun j hjr => ?_⟩
  by_cases hji : j = i
  ·subst hji
   exact hg.here hi hS ⟨hS, H⟩
  obtain ⟨hun, oj, hj, _⟩ := mem_ready.1 hjr
  have hap := hfree j oj hj hji hun (key listed j oj hj hir hjr)
  obtain ⟨_, _, hq3⟩ := Oper.apart_spec hap
  have hyF : YieldsIf P ops (fun _ => False) oi v a := .inl ⟨hg.1, fun _ hf => hf.elim⟩
  have h2 := wpOp_putIf hj hap (fun cs b => hsel i oi cs b hi) (fun cs b => hsel j oj cs b hj) hQ hyF (H.2 j (ready_mono hjr hji))
  have h3 := wpOp_shape hj (Y := GivesIf P ops S oi v) (fun b hb u => by
   unfold GivesIf at *
   rw [execOp_put oi (fun cs b => hsel i oi cs b hi) b oj.dst u hq3, wanted_put oi b oj.dst u hq3]
   exact hb) (fun b d hb => hb) hg h2
  refine wpOp_mono (fun a' w' h4 => ⟨h4.2.2.1, ih (listed.setIfInBounds j true) a' w' (fun k ok hk hki hku hkw => ?_) (ready_mono hir (Ne.symm hji)) h4.1 h4.2.2.1 ?_⟩) h3
  ·refine hfree k ok hk hki ?_ hkw
   by_cases hjk : j = k
   ·subst hjk
    exact hun
   ·rwa [getD_set_ne true hjk] at hku
  ·rw [Array.setIfInBounds_comm _ _ hji]
   exact h4.2.2.2
theorem take_call {i : Nat} {oi : Oper} {v : Value} {fuel : Nat} {listed : Array Bool} {a : Act} {w : World} (hi : ops[i]? = some oi)
  (hs : Region.noSelect ops = true) (hf : Region.free md ops listed i = true) (hr : (Region.ready md ops listed).contains i = true)
  (hQ : ∀ c a w, Q (.panic c) (a.put oi.dst v) w → Q (.panic c) a w) (hg : GivesIf P ops S oi v a) (hS : S w)
  (h : wpAnyH P md ops Q S fuel (listed.setIfInBounds i true) (a.put oi.dst v) w) : wpAnyH P md ops Q S (fuel + 1) listed a w :=
 call_first hi (Region.noSelect_spec hs) hQ fuel listed a w (Region.free_spec hi hf) (by simpa using hr) hg hS h
end
end
end Go.Proofs.YtbccghbngaiceaaGreatDoor
