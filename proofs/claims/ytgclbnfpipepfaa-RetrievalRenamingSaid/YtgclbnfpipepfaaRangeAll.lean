/-
  'for x := range seq { body }' where the body always goes on to the next round, and what is handed to the body lies in memory that the iterator makes as it goes.
-/
import Derived.RangeFuncNested
import Derived.Test.YtgclbnfpipepfaaMem
namespace Go.Proofs.Ytgclbnfpipepfaa
open Go.RowKit

/-- From A to B: below n nothing has turned, and every row of cells lies as it lay. -/
structure Aside (n : Nat) (A B : World) : Prop where
  os : B.os = A.os
  tape : B.tape = A.tape
  output : B.output = A.output
  size : A.heap.size ≤ B.heap.size
  low : ∀ k, k < n → B.heap[k]? = A.heap[k]?
  cells : ∀ (k : Nat) (o : Obj), A.heap[k]? = some o → o.isCells = true → B.heap[k]? = some o

theorem Aside.of_below {n : Nat} {A B : World} (h : Below A.heap.size A B) (hn : n ≤ A.heap.size) : Aside n A B :=
  ⟨h.os, h.tape, h.output, h.size, fun k hk => h.block k (by omega), fun k o hk _ => (h.block k (Array.getElem?_eq_some_iff.1 hk).1).trans hk⟩
theorem Aside.putObj {n : Nat} {A : World} {l : Nat} {o : Obj} (o' : Obj) (hn : n ≤ l) (hl : A.heap[l]? = some o) (ho : o.isCells = false) : Aside n A (A.putObj l o') :=
  ⟨rfl, rfl, rfl, by simp, fun k hk => World.putObj_heap_other (by omega), fun k o2 hk hc => (World.putObj_heap_other (fun e => by subst e; rw [hl] at hk; cases hk; rw [ho] at hc; cases hc)).trans hk⟩
theorem Aside.cell {n : Nat} {A B : World} (h : Aside n A B) {p : Addr} {u : Value} (hc : A.cell? p = some u) : B.cell? p = some u := by
  obtain ⟨o, ho, hoc⟩ := cells_of_cell hc
  exact (World.cell?_of_block ((h.cells _ _ ho hoc).trans ho.symm)).trans hc
theorem Aside.below {n : Nat} {w A B : World} (h : Aside n A B) (hb : Below n w A) : Below n w B :=
  ⟨h.os.trans hb.os, h.tape.trans hb.tape, h.output.trans hb.output, Nat.le_trans hb.size h.size, fun k hk => (h.low k hk).trans (hb.block k hk)⟩
theorem IntsAt.aside {n : Nat} {A B : World} {v : Value} {xs : List Int} (h : IntsAt A v xs) (k : Aside n A B) : IntsAt B v xs :=
  SlAt.keep h (fun _ _ => k.cell) plainR_keep

/-- The blocks of S lie as they lay. -/
def KeepsOn (S : Nat → Prop) (A B : World) : Prop := A.heap.size ≤ B.heap.size ∧ ∀ k, S k → k < A.heap.size → B.heap[k]? = A.heap[k]?
theorem KeepsOn.trans {S : Nat → Prop} {A B C : World} (h : KeepsOn S A B) (k : KeepsOn S B C) : KeepsOn S A C :=
  ⟨Nat.le_trans h.1 k.1, fun i hs hi => (k.2 i hs (Nat.lt_of_lt_of_le hi h.1)).trans (h.2 i hs hi)⟩
theorem KeepsOn.refl {S : Nat → Prop} (A : World) : KeepsOn S A A := ⟨Nat.le_refl _, fun _ _ _ => rfl⟩

/-- THE ITERATOR's CONTRACT: it hands all of xs, one after the other, to whatever body goes on each time and keeps the blocks 'old' and those from the iterator's beginning on. -/
def IterAll {α : Type} (P : Program) (g : Nat) (lb : Array Value) (Rd : α → Array Value → World → Prop) (old : Nat → Prop) (xs : List α) (W0 : World) : Prop :=
  ∀ (l : Nat) (J : List α → World → Prop) (W : World), Below W0.heap.size W0 W →
    (∀ s A B, J s A → Below A.heap.size A B → J s B) →
    (∀ pre x args W1, J pre W1 → Rd x args W1 → (pre ++ [x]) <+: xs → YieldAt Fence.wide 0 P l args W1 fun e W' => e = .returned (.bool true) ∧ J (pre ++ [x]) W' ∧ KeepsOn (fun k => old k ∨ W.heap.size ≤ k) W1 W') →
    J [] W →
    CallsIn Fence.wide 0 P g (#[.func (.yield l) #[] #[]] ++ lb) W fun e W' => (∃ v, e = .returned v) ∧ J xs W'

/-- The body goes on. -/
def goesOn {α : Type} (S : Nat → Prop) (I : List α → World → Prop) (xs : List α) (W : World) : Exit → Act → World → Prop
  | .normal, _, W' => KeepsOn S W W' ∧ I xs W'
  | _, _, _ => False

theorem wpIn_rangeFunc_all {α : Type} {P : Program} {g : Operand} {ps : Array Tmp} {assign body : Code} {Q : Exit → Act → World → Prop} {a : Act} {w : World}
    {gf : Nat} {lb : Array Value} (hg : a.eval g = .func (.func gf) #[] lb) (eg : ∀ args w, (callFunc gf args).run P w = .ok (.enter gf args) w)
    {Rd : α → Array Value → World → Prop} {old : Nat → Prop} {xs : List α} (hseq : IterAll P gf lb Rd old xs w) (hold : ∀ k, old k → k < w.heap.size)
    (hps : ∀ x args W, Rd x args W → args.size = ps.size) (hRd : ∀ x args A B, Rd x args A → Aside w.heap.size A B → Rd x args B)
    (I : List α → World → Prop) (hI : ∀ s A B, I s A → w.heap.size ≤ A.heap.size → Aside w.heap.size A B → I s B) (h0 : I [] w) (a₁ : Array Value → Act)
    (hassign : ∀ (l : Nat) (x : α) (args : Array Value) (W : World) (K : Act → World → Prop), Rd x args W → K (a₁ args) W →
      assign.wpIn (Fence.wide.inRound l) 0 P (Exit.then K (fun _ _ _ => False)) { tmps := (ps.zip args).foldl (fun t (p, v) => t.setIfInBounds p v) a.tmps, defers := [] } W)
    (hbody : ∀ (l : Nat) (pre : List α) (x : α) (args : Array Value) (W : World), w.heap.size + 2 ≤ W.heap.size → I pre W → Rd x args W → (pre ++ [x]) <+: xs →
      body.wpIn (Fence.wide.inRound l) 0 P (goesOn (fun k => old k ∨ w.heap.size ≤ k) I (pre ++ [x]) W) (a₁ args) W)
    (hdone : ∀ (D : Nat) (W : World), w.heap.size ≤ D → I xs W → W.heap[D]? = some (.deferred (some [])) → Q .normal { a with defers := { target := .collected D, args := #[] } :: a.defers } W) :
    (Code.rangeFunc g ps assign body).wpIn Fence.wide 0 P Q a w := by
  refine wpIn_rangeFunc ?_
  intro fn _
  obtain ⟨rec, hrec⟩ : ∃ rec : LoopState → Option Code → Loop, rec = fun st pe => { state := st, pending := pe, fn, tmps := a.tmps, params := ps, assign, body, defers := w.heap.size } := ⟨_, rfl⟩
  obtain ⟨W1, hW1⟩ : ∃ W1, (w.alloc (.deferred (some []))).alloc (.loop (rec .ready none)) = W1 := ⟨_, rfl⟩
  have hs1 : W1.heap.size = w.heap.size + 2 := by rw [← hW1]; simp
  have hL1 : W1.heap[w.heap.size + 1]? = some (.loop (rec .ready none)) := by
    rw [← hW1]; have := World.alloc_heap_new (w.alloc (.deferred (some []))) (.loop (rec .ready none)); rwa [World.size_alloc] at this
  have hK1 : W1.heap[w.heap.size]? = some (.deferred (some [])) := by
    rw [← hW1]; exact (Below.heap_alloc _ _ _ (by simp)).trans (World.alloc_heap_new w _)
  have hb1 : Below w.heap.size w W1 := by rw [← hW1]; exact ((Below.refl _ w).alloc (Nat.le_refl _) _).alloc (by simp) _
  have hI1 : I [] W1 := hI _ _ _ h0 (Nat.le_refl _) (Aside.of_below hb1 (Nat.le_refl _))
  refine ⟨w.heap.size + 1, [{ target := .collected w.heap.size, args := #[] }], W1, { target := .fn (.func gf) lb, args := #[.func (.yield (w.heap.size + 1)) #[] #[]] }, W1, gf,
    #[.func (.yield (w.heap.size + 1)) #[] #[]] ++ lb, W1, ?_, ?_, fun _ _ => trivial, ?_, (fun h => by cases h), ?_⟩
  · rw [← hW1, hrec]; exact run_enterLoop_outer _ _ _ _ _
  · simp only [resolve, hg]
    simp [go_sem]
  · simp [invoke, go_sem, eg]
  · refine (hseq (w.heap.size + 1)
      (fun pre W => w.heap.size + 2 ≤ W.heap.size ∧ I pre W ∧ W.heap[w.heap.size + 1]? = some (.loop (rec .ready none)) ∧ W.heap[w.heap.size]? = some (.deferred (some [])))
      W1 hb1 (fun s A B hs hAB => ⟨Nat.le_trans hs.1 hAB.size, hI _ _ _ hs.2.1 (by have := hs.1; omega) (Aside.of_below hAB (by have := hs.1; omega)), (hAB.block _ (by have := hs.1; omega)).trans hs.2.2.1, (hAB.block _ (by have := hs.1; omega)).trans hs.2.2.2⟩)
      ?_ ⟨by omega, hI1, hL1, hK1⟩).mono ?_
    · rintro pre x args W ⟨hsz, hi, hl, hk⟩ hrd hpre
      have hy := run_yield (P := P) (args := args) hl (by rw [hrec]; exact hps x args W hrd)
      rw [hrec] at hy
      refine ⟨fn, _, assign, body, hy, roundIn_of_wpIn trivial (hassign _ x args W _ hrd ⟨_, run_beginRound hl (by rw [hrec]), ?_⟩)⟩
      obtain ⟨W2, hW2⟩ : ∃ W2, W.putObj (w.heap.size + 1) (.loop { rec .ready none with state := .busy }) = W2 := ⟨_, rfl⟩
      have hA2 : Aside w.heap.size W W2 := by rw [← hW2]; exact Aside.putObj _ (by omega) hl rfl
      have hl2 : W2.heap[w.heap.size + 1]? = some (.loop { rec .ready none with state := .busy }) := by rw [← hW2]; exact World.putObj_heap_same (by omega)
      have hk2 : W2.heap[w.heap.size]? = some (.deferred (some [])) := by rw [← hW2]; exact (World.putObj_heap_other (by omega)).trans hk
      have hs2 : W2.heap.size = W.heap.size := by rw [← hW2]; simp
      rw [hW2]
      refine wpIn_mono (hbody _ pre x args W2 (by omega) (hI _ _ _ hi (by omega) hA2) (hRd _ _ _ _ hrd hA2) hpre) ?_
      rintro e a3 W3 hp
      cases e with
      | normal =>
        obtain ⟨hk3, hi3⟩ := hp
        have hl3 : W3.heap[w.heap.size + 1]? = some (.loop { rec .ready none with state := .busy }) := (hk3.2 _ (.inr (by omega)) (by omega)).trans hl2
        have hd3 : W3.heap[w.heap.size]? = some (.deferred (some [])) := (hk3.2 _ (.inr (Nat.le_refl _)) (by omega)).trans hk2
        have hs3 := hk3.1
        have hr := run_endRound (P := P) none hl3
        rw [hrec] at hr
        have hA4 : Aside w.heap.size W3 (W3.putObj (w.heap.size + 1) (.loop (rec .ready none))) := Aside.putObj _ (by omega) hl3 rfl
        rw [hrec] at hA4
        refine ⟨_, _, hr, rfl, ⟨by simp; omega, hI _ _ _ hi3 (by omega) hA4, ?_, ?_⟩, by simp; omega, fun k hkS hkl => ?_⟩
        · rw [hrec]; exact World.putObj_heap_same (by omega)
        · exact (World.putObj_heap_other (by omega)).trans hd3
        · have hkne : k ≠ w.heap.size + 1 := by
            rcases hkS with h | h
            · have := hold k h; omega
            · omega
          refine (World.putObj_heap_other hkne).trans ((hk3.2 k ?_ (by omega)).trans ?_)
          · rcases hkS with h | h
            · exact .inl h
            · exact .inr (by omega)
          · rw [← hW2]; exact World.putObj_heap_other hkne
      | _ => exact hp.elim
    · rintro e W2 ⟨⟨v, rfl⟩, hsz, hi, hl, hk⟩
      refine ⟨none, _, by have := run_endLoop (P := P) hl (by rw [hrec]; simp); rw [hrec] at this; exact this, hdone _ _ (Nat.le_refl _) (hI _ _ _ hi (by omega) (Aside.putObj _ (by omega) hl rfl)) ((World.putObj_heap_other (by omega)).trans hk)⟩

end Go.Proofs.Ytgclbnfpipepfaa
