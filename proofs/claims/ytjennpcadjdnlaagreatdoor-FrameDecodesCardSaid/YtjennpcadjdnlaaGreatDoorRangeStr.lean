/-
  'for x := range seq { body }' where the body always goes on to the next round, may write rows of cells that it made as it went (a builder's), and the iterator moves objects of its own that are no cells (a string's iterator).
-/
import Derived.Test.YtjennpcadjdnlaaGreatDoorRangeOwn
import Derived.Lib.OthersKept
namespace Go.Proofs.YtjennpcadjdnlaaGreatDoor.rangeStr
open Go.RowKit Go.Proofs.YtjennpcadjdnlaaGreatDoor.rangeOwn

abbrev No : Nat → Prop := fun _ => False
/-- What is no row of cells, and the old blocks, lie as they lay. -/
def Kept (old : Nat → Prop) (A B : World) : Prop := A.heap.size ≤ B.heap.size ∧ ∀ k o, A.heap[k]? = some o → (o.isCells = false ∨ old k) → B.heap[k]? = some o
theorem Kept.trans {S : Nat → Prop} {A B C : World} (h : Kept S A B) (k : Kept S B C) : Kept S A C := ⟨Nat.le_trans h.1 k.1, fun i o hi hs => k.2 i o (h.2 i o hi hs) hs⟩
theorem Kept.refl {S : Nat → Prop} (A : World) : Kept S A A := ⟨Nat.le_refl _, fun _ _ h _ => h⟩

/-- THE ITERATOR's CONTRACT. -/
def IterStr {α : Type} (P : Program) (g : Nat) (lb : Array Value) (Rd : α → Array Value → World → Prop) (old : Nat → Prop) (xs : List α) (W0 : World) : Prop :=
  ∀ (l : Nat) (J : List α → World → Prop) (W : World), Below W0.heap.size W0 W →
    (∀ s A B, J s A → W.heap.size ≤ A.heap.size → Aside No W.heap.size A B → J s B) →
    (∀ pre x args W1, J pre W1 → Rd x args W1 → (pre ++ [x]) <+: xs → YieldAt Fence.wide 0 P l args W1 fun e W' => e = .returned (.bool true) ∧ J (pre ++ [x]) W' ∧ Kept old W1 W') →
    J [] W →
    CallsIn Fence.wide 0 P g (#[.func (.yield l) #[] #[]] ++ lb) W fun e W' => (∃ v, e = .returned v) ∧ J xs W'

/-- The body goes on. -/
def goesOn {α : Type} (S : Nat → Prop) (I : List α → World → Prop) (xs : List α) (W : World) : Exit → Act → World → Prop
  | .normal, _, W' => Kept S W W' ∧ I xs W'
  | _, _, _ => False

theorem wpIn_rangeFunc_str {α : Type} {P : Program} {g : Operand} {ps : Array Tmp} {assign body : Code} {Q : Exit → Act → World → Prop} {a : Act} {w : World}
    {gf : Nat} {lb : Array Value} (hg : a.eval g = .func (.func gf) #[] lb) (eg : ∀ args w, (callFunc gf args).run P w = .ok (.enter gf args) w)
    {Rd : α → Array Value → World → Prop} {old : Nat → Prop} {xs : List α} (hseq : IterStr P gf lb Rd old xs w)
    (hps : ∀ x args W, Rd x args W → args.size = ps.size) (hRd : ∀ x args A B, Rd x args A → Aside No w.heap.size A B → Rd x args B)
    (I : List α → World → Prop) (hI : ∀ s A B, I s A → w.heap.size ≤ A.heap.size → Aside No w.heap.size A B → I s B) (h0 : I [] w) (a₁ : Array Value → Act)
    (hassign : ∀ (l : Nat) (x : α) (args : Array Value) (W : World) (K : Act → World → Prop), Rd x args W → K (a₁ args) W →
      assign.wpIn (Fence.wide.inRound l) 0 P (Exit.then K (fun _ _ _ => False)) { tmps := (ps.zip args).foldl (fun t (p, v) => t.setIfInBounds p v) a.tmps, defers := [] } W)
    (hbody : ∀ (l : Nat) (pre : List α) (x : α) (args : Array Value) (W : World), w.heap.size + 2 ≤ W.heap.size → I pre W → Rd x args W → (pre ++ [x]) <+: xs →
      body.wpIn (Fence.wide.inRound l) 0 P (goesOn old I (pre ++ [x]) W) (a₁ args) W)
    (hdone : ∀ (D : Nat) (W : World), w.heap.size ≤ D → I xs W → W.heap[D]? = some (.deferred (some [])) → Q .normal { a with defers := { target := .collected D, args := #[] } :: a.defers } W) :
    (Code.rangeFunc g ps assign body).wpIn Fence.wide 0 P Q a w := by
  refine wpIn_rangeFunc ?_
  intro fn _
  obtain ⟨rec, hrec⟩ : ∃ rec : LoopState → Option Code → Loop, rec = fun st pe => { state := st, pending := pe, fn, tmps := a.tmps, params := ps, assign, body, defers := w.heap.size } := ⟨_, rfl⟩
  obtain ⟨W1, hW1⟩ : ∃ W1, (w.alloc (.deferred (some []))).alloc (.loop (rec .ready none)) = W1 := ⟨_, rfl⟩
  have hs1 : W1.heap.size = w.heap.size + 2 := by rw [← hW1]; simp
  have hL1 : W1.heap[w.heap.size + 1]? = some (.loop (rec .ready none)) := by
    rw [← hW1]; have := World.alloc_heap_new (w.alloc (.deferred (some []))) (.loop (rec .ready none)); rwa [World.size_alloc] at this
  have hK1 : W1.heap[w.heap.size]? = some (.deferred (some [])) := by
    rw [← hW1]; exact (Below.heap_alloc _ _ _ (by simp)).trans (World.alloc_heap_new w _)
  have hb1 : Below w.heap.size w W1 := by rw [← hW1]; exact ((Below.refl _ w).alloc (Nat.le_refl _) _).alloc (by simp) _
  have hI1 : I [] W1 := hI _ _ _ h0 (Nat.le_refl _) (Aside.of_below hb1 (Nat.le_refl _))
  refine ⟨w.heap.size + 1, [{ target := .collected w.heap.size, args := #[] }], W1, { target := .fn (.func gf) lb, args := #[.func (.yield (w.heap.size + 1)) #[] #[]] }, W1, gf,
    #[.func (.yield (w.heap.size + 1)) #[] #[]] ++ lb, W1, ?_, ?_, fun _ _ => trivial, ?_, (fun h => by cases h), ?_⟩
  · rw [← hW1, hrec]; exact run_enterLoop_outer _ _ _ _ _
  · simp only [resolve, hg]
    simp [go_sem]
  · simp [invoke, go_sem, eg]
  · refine (hseq (w.heap.size + 1)
      (fun pre W => w.heap.size + 2 ≤ W.heap.size ∧ I pre W ∧ W.heap[w.heap.size + 1]? = some (.loop (rec .ready none)) ∧ W.heap[w.heap.size]? = some (.deferred (some [])))
      W1 hb1 (fun s A B hs hsz hAB => ⟨Nat.le_trans hs.1 hAB.size, hI _ _ _ hs.2.1 (by omega) (hAB.mono (by omega)), (hAB.low _ (by omega) (fun h => h)).trans hs.2.2.1, (hAB.low _ (by omega) (fun h => h)).trans hs.2.2.2⟩)
      ?_ ⟨by omega, hI1, hL1, hK1⟩).mono ?_
    · rintro pre x args W ⟨hsz, hi, hl, hk⟩ hrd hpre
      have hy := run_yield (P := P) (args := args) hl (by rw [hrec]; exact hps x args W hrd)
      rw [hrec] at hy
      refine ⟨fn, _, assign, body, hy, roundIn_of_wpIn trivial (hassign _ x args W _ hrd ⟨_, run_beginRound hl (by rw [hrec]), ?_⟩)⟩
      obtain ⟨W2, hW2⟩ : ∃ W2, W.putObj (w.heap.size + 1) (.loop { rec .ready none with state := .busy }) = W2 := ⟨_, rfl⟩
      have hA2 : Aside No w.heap.size W W2 := by rw [← hW2]; exact Aside.putObj _ (by omega) hl rfl
      have hl2 : W2.heap[w.heap.size + 1]? = some (.loop { rec .ready none with state := .busy }) := by rw [← hW2]; exact World.putObj_heap_same (by omega)
      have hk2 : W2.heap[w.heap.size]? = some (.deferred (some [])) := by rw [← hW2]; exact (World.putObj_heap_other (by omega)).trans hk
      have hs2 : W2.heap.size = W.heap.size := by rw [← hW2]; simp
      rw [hW2]
      refine wpIn_mono (hbody _ pre x args W2 (by omega) (hI _ _ _ hi (by omega) hA2) (hRd _ _ _ _ hrd hA2) hpre) ?_
      rintro e a3 W3 hp
      cases e with
      | normal =>
        obtain ⟨hk3, hi3⟩ := hp
        have hl3 : W3.heap[w.heap.size + 1]? = some (.loop { rec .ready none with state := .busy }) := hk3.2 _ _ hl2 (.inl rfl)
        have hd3 : W3.heap[w.heap.size]? = some (.deferred (some [])) := hk3.2 _ _ hk2 (.inl rfl)
        have hs3 := hk3.1
        have hr := run_endRound (P := P) none hl3
        rw [hrec] at hr
        have hA4 : Aside No w.heap.size W3 (W3.putObj (w.heap.size + 1) (.loop (rec .ready none))) := Aside.putObj _ (by omega) hl3 rfl
        rw [hrec] at hA4
        refine ⟨_, _, hr, rfl, ⟨by simp; omega, hI _ _ _ hi3 (by omega) hA4, ?_, ?_⟩, by simp; omega, fun k o hko hkS => ?_⟩
        · rw [hrec]; exact World.putObj_heap_same (by omega)
        · exact (World.putObj_heap_other (by omega)).trans hd3
        · by_cases hkne : k = w.heap.size + 1
          · subst hkne
            rw [hl] at hko
            rw [← hko, hrec]
            exact World.putObj_heap_same (by omega)
          · refine (World.putObj_heap_other hkne).trans (hk3.2 k o ?_ hkS)
            rw [← hW2]
            exact (World.putObj_heap_other hkne).trans hko
      | _ => exact hp.elim
    · rintro e W2 ⟨⟨v, rfl⟩, hsz, hi, hl, hk⟩
      refine ⟨none, _, by have := run_endLoop (P := P) hl (by rw [hrec]; simp); rw [hrec] at this; exact this, hdone _ _ (Nat.le_refl _) (hI _ _ _ hi (by omega) (Aside.putObj _ (by omega) hl rfl)) ((World.putObj_heap_other (by omega)).trans hk)⟩

end Go.Proofs.YtjennpcadjdnlaaGreatDoor.rangeStr
