/-
  Joined: VpI VpP.
-/
import Derived.Test.YtbccghbngaiceaaGreatDoorMMn05
import Derived.Test.YtbccghbngaiceaaGreatDoorMMn06
set_option linter.all false
set_option maxRecDepth 100000
set_option maxHeartbeats 64000000
namespace Go.Proofs.YtbccghbngaiceaaGreatDoor
section
open Go.RowKit
theorem OwnSeq.newAt {α : Type} {ρ : Shape α} {t : TypeId} {w W : World} (h : w.heap.size ≤ W.heap.size) : OwnSeq ρ t w (W.alloc (.cells #[] t)) (.slice (some ⟨W.heap.size, 0, none⟩) 0 0) [] :=
 ⟨[], ⟨(ownV_new W t ρ.n).1, (ownV_new W t ρ.n).2.imp id fun ⟨g, cap, cur, e, hB, r⟩ => ⟨g, cap, cur, e, by omega, r⟩⟩, .nil⟩
theorem src1B {α : Type} {ρ : Shape α} {w0 w W : World} {t : TypeId} (_ : Below w.heap.size w W) (cs : List Value) (x : α) (hr : ρ.R w0 cs x) : SrcAt ρ w0 (W.alloc (.cells cs.toArray t)) (.slice (some ⟨W.heap.size, 0, none⟩) 1 1) [x] := SrcAt.lit hr (Blk.new _ _ _)
theorem SrcAt.below {α : Type} {ρ : Shape α} {w0 W W' : World} {v : Value} {us : List α} (h : SrcAt ρ w0 W v us) (hb : Below W.heap.size W W') : SrcAt ρ w0 W' v us := by
 obtain ⟨A, c, e, h⟩ := h
 refine ⟨A, c, e, fun i x hx => ?_⟩
 obtain ⟨b, o, cs, e1, hr, hc⟩ := h i x hx
 exact ⟨b, o, cs, e1, hr, fun j u hu => cell_below hb (hc j u hu)⟩
theorem SrcAt.alloc {α : Type} {ρ : Shape α} {w0 W : World} {v : Value} {us : List α} (h : SrcAt ρ w0 W v us) (o : Obj) : SrcAt ρ w0 (W.alloc o) v us := h.below ((Below.refl _ _).alloc (Nat.le_refl _) _)
theorem cell_lt {W : World} {b o : Nat} {u : Value} (h : W.cell? ⟨b, o, none⟩ = some u) : b < W.heap.size := by
 apply Decidable.byContradiction
 intro hn
 have hz : W.heap[b]? = none := Array.getElem?_eq_none (by omega)
 simp [World.cell?, hz] at h
theorem SrcAt.grownB {α : Type} {ρ : Shape α} {w0 W W' : World} {hb : Nat} {us : List α} {r : Option Nat} (h : SrcAt ρ w0 W (.slice (some ⟨hb, 0, none⟩) 1 1) us) (hg : W.grownBy W' r) (hne : r ≠ some hb) : SrcAt ρ w0 W' (.slice (some ⟨hb, 0, none⟩) 1 1) us := by
 obtain ⟨A, c, e, h⟩ := h
 refine ⟨A, c, e, fun i x hx => ?_⟩
 obtain ⟨b, o, cs, e1, hr, hc⟩ := h i x hx
 cases e1
 have eb : b = hb := by simp at e; exact e.1.1.symm
 refine ⟨b, o, cs, rfl, hr, fun j u hu => ?_⟩
 have hl := cell_lt (hc j u hu)
 exact (World.cell?_of_block (hg.block b hl (by rw [eb]; exact hne.symm))).trans (hc j u hu)
theorem Blk.grownB {W W' : World} {g : Nat} {t : TypeId} {us : List Value} {r : Option Nat} (h : Blk W g t us) (hg : W.grownBy W' r) (hne : r ≠ some g) : Blk W' g t us := h.of_heap (hg.block g h.lt hne.symm)
theorem SeqAt.drop {α : Type} {ρ : Shape α} {W : World} {b o n c m : Nat} {xs : List α} (h : SeqAt ρ W (.slice (some ⟨b, o, none⟩) n c) xs) (hm : m ≤ xs.length) : SeqAt ρ W (.slice (some ⟨b, o + m * ρ.n, none⟩) (n - m) (c - m)) (xs.drop m) := by
 obtain ⟨A', c', e, h1, h2, h3⟩ := h
 cases e
 refine ⟨_, _, by rw [List.length_drop], by rw [List.length_drop]; omega, by omega, fun i x hx => ?_⟩
 rw [List.getElem?_drop] at hx
 obtain ⟨b', o', cs, e, hr, hc⟩ := h3 (m + i) x hx
 cases e
 refine ⟨_, _, cs, rfl, hr, fun j u hu => ?_⟩
 rw [← hc j u hu]
 congr 2
 rw [Nat.add_mul]
 omega
theorem OwnSeq.neB {α : Type} {ρ : Shape α} {t : TypeId} {w W : World} {v : Value} {xs : List α} (h : OwnSeq ρ t w W v xs) {g : Nat} (hg : g < w.heap.size) : v.ownBlock ≠ some g := fun e => by
 have := h.ge g e
 omega
def kd : Value → Nat
 | .int .i64 _ => 1
 | .int .u32 _ => 2
 | .string _ => 3
 | .slice _ _ _ => 4
 | _ => 0
def noFit (K : List Nat) : List Nat → Bool
 | [] => true
 | a :: r => !(K.isPrefixOf (a :: r)) && noFit K r
theorem isPre {K l : List Nat} (h : ∀ (j : Nat) (a : Nat), K[j]? = some a → l[j]? = some a) : K.isPrefixOf l = true := by
 induction K generalizing l with
 | nil => cases l <;> rfl
 | cons a K ih =>
  have h0 := h 0 a rfl
  cases l with
  | nil => cases h0
  | cons b l =>
   obtain rfl : b = a := by simpa using h0
   rw [List.isPrefixOf, ih (fun j x hj => by simpa using h (j + 1) x (by simpa using hj))]
   simp
theorem noFit_at {K l : List Nat} (h : noFit K l = true) (hK : K ≠ []) : ∀ o : Nat, ¬ ∀ (j : Nat) (a : Nat), K[j]? = some a → l[o + j]? = some a := by
 induction l with
 | nil =>
  intro o hp
  cases K with
  | nil => exact hK rfl
  | cons a K => cases hp 0 a rfl
 | cons b l ih =>
  rw [noFit, Bool.and_eq_true] at h
  intro o hp
  cases o with
  | zero =>
   have := isPre (fun j a hj => by have := hp j a hj; rwa [Nat.zero_add] at this)
   rw [this] at h
   cases h.1
  | succ o =>
   refine ih h.2 o fun j a hj => ?_
   have := hp j a hj
   rw [show o + 1 + j = o + j + 1 by omega] at this
   simpa using this
def Box (W : World) (D : Nat) (ks : List Nat) : Prop := ∃ t us, Blk W D t us ∧ us.map kd = ks
def Off {α : Type} (ρ : Shape α) (ks : List Nat) : Prop := ∀ (W W' : World) (D : Nat) (v : Value) (xs : List α), Box W D ks → W.grownBy W' (some D) → SeqAt ρ W v xs → SeqAt ρ W' v xs
theorem Off.of {α : Type} {ρ : Shape α} {ks : List Nat} (K : List Nat) (hK : ∀ w cs x, ρ.R w cs x → cs.map kd = K) (hK0 : K ≠ []) (hf : noFit K ks = true) (hR : ∀ W W' D cs x, Box W D ks → W.grownBy W' (some D) → ρ.R W cs x → ρ.R W' cs x) : Off ρ ks := by
 intro W W' D v xs hB hg ⟨A, c, e, h1, h2, h3⟩
 refine ⟨A, c, e, h1, h2, fun i x hx => ?_⟩
 obtain ⟨b, o, cs, rfl, hr, h4⟩ := h3 i x hx
 refine ⟨b, o, cs, rfl, hR W W' D cs x hB hg hr, fun j u hu => ?_⟩
 have hc := h4 j u hu
 by_cases hb : b = D
 ·exfalso
  subst hb
  obtain ⟨t, us, hU, rfl⟩ := hB
  refine noFit_at hf hK0 (o + i * ρ.n) fun j' a ha => ?_
  rw [← hK _ _ _ hr, List.getElem?_map] at ha
  obtain ⟨u', hu', rfl⟩ := Option.map_eq_some_iff.1 ha
  have hc' := h4 j' u' hu'
  rw [List.getElem?_map]
  unfold Blk at hU
  have : us[o + i * ρ.n + j']? = some u' := by simpa [World.cell?, hU] using hc'
  rw [this]
  rfl
 ·exact (World.cell?_of_block (hg.block b (cell_lt hc) (fun e => hb (Option.some.inj e)))).trans hc
theorem Off.flat {α : Type} {ρ : Shape α} {ks : List Nat} (hF : Flat ρ) (K : List Nat) (hK : ∀ w cs x, ρ.R w cs x → cs.map kd = K) (hK0 : K ≠ []) (hf : noFit K ks = true) : Off ρ ks :=
 Off.of K hK hK0 hf fun _ _ _ _ _ _ _ h => hF _ _ _ _ h
theorem flatA : Flat atrS := fun _ _ _ _ h => h
theorem SeqAt.kd {α : Type} {ρ : Shape α} {W : World} {v : Value} {xs : List α} (h : SeqAt ρ W v xs) : kd v = 4 := by
 obtain ⟨A, c, rfl, _⟩ := h
 rfl
theorem off_atr {ks : List Nat} (hf : noFit [3, 3] ks = true) : Off atrS ks := Off.flat flatA [3, 3] (fun _ _ _ h => by rw [h]; rfl) (by decide) hf
theorem off_ext {ks : List Nat} (hf : noFit [1, 1, 1] ks = true) : Off extS ks := Off.flat flatX [1, 1, 1] (fun _ _ _ h => by rw [h]; rfl) (by decide) hf
theorem off_hol {ks : List Nat} (hf : noFit [3, 1] ks = true) : Off holS ks := Off.flat flatH [3, 1] (fun _ _ _ h => by rw [h]; rfl) (by decide) hf
theorem off_ent {ks : List Nat} (hf : noFit [1, 3, 4, 3, 1, 3, 4] ks = true) (hx : noFit [1, 1, 1] ks = true) (ha : noFit [3, 3] ks = true) : Off entS ks := by
 refine Off.of [1, 3, 4, 3, 1, 3, 4] ?_ (by decide) hf ?_
 ·rintro w cs x ⟨va, vx, rfl, h1, h2⟩
  simp only [List.map_cons, List.map_nil, h1.kd, h2.kd]
  rfl
 ·rintro W W' D cs x hB hg ⟨va, vx, rfl, h1, h2⟩
  exact ⟨va, vx, rfl, off_atr ha W W' D _ _ hB hg h1, off_ext hx W W' D _ _ hB hg h2⟩
theorem grown_set (W : World) (D i : Nat) (u : Value) : W.grownBy (W.setCell ⟨D, i, none⟩ u) (some D) :=
 ⟨rfl, rfl, rfl, by simp [World.setCell], fun k _ hk => Below.heap_setCell W ⟨D, i, none⟩ u k (fun e => hk (by rw [e]))⟩
end
end Go.Proofs.YtbccghbngaiceaaGreatDoor
