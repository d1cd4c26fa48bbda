/-
  append of zeros that 'make' would lay ('append(b, make([]byte, 8)...)') to a slice of a string's bytes.
-/
import Derived.Test.YtbeooijgkbkniaaGreatDoorRfC
import Derived.Laws.IdiomCopy
namespace Go.Proofs.YtbeooijgkbkniaaGreatDoor
open Go.RowKit

/-- []byte(s), its room told too. -/
theorem run_toBytesX (W : World) (s : ByteArray) (hs : s.size ≤ 1000000) :
    ∃ c w1, (convert 9 37 (.string s)).run Tryz.prog W = .ok (.slice (some ⟨W.heap.size, 0, none⟩) s.size c) w1 ∧ s.size ≤ c ∧ c ≤ 9223372036854775807 ∧ RowB w1 W.heap.size (bs s) ∧ Below W.heap.size W w1 ∧
      ∀ i, s.size ≤ i → i < c → w1.cell? ⟨W.heap.size, i, none⟩ = some (.int .u8 0) ∧ w1.frozen? ⟨W.heap.size, i, none⟩ = false := by
  have hr := run_bytes_of_string (P := Tryz.prog) W 9 37 5 s Tryz.underlying9 Tryz.underlying37 Tryz.underlying5
  obtain ⟨c0, w0, hr0, h1, h2, h3, h4, _⟩ := run_toBytes W s hs
  rw [hr] at hr0
  injection hr0 with e1 e2
  injection e1 with _ _ e3
  subst e2
  refine ⟨_, _, hr, by rw [e3]; exact h1, by rw [e3]; exact h2, h3, h4, fun i hi hc => ?_⟩
  generalize grownCap W s.size 0 5 = c at *
  have hh : (W.drew.alloc (.cells (bytesRow s c) 5 ((bytesRow s c).size, (bytesRow s c).size + 1))).heap[W.heap.size]? = some (.cells (bytesRow s c) 5 ((bytesRow s c).size, (bytesRow s c).size + 1)) := by
    show (W.heap.push _)[W.heap.size]? = _
    simp
  have hsz : (bytesRow s c).size = c := by unfold bytesRow; simp; omega
  refine ⟨?_, ?_⟩
  · simp only [World.cell?, hh]
    unfold bytesRow
    have hz : (s.data.map (fun b => Value.int .u8 (b.toNat : Int))).size = s.size := by simp
    rw [Array.getElem?_append_right (by rw [hz]; exact hi), hz, Array.getElem?_replicate]
    exact if_pos (Nat.sub_lt_sub_right hi hc)
  · simp only [World.frozen?, hh]
    simp
    omega
theorem setCells_low {w W : World} {H g : Nat} (h : Below H w W) (hg : H ≤ g) : ∀ (vs : List Value) (o : Nat), Below H w (W.setCells g o vs) := by
  intro vs
  induction vs generalizing W with
  | nil => intro o; exact h
  | cons v r ih =>
    intro o
    rw [World.setCells]
    exact ih (h.setCell (p := ⟨g, o, none⟩) hg v) (o + 1)
theorem setCells_size (g : Nat) : ∀ (vs : List Value) (o : Nat) (W : World), (W.setCells g o vs).heap.size = W.heap.size
  | [], _, _ => rfl
  | v :: r, o, W => by
    rw [World.setCells, setCells_size g r]
    simp
theorem zero8_cells : ∀ (n : Nat), Builtin.zeroCells (Value.int .u8 0).cells n = (List.replicate n (Value.int .u8 0)).toArray := by
  intro n
  unfold Builtin.zeroCells
  refine Array.ext (by simp [Value.cells]) fun i h1 h2 => ?_
  simp [Value.cells, Nat.mod_one]
theorem cellsZ (xs : List Nat) (j x : Nat) (C : Array Value) (hj : (xs ++ List.replicate 8 0)[j]? = some x) : ((xs.map u8V).toArray ++ (List.replicate 8 (Value.int .u8 0)).toArray ++ C)[j]? = some (u8V x) := by
  have e : (xs.map u8V).toArray ++ (List.replicate 8 (Value.int .u8 0)).toArray = ((xs ++ List.replicate 8 0).map u8V).toArray := by
    rw [List.append_toArray, List.map_append, List.map_replicate]
    rfl
  have hl := (List.getElem?_eq_some_iff.1 hj).1
  rw [e, Array.getElem?_append_left (by rw [List.size_toArray, List.length_map]; exact hl), List.getElem?_toArray, List.getElem?_map, hj]
  rfl
/-- append of eight zeros. -/
theorem run_appZ {W : World} {B g n c : Nat} {xs : List Nat} (ty : TypeId) (hrow : RowB W g xs) (hn : xs.length = n) (hn9 : n ≤ 1000) (hc : n ≤ c) (hc2 : c ≤ 9223372036854775807)
    (hfree : ∀ i, n ≤ i → i < c → W.cell? ⟨g, i, none⟩ = some (.int .u8 0) ∧ W.frozen? ⟨g, i, none⟩ = false) (hB : B ≤ g) (hB2 : B ≤ W.heap.size) :
    ∃ g' c' w', (Builtin.append_ #[37, 3] ty #[.slice (some ⟨g, 0, none⟩) n c, .int .i64 8]).run Tryz.prog W = .ok (.slice (some ⟨g', 0, none⟩) (n + 8) c') w' ∧
      RowB w' g' (xs ++ List.replicate 8 0) ∧ n + 8 ≤ c' ∧ c' ≤ 9223372036854775807 ∧ B ≤ g' ∧ Below B W w' := by
  obtain ⟨i, hi, hz0, hz1, hz2⟩ := info_parts Tryz.infoU8
  have hw8 : IntKind.i64.wrap 8 = 8 := by decide
  by_cases hroom : n + 8 ≤ c
  · have hst := run_storeCells_cells (P := Tryz.prog) g n (List.replicate 8 (Value.int .u8 0)) 0 W (fun j hj => by
      rw [List.length_replicate] at hj
      rw [(hfree (n + 0 + j) (by omega) (by omega)).1]
      rfl) (fun j hj => by
      rw [List.length_replicate] at hj
      exact (hfree (n + 0 + j) (by omega) (by omega)).2) (fun v hv => by rw [List.eq_of_mem_replicate hv]; rfl)
    refine ⟨g, c, W.setCells g (n + 0) (List.replicate 8 (Value.int .u8 0)), ?_, ?_, hroom, hc2, hB, setCells_low (Below.refl B W) hB _ _⟩
    · have hadd : (⟨g, 0, none⟩ : Addr).add (n * 1) = ⟨g, n, none⟩ := by rw [Nat.mul_one, Addr.add_lit, Nat.zero_add]
      simp [Builtin.append_, run_underlying Tryz.underlying37, run_underlying Tryz.underlying3, sizeOf, typeInfo, zeroValue, hi, hz0, hz1, hz2, hw8, asInt, asIntOf, hroom, zero8_cells, Addr.add_lit, Nat.zero_add] at hst ⊢
      rw [hst]
      rfl
    · refine ⟨by rw [setCells_size]; exact hrow.lt, fun j x hj => ?_, fun j hj => ?_⟩
      · by_cases hjn : j < n
        · rw [World.cell?_setCells_out _ _ _ _ _ (fun _ _ => .inl (by show j < n + 0; omega))]
          rw [List.getElem?_append_left (by omega)] at hj
          exact hrow.cell j x hj
        · rw [List.getElem?_append_right (by omega), List.getElem?_replicate] at hj
          split at hj
          · cases hj
            have h1 := World.cell?_setCells_in g (List.replicate 8 (Value.int .u8 0)) (n + 0) W (fun k hk => by
              rw [List.length_replicate] at hk
              rw [(hfree (n + 0 + k) (by omega) (by omega)).1]
              rfl) (j - n) (by rw [List.length_replicate]; omega)
            rw [show n + 0 + (j - n) = j by omega] at h1
            rw [h1, List.getElem_replicate]
            rfl
          · cases hj
      · rw [World.frozen?_setCells]
        rw [List.length_append, List.length_replicate] at hj
        by_cases hjn : j < n
        · exact hrow.free j (by omega)
        · exact (hfree j (by omega) (by omega)).2
  · have hold : ∀ j v, (xs.map u8V)[j]? = some v → W.cell? ((⟨g, 0, none⟩ : Addr).add j) = some v := fun j v hv => by
      rw [List.getElem?_map] at hv
      obtain ⟨x, hx, rfl⟩ := Option.map_eq_some_iff.1 hv
      rw [Addr.add_lit, Nat.zero_add]
      exact hrow.cell j x hx
    have hfo := run_firstCells_some (P := Tryz.prog) W.drew 1 n ⟨g, 0, none⟩ n c (xs.map u8V) (by simpa using hn) (by simpa using hold)
    have hge := grownCap_ge W (n + 8) c 5
    have hle := grownCap_le_maxLen W (n + 8) c 5 (by unfold maxLen; omega)
    have h48 : ¬ (281474976710656 < Builtin.nextslicecap (n + 8) c) := by
      have := nextslicecap_le (need := n + 8) (old := c) (by omega)
      omega
    refine ⟨W.heap.size, grownCap W (n + 8) c 5, W.drew.alloc (.cells ((xs.map u8V).toArray ++ (List.replicate 8 (Value.int .u8 0)).toArray ++ (List.replicate (grownCap W (n + 8) c 5 - (n + 8)) (Value.int .u8 0)).toArray) 5), ?_, ?_, hge, hle, hB2, (Below.refl B W).drew.alloc hB2 _⟩
    · have h63 : ¬ (9223372036854775807 < (n : Int) + 8) := by omega
      simp [Builtin.append_, run_underlying Tryz.underlying37, run_underlying Tryz.underlying3, sizeOf, typeInfo, zeroValue, hi, hz0, hz1, hz2, hw8, asInt, asIntOf, hroom, zero8_cells, Question.forced, newRow, grownCap, hfo, h48]
      rw [if_neg (by omega), ← Array.append_assoc]
      simp only [List.append_toArray]
    · have hh : ∀ C : Array Value, (W.drew.alloc (.cells C 5)).heap[W.heap.size]? = some (.cells C 5 (0, 0)) := fun C => by
        show (W.heap.push _)[W.heap.size]? = _
        simp
      refine ⟨by simp, fun j x hj => ?_, fun j hj => ?_⟩
      · simp only [World.cell?]
        rw [hh]
        exact cellsZ xs j x _ hj
      · simp only [World.frozen?, hh]
        simp

end Go.Proofs.YtbeooijgkbkniaaGreatDoor
