/-
  PLAIN: what a valid frame is encoded as.
-/
import Derived.Test.YtjennpcadjdnlaaGreatDoorFrN
namespace Go.Proofs.YtjennpcadjdnlaaGreatDoor
open Go.RowKit

/-- What a valid frame is encoded as. -/
theorem valid_parts {k r s i l d p a : Int} {t : ByteArray} (h : frE k r s i l d p t = 0) (ha : 0 ≤ a ∧ a < 4294967296) :
    ∃ (m : List Nat), Bytes m ∧ m.length = 44 ∧ marR k r s i l d p a t = .tuple #[.string (strB m), .int .i64 0] ∧ unmR (strB m) = .tuple #[frV k r s i l d p a t, .int .i64 0] ∧
      fencR k r s i l d p a t = .tuple #[.string (markS ++ strB (bodyL m)), .int .i64 0] ∧ decR (strB (bodyL m)) = .tuple #[frV k r s i l d p a t, zeroQ, .int .i64 0] ∧ unmC (strB m) = 0 ∧ unmF (strB m) = frV k r s i l d p a t := by
  obtain ⟨h1, h2, h3, h4, h5, h6, h7, h8⟩ := frE_ok h
  obtain ⟨k, rfl⟩ : ∃ n : Nat, k = n := ⟨k.toNat, by omega⟩
  obtain ⟨r, rfl⟩ : ∃ n : Nat, r = n := ⟨r.toNat, by omega⟩
  obtain ⟨s, rfl⟩ : ∃ n : Nat, s = n := ⟨s.toNat, by omega⟩
  obtain ⟨i, rfl⟩ : ∃ n : Nat, i = n := ⟨i.toNat, by omega⟩
  obtain ⟨l, rfl⟩ : ∃ n : Nat, l = n := ⟨l.toNat, by omega⟩
  obtain ⟨d, rfl⟩ : ∃ n : Nat, d = n := ⟨d.toNat, by omega⟩
  obtain ⟨p, rfl⟩ : ∃ n : Nat, p = n := ⟨p.toNat, by omega⟩
  obtain ⟨a, rfl⟩ : ∃ n : Nat, a = n := ⟨a.toNat, by omega⟩
  obtain ⟨_, _, _, hb, hl, _, _⟩ := mar_ok h (a := a) (by omega)
  obtain ⟨hc, hf⟩ := unm_mar h (a := a) (by omega)
  refine ⟨marL k r s i l d p a t, hb, hl, ?_, ?_, ?_, ?_, hc, hf⟩
  · unfold marR; rw [h, if_neg (by simp)]; simp
  · rw [unmR_eq, hc, if_pos rfl, hf]
  · unfold fencR; rw [h, if_neg (by simp)]; simp
  · rw [dec_body hb hl hc, hf]
theorem mark_size : markS.size = 16 := by decide
theorem mark_drop (b : ByteArray) (n : Nat) (h : n = 16 + b.size) : (markS ++ b).extract 16 n = b := by
  refine bs_inj ?_
  have e : bs (markS ++ b) = bs markS ++ bs b := by
    rw [← strB_bs markS, ← strB_bs b, strB_cat, bs_strB, bs_strB (fun x hx => bs_lt _ x hx), bs_strB (fun x hx => bs_lt _ x hx)]
    intro x hx
    rcases List.mem_append.1 hx with hx | hx
    · exact bs_lt _ x hx
    · exact bs_lt _ x hx
  rw [bs_extract, e, List.take_of_length_le (by rw [List.length_append, bs_len, bs_len, mark_size, h]; exact Nat.le_refl _), show (16 : Nat) = (bs markS).length by rw [bs_len, mark_size], List.drop_left]


abbrev Box3 (W : World) (H : Nat) (c0 c1 c2 : Value) : Prop := W.cell? ⟨H, 0, none⟩ = some c0 ∧ W.cell? ⟨H, 1, none⟩ = some c1 ∧ W.cell? ⟨H, 2, none⟩ = some c2
theorem Box3.keep {A B : World} {H : Nat} {c0 c1 c2 : Value} (h : Box3 A H c0 c1 c2) (hb : Below A.heap.size A B) : Box3 B H c0 c1 c2 := by
  obtain ⟨h0, h1, h2⟩ := h
  exact ⟨cell_below hb h0, cell_below hb h1, cell_below hb h2⟩
/-- A decoded frame and its quality, laid. -/
def FQ (V : World) (g : Nat) (k r s i l d p a : Int) (t : ByteArray) (x y z : Int) : Prop :=
  Box9 V g (.int .i64 k) (.int .i64 r) (.int .i64 s) (.int .i64 i) (.int .i64 l) (.int .i64 d) (.int .i64 p) (.int .u32 a) (.string t) ∧ Box3 V (g + 1) (.int .i64 x) (.int .i64 y) (.int .i64 z)
theorem FQ.keep {A B : World} {g : Nat} {k r s i l d p a : Int} {t : ByteArray} {x y z : Int} (h : FQ A g k r s i l d p a t x y z) (hb : Below A.heap.size A B) : FQ B g k r s i l d p a t x y z :=
  ⟨h.1.keep hb, h.2.keep hb⟩
theorem decd_new (W : World) (k r s i l d p a : Int) (t : ByteArray) (x y z : Int) :
    Below W.heap.size W ((W.alloc (.cells #[.int .i64 k, .int .i64 r, .int .i64 s, .int .i64 i, .int .i64 l, .int .i64 d, .int .i64 p, .int .u32 a, .string t] 26)).alloc (.cells #[.int .i64 x, .int .i64 y, .int .i64 z] 35)) ∧
      FQ ((W.alloc (.cells #[.int .i64 k, .int .i64 r, .int .i64 s, .int .i64 i, .int .i64 l, .int .i64 d, .int .i64 p, .int .u32 a, .string t] 26)).alloc (.cells #[.int .i64 x, .int .i64 y, .int .i64 z] 35)) W.heap.size k r s i l d p a t x y z := by
  refine ⟨((Below.refl _ _).alloc (Nat.le_refl _) _).alloc (by simp) _, ?_, ?_⟩
  · exact (Box9.blk (Blk.new W 26 [.int .i64 k, .int .i64 r, .int .i64 s, .int .i64 i, .int .i64 l, .int .i64 d, .int .i64 p, .int .u32 a, .string t])).keep ((Below.refl _ _).alloc (Nat.le_refl _) _)
  · have hq := Blk.new (W.alloc (.cells #[.int .i64 k, .int .i64 r, .int .i64 s, .int .i64 i, .int .i64 l, .int .i64 d, .int .i64 p, .int .u32 a, .string t] 26)) 35 [.int .i64 x, .int .i64 y, .int .i64 z]
    rw [show (W.alloc (.cells #[.int .i64 k, .int .i64 r, .int .i64 s, .int .i64 i, .int .i64 l, .int .i64 d, .int .i64 p, .int .u32 a, .string t] 26)).heap.size = W.heap.size + 1 by simp] at hq
    exact ⟨hq.cell (i := 0) rfl, hq.cell (i := 1) rfl, hq.cell (i := 2) rfl⟩


end Go.Proofs.YtjennpcadjdnlaaGreatDoor
