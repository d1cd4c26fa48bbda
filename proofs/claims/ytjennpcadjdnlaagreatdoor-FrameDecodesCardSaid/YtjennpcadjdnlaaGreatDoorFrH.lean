/-
  WALKS: steleref13.header, Make.
-/
import Derived.Test.YtjennpcadjdnlaaGreatDoorFrE
import Derived.Lib.BufferWrite
namespace Go.Proofs.YtjennpcadjdnlaaGreatDoor
open Go.RowKit

def hdrL (k r s i l d p a : Nat) : List Nat := [k, r, s / 256, s % 256, i / 256, i % 256, l, 16 * d + p, a / 16777216, a / 65536 % 256, a / 256 % 256, a % 256]
theorem hdr_msg (k r s i l d p a : Nat) (t : ByteArray) (hk : k < 256) (hr : r < 256) (hs : s < 256) (hi : i < 65536) (hl : l < 256) (hd : 16 * d + p < 256) (ha : a < 4294967296) :
    hdrL k r s i l d p a ++ bs t = msgL k r s i l d p a t := by
  have e1 : ∀ n, n < 256 → numL n 1 = [n] := fun n hn => by simp [numL]; omega
  have e2 : ∀ n, n < 65536 → numL n 2 = [n / 256, n % 256] := fun n hn => by simp [numL]; omega
  have e4 : numL a 4 = [a / 16777216, a / 65536 % 256, a / 256 % 256, a % 256] := by simp [numL]; omega
  unfold msgL hdrL
  rw [e1 k hk, e1 r hr, e2 s (by omega), e2 i hi, e1 l hl, e1 _ hd, e4]
  simp
theorem hdr_bytes (k r s i l d p a : Nat) (hk : k < 256) (hr : r < 256) (hs : s < 256) (hi : i < 65536) (hl : l < 256) (hd : 16 * d + p < 256) (ha : a < 4294967296) : Bytes (hdrL k r s i l d p a) := by
  intro x hx
  unfold hdrL at hx
  simp only [List.mem_cons, List.not_mem_nil, or_false] at hx
  omega

set_option maxRecDepth 100000 in
set_option maxHeartbeats 8000000 in
theorem rheader_any (w : World) (k r s i l d p a : Nat) (t : ByteArray) (hk : k < 256) (hr : r < 256) (hs : s < 256) (hi : i < 65536) (hl : l < 256) (hd : 16 * d + p < 256) (ha : a < 4294967296) :
    Calls Tryz.prog 118 #[frV k r s i l d p a t] w fun e w' => e = .returned (.string (strB (hdrL k r s i l d p a))) ∧ Below w.heap.size w w' := by
  have HL : ∀ W : World, (convert 28 9 (.slice (some ⟨W.heap.size, 0, none⟩) 12 12)).run Tryz.prog (W.alloc (.cells (arrB (hdrL k r s i l d p a)) 5)) = .ok (.string (strB (hdrL k r s i l d p a))) (W.alloc (.cells (arrB (hdrL k r s i l d p a)) 5)) := fun W =>
    run_toStr ((U8B.new W (hdrL k r s i l d p a)).bytes (n := 12) (c := 12) rfl (Nat.le_refl _) (by omega)) rfl
  have e : arrB (hdrL k r s i l d p a) = #[.int .u8 (k : Int), .int .u8 (r : Int), .int .u8 ((s : Int) / 256), .int .u8 ((s : Int) % 256), .int .u8 ((i : Int) / 256), .int .u8 ((i : Int) % 256), .int .u8 (l : Int), .int .u8 (16 * (d : Int) + p),
    .int .u8 ((a : Int) / 16777216), .int .u8 ((a : Int) / 65536 % 256), .int .u8 ((a : Int) / 256 % 256), .int .u8 ((a : Int) % 256)] := rfl
  rw [e] at HL
  have HL2 := HL (w.alloc (.cells #[.int .i64 k, .int .i64 r, .int .i64 s, .int .i64 i, .int .i64 l, .int .i64 d, .int .i64 p, .int .u32 a, .string t] 26))
  rw [show (w.alloc (.cells #[.int .i64 k, .int .i64 r, .int .i64 s, .int .i64 i, .int .i64 l, .int .i64 d, .int .i64 p, .int .u32 a, .string t] 26)).heap.size = w.heap.size + 1 by simp] at HL2
  clear HL e
  have mk : (k : Int) % 256 = k := by omega
  have mr : (r : Int) % 256 = r := by omega
  have ml : (l : Int) % 256 = l := by omega
  have md : IntKind.i64.wrap (16 * (d : Int)) = 16 * d := by rw [IntKind.wrap_i64]; omega
  have mp : IntKind.i64.wrap (16 * (d : Int) + p) = 16 * d + p := by rw [IntKind.wrap_i64]; omega
  have mq : (16 * (d : Int) + p) % 256 = 16 * d + p := by omega
  have q1 : wrap64 ((s : Int) / 256) = s / 256 := by
    unfold wrap64
    omega
  have q2 : (s : Int) / 256 % 256 = s / 256 := by omega
  have q3 : wrap64 ((i : Int) / 256) = i / 256 := by unfold wrap64; omega
  have q4 : (i : Int) / 256 % 256 = i / 256 := by omega
  have q5 : (a : Int) / 16777216 % 4294967296 = a / 16777216 := by omega
  have q6 : (a : Int) / 16777216 % 256 = a / 16777216 := by omega
  have q7 : (a : Int) / 65536 % 4294967296 = a / 65536 := by omega
  have q8 : (a : Int) / 256 % 4294967296 = a / 256 := by omega
  clear hk hr hs hi hl hd ha
  unfold frV
  go_enter Tryz.func118, Tryz.ntmps118
  go_wp2
  go_ret
  exact ⟨rfl, ((Below.refl _ _).alloc (Nat.le_refl _) _).alloc (by simp) _⟩

def zeros28 : ByteArray := strB (List.replicate 28 0)
set_option maxRecDepth 100000 in
set_option maxHeartbeats 4000000 in
theorem rmake_any (w : World) : Calls Tryz.prog 31 #[.int .i64 0, .int .i64 1, .int .i64 0, .agg #[.int .i64 1, .int .i64 0], .int .u32 0, .string ⟨#[]⟩] w fun e w' => e = .returned (frV 66 0 1 0 0 1 0 0 zeros28) ∧ Below w.heap.size w w' := by
  have hmk : ∀ W : World, (Instr.makeSlice 28 (.int .i64 28) (.int .i64 28)).run Tryz.prog W = .ok (.slice (some ⟨W.heap.size, 0, none⟩) 28 28) (W.alloc (.cells (arrB (List.replicate 28 0)) 5)) := make_u8 28 28 (Nat.le_refl _) (by omega)
  rw [show List.replicate 28 0 = [0, 0, 0, 0, 0, 0, 0, 0, 0, 0, 0, 0, 0, 0, 0, 0, 0, 0, 0, 0, 0, 0, 0, 0, 0, 0, 0, 0] from rfl] at hmk
  have hB := ((Below.refl w.heap.size w).alloc (Nat.le_refl _) (.cells #[.int .i64 1, .int .i64 0] 23)).alloc (by simp) (.cells #[.int .i64 0, .int .i64 0, .int .i64 0, .int .i64 0, .int .i64 0, .int .i64 0, .int .i64 0, .int .u32 0, .string ⟨#[]⟩] 26)
  have hs := hB.size
  have hU : Blk ((w.alloc (.cells #[.int .i64 1, .int .i64 0] 23)).alloc (.cells #[.int .i64 0, .int .i64 0, .int .i64 0, .int .i64 0, .int .i64 0, .int .i64 0, .int .i64 0, .int .u32 0, .string ⟨#[]⟩] 26)) (w.heap.size + 1) 26 zeroL := by
    have h := Blk.new (w.alloc (.cells #[.int .i64 1, .int .i64 0] 23)) 26 [.int .i64 0, .int .i64 0, .int .i64 0, .int .i64 0, .int .i64 0, .int .i64 0, .int .i64 0, .int .u32 0, .string ⟨#[]⟩]
    rw [show (w.alloc (.cells #[.int .i64 1, .int .i64 0] 23)).heap.size = w.heap.size + 1 by simp] at h
    exact h
  have hL : (w.alloc (.cells #[.int .i64 1, .int .i64 0] 23)).cell? ⟨w.heap.size, 0, none⟩ = some (.int .i64 1) ∧ (w.alloc (.cells #[.int .i64 1, .int .i64 0] 23)).cell? ⟨w.heap.size, 1, none⟩ = some (.int .i64 0) := by
    have h := Blk.new w 23 [.int .i64 1, .int .i64 0]
    exact ⟨h.cell (i := 0) rfl, h.cell (i := 1) rfl⟩
  have hL0 := cell_below ((Below.refl _ _).alloc (Nat.le_refl _) (.cells #[.int .i64 0, .int .i64 0, .int .i64 0, .int .i64 0, .int .i64 0, .int .i64 0, .int .i64 0, .int .u32 0, .string ⟨#[]⟩] 26)) hL.1
  have hL1 := cell_below ((Below.refl _ _).alloc (Nat.le_refl _) (.cells #[.int .i64 0, .int .i64 0, .int .i64 0, .int .i64 0, .int .i64 0, .int .i64 0, .int .i64 0, .int .u32 0, .string ⟨#[]⟩] 26)) hL.2
  have hE1 : ∀ W : World, (Builtin.copy_ #[28, 9] 3 #[.slice (some ⟨W.heap.size, 0, none⟩) 28 28, .string ⟨#[]⟩]).run Tryz.prog (W.alloc (.cells (arrB [0, 0, 0, 0, 0, 0, 0, 0, 0, 0, 0, 0, 0, 0, 0, 0, 0, 0, 0, 0, 0, 0, 0, 0, 0, 0, 0, 0]) 5)) =
      .ok (.int .i64 0) (W.alloc (.cells (arrB [0, 0, 0, 0, 0, 0, 0, 0, 0, 0, 0, 0, 0, 0, 0, 0, 0, 0, 0, 0, 0, 0, 0, 0, 0, 0, 0, 0]) 5)) := fun W => Lib.run_copy_empty_string _ _ _ _ _ _ _ _ _ Tryz.underlying28 (by kernel_rfl) rfl
  have hE2 : ∀ W : World, (convert 28 9 (.slice (some ⟨W.heap.size, 0, none⟩) 28 28)).run Tryz.prog (W.alloc (.cells (arrB [0, 0, 0, 0, 0, 0, 0, 0, 0, 0, 0, 0, 0, 0, 0, 0, 0, 0, 0, 0, 0, 0, 0, 0, 0, 0, 0, 0]) 5)) =
      .ok (.string zeros28) (W.alloc (.cells (arrB [0, 0, 0, 0, 0, 0, 0, 0, 0, 0, 0, 0, 0, 0, 0, 0, 0, 0, 0, 0, 0, 0, 0, 0, 0, 0, 0, 0]) 5)) := fun W =>
    run_toStr ((U8B.new W [0, 0, 0, 0, 0, 0, 0, 0, 0, 0, 0, 0, 0, 0, 0, 0, 0, 0, 0, 0, 0, 0, 0, 0, 0, 0, 0, 0]).bytes (n := 28) (c := 28) rfl (Nat.le_refl _) (by omega)) rfl
  have HB := Lib.hid hB
  have HU := Lib.hid hU
  clear hB hU hL
  go_enter Tryz.func31, Tryz.ntmps31
  go_upto_region 1 with fail
  generalize (w.alloc (.cells #[.int .i64 1, .int .i64 0] 23)).alloc (.cells #[.int .i64 0, .int .i64 0, .int .i64 0, .int .i64 0, .int .i64 0, .int .i64 0, .int .i64 0, .int .u32 0, .string ⟨#[]⟩] 26) = wz at *
  have hA : Below wz.heap.size wz (wz.alloc (.cells (arrB [0, 0, 0, 0, 0, 0, 0, 0, 0, 0, 0, 0, 0, 0, 0, 0, 0, 0, 0, 0, 0, 0, 0, 0, 0, 0, 0, 0]) 5)) := (Below.refl _ _).alloc (Nat.le_refl _) _
  have hL2 := cell_below hA hL0
  have hL3 := cell_below hA hL1
  have hU2 := HU.out.kept hA
  have hB2 := HB.out.trans (hA.mono hs)
  have HT := Lib.hid hU2.there
  have HF := Lib.hid (setCells_blk [.int .i64 66, .int .i64 0, .int .i64 1, .int .i64 0, .int .i64 0, .int .i64 1, .int .i64 0, .int .u32 0, .string zeros28] [] zeroL _ hU2 rfl)
  have HG := Lib.hid (setCells_below hB2 (by omega : w.heap.size ≤ w.heap.size + 1) [.int .i64 66, .int .i64 0, .int .i64 1, .int .i64 0, .int .i64 0, .int .i64 1, .int .i64 0, .int .u32 0, .string zeros28] 0)
  obtain ⟨W1, hE⟩ : ∃ W1, (wz.alloc (.cells (arrB [0, 0, 0, 0, 0, 0, 0, 0, 0, 0, 0, 0, 0, 0, 0, 0, 0, 0, 0, 0, 0, 0, 0, 0, 0, 0, 0, 0]) 5)).setCells (w.heap.size + 1) 0 [.int .i64 66, .int .i64 0, .int .i64 1, .int .i64 0, .int .i64 0, .int .i64 1, .int .i64 0, .int .u32 0, .string zeros28] = W1 := ⟨_, rfl⟩
  have HE := Lib.hid hE
  have HO : Hid ((#[.int .i64 66, .int .i64 0, .int .i64 1, .int .i64 0, .int .i64 0, .int .i64 1, .int .i64 0, .int .u32 0, .string zeros28] : Array Value).all (·.oneCell') = true) := Lib.hid (by simp [Value.oneCell'])
  rw [hE] at HG
  have HF2 : Hid (Blk W1 (w.heap.size + 1) 26 _) := Lib.hid (hE ▸ HF.out)
  clear hA hU2 hB2 hE HF HU HB hL0 hL1
  go_wp2_with (refine frm_store rfl (.tmp 12) (.tmp 32) rfl _ _ rfl rfl HT.out rfl HO.out W1 HE.out ?_)
  have hF := HF2.out
  have c0 := hF.cell (i := 0) rfl
  have c1 := hF.cell (i := 1) rfl
  have c2 := hF.cell (i := 2) rfl
  have c3 := hF.cell (i := 3) rfl
  have c4 := hF.cell (i := 4) rfl
  have c5 := hF.cell (i := 5) rfl
  have c6 := hF.cell (i := 6) rfl
  have c7 := hF.cell (i := 7) rfl
  have c8 := hF.cell (i := 8) rfl
  exact bodyPost_ret (v := frV 66 0 1 0 0 1 0 0 zeros28) (by simp [results, Tryz.results31, go_sem, frV, c0, c1, c2, c3, c4, c5, c6, c7, c8]) rfl ⟨rfl, HG.out⟩

end Go.Proofs.YtjennpcadjdnlaaGreatDoor
