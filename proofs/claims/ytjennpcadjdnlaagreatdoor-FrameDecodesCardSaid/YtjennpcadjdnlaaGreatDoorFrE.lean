/-
  WALK: frame.Marshal.
-/
import Derived.Test.YtjennpcadjdnlaaGreatDoorDecA
namespace Go.Proofs.YtjennpcadjdnlaaGreatDoor
open Go.RowKit

/-- A block of nine cells that is read. -/
abbrev Box9 (W : World) (H : Nat) (c0 c1 c2 c3 c4 c5 c6 c7 c8 : Value) : Prop := W.cell? ⟨H, 0, none⟩ = some c0 ∧ W.cell? ⟨H, 1, none⟩ = some c1 ∧ W.cell? ⟨H, 2, none⟩ = some c2 ∧ W.cell? ⟨H, 3, none⟩ = some c3 ∧ W.cell? ⟨H, 4, none⟩ = some c4 ∧ W.cell? ⟨H, 5, none⟩ = some c5 ∧ W.cell? ⟨H, 6, none⟩ = some c6 ∧ W.cell? ⟨H, 7, none⟩ = some c7 ∧ W.cell? ⟨H, 8, none⟩ = some c8
theorem Box9.keep {A B : World} {H : Nat} {c0 c1 c2 c3 c4 c5 c6 c7 c8 : Value} (h : Box9 A H c0 c1 c2 c3 c4 c5 c6 c7 c8) (hb : Below A.heap.size A B) : Box9 B H c0 c1 c2 c3 c4 c5 c6 c7 c8 := by
  obtain ⟨h0, h1, h2, h3, h4, h5, h6, h7, h8⟩ := h
  exact ⟨cell_below hb h0, cell_below hb h1, cell_below hb h2, cell_below hb h3, cell_below hb h4, cell_below hb h5, cell_below hb h6, cell_below hb h7, cell_below hb h8⟩
theorem Box9.drw {A : World} {H : Nat} {c0 c1 c2 c3 c4 c5 c6 c7 c8 : Value} (h : Box9 A H c0 c1 c2 c3 c4 c5 c6 c7 c8) : Box9 A.drew H c0 c1 c2 c3 c4 c5 c6 c7 c8 := h
theorem Box9.blk {W : World} {g : Nat} {t : TypeId} {c0 c1 c2 c3 c4 c5 c6 c7 c8 : Value} (h : Blk W g t [c0, c1, c2, c3, c4, c5, c6, c7, c8]) : Box9 W g c0 c1 c2 c3 c4 c5 c6 c7 c8 :=
  ⟨h.cell (i := 0) rfl, h.cell (i := 1) rfl, h.cell (i := 2) rfl, h.cell (i := 3) rfl, h.cell (i := 4) rfl, h.cell (i := 5) rfl, h.cell (i := 6) rfl, h.cell (i := 7) rfl, h.cell (i := 8) rfl⟩

/-- The message ahead of its checksum. -/
def msgL (k r s i l d p a : Nat) (t : ByteArray) : List Nat := numL k 1 ++ numL r 1 ++ numL s 2 ++ numL i 2 ++ numL l 1 ++ numL (16 * d + p) 1 ++ numL a 4 ++ bs t
def marL (k r s i l d p a : Nat) (t : ByteArray) : List Nat := msgL k r s i l d p a t ++ be4 (sumL [strB (msgL k r s i l d p a t)])
def marR (k r s i l d p a : Int) (t : ByteArray) : Value :=
  if frE k r s i l d p t ≠ 0 then .tuple #[.string ⟨#[]⟩, .int .i64 (frE k r s i l d p t)] else .tuple #[.string (strB (marL k.toNat r.toNat s.toNat i.toNat l.toNat d.toNat p.toNat a.toNat t)), .int .i64 0]
theorem frE_ok {k r s i l d p : Int} {t : ByteArray} (h : frE k r s i l d p t = 0) :
    (k = 66 ∨ k = 68) ∧ (1 ≤ d ∧ d ≤ 8) ∧ (0 ≤ p ∧ p ≤ 7) ∧ (0 ≤ r ∧ r ≤ d + p - 1) ∧ (1 ≤ s ∧ s ≤ 255) ∧ (0 ≤ i ∧ i ≤ 65535) ∧ (0 ≤ l ∧ l ≤ 28) ∧ t.size = 28 := by
  unfold frE inR at h
  split at h
  · cases h
  · split at h
    · cases h
    · split at h
      · cases h
      · split at h
        · cases h
        · next h1 h2 h3 h4 =>
          simp only [Bool.and_eq_true, Bool.or_eq_true, bne_iff_ne, ne_eq, Bool.not_eq_true', Bool.and_eq_false_imp, decide_eq_true_eq, decide_eq_false_iff_not, not_and, not_or, Decidable.not_not] at h1 h2 h3 h4
          refine ⟨by omega, by omega, by omega, by omega, by omega, by omega, by omega, by omega⟩

set_option maxRecDepth 100000 in
set_option maxHeartbeats 8000000 in
theorem fmar_any (w : World) (k r s i l d p a : Int) (t : ByteArray) (ht : t.size ≤ 1000) (ha : 0 ≤ a ∧ a < 4294967296) :
    Calls Tryz.prog 32 #[frV k r s i l d p a t] w fun e w' => e = .returned (marR k r s i l d p a t) ∧ Below w.heap.size w w' := by
  obtain ⟨R, hR⟩ : ∃ R, marR k r s i l d p a t = R := ⟨_, rfl⟩
  rw [hR]
  unfold marR at hR
  have HC := Lib.hid (fun W => fcheck_any W k r s i l d p a t ht)
  obtain ⟨E, hE⟩ : ∃ E, frE k r s i l d p t = E := ⟨_, rfl⟩
  rw [hE] at hR HC
  have HB := Lib.hid ((Below.refl w.heap.size w).alloc (Nat.le_refl _) (.cells #[.int .i64 k, .int .i64 r, .int .i64 s, .int .i64 i, .int .i64 l, .int .i64 d, .int .i64 p, .int .u32 a, .string t] 26))
  unfold frV at HC ⊢
  by_cases h0 : E = 0
  · subst h0
    obtain ⟨h1, h2, h3, h4, h5, h6, h7, h8⟩ := frE_ok hE
    obtain ⟨k, rfl⟩ : ∃ n : Nat, k = n := ⟨k.toNat, by omega⟩
    obtain ⟨r, rfl⟩ : ∃ n : Nat, r = n := ⟨r.toNat, by omega⟩
    obtain ⟨s, rfl⟩ : ∃ n : Nat, s = n := ⟨s.toNat, by omega⟩
    obtain ⟨i, rfl⟩ : ∃ n : Nat, i = n := ⟨i.toNat, by omega⟩
    obtain ⟨l, rfl⟩ : ∃ n : Nat, l = n := ⟨l.toNat, by omega⟩
    obtain ⟨d, rfl⟩ : ∃ n : Nat, d = n := ⟨d.toNat, by omega⟩
    obtain ⟨p, rfl⟩ : ∃ n : Nat, p = n := ⟨p.toNat, by omega⟩
    obtain ⟨a, rfl⟩ : ∃ n : Nat, a = n := ⟨a.toNat, by omega⟩
    have HK : Hid (k < 256) := Lib.hid (by omega)
    have HRr : Hid (r < 256) := Lib.hid (by omega)
    have HS : Hid (s < 256) := Lib.hid (by omega)
    have HI : Hid (i < 65536) := Lib.hid (by omega)
    have HL : Hid (l < 256) := Lib.hid (by omega)
    have HD : Hid (d < 9 ∧ p < 8) := Lib.hid (by omega)
    have HA : Hid (a < 4294967296) := Lib.hid (by omega)
    have HR : Hid (Value.tuple #[.string (strB (marL k r s i l d p a t)), .int .i64 0] = R) := Lib.hid (by rw [← hR, if_neg (by simp)]; simp)
    have HT : Hid (t.size = 28) := Lib.hid h8
    have hap : ∀ x y : ByteArray, (x ++ y).size = x.size + y.size := fun x y => ByteArray.size_append
    have z1 : ∀ n, (strB (numL n 1)).size = 1 := fun n => by rw [strB_size, numL_len]
    have z2 : ∀ n, (strB (numL n 2)).size = 2 := fun n => by rw [strB_size, numL_len]
    have z4 : ∀ n, (strB (numL n 4)).size = 4 := fun n => by rw [strB_size, numL_len]
    have zb : ∀ n, (strB (be4 n)).size = 4 := fun n => by rw [strB_size]; rfl
    have mk : (k : Int) % 4294967296 = k := by omega
    have mr : (r : Int) % 4294967296 = r := by omega
    have ms : (s : Int) % 4294967296 = s := by omega
    have mi : (i : Int) % 4294967296 = i := by omega
    have ml : (l : Int) % 4294967296 = l := by omega
    have md : IntKind.i64.wrap (16 * (d : Int)) = 16 * d := by rw [IntKind.wrap_i64]; omega
    have mp : IntKind.i64.wrap (16 * (d : Int) + p) = 16 * d + p := by rw [IntKind.wrap_i64]; omega
    have mq : (16 * (d : Int) + p) % 4294967296 = 16 * d + p := by omega
    have wk : IntKind.u32.wrap (k : Int) = k := by rw [IntKind.wrap_u32]; omega
    have wr : IntKind.u32.wrap (r : Int) = r := by rw [IntKind.wrap_u32]; omega
    have ws : IntKind.u32.wrap (s : Int) = s := by rw [IntKind.wrap_u32]; omega
    have wi : IntKind.u32.wrap (i : Int) = i := by rw [IntKind.wrap_u32]; omega
    have wl : IntKind.u32.wrap (l : Int) = l := by rw [IntKind.wrap_u32]; omega
    have wq : IntKind.u32.wrap (16 * (d : Int) + p) = 16 * d + p := by rw [IntKind.wrap_u32]; omega
    have HN1 : Hid (∀ (W : World) (n : Nat), n < 256 → Calls Tryz.prog 68 #[.int .u32 (n : Int), .int .i64 1] W fun e w' => e = .returned (.string (strB (numL n 1))) ∧ Below W.heap.size W w') := Lib.hid (fun W n hn => fnumber_any W n 1 (by omega) (by omega))
    have HN2 : Hid (∀ (W : World) (n : Nat), n < 65536 → Calls Tryz.prog 68 #[.int .u32 (n : Int), .int .i64 2] W fun e w' => e = .returned (.string (strB (numL n 2))) ∧ Below W.heap.size W w') := Lib.hid (fun W n hn => fnumber_any W n 2 (by omega) (by omega))
    have HN4 : Hid (∀ (W : World), Calls Tryz.prog 68 #[.int .u32 (a : Int), .int .i64 4] W fun e w' => e = .returned (.string (strB (numL a 4))) ∧ Below W.heap.size W w') := Lib.hid (fun W => fnumber_any W a 4 HA.out (by omega))
    have HN6 : Hid (∀ (W : World), Calls Tryz.prog 68 #[.int .u32 (16 * (d : Int) + p), .int .i64 1] W fun e w' => e = .returned (.string (strB (numL (16 * d + p) 1))) ∧ Below W.heap.size W w') := Lib.hid (fun W => by
      have h := fnumber_any W (16 * d + p) 1 (by omega) (by omega)
      push_cast at h
      exact h)
    have HZ := Lib.hid (Box9.blk (Blk.new w 26 [.int .i64 k, .int .i64 r, .int .i64 s, .int .i64 i, .int .i64 l, .int .i64 d, .int .i64 p, .int .u32 a, .string t]))
    change Hid (Box9 (w.alloc (.cells #[.int .i64 k, .int .i64 r, .int .i64 s, .int .i64 i, .int .i64 l, .int .i64 d, .int .i64 p, .int .u32 a, .string t] 26)) _ _ _ _ _ _ _ _ _ _) at HZ
    clear h1 h2 h3 h4 h5 h6 h7 h8 hE hR ht ha
    go_enter Tryz.func32, Tryz.ntmps32
    go_upto_region 1 with fail
    generalize w.alloc (.cells #[.int .i64 k, .int .i64 r, .int .i64 s, .int .i64 i, .int .i64 l, .int .i64 d, .int .i64 p, .int .u32 a, .string t] 26) = wz at *
    obtain ⟨c0, c1, c2, c3, c4, c5, c6, c7, c8⟩ := HZ.out
    go_upto_region 4 with (go_at_call 67; refine (HC.out _).mono ?_; rintro e wy ⟨rfl, hby⟩)
    have HZy := Lib.hid (HZ.out.keep hby)
    have HBy := Lib.hid (HB.out.trans (hby.mono HB.out.size))
    clear c0 c1 c2 c3 c4 c5 c6 c7 c8 hby HZ HB HC
    go_cut [5] (fun s5 wx => s5 = .string (strB (numL k 1 ++ numL r 1 ++ numL s 2 ++ numL i 2)) ∧ Below wy.heap.size wy wx)
    case first =>
      refine wp_region_held_drew (S := (fun w' => Box9 w' w.heap.size (.int .i64 k) (.int .i64 r) (.int .i64 s) (.int .i64 i) (.int .i64 l) (.int .i64 d) (.int .i64 p) (.int .u32 a) (.string t))) (by kernel_rfl) ?_ (fun hHeld => ?_)
      · (repeat' (first | with_reducible exact HZy.out | with_reducible refine Box9.drw ?_ | with_reducible refine Box9.keep ?_ hb3 | with_reducible refine Box9.keep ?_ hb7 | with_reducible refine Box9.keep ?_ hb12 | with_reducible refine Box9.keep ?_ hb17))
      refine wpAnyH_take (i := 0) (oi := _) (v := ?va1) rfl (by kernel_rfl) (by kernel_rfl) (by kernel_rfl) (fun _ _ _ h => h) (Or.inl ⟨by rfl, ?hya1⟩) (by assumption) ?resta1
      case hya1 => ((intro W hSw; (try dsimp only at hSw); go_simp; try with_reducible rfl))
      try simp only [Act.put, List.setIfInBounds_toArray]
      try simp only [List.getElem_toArray, List.getElem_cons_zero]
      refine wpAnyH_take (i := 1) (oi := _) (v := ?va2) rfl (by kernel_rfl) (by kernel_rfl) (by kernel_rfl) (fun _ _ _ h => h) (Or.inl ⟨by rfl, ?hya2⟩) (by assumption) ?resta2
      case hya2 => ((intro W hSw; (try dsimp only at hSw); go_simp; try with_reducible rfl))
      try simp only [Act.put, List.setIfInBounds_toArray, List.set_cons_zero, List.set_cons_succ]
      try simp only [List.getElem_toArray, List.getElem_cons_zero, List.getElem_cons_succ]
      refine wpAnyH_take (i := 2) (oi := _) (v := ?va3) rfl (by kernel_rfl) (by kernel_rfl) (by kernel_rfl) (fun _ _ _ h => h) (Or.inl ⟨by rfl, ?hya3⟩) (by assumption) ?resta3
      case hya3 => ((intro W hSw; (try dsimp only at hSw); go_simp; try with_reducible rfl))
      try simp only [Act.put, List.setIfInBounds_toArray, List.set_cons_zero, List.set_cons_succ]
      try simp only [List.getElem_toArray, List.getElem_cons_zero, List.getElem_cons_succ]
      refine wpAnyH_take (i := 4) (oi := _) (v := ?va4) rfl (by kernel_rfl) (by kernel_rfl) (by kernel_rfl) (fun _ _ _ h => h) (Or.inl ⟨by rfl, ?hya4⟩) (by assumption) ?resta4
      case hya4 => ((intro W hSw; (try dsimp only at hSw); go_simp; try with_reducible rfl))
      try simp only [Act.put, List.setIfInBounds_toArray, List.set_cons_zero, List.set_cons_succ]
      try simp only [List.getElem_toArray, List.getElem_cons_zero, List.getElem_cons_succ]
      refine wpAnyH_take (i := 5) (oi := _) (v := ?va5) rfl (by kernel_rfl) (by kernel_rfl) (by kernel_rfl) (fun _ _ _ h => h) (Or.inl ⟨by rfl, ?hya5⟩) (by assumption) ?resta5
      case hya5 => ((intro W hSw; (try dsimp only at hSw); go_simp; try with_reducible rfl))
      try simp only [Act.put, List.setIfInBounds_toArray, List.set_cons_zero, List.set_cons_succ]
      try simp only [List.getElem_toArray, List.getElem_cons_zero, List.getElem_cons_succ]
      refine wpAnyH_take (i := 6) (oi := _) (v := ?va6) rfl (by kernel_rfl) (by kernel_rfl) (by kernel_rfl) (fun _ _ _ h => h) (Or.inl ⟨by rfl, ?hya6⟩) (by assumption) ?resta6
      case hya6 => ((intro W hSw; (try dsimp only at hSw); go_simp; try with_reducible rfl))
      try simp only [Act.put, List.setIfInBounds_toArray, List.set_cons_zero, List.set_cons_succ]
      try simp only [List.getElem_toArray, List.getElem_cons_zero, List.getElem_cons_succ]
      refine wpAnyH_take (i := 9) (oi := _) (v := ?va7) rfl (by kernel_rfl) (by kernel_rfl) (by kernel_rfl) (fun _ _ _ h => h) (Or.inl ⟨by rfl, ?hya7⟩) (by assumption) ?resta7
      case hya7 => ((intro W hSw; (try dsimp only at hSw); go_simp; try with_reducible rfl))
      try simp only [Act.put, List.setIfInBounds_toArray, List.set_cons_zero, List.set_cons_succ]
      try simp only [List.getElem_toArray, List.getElem_cons_zero, List.getElem_cons_succ]
      refine wpAnyH_take (i := 10) (oi := _) (v := ?va8) rfl (by kernel_rfl) (by kernel_rfl) (by kernel_rfl) (fun _ _ _ h => h) (Or.inl ⟨by rfl, ?hya8⟩) (by assumption) ?resta8
      case hya8 => ((intro W hSw; (try dsimp only at hSw); go_simp; try with_reducible rfl))
      try simp only [Act.put, List.setIfInBounds_toArray, List.set_cons_zero, List.set_cons_succ]
      try simp only [List.getElem_toArray, List.getElem_cons_zero, List.getElem_cons_succ]
      refine wpAnyH_take (i := 11) (oi := _) (v := ?va9) rfl (by kernel_rfl) (by kernel_rfl) (by kernel_rfl) (fun _ _ _ h => h) (Or.inl ⟨by rfl, ?hya9⟩) (by assumption) ?resta9
      case hya9 => ((intro W hSw; (try dsimp only at hSw); go_simp; try with_reducible rfl))
      try simp only [Act.put, List.setIfInBounds_toArray, List.set_cons_zero, List.set_cons_succ]
      try simp only [List.getElem_toArray, List.getElem_cons_zero, List.getElem_cons_succ]
      refine wpAnyH_take (i := 14) (oi := _) (v := ?va10) rfl (by kernel_rfl) (by kernel_rfl) (by kernel_rfl) (fun _ _ _ h => h) (Or.inl ⟨by rfl, ?hya10⟩) (by assumption) ?resta10
      case hya10 => ((intro W hSw; (try dsimp only at hSw); go_simp; try with_reducible rfl))
      try simp only [Act.put, List.setIfInBounds_toArray, List.set_cons_zero, List.set_cons_succ]
      try simp only [List.getElem_toArray, List.getElem_cons_zero, List.getElem_cons_succ]
      refine wpAnyH_take (i := 15) (oi := _) (v := ?va11) rfl (by kernel_rfl) (by kernel_rfl) (by kernel_rfl) (fun _ _ _ h => h) (Or.inl ⟨by rfl, ?hya11⟩) (by assumption) ?resta11
      case hya11 => ((intro W hSw; (try dsimp only at hSw); go_simp; try with_reducible rfl))
      try simp only [Act.put, List.setIfInBounds_toArray, List.set_cons_zero, List.set_cons_succ]
      try simp only [List.getElem_toArray, List.getElem_cons_zero, List.getElem_cons_succ]
      refine wpAnyH_take (i := 16) (oi := _) (v := ?va12) rfl (by kernel_rfl) (by kernel_rfl) (by kernel_rfl) (fun _ _ _ h => h) (Or.inl ⟨by rfl, ?hya12⟩) (by assumption) ?resta12
      case hya12 => ((intro W hSw; (try dsimp only at hSw); go_simp; try with_reducible rfl))
      try simp only [Act.put, List.setIfInBounds_toArray, List.set_cons_zero, List.set_cons_succ]
      try simp only [List.getElem_toArray, List.getElem_cons_zero, List.getElem_cons_succ]
      refine wpAnyH_ready (rs := [3]) (by kernel_rfl) (by simp) ?_
      refine AllReadyH.cons (o := _) rfl (fun K hK => ?_) ?_
      · go_simp
        refine (HN1.out _ k HK.out).mono ?_
        rintro e w3 ⟨rfl, hb3⟩
        (try go_wp2_with fail)
        have shb3 := hb3.size
        (try change wy.heap.size ≤ _ at shb3)
        refine hK.out _ _ (by (repeat' (first | with_reducible exact HZy.out | with_reducible refine Box9.drw ?_ | with_reducible refine Box9.keep ?_ hb3 | with_reducible refine Box9.keep ?_ hb7 | with_reducible refine Box9.keep ?_ hb12 | with_reducible refine Box9.keep ?_ hb17))) (fun _ => ?_)
        clear hK K
        try simp only [Act.put, List.setIfInBounds_toArray, List.set_cons_zero, List.set_cons_succ]
        try simp only [List.getElem_toArray, List.getElem_cons_zero, List.getElem_cons_succ]
        refine wpAnyH_ready (rs := [7]) (by kernel_rfl) (by simp) ?_
        refine AllReadyH.cons (o := _) rfl (fun K hK => ?_) ?_
        · go_simp
          refine (HN1.out _ r HRr.out).mono ?_
          rintro e w7 ⟨rfl, hb7⟩
          (try go_wp2_with fail)
          have shb7 := hb7.size
          (try change wy.heap.size ≤ _ at shb7)
          refine hK.out _ _ (by (repeat' (first | with_reducible exact HZy.out | with_reducible refine Box9.drw ?_ | with_reducible refine Box9.keep ?_ hb3 | with_reducible refine Box9.keep ?_ hb7 | with_reducible refine Box9.keep ?_ hb12 | with_reducible refine Box9.keep ?_ hb17))) (fun _ => ?_)
          clear hK K
          try simp only [Act.put, List.setIfInBounds_toArray, List.set_cons_zero, List.set_cons_succ]
          try simp only [List.getElem_toArray, List.getElem_cons_zero, List.getElem_cons_succ]
          refine wpAnyH_take (i := 8) (oi := _) (v := ?va13) rfl (by kernel_rfl) (by kernel_rfl) (by kernel_rfl) (fun _ _ _ h => h) (Or.inl ⟨by rfl, ?hya13⟩) (by assumption) ?resta13
          case hya13 => ((intro W hSw; (try dsimp only at hSw); go_simp; try with_reducible rfl))
          try simp only [Act.put, List.setIfInBounds_toArray]
          try simp only [List.getElem_toArray, List.getElem_cons_zero, List.getElem_cons_succ]
          refine wpAnyH_ready (rs := [12]) (by kernel_rfl) (by simp) ?_
          refine AllReadyH.cons (o := _) rfl (fun K hK => ?_) ?_
          · go_simp
            refine (HN2.out _ s (Nat.lt_trans HS.out (by omega))).mono ?_
            rintro e w12 ⟨rfl, hb12⟩
            (try go_wp2_with fail)
            have shb12 := hb12.size
            (try change wy.heap.size ≤ _ at shb12)
            refine hK.out _ _ (by (repeat' (first | with_reducible exact HZy.out | with_reducible refine Box9.drw ?_ | with_reducible refine Box9.keep ?_ hb3 | with_reducible refine Box9.keep ?_ hb7 | with_reducible refine Box9.keep ?_ hb12 | with_reducible refine Box9.keep ?_ hb17))) (fun _ => ?_)
            clear hK K
            try simp only [Act.put, List.setIfInBounds_toArray, List.set_cons_zero, List.set_cons_succ]
            try simp only [List.getElem_toArray, List.getElem_cons_zero, List.getElem_cons_succ]
            refine wpAnyH_take (i := 13) (oi := _) (v := ?va14) rfl (by kernel_rfl) (by kernel_rfl) (by kernel_rfl) (fun _ _ _ h => h) (Or.inl ⟨by rfl, ?hya14⟩) (by assumption) ?resta14
            case hya14 => ((intro W hSw; (try dsimp only at hSw); go_simp; try with_reducible rfl))
            try simp only [Act.put, List.setIfInBounds_toArray]
            try simp only [List.getElem_toArray, List.getElem_cons_zero, List.getElem_cons_succ]
            refine wpAnyH_ready (rs := [17]) (by kernel_rfl) (by simp) ?_
            refine AllReadyH.cons (o := _) rfl (fun K hK => ?_) ?_
            · go_simp
              refine (HN2.out _ i HI.out).mono ?_
              rintro e w17 ⟨rfl, hb17⟩
              (try go_wp2_with fail)
              have shb17 := hb17.size
              (try change wy.heap.size ≤ _ at shb17)
              refine hK.out _ _ (by (repeat' (first | with_reducible exact HZy.out | with_reducible refine Box9.drw ?_ | with_reducible refine Box9.keep ?_ hb3 | with_reducible refine Box9.keep ?_ hb7 | with_reducible refine Box9.keep ?_ hb12 | with_reducible refine Box9.keep ?_ hb17))) (fun _ => ?_)
              clear hK K
              try simp only [Act.put, List.setIfInBounds_toArray, List.set_cons_zero, List.set_cons_succ]
              try simp only [List.getElem_toArray, List.getElem_cons_zero, List.getElem_cons_succ]
              refine wpAnyH_take (i := 18) (oi := _) (v := ?va15) rfl (by kernel_rfl) (by kernel_rfl) (by kernel_rfl) (fun _ _ _ h => h) (Or.inl ⟨by rfl, ?hya15⟩) (by assumption) ?resta15
              case hya15 => ((intro W hSw; (try dsimp only at hSw); go_simp; try with_reducible rfl))
              try simp only [Act.put, List.setIfInBounds_toArray]
              try simp only [List.getElem_toArray, List.getElem_cons_zero, List.getElem_cons_succ]
              refine wpAnyH_take (i := 19) (oi := _) (v := ?va16) rfl (by kernel_rfl) (by kernel_rfl) (by kernel_rfl) (fun _ _ _ h => h) (Or.inl ⟨by rfl, ?hya16⟩) (by assumption) ?resta16
              case hya16 => ((intro W hSw; (try dsimp only at hSw); go_simp; try with_reducible rfl))
              try simp only [Act.put, List.setIfInBounds_toArray, List.set_cons_zero, List.set_cons_succ]
              try simp only [List.getElem_toArray, List.getElem_cons_zero, List.getElem_cons_succ]
              refine wpAnyH_done (by kernel_rfl) ?_ _
              have eB : Below wy.heap.size wy w17 := by (repeat' (first | with_reducible exact Below.refl _ _ | with_reducible refine Below.drew ?_ | with_reducible refine Below.trans ?_ (hb3.mono ?_) | with_reducible refine Below.trans ?_ (hb7.mono ?_) | with_reducible refine Below.trans ?_ (hb12.mono ?_) | with_reducible refine Below.trans ?_ (hb17.mono ?_) | exact Nat.le_refl _ | omega))
              clear hb3 hb7 hb12 hb17
              go_wp2_with fail
              go_meet
              exact ⟨by rw [strB_cat, strB_cat, strB_cat], eB⟩
            exact AllReadyH.nil
          exact AllReadyH.nil
        exact AllReadyH.nil
      exact AllReadyH.nil

    case rest =>
      obtain ⟨rfl, eB⟩ := hcut
      have HZc := Lib.hid (HZy.out.keep eB)
      have HBc := Lib.hid (HBy.out.trans (eB.mono HBy.out.size))
      clear eB HZy HBy HN2
      have zt := HT.out
      have zm : (strB (numL k 1 ++ numL r 1 ++ numL s 2 ++ numL i 2)).size = 6 := by rw [strB_size]; simp [numL_len]
      obtain ⟨m0, hm0⟩ : ∃ m0, numL k 1 ++ numL r 1 ++ numL s 2 ++ numL i 2 = m0 := ⟨_, rfl⟩
      rw [hm0]
      rw [hm0] at zm
      go_upto_region 5 with fail
      go_cut [5] (fun s5 wx => s5 = .string (strB (m0 ++ (numL l 1 ++ numL (16 * d + p) 1 ++ numL a 4 ++ bs t))) ∧ Below wc.heap.size wc wx)
      case first =>
        refine wp_region_held_drew (S := (fun w' => Box9 w' w.heap.size (.int .i64 k) (.int .i64 r) (.int .i64 s) (.int .i64 i) (.int .i64 l) (.int .i64 d) (.int .i64 p) (.int .u32 a) (.string t))) (by kernel_rfl) ?_ (fun hHeld => ?_)
        · (repeat' (first | with_reducible exact HZc.out | with_reducible refine Box9.drw ?_ | with_reducible refine Box9.keep ?_ hc1 | with_reducible refine Box9.keep ?_ hc2 | with_reducible refine Box9.keep ?_ hc3))
        refine wpAnyH_take (i := 0) (oi := _) (v := ?vb1) rfl (by kernel_rfl) (by kernel_rfl) (by kernel_rfl) (fun _ _ _ h => h) (Or.inl ⟨by rfl, ?hyb1⟩) (by assumption) ?restb1
        case hyb1 => ((intro W hSw; (try dsimp only at hSw); go_simp; try with_reducible rfl))
        try simp only [Act.put, List.setIfInBounds_toArray]
        try simp only [List.getElem_toArray, List.getElem_cons_zero]
        refine wpAnyH_take (i := 1) (oi := _) (v := ?vb2) rfl (by kernel_rfl) (by kernel_rfl) (by kernel_rfl) (fun _ _ _ h => h) (Or.inl ⟨by rfl, ?hyb2⟩) (by assumption) ?restb2
        case hyb2 => ((intro W hSw; (try dsimp only at hSw); go_simp; try with_reducible rfl))
        try simp only [Act.put, List.setIfInBounds_toArray, List.set_cons_zero, List.set_cons_succ]
        try simp only [List.getElem_toArray, List.getElem_cons_zero, List.getElem_cons_succ]
        refine wpAnyH_take (i := 2) (oi := _) (v := ?vb3) rfl (by kernel_rfl) (by kernel_rfl) (by kernel_rfl) (fun _ _ _ h => h) (Or.inl ⟨by rfl, ?hyb3⟩) (by assumption) ?restb3
        case hyb3 => ((intro W hSw; (try dsimp only at hSw); go_simp; try with_reducible rfl))
        try simp only [Act.put, List.setIfInBounds_toArray, List.set_cons_zero, List.set_cons_succ]
        try simp only [List.getElem_toArray, List.getElem_cons_zero, List.getElem_cons_succ]
        refine wpAnyH_take (i := 3) (oi := _) (v := ?vb4) rfl (by kernel_rfl) (by kernel_rfl) (by kernel_rfl) (fun _ _ _ h => h) (Or.inl ⟨by rfl, ?hyb4⟩) (by assumption) ?restb4
        case hyb4 => ((intro W hSw; (try dsimp only at hSw); go_simp; try with_reducible rfl))
        try simp only [Act.put, List.setIfInBounds_toArray, List.set_cons_zero, List.set_cons_succ]
        try simp only [List.getElem_toArray, List.getElem_cons_zero, List.getElem_cons_succ]
        refine wpAnyH_take (i := 5) (oi := _) (v := ?vb5) rfl (by kernel_rfl) (by kernel_rfl) (by kernel_rfl) (fun _ _ _ h => h) (Or.inl ⟨by rfl, ?hyb5⟩) (by assumption) ?restb5
        case hyb5 => ((intro W hSw; (try dsimp only at hSw); go_simp; try with_reducible rfl))
        try simp only [Act.put, List.setIfInBounds_toArray, List.set_cons_zero, List.set_cons_succ]
        try simp only [List.getElem_toArray, List.getElem_cons_zero, List.getElem_cons_succ]
        refine wpAnyH_take (i := 6) (oi := _) (v := ?vb6) rfl (by kernel_rfl) (by kernel_rfl) (by kernel_rfl) (fun _ _ _ h => h) (Or.inl ⟨by rfl, ?hyb6⟩) (by assumption) ?restb6
        case hyb6 => ((intro W hSw; (try dsimp only at hSw); go_simp; try with_reducible rfl))
        try simp only [Act.put, List.setIfInBounds_toArray, List.set_cons_zero, List.set_cons_succ]
        try simp only [List.getElem_toArray, List.getElem_cons_zero, List.getElem_cons_succ]
        refine wpAnyH_take (i := 7) (oi := _) (v := ?vb7) rfl (by kernel_rfl) (by kernel_rfl) (by kernel_rfl) (fun _ _ _ h => h) (Or.inl ⟨by rfl, ?hyb7⟩) (by assumption) ?restb7
        case hyb7 => ((intro W hSw; (try dsimp only at hSw); go_simp; try with_reducible rfl))
        try simp only [Act.put, List.setIfInBounds_toArray, List.set_cons_zero, List.set_cons_succ]
        try simp only [List.getElem_toArray, List.getElem_cons_zero, List.getElem_cons_succ]
        refine wpAnyH_take (i := 8) (oi := _) (v := ?vb8) rfl (by kernel_rfl) (by kernel_rfl) (by kernel_rfl) (fun _ _ _ h => h) (Or.inl ⟨by rfl, ?hyb8⟩) (by assumption) ?restb8
        case hyb8 => ((intro W hSw; (try dsimp only at hSw); go_simp; try with_reducible rfl))
        try simp only [Act.put, List.setIfInBounds_toArray, List.set_cons_zero, List.set_cons_succ]
        try simp only [List.getElem_toArray, List.getElem_cons_zero, List.getElem_cons_succ]
        refine wpAnyH_take (i := 9) (oi := _) (v := ?vb9) rfl (by kernel_rfl) (by kernel_rfl) (by kernel_rfl) (fun _ _ _ h => h) (Or.inl ⟨by rfl, ?hyb9⟩) (by assumption) ?restb9
        case hyb9 => ((intro W hSw; (try dsimp only at hSw); go_simp; try with_reducible rfl))
        try simp only [Act.put, List.setIfInBounds_toArray, List.set_cons_zero, List.set_cons_succ]
        try simp only [List.getElem_toArray, List.getElem_cons_zero, List.getElem_cons_succ]
        refine wpAnyH_take (i := 10) (oi := _) (v := ?vb10) rfl (by kernel_rfl) (by kernel_rfl) (by kernel_rfl) (fun _ _ _ h => h) (Or.inl ⟨by rfl, ?hyb10⟩) (by assumption) ?restb10
        case hyb10 => ((intro W hSw; (try dsimp only at hSw); go_simp; try with_reducible rfl))
        try simp only [Act.put, List.setIfInBounds_toArray, List.set_cons_zero, List.set_cons_succ]
        try simp only [List.getElem_toArray, List.getElem_cons_zero, List.getElem_cons_succ]
        refine wpAnyH_take (i := 11) (oi := _) (v := ?vb11) rfl (by kernel_rfl) (by kernel_rfl) (by kernel_rfl) (fun _ _ _ h => h) (Or.inl ⟨by rfl, ?hyb11⟩) (by assumption) ?restb11
        case hyb11 => ((intro W hSw; (try dsimp only at hSw); go_simp; try with_reducible rfl))
        try simp only [Act.put, List.setIfInBounds_toArray, List.set_cons_zero, List.set_cons_succ]
        try simp only [List.getElem_toArray, List.getElem_cons_zero, List.getElem_cons_succ]
        refine wpAnyH_take (i := 12) (oi := _) (v := ?vb12) rfl (by kernel_rfl) (by kernel_rfl) (by kernel_rfl) (fun _ _ _ h => h) (Or.inl ⟨by rfl, ?hyb12⟩) (by assumption) ?restb12
        case hyb12 => ((intro W hSw; (try dsimp only at hSw); go_simp; try with_reducible rfl))
        try simp only [Act.put, List.setIfInBounds_toArray, List.set_cons_zero, List.set_cons_succ]
        try simp only [List.getElem_toArray, List.getElem_cons_zero, List.getElem_cons_succ]
        refine wpAnyH_take (i := 13) (oi := _) (v := ?vb13) rfl (by kernel_rfl) (by kernel_rfl) (by kernel_rfl) (fun _ _ _ h => h) (Or.inl ⟨by rfl, ?hyb13⟩) (by assumption) ?restb13
        case hyb13 => ((intro W hSw; (try dsimp only at hSw); go_simp; try with_reducible rfl))
        try simp only [Act.put, List.setIfInBounds_toArray, List.set_cons_zero, List.set_cons_succ]
        try simp only [List.getElem_toArray, List.getElem_cons_zero, List.getElem_cons_succ]
        refine wpAnyH_take (i := 16) (oi := _) (v := ?vb14) rfl (by kernel_rfl) (by kernel_rfl) (by kernel_rfl) (fun _ _ _ h => h) (Or.inl ⟨by rfl, ?hyb14⟩) (by assumption) ?restb14
        case hyb14 => ((intro W hSw; (try dsimp only at hSw); go_simp; try with_reducible rfl))
        try simp only [Act.put, List.setIfInBounds_toArray, List.set_cons_zero, List.set_cons_succ]
        try simp only [List.getElem_toArray, List.getElem_cons_zero, List.getElem_cons_succ]
        refine wpAnyH_take (i := 17) (oi := _) (v := ?vb15) rfl (by kernel_rfl) (by kernel_rfl) (by kernel_rfl) (fun _ _ _ h => h) (Or.inl ⟨by rfl, ?hyb15⟩) (by assumption) ?restb15
        case hyb15 => ((intro W hSw; (try dsimp only at hSw); go_simp; try with_reducible rfl))
        try simp only [Act.put, List.setIfInBounds_toArray, List.set_cons_zero, List.set_cons_succ]
        try simp only [List.getElem_toArray, List.getElem_cons_zero, List.getElem_cons_succ]
        refine wpAnyH_take (i := 20) (oi := _) (v := ?vb16) rfl (by kernel_rfl) (by kernel_rfl) (by kernel_rfl) (fun _ _ _ h => h) (Or.inl ⟨by rfl, ?hyb16⟩) (by assumption) ?restb16
        case hyb16 => ((intro W hSw; (try dsimp only at hSw); go_simp; try with_reducible rfl))
        try simp only [Act.put, List.setIfInBounds_toArray, List.set_cons_zero, List.set_cons_succ]
        try simp only [List.getElem_toArray, List.getElem_cons_zero, List.getElem_cons_succ]
        refine wpAnyH_take (i := 21) (oi := _) (v := ?vb17) rfl (by kernel_rfl) (by kernel_rfl) (by kernel_rfl) (fun _ _ _ h => h) (Or.inl ⟨by rfl, ?hyb17⟩) (by assumption) ?restb17
        case hyb17 => ((intro W hSw; (try dsimp only at hSw); go_simp; try with_reducible rfl))
        try simp only [Act.put, List.setIfInBounds_toArray, List.set_cons_zero, List.set_cons_succ]
        try simp only [List.getElem_toArray, List.getElem_cons_zero, List.getElem_cons_succ]
        refine wpAnyH_ready (rs := [4]) (by kernel_rfl) (by simp) ?_
        refine AllReadyH.cons (o := _) rfl (fun K hK => ?_) ?_
        · go_simp
          refine (HN1.out _ l HL.out).mono ?_
          rintro e v1 ⟨rfl, hc1⟩
          (try go_wp2_with fail)
          have shc1 := hc1.size
          (try change wc.heap.size ≤ _ at shc1)
          refine hK.out _ _ (by (repeat' (first | with_reducible exact HZc.out | with_reducible refine Box9.drw ?_ | with_reducible refine Box9.keep ?_ hc1 | with_reducible refine Box9.keep ?_ hc2 | with_reducible refine Box9.keep ?_ hc3))) (fun _ => ?_)
          clear hK K
          try simp only [Act.put, List.setIfInBounds_toArray, List.set_cons_zero, List.set_cons_succ]
          try simp only [List.getElem_toArray, List.getElem_cons_zero, List.getElem_cons_succ]
          refine wpAnyH_ready (rs := [14]) (by kernel_rfl) (by simp) ?_
          refine AllReadyH.cons (o := _) rfl (fun K hK => ?_) ?_
          · go_simp
            refine (HN6.out _).mono ?_
            rintro e v2 ⟨rfl, hc2⟩
            (try go_wp2_with fail)
            have shc2 := hc2.size
            (try change wc.heap.size ≤ _ at shc2)
            refine hK.out _ _ (by (repeat' (first | with_reducible exact HZc.out | with_reducible refine Box9.drw ?_ | with_reducible refine Box9.keep ?_ hc1 | with_reducible refine Box9.keep ?_ hc2 | with_reducible refine Box9.keep ?_ hc3))) (fun _ => ?_)
            clear hK K
            try simp only [Act.put, List.setIfInBounds_toArray, List.set_cons_zero, List.set_cons_succ]
            try simp only [List.getElem_toArray, List.getElem_cons_zero, List.getElem_cons_succ]
            refine wpAnyH_take (i := 15) (oi := _) (v := ?vb18) rfl (by kernel_rfl) (by kernel_rfl) (by kernel_rfl) (fun _ _ _ h => h) (Or.inl ⟨by rfl, ?hyb18⟩) (by assumption) ?restb18
            case hyb18 => ((intro W hSw; (try dsimp only at hSw); go_simp; try with_reducible rfl))
            try simp only [Act.put, List.setIfInBounds_toArray]
            try simp only [List.getElem_toArray, List.getElem_cons_zero, List.getElem_cons_succ]
            refine wpAnyH_ready (rs := [18]) (by kernel_rfl) (by simp) ?_
            refine AllReadyH.cons (o := _) rfl (fun K hK => ?_) ?_
            · go_simp
              refine (HN4.out _).mono ?_
              rintro e v3 ⟨rfl, hc3⟩
              (try go_wp2_with fail)
              have shc3 := hc3.size
              (try change wc.heap.size ≤ _ at shc3)
              refine hK.out _ _ (by (repeat' (first | with_reducible exact HZc.out | with_reducible refine Box9.drw ?_ | with_reducible refine Box9.keep ?_ hc1 | with_reducible refine Box9.keep ?_ hc2 | with_reducible refine Box9.keep ?_ hc3))) (fun _ => ?_)
              clear hK K
              try simp only [Act.put, List.setIfInBounds_toArray, List.set_cons_zero, List.set_cons_succ]
              try simp only [List.getElem_toArray, List.getElem_cons_zero, List.getElem_cons_succ]
              refine wpAnyH_take (i := 19) (oi := _) (v := ?vb19) rfl (by kernel_rfl) (by kernel_rfl) (by kernel_rfl) (fun _ _ _ h => h) (Or.inl ⟨by rfl, ?hyb19⟩) (by assumption) ?restb19
              case hyb19 => ((intro W hSw; (try dsimp only at hSw); go_simp; try with_reducible rfl))
              try simp only [Act.put, List.setIfInBounds_toArray]
              try simp only [List.getElem_toArray, List.getElem_cons_zero, List.getElem_cons_succ]
              refine wpAnyH_take (i := 22) (oi := _) (v := ?vb20) rfl (by kernel_rfl) (by kernel_rfl) (by kernel_rfl) (fun _ _ _ h => h) (Or.inl ⟨by rfl, ?hyb20⟩) (by assumption) ?restb20
              case hyb20 => ((intro W hSw; (try dsimp only at hSw); go_simp; try with_reducible rfl))
              try simp only [Act.put, List.setIfInBounds_toArray, List.set_cons_zero, List.set_cons_succ]
              try simp only [List.getElem_toArray, List.getElem_cons_zero, List.getElem_cons_succ]
              refine wpAnyH_take (i := 23) (oi := _) (v := ?vb21) rfl (by kernel_rfl) (by kernel_rfl) (by kernel_rfl) (fun _ _ _ h => h) (Or.inl ⟨by rfl, ?hyb21⟩) (by assumption) ?restb21
              case hyb21 => ((intro W hSw; (try dsimp only at hSw); go_simp; try with_reducible rfl))
              try simp only [Act.put, List.setIfInBounds_toArray, List.set_cons_zero, List.set_cons_succ]
              try simp only [List.getElem_toArray, List.getElem_cons_zero, List.getElem_cons_succ]
              refine wpAnyH_take (i := 24) (oi := _) (v := ?vb22) rfl (by kernel_rfl) (by kernel_rfl) (by kernel_rfl) (fun _ _ _ h => h) (Or.inl ⟨by rfl, ?hyb22⟩) (by assumption) ?restb22
              case hyb22 => ((intro W hSw; (try dsimp only at hSw); go_simp; try with_reducible rfl))
              try simp only [Act.put, List.setIfInBounds_toArray, List.set_cons_zero, List.set_cons_succ]
              try simp only [List.getElem_toArray, List.getElem_cons_zero, List.getElem_cons_succ]
              refine wpAnyH_done (by kernel_rfl) ?_ _
              have eB : Below wc.heap.size wc v3 := by (repeat' (first | with_reducible exact Below.refl _ _ | with_reducible refine Below.drew ?_ | with_reducible refine Below.trans ?_ (hc1.mono ?_) | with_reducible refine Below.trans ?_ (hc2.mono ?_) | with_reducible refine Below.trans ?_ (hc3.mono ?_) | exact Nat.le_refl _ | omega))
              clear hc1 hc2 hc3
              go_wp2_with fail
              go_meet
              exact ⟨by rw [strB_cat, strB_cat, ← strB_cat m0, ← strB_cat _ (bs t), strB_bs], eB⟩
            exact AllReadyH.nil
          exact AllReadyH.nil
        exact AllReadyH.nil

      case rest =>
        obtain ⟨rfl, eB⟩ := hcut
        have HBd := Lib.hid (HBc.out.trans (eB.mono HBc.out.size))
        clear eB HZc HBc HN1 HN4 HN6
        have em : m0 ++ (numL l 1 ++ numL (16 * d + p) 1 ++ numL a 4 ++ bs t) = msgL k r s i l d p a t := by rw [← hm0]; unfold msgL; simp
        rw [em]
        have hz : (strB (msgL k r s i l d p a t)).size = 40 := by rw [strB_size]; unfold msgL; simp [numL_len, bs_len, HT.out]
        have HM : Hid (strB (marL k r s i l d p a t) = strB (msgL k r s i l d p a t) ++ strB (be4 (sumL [strB (msgL k r s i l d p a t)]))) := Lib.hid (by rw [strB_cat]; rfl)
        have HR' := HR.out
        rw [HM.out] at HR'
        have HR2 := Lib.hid HR'
        clear em hm0 HR HM HR'
        generalize strB (msgL k r s i l d p a t) = M at *
        have HX : Hid (∀ W : World, Calls Tryz.prog 70 #[.slice (some ⟨W.heap.size, 0, none⟩) 1 1] (W.alloc (.cells #[.string M] 9)) fun e w' => e = .returned (.int .u32 (sumL [M] : Nat)) ∧ W.alloc (.cells #[.string M] 9) = w') := Lib.hid (fun W =>
          csum_any _ _ [M] (Blk.slAt (f := strV) (xs := [M]) (Blk.new W 9 [.string M]) (c := 1) (by simp) (by omega)) (by intro x hx; rw [List.mem_singleton.1 hx]; omega) (by simp))
        have HY : Hid (∀ W : World, Calls Tryz.prog 69 #[.int .u32 (sumL [M] : Nat)] W fun e w' => e = .returned (.string (strB (be4 (sumL [M])))) ∧ Below W.heap.size W w') := Lib.hid (fun W => cbytes_any W _ (sumL_lt _))
        go_wp2_with (first | (go_at_call 70; refine (HX.out _).mono ?_; rintro e w5 ⟨rfl, rfl⟩) | (go_at_call 69; refine (HY.out _).mono ?_; rintro e w6 ⟨rfl, hb6⟩))
        rw [← HR2.out]
        exact bodyPost_ret (v := .tuple #[.string (M ++ strB (be4 (sumL [M]))), .int .i64 0]) (by simp [results, Tryz.results32, go_sem]) rfl ⟨rfl, HBd.out.trans ((((Below.refl _ _).alloc (Nat.le_refl _) _).trans (hb6.mono (by simp))).mono HBd.out.size)⟩
  · have HR : Hid (Value.tuple #[.string ⟨#[]⟩, .int .i64 E] = R) := Lib.hid (by rw [← hR, if_pos h0])
    have h1 : (E != 0) = true := by simpa using h0
    clear hR hE
    go_enter Tryz.func32, Tryz.ntmps32
    go_wp2_with (go_at_call 67; refine (HC.out _).mono ?_; rintro e wy ⟨rfl, hby⟩)
    rw [← HR.out]
    exact bodyPost_ret (v := .tuple #[.string ⟨#[]⟩, .int .i64 E]) (by simp [results, Tryz.results32, go_sem]) rfl ⟨rfl, HB.out.trans (hby.mono HB.out.size)⟩

end Go.Proofs.YtjennpcadjdnlaaGreatDoor
