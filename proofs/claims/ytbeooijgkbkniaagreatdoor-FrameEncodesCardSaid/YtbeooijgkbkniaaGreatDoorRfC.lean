/-
  WALK: the reference's Encode of the inner code.
-/
import Derived.Test.YtbeooijgkbkniaaGreatDoorRfB
namespace Go.Proofs.YtbeooijgkbkniaaGreatDoor
open Go.RowKit

/-- append of two bytes to a row of the call's own. -/
theorem run_app2 {W : World} {B n : Nat} {v : Value} {xs : List Nat} (ty : TypeId) (x y : Nat) (hown : W.ownsRow B 5 1 v n (xs.map u8V)) (hn : n ≤ 900000) (hB : B ≤ W.heap.size) :
    ∃ v' w', (Builtin.append_ #[37, 37] ty #[v, .slice (some ⟨W.heap.size, 0, none⟩) 2 2]).run Tryz.prog (W.alloc (.cells #[.int .u8 (x : Int), .int .u8 (y : Int)] 5)) = .ok v' w' ∧ w'.ownsRow B 5 1 v' (n + 2) ((xs ++ [x, y]).map u8V) ∧ Below B W w' := by
  have hb : BytesAt (W.alloc (.cells #[.int .u8 (x : Int), .int .u8 (y : Int)] 5)) (.slice (some ⟨W.heap.size, 0, none⟩) 2 2) [x, y] := U8B.bytes (U8B.new W [x, y]) rfl (Nat.le_refl _) (by omega)
  obtain ⟨v', w', hr, h1, h2, _⟩ := run_appendV (W.alloc (.cells #[.int .u8 (x : Int), .int .u8 (y : Int)] 5)) Tryz.underlying37 Tryz.infoU8 rfl (by omega) B ty v n _ (hown.alloc _) _ [u8V x, u8V y] hb.vAt (one_u8s [x, y]) (by simp; omega) (by simp; omega)
  refine ⟨v', w', hr, by simpa using h1, ?_⟩
  exact ((Below.refl _ _).alloc hB _).grown h2 (by simp; omega) (own_ge hown)
theorem wpList_app2 {ops : Array Oper} {rest : List Oper} {o : Oper} {a : Act} {Q : Exit → Act → World → Prop} {W : World} {B n : Nat} {v : Value} {xs : List Nat} {x y : Nat} (hw : Region.wanted o (yielded ops a.tmps) = true) (s z : Operand) (ho : o.op = .call { callee := .builtin .append, args := #[s, z], argTypes := #[37, 37] })
    (hs : a.eval s = v) (hy : a.eval z = .slice (some ⟨W.heap.size, 0, none⟩) 2 2) (hown : W.ownsRow B 5 1 v n (xs.map u8V)) (hn : n ≤ 900000) (hB : B ≤ W.heap.size)
    (h : ∀ v' w', w'.ownsRow B 5 1 v' (n + 2) ((xs ++ [x, y]).map u8V) → Below B W w' → wpList Tryz.prog ops Q rest (a.put o.dst v') w') : wpList Tryz.prog ops Q (o :: rest) a (W.alloc (.cells #[.int .u8 (x : Int), .int .u8 (y : Int)] 5)) :=
  wpList_step fun K hK => by
    simp only [hw, if_true]
    obtain ⟨v', w', hr, g1, g2⟩ := run_app2 o.type x y hown hn hB
    unfold Oper.wp execOp
    simp only [ho, resolve, invoke, builtin, Sem.run_bind, Sem.run_pure, Result.andThen_ok, List.map_toArray, List.map_cons, List.map_nil, hs, hy, hr]
    exact hK _ _ (h v' w' g1 g2)
/-- A slice with room, of no elements. -/
theorem own_room (w : World) (c : Nat) (hc : c ≤ 1000000) : (w.alloc (.cells (arrB (List.replicate c 0)) 5)).ownsRow w.heap.size 5 1 (.slice (some ⟨w.heap.size, 0, none⟩) 0 c) 0 [] :=
  ⟨by simp, .inr ⟨w.heap.size, c, arrB (List.replicate c 0), rfl, Nat.le_refl _, by show (w.heap.push _)[w.heap.size]? = _; simp, Nat.zero_le _, Nat.le_trans hc (by decide), by simp [arrB], by simp⟩⟩

theorem own_kept {w w' : World} {B n : Nat} {t : TypeId} {v : Value} {xs : List Value} (h : w.ownsRow B t 1 v n xs) (hb : Below w.heap.size w w') : w'.ownsRow B t 1 v n xs := by
  obtain ⟨hl, h⟩ := h
  refine ⟨hl, h.imp id ?_⟩
  rintro ⟨g, cap, cur, e, hB, hg, r⟩
  exact ⟨g, cap, cur, e, hB, (hb.block g (Array.getElem?_eq_some_iff.1 hg).1).trans hg, r⟩
theorem bitsS_48 {u : List Nat} (h : Bits u) : B01 (bitsS u) := fun c hc => by
  obtain ⟨x, hx, rfl⟩ := List.mem_map.1 hc
  have := h x hx
  omega
/-- The bits behind two zeros. -/
def preB (f : List Nat) (j : Nat) : Nat := cf (0 :: 0 :: f) j
theorem preB_lt {f : List Nat} (h : Bits f) (j : Nat) : preB f j < 2 := by
  unfold preB cf
  match j with
  | 0 => exact (by omega : (0 : Nat) < 2)
  | 1 => exact (by omega : (0 : Nat) < 2)
  | j + 2 =>
    show ((f[j]?).getD 0) < 2
    cases e : f[j]? with
    | none => exact (by omega : (0 : Nat) < 2)
    | some x => exact h x (List.mem_of_getElem? e)
theorem take_snoc_cf {f : List Nat} {j : Nat} (hj : j < f.length) : f.take (j + 1) = f.take j ++ [cf f j] := by
  rw [List.take_succ_eq_append_getElem hj, cf_get (List.getElem?_eq_getElem hj)]
theorem cst_pre {f : List Nat} (h : Bits f) : ∀ j, j ≤ f.length → cst 0 (f.take j) = 2 * preB f (j + 1) + preB f j
  | 0, _ => rfl
  | j + 1, hj => by
    have ih := cst_pre h j (by omega)
    have hb := preB_lt h j
    rw [take_snoc_cf (by omega), cst_append, ih]
    show cnx _ (cf f j) = _
    unfold cnx
    have e : preB f (j + 1 + 1) = cf f j := rfl
    omega
theorem cenc_pre {f : List Nat} (h : Bits f) {j : Nat} (hj : j < f.length) :
    cenc 0 (f.take (j + 1)) = cenc 0 (f.take j) ++ [48 + (preB f (j + 2) + preB f (j + 1) + preB f j) % 2, 48 + (preB f (j + 2) + preB f j) % 2] := by
  have h1 := preB_lt h j
  have h2 := preB_lt h (j + 1)
  rw [take_snoc_cf hj, cenc_append, cst_pre h j (by omega)]
  have e : preB f (j + 2) = cf f j := rfl
  congr 1
  show [co1 _ _, co2 _ _] = _
  unfold co1 co2
  rw [e, show (2 * preB f (j + 1) + preB f j) / 2 = preB f (j + 1) by omega, show (2 * preB f (j + 1) + preB f j) % 2 = preB f j by omega]

set_option maxRecDepth 100000 in
set_option maxHeartbeats 8000000 in
theorem rcenc_any (w : World) (s : ByteArray) (u : List Nat) (hs : bs s = bitsS u) (hu : Bits u) (hl : u.length ≤ 1000) :
    Calls Tryz.prog 51 #[.string s] w fun e w' => e = .returned (.tuple #[.string (strB (cenc 0 (u ++ [0, 0]))), .int .i64 0]) ∧ Below w.heap.size w w' := by
  have hsz : s.size = u.length := by rw [← bs_len, hs, bitsS_len]
  have hf : Bits (u ++ [0, 0]) := fun x hx => by
    rcases List.mem_append.1 hx with hx | hx
    · exact hu x hx
    · simp at hx; omega
  have hch : ∀ i (h : i < s.size), (s[i]'h).toNat = 48 ∨ (s[i]'h).toNat = 49 := fun i h => by
    rw [← bs_cf s i h, hs]
    have h1 : i < (bitsS u).length := by rw [bitsS_len]; omega
    rw [cf_get (List.getElem?_eq_getElem h1)]
    exact bitsS_48 hu _ (List.getElem_mem h1)
  obtain ⟨L, hL⟩ : ∃ L, (⟨#[48, 48]⟩ : ByteArray) ++ s ++ ⟨#[48, 48]⟩ = L := ⟨_, rfl⟩
  have hLz : L.size = s.size + 4 := by
    rw [← hL, ByteArray.size_append, ByteArray.size_append]
    show 2 + s.size + 2 = _
    omega
  have hLb : bs L = 48 :: 48 :: bitsS (u ++ [0, 0]) := by
    rw [← hL, ← strB_bs s, hs]
    rw [show (⟨#[48, 48]⟩ : ByteArray) = strB [48, 48] from rfl, strB_cat, strB_cat, bs_strB]
    · unfold bitsS
      rw [List.map_append]
      rfl
    · intro b hb
      rcases List.mem_append.1 hb with hb | hb
      · rcases List.mem_append.1 hb with hb | hb
        · simp at hb; omega
        · have := bitsS_48 hu b hb; omega
      · simp at hb; omega
  have hpb : ∀ i (h : i < L.size), (L[i]'h).toNat = 48 + preB (u ++ [0, 0]) i := fun i h => by
    rw [← bs_cf L i h, hLb]
    have e : (48 :: 48 :: bitsS (u ++ [0, 0])) = (0 :: 0 :: (u ++ [0, 0])).map (48 + ·) := rfl
    have h1 : i < (0 :: 0 :: (u ++ [0, 0])).length := by simp; omega
    rw [e]
    unfold cf preB cf
    rw [List.getElem?_map, List.getElem?_eq_getElem h1]
    rfl
  obtain ⟨n, hn⟩ : ∃ n, s.size = n := ⟨_, rfl⟩
  have Hch := Lib.hid hch
  have Hpb := Lib.hid hpb
  have Hf := Lib.hid hf
  obtain ⟨f, hfe⟩ : ∃ f, u ++ [0, 0] = f := ⟨_, rfl⟩
  have hfl : f.length = n + 2 := by rw [← hfe, List.length_append, ← hn, hsz]; rfl
  rw [hfe] at Hf Hpb ⊢
  have Hfl := Lib.hid hfl
  have hn9 : s.size ≤ 1000 := by omega
  have Hn := Lib.hid hn
  have hmk : ∀ W : World, (Instr.makeSlice 37 (.int .i64 0) (.int .i64 (2 * (s.size : Int) + 4))).run Tryz.prog W = .ok (.slice (some ⟨W.heap.size, 0, none⟩) 0 (2 * s.size + 4)) (W.alloc (.cells (arrB (List.replicate (2 * s.size + 4) 0)) 5)) := make_u8 0 (2 * s.size + 4) (by omega) (by omega)
  have x00 : bits .xor .u8 0 0 = 0 := by decide
  have x01 : bits .xor .u8 0 1 = 1 := by decide
  have x10 : bits .xor .u8 1 0 = 1 := by decide
  have x11 : bits .xor .u8 1 1 = 0 := by decide
  have HLz := Lib.hid hLz
  clear hs hu hl hsz hf hch hLb hpb hfe hfl hn hLz
  go_enter Tryz.func51, Tryz.ntmps51
  go_wp2
  go_loop [4] (fun x => ∃ k : Nat, k ≤ s.size ∧ x = .int .i64 (k : Int)) (fun x => s.size - (intOf x).toNat)
  case atStart => exact ⟨0, by omega, rfl⟩
  case round =>
    obtain ⟨k, hk, rfl⟩ := hrel
    by_cases h : k < s.size
    · have hkI : (k : Int) < s.size := by omega
      rcases Hch.out k h with hx | hx
      all_goals
        clear hL
        go_wp2
        go_round
        case rel => exact ⟨k + 1, by omega, by go_num⟩
        case measure => simp [intOf]; omega
    · have hkI : ¬ (k : Int) < s.size := by omega
      have hLz := HLz.out
      go_wp2
      clear hL hLz hmk
      go_loopw [6, 7] (fun v x wr => ∃ i j : Nat, i = j + 2 ∧ j ≤ s.size + 2 ∧ x = .int .i64 (i : Int) ∧ wr.ownsRow w.heap.size 5 1 v (2 * j) ((cenc 0 (f.take j)).map u8V) ∧ Below w.heap.size w wr) (fun _ x _ => s.size + 4 - (intOf x).toNat)
      case atStart => exact ⟨2, 0, rfl, by omega, rfl, own_room w _ (by omega), (Below.refl _ _).alloc (Nat.le_refl _) _⟩
      case round =>
        obtain ⟨i, j, hij, hj, rfl, ho, hB⟩ := hrel
        have Ho := Lib.hid ho
        have HBr := Lib.hid hB
        have hBz := HBr.out.size
        have Hij := Lib.hid hij
        have hi2 : 2 ≤ i := by omega
        have hi9 : i ≤ 1004 := by omega
        have hn8 : 2 * j ≤ 900000 := by omega
        clear ho hB hij
        by_cases h : i < L.size
        · have hiI : (i : Int) < L.size := by omega
          have hs1 : IntKind.i64.wrap ((i : Int) - 1) = (i : Int) - 1 := IntWalk.i64_in _ (by omega)
          have hs2 : ((i : Int) - 1).toNat = i - 1 := by omega
          have hs3 : (0 : Int) ≤ (i : Int) - 1 := by omega
          have hs4 : (i : Int) - 1 < L.size := by omega
          have ht1 : IntKind.i64.wrap ((i : Int) - 2) = (i : Int) - 2 := IntWalk.i64_in _ (by omega)
          have ht2 : ((i : Int) - 2).toNat = i - 2 := by omega
          have ht3 : (0 : Int) ≤ (i : Int) - 2 := by omega
          have ht4 : (i : Int) - 2 < L.size := by omega
          have ht5 : i - 2 < L.size := by omega
          have hs5 : i - 1 < L.size := by omega
          have hX := Hpb.out i h
          have hY := Hpb.out (i - 1) hs5
          have hZ := Hpb.out (i - 2) ht5
          have hij := Hij.out
          have hb0 := preB_lt Hf.out i
          have hb1 := preB_lt Hf.out (i - 1)
          have hb2 := preB_lt Hf.out (i - 2)
          have hce := cenc_pre Hf.out (j := j) (by have := Hfl.out; have := HLz.out; have := Hn.out; omega)
          rw [show j + 2 = i by omega, show j + 1 = i - 1 by omega, show preB f j = preB f (i - 2) by congr 1; omega] at hce
          have hj2 : j + 1 ≤ s.size + 2 := by have := HLz.out; omega
          generalize preB f i = b0 at *
          generalize preB f (i - 1) = b1 at *
          generalize preB f (i - 2) = b2 at *
          rw [← show j + 1 = i - 1 by omega] at hce
          have Hce := Lib.hid hce
          clear hce hij
          rcases (by omega : b0 = 0 ∨ b0 = 1) with rfl | rfl
          all_goals rcases (by omega : b1 = 0 ∨ b1 = 1) with rfl | rfl
          all_goals rcases (by omega : b2 = 0 ∨ b2 = 1) with rfl | rfl
          all_goals
            clear hb0 hb1 hb2
            go_wp2
            go_quiet (fail)
            have Ho2 := Lib.hid (own_kept Ho.out (below_drewN (Below.refl _ _) nq))
            have HB2 := Lib.hid (below_drewN HBr.out nq)
            have hBz2 := HB2.out.size
            clear Ho HBr hBz hs1 hs2 hs3 hs4 hs5 ht1 ht2 ht3 ht4 ht5 hX hY hZ
            generalize wr.drewN nq = wd at *
            go_wp2_with (at_builtin; refine wpList_app2 rfl _ _ rfl rfl rfl Ho2.out hn8 hBz2 ?_; intro v1 w1 ho1 hb1)
            go_roundw
            case rel =>
              refine ⟨i + 1, j + 1, by have := Hij.out; omega, hj2, by go_num, ?_, HB2.out.trans hb1⟩
              rw [Hce.out]
              exact ho1
            case measure => simp [intOf]; have := HLz.out; omega
        · have hiI : ¬ (i : Int) < L.size := by omega
          have ho := Ho.out
          have hj9 : j = f.length := by have := Hfl.out; have := HLz.out; have := Hn.out; have := Hij.out; omega
          rw [hj9, List.take_length] at ho
          have hv := BytesAt.of_own ho
          obtain ⟨A, c, rfl, j1, j2, j3⟩ := BytesAt.of_own ho
          have hcs := run_toStr hv rfl
          clear j3 hv ho
          go_wp2
          go_ret2
          exact ⟨rfl, HBr.out⟩

end Go.Proofs.YtbeooijgkbkniaaGreatDoor
