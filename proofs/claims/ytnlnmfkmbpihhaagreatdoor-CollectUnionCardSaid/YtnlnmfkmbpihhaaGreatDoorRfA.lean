/-
 WALKS: the references' FromBytes, Order, Interleave.
 WALKS: the references' Order, Interleave, Encode of the inner code.
 WALK: the reference's Encode of the inner code.
 append of zeros that 'make' would lay ('append(b, make([]byte, 8)...)') to a slice of a string's bytes.
 WALKS: the reference's Generator and Encode of the outer code, at eight parity symbols.
 WALK: the reference's Encode of the outer code, at a message of 44 bytes.
-/
import Derived.Test.YtnlnmfkmbpihhaaGreatDoorStrW
import Derived.Test.YtnlnmfkmbpihhaaGreatDoorPolW
import Derived.Test.YtnlnmfkmbpihhaaGreatDoorFrB
import Derived.Laws.IdiomCopy
namespace Go.Proofs.YtnlnmfkmbpihhaaGreatDoor
open Go.RowKit

theorem vint {k : IntKind} {a b : Int} (h : a = b) : Value.int k a = Value.int k b := by rw [h]
theorem byC_quo (b : Nat) : ∀ j, j < 8 → byC b j = 48 + b / (128 / 2 ^ j) % 2 := by
 intro j hj
 unfold byC
 rcases (by omega : j = 0 ∨ j = 1 ∨ j = 2 ∨ j = 3 ∨ j = 4 ∨ j = 5 ∨ j = 6 ∨ j = 7) with rfl | rfl | rfl | rfl | rfl | rfl | rfl | rfl <;> rfl
theorem half_pow (j : Nat) : 128 / 2 ^ j / 2 = 128 / 2 ^ (j + 1) := by rw [Nat.div_div_eq_div_mul, Nat.pow_succ]
theorem half_pos {j : Nat} (hj : j < 8) : 0 < 128 / 2 ^ j ∧ 128 / 2 ^ j ≤ 128 := by
 rcases (by omega : j = 0 ∨ j = 1 ∨ j = 2 ∨ j = 3 ∨ j = 4 ∨ j = 5 ∨ j = 6 ∨ j = 7) with rfl | rfl | rfl | rfl | rfl | rfl | rfl | rfl <;> decide
theorem byCs_take {b j : Nat} (hj : j < 8) : (byCs b).take j ++ [byC b j] = (byCs b).take (j + 1) := by
 rw [List.take_succ_eq_append_getElem (by rw [byCs_len]; exact hj)]
 congr 2
 unfold byCs
 simp
theorem bs_take_snoc (s : ByteArray) {i : Nat} (h : i < s.size) : (bs s).take (i + 1) = (bs s).take i ++ [(s[i]'h).toNat] := by
 rw [List.take_succ_eq_append_getElem (by rw [bs_len]; exact h)]
 congr 2
 exact Option.some.inj ((List.getElem?_eq_getElem _).symm.trans (bs_get s i h))
set_option maxRecDepth 100000 in
set_option maxHeartbeats 4000000 in
theorem rfrom_any (w : World) (s : ByteArray) (hs : s.size ≤ 1000) : Calls Tryz.prog 72 #[.string s] w fun e w' => e = .returned (.string (strB (frmB (bs s)))) ∧ Below w.heap.size w w' := by
 have HK0 : Hid ((w.alloc (.cells #[] 5)).ownsRow w.heap.size 5 1 (.slice (some ⟨w.heap.size, 0, none⟩) 0 0) 0 (([] : List Nat).map u8V)) := Lib.hid (own_empty w 5 1)
 have HB0 := Lib.hid ((Below.refl w.heap.size w).alloc (Nat.le_refl _) (.cells #[] 5))
 go_enter Tryz.func72, Tryz.ntmps72
 go_wp2
 go_loopw [3, 4] (fun v x wr => ∃ i : Nat, i ≤ s.size ∧ x = .int .i64 i ∧ wr.ownsRow w.heap.size 5 1 v (8 * i) ((frmB ((bs s).take i)).map u8V) ∧ Below w.heap.size w wr) (fun _ x _ => s.size - (intOf x).toNat)
 case atStart => exact ⟨0, by omega, rfl, HK0.out, HB0.out⟩
 case round =>
  obtain ⟨i, hi, rfl, ho, hB⟩ := hrel
  have Ho := Lib.hid ho
  have HBr := Lib.hid hB
  clear ho hB HK0 HB0
  by_cases h : i < s.size
  ·have hiI : (i : Int) < s.size := by omega
   have Hsn := Lib.hid (bs_take_snoc s h)
   obtain ⟨b, hb⟩ : ∃ b, (s[i]'h).toNat = b := ⟨_, rfl⟩
   have hb2 : b < 256 := by rw [← hb]; exact (s[i]'h).toNat_lt
   rw [hb] at Hsn
   go_wp2
   go_loopw [3, 5] (fun v y wr => ∃ j : Nat, j ≤ 8 ∧ y = .int .i64 ((128 / 2 ^ j : Nat) : Int) ∧ wr.ownsRow w.heap.size 5 1 v (8 * i + j) ((frmB ((bs s).take i) ++ (byCs b).take j).map u8V) ∧ Below w.heap.size w wr) (fun _ y _ => (intOf y).toNat)
   case atStart => exact ⟨0, by omega, rfl, by simpa using Ho.out, HBr.out⟩
   case round =>
    obtain ⟨j, hj, rfl, ho, hB⟩ := hrel
    clear Ho HBr
    have Ho := Lib.hid ho
    have HBr := Lib.hid hB
    clear ho hB
    have Hp := Lib.hid (half_pow j)
    by_cases h' : j < 8
    ·obtain ⟨hK0, hK1⟩ := half_pos h'
     have hq0 := byC_quo b j h'
     have Ht := Lib.hid (byCs_take (b := b) h')
     obtain ⟨K, hK⟩ : ∃ K, 128 / 2 ^ j = K := ⟨_, rfl⟩
     rw [hK] at hK0 hK1 hq0 Hp ⊢
     clear hK
     have hKI : (0 : Int) < K := by omega
     have hdv : (0 : Int) ≤ (b : Int) / K := Int.ediv_nonneg (by omega) (by omega)
     have hdl : (b : Int) / K ≤ 255 := Int.le_trans (Int.ediv_le_self _ (by omega)) (by omega)
     have hn9 : 8 * i + j ≤ 900000 := by omega
     have hBz := HBr.out.size
     have hcast : (b : Int) / K % 2 = ((b / K % 2 : Nat) : Int) := rfl
     rcases (by omega : b / K % 2 = 0 ∨ b / K % 2 = 1) with e | e
     ·rw [e] at hcast hq0
      have Hq0 := Lib.hid hq0
      clear e hq0
      have hcast : (b : Int) / K % 2 = 0 := hcast
      go_wp2_with (at_builtin; refine wpList_app1 (x := 48) rfl _ _ rfl rfl rfl Ho.out hn9 hBz ?_; intro v1 w1 ho1 hb1)
      go_roundw
      case rel =>
       refine ⟨j + 1, by omega, vint (by rw [← Hp.out]; rfl), ?_, HBr.out.trans hb1⟩
       rw [← Ht.out, Hq0.out, ← List.append_assoc]
       exact ho1
      case measure => simp [intOf]; omega
     ·rw [e] at hcast hq0
      have Hq0 := Lib.hid hq0
      clear e hq0
      have hcast : (b : Int) / K % 2 = 1 := hcast
      go_wp2_with (at_builtin; refine wpList_app1 (x := 49) rfl _ _ rfl rfl rfl Ho.out hn9 hBz ?_; intro v1 w1 ho1 hb1)
      go_roundw
      case rel =>
       refine ⟨j + 1, by omega, vint (by rw [← Hp.out]; rfl), ?_, HBr.out.trans hb1⟩
       rw [← Ht.out, Hq0.out, ← List.append_assoc]
       exact ho1
      case measure => simp [intOf]; omega
    ·obtain rfl : j = 8 := by omega
     have Hf := Lib.hid (frmB_snoc ((bs s).take i) b)
     go_wp2
     go_roundw
     case rel =>
      refine ⟨i + 1, by omega, by go_num, ?_, HBr.out⟩
      rw [Hsn.out, Hf.out]
      have h8 := Ho.out
      rw [List.take_of_length_le (l := byCs b) (by rw [byCs_len]; exact Nat.le_refl _)] at h8
      exact h8
     case measure => simp [intOf]; omega
  ·obtain rfl : i = s.size := by omega
   have ho := Ho.out
   rw [List.take_of_length_le (by rw [bs_len]; exact Nat.le_refl _)] at ho
   obtain ⟨A, c, rfl⟩ : ∃ A c, _ = Value.slice A _ c := by
    obtain ⟨A, c, e, _⟩ := BytesAt.of_own ho
    exact ⟨A, c, e⟩
   have hcv := run_toStr (BytesAt.of_own ho) rfl
   go_wp2
   go_ret
   exact ⟨rfl, HBr.out⟩

end Go.Proofs.YtnlnmfkmbpihhaaGreatDoor

namespace Go.Proofs.YtnlnmfkmbpihhaaGreatDoor
open Go.RowKit

/-- The first n places in the order of the interleaved form. -/
def ordL (n : Nat) : List Nat := (List.range n).map uil
theorem ordL_succ (n : Nat) : ordL (n + 1) = ordL n ++ [uil n] := by unfold ordL; rw [List.range_succ, List.map_append]; rfl
theorem ordL_len (n : Nat) : (ordL n).length = n := by unfold ordL; rw [List.length_map, List.length_range]
/-- Where row r begins. -/
def rowAt (r : Nat) : Nat := r * 104 + min r 4
theorem min4 (r : Nat) : min r 4 = r ∧ r ≤ 4 ∨ min r 4 = 4 ∧ 4 ≤ r := by
 rcases Nat.le_total r 4 with h | h
 ·exact .inl ⟨Nat.min_eq_left h, h⟩
 ·exact .inr ⟨Nat.min_eq_right h, h⟩
theorem uil_row {r q : Nat} (hr : r < 8) (h : r + 8 * q < 836) : uil (rowAt r + q) = r + 8 * q := by
 have e : rowAt r + q = ilv (r + 8 * q) := by
  unfold rowAt ilv
  rw [show (r + 8 * q) % 8 = r by omega, show (r + 8 * q) / 8 = q by omega]
 rw [e, uil_ilv h]
theorem rowAt_end {r q : Nat} (hr : r < 8) (h : r + 8 * q = 836) : rowAt r + q = rowAt (r + 1) := by
 have h1 := min4 r
 have h2 := min4 (r + 1)
 unfold rowAt
 omega
theorem rowAt_last {r q : Nat} (hr : r < 8) (h : 828 < r + 8 * q) (h' : r + 8 * q < 836) : rowAt r + (q + 1) = rowAt (r + 1) := by
 have h1 := min4 r
 have h2 := min4 (r + 1)
 unfold rowAt
 omega
theorem rowAt_le {r q : Nat} (hr : r < 8) (h : r + 8 * q ≤ 836) : rowAt r + q ≤ 836 := by
 have h1 := min4 r
 unfold rowAt
 omega

set_option maxRecDepth 100000 in
set_option maxHeartbeats 4000000 in
theorem rorder_any (w : World) : Calls Tryz.prog 135 #[.int .i64 836, .int .i64 8] w fun e w' => ∃ v, e = .returned v ∧ SlAt (PlainR natV) w' v (ordL 836) ∧ Below w.heap.size w w' := by
 have HK0 : Hid ((w.alloc (.cells #[] 3)).ownsRow w.heap.size 3 1 (.slice (some ⟨w.heap.size, 0, none⟩) 0 0) (rowAt 0) ((ordL (rowAt 0)).map natV)) := Lib.hid (own_empty w 3 1)
 have HB0 := Lib.hid ((Below.refl w.heap.size w).alloc (Nat.le_refl _) (.cells #[] 3))
 go_enter Tryz.func135, Tryz.ntmps135
 go_wp2
 go_loopw [5, 6] (fun v x wr => ∃ r : Nat, r ≤ 8 ∧ x = .int .i64 (r : Int) ∧ wr.ownsRow w.heap.size 3 1 v (rowAt r) ((ordL (rowAt r)).map natV) ∧ Below w.heap.size w wr) (fun _ x _ => 8 - (intOf x).toNat)
 case atStart => exact ⟨0, by omega, rfl, HK0.out, HB0.out⟩
 case round =>
  obtain ⟨r, hr, rfl, ho, hB⟩ := hrel
  have Ho := Lib.hid ho
  have HBr := Lib.hid hB
  clear ho hB HK0 HB0
  by_cases h : r < 8
  ·have hrI : (r : Int) < 8 := by omega
   have hrJ : (r : Int) < 836 := by omega
   go_wp2
   go_loopw [5, 7] (fun v y wr => ∃ q i : Nat, i ≤ 836 ∧ i = r + 8 * q ∧ y = .int .i64 (i : Int) ∧ wr.ownsRow w.heap.size 3 1 v (rowAt r + q) ((ordL (rowAt r + q)).map natV) ∧ Below w.heap.size w wr) (fun _ y _ => 836 - (intOf y).toNat)
   case atStart => exact ⟨0, r, by omega, by omega, rfl, Ho.out, HBr.out⟩
   case round =>
    obtain ⟨q, i, hi, hq, rfl, ho, hB⟩ := hrel
    clear Ho HBr
    have Ho := Lib.hid ho
    have HBr := Lib.hid hB
    have Hq := Lib.hid hq
    have hBz := HBr.out.size
    have hle : rowAt r + q ≤ 900000 := by have := rowAt_le (r := r) (q := q) h (by omega); omega
    clear ho hB
    by_cases h' : i < 836
    ·have hiI : (i : Int) < 836 := by omega
     have Hu : Hid (ordL (rowAt r + (q + 1)) = ordL (rowAt r + q) ++ [i]) := Lib.hid (by rw [← Nat.add_assoc, ordL_succ, uil_row h (by omega), ← hq])
     by_cases hb : 828 < i
     ·have hbI : (828 : Int) < i := by omega
      have Hl := Lib.hid (rowAt_last (q := q) h (by omega) (by omega))
      clear hq
      go_wp2_with (at_builtin; refine wpList_appOne Tryz.underlying70 Tryz.infoInt rfl (by omega) rfl _ _ rfl rfl rfl rfl Ho.out hle hBz ?_; intro v1 w1 ho1 hb1)
      go_roundw
      case rel =>
       refine ⟨r + 1, by omega, by go_num, ?_, HBr.out.trans hb1⟩
       rw [← Hl.out, Hu.out, List.map_append]
       exact ho1
      case measure => simp [intOf]; omega
     ·have hbI : ¬ (828 : Int) < i := by omega
      clear hq
      go_wp2_with (at_builtin; refine wpList_appOne Tryz.underlying70 Tryz.infoInt rfl (by omega) rfl _ _ rfl rfl rfl rfl Ho.out hle hBz ?_; intro v1 w1 ho1 hb1)
      go_roundw
      case rel =>
       refine ⟨q + 1, i + 8, by omega, by have := Hq.out; omega, by go_num, ?_, HBr.out.trans hb1⟩
       rw [Hu.out, List.map_append]
       exact ho1
      case measure => simp [intOf]; omega
    ·have hiI : ¬ (i : Int) < 836 := by omega
     have Hl := Lib.hid (rowAt_end (q := q) h (by omega))
     clear hq
     go_wp2
     go_roundw
     case rel => exact ⟨r + 1, by omega, by go_num, by rw [← Hl.out]; exact Ho.out, HBr.out⟩
     case measure => simp [intOf]; omega
  ·obtain rfl : r = 8 := by omega
   have Hv := Lib.hid (SlAt.of_own Ho.out)
   go_wp2
   go_ret
   exact ⟨_, rfl, Hv.out, HBr.out⟩

theorem interL_take (l : List Nat) (k : Nat) (h : k < 836) : (interL l).take (k + 1) = (interL l).take k ++ [cf l (uil k)] := by
 have hk : k < (interL l).length := by rw [interL_len]; exact h
 have h2 : cf (interL l) k = (interL l)[k] := cf_get (List.getElem?_eq_getElem hk)
 have h3 : cf (interL l) k = cf l (uil k) := by unfold interL; rw [cf_map, if_pos h]
 rw [List.take_succ_eq_append_getElem hk, ← h2, h3]
set_option maxRecDepth 100000 in
set_option maxHeartbeats 4000000 in
theorem rinter_any (w : World) (s : ByteArray) (hs : s.size = 836) : Calls Tryz.prog 73 #[.string s, .int .i64 8] w fun e w' => e = .returned (.tuple #[.string (strB (interL (bs s))), .int .i64 0]) ∧ Below w.heap.size w w' := by
 go_enter Tryz.func73, Tryz.ntmps73
 go_upto_region 4 with (go_at_call 135; refine (rorder_any _).mono ?_; rintro e w1 ⟨v1, rfl, hv1, hb1⟩)
 have Hv := Lib.hid hv1
 obtain ⟨A1, c1, rfl, k1, k2, k3⟩ := hv1
 rw [ordL_len] at k1
 have HK0 : Hid ((w1.alloc (.cells #[] 5)).ownsRow w1.heap.size 5 1 (.slice (some ⟨w1.heap.size, 0, none⟩) 0 0) 0 (([] : List Nat).map u8V)) := Lib.hid (own_empty w1 5 1)
 have HB0 := Lib.hid ((Below.refl w1.heap.size w1).alloc (Nat.le_refl _) (.cells #[] 5))
 have HB1 := Lib.hid hb1
 clear k3 hb1
 rw [ordL_len]
 go_wp2
 go_loopw [7, 8] (fun v x wr => ∃ k : Nat, k ≤ 836 ∧ x = .int .i64 (k : Int) ∧ wr.ownsRow w1.heap.size 5 1 v k (((interL (bs s)).take k).map u8V) ∧ Below w1.heap.size w1 wr) (fun _ x _ => 836 - (intOf x).toNat)
 case atStart => exact ⟨0, by omega, rfl, HK0.out, HB0.out⟩
 case round =>
  obtain ⟨k, hk, rfl, ho, hB⟩ := hrel
  clear HK0 HB0
  have Ho := Lib.hid ho
  have HBr := Lib.hid hB
  have hBz := HBr.out.size
  clear ho hB
  by_cases h : k < 836
  ·have hkI : (k : Int) < 836 := by omega
   have hu := (ilv_uil h).2
   obtain ⟨b, o, rfl, hc⟩ := SlAt.cell (SlAt.keep Hv.out (fun _ _ => cell_below HBr.out) plainR_keep) (i := k) (x := uil k) (by unfold ordL; rw [List.getElem?_map, List.getElem?_range h]; rfl)
   have Ht := Lib.hid (interL_take (bs s) k h)
   have hle : k ≤ 900000 := by omega
   generalize uil k = u at *
   have huI : (u : Int) < s.size := by omega
   have hus : u < s.size := by omega
   have Hx := Lib.hid (bs_cf s u hus)
   go_wp2_with (at_builtin; refine wpList_app1 rfl _ _ rfl rfl rfl Ho.out hle hBz ?_; intro v1 w2 ho1 hb1)
   go_roundw
   case rel =>
    refine ⟨k + 1, by omega, by go_num, ?_, HBr.out.trans hb1⟩
    rw [Ht.out, Hx.out]
    exact ho1
   case measure => simp [intOf]; omega
  ·obtain rfl : k = 836 := by omega
   have ho := Ho.out
   rw [List.take_of_length_le (by rw [interL_len]; exact Nat.le_refl _)] at ho
   have hv := BytesAt.of_own ho
   obtain ⟨A, c, rfl, j1, j2, j3⟩ := BytesAt.of_own ho
   have hcs := run_toStr hv rfl
   clear j3
   rw [interL_len] at hcs ⊢
   clear hv ho
   go_wp2
   go_ret2
   exact ⟨rfl, HB1.out.trans (HBr.out.mono HB1.out.size)⟩

end Go.Proofs.YtnlnmfkmbpihhaaGreatDoor

namespace Go.Proofs.YtnlnmfkmbpihhaaGreatDoor
open Go.RowKit

/-- append of two bytes to a row of the call's own. -/
theorem run_app2 {W : World} {B n : Nat} {v : Value} {xs : List Nat} (ty : TypeId) (x y : Nat) (hown : W.ownsRow B 5 1 v n (xs.map u8V)) (hn : n ≤ 900000) (hB : B ≤ W.heap.size) :
  ∃ v' w', (Builtin.append_ #[100, 100] ty #[v, .slice (some ⟨W.heap.size, 0, none⟩) 2 2]).run Tryz.prog (W.alloc (.cells #[.int .u8 (x : Int), .int .u8 (y : Int)] 5)) = .ok v' w' ∧ w'.ownsRow B 5 1 v' (n + 2) ((xs ++ [x, y]).map u8V) ∧ Below B W w' := by
 have hb : BytesAt (W.alloc (.cells #[.int .u8 (x : Int), .int .u8 (y : Int)] 5)) (.slice (some ⟨W.heap.size, 0, none⟩) 2 2) [x, y] := U8B.bytes (U8B.new W [x, y]) rfl (Nat.le_refl _) (by omega)
 obtain ⟨v', w', hr, h1, h2, _⟩ := run_appendV (W.alloc (.cells #[.int .u8 (x : Int), .int .u8 (y : Int)] 5)) Tryz.underlying100 Tryz.infoU8 rfl (by omega) B ty v n _ (hown.alloc _) _ [u8V x, u8V y] hb.vAt (one_u8s [x, y]) (by simp; omega) (by simp; omega)
 refine ⟨v', w', hr, by simpa using h1, ?_⟩
 exact ((Below.refl _ _).alloc hB _).grown h2 (by simp; omega) (own_ge hown)
theorem wpList_app2 {ops : Array Oper} {rest : List Oper} {o : Oper} {a : Act} {Q : Exit → Act → World → Prop} {W : World} {B n : Nat} {v : Value} {xs : List Nat} {x y : Nat} (hw : Region.wanted o (yielded ops a.tmps) = true) (s z : Operand) (ho : o.op = .call { callee := .builtin .append, args := #[s, z], argTypes := #[100, 100] })
  (hs : a.eval s = v) (hy : a.eval z = .slice (some ⟨W.heap.size, 0, none⟩) 2 2) (hown : W.ownsRow B 5 1 v n (xs.map u8V)) (hn : n ≤ 900000) (hB : B ≤ W.heap.size)
  (h : ∀ v' w', w'.ownsRow B 5 1 v' (n + 2) ((xs ++ [x, y]).map u8V) → Below B W w' → wpList Tryz.prog ops Q rest (a.put o.dst v') w') : wpList Tryz.prog ops Q (o :: rest) a (W.alloc (.cells #[.int .u8 (x : Int), .int .u8 (y : Int)] 5)) :=
 wpList_step fun K hK => by
  simp only [hw, if_true]
  obtain ⟨v', w', hr, g1, g2⟩ := run_app2 o.type x y hown hn hB
  unfold Oper.wp execOp
  simp only [ho, resolve, invoke, builtin, Sem.run_bind, Sem.run_pure, Result.andThen_ok, List.map_toArray, List.map_cons, List.map_nil, hs, hy, hr]
  exact hK _ _ (h v' w' g1 g2)
/-- A slice with room, of no elements. -/
theorem own_room (w : World) (c : Nat) (hc : c ≤ 1000000) : (w.alloc (.cells (arrB (List.replicate c 0)) 5)).ownsRow w.heap.size 5 1 (.slice (some ⟨w.heap.size, 0, none⟩) 0 c) 0 [] :=
 ⟨by simp, .inr ⟨w.heap.size, c, arrB (List.replicate c 0), rfl, Nat.le_refl _, by show (w.heap.push _)[w.heap.size]? = _; simp, Nat.zero_le _, Nat.le_trans hc (by decide), by simp [arrB], by simp⟩⟩

theorem own_kept {w w' : World} {B n : Nat} {t : TypeId} {v : Value} {xs : List Value} (h : w.ownsRow B t 1 v n xs) (hb : Below w.heap.size w w') : w'.ownsRow B t 1 v n xs := by
 obtain ⟨hl, h⟩ := h
 refine ⟨hl, h.imp id ?_⟩
 rintro ⟨g, cap, cur, e, hB, hg, r⟩
 exact ⟨g, cap, cur, e, hB, (hb.block g (Array.getElem?_eq_some_iff.1 hg).1).trans hg, r⟩
theorem bitsS_48 {u : List Nat} (h : Bits u) : B01 (bitsS u) := fun c hc => by
 obtain ⟨x, hx, rfl⟩ := List.mem_map.1 hc
 have := h x hx
 omega
/-- The bits behind two zeros. -/
def preB (f : List Nat) (j : Nat) : Nat := cf (0 :: 0 :: f) j
theorem preB_lt {f : List Nat} (h : Bits f) (j : Nat) : preB f j < 2 := by
 unfold preB cf
 match j with
 | 0 => exact (by omega : (0 : Nat) < 2)
 | 1 => exact (by omega : (0 : Nat) < 2)
 | j + 2 =>
  show ((f[j]?).getD 0) < 2
  cases e : f[j]? with
  | none => exact (by omega : (0 : Nat) < 2)
  | some x => exact h x (List.mem_of_getElem? e)
theorem take_snoc_cf {f : List Nat} {j : Nat} (hj : j < f.length) : f.take (j + 1) = f.take j ++ [cf f j] := by
 rw [List.take_succ_eq_append_getElem hj, cf_get (List.getElem?_eq_getElem hj)]
theorem cst_pre {f : List Nat} (h : Bits f) : ∀ j, j ≤ f.length → cst 0 (f.take j) = 2 * preB f (j + 1) + preB f j
 | 0, _ => rfl
 | j + 1, hj => by
  have ih := cst_pre h j (by omega)
  have hb := preB_lt h j
  rw [take_snoc_cf (by omega), cst_append, ih]
  show cnx _ (cf f j) = _
  unfold cnx
  have e : preB f (j + 1 + 1) = cf f j := rfl
  omega
theorem cenc_pre {f : List Nat} (h : Bits f) {j : Nat} (hj : j < f.length) :
  cenc 0 (f.take (j + 1)) = cenc 0 (f.take j) ++ [48 + (preB f (j + 2) + preB f (j + 1) + preB f j) % 2, 48 + (preB f (j + 2) + preB f j) % 2] := by
 have h1 := preB_lt h j
 have h2 := preB_lt h (j + 1)
 rw [take_snoc_cf hj, cenc_append, cst_pre h j (by omega)]
 have e : preB f (j + 2) = cf f j := rfl
 congr 1
 show [co1 _ _, co2 _ _] = _
 unfold co1 co2
 rw [e, show (2 * preB f (j + 1) + preB f j) / 2 = preB f (j + 1) by omega, show (2 * preB f (j + 1) + preB f j) % 2 = preB f j by omega]

set_option maxRecDepth 100000 in
set_option maxHeartbeats 8000000 in
theorem rcenc_any (w : World) (s : ByteArray) (u : List Nat) (hs : bs s = bitsS u) (hu : Bits u) (hl : u.length ≤ 1000) :
  Calls Tryz.prog 71 #[.string s] w fun e w' => e = .returned (.tuple #[.string (strB (cenc 0 (u ++ [0, 0]))), .int .i64 0]) ∧ Below w.heap.size w w' := by
 have hsz : s.size = u.length := by rw [← bs_len, hs, bitsS_len]
 have hf : Bits (u ++ [0, 0]) := fun x hx => by
  rcases List.mem_append.1 hx with hx | hx
  ·exact hu x hx
  ·simp at hx; omega
 have hch : ∀ i (h : i < s.size), (s[i]'h).toNat = 48 ∨ (s[i]'h).toNat = 49 := fun i h => by
  rw [← bs_cf s i h, hs]
  have h1 : i < (bitsS u).length := by rw [bitsS_len]; omega
  rw [cf_get (List.getElem?_eq_getElem h1)]
  exact bitsS_48 hu _ (List.getElem_mem h1)
 obtain ⟨L, hL⟩ : ∃ L, (⟨#[48, 48]⟩ : ByteArray) ++ s ++ ⟨#[48, 48]⟩ = L := ⟨_, rfl⟩
 have hLz : L.size = s.size + 4 := by
  rw [← hL, ByteArray.size_append, ByteArray.size_append]
  show 2 + s.size + 2 = _
  omega
 have hLb : bs L = 48 :: 48 :: bitsS (u ++ [0, 0]) := by
  rw [← hL, ← strB_bs s, hs]
  rw [show (⟨#[48, 48]⟩ : ByteArray) = strB [48, 48] from rfl, strB_cat, strB_cat, bs_strB]
  ·unfold bitsS
   rw [List.map_append]
   rfl
  ·intro b hb
   rcases List.mem_append.1 hb with hb | hb
   ·rcases List.mem_append.1 hb with hb | hb
    ·simp at hb; omega
    ·have := bitsS_48 hu b hb; omega
   ·simp at hb; omega
 have hpb : ∀ i (h : i < L.size), (L[i]'h).toNat = 48 + preB (u ++ [0, 0]) i := fun i h => by
  rw [← bs_cf L i h, hLb]
  have e : (48 :: 48 :: bitsS (u ++ [0, 0])) = (0 :: 0 :: (u ++ [0, 0])).map (48 + ·) := rfl
  have h1 : i < (0 :: 0 :: (u ++ [0, 0])).length := by simp; omega
  rw [e]
  unfold cf preB cf
  rw [List.getElem?_map, List.getElem?_eq_getElem h1]
  rfl
 obtain ⟨n, hn⟩ : ∃ n, s.size = n := ⟨_, rfl⟩
 have Hch := Lib.hid hch
 have Hpb := Lib.hid hpb
 have Hf := Lib.hid hf
 obtain ⟨f, hfe⟩ : ∃ f, u ++ [0, 0] = f := ⟨_, rfl⟩
 have hfl : f.length = n + 2 := by rw [← hfe, List.length_append, ← hn, hsz]; rfl
 rw [hfe] at Hf Hpb ⊢
 have Hfl := Lib.hid hfl
 have hn9 : s.size ≤ 1000 := by omega
 have Hn := Lib.hid hn
 have hmk : ∀ W : World, (Instr.makeSlice 100 (.int .i64 0) (.int .i64 (2 * (s.size : Int) + 4))).run Tryz.prog W = .ok (.slice (some ⟨W.heap.size, 0, none⟩) 0 (2 * s.size + 4)) (W.alloc (.cells (arrB (List.replicate (2 * s.size + 4) 0)) 5)) := make_u8 0 (2 * s.size + 4) (by omega) (by omega)
 have x00 : bits .xor .u8 0 0 = 0 := by decide
 have x01 : bits .xor .u8 0 1 = 1 := by decide
 have x10 : bits .xor .u8 1 0 = 1 := by decide
 have x11 : bits .xor .u8 1 1 = 0 := by decide
 have HLz := Lib.hid hLz
 clear hs hu hl hsz hf hch hLb hpb hfe hfl hn hLz
 go_enter Tryz.func71, Tryz.ntmps71
 go_wp2
 go_loop [4] (fun x => ∃ k : Nat, k ≤ s.size ∧ x = .int .i64 (k : Int)) (fun x => s.size - (intOf x).toNat)
 case atStart => exact ⟨0, by omega, rfl⟩
 case round =>
  obtain ⟨k, hk, rfl⟩ := hrel
  by_cases h : k < s.size
  ·have hkI : (k : Int) < s.size := by omega
   rcases Hch.out k h with hx | hx
   all_goals
    clear hL
    go_wp2
    go_round
    case rel => exact ⟨k + 1, by omega, by go_num⟩
    case measure => simp [intOf]; omega
  ·have hkI : ¬ (k : Int) < s.size := by omega
   have hLz := HLz.out
   go_wp2
   clear hL hLz hmk
   go_loopw [6, 7] (fun v x wr => ∃ i j : Nat, i = j + 2 ∧ j ≤ s.size + 2 ∧ x = .int .i64 (i : Int) ∧ wr.ownsRow w.heap.size 5 1 v (2 * j) ((cenc 0 (f.take j)).map u8V) ∧ Below w.heap.size w wr) (fun _ x _ => s.size + 4 - (intOf x).toNat)
   case atStart => exact ⟨2, 0, rfl, by omega, rfl, own_room w _ (by omega), (Below.refl _ _).alloc (Nat.le_refl _) _⟩
   case round =>
    obtain ⟨i, j, hij, hj, rfl, ho, hB⟩ := hrel
    have Ho := Lib.hid ho
    have HBr := Lib.hid hB
    have hBz := HBr.out.size
    have Hij := Lib.hid hij
    have hi2 : 2 ≤ i := by omega
    have hi9 : i ≤ 1004 := by omega
    have hn8 : 2 * j ≤ 900000 := by omega
    clear ho hB hij
    by_cases h : i < L.size
    ·have hiI : (i : Int) < L.size := by omega
     have hs1 : IntKind.i64.wrap ((i : Int) - 1) = (i : Int) - 1 := IntWalk.i64_in _ (by omega)
     have hs2 : ((i : Int) - 1).toNat = i - 1 := by omega
     have hs3 : (0 : Int) ≤ (i : Int) - 1 := by omega
     have hs4 : (i : Int) - 1 < L.size := by omega
     have ht1 : IntKind.i64.wrap ((i : Int) - 2) = (i : Int) - 2 := IntWalk.i64_in _ (by omega)
     have ht2 : ((i : Int) - 2).toNat = i - 2 := by omega
     have ht3 : (0 : Int) ≤ (i : Int) - 2 := by omega
     have ht4 : (i : Int) - 2 < L.size := by omega
     have ht5 : i - 2 < L.size := by omega
     have hs5 : i - 1 < L.size := by omega
     have hX := Hpb.out i h
     have hY := Hpb.out (i - 1) hs5
     have hZ := Hpb.out (i - 2) ht5
     have hij := Hij.out
     have hb0 := preB_lt Hf.out i
     have hb1 := preB_lt Hf.out (i - 1)
     have hb2 := preB_lt Hf.out (i - 2)
     have hce := cenc_pre Hf.out (j := j) (by have := Hfl.out; have := HLz.out; have := Hn.out; omega)
     rw [show j + 2 = i by omega, show j + 1 = i - 1 by omega, show preB f j = preB f (i - 2) by congr 1; omega] at hce
     have hj2 : j + 1 ≤ s.size + 2 := by have := HLz.out; omega
     generalize preB f i = b0 at *
     generalize preB f (i - 1) = b1 at *
     generalize preB f (i - 2) = b2 at *
     rw [← show j + 1 = i - 1 by omega] at hce
     have Hce := Lib.hid hce
     clear hce hij
     rcases (by omega : b0 = 0 ∨ b0 = 1) with rfl | rfl
     all_goals rcases (by omega : b1 = 0 ∨ b1 = 1) with rfl | rfl
     all_goals rcases (by omega : b2 = 0 ∨ b2 = 1) with rfl | rfl
     all_goals
      clear hb0 hb1 hb2
      go_wp2
      go_quiet (fail)
      have Ho2 := Lib.hid (own_kept Ho.out (below_drewN (Below.refl _ _) nq))
      have HB2 := Lib.hid (below_drewN HBr.out nq)
      have hBz2 := HB2.out.size
      clear Ho HBr hBz hs1 hs2 hs3 hs4 hs5 ht1 ht2 ht3 ht4 ht5 hX hY hZ
      generalize wr.drewN nq = wd at *
      go_wp2_with (at_builtin; refine wpList_app2 rfl _ _ rfl rfl rfl Ho2.out hn8 hBz2 ?_; intro v1 w1 ho1 hb1)
      go_roundw
      case rel =>
       refine ⟨i + 1, j + 1, by have := Hij.out; omega, hj2, by go_num, ?_, HB2.out.trans hb1⟩
       rw [Hce.out]
       exact ho1
      case measure => simp [intOf]; have := HLz.out; omega
    ·have hiI : ¬ (i : Int) < L.size := by omega
     have ho := Ho.out
     have hj9 : j = f.length := by have := Hfl.out; have := HLz.out; have := Hn.out; have := Hij.out; omega
     rw [hj9, List.take_length] at ho
     have hv := BytesAt.of_own ho
     obtain ⟨A, c, rfl, j1, j2, j3⟩ := BytesAt.of_own ho
     have hcs := run_toStr hv rfl
     clear j3 hv ho
     go_wp2
     go_ret2
     exact ⟨rfl, HBr.out⟩

end Go.Proofs.YtnlnmfkmbpihhaaGreatDoor

namespace Go.Proofs.YtnlnmfkmbpihhaaGreatDoor
open Go.RowKit

/-- []byte(s), its room told too. -/
theorem run_toBytesX (W : World) (s : ByteArray) (hs : s.size ≤ 1000000) :
  ∃ c w1, (convert 9 100 (.string s)).run Tryz.prog W = .ok (.slice (some ⟨W.heap.size, 0, none⟩) s.size c) w1 ∧ s.size ≤ c ∧ c ≤ 9223372036854775807 ∧ RowB w1 W.heap.size (bs s) ∧ Below W.heap.size W w1 ∧
   ∀ i, s.size ≤ i → i < c → w1.cell? ⟨W.heap.size, i, none⟩ = some (.int .u8 0) ∧ w1.frozen? ⟨W.heap.size, i, none⟩ = false := by
 have hr := run_bytes_of_string (P := Tryz.prog) W 9 100 5 s Tryz.underlying9 Tryz.underlying100 Tryz.underlying5
 obtain ⟨c0, w0, hr0, h1, h2, h3, h4, _⟩ := run_toBytes W s hs
 rw [hr] at hr0
 injection hr0 with e1 e2
 injection e1 with _ _ e3
 subst e2
 refine ⟨_, _, hr, by rw [e3]; exact h1, by rw [e3]; exact h2, h3, h4, fun i hi hc => ?_⟩
 generalize grownCap W s.size 0 5 = c at *
 have hh : (W.drew.alloc (.cells (bytesRow s c) 5 ((bytesRow s c).size, (bytesRow s c).size + 1))).heap[W.heap.size]? = some (.cells (bytesRow s c) 5 ((bytesRow s c).size, (bytesRow s c).size + 1)) := by
  show (W.heap.push _)[W.heap.size]? = _
  simp
 have hsz : (bytesRow s c).size = c := by unfold bytesRow; simp; omega
 refine ⟨?_, ?_⟩
 ·simp only [World.cell?, hh]
  unfold bytesRow
  have hz : (s.data.map (fun b => Value.int .u8 (b.toNat : Int))).size = s.size := by simp
  rw [Array.getElem?_append_right (by rw [hz]; exact hi), hz, Array.getElem?_replicate]
  exact if_pos (Nat.sub_lt_sub_right hi hc)
 ·simp only [World.frozen?, hh]
  simp
  omega
theorem setCells_low {w W : World} {H g : Nat} (h : Below H w W) (hg : H ≤ g) : ∀ (vs : List Value) (o : Nat), Below H w (W.setCells g o vs) := by
 intro vs
 induction vs generalizing W with
 | nil => intro o; exact h
 | cons v r ih =>
  intro o
  rw [World.setCells]
  exact ih (h.setCell (p := ⟨g, o, none⟩) hg v) (o + 1)
theorem setCells_size (g : Nat) : ∀ (vs : List Value) (o : Nat) (W : World), (W.setCells g o vs).heap.size = W.heap.size
 | [], _, _ => rfl
 | v :: r, o, W => by
  rw [World.setCells, setCells_size g r]
  simp
theorem zero8_cells : ∀ (n : Nat), Builtin.zeroCells (Value.int .u8 0).cells n = (List.replicate n (Value.int .u8 0)).toArray := by
 intro n
 unfold Builtin.zeroCells
 refine Array.ext (by simp [Value.cells]) fun i h1 h2 => ?_
 simp [Value.cells, Nat.mod_one]
theorem cellsZ (xs : List Nat) (j x : Nat) (C : Array Value) (hj : (xs ++ List.replicate 8 0)[j]? = some x) : ((xs.map u8V).toArray ++ (List.replicate 8 (Value.int .u8 0)).toArray ++ C)[j]? = some (u8V x) := by
 have e : (xs.map u8V).toArray ++ (List.replicate 8 (Value.int .u8 0)).toArray = ((xs ++ List.replicate 8 0).map u8V).toArray := by
  rw [List.append_toArray, List.map_append, List.map_replicate]
  rfl
 have hl := (List.getElem?_eq_some_iff.1 hj).1
 rw [e, Array.getElem?_append_left (by rw [List.size_toArray, List.length_map]; exact hl), List.getElem?_toArray, List.getElem?_map, hj]
 rfl
/-- append of eight zeros. -/
theorem run_appZ {W : World} {B g n c : Nat} {xs : List Nat} (ty : TypeId) (hrow : RowB W g xs) (hn : xs.length = n) (hn9 : n ≤ 1000) (hc : n ≤ c) (hc2 : c ≤ 9223372036854775807)
  (hfree : ∀ i, n ≤ i → i < c → W.cell? ⟨g, i, none⟩ = some (.int .u8 0) ∧ W.frozen? ⟨g, i, none⟩ = false) (hB : B ≤ g) (hB2 : B ≤ W.heap.size) :
  ∃ g' c' w', (Builtin.append_ #[100, 3] ty #[.slice (some ⟨g, 0, none⟩) n c, .int .i64 8]).run Tryz.prog W = .ok (.slice (some ⟨g', 0, none⟩) (n + 8) c') w' ∧
   RowB w' g' (xs ++ List.replicate 8 0) ∧ n + 8 ≤ c' ∧ c' ≤ 9223372036854775807 ∧ B ≤ g' ∧ Below B W w' := by
 obtain ⟨i, hi, hz0, hz1, hz2⟩ := info_parts Tryz.infoU8
 have hw8 : IntKind.i64.wrap 8 = 8 := by decide
 by_cases hroom : n + 8 ≤ c
 ·have hst := run_storeCells_cells (P := Tryz.prog) g n (List.replicate 8 (Value.int .u8 0)) 0 W (fun j hj => by
   rw [List.length_replicate] at hj
   rw [(hfree (n + 0 + j) (by omega) (by omega)).1]
   rfl) (fun j hj => by
   rw [List.length_replicate] at hj
   exact (hfree (n + 0 + j) (by omega) (by omega)).2) (fun v hv => by rw [List.eq_of_mem_replicate hv]; rfl)
  refine ⟨g, c, W.setCells g (n + 0) (List.replicate 8 (Value.int .u8 0)), ?_, ?_, hroom, hc2, hB, setCells_low (Below.refl B W) hB _ _⟩
  ·have hadd : (⟨g, 0, none⟩ : Addr).add (n * 1) = ⟨g, n, none⟩ := by rw [Nat.mul_one, Addr.add_lit, Nat.zero_add]
   simp [Builtin.append_, run_underlying Tryz.underlying100, run_underlying Tryz.underlying3, sizeOf, typeInfo, zeroValue, hi, hz0, hz1, hz2, hw8, asInt, asIntOf, hroom, zero8_cells, Addr.add_lit, Nat.zero_add] at hst ⊢
   rw [hst]
   rfl
  ·refine ⟨by rw [setCells_size]; exact hrow.lt, fun j x hj => ?_, fun j hj => ?_⟩
   ·by_cases hjn : j < n
    ·rw [World.cell?_setCells_out _ _ _ _ _ (fun _ _ => .inl (by show j < n + 0; omega))]
     rw [List.getElem?_append_left (by omega)] at hj
     exact hrow.cell j x hj
    ·rw [List.getElem?_append_right (by omega), List.getElem?_replicate] at hj
     split at hj
     ·cases hj
      have h1 := World.cell?_setCells_in g (List.replicate 8 (Value.int .u8 0)) (n + 0) W (fun k hk => by
       rw [List.length_replicate] at hk
       rw [(hfree (n + 0 + k) (by omega) (by omega)).1]
       rfl) (j - n) (by rw [List.length_replicate]; omega)
      rw [show n + 0 + (j - n) = j by omega] at h1
      rw [h1, List.getElem_replicate]
      rfl
     ·cases hj
   ·rw [World.frozen?_setCells]
    rw [List.length_append, List.length_replicate] at hj
    by_cases hjn : j < n
    ·exact hrow.free j (by omega)
    ·exact (hfree j (by omega) (by omega)).2
 ·have hold : ∀ j v, (xs.map u8V)[j]? = some v → W.cell? ((⟨g, 0, none⟩ : Addr).add j) = some v := fun j v hv => by
   rw [List.getElem?_map] at hv
   obtain ⟨x, hx, rfl⟩ := Option.map_eq_some_iff.1 hv
   rw [Addr.add_lit, Nat.zero_add]
   exact hrow.cell j x hx
  have hfo := run_firstCells_some (P := Tryz.prog) W.drew 1 n ⟨g, 0, none⟩ n c (xs.map u8V) (by simpa using hn) (by simpa using hold)
  have hge := grownCap_ge W (n + 8) c 5
  have hle := grownCap_le_maxLen W (n + 8) c 5 (by unfold maxLen; omega)
  have h48 : ¬ (281474976710656 < Builtin.nextslicecap (n + 8) c) := by
   have := nextslicecap_le (need := n + 8) (old := c) (by omega)
   omega
  refine ⟨W.heap.size, grownCap W (n + 8) c 5, W.drew.alloc (.cells ((xs.map u8V).toArray ++ (List.replicate 8 (Value.int .u8 0)).toArray ++ (List.replicate (grownCap W (n + 8) c 5 - (n + 8)) (Value.int .u8 0)).toArray) 5), ?_, ?_, hge, hle, hB2, (Below.refl B W).drew.alloc hB2 _⟩
  ·have h63 : ¬ (9223372036854775807 < (n : Int) + 8) := by omega
   simp [Builtin.append_, run_underlying Tryz.underlying100, run_underlying Tryz.underlying3, sizeOf, typeInfo, zeroValue, hi, hz0, hz1, hz2, hw8, asInt, asIntOf, hroom, zero8_cells, Question.forced, newRow, grownCap, hfo, h48]
   rw [if_neg (by omega), ← Array.append_assoc]
   simp only [List.append_toArray]
  ·have hh : ∀ C : Array Value, (W.drew.alloc (.cells C 5)).heap[W.heap.size]? = some (.cells C 5 (0, 0)) := fun C => by
    show (W.heap.push _)[W.heap.size]? = _
    simp
   refine ⟨by simp, fun j x hj => ?_, fun j hj => ?_⟩
   ·simp only [World.cell?]
    rw [hh]
    exact cellsZ xs j x _ hj
   ·simp only [World.frozen?, hh]
    simp

end Go.Proofs.YtnlnmfkmbpihhaaGreatDoor

namespace Go.Proofs.YtnlnmfkmbpihhaaGreatDoor
open Go.RowKit

/-- The reference's generator: one factor more. -/
def gst1 (g : List Nat) (k : Nat) (l : List Nat) : List Nat := l.set (k + 1) (cf l (k + 1) ^^^ cf g k)
def gst2 (g : List Nat) (c k : Nat) (l : List Nat) : List Nat := l.set k (cf l k ^^^ gmul (cf g k) c)
def gnx (g : List Nat) (c : Nat) : Nat → List Nat
 | 0 => List.replicate (g.length + 1) 0
 | k + 1 => gst2 g c k (gst1 g k (gnx g c k))
def genR : Nat → List Nat
 | 0 => [1]
 | i + 1 => gnx (genR i) (pw i) (genR i).length
theorem gnx_len (g : List Nat) (c : Nat) : ∀ k, (gnx g c k).length = g.length + 1
 | 0 => by unfold gnx; rw [List.length_replicate]
 | k + 1 => by unfold gnx gst2 gst1; rw [List.length_set, List.length_set, gnx_len g c k]
theorem set_bytes {l : List Nat} (h : Bytes l) (i : Nat) {x : Nat} (hx : x < 256) : Bytes (l.set i x) := fun b hb => by
 rcases List.mem_or_eq_of_mem_set hb with hb | rfl
 ·exact h b hb
 ·exact hx
theorem gst1_bytes {g l : List Nat} (hg : Bytes g) (h : Bytes l) (k : Nat) : Bytes (gst1 g k l) := set_bytes h _ (xor_lt (cf_lt h _) (cf_lt hg _))
theorem gnx_bytes {g : List Nat} (hg : Bytes g) (c : Nat) : ∀ k, Bytes (gnx g c k)
 | 0 => fun b hb => by
  have := List.eq_of_mem_replicate hb
  omega
 | k + 1 => by
  have h1 := gst1_bytes hg (gnx_bytes hg c k) k
  exact set_bytes h1 _ (xor_lt (cf_lt h1 _) (gmul_lt _ (cf_lt hg _)))
theorem genR_len : ∀ i, (genR i).length = i + 1
 | 0 => rfl
 | i + 1 => by unfold genR; rw [gnx_len, genR_len i]
theorem genR_bytes : ∀ i, Bytes (genR i)
 | 0 => by decide
 | i + 1 => gnx_bytes (genR_bytes i) _ _
theorem genR_8 : genR 8 = G8 := by decide +kernel

set_option maxRecDepth 100000 in
set_option maxHeartbeats 8000000 in
theorem rgen_any (w : World) : Calls Tryz.prog 133 #[.int .i64 8] w fun e w' => ∃ v, e = .returned (.tuple #[v, .int .i64 0]) ∧ BytesAt w' v G8 ∧ Below w.heap.size w w' := by
 have HK0 : Hid (BytesAt (w.alloc (.cells #[.int .u8 1] 5)) (.slice (some ⟨w.heap.size, 0, none⟩) 1 1) (genR 0)) := Lib.hid (BytesAt.one w 1)
 have HB0 := Lib.hid ((Below.refl w.heap.size w).alloc (Nat.le_refl _) (.cells #[.int .u8 1] 5))
 go_enter Tryz.func133, Tryz.ntmps133
 go_wp2
 go_loopw [4, 5] (fun v x wr => ∃ i : Nat, i ≤ 8 ∧ x = .int .i64 (i : Int) ∧ BytesAt wr v (genR i) ∧ Below w.heap.size w wr) (fun _ x _ => 8 - (intOf x).toNat)
 case atStart => exact ⟨0, by omega, rfl, HK0.out, HB0.out⟩
 case round =>
  obtain ⟨i, hi, rfl, hv, hB⟩ := hrel
  obtain ⟨wo, rfl⟩ : ∃ x, x = wr := ⟨_, rfl⟩
  clear HK0 HB0
  have HBr := Lib.hid hB
  clear hB
  by_cases h : i < 8
  ·have hiI : (i : Int) < 8 := by omega
   have Hgl := Lib.hid (genR_len i)
   have Hgb := Lib.hid (genR_bytes i)
   have Hnx : Hid (gnx (genR i) (pw i) (genR i).length = genR (i + 1)) := Lib.hid rfl
   obtain ⟨g, hg⟩ : ∃ g, genR i = g := ⟨_, rfl⟩
   rw [hg] at hv Hgl Hgb Hnx
   clear hg
   have Hv := Lib.hid hv
   obtain ⟨A, c, rfl, h1, h2, h3⟩ := hv
   clear h3
   have hgl9 : g.length ≤ 9 := by have := Hgl.out; omega
   have hmk : ∀ W : World, (Instr.makeSlice 100 (.int .i64 ((g.length : Int) + 1)) (.int .i64 ((g.length : Int) + 1))).run Tryz.prog W = .ok (.slice (some ⟨W.heap.size, 0, none⟩) (g.length + 1) (g.length + 1)) (W.alloc (.cells (arrB (List.replicate (g.length + 1) 0)) 5)) := make_u8 (g.length + 1) (g.length + 1) (Nat.le_refl _) (by omega)
   have HN0 : Hid (U8B (wo.alloc (.cells (arrB (List.replicate (g.length + 1) 0)) 5)) wo.heap.size (gnx g (pw i) 0)) := Lib.hid (U8B.new wo _)
   have HA0 := Lib.hid ((Below.refl wo.heap.size wo).alloc (Nat.le_refl _) (.cells (arrB (List.replicate (g.length + 1) 0)) 5))
   go_wp2
   clear hmk
   go_loopw [7] (fun x wx => ∃ k : Nat, k ≤ g.length ∧ x = .int .i64 (k : Int) ∧ U8B wx wo.heap.size (gnx g (pw i) k) ∧ Below wo.heap.size wo wx) (fun x _ => g.length - (intOf x).toNat)
   case atStart => exact ⟨0, by omega, rfl, HN0.out, HA0.out⟩
   case round =>
    obtain ⟨k, hk, rfl, hn, hb⟩ := hrel
    clear HN0 HA0
    have Hn := Lib.hid hn
    have Hb := Lib.hid hb
    clear hn hb
    by_cases h' : k < g.length
    ·have hkI : (k : Int) < g.length := by omega
     have hgk : g[k]? = some (cf g k) := by unfold cf; rw [List.getElem?_eq_getElem h']; rfl
     obtain ⟨gb, go, rfl, hcg⟩ := (Hv.out.below Hb.out).cell hgk
     have hlen := gnx_len g (pw i) k
     have hbn := gnx_bytes Hgb.out (pw i) k
     have Hst : Hid (gst2 g (pw i) k (gst1 g k (gnx g (pw i) k)) = gnx g (pw i) (k + 1)) := Lib.hid rfl
     obtain ⟨l, hl⟩ : ∃ l, gnx g (pw i) k = l := ⟨_, rfl⟩
     rw [hl] at Hn hlen hbn Hst
     clear hl
     have hc1 := Hn.out.cell (i := k + 1) (x := cf l (k + 1)) (by unfold cf; rw [List.getElem?_eq_getElem (by omega)]; rfl)
     have hf1 := Blk.frozen Hn.out (k + 1)
     have hgl2 : cf g k < 256 := cf_lt Hgb.out k
     have hx1 := u8_xor (cf_lt hbn (k + 1)) hgl2
     have Hs1 := Lib.hid (U8B.set Hn.out (k + 1) (cf l (k + 1) ^^^ cf g k))
     have hs1 : IntKind.i64.wrap ((k : Int) + 1) = (k : Int) + 1 := IntWalk.i64_in _ (by omega)
     have hs2 : ((k : Int) + 1).toNat = k + 1 := by omega
     have hs3 : (0 : Int) ≤ (k : Int) + 1 := by omega
     have hs4 : (k : Int) + 1 < (g.length : Int) + 1 := by omega
     have Hgk := Lib.hid hgk
     have Hlen := Lib.hid hlen
     have Hbn := Lib.hid hbn
     have HX1 := Lib.hid ((Hb.out.setCell (p := ⟨wo.heap.size, k + 1, none⟩) (Nat.le_refl _) (.int .u8 ((cf l (k + 1) ^^^ cf g k : Nat) : Int))).drew)
     clear hgk hlen hbn
     go_wp2
     go_still_tail 14, (by kernel_rfl)
     go_upto_region 12 with fail
     have HN1 : Hid (U8B (wr.setCell ⟨wo.heap.size, k + 1, none⟩ (.int .u8 ((cf l (k + 1) ^^^ cf g k : Nat) : Int))).drew wo.heap.size (gst1 g k l)) := Lib.hid (U8B.drew Hs1.out)
     have hcg1 := (Hv.out.below HX1.out).cell Hgk.out
     obtain ⟨gb', go', e9, hcg1⟩ := hcg1
     cases e9
     have hg1b := gst1_bytes Hgb.out Hbn.out k
     have hg1l : (gst1 g k l).length = g.length + 1 := by unfold gst1; rw [List.length_set]; exact Hlen.out
     clear hc1 hf1 hx1 hs1 hs2 hs3 hs4 Hs1 Hn Hb hcg
     generalize (wr.setCell ⟨wo.heap.size, k + 1, none⟩ (.int .u8 ((cf l (k + 1) ^^^ cf g k : Nat) : Int))).drew = wx at *
     generalize gst1 g k l = l1 at *
     have hc2 := HN1.out.cell (i := k) (x := cf l1 k) (by unfold cf; rw [List.getElem?_eq_getElem (by omega)]; rfl)
     have hf2 := Blk.frozen HN1.out k
     have Hpw := Lib.hid (fun W => r7power_any W i (by omega))
     have hpl := pw_lt i
     have Htm := Lib.hid (fun W => r7times_any W (cf g k) (pw i) hgl2 hpl)
     have hx2 := u8_xor (cf_lt hg1b k) (gmul_lt (pw i) hgl2)
     have Hs2 := Lib.hid (U8B.set HN1.out k (cf l1 k ^^^ gmul (cf g k) (pw i)))
     have hkN : (k : Int) < (g.length : Int) + 1 := by omega
     have HX2 := Lib.hid ((HX1.out.setCell (p := ⟨wo.heap.size, k, none⟩) (Nat.le_refl _) (.int .u8 ((cf l1 k ^^^ gmul (cf g k) (pw i) : Nat) : Int))).drew)
     have Hst2 : Hid (l1.set k (cf l1 k ^^^ gmul (cf g k) (pw i)) = gnx g (pw i) (k + 1)) := Hst
     rw [Hst2.out] at Hs2
     clear hg1b hg1l Hst Hst2
     generalize gmul (cf g k) (pw i) = z at *
     generalize cf g k = y at *
     generalize cf l1 k = x1 at *
     go_still_tail 15, (by kernel_rfl)
     still_call (still_of (Hpw.out _))
     repeat still_step
     still_call (still_of (Htm.out _))
     repeat still_step
     refine wpStill_nil ?_
     go_wp2
     clear hx2
     go_roundw
     case rel => exact ⟨k + 1, by omega, by go_num, U8B.drew Hs2.out, HX2.out⟩
     case measure => simp [intOf]; omega
    ·obtain rfl : k = g.length := by omega
     have hn := Hn.out
     rw [Hnx.out] at hn
     have hv2 := U8B.bytes hn (n := g.length + 1) (c := g.length + 1) (by rw [genR_len, Hgl.out]) (Nat.le_refl _) (by omega)
     have Hv2 := Lib.hid hv2
     clear hn hv2
     go_wp2
     go_roundw
     case rel => exact ⟨i + 1, by omega, by go_num, Hv2.out, HBr.out.trans (Hb.out.mono HBr.out.size)⟩
     case measure => simp [intOf]; omega
  ·obtain rfl : i = 8 := by omega
   rw [genR_8] at hv
   have Hv := Lib.hid hv
   obtain ⟨A, c, rfl, h1, h2, h3⟩ := hv
   clear h3
   go_wp2
   go_ret2
   exact ⟨_, rfl, Hv.out, HBr.out⟩

/-! encoding -/
/-- The row behind k steps of one division. -/
def encK (R : List Nat) (i lead : Nat) : Nat → List Nat
 | 0 => R
 | k + 1 => (encK R i lead k).set (i + k) (cf (encK R i lead k) (i + k) ^^^ gmul lead (cf G8 (8 - k)))
theorem encK_len (R : List Nat) (i lead : Nat) : ∀ k, (encK R i lead k).length = R.length
 | 0 => rfl
 | k + 1 => by unfold encK; rw [List.length_set, encK_len R i lead k]
theorem encK_bytes {R : List Nat} (h : Bytes R) (i : Nat) {lead : Nat} (hl : lead < 256) : ∀ k, Bytes (encK R i lead k)
 | 0 => h
 | k + 1 => by
  have h1 := encK_bytes h i hl k
  exact set_bytes h1 _ (xor_lt (cf_lt h1 _) (gmul_lt _ hl))
theorem encK_cf (R : List Nat) (i lead : Nat) : ∀ k, i + k ≤ R.length → ∀ j, cf (encK R i lead k) j = if i ≤ j ∧ j < i + k then cf R j ^^^ gmul lead (cf G8 (8 - (j - i))) else cf R j
 | 0, _, j => by rw [if_neg (by omega)]; rfl
 | k + 1, h, j => by
  have ih := encK_cf R i lead k (by omega)
  unfold encK
  rw [cf_set _ _ _ _ (by rw [encK_len]; omega), ih, ih]
  by_cases e : i + k = j
  ·subst e
   rw [if_pos rfl, if_neg (by omega), if_pos (by omega), show i + k - i = k by omega]
  ·rw [if_neg e]
   by_cases h1 : i ≤ j ∧ j < i + k
   ·rw [if_pos h1, if_pos (by omega)]
   ·rw [if_neg h1, if_neg (by omega)]
def encT (D : List Nat) (i : Nat) : List Nat := (D.take i).foldl (lfsr G8) (List.replicate 8 0)
/-- The row behind i symbols. -/
structure EncS (D : List Nat) (i : Nat) (R : List Nat) : Prop where
 len : R.length = D.length + 8
 bytes : Bytes R
 at_ : ∀ j, cf R (i + j) = cf (D ++ List.replicate 8 0) (i + j) ^^^ cf (encT D i) j
theorem encT_zero_cf (D : List Nat) (j : Nat) : cf (encT D 0) j = 0 := by
 show cf (List.replicate 8 0) j = 0
 unfold cf
 rw [List.getElem?_replicate]
 split <;> rfl
theorem encS_zero {D : List Nat} (h : Bytes D) : EncS D 0 (D ++ List.replicate 8 0) := by
 refine ⟨by rw [List.length_append, List.length_replicate], fun b hb => ?_, fun j => by rw [encT_zero_cf, Nat.zero_add, Nat.xor_zero]⟩
 rcases List.mem_append.1 hb with hb | hb
 ·exact h b hb
 ·have := List.eq_of_mem_replicate hb
  omega
theorem encT_succ {D : List Nat} {i : Nat} (h : i < D.length) : encT D (i + 1) = lfsr G8 (encT D i) (cf D i) := by
 unfold encT
 rw [take_snoc_cf h, List.foldl_append]
 rfl
theorem encT_len (D : List Nat) : ∀ i, i ≤ D.length → (encT D i).length = 8
 | 0, _ => rfl
 | i + 1, h => by rw [encT_succ (by omega), lfsr_len]
theorem encS_step {D R : List Nat} {i : Nat} (h : EncS D i R) (hi : i < D.length) : EncS D (i + 1) (encK R i (cf R i) 9) := by
 obtain ⟨h1, h2, h3⟩ := h
 have hlead : cf R i = cf D i ^^^ cf (encT D i) 0 := by
  have := h3 0
  rw [Nat.add_zero] at this
  rw [this]
  congr 1
  unfold cf
  rw [List.getElem?_append_left hi]
 refine ⟨by rw [encK_len]; exact h1, encK_bytes h2 i (cf_lt h2 i) 9, fun j => ?_⟩
 rw [encK_cf R i (cf R i) 9 (by omega), show i + 1 + j = i + (1 + j) by omega, h3 (1 + j), encT_succ hi]
 have hl8 := encT_len D i (by omega)
 by_cases hj : j < 8
 ·rw [if_pos (by omega), show i + (1 + j) - i = 1 + j by omega, show 8 - (1 + j) = 7 - j by omega, hlead]
  unfold lfsr
  rw [cf_map, if_pos hj, Nat.xor_assoc, Nat.add_comm 1 j]
 ·rw [if_neg (by omega), cf_big (p := encT D i) (by omega), cf_big (p := lfsr G8 _ _) (by rw [lfsr_len]; omega)]
theorem encS_end {D R : List Nat} (h : EncS D D.length R) : R.drop D.length = rsPar D := by
 obtain ⟨h1, h2, h3⟩ := h
 have e : rsPar D = encT D D.length := by
  unfold rsPar encT
  rw [List.take_length, genP_8]
 have hl := encT_len D D.length (Nat.le_refl _)
 rw [e]
 refine List.ext_getElem? fun j => ?_
 rw [List.getElem?_drop]
 have hz : ∀ k, cf (D ++ List.replicate 8 0) (D.length + k) = 0 := fun k => by
  unfold cf
  rw [List.getElem?_append_right (by omega), List.getElem?_replicate]
  split <;> rfl
 by_cases hj : j < 8
 ·have h4 := h3 j
  rw [hz, Nat.zero_xor] at h4
  unfold cf at h4
  rw [List.getElem?_eq_getElem (by omega), List.getElem?_eq_getElem (by omega)] at h4 ⊢
  simpa using h4
 ·rw [List.getElem?_eq_none (by omega), List.getElem?_eq_none (by omega)]

end Go.Proofs.YtnlnmfkmbpihhaaGreatDoor

namespace Go.Proofs.YtnlnmfkmbpihhaaGreatDoor
open Go.RowKit

theorem wpList_appZ {ops : Array Oper} {rest : List Oper} {o : Oper} {a : Act} {Q : Exit → Act → World → Prop} {W : World} {B g n c : Nat} {xs : List Nat} (hw : Region.wanted o (yielded ops a.tmps) = true) (s y : Operand) (ho : o.op = .call { callee := .builtin .append, args := #[s, y], argTypes := #[100, 3] })
  (hs : a.eval s = .slice (some ⟨g, 0, none⟩) n c) (hy : a.eval y = .int .i64 8) (hrow : RowB W g xs) (hn : xs.length = n) (hn9 : n ≤ 1000) (hc : n ≤ c) (hc2 : c ≤ 9223372036854775807)
  (hfree : ∀ i, n ≤ i → i < c → W.cell? ⟨g, i, none⟩ = some (.int .u8 0) ∧ W.frozen? ⟨g, i, none⟩ = false) (hB : B ≤ g) (hB2 : B ≤ W.heap.size)
  (h : ∀ g' c' w', RowB w' g' (xs ++ List.replicate 8 0) → n + 8 ≤ c' → c' ≤ 9223372036854775807 → B ≤ g' → Below B W w' → wpList Tryz.prog ops Q rest (a.put o.dst (.slice (some ⟨g', 0, none⟩) (n + 8) c')) w') : wpList Tryz.prog ops Q (o :: rest) a W :=
 wpList_step fun K hK => by
  simp only [hw, if_true]
  obtain ⟨g', c', w', hr, k1, k2, k3, k4, k5⟩ := run_appZ o.type hrow hn hn9 hc hc2 hfree hB hB2
  unfold Oper.wp execOp
  simp only [ho, resolve, invoke, builtin, Sem.run_bind, Sem.run_pure, Result.andThen_ok, List.map_toArray, List.map_cons, List.map_nil, hs, hy, hr]
  exact hK _ _ (h g' c' w' k1 k2 k3 k4 k5)
/-- The end of a row of bytes. -/
theorem RowB.tail {w : World} {g : Nat} {xs : List Nat} (h : RowB w g xs) {k m c : Nat} (_hk : k ≤ xs.length) (hm : m = xs.length - k) (hc : m ≤ c) (hc2 : c ≤ 9223372036854775807) : BytesAt w (.slice (some ⟨g, k, none⟩) m c) (xs.drop k) := by
 subst hm
 refine ⟨_, c, by rw [List.length_drop], by rw [List.length_drop]; exact hc, hc2, fun i x hi => ⟨g, k, u8V x, rfl, ?_, rfl⟩⟩
 rw [List.getElem?_drop] at hi
 exact h.cell _ _ hi

set_option maxRecDepth 100000 in
set_option maxHeartbeats 8000000 in
theorem rsenc7_any (w : World) (s : ByteArray) (hs : s.size = 44) : Calls Tryz.prog 70 #[.string s, .int .i64 8] w fun e w' => e = .returned (.tuple #[.string (strB (rsEnc (bs s))), .int .i64 0]) ∧ Below w.heap.size w w' := by
 have hDl : (bs s).length = 44 := by rw [bs_len, hs]
 have hDb : Bytes (bs s) := fun b hb => bs_lt s b hb
 have HE : Hid (s = strB (bs s)) := Lib.hid (strB_bs s).symm
 have HDl := Lib.hid hDl
 have HDb := Lib.hid hDb
 clear hDl hDb
 go_enter Tryz.func70, Tryz.ntmps70
 go_upto_region 2 with (go_at_call 133; refine (rgen_any _).mono ?_; rintro e w1 ⟨v1, rfl, hv1, hb1⟩)
 have Hv := Lib.hid hv1
 obtain ⟨A, cg, rfl, h1, h2, h3⟩ := hv1
 have hG9 : G8.length = 9 := rfl
 rw [hG9] at h1 ⊢
 have HB1 := Lib.hid hb1
 clear h3 hb1 hG9
 go_upto_region 6 with fail
 obtain ⟨c, w2, hcv, hc1, hc2, hrow, hbb, hfree⟩ := run_toBytesX w1 s (by omega)
 rw [hs] at hcv hc1 hfree
 have Hrow := Lib.hid hrow
 have HB2 := Lib.hid hbb
 have Hfree := Lib.hid hfree
 have Hc1 := Lib.hid hc1
 have Hc2 := Lib.hid hc2
 have hz2 := hbb.size
 clear hrow hbb hfree hc1 hc2
 go_wp2_with (at_builtin; refine wpList_appZ rfl _ _ rfl rfl rfl Hrow.out HDl.out (by omega) Hc1.out Hc2.out Hfree.out (Nat.le_refl _) hz2 ?_; intro g' c' w3 hr3 hc3 hc4 hg3 hb3)
 have HB3 := Lib.hid (HB2.out.trans hb3)
 have Hr3 := Lib.hid hr3
 have HS0 := Lib.hid (encS_zero HDb.out)
 clear hr3 hb3 Hrow HB2 Hfree Hc1 Hc2 hcv
 go_loopw [9] (fun x wr => ∃ (i : Nat) (R : List Nat), i ≤ 44 ∧ x = .int .i64 (i : Int) ∧ EncS (bs s) i R ∧ RowB wr g' R ∧ Below w1.heap.size w1 wr) (fun x _ => 44 - (intOf x).toNat)
 case atStart => exact ⟨0, _, by omega, rfl, HS0.out, Hr3.out, HB3.out⟩
 case round =>
  obtain ⟨i, R, hi, rfl, hS, hr, hB⟩ := hrel
  obtain ⟨wo, rfl⟩ : ∃ x, x = wr := ⟨_, rfl⟩
  clear HS0 Hr3 HB3
  have HS := Lib.hid hS
  have Hr := Lib.hid hr
  have HBr := Lib.hid hB
  clear hS hr hB
  by_cases h : i < 44
  ·have hiI : (i : Int) < 44 := by omega
   have hlen : R.length = 52 := by rw [HS.out.len, HDl.out]
   have hRi : R[i]? = some (cf R i) := by unfold cf; rw [List.getElem?_eq_getElem (by omega)]; rfl
   have hci := Hr.out.cell i _ hRi
   have hi52 : (i : Int) < 52 := by omega
   have hld : cf R i < 256 := cf_lt HS.out.bytes i
   have Hstep := Lib.hid (encS_step HS.out (by rw [HDl.out]; exact h))
   have Hrb := Lib.hid HS.out.bytes
   have HRl := Lib.hid hlen
   obtain ⟨ld, hle⟩ : ∃ ld, cf R i = ld := ⟨_, rfl⟩
   rw [hle] at hci hld Hstep
   clear hRi hle hlen
   go_wp2
   clear hci
   go_loopw [11] (fun x wx => ∃ k : Nat, k ≤ 9 ∧ x = .int .i64 (k : Int) ∧ RowB wx g' (encK R i ld k) ∧ Below w1.heap.size w1 wx) (fun x _ => 9 - (intOf x).toNat)
   case atStart => exact ⟨0, by omega, rfl, Hr.out, HBr.out⟩
   case round =>
    obtain ⟨k, hk, rfl, hr, hB⟩ := hrel
    clear Hr HBr
    have Hr := Lib.hid hr
    have HBr := Lib.hid hB
    clear hr hB
    by_cases h' : k < 9
    ·have hkI : (k : Int) ≤ 8 := by omega
     have hKl := encK_len R i ld k
     rw [HRl.out] at hKl
     have hRk : (encK R i ld k)[i + k]? = some (cf (encK R i ld k) (i + k)) := by unfold cf; rw [List.getElem?_eq_getElem (by omega)]; rfl
     have hc1 := Hr.out.cell (i + k) _ hRk
     have hf1 := Hr.out.free (i + k) (by omega)
     obtain ⟨gb, go, e9, hcg⟩ := (Hv.out.below HBr.out).cell (i := 8 - k) (x := cf G8 (8 - k)) (by unfold cf; rw [List.getElem?_eq_getElem (by show 8 - k < 9; omega)]; rfl)
     have hgb : cf G8 (8 - k) < 256 := cf_lt G8_bytes _
     have Htm := Lib.hid (fun W => r7times_any W ld (cf G8 (8 - k)) hld hgb)
     have hx1 := u8_xor (cf_lt (encK_bytes Hrb.out i hld k) (i + k)) (gmul_lt (cf G8 (8 - k)) hld)
     have Hs1 := Lib.hid (Hr.out.set (i + k) (cf (encK R i ld k) (i + k) ^^^ gmul ld (cf G8 (8 - k))))
     have Hst : Hid ((encK R i ld k).set (i + k) (cf (encK R i ld k) (i + k) ^^^ gmul ld (cf G8 (8 - k))) = encK R i ld (k + 1)) := Lib.hid rfl
     rw [Hst.out] at Hs1
     have HX1 := Lib.hid ((HBr.out.setCell (p := ⟨g', i + k, none⟩) hg3 (.int .u8 ((cf (encK R i ld k) (i + k) ^^^ gmul ld (cf G8 (8 - k)) : Nat) : Int))).drew)
     have hs1 : IntKind.i64.wrap ((i : Int) + k) = (i : Int) + k := IntWalk.i64_in _ (by omega)
     have hs2 : ((i : Int) + k).toNat = i + k := by omega
     have hs3 : (0 : Int) ≤ (i : Int) + k := by omega
     have hs4 : (i : Int) + k < 52 := by omega
     have ht1 : IntKind.i64.wrap (8 - (k : Int)) = 8 - (k : Int) := IntWalk.i64_in _ (by omega)
     have ht2 : (8 - (k : Int)).toNat = 8 - k := by omega
     have ht3 : (0 : Int) ≤ 8 - (k : Int) := by omega
     have ht4 : 8 - (k : Int) < 9 := by omega
     cases e9
     clear hKl hRk Hst
     generalize gmul ld (cf G8 (8 - k)) = z at *
     generalize cf G8 (8 - k) = y at *
     generalize cf (encK R i ld k) (i + k) = x1 at *
     go_wp2
     go_still_tail 20, (by kernel_rfl)
     still_call (still_of (Htm.out _))
     repeat still_step
     refine wpStill_nil ?_
     go_wp2
     clear hx1 hs1 hs2 hs3 hs4 ht1 ht2 ht3 ht4
     go_roundw
     case rel => exact ⟨k + 1, by omega, by go_num, Hs1.out.of_heap rfl, HX1.out⟩
     case measure => simp [intOf]; omega
    ·obtain rfl : k = 9 := by omega
     go_wp2
     go_roundw
     case rel => exact ⟨i + 1, _, by omega, by go_num, Hstep.out, Hr.out, HBr.out⟩
     case measure => simp [intOf]; omega
  ·obtain rfl : i = 44 := by omega
   have hlen : R.length = 52 := by rw [HS.out.len, HDl.out]
   have hS := HS.out
   rw [← HDl.out] at hS
   have he := encS_end hS
   rw [HDl.out] at he
   have ht := Hr.out.tail (k := 44) (m := 8) (c := c' - 44) (by omega) (by omega) (by omega) (by omega)
   rw [he] at ht
   have hcs := run_toStr ht (by rw [← he, List.length_drop, hlen])
   have hcap : ¬ c' = 44 := by omega
   have hcapI : ¬ ((c' : Int) = 44) := by omega
   have hR : s ++ strB (rsPar (bs s)) = strB (rsEnc (bs s)) := by
    conv => lhs; rw [HE.out, strB_cat]
    rw [bs_strB HDb.out]
    rfl
   have h8 : (strB (rsPar (bs s))).size = 8 := by rw [strB_size, ← he, List.length_drop, hlen]
   have HR := Lib.hid hR
   have hsz44 : s.size = 44 := hs
   clear hS he ht hR hlen
   generalize strB (rsPar (bs s)) = P at *
   go_wp2
   go_ret2
   exact ⟨by rw [← HR.out]; rfl, HB1.out.trans (HBr.out.mono HB1.out.size)⟩

end Go.Proofs.YtnlnmfkmbpihhaaGreatDoor
