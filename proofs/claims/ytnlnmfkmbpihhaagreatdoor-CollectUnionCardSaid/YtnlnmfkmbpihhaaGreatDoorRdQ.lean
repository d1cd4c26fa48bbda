/-
 append of one byte to a slice of a string's bytes.
 PLAIN: interleaving leaves as many unreadable cells.
 WALK: steleref13.Decode.
-/
import Derived.Test.YtnlnmfkmbpihhaaGreatDoorRfA
import Derived.Test.YtnlnmfkmbpihhaaGreatDoorStrW
import Derived.Test.YtnlnmfkmbpihhaaGreatDoorRdM
import Derived.Test.YtnlnmfkmbpihhaaGreatDoorRdD
import Derived.Test.YtnlnmfkmbpihhaaGreatDoorFrK
import Derived.Test.YtnlnmfkmbpihhaaGreatDoorFrI
namespace Go.Proofs.YtnlnmfkmbpihhaaGreatDoor
open Go.RowKit

/-- Block g begins with these bytes and has room for c, the rest being zero. -/
structure RowF (W : World) (g : Nat) (xs : List Nat) (c : Nat) : Prop where
 row : RowB W g xs
 le : xs.length ≤ c
 max : c ≤ 9223372036854775807
 free : ∀ i, xs.length ≤ i → i < c → W.cell? ⟨g, i, none⟩ = some (.int .u8 0) ∧ W.frozen? ⟨g, i, none⟩ = false
theorem RowF.kept {W W' : World} {g c : Nat} {xs : List Nat} (h : RowF W g xs c) (hb : Below W.heap.size W W') : RowF W' g xs c :=
 ⟨h.row.kept hb, h.le, h.max, fun i h1 h2 => ⟨cell_below hb (h.free i h1 h2).1, (hb.frozen (p := ⟨g, i, none⟩) h.row.lt).trans (h.free i h1 h2).2⟩⟩
theorem run_toBytesF (W : World) (s : ByteArray) (hs : s.size ≤ 1000000) :
  ∃ c w1, (convert 9 100 (.string s)).run Tryz.prog W = .ok (.slice (some ⟨W.heap.size, 0, none⟩) s.size c) w1 ∧ RowF w1 W.heap.size (bs s) c ∧ Below W.heap.size W w1 := by
 obtain ⟨c, w1, h1, h2, h3, h4, h5, h6⟩ := run_toBytesX W s hs
 exact ⟨c, w1, h1, ⟨h4, by rw [bs_len]; exact h2, h3, fun i hi hc => h6 i (by rw [bs_len] at hi; exact hi) hc⟩, h5⟩
theorem run_appF {W : World} {B g n c : Nat} {xs : List Nat} (ty : TypeId) (y : Nat) (hF : RowF W g xs c) (hn : xs.length = n) (hn9 : n ≤ 900000) (hB : B ≤ g) (hB2 : B ≤ W.heap.size) :
  ∃ g' c' w', (Builtin.append_ #[100, 100] ty #[.slice (some ⟨g, 0, none⟩) n c, .slice (some ⟨W.heap.size, 0, none⟩) 1 1]).run Tryz.prog (W.alloc (.cells #[.int .u8 (y : Int)] 5)) = .ok (.slice (some ⟨g', 0, none⟩) (n + 1) c') w' ∧
   RowF w' g' (xs ++ [y]) c' ∧ B ≤ g' ∧ Below B W w' := by
 subst hn
 have hA : Below W.heap.size W (W.alloc (.cells #[.int .u8 (y : Int)] 5)) := (Below.refl _ _).alloc (Nat.le_refl _) _
 have hF1 := hF.kept hA
 have hBA : Below B W (W.alloc (.cells #[.int .u8 (y : Int)] 5)) := (Below.refl _ _).alloc hB2 _
 have hnew : ∀ j u, [Value.int .u8 (y : Int)][j]? = some u → (W.alloc (.cells #[.int .u8 (y : Int)] 5)).cell? ((⟨W.heap.size, 0, none⟩ : Addr).add j) = some u := fun j u hu => cell_one_new W _ _ j u hu
 have hgl := hF1.row.lt
 have hsz : (W.alloc (.cells #[.int .u8 (y : Int)] 5)).heap.size = W.heap.size + 1 := by simp
 obtain ⟨i, hi, hz0, hz1, hz2⟩ := info_parts Tryz.infoU8
 obtain ⟨H, hH⟩ : ∃ H, W.heap.size = H := ⟨_, rfl⟩
 rw [hH] at hnew ⊢
 generalize W.alloc (.cells #[.int .u8 (y : Int)] 5) = W1 at *
 by_cases hroom : xs.length + 1 ≤ c
 ·have hfr := hF1.free xs.length (Nat.le_refl _) (by omega)
  have hst := run_storeCells_cells (P := Tryz.prog) g xs.length [Value.int .u8 (y : Int)] 0 W1 (fun j hj => by
   obtain rfl : j = 0 := by simpa using hj
   show (W1.cell? ⟨g, xs.length, none⟩).isSome = true
   rw [hfr.1]
   rfl) (fun j hj => by
   obtain rfl : j = 0 := by simpa using hj
   exact hfr.2) (fun v hv => by rw [List.mem_singleton.1 hv]; rfl)
  have hfc := run_firstCells_some (P := Tryz.prog) W1 1 1 ⟨H, 0, none⟩ 1 1 [Value.int .u8 (y : Int)] rfl hnew
  refine ⟨g, c, W1.setCells g (xs.length + 0) [Value.int .u8 (y : Int)], ?_, ?_, hB, setCells_low hBA hB _ _⟩
  ·simp [Builtin.append_, run_underlying Tryz.underlying100, sizeOf, typeInfo, hi, hz1, Builtin.lenOf, hroom, hfc, Addr.add_lit] at hst ⊢
   rw [hst]
   rfl
  ·have hs : RowB (W1.setCell ⟨g, xs.length, none⟩ (.int .u8 (y : Int))) g (xs ++ [y]) := by
    refine ⟨by simpa using hgl, fun j x hj => ?_, fun j hj => ?_⟩
    ·by_cases e : j = xs.length
     ·subst e
      rw [List.getElem?_append_right (Nat.le_refl _), Nat.sub_self] at hj
      cases hj
      exact World.cell?_setCell_same' _ _ _ (by rw [hfr.1]; rfl)
     ·have hl := (List.getElem?_eq_some_iff.1 hj).1
      rw [List.length_append, List.length_singleton] at hl
      rw [List.getElem?_append_left (by omega)] at hj
      rw [World.cell?_setCell_other _ _ _ _ (fun e2 => e (by have e3 : xs.length = j := congrArg Addr.off e2; exact e3.symm))]
      exact hF1.row.cell j x hj
    ·rw [World.frozen?_setCell]
     rw [List.length_append, List.length_singleton] at hj
     by_cases e : j = xs.length
     ·subst e; exact hfr.2
     ·exact hF1.row.free j (by omega)
   refine ⟨hs, by rw [List.length_append, List.length_singleton]; exact hroom, hF1.max, fun j h1 h2 => ?_⟩
   rw [List.length_append, List.length_singleton] at h1
   have hj := hF1.free j (by omega) h2
   refine ⟨?_, ?_⟩
   ·show (W1.setCell ⟨g, xs.length, none⟩ (.int .u8 (y : Int))).cell? ⟨g, j, none⟩ = _
    rw [World.cell?_setCell_other _ _ _ _ (fun e2 => by have e3 : xs.length = j := congrArg Addr.off e2; omega)]
    exact hj.1
   ·show (W1.setCell ⟨g, xs.length, none⟩ (.int .u8 (y : Int))).frozen? ⟨g, j, none⟩ = _
    rw [World.frozen?_setCell]
    exact hj.2
 ·have hce : c = xs.length := by have := hF1.le; omega
  have hge := grownCap_ge W1 (xs.length + 1) c 5
  have hle := grownCap_le_maxLen W1 (xs.length + 1) c 5 (by unfold maxLen; omega)
  have hr := run_append_grow (P := Tryz.prog) W1 100 ty 5 i (.int .u8 0) Tryz.underlying100 hi hz0 ⟨g, 0, none⟩ xs.length c (xs.map u8V) (by rw [hz1, List.length_map, Nat.mul_one]) (fun j v hv => by
   rw [List.getElem?_map] at hv
   obtain ⟨x, hx, rfl⟩ := Option.map_eq_some_iff.1 hv
   rw [Addr.add_lit, Nat.zero_add]
   exact hF1.row.cell j x hx) ⟨H, 0, none⟩ 1 1 [Value.int .u8 (y : Int)] (by rw [hz1]; rfl) hnew (by omega) (by omega) (by
   have := nextslicecap_le (need := xs.length + 1) (old := c) (by omega)
   rw [hz2]
   omega)
  generalize grownCap W1 (xs.length + 1) c 5 = k at *
  refine ⟨W1.heap.size, k, _, hr, ?_, by omega, hBA.drew.alloc (by show B ≤ W1.heap.size; omega) _⟩
  have hh : ∀ C : Array Value, (W1.drew.alloc (.cells C 5)).heap[W1.heap.size]? = some (.cells C 5 (0, 0)) := fun C => by
   show (W1.heap.push _)[W1.heap.size]? = _
   simp
  have hall : ((xs.map u8V).toArray ++ [Value.int .u8 (y : Int)].toArray ++ Builtin.zeroCells (Value.int .u8 0).cells (k - (xs.length + 1))) = ((xs ++ [y]).map u8V ++ List.replicate (k - (xs.length + 1)) (Value.int .u8 0)).toArray := by
   rw [zero8_cells, List.append_toArray, List.append_toArray, List.map_append]
   rfl
  rw [hall]
  have hcell : ∀ (j : Nat) (v : Value), ((xs ++ [y]).map u8V ++ List.replicate (k - (xs.length + 1)) (Value.int .u8 0))[j]? = some v → (W1.drew.alloc (.cells ((xs ++ [y]).map u8V ++ List.replicate (k - (xs.length + 1)) (Value.int .u8 0)).toArray 5)).cell? ⟨W1.heap.size, j, none⟩ = some v := fun j v hv => by
   simp only [World.cell?, hh]
   rw [List.getElem?_toArray]
   exact hv
  have hfz : ∀ (C : Array Value) (j : Nat), (W1.drew.alloc (.cells C 5)).frozen? ⟨W1.heap.size, j, none⟩ = false := fun C j => by
   simp only [World.frozen?, hh]
   simp
  have hlen : ((xs ++ [y]).map u8V).length = xs.length + 1 := by simp
  refine ⟨⟨by simp, fun j x hj => hcell j _ ?_, fun j _ => hfz _ j⟩, by rw [List.length_append, List.length_singleton]; exact hge, hle, fun j h1 h2 => ⟨hcell j _ ?_, hfz _ j⟩⟩
  ·have hl := (List.getElem?_eq_some_iff.1 hj).1
   rw [List.getElem?_append_left (by rw [List.length_map]; exact hl), List.getElem?_map, hj]
   rfl
  ·rw [List.length_append, List.length_singleton] at h1
   rw [List.getElem?_append_right (by rw [hlen]; exact h1), hlen, List.getElem?_replicate, if_pos (by omega)]
theorem wpList_appF {ops : Array Oper} {rest : List Oper} {o : Oper} {a : Act} {Q : Exit → Act → World → Prop} {W : World} {B g n c : Nat} {xs : List Nat} {y : Nat} (hw : Region.wanted o (yielded ops a.tmps) = true) (s z : Operand) (ho : o.op = .call { callee := .builtin .append, args := #[s, z], argTypes := #[100, 100] })
  (hs : a.eval s = .slice (some ⟨g, 0, none⟩) n c) (hy : a.eval z = .slice (some ⟨W.heap.size, 0, none⟩) 1 1) (hF : RowF W g xs c) (hn : xs.length = n) (hn9 : n ≤ 900000) (hB : B ≤ g) (hB2 : B ≤ W.heap.size)
  (h : ∀ g' c' w', RowF w' g' (xs ++ [y]) c' → B ≤ g' → Below B W w' → wpList Tryz.prog ops Q rest (a.put o.dst (.slice (some ⟨g', 0, none⟩) (n + 1) c')) w') : wpList Tryz.prog ops Q (o :: rest) a (W.alloc (.cells #[.int .u8 (y : Int)] 5)) :=
 wpList_step fun K hK => by
  simp only [hw, if_true]
  obtain ⟨g', c', w', hr, k1, k2, k3⟩ := run_appF o.type y hF hn hn9 hB hB2
  unfold Oper.wp execOp
  simp only [ho, resolve, invoke, builtin, Sem.run_bind, Sem.run_pure, Result.andThen_ok, List.map_toArray, List.map_cons, List.map_nil, hs, hy, hr]
  exact hK _ _ (h g' c' w' k1 k2 k3)
end Go.Proofs.YtnlnmfkmbpihhaaGreatDoor

namespace Go.Proofs.YtnlnmfkmbpihhaaGreatDoor
open Go.RowKit

/-- Interleaving leaves as many unreadable cells. -/
theorem ilv_perm : (((List.range 836).map ilv).isPerm (List.range 836)) = true := by decide +kernel
theorem dein_count {l : List Nat} (hl : l.length = 836) (x : Nat) : (deinL l).count x = l.count x := by
 have h1 : deinL l = ((List.range 836).map ilv).map (cf l) := by
  unfold deinL
  rw [List.map_map]
  rfl
 have h2 : (List.range 836).map (cf l) = l := by
  refine List.ext_getElem? fun j => ?_
  rw [List.getElem?_map]
  by_cases hj : j < 836
  ·rw [List.getElem?_range hj, List.getElem?_eq_getElem (by omega)]
   show some (cf l j) = _
   rw [cf_get (List.getElem?_eq_getElem (by omega))]
  ·rw [List.getElem?_eq_none (by simpa using hj), List.getElem?_eq_none (by omega)]
   rfl
 have h3 := ((List.isPerm_iff.1 ilv_perm).map (cf l)).count_eq x
 rw [← h1, h2] at h3
 exact h3
end Go.Proofs.YtnlnmfkmbpihhaaGreatDoor

namespace Go.Proofs.YtnlnmfkmbpihhaaGreatDoor
open Go.RowKit

def sliceLen : Value → Nat
 | .slice _ n _ => n
 | _ => 0

set_option maxRecDepth 100000 in
set_option maxHeartbeats 16000000 in
theorem rdec_any (w : World) (s : ByteArray) (hs : s.size ≤ 1000) :
  Calls Tryz.prog 41 #[.string s] w fun e w' => e = .returned (decR s) ∧ Below w.heap.size w w' := by
 obtain ⟨R, hR⟩ : ∃ R, decR s = R := ⟨_, rfl⟩
 rw [hR]
 unfold decR at hR
 have HCk := Lib.hid (fun W => rck1_any W s (by omega))
 have HO9 : Hid ((#[Value.int .i64 0, Value.int .i64 0, Value.int .i64 0, Value.int .i64 0, Value.int .i64 0, Value.int .i64 0, Value.int .i64 0, Value.int .u32 0, Value.string ⟨#[]⟩] : Array Value).all (·.oneCell') = true) := Lib.hid (by simp [Value.oneCell'])
 have HO3 : Hid ((#[Value.int .i64 0, Value.int .i64 0, Value.int .i64 0] : Array Value).all (·.oneCell') = true) := Lib.hid (by simp [Value.oneCell'])
 have hm : ∃ wz, (w.alloc (.cells #[.int .i64 0, .int .i64 0, .int .i64 0, .int .i64 0, .int .i64 0, .int .i64 0, .int .i64 0, .int .u32 0, .string ⟨#[]⟩] 34)).alloc (.cells #[.int .i64 0, .int .i64 0, .int .i64 0] 36) = wz ∧ Blk wz w.heap.size 34 zeroL ∧ Blk wz (w.heap.size + 1) 36 [.int .i64 0, .int .i64 0, .int .i64 0] ∧ Below w.heap.size w wz := by
  refine ⟨_, rfl, ?_, ?_, ((Below.refl _ _).alloc (Nat.le_refl _) _).alloc (by simp) _⟩
  ·exact (Blk.new w 34 zeroL).kept ((Below.refl _ _).alloc (Nat.le_refl _) _)
  ·have h := Blk.new (w.alloc (.cells #[.int .i64 0, .int .i64 0, .int .i64 0, .int .i64 0, .int .i64 0, .int .i64 0, .int .i64 0, .int .u32 0, .string ⟨#[]⟩] 34)) 36 [.int .i64 0, .int .i64 0, .int .i64 0]
   rw [show (w.alloc (.cells #[.int .i64 0, .int .i64 0, .int .i64 0, .int .i64 0, .int .i64 0, .int .i64 0, .int .i64 0, .int .u32 0, .string ⟨#[]⟩] 34)).heap.size = w.heap.size + 1 by simp] at h
   exact h
 obtain ⟨wz, hwz, hz, hq, hb⟩ := hm
 have HZ := Lib.hid hz
 have HQ := Lib.hid hq
 have HB := Lib.hid hb
 have HWZ := Lib.hid hwz
 clear hz hq hb hwz
 go_enter Tryz.func41, Tryz.ntmps41
 go_upto_region 1 with fail
 rw [HWZ.out]
 clear HWZ
 by_cases hc : chkE (bs s) = 0
 ·rw [if_neg (by simpa using hc)] at hR
  rw [hc] at HCk
  by_cases h836 : s.size ≤ 836
  ·rw [if_neg (by omega)] at hR
   have hok := chkE_ok hc
   obtain ⟨F, hF⟩ : ∃ F, strB (fullL s) = F := ⟨_, rfl⟩
   obtain ⟨L, hL⟩ : ∃ L, strB (wordL s) = L := ⟨_, rfl⟩
   obtain ⟨n, hn⟩ : ∃ n : Nat, 836 - s.size = n := ⟨_, rfl⟩
   have hnn := hn
   have hbF : bs F = fullL s := by rw [← hF]; exact bs_strB (full_bytes s)
   have hbL : bs L = wordL s := by rw [← hL]; exact bs_strB (word_bytes h836)
   have zF : F.size = 836 := by rw [← hF, strB_size, full_len h836]
   have zL : L.size = 836 := by rw [← hL, strB_size, word_len]
   have hsn : (s.size : Int) + n = 836 := by omega
   have hsn2 : s.size + n = 836 := by omega
   obtain ⟨U, hU⟩ : ∃ U : Int, (((fullL s).count 63 : Nat) : Int) = U := ⟨_, rfl⟩
   have HUn : Hid (∀ W : World, Calls Tryz.prog 79 #[.string L] W fun e w' => e = .returned (.int .i64 U) ∧ W = w') := Lib.hid (fun W => by
    have h := runr1_any W L (by omega)
    rw [hbL, show wordL s = deinL (fullL s) from rfl, dein_count (full_len h836), hU] at h
    exact h)
   have HDe : Hid (∀ W : World, Calls Tryz.prog 78 #[.string F, .int .i64 8] W fun e w' => e = .returned (.tuple #[.string L, .int .i64 0]) ∧ Below W.heap.size W w') := Lib.hid (fun W => by
    have h := rdein_any W F zF
    rw [hbF, show strB (deinL (fullL s)) = L from hL] at h
    exact h)
   have HEx : Hid (∀ W : World, Calls Tryz.prog 80 #[.string L] W fun e w' => e = .returned (extR (wordL s)) ∧ Below W.heap.size W w') := Lib.hid (fun W => by
    have h := rext_any W L zL (by rw [hbL]; exact word_ok hok h836)
    rw [hbL] at h
    exact h)
   have HVi : Hid (∀ W : World, Calls Tryz.prog 81 #[.string L] W fun e w' => (∃ f, e = .returned (.tuple #[.string (strB (bitsS (vdec 416 (wordL s) 0))), .int .i64 (vst (wordL s) 0), f, .int .i64 0])) ∧ Below W.heap.size W w') := Lib.hid (fun W => by
    have h := rvit_any W L 416 (by omega) (by omega) (by rw [hbL]; unfold chkE; rw [word_ok hok h836]; rfl)
    rw [hbL] at h
    exact h)
   obtain ⟨B, hB⟩ : ∃ B, strB (bitsS (inner (wordL s)).1) = B := ⟨_, rfl⟩
   obtain ⟨D, hD⟩ : ∃ D, (inner (wordL s)).2 = D := ⟨_, rfl⟩
   obtain ⟨V, hV⟩ : ∃ V, strB (recL s) = V := ⟨_, rfl⟩
   have hi := inner_len (word_len s)
   have hbB : bs B = bitsS (inner (wordL s)).1 := by rw [← hB]; exact bs_strB (bitsS_bytes hi.2)
   have zB : B.size = 416 := by rw [← hB, strB_size, bitsS_len, hi.1]
   have hbV : bs V = recL s := by rw [← hV]; exact bs_strB (rec_bytes s)
   have zV : V.size = 52 := by rw [← hV, strB_size, rec_len]
   have HTo : Hid (∀ W : World, Calls Tryz.prog 82 #[.string B] W fun e w' => (∃ v, e = .returned (.tuple #[.string V, v, .int .i64 0])) ∧ Below W.heap.size W w') := Lib.hid (fun W => by
    have h := rto1_any W B zB (by rw [hbB]; exact bitsS_01 hi.2)
    rw [hbB, show strB (toB (bitsS (inner (wordL s)).1)) = V from hV] at h
    exact h)
   have HDd : Hid (∀ W : World, Calls Tryz.prog 83 #[.string V, .int .i64 8, .slice none 0 0] W fun e w' => e = .returned (rsDecR (recL s)) ∧ Below W.heap.size W w') := Lib.hid (fun W => by
    have h := rdec8_any W V zV
    rw [hbV] at h
    exact h)
   have hg : decide ((836 : Int) < s.size) = false := decide_eq_false (by omega)
   have hD2 := Lib.hid hD; have hUc := Lib.hid hU
   have HR := Lib.hid hR
   have HI : Hid (bs B = bitsS (inner (wordL s)).1 ∧ (inner (wordL s)).2 = D) := Lib.hid ⟨hbB, hD⟩
   have HFb := Lib.hid hF
   have HFl := Lib.hid (full_len h836)
   clear hR hbF hbL zF zL hF hL hn hU hB hD hV hi hbB hbV zB zV hc hok
   have hs1 : s.size ≤ 1000000 := by omega
   obtain ⟨c0, w1, hcv, hF1, hb1⟩ := run_toBytesF wz s hs1
   have HF1 := Lib.hid hF1
   have HBy1 := Lib.hid hb1
   have Hful : Hid (fullL s = bs s ++ List.replicate n 63) := Lib.hid (by unfold fullL; rw [hnn])
   have Hbz := Lib.hid (bs_len s)
   clear hF1 hb1
   go_upto_region 6 with (go_at_call 77; refine (HCk.out _).mono ?_; rintro e w' ⟨rfl, rfl⟩)
   clear hcv
   go_loopw [5] (fun v wr => ∃ m k g c : Nat, m ≤ n ∧ k = s.size + m ∧ v = .slice (some ⟨g, 0, none⟩) k c ∧ RowF wr g (bs s ++ List.replicate m 63) c ∧ wz.heap.size ≤ g ∧ Below wz.heap.size wz wr) (fun v _ => 836 - sliceLen v)
   case atStart => exact ⟨0, s.size, _, c0, by omega, rfl, rfl, by rw [List.replicate_zero, List.append_nil]; exact HF1.out, Nat.le_refl _, HBy1.out⟩
   case round =>
    obtain ⟨m, k, g, c, hm, hk, rfl, hF, hg, hB⟩ := hrel
    have HFm := Lib.hid hF
    have HBm := Lib.hid hB
    have hBz := hB.size
    have Hk := Lib.hid hk
    have hlk : (bs s ++ List.replicate m 63).length = k := by rw [List.length_append, List.length_replicate, Hbz.out]; omega
    have hk9 : k ≤ 900000 := by omega
    clear hF hB
    by_cases h : m < n
    ·have hkI : (k : Int) < 836 := by omega
     have Hrep : Hid ((bs s ++ List.replicate m 63) ++ [63] = bs s ++ List.replicate (m + 1) 63) := Lib.hid (by rw [List.append_assoc, ← List.replicate_succ'])
     clear hk
     go_wp2_with (at_builtin; refine wpList_appF (y := 63) rfl _ _ rfl rfl rfl HFm.out hlk hk9 hg hBz ?_; intro g2 c2 w2 hF2 hg2 hb2)
     go_roundw
     case rel =>
      refine ⟨m + 1, k + 1, g2, c2, by omega, by have := Hk.out; omega, rfl, ?_, hg2, HBm.out.trans hb2⟩
      rw [← Hrep.out]
      exact hF2
     case measure => simp [sliceLen]; omega
    ·obtain rfl : m = n := by omega
     obtain rfl : k = 836 := by omega
     have hkI : ¬ ((836 : Nat) : Int) < 836 := by omega
     have hF5 : RowF wr g (fullL s) c := by rw [Hful.out]; exact HFm.out
     have eB := HBm.out
     clear hk hlk
     have hfl : (fullL s).length = 836 := HFl.out
     have hcs := run_toStr (hF5.row.bytes (n := 836) (c := c) hfl.symm (by have := hF5.le; omega) hF5.max) hfl.symm
     rw [HFb.out] at hcs
     have HZ2 := Lib.hid (HZ.out.kept eB)
     have HQ2 := Lib.hid (HQ.out.kept eB)
     have HB2 := Lib.hid (HB.out.trans (eB.mono HB.out.size))
     clear eB hF5 hfl HF1 HBy1 HFm HBm
     go_upto_region 9 with (go_at_call 78; refine (HDe.out _).mono ?_; rintro e w4 ⟨rfl, hb4⟩)
     have hZ4 := HZ2.out.kept hb4
     have hQ4 := HQ2.out.kept hb4
     have hB4 := HB2.out.trans (hb4.mono HB2.out.size)
     have hg6 : w.heap.size + 2 ≤ w4.heap.size := by have := HQ.out.lt; have := HQ2.out.lt; have := hb4.size; omega
     have hA : Below w4.heap.size w4 (w4.alloc (.cells #[.int .i64 0, .int .i64 U, .int .i64 0] 36)) := (Below.refl _ _).alloc (Nat.le_refl _) _
     have HZ4 := Lib.hid (hZ4.kept hA)
     have HQ4 := Lib.hid (hQ4.kept hA)
     have HB4 := Lib.hid (hB4.trans (hA.mono hB4.size))
     have HX4 := Lib.hid (Blk.new w4 36 [.int .i64 0, .int .i64 U, .int .i64 0])
     change Hid (Blk (w4.alloc (.cells #[.int .i64 0, .int .i64 U, .int .i64 0] 36)) _ _ _) at HX4
     clear hb4 hZ4 hQ4 hB4 hA HZ HQ HB HZ2 HQ2 HB2 hcs
     obtain ⟨g6, hg6e⟩ : ∃ g, w4.heap.size = g := ⟨_, rfl⟩
     rw [hg6e] at HX4 hg6
     go_upto_region 10 with (go_at_call 79; refine (HUn.out _).mono ?_; rintro e w' ⟨rfl, rfl⟩)
     generalize w4.alloc (.cells #[.int .i64 0, .int .i64 U, .int .i64 0] 36) = w4a at *
     clear HUn HDe HCk
     clear hg6e
     have hEx : ∃ (X : ByteArray) (e : Int) (b : Bool), extR (wordL s) = .tuple #[.string X, .int .i64 e] ∧ (e != 0) = b ∧ (b = false → X = B ∧ D = 0) ∧ (b = true → strB (bitsS (vdec 416 (wordL s) 0)) = B ∧ vst (wordL s) 0 = D) := by
      obtain ⟨h1, h2⟩ := HI.out
      have h3 : B = strB (bitsS (inner (wordL s)).1) := by rw [← h1, strB_bs]
      unfold inner at h2 h3
      unfold extR
      cases hx : extP (wordL s) with
      | none =>
       rw [hx] at h2 h3
       exact ⟨_, _, true, rfl, rfl, (fun h => Bool.noConfusion h), (fun _ => ⟨h3.symm, h2⟩)⟩
      | some u =>
       rw [hx] at h2 h3
       exact ⟨_, _, false, rfl, rfl, (fun _ => ⟨h3.symm, h2.symm⟩), (fun h => Bool.noConfusion h)⟩
     obtain ⟨X, e0, be, hx1, hx2, hx3, hx4⟩ := hEx
     rw [hx1] at HEx
     have H3 := Lib.hid hx3
     have H4 := Lib.hid hx4
     clear hx1 hx3 hx4 HI
     go_upto_if 50 with (go_at_call 80; refine (HEx.out _).mono ?_; rintro e w5 ⟨rfl, hb5⟩)
     have HZ5 := Lib.hid (HZ4.out.kept hb5)
     have HQ5 := Lib.hid (HQ4.out.kept hb5)
     have HX5 := Lib.hid (HX4.out.kept hb5)
     have HB5 := Lib.hid (HB4.out.trans (hb5.mono HB4.out.size))
     clear hb5 HZ4 HQ4 HX4 HB4 HEx
     go_cut [9] (fun s9 wx => s9 = .string B ∧ Blk wx w.heap.size 34 zeroL ∧ Blk wx (w.heap.size + 1) 36 [.int .i64 0, .int .i64 0, .int .i64 0] ∧ Blk wx g6 36 [.int .i64 D, .int .i64 U, .int .i64 0] ∧ Below w.heap.size w wx)
     case first =>
      cases be with
      | false =>
       obtain ⟨h5, h6⟩ := H3.out rfl
       subst h5 h6
       go_wp2_with fail
       go_meet
       exact ⟨rfl, HZ5.out, HQ5.out, HX5.out, HB5.out⟩
      | true =>
       obtain ⟨h5, h6⟩ := H4.out rfl
       rw [h5, h6] at HVi
       clear h5 h6
       go_wp2_with (go_at_call 81; refine (HVi.out _).mono ?_; rintro e w6 ⟨⟨f, rfl⟩, hb6⟩; have hx6 := HX5.out.kept hb6; have k0 := hx6.cell (i := 0) rfl; have f0 := hx6.frozen 0)
       go_meet
       exact ⟨rfl, (HZ5.out.kept hb6).far (by simp; omega) _, (HQ5.out.kept hb6).far (by simp; omega) _, hx6.set 0 _, (HB5.out.trans (hb6.mono HB5.out.size)).setCell (by simp; omega) _⟩
     case rest =>
     obtain ⟨rfl, hz, hq, hx, hbw⟩ := hcut
     have HZ6 := Lib.hid hz
     have HQ6 := Lib.hid hq
     have HX6 := Lib.hid hx
     have HB6 := Lib.hid hbw
     clear hz hq hx hbw HZ5 HQ5 HX5 HB5 HVi H3 H4 hx2
     cases hd : rsDec (recL s) with
     | none =>
      have hR := HR.out
      rw [hd] at hR
      dsimp only at hR
      have HR2 := Lib.hid hR
      unfold rsDecR at HDd
      rw [hd] at HDd
      dsimp only at HDd
      clear hR HR hd
      go_upto_region 16 with (first | (go_at_call 82; refine (HTo.out _).mono ?_; rintro e w6 ⟨⟨v6, rfl⟩, hb6⟩) | (go_at_call 83; refine (HDd.out _).mono ?_; rintro e w7 ⟨rfl, hb7⟩))
      have eB := hb6.trans (hb7.mono hb6.size)
      have HZ7 := Lib.hid (HZ6.out.kept eB)
      have HQ7 := Lib.hid (HQ6.out.kept eB)
      have HB7 := Lib.hid (HB6.out.trans (eB.mono HB6.out.size))
      clear eB hb6 hb7 HZ6 HQ6 HX6 HB6 HTo HDd
      go_upto_region 16 with (fail)
      have hZ7 := HZ7.out; have hQ7 := HQ7.out; have hB7 := HB7.out
      obtain ⟨W1, W2, hE1, hE2, hT1, hT2, hF, hQ, hG⟩ := two_stores (g2 := w.heap.size) (g3 := w.heap.size + 1) hZ7 hQ7 (by omega) hB7 (Nat.le_refl _) (by omega) zeroL [.int .i64 0, .int .i64 0, .int .i64 0] rfl rfl
      have HE1 := Lib.hid hE1; have HE2 := Lib.hid hE2; have HT1 := Lib.hid hT1; have HT2 := Lib.hid hT2; have HF2 := Lib.hid hF; have HQ2 := Lib.hid hQ; have HG := Lib.hid hG
      clear hE1 hE2 hT1 hT2 hF hQ hG hZ7 hQ7 hB7
      go_wp2_with (first | refine frm_store rfl (.tmp 2) (.tmp 73) rfl _ _ rfl rfl HT1.out rfl HO9.out W1 HE1.out ?_ | refine qual_store rfl (.tmp 3) (.tmp 74) rfl _ _ rfl rfl HT2.out rfl HO3.out W2 HE2.out ?_)
      have hF := HF2.out; have hQ := HQ2.out; unfold zeroL at hF
      have c0 := hF.cell (i := 0) rfl; have c1 := hF.cell (i := 1) rfl; have c2 := hF.cell (i := 2) rfl; have c3 := hF.cell (i := 3) rfl; have c4 := hF.cell (i := 4) rfl; have c5 := hF.cell (i := 5) rfl; have c6 := hF.cell (i := 6) rfl; have c7 := hF.cell (i := 7) rfl; have c8 := hF.cell (i := 8) rfl
      have d0 := hQ.cell (i := 0) rfl; have d1 := hQ.cell (i := 1) rfl; have d2 := hQ.cell (i := 2) rfl
      rw [← HR2.out]
      exact bodyPost_ret (v := .tuple #[zeroF, zeroQ, .int .i64 11]) (by simp [results, Tryz.results41, go_sem, zeroF, frV, zeroQ, qualV, c0, c1, c2, c3, c4, c5, c6, c7, c8, d0, d1, d2]) rfl ⟨rfl, HG.out⟩
     | some on =>
      obtain ⟨o, nn⟩ := on
      obtain ⟨ho1, ho2⟩ := rsDec_len (rec_bytes s) hd
      rw [rec_len] at ho1
      have hR := HR.out
      rw [hd] at hR
      dsimp only at hR
      unfold rsDecR at HDd
      rw [hd] at HDd
      dsimp only at HDd
      have hM := take44 ho2
      obtain ⟨O, hO⟩ : ∃ O, strB o = O := ⟨_, rfl⟩
      obtain ⟨M, hMe⟩ : ∃ M, strB (o.take 44) = M := ⟨_, rfl⟩
      have zO : O.size = 52 := by rw [← hO, strB_size, ho1]
      have zM : M.size ≤ 1000 := by rw [← hMe, strB_size, List.length_take]; omega
      obtain ⟨N, hN⟩ : ∃ x : Int, ((nn : Nat) : Int) = x := ⟨_, rfl⟩
      rw [hO, hN] at HDd
      rw [hO] at hM
      rw [hN] at hR
      clear hN
      rw [hMe] at hM hR
      have HUm := Lib.hid (fun W => runm_any W M zM)
      obtain ⟨k, r, q, i, l, d, p, a, t, hfr⟩ := frame_parts M
      rw [unmR_eq, hfr] at HUm
      obtain ⟨C, hC⟩ : ∃ C, unmC M = C := ⟨_, rfl⟩
      rw [hC] at HUm hR hfr
      have HR := Lib.hid hR
      have HFr := Lib.hid hfr
      unfold frV at HUm
      clear hR hd ho1 ho2 hO hMe zM hfr hC
      go_upto_region 17 with (first | (go_at_call 82; refine (HTo.out _).mono ?_; rintro e w6 ⟨⟨v6, rfl⟩, hb6⟩) | (go_at_call 83; refine (HDd.out _).mono ?_; rintro e w7 ⟨rfl, hb7⟩))
      have eB := hb6.trans (hb7.mono hb6.size)
      have hX7 := HX6.out.kept eB
      have HZ7 := Lib.hid ((HZ6.out.kept eB).far (p := ⟨g6, 2, none⟩) (by simp; omega) (.int .i64 N))
      have HQ7 := Lib.hid ((HQ6.out.kept eB).far (p := ⟨g6, 2, none⟩) (by simp; omega) (.int .i64 N))
      have HX7 := Lib.hid (hX7.set 2 (.int .i64 N))
      have HB7 := Lib.hid ((HB6.out.trans (eB.mono HB6.out.size)).setCell (p := ⟨g6, 2, none⟩) (by simp; omega) (.int .i64 N))
      have k2 := hX7.cell (i := 2) rfl
      have f2 := hX7.frozen 2
      clear eB hb6 hX7 HZ6 HQ6 HX6 HB6 HTo HDd
      go_upto_region 18 with fail
      generalize w7.setCell ⟨g6, 2, none⟩ (.int .i64 N) = wy at *
      clear k2 f2 hb7
      go_upto_region 19 with (go_at_call 84; refine (HUm.out _).mono ?_; rintro e w8 ⟨rfl, hb8⟩)
      have hA : Below w8.heap.size w8 (w8.alloc (.cells #[.int .i64 k, .int .i64 r, .int .i64 q, .int .i64 i, .int .i64 l, .int .i64 d, .int .i64 p, .int .u32 a, .string t] 34)) := (Below.refl _ _).alloc (Nat.le_refl _) _
      have eB := hb8.trans (hA.mono hb8.size)
      have HZ9 := Lib.hid (HZ7.out.kept eB)
      have HQ9 := Lib.hid (HQ7.out.kept eB)
      have HX9 := Lib.hid (HX7.out.kept eB)
      have HB9 := Lib.hid (HB7.out.trans (eB.mono HB7.out.size))
      have HS9 := Lib.hid (Blk.new w8 34 [.int .i64 k, .int .i64 r, .int .i64 q, .int .i64 i, .int .i64 l, .int .i64 d, .int .i64 p, .int .u32 a, .string t])
      change Hid (Blk (w8.alloc (.cells #[.int .i64 k, .int .i64 r, .int .i64 q, .int .i64 i, .int .i64 l, .int .i64 d, .int .i64 p, .int .u32 a, .string t] 34)) _ _ _) at HS9
      have h16 : w.heap.size + 2 ≤ w8.heap.size := by have := HQ7.out.lt; have := hb8.size; omega
      clear hA eB hb8 HZ7 HQ7 HX7 HB7 HUm
      generalize w8.alloc (.cells #[.int .i64 k, .int .i64 r, .int .i64 q, .int .i64 i, .int .i64 l, .int .i64 d, .int .i64 p, .int .u32 a, .string t] 34) = w9 at *
      generalize w8.heap.size = g16 at *
      by_cases hC0 : C = 0
      ·subst hC0
       have hR := HR.out
       rw [if_pos rfl] at hR
       have hfr := HFr.out
       rw [if_pos rfl] at hfr
       rw [hfr, hD2.out, hUc.out] at hR
       have HR2 := Lib.hid hR
       have HSb : Hid (Quad w9 g16 g6 (.int .i64 k) (.int .i64 r) (.int .i64 q) (.int .i64 i) (.int .i64 l) (.int .i64 d) (.int .i64 p) (.int .u32 a) (.string t) (.int .i64 D) (.int .i64 U) (.int .i64 N)) := Lib.hid ⟨Box9.blk HS9.out, HX9.out, HX9.out.cell (i := 0) rfl, HX9.out.cell (i := 1) rfl, HX9.out.cell (i := 2) rfl⟩
       clear hR hfr HR HFr
       go_upto_region 21 with fail
       go_cut [4] (fun s4 wx => s4 = .int .i64 0 ∧ Blk wx w.heap.size 34 [.int .i64 k, .int .i64 r, .int .i64 q, .int .i64 i, .int .i64 l, .int .i64 d, .int .i64 p, .int .u32 a, .string t] ∧ Blk wx (w.heap.size + 1) 36 [.int .i64 D, .int .i64 U, .int .i64 N] ∧ Below w.heap.size w wx)
       case first =>
        refine wp_region_held_drew (S := (fun w' => Box9 w' g16 (.int .i64 k) (.int .i64 r) (.int .i64 q) (.int .i64 i) (.int .i64 l) (.int .i64 d) (.int .i64 p) (.int .u32 a) (.string t) ∧ Blk w' g6 36 [.int .i64 D, .int .i64 U, .int .i64 N] ∧ w'.cell? ⟨g6, 0, none⟩ = some (.int .i64 D) ∧ w'.cell? ⟨g6, 1, none⟩ = some (.int .i64 U) ∧ w'.cell? ⟨g6, 2, none⟩ = some (.int .i64 N))) (by kernel_rfl) ?_ (fun hHeld => ?_)
        ·(first | exact quad_drw HSb.out | exact quad_turned (quad_turned (quad_drw HSb.out) tF (by omega) (by omega)) tQ (by omega) (by omega) | exact quad_turned (quad_turned (quad_drw HSb.out) tQ (by omega) (by omega)) tF (by omega) (by omega) | exact quad_turned (quad_drw HSb.out) tF (by omega) (by omega) | exact quad_turned (quad_drw HSb.out) tQ (by omega) (by omega))
        refine tk 0 ?_
        refine tk 1 ?_
        refine wpAnyH_ready (rs := [2]) (by kernel_rfl) (by simp) ?_
        refine AllReadyH.cons (o := _) rfl (fun K hK => ?_) ?_
        ·refine step_storeF (g := w.heap.size) (us := zeroL) rfl (.tmp 2) (.tmp 89) rfl _ rfl rfl rfl (by simp [Value.oneCell']) (by first | exact HZ9.out | exact (show Blk _ _ _ _ from HZ9.out).turned tQ (by omega)) rfl ?_
         intro wF pF tF
         refine hko hK (by (first | exact quad_drw HSb.out | exact quad_turned (quad_turned (quad_drw HSb.out) tF (by omega) (by omega)) tQ (by omega) (by omega) | exact quad_turned (quad_turned (quad_drw HSb.out) tQ (by omega) (by omega)) tF (by omega) (by omega) | exact quad_turned (quad_drw HSb.out) tF (by omega) (by omega) | exact quad_turned (quad_drw HSb.out) tQ (by omega) (by omega))) (fun _ => ?_)
         clear hK K
         refine wpAnyH_ready (rs := [3]) (by kernel_rfl) (by simp) ?_
         refine AllReadyH.cons (o := _) rfl (fun K hK => ?_) ?_
         ·refine step_storeQ (g := w.heap.size + 1) (us := [.int .i64 0, .int .i64 0, .int .i64 0]) rfl (.tmp 3) (.tmp 90) rfl _ rfl rfl rfl (by simp [Value.oneCell']) (Blk.turned (A := w9.drew) HQ9.out tF (by omega)) rfl ?_
          intro wQ pQ tQ
          refine hko hK (by (first | exact quad_drw HSb.out | exact quad_turned (quad_turned (quad_drw HSb.out) tF (by omega) (by omega)) tQ (by omega) (by omega) | exact quad_turned (quad_turned (quad_drw HSb.out) tQ (by omega) (by omega)) tF (by omega) (by omega) | exact quad_turned (quad_drw HSb.out) tF (by omega) (by omega) | exact quad_turned (quad_drw HSb.out) tQ (by omega) (by omega))) (fun _ => ?_)
          clear hK K
          refine tk 4 ?_
          refine wpAnyH_done (by kernel_rfl) ?_ _
          have eB : Below w.heap.size w wQ := tQ.below (tF.below HB9.out.drew (by omega)) (by omega)
          have pF2 := pF.turned tQ (by omega)
          clear tF tQ pF
          go_wp2_with fail
          go_meet
          exact ⟨rfl, pF2, pQ, eB⟩
         exact AllReadyH.nil
        exact AllReadyH.nil

       case rest =>
        obtain ⟨rfl, hF, hQ, hG⟩ := hcut
        clear HSb HS9 HX9 HZ9 HQ9 HB9
        have HF2 := Lib.hid hF; have HQ2 := Lib.hid hQ; have HG := Lib.hid hG
        clear hF hQ hG
        go_wp2_with fail
        have hF := HF2.out; have hQ := HQ2.out
        have c0 := hF.cell (i := 0) rfl; have c1 := hF.cell (i := 1) rfl; have c2 := hF.cell (i := 2) rfl; have c3 := hF.cell (i := 3) rfl; have c4 := hF.cell (i := 4) rfl; have c5 := hF.cell (i := 5) rfl; have c6 := hF.cell (i := 6) rfl; have c7 := hF.cell (i := 7) rfl; have c8 := hF.cell (i := 8) rfl
        have d0 := hQ.cell (i := 0) rfl; have d1 := hQ.cell (i := 1) rfl; have d2 := hQ.cell (i := 2) rfl
        rw [← HR2.out]
        exact bodyPost_ret (v := .tuple #[frV k r q i l d p a t, qualV D U N, .int .i64 0]) (by simp [results, Tryz.results41, go_sem, frV, qualV, c0, c1, c2, c3, c4, c5, c6, c7, c8, d0, d1, d2]) rfl ⟨rfl, HG.out⟩
      ·have hR := HR.out
       rw [if_neg hC0] at hR
       have HR2 := Lib.hid hR
       have h1 : (C != 0) = true := by simpa using hC0
       clear hR hC0 HR HFr HS9 HX9
       go_upto_region 20 with (fail)
       have hZ7 := HZ9.out; have hQ7 := HQ9.out; have hB7 := HB9.out
       obtain ⟨W1, W2, hE1, hE2, hT1, hT2, hF, hQ, hG⟩ := two_stores (g2 := w.heap.size) (g3 := w.heap.size + 1) hZ7 hQ7 (by omega) hB7 (Nat.le_refl _) (by omega) zeroL [.int .i64 0, .int .i64 0, .int .i64 0] rfl rfl
       have HE1 := Lib.hid hE1; have HE2 := Lib.hid hE2; have HT1 := Lib.hid hT1; have HT2 := Lib.hid hT2; have HF2 := Lib.hid hF; have HQ2 := Lib.hid hQ; have HG := Lib.hid hG
       clear hE1 hE2 hT1 hT2 hF hQ hG hZ7 hQ7 hB7
       go_wp2_with (first | refine frm_store rfl (.tmp 2) (.tmp 86) rfl _ _ rfl rfl HT1.out rfl HO9.out W1 HE1.out ?_ | refine qual_store rfl (.tmp 3) (.tmp 87) rfl _ _ rfl rfl HT2.out rfl HO3.out W2 HE2.out ?_)
       have hF := HF2.out; have hQ := HQ2.out; unfold zeroL at hF
       have c0 := hF.cell (i := 0) rfl; have c1 := hF.cell (i := 1) rfl; have c2 := hF.cell (i := 2) rfl; have c3 := hF.cell (i := 3) rfl; have c4 := hF.cell (i := 4) rfl; have c5 := hF.cell (i := 5) rfl; have c6 := hF.cell (i := 6) rfl; have c7 := hF.cell (i := 7) rfl; have c8 := hF.cell (i := 8) rfl
       have d0 := hQ.cell (i := 0) rfl; have d1 := hQ.cell (i := 1) rfl; have d2 := hQ.cell (i := 2) rfl
       rw [← HR2.out]
       exact bodyPost_ret (v := .tuple #[zeroF, zeroQ, .int .i64 C]) (by simp [results, Tryz.results41, go_sem, zeroF, frV, zeroQ, qualV, c0, c1, c2, c3, c4, c5, c6, c7, c8, d0, d1, d2]) rfl ⟨rfl, HG.out⟩

  ·rw [if_pos (by omega)] at hR
   have HR2 := Lib.hid hR
   have h8 : (836 : Int) < s.size := by omega
   clear hR hc h836
   go_upto_region 4 with (go_at_call 77; refine (HCk.out _).mono ?_; rintro e w' ⟨rfl, rfl⟩)
   have hZ7 := HZ.out; have hQ7 := HQ.out; have hB7 := HB.out
   obtain ⟨W1, W2, hE1, hE2, hT1, hT2, hF, hQ, hG⟩ := two_stores (g2 := w.heap.size) (g3 := w.heap.size + 1) hZ7 hQ7 (by omega) hB7 (Nat.le_refl _) (by omega) zeroL [.int .i64 0, .int .i64 0, .int .i64 0] rfl rfl
   have HE1 := Lib.hid hE1; have HE2 := Lib.hid hE2; have HT1 := Lib.hid hT1; have HT2 := Lib.hid hT2; have HF2 := Lib.hid hF; have HQ2 := Lib.hid hQ; have HG := Lib.hid hG
   clear hE1 hE2 hT1 hT2 hF hQ hG hZ7 hQ7 hB7
   go_wp2_with (first | refine frm_store rfl (.tmp 2) (.tmp 25) rfl _ _ rfl rfl HT1.out rfl HO9.out W1 HE1.out ?_ | refine qual_store rfl (.tmp 3) (.tmp 26) rfl _ _ rfl rfl HT2.out rfl HO3.out W2 HE2.out ?_)
   have hF := HF2.out; have hQ := HQ2.out; unfold zeroL at hF
   have c0 := hF.cell (i := 0) rfl; have c1 := hF.cell (i := 1) rfl; have c2 := hF.cell (i := 2) rfl; have c3 := hF.cell (i := 3) rfl; have c4 := hF.cell (i := 4) rfl; have c5 := hF.cell (i := 5) rfl; have c6 := hF.cell (i := 6) rfl; have c7 := hF.cell (i := 7) rfl; have c8 := hF.cell (i := 8) rfl
   have d0 := hQ.cell (i := 0) rfl; have d1 := hQ.cell (i := 1) rfl; have d2 := hQ.cell (i := 2) rfl
   rw [← HR2.out]
   exact bodyPost_ret (v := .tuple #[zeroF, zeroQ, .int .i64 6]) (by simp [results, Tryz.results41, go_sem, zeroF, frV, zeroQ, qualV, c0, c1, c2, c3, c4, c5, c6, c7, c8, d0, d1, d2]) rfl ⟨rfl, HG.out⟩
 ·rw [if_pos hc] at hR
  have hE3 : chkE (bs s) = 3 := by
   unfold chkE at hc ⊢
   split
   ·next h => rw [if_pos h] at hc; exact absurd rfl hc
   ·rfl
  rw [hE3] at hR HCk
  have HR2 := Lib.hid hR
  clear hR hc hE3
  go_upto_region 2 with (go_at_call 77; refine (HCk.out _).mono ?_; rintro e w' ⟨rfl, rfl⟩)
  have hZ7 := HZ.out; have hQ7 := HQ.out; have hB7 := HB.out
  obtain ⟨W1, W2, hE1, hE2, hT1, hT2, hF, hQ, hG⟩ := two_stores (g2 := w.heap.size) (g3 := w.heap.size + 1) hZ7 hQ7 (by omega) hB7 (Nat.le_refl _) (by omega) zeroL [.int .i64 0, .int .i64 0, .int .i64 0] rfl rfl
  have HE1 := Lib.hid hE1; have HE2 := Lib.hid hE2; have HT1 := Lib.hid hT1; have HT2 := Lib.hid hT2; have HF2 := Lib.hid hF; have HQ2 := Lib.hid hQ; have HG := Lib.hid hG
  clear hE1 hE2 hT1 hT2 hF hQ hG hZ7 hQ7 hB7
  go_wp2_with (first | refine frm_store rfl (.tmp 2) (.tmp 20) rfl _ _ rfl rfl HT1.out rfl HO9.out W1 HE1.out ?_ | refine qual_store rfl (.tmp 3) (.tmp 21) rfl _ _ rfl rfl HT2.out rfl HO3.out W2 HE2.out ?_)
  have hF := HF2.out; have hQ := HQ2.out; unfold zeroL at hF
  have c0 := hF.cell (i := 0) rfl; have c1 := hF.cell (i := 1) rfl; have c2 := hF.cell (i := 2) rfl; have c3 := hF.cell (i := 3) rfl; have c4 := hF.cell (i := 4) rfl; have c5 := hF.cell (i := 5) rfl; have c6 := hF.cell (i := 6) rfl; have c7 := hF.cell (i := 7) rfl; have c8 := hF.cell (i := 8) rfl
  have d0 := hQ.cell (i := 0) rfl; have d1 := hQ.cell (i := 1) rfl; have d2 := hQ.cell (i := 2) rfl
  rw [← HR2.out]
  exact bodyPost_ret (v := .tuple #[zeroF, zeroQ, .int .i64 3]) (by simp [results, Tryz.results41, go_sem, zeroF, frV, zeroQ, qualV, c0, c1, c2, c3, c4, c5, c6, c7, c8, d0, d1, d2]) rfl ⟨rfl, HG.out⟩

end Go.Proofs.YtnlnmfkmbpihhaaGreatDoor
