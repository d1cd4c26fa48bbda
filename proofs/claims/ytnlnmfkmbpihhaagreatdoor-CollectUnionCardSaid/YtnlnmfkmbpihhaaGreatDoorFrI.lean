/-
 WALKS: steleref13.Marshal, Unmarshal.
 WALK: steleref13.Unmarshal.
-/
import Derived.Test.YtnlnmfkmbpihhaaGreatDoorFrE
namespace Go.Proofs.YtnlnmfkmbpihhaaGreatDoor
open Go.RowKit

set_option maxRecDepth 100000 in
set_option maxHeartbeats 8000000 in
theorem rmar_all (w : World) (k r s i l d p a : Int) (t : ByteArray) (ha : 0 ≤ a ∧ a < 4294967296) :
  Calls Tryz.prog 69 #[frV k r s i l d p a t] w fun e w' => e = .returned (marR k r s i l d p a t) ∧ Below w.heap.size w w' := by
 obtain ⟨R, hR⟩ : ∃ R, marR k r s i l d p a t = R := ⟨_, rfl⟩
 rw [hR]
 unfold marR at hR
 have HC := Lib.hid (fun W => rcheck_all W k r s i l d p a t)
 obtain ⟨E, hE⟩ : ∃ E, frE k r s i l d p t = E := ⟨_, rfl⟩
 rw [hE] at hR HC
 have HB := Lib.hid ((Below.refl w.heap.size w).alloc (Nat.le_refl _) (.cells #[.int .i64 k, .int .i64 r, .int .i64 s, .int .i64 i, .int .i64 l, .int .i64 d, .int .i64 p, .int .u32 a, .string t] 34))
 by_cases h0 : E = 0
 ·subst h0
  obtain ⟨h1, h2, h3, h4, h5, h6, h7, h8⟩ := frE_ok hE
  obtain ⟨k, rfl⟩ : ∃ n : Nat, k = n := ⟨k.toNat, by omega⟩
  obtain ⟨r, rfl⟩ : ∃ n : Nat, r = n := ⟨r.toNat, by omega⟩
  obtain ⟨s, rfl⟩ : ∃ n : Nat, s = n := ⟨s.toNat, by omega⟩
  obtain ⟨i, rfl⟩ : ∃ n : Nat, i = n := ⟨i.toNat, by omega⟩
  obtain ⟨l, rfl⟩ : ∃ n : Nat, l = n := ⟨l.toNat, by omega⟩
  obtain ⟨d, rfl⟩ : ∃ n : Nat, d = n := ⟨d.toNat, by omega⟩
  obtain ⟨p, rfl⟩ : ∃ n : Nat, p = n := ⟨p.toNat, by omega⟩
  obtain ⟨a, rfl⟩ : ∃ n : Nat, a = n := ⟨a.toNat, by omega⟩
  have HR : Hid (Value.tuple #[.string (strB (marL k r s i l d p a t)), .int .i64 0] = R) := Lib.hid (by rw [← hR, if_neg (by simp)]; simp)
  have HH : Hid (∀ W : World, Calls Tryz.prog 130 #[frV k r s i l d p a t] W fun e w' => e = .returned (.string (strB (hdrL k r s i l d p a))) ∧ Below W.heap.size W w') := Lib.hid (fun W => rheader_any W k r s i l d p a t (by omega) (by omega) (by omega) (by omega) (by omega) (by omega) (by omega))
  have hm : strB (hdrL k r s i l d p a) ++ t = strB (msgL k r s i l d p a t) := by rw [← hdr_msg k r s i l d p a t (by omega) (by omega) (by omega) (by omega) (by omega) (by omega) (by omega), ← strB_cat, strB_bs]
  have HMS := Lib.hid hm
  have zh : (strB (hdrL k r s i l d p a)).size = 12 := by rw [strB_size]; rfl
  have zt := h8
  have hap : ∀ x y : ByteArray, (x ++ y).size = x.size + y.size := fun x y => ByteArray.size_append
  have zb : ∀ n, (strB (be4 n)).size = 4 := fun n => by rw [strB_size]; rfl
  have hz : (strB (msgL k r s i l d p a t)).size = 40 := by rw [← hm, hap, zh, zt]
  have HM : Hid (strB (marL k r s i l d p a t) = strB (msgL k r s i l d p a t) ++ strB (be4 (sumL [strB (msgL k r s i l d p a t)]))) := Lib.hid (by rw [strB_cat]; rfl)
  unfold frV at HC HH ⊢
  have HZ := Lib.hid (Box9.blk (Blk.new w 34 [.int .i64 k, .int .i64 r, .int .i64 s, .int .i64 i, .int .i64 l, .int .i64 d, .int .i64 p, .int .u32 a, .string t]))
  change Hid (Box9 (w.alloc (.cells #[.int .i64 k, .int .i64 r, .int .i64 s, .int .i64 i, .int .i64 l, .int .i64 d, .int .i64 p, .int .u32 a, .string t] 34)) _ _ _ _ _ _ _ _ _ _) at HZ
  clear h1 h2 h3 h4 h5 h6 h7 h8 hE hR ha hm
  go_enter Tryz.func69, Tryz.ntmps69
  go_upto_region 1 with fail
  generalize w.alloc (.cells #[.int .i64 k, .int .i64 r, .int .i64 s, .int .i64 i, .int .i64 l, .int .i64 d, .int .i64 p, .int .u32 a, .string t] 34) = wz at *
  obtain ⟨c0, c1, c2, c3, c4, c5, c6, c7, c8⟩ := HZ.out
  go_upto_region 4 with (go_at_call 28; refine (HC.out _).mono ?_; rintro e wy ⟨rfl, hby⟩)
  have HZy := Lib.hid (HZ.out.keep hby)
  have HBy := Lib.hid (HB.out.trans (hby.mono HB.out.size))
  clear c0 c1 c2 c3 c4 c5 c6 c7 c8 hby HZ HB HC
  go_cut [5] (fun s5 wx => s5 = .string (strB (msgL k r s i l d p a t)) ∧ Below wy.heap.size wy wx)
  case first =>
   refine wp_region_held_drew (S := (fun w' => Box9 w' w.heap.size (.int .i64 k) (.int .i64 r) (.int .i64 s) (.int .i64 i) (.int .i64 l) (.int .i64 d) (.int .i64 p) (.int .u32 a) (.string t))) (by kernel_rfl) ?_ (fun hHeld => ?_)
   ·(repeat' (first | with_reducible (first | exact HZy.out | refine Box9.drw ?_ | refine Box9.keep ?_ hb3)))
   refine tk 0 ?_
   refine tk 2 ?_
   refine tk 3 ?_
   refine wpAnyH_ready (rs := [1]) (by kernel_rfl) (by simp) ?_
   refine AllReadyH.cons (o := _) rfl (fun K hK => ?_) ?_
   ·go_simp
    refine (HH.out _).mono ?_
    rintro e w3 ⟨rfl, hb3⟩
    (try go_wp2_with fail)
    refine hko hK (by (repeat' (first | with_reducible (first | exact HZy.out | refine Box9.drw ?_ | refine Box9.keep ?_ hb3)))) (fun _ => ?_)
    clear hK K
    refine tk 4 ?_
    refine tk 5 ?_
    refine wpAnyH_done (by kernel_rfl) ?_ _
    have eB : Below wy.heap.size wy w3 := (Below.refl _ _).drew.trans hb3
    clear hb3
    go_wp2_with fail
    go_meet
    exact ⟨by rw [HMS.out], eB⟩
   exact AllReadyH.nil

  case rest =>
   obtain ⟨rfl, eB⟩ := hcut
   have HBd := Lib.hid (HBy.out.trans (eB.mono HBy.out.size))
   clear eB HZy HBy HH HMS zh
   have HR' := HR.out
   rw [HM.out] at HR'
   have HR2 := Lib.hid HR'
   clear HR HM HR'
   generalize strB (msgL k r s i l d p a t) = M at *
   have HX : Hid (∀ W : World, Calls Tryz.prog 132 #[.slice (some ⟨W.heap.size, 0, none⟩) 1 1] (W.alloc (.cells #[.string M] 9)) fun e w' => e = .returned (.int .u32 (sumL [M] : Nat)) ∧ W.alloc (.cells #[.string M] 9) = w') := Lib.hid (fun W =>
    rsum_any _ _ [M] (Blk.slAt (f := strV) (xs := [M]) (Blk.new W 9 [.string M]) (c := 1) (by simp) (by omega)) (by intro x hx; rw [List.mem_singleton.1 hx]; omega) (by simp))
   have HY : Hid (∀ W : World, Calls Tryz.prog 131 #[.int .u32 (sumL [M] : Nat)] W fun e w' => e = .returned (.string (strB (be4 (sumL [M])))) ∧ Below W.heap.size W w') := Lib.hid (fun W => rbytes_any W _ (sumL_lt _))
   go_wp2_with (first | (go_at_call 132; refine (HX.out _).mono ?_; rintro e w5 ⟨rfl, rfl⟩) | (go_at_call 131; refine (HY.out _).mono ?_; rintro e w6 ⟨rfl, hb6⟩))
   rw [← HR2.out]
   exact bodyPost_ret (v := .tuple #[.string (M ++ strB (be4 (sumL [M]))), .int .i64 0]) (by simp [results, Tryz.results69, go_sem]) rfl ⟨rfl, HBd.out.trans ((((Below.refl _ _).alloc (Nat.le_refl _) _).trans (hb6.mono (by simp))).mono HBd.out.size)⟩
 ·have HR : Hid (Value.tuple #[.string ⟨#[]⟩, .int .i64 E] = R) := Lib.hid (by rw [← hR, if_pos h0])
  have h1 : (E != 0) = true := by simpa using h0
  clear hR hE
  unfold frV at HC ⊢
  go_enter Tryz.func69, Tryz.ntmps69
  go_wp2_with (go_at_call 28; refine (HC.out _).mono ?_; rintro e wy ⟨rfl, hby⟩)
  rw [← HR.out]
  exact bodyPost_ret (v := .tuple #[.string ⟨#[]⟩, .int .i64 E]) (by simp [results, Tryz.results69, go_sem]) rfl ⟨rfl, HB.out.trans (hby.mono HB.out.size)⟩

theorem rmar_any (w : World) (k r s i l d p a : Int) (t : ByteArray) (_ : t.size ≤ 1000) (ha : 0 ≤ a ∧ a < 4294967296) :
  Calls Tryz.prog 69 #[frV k r s i l d p a t] w fun e w' => e = .returned (marR k r s i l d p a t) ∧ Below w.heap.size w w' := rmar_all w k r s i l d p a t ha

end Go.Proofs.YtnlnmfkmbpihhaaGreatDoor

namespace Go.Proofs.YtnlnmfkmbpihhaaGreatDoor
open Go.RowKit

def rowZ (c : Nat) : List Value := List.replicate c (.int .i64 0)
theorem make_ints (n : Nat) (hc : n ≤ 1000000) (w : World) : (Instr.makeSlice 70 (.int .i64 (n : Int)) (.int .i64 (n : Int))).run Tryz.prog w = .ok (.slice (some ⟨w.heap.size, 0, none⟩) n n) (w.alloc (.cells (rowZ n).toArray 3)) := by
 obtain ⟨i0, hi, hz0, hz1, hz2⟩ := info_parts Tryz.infoInt
 have hr := run_make (P := Tryz.prog) w 70 3 i0 (.int .i64 0) Tryz.underlying70 hi hz0 .i64 .i64 n n (by omega) (by omega) (by rw [hz2]; omega) (by omega)
 rw [hr, hz1]
 have e : madeCells (Value.int .i64 0).cells ((n : Int).toNat * 1) = (rowZ n).toArray := by
  show madeCells #[Value.int .i64 0] _ = _
  unfold madeCells rowZ
  rw [Nat.mul_one, Int.toNat_natCast]
  refine Array.ext (by simp) fun i h1 h2 => ?_
  simp [Nat.mod_one]
 rw [e]
 rfl
def rowN (s : ByteArray) (k : Nat) : List Value := (List.range 12).map fun j => .int .i64 ((if j < k then cf (bs s) j else 0 : Nat) : Int)
theorem rowN_zero (s : ByteArray) : rowN s 0 = rowZ 12 := rfl
theorem rowN_get {s : ByteArray} {k : Nat} (h : k < 12) : (rowN s k)[k]? = some (.int .i64 0) := by
 unfold rowN
 rw [List.getElem?_map, List.getElem?_range h]
 simp
theorem rowN_set {s : ByteArray} {k : Nat} (h : k < 12) : (rowN s k).set k (.int .i64 (cf (bs s) k : Nat)) = rowN s (k + 1) := by
 refine List.ext_getElem? fun j => ?_
 unfold rowN
 rw [List.getElem?_set, List.length_map, List.length_range]
 by_cases hj : j < 12
 ·rw [List.getElem?_map, List.getElem?_map, List.getElem?_range hj]
  by_cases e : k = j
  ·subst e
   simp [h]
  ·simp only [Option.map_some, if_neg e]
   have : (j < k) = (j < k + 1) := by simp; omega
   simp only [this]
 ·rw [if_neg (by omega), List.getElem?_map, List.getElem?_map, List.getElem?_eq_none (by simpa using hj)]
  rfl
theorem bs_sub (s : ByteArray) (i n : Nat) (h : i + n ≤ s.size) : bs (s.extract i (i + n)) = (List.range n).map fun k => cf (bs s) (i + k) := by
 refine List.ext_getElem? fun k => ?_
 rw [bs_extract, List.getElem?_drop, List.getElem?_map]
 by_cases hk : k < n
 ·rw [List.getElem?_range hk, List.getElem?_take_of_lt (by omega), bs_get s (i + k) (by omega), Option.map_some, bs_cf s (i + k) (by omega)]
 ·rw [List.getElem?_eq_none (by simp; omega), List.getElem?_eq_none (by simpa using hk)]
  rfl
theorem runmL_eq (s : ByteArray) (h : s.size = 44) :
  [Value.int .i64 (cf (bs s) 0 : Nat), .int .i64 (cf (bs s) 1 : Nat), .int .i64 (256 * ((cf (bs s) 2 : Nat) : Int) + (cf (bs s) 3 : Nat)), .int .i64 (256 * ((cf (bs s) 4 : Nat) : Int) + (cf (bs s) 5 : Nat)), .int .i64 (cf (bs s) 6 : Nat),
   .int .i64 (((cf (bs s) 7 : Nat) : Int) / 16), .int .i64 (((cf (bs s) 7 : Nat) : Int) % 16), .int .u32 (((((cf (bs s) 8 : Nat) : Int) * 256 + (cf (bs s) 9 : Nat)) * 256 + (cf (bs s) 10 : Nat)) * 256 + (cf (bs s) 11 : Nat)), .string (s.extract 12 40)] = unmL s := by
 unfold unmL
 have e0 := bs_sub s 0 1 (by omega)
 have e1 := bs_sub s 1 1 (by omega)
 have e2 := bs_sub s 2 2 (by omega)
 have e3 := bs_sub s 4 2 (by omega)
 have e4 := bs_sub s 6 1 (by omega)
 have e5 := bs_sub s 8 4 (by omega)
 simp only [Nat.zero_add, Nat.reduceAdd, List.range_succ, List.range_zero, List.nil_append, List.map_cons, List.map_nil, List.cons_append, Nat.add_zero] at e0 e1 e2 e3 e4 e5
 rw [e0, e1, e2, e3, e4, e5]
 simp only [valL, List.foldl_cons, List.foldl_nil, Nat.zero_mul, Nat.zero_add]
 have c : ∀ x y : Nat, ((x * 256 + y : Nat) : Int) = 256 * (x : Int) + y := fun x y => by omega
 rw [c (cf (bs s) 2) (cf (bs s) 3), c (cf (bs s) 4) (cf (bs s) 5)]
 rfl
/-- Twelve ints that are read. -/
abbrev Box12 (W : World) (g : Nat) (n : Nat → Nat) : Prop := W.cell? ⟨g, 0, none⟩ = some (.int .i64 (n 0)) ∧ W.cell? ⟨g, 1, none⟩ = some (.int .i64 (n 1)) ∧ W.cell? ⟨g, 2, none⟩ = some (.int .i64 (n 2)) ∧ W.cell? ⟨g, 3, none⟩ = some (.int .i64 (n 3)) ∧ W.cell? ⟨g, 4, none⟩ = some (.int .i64 (n 4)) ∧ W.cell? ⟨g, 5, none⟩ = some (.int .i64 (n 5)) ∧ W.cell? ⟨g, 6, none⟩ = some (.int .i64 (n 6)) ∧ W.cell? ⟨g, 7, none⟩ = some (.int .i64 (n 7)) ∧ W.cell? ⟨g, 8, none⟩ = some (.int .i64 (n 8)) ∧ W.cell? ⟨g, 9, none⟩ = some (.int .i64 (n 9)) ∧ W.cell? ⟨g, 10, none⟩ = some (.int .i64 (n 10)) ∧ W.cell? ⟨g, 11, none⟩ = some (.int .i64 (n 11))
theorem Box12.of_heap {A B : World} {g : Nat} {n : Nat → Nat} (h : Box12 A g n) (hh : B.heap[g]? = A.heap[g]?) : Box12 B g n := by
 have hk : ∀ j u, A.cell? ⟨g, j, none⟩ = some u → B.cell? ⟨g, j, none⟩ = some u := fun j u hu => (World.cell?_of_block (a := ⟨g, j, none⟩) hh).trans hu
 obtain ⟨h0, h1, h2, h3, h4, h5, h6, h7, h8, h9, ha, hb⟩ := h
 exact ⟨hk _ _ h0, hk _ _ h1, hk _ _ h2, hk _ _ h3, hk _ _ h4, hk _ _ h5, hk _ _ h6, hk _ _ h7, hk _ _ h8, hk _ _ h9, hk _ _ ha, hk _ _ hb⟩
theorem Box12.keep {A B : World} {g : Nat} {n : Nat → Nat} (h : Box12 A g n) (hb : Below A.heap.size A B) : Box12 B g n := h.of_heap (hb.block g (World.block_lt_of_cell? _ _ h.1))
theorem Box12.drw {A : World} {g : Nat} {n : Nat → Nat} (h : Box12 A g n) : Box12 A.drew g n := h
theorem Box12.turned {A B : World} {g g' : Nat} {n : Nat → Nat} (h : Box12 A g n) (t : Turned A B g') (hne : g ≠ g') : Box12 B g n := h.of_heap (t.other g hne)

set_option maxRecDepth 100000 in
set_option maxHeartbeats 16000000 in
theorem runm_any (w : World) (s : ByteArray) (_hs : s.size ≤ 1000) :
  Calls Tryz.prog 84 #[.string s] w fun e w' => e = .returned (unmR s) ∧ Below w.heap.size w w' := by
 obtain ⟨R, hR⟩ : ∃ R, unmR s = R := ⟨_, rfl⟩
 rw [hR]
 unfold unmR at hR
 by_cases h44 : s.size = 44
 ·rw [if_neg (by omega)] at hR
  have HR := Lib.hid hR
  clear hR
  have h44I : (s.size : Int) = 44 := by omega
  go_enter Tryz.func84, Tryz.ntmps84
  go_upto_region 3 with fail
  have HZ := Lib.hid (Blk.new w 34 [.int .i64 0, .int .i64 0, .int .i64 0, .int .i64 0, .int .i64 0, .int .i64 0, .int .i64 0, .int .u32 0, .string ⟨#[]⟩])
  have HBz := Lib.hid ((Below.refl w.heap.size w).alloc (Nat.le_refl _) (.cells #[.int .i64 0, .int .i64 0, .int .i64 0, .int .i64 0, .int .i64 0, .int .i64 0, .int .i64 0, .int .u32 0, .string ⟨#[]⟩] 34))
  change Hid (Blk (w.alloc (.cells #[.int .i64 0, .int .i64 0, .int .i64 0, .int .i64 0, .int .i64 0, .int .i64 0, .int .i64 0, .int .u32 0, .string ⟨#[]⟩] 34)) _ _ _) at HZ
  generalize w.alloc (.cells #[.int .i64 0, .int .i64 0, .int .i64 0, .int .i64 0, .int .i64 0, .int .i64 0, .int .i64 0, .int .u32 0, .string ⟨#[]⟩] 34) = wz at *
  obtain ⟨bad, hok⟩ : ∃ b, (!sumOK s) = b := ⟨_, rfl⟩
  go_cut [19] (fun s19 wx => s19 = .bool bad ∧ Below wz.heap.size wz wx)
  case first =>
   refine wp_region_held_drew (S := (fun _ => True)) (by kernel_rfl) ?_ (fun hHeld => ?_)
   ·exact trivial
   refine tk 0 ?_
   refine tk 1 ?_
   refine tk 5 ?_
   refine tk 6 ?_
   refine wpAnyH_ready (rs := [2]) (by kernel_rfl) (by simp) ?_
   refine AllReadyH.cons (o := _) rfl (fun K hK => ?_) ?_
   ·go_simp
    refine hko hK (by exact trivial) (fun _ => ?_)
    clear hK K
    refine wpAnyH_ready (rs := [3]) (by kernel_rfl) (by simp) ?_
    refine AllReadyH.cons (o := _) rfl (fun K hK => ?_) ?_
    ·go_simp
     refine (rsum_any _ _ [s.extract 0 40] (Blk.slAt (f := strV) (xs := [s.extract 0 40]) (Blk.new wz.drew 9 [.string (s.extract 0 40)]) (c := 1) (by simp) (by omega)) (by intro x hx; rw [List.mem_singleton.1 hx, ByteArray.size_extract]; omega) (by simp)).mono ?_
     rintro e w5 ⟨rfl, rfl⟩
     (try go_wp2_with fail)
     refine hko hK (by exact trivial) (fun _ => ?_)
     clear hK K
     refine wpAnyH_ready (rs := [4]) (by kernel_rfl) (by simp) ?_
     refine AllReadyH.cons (o := _) rfl (fun K hK => ?_) ?_
     ·go_simp
      refine (rbytes_any _ _ (sumL_lt _)).mono ?_
      rintro e w6 ⟨rfl, hb6⟩
      (try go_wp2_with fail)
      refine hko hK (by exact trivial) (fun _ => ?_)
      clear hK K
      refine wpAnyH_ready (rs := [7]) (by kernel_rfl) (by simp) ?_
      refine AllReadyH.cons (o := _) rfl (fun K hK => ?_) ?_
      ·go_simp
       refine hko hK (by exact trivial) (fun _ => ?_)
       clear hK K
       refine wpAnyH_done (by kernel_rfl) ?_ _
       have eB : Below wz.heap.size wz w6 := ((Below.refl wz.heap.size wz).drew.alloc (Nat.le_refl _) _).trans (hb6.mono (by simp))
       go_wp2_with fail
       go_meet
       exact ⟨by rw [← hok]; rfl, eB⟩
      exact AllReadyH.nil
     exact AllReadyH.nil
    exact AllReadyH.nil
   exact AllReadyH.nil

  case rest =>
   obtain ⟨rfl, eB⟩ := hcut
   have hZ := HZ.out.kept eB
   have hBc := HBz.out.trans (eB.mono (HBz.out.size))
   cases bad with
   | true =>
    have HF := Lib.hid (setCells_blk [.int .i64 0, .int .i64 0, .int .i64 0, .int .i64 0, .int .i64 0, .int .i64 0, .int .i64 0, .int .u32 0, .string ⟨#[]⟩] [] _ wc hZ rfl)
    have HG := Lib.hid (setCells_below hBc (Nat.le_refl _) [.int .i64 0, .int .i64 0, .int .i64 0, .int .i64 0, .int .i64 0, .int .i64 0, .int .i64 0, .int .u32 0, .string ⟨#[]⟩] 0)
    have HT := Lib.hid hZ.there
    obtain ⟨W1, hE⟩ : ∃ W1, wc.setCells w.heap.size 0 [.int .i64 0, .int .i64 0, .int .i64 0, .int .i64 0, .int .i64 0, .int .i64 0, .int .i64 0, .int .u32 0, .string ⟨#[]⟩] = W1 := ⟨_, rfl⟩
    have HE := Lib.hid hE
    have HO : Hid ((#[Value.int .i64 0, Value.int .i64 0, Value.int .i64 0, Value.int .i64 0, Value.int .i64 0, Value.int .i64 0, Value.int .i64 0, Value.int .u32 0, Value.string ⟨#[]⟩] : Array Value).all (·.oneCell') = true) := Lib.hid (by simp [Value.oneCell'])
    have HR2 : Hid (R = .tuple #[zeroF, .int .i64 5]) := Lib.hid (by rw [← HR.out, hok, if_pos rfl])
    rw [hE] at HG
    have HF2 : Hid (Blk W1 w.heap.size 34 _) := Lib.hid (hE ▸ HF.out)
    clear hZ hBc eB HZ HBz hE hok HR HF
    go_upto_region 4 with fail
    go_wp2_with (refine frm_store rfl (.tmp 2) (.tmp 20) rfl _ _ rfl rfl HT.out rfl HO.out W1 HE.out ?_)
    have hF := HF2.out
    have c0 := hF.cell (i := 0) rfl
    have c1 := hF.cell (i := 1) rfl
    have c2 := hF.cell (i := 2) rfl
    have c3 := hF.cell (i := 3) rfl
    have c4 := hF.cell (i := 4) rfl
    have c5 := hF.cell (i := 5) rfl
    have c6 := hF.cell (i := 6) rfl
    have c7 := hF.cell (i := 7) rfl
    have c8 := hF.cell (i := 8) rfl
    rw [HR2.out]
    exact bodyPost_ret (v := .tuple #[zeroF, .int .i64 5]) (by simp [results, Tryz.results84, go_sem, zeroF, frV, c0, c1, c2, c3, c4, c5, c6, c7, c8]) rfl ⟨rfl, HG.out⟩
   | false =>
    have HR2 : Hid ((if unmE s ≠ 0 then Value.tuple #[zeroF, .int .i64 (unmE s)] else .tuple #[unmF s, .int .i64 0]) = R) := Lib.hid (by have h := HR.out; rw [hok, if_neg Bool.false_ne_true] at h; exact h)
    have HZc := Lib.hid hZ
    have HBc := Lib.hid hBc
    have HUL := Lib.hid (runmL_eq s h44)
    have HPay : Hid ((s.extract 12 40).size ≤ 1000) := Lib.hid (by rw [ByteArray.size_extract]; omega)
    have hmk : ∀ W : World, (Instr.makeSlice 70 (.int .i64 12) (.int .i64 12)).run Tryz.prog W = .ok (.slice (some ⟨W.heap.size, 0, none⟩) 12 12) (W.alloc (.cells (rowZ 12).toArray 3)) := make_ints 12 (by omega)
    clear hZ hBc eB HZ HBz hok HR
    obtain ⟨wa, rfl⟩ : ∃ x, x = wc := ⟨_, rfl⟩
    go_upto_region 7 with fail
    go_loopw [24] (fun v wr => ∃ k : Nat, k ≤ 12 ∧ v = .int .i64 (k : Int) ∧ Blk wr wa.heap.size 3 (rowN s k) ∧ Below wa.heap.size wa wr) (fun v _ => 12 - (intOf v).toNat)
    case atStart => exact ⟨0, by omega, rfl, by rw [rowN_zero]; exact Blk.new wa 3 _, (Below.refl _ _).alloc (Nat.le_refl _) _⟩
    case round =>
     obtain ⟨k, hk, rfl, hrow, hBr⟩ := hrel
     by_cases h : k < 12
     ·have hkI : (k : Int) < 12 := by omega
      have hks : k < s.size := by omega
      have hc := hrow.cell (rowN_get h)
      have hf := hrow.frozen k
      have hw : IntKind.i64.wrap ((s[k]'hks).toNat : Int) = (s[k]'hks).toNat := by
       have := UInt8.toNat_lt (s[k]'hks)
       rw [IntKind.wrap_i64]
       omega
      have HS : Hid (Blk (wr.setCell ⟨wa.heap.size, k, none⟩ (.int .i64 ((s[k]'hks).toNat : Int))) wa.heap.size 3 (rowN s (k + 1))) := Lib.hid (by
       rw [← rowN_set h, bs_cf s k hks]
       exact hrow.set k _)
      have HB2 := Lib.hid (hBr.setCell (p := ⟨wa.heap.size, k, none⟩) (Nat.le_refl _) (.int .i64 ((s[k]'hks).toNat : Int)))
      clear hrow hBr
      go_wp2_with fail
      go_roundw
      case rel => exact ⟨k + 1, by omega, by go_num, HS.out, HB2.out⟩
      case measure => simp [intOf]; omega
     ·obtain rfl : k = 12 := by omega
      obtain ⟨n, hn⟩ : ∃ n : Nat → Nat, ∀ j, n j = cf (bs s) j := ⟨_, fun _ => rfl⟩
      have hb8 : ∀ j, n j < 256 := fun j => by rw [hn]; exact cf_lt (fun x hx => bs_lt s x hx) j
      have HBX : Hid (Box12 wr wa.heap.size n) := Lib.hid (by
       refine ⟨?_, ?_, ?_, ?_, ?_, ?_, ?_, ?_, ?_, ?_, ?_, ?_⟩ <;> (rw [hn]; exact hrow.cell rfl))
      have HBR := Lib.hid hBr
      have hu := HUL.out
      simp only [← hn] at hu
      have HUN := Lib.hid hu
      have m2 : IntKind.i64.wrap (256 * (n 2 : Int)) = 256 * (n 2 : Int) := by have := hb8 2; rw [IntKind.wrap_i64]; omega
      have m3 : IntKind.i64.wrap (256 * (n 2 : Int) + n 3) = 256 * (n 2 : Int) + n 3 := by have := hb8 2; have := hb8 3; rw [IntKind.wrap_i64]; omega
      have m4 : IntKind.i64.wrap (256 * (n 4 : Int)) = 256 * (n 4 : Int) := by have := hb8 4; rw [IntKind.wrap_i64]; omega
      have m5 : IntKind.i64.wrap (256 * (n 4 : Int) + n 5) = 256 * (n 4 : Int) + n 5 := by have := hb8 4; have := hb8 5; rw [IntKind.wrap_i64]; omega
      have m7 : wrap64 ((n 7 : Int) / 16) = n 7 / 16 := by have := hb8 7; unfold wrap64; omega
      have m6 : IntKind.i64.wrap ((n 7 : Int) / 16) = n 7 / 16 := by have := hb8 7; rw [IntKind.wrap_i64]; omega
      have mt : Int.tmod (n 7 : Int) 16 = (n 7 : Int) % 16 := Int.tmod_eq_emod_of_nonneg (by omega)
      have mu : IntKind.u32.wrap ((((n 8 : Int) * 256 + n 9) * 256 + n 10) * 256 + n 11) = ((n 8 * 256 + n 9) * 256 + n 10) * 256 + n 11 := by have := hb8 8; have := hb8 9; have := hb8 10; have := hb8 11; rw [IntKind.wrap_u32]; omega
      have m8 : IntKind.i64.wrap ((n 8 : Int) * 256) = n 8 * 256 := by have := hb8 8; rw [IntKind.wrap_i64]; omega
      have m9 : IntKind.i64.wrap ((n 8 : Int) * 256 + n 9) = n 8 * 256 + n 9 := by have := hb8 8; have := hb8 9; rw [IntKind.wrap_i64]; omega
      have m10 : IntKind.i64.wrap (((n 8 : Int) * 256 + n 9) * 256) = (n 8 * 256 + n 9) * 256 := by have := hb8 8; have := hb8 9; rw [IntKind.wrap_i64]; omega
      have m11 : IntKind.i64.wrap (((n 8 : Int) * 256 + n 9) * 256 + n 10) = (n 8 * 256 + n 9) * 256 + n 10 := by have := hb8 8; have := hb8 9; have := hb8 10; rw [IntKind.wrap_i64]; omega
      have m12 : IntKind.i64.wrap ((((n 8 : Int) * 256 + n 9) * 256 + n 10) * 256) = ((n 8 * 256 + n 9) * 256 + n 10) * 256 := by have := hb8 8; have := hb8 9; have := hb8 10; rw [IntKind.wrap_i64]; omega
      have m13 : IntKind.i64.wrap ((((n 8 : Int) * 256 + n 9) * 256 + n 10) * 256 + n 11) = ((n 8 * 256 + n 9) * 256 + n 10) * 256 + n 11 := by have := hb8 8; have := hb8 9; have := hb8 10; have := hb8 11; rw [IntKind.wrap_i64]; omega
      have m14 : (((((n 8 : Int) * 256 + n 9) * 256 + n 10) * 256 + n 11)) % 4294967296 = ((n 8 * 256 + n 9) * 256 + n 10) * 256 + n 11 := by have := hb8 8; have := hb8 9; have := hb8 10; have := hb8 11; omega
      clear hrow hBr hu hn hb8 HUL
      go_upto_region 11 with fail
      go_cut [6] (fun s4 wy => ∃ g4 : Nat, s4 = .pointer (some ⟨g4, 0, none⟩) ∧ wr.heap.size ≤ g4 ∧ Blk wy g4 34 (unmL s) ∧ Below wr.heap.size wr wy)
      case first =>
       refine wp_region_held_drew (S := (fun w' => Box12 w' wa.heap.size n)) (by kernel_rfl) ?_ (fun hHeld => ?_)
       ·(repeat' (first | with_reducible (first | exact HBX.out | refine Box12.drw ?_ | refine Box12.keep ?_ hb4 | refine Box12.turned ?_ t5 ?_) | omega))
       refine tk 0 ?_
       refine tk 1 ?_
       refine tk 2 ?_
       refine tk 3 ?_
       refine tk 4 ?_
       refine tk 5 ?_
       refine tk 6 ?_
       refine tk 7 ?_
       refine tk 8 ?_
       refine tk 9 ?_
       refine tk 10 ?_
       refine tk 11 ?_
       refine tk 12 ?_
       refine tk 13 ?_
       refine tk 14 ?_
       refine tk 15 ?_
       refine tk 16 ?_
       refine tk 17 ?_
       refine tk 18 ?_
       refine tk 19 ?_
       refine tk 20 ?_
       refine tk 21 ?_
       refine tk 22 ?_
       refine tk 23 ?_
       refine tk 24 ?_
       refine tk 25 ?_
       refine tk 26 ?_
       refine tk 27 ?_
       refine tk 28 ?_
       refine tk 29 ?_
       refine tk 30 ?_
       refine tk 31 ?_
       refine tk 32 ?_
       refine tk 33 ?_
       refine tk 34 ?_
       refine tk 35 ?_
       refine tk 36 ?_
       refine tk 37 ?_
       refine tk 38 ?_
       refine tk 39 ?_
       refine tk 40 ?_
       refine tk 41 ?_
       refine tk 42 ?_
       refine tk 43 ?_
       refine tk 44 ?_
       refine tk 45 ?_
       refine tk 46 ?_
       refine tk 47 ?_
       refine tk 48 ?_
       refine tk 49 ?_
       refine tk 50 ?_
       refine tk 51 ?_
       refine tk 52 ?_
       refine tk 53 ?_
       refine tk 54 ?_
       refine tk 55 ?_
       refine wpAnyH_ready (rs := [56]) (by kernel_rfl) (by simp) ?_
       refine AllReadyH.cons (o := _) rfl (fun K hK => ?_) ?_
       ·refine step_allocF 6 rfl rfl rfl ?_
        intro g4 w4 hg4 p4 hb4
        have hgl : wa.heap.size < g4 := Nat.lt_of_lt_of_le (World.block_lt_of_cell? _ _ HBX.out.1) hg4
        refine hko hK (by (repeat' (first | with_reducible (first | exact HBX.out | refine Box12.drw ?_ | refine Box12.keep ?_ hb4 | refine Box12.turned ?_ t5 ?_) | omega))) (fun _ => ?_)
        clear hK K
        refine wpAnyH_ready (rs := [57]) (by kernel_rfl) (by simp) ?_
        refine AllReadyH.cons (o := _) rfl (fun K hK => ?_) ?_
        ·refine step_storeF rfl (.tmp 6) (.tmp 90) rfl _ rfl rfl rfl (by simp [Value.oneCell']) p4 rfl ?_
         intro w5 p5 t5
         refine hko hK (by (repeat' (first | with_reducible (first | exact HBX.out | refine Box12.drw ?_ | refine Box12.keep ?_ hb4 | refine Box12.turned ?_ t5 ?_) | omega))) (fun _ => ?_)
         clear hK K
         refine wpAnyH_done (by kernel_rfl) ?_ _
         have eB : Below wr.heap.size wr w5 := t5.below ((Below.refl wr.heap.size wr).drew.trans hb4) hg4
         clear hb4 t5 p4
         go_wp2_with fail
         go_meet
         refine ⟨g4, rfl, hg4, ?_, eB⟩
         rw [← HUN.out]
         exact p5
        exact AllReadyH.nil
       exact AllReadyH.nil

      case rest =>
       obtain ⟨g4, rfl, hg4, p4, eB4⟩ := hcut
       have HZd := Lib.hid ((HZc.out.kept HBR.out).kept eB4)
       have HBd := Lib.hid (HBc.out.trans ((HBR.out.trans (eB4.mono HBR.out.size)).mono HBc.out.size))
       have hR2 := HR2.out
       have ht := HPay.out
       have hlt : w.heap.size < g4 := Nat.lt_of_lt_of_le (Nat.lt_of_lt_of_le HZc.out.lt HBR.out.size) hg4
       clear HR2 HPay HZc HBc eB4 HBR HBX HUN m6 mt mu m2 m3 m4 m5 m7 m8 m9 m10 m11 m12 m13 m14
       unfold unmE unmF at hR2
       unfold unmL at p4
       generalize ((valL (bs (s.extract 0 1)) : Nat) : Int) = k at p4 hR2
       generalize ((valL (bs (s.extract 1 2)) : Nat) : Int) = r at p4 hR2
       generalize ((valL (bs (s.extract 2 4)) : Nat) : Int) = q at p4 hR2
       generalize ((valL (bs (s.extract 4 6)) : Nat) : Int) = i at p4 hR2
       generalize ((valL (bs (s.extract 6 7)) : Nat) : Int) = l at p4 hR2
       generalize ((cf (bs s) 7 / 16 : Nat) : Int) = d at p4 hR2
       generalize ((cf (bs s) 7 % 16 : Nat) : Int) = p at p4 hR2
       generalize ((valL (bs (s.extract 8 12)) : Nat) : Int) = a at p4 hR2
       generalize s.extract 12 40 = t at p4 hR2 ht
       have HC := Lib.hid (fun W => rcheck_any W k r q i l d p a t ht)
       obtain ⟨E, hE⟩ : ∃ E, frE k r q i l d p t = E := ⟨_, rfl⟩
       rw [hE] at hR2 HC
       clear hE ht hg4
       unfold frV at HC
       have HP4 := Lib.hid p4
       have c0 := p4.cell (i := 0) rfl
       have c1 := p4.cell (i := 1) rfl
       have c2 := p4.cell (i := 2) rfl
       have c3 := p4.cell (i := 3) rfl
       have c4 := p4.cell (i := 4) rfl
       have c5 := p4.cell (i := 5) rfl
       have c6 := p4.cell (i := 6) rfl
       have c7 := p4.cell (i := 7) rfl
       have c8 := p4.cell (i := 8) rfl
       clear p4
       by_cases h0 : E = 0
       ·subst h0
        have HR3 : Hid (R = .tuple #[frV k r q i l d p a t, .int .i64 0]) := Lib.hid (by rw [← hR2, if_neg (by simp)])
        clear hR2
        go_upto_region 15 with (go_at_call 28; refine (HC.out _).mono ?_; rintro e w7 ⟨rfl, hb7⟩)
        have hZ7 := HZd.out.kept hb7
        have hB7 := HBd.out.trans (hb7.mono HBd.out.size)
        have p7 := HP4.out.kept hb7
        have HF := Lib.hid (setCells_blk [.int .i64 k, .int .i64 r, .int .i64 q, .int .i64 i, .int .i64 l, .int .i64 d, .int .i64 p, .int .u32 a, .string t] [] _ w7 hZ7 rfl)
        have HG := Lib.hid (setCells_below hB7 (Nat.le_refl _) [.int .i64 k, .int .i64 r, .int .i64 q, .int .i64 i, .int .i64 l, .int .i64 d, .int .i64 p, .int .u32 a, .string t] 0)
        have HT := Lib.hid hZ7.there
        obtain ⟨W1, hE⟩ : ∃ W1, w7.setCells w.heap.size 0 [.int .i64 k, .int .i64 r, .int .i64 q, .int .i64 i, .int .i64 l, .int .i64 d, .int .i64 p, .int .u32 a, .string t] = W1 := ⟨_, rfl⟩
        have HE := Lib.hid hE
        have HO : Hid ((#[Value.int .i64 k, .int .i64 r, .int .i64 q, .int .i64 i, .int .i64 l, .int .i64 d, .int .i64 p, .int .u32 a, .string t] : Array Value).all (·.oneCell') = true) := Lib.hid (by simp [Value.oneCell'])
        rw [hE] at HG
        have HF2 : Hid (Blk W1 w.heap.size 34 _) := Lib.hid (hE ▸ HF.out)
        have c0 := p7.cell (i := 0) rfl
        have c1 := p7.cell (i := 1) rfl
        have c2 := p7.cell (i := 2) rfl
        have c3 := p7.cell (i := 3) rfl
        have c4 := p7.cell (i := 4) rfl
        have c5 := p7.cell (i := 5) rfl
        have c6 := p7.cell (i := 6) rfl
        have c7 := p7.cell (i := 7) rfl
        have c8 := p7.cell (i := 8) rfl
        clear hZ7 hB7 p7 hE HF HZd HBd hb7 HC
        go_wp2_with (refine frm_store rfl (.tmp 2) (.tmp 97) rfl _ _ rfl rfl HT.out rfl HO.out W1 HE.out ?_)
        have hF := HF2.out
        clear c0 c1 c2 c3 c4 c5 c6 c7 c8
        have c0 := hF.cell (i := 0) rfl
        have c1 := hF.cell (i := 1) rfl
        have c2 := hF.cell (i := 2) rfl
        have c3 := hF.cell (i := 3) rfl
        have c4 := hF.cell (i := 4) rfl
        have c5 := hF.cell (i := 5) rfl
        have c6 := hF.cell (i := 6) rfl
        have c7 := hF.cell (i := 7) rfl
        have c8 := hF.cell (i := 8) rfl
        rw [HR3.out]
        exact bodyPost_ret (v := .tuple #[frV k r q i l d p a t, .int .i64 0]) (by simp [results, Tryz.results84, go_sem, frV, c0, c1, c2, c3, c4, c5, c6, c7, c8]) rfl ⟨rfl, HG.out⟩
       ·have HR3 : Hid (R = .tuple #[zeroF, .int .i64 E]) := Lib.hid (by rw [← hR2, if_pos h0])
        have h1 : (E != 0) = true := by simpa using h0
        clear hR2 h0
        go_upto_region 14 with (go_at_call 28; refine (HC.out _).mono ?_; rintro e w7 ⟨rfl, hb7⟩)
        have hZ7 := HZd.out.kept hb7
        have hB7 := HBd.out.trans (hb7.mono HBd.out.size)
        have HF := Lib.hid (setCells_blk [.int .i64 0, .int .i64 0, .int .i64 0, .int .i64 0, .int .i64 0, .int .i64 0, .int .i64 0, .int .u32 0, .string ⟨#[]⟩] [] _ w7 hZ7 rfl)
        have HG := Lib.hid (setCells_below hB7 (Nat.le_refl _) [.int .i64 0, .int .i64 0, .int .i64 0, .int .i64 0, .int .i64 0, .int .i64 0, .int .i64 0, .int .u32 0, .string ⟨#[]⟩] 0)
        have HT := Lib.hid hZ7.there
        obtain ⟨W1, hE⟩ : ∃ W1, w7.setCells w.heap.size 0 [.int .i64 0, .int .i64 0, .int .i64 0, .int .i64 0, .int .i64 0, .int .i64 0, .int .i64 0, .int .u32 0, .string ⟨#[]⟩] = W1 := ⟨_, rfl⟩
        have HE := Lib.hid hE
        have HO : Hid ((#[Value.int .i64 0, Value.int .i64 0, Value.int .i64 0, Value.int .i64 0, Value.int .i64 0, Value.int .i64 0, Value.int .i64 0, Value.int .u32 0, Value.string ⟨#[]⟩] : Array Value).all (·.oneCell') = true) := Lib.hid (by simp [Value.oneCell'])
        rw [hE] at HG
        have HF2 : Hid (Blk W1 w.heap.size 34 _) := Lib.hid (hE ▸ HF.out)
        clear hZ7 hB7 hE HF HZd HBd hb7 HC c0 c1 c2 c3 c4 c5 c6 c7 c8
        go_wp2_with (refine frm_store rfl (.tmp 2) (.tmp 95) rfl _ _ rfl rfl HT.out rfl HO.out W1 HE.out ?_)
        have hF := HF2.out
        have c0 := hF.cell (i := 0) rfl
        have c1 := hF.cell (i := 1) rfl
        have c2 := hF.cell (i := 2) rfl
        have c3 := hF.cell (i := 3) rfl
        have c4 := hF.cell (i := 4) rfl
        have c5 := hF.cell (i := 5) rfl
        have c6 := hF.cell (i := 6) rfl
        have c7 := hF.cell (i := 7) rfl
        have c8 := hF.cell (i := 8) rfl
        rw [HR3.out]
        exact bodyPost_ret (v := .tuple #[zeroF, .int .i64 E]) (by simp [results, Tryz.results84, go_sem, zeroF, frV, c0, c1, c2, c3, c4, c5, c6, c7, c8]) rfl ⟨rfl, HG.out⟩
 ·rw [if_pos h44] at hR
  subst hR
  have h44I : ¬ ((s.size : Int) = 44) := by omega
  have h44J : ((s.size : Int) != 44) = true := by simpa using h44I
  go_enter Tryz.func84, Tryz.ntmps84
  go_wp2
  exact bodyPost_ret (v := .tuple #[zeroF, .int .i64 4]) (by simp [results, Tryz.results84, go_sem, zeroF, frV]) rfl ⟨rfl, (Below.refl _ _).alloc (Nat.le_refl _) _⟩

end Go.Proofs.YtnlnmfkmbpihhaaGreatDoor
