/-
 WALK: stelelaw14.ScanDamage.
-/
import Derived.Test.YtjennpcadjdnlaaGreatDoorScD
namespace Go.Proofs.YtjennpcadjdnlaaGreatDoor
open Go.RowKit

/-- A block of fourteen cells that is read. -/
abbrev Box14 (W : World) (H : Nat) (c0 c1 c2 c3 c4 c5 c6 c7 c8 c9 c10 c11 c12 c13 : Value) : Prop := W.cell? ⟨H, 0, none⟩ = some c0 ∧ W.cell? ⟨H, 1, none⟩ = some c1 ∧ W.cell? ⟨H, 2, none⟩ = some c2 ∧ W.cell? ⟨H, 3, none⟩ = some c3 ∧ W.cell? ⟨H, 4, none⟩ = some c4 ∧ W.cell? ⟨H, 5, none⟩ = some c5 ∧ W.cell? ⟨H, 6, none⟩ = some c6 ∧ W.cell? ⟨H, 7, none⟩ = some c7 ∧ W.cell? ⟨H, 8, none⟩ = some c8 ∧ W.cell? ⟨H, 9, none⟩ = some c9 ∧ W.cell? ⟨H, 10, none⟩ = some c10 ∧ W.cell? ⟨H, 11, none⟩ = some c11 ∧ W.cell? ⟨H, 12, none⟩ = some c12 ∧ W.cell? ⟨H, 13, none⟩ = some c13
theorem Box14.keep {A B : World} {H : Nat} {c0 c1 c2 c3 c4 c5 c6 c7 c8 c9 c10 c11 c12 c13 : Value} (h : Box14 A H c0 c1 c2 c3 c4 c5 c6 c7 c8 c9 c10 c11 c12 c13) (hb : Below A.heap.size A B) : Box14 B H c0 c1 c2 c3 c4 c5 c6 c7 c8 c9 c10 c11 c12 c13 := by
 obtain ⟨h0, h1, h2, h3, h4, h5, h6, h7, h8, h9, h10, h11, h12, h13⟩ := h
 exact ⟨cell_below hb h0, cell_below hb h1, cell_below hb h2, cell_below hb h3, cell_below hb h4, cell_below hb h5, cell_below hb h6, cell_below hb h7, cell_below hb h8, cell_below hb h9, cell_below hb h10, cell_below hb h11, cell_below hb h12, cell_below hb h13⟩
theorem Box14.drw {A : World} {H : Nat} {c0 c1 c2 c3 c4 c5 c6 c7 c8 c9 c10 c11 c12 c13 : Value} (h : Box14 A H c0 c1 c2 c3 c4 c5 c6 c7 c8 c9 c10 c11 c12 c13) : Box14 A.drew H c0 c1 c2 c3 c4 c5 c6 c7 c8 c9 c10 c11 c12 c13 := h
theorem Box14.blk {W : World} {g : Nat} {t : TypeId} {c0 c1 c2 c3 c4 c5 c6 c7 c8 c9 c10 c11 c12 c13 : Value} (h : Blk W g t [c0, c1, c2, c3, c4, c5, c6, c7, c8, c9, c10, c11, c12, c13]) : Box14 W g c0 c1 c2 c3 c4 c5 c6 c7 c8 c9 c10 c11 c12 c13 :=
 ⟨h.cell (i := 0) rfl, h.cell (i := 1) rfl, h.cell (i := 2) rfl, h.cell (i := 3) rfl, h.cell (i := 4) rfl, h.cell (i := 5) rfl, h.cell (i := 6) rfl, h.cell (i := 7) rfl, h.cell (i := 8) rfl, h.cell (i := 9) rfl, h.cell (i := 10) rfl, h.cell (i := 11) rfl, h.cell (i := 12) rfl, h.cell (i := 13) rfl⟩
theorem Box14.turned {A B : World} {H g : Nat} {c0 c1 c2 c3 c4 c5 c6 c7 c8 c9 c10 c11 c12 c13 : Value} (h : Box14 A H c0 c1 c2 c3 c4 c5 c6 c7 c8 c9 c10 c11 c12 c13) (t : Turned A B g) (hne : H ≠ g) : Box14 B H c0 c1 c2 c3 c4 c5 c6 c7 c8 c9 c10 c11 c12 c13 := by
 have hk : ∀ j u, A.cell? ⟨H, j, none⟩ = some u → B.cell? ⟨H, j, none⟩ = some u := fun j u hu => (World.cell?_of_block (a := ⟨H, j, none⟩) (t.other H hne)).trans hu
 obtain ⟨h0, h1, h2, h3, h4, h5, h6, h7, h8, h9, h10, h11, h12, h13⟩ := h
 exact ⟨hk _ _ h0, hk _ _ h1, hk _ _ h2, hk _ _ h3, hk _ _ h4, hk _ _ h5, hk _ _ h6, hk _ _ h7, hk _ _ h8, hk _ _ h9, hk _ _ h10, hk _ _ h11, hk _ _ h12, hk _ _ h13⟩
theorem Box14.set {A : World} {H : Nat} {c0 c1 c2 c3 c4 c5 c6 c7 c8 c9 c10 c11 c12 c13 : Value} (h : Box14 A H c0 c1 c2 c3 c4 c5 c6 c7 c8 c9 c10 c11 c12 c13) {p : Addr} (hp : p.block ≠ H) (v : Value) : Box14 (A.setCell p v) H c0 c1 c2 c3 c4 c5 c6 c7 c8 c9 c10 c11 c12 c13 := by
 have hk : ∀ j u, A.cell? ⟨H, j, none⟩ = some u → (A.setCell p v).cell? ⟨H, j, none⟩ = some u := fun j u hu => (World.cell?_setCell_other A p ⟨H, j, none⟩ v (fun e => hp (by rw [e]))).trans hu
 obtain ⟨h0, h1, h2, h3, h4, h5, h6, h7, h8, h9, h10, h11, h12, h13⟩ := h
 exact ⟨hk _ _ h0, hk _ _ h1, hk _ _ h2, hk _ _ h3, hk _ _ h4, hk _ _ h5, hk _ _ h6, hk _ _ h7, hk _ _ h8, hk _ _ h9, hk _ _ h10, hk _ _ h11, hk _ _ h12, hk _ _ h13⟩
theorem Box14.lt {A : World} {H : Nat} {c0 c1 c2 c3 c4 c5 c6 c7 c8 c9 c10 c11 c12 c13 : Value} (h : Box14 A H c0 c1 c2 c3 c4 c5 c6 c7 c8 c9 c10 c11 c12 c13) : H < A.heap.size := World.block_lt_of_cell? _ _ h.1
theorem Tryz.sizePair8 : (Tryz.prog.info? 54).map (·.size) = some 2 := by kernel_rfl
section
variable {ops : Array Oper} {o : Oper} {a : Act} {K : Act → World → Prop} {Q : Exit → Act → World → Prop} {E : Prop}
theorem step_allocP {W : World} (d : Tmp) (_hd : o.dst = some d) (hw : Region.wanted o (yielded ops a.tmps) = true) (ho : o.op = .alloc 54)
  (h : ∀ g W', W.heap.size ≤ g → Blk W' g 54 [.int .u8 0, .int .u8 0] → Below W.heap.size W W' → K (a.put (some d) (.pointer (some ⟨g, 0, none⟩))) W') :
  if Region.wanted o (yielded ops a.tmps) = true then Oper.wp Tryz.prog o a W K Q else E := by
 rw [if_pos hw]
 rw [← _hd] at h
 have hK := h _ _ (Nat.le_refl _) (Blk.new W 54 [.int .u8 0, .int .u8 0]) ((Below.refl _ _).alloc (Nat.le_refl _) _)
 clear _hd
 unfold Oper.wp execOp
 simp only [ho]
 go_simp
 exact hK
theorem step_storeP {W : World} {g : Nat} {us : List Value} (hw : Region.wanted o (yielded ops a.tmps) = true) (p s : Operand) (ho : o.op = .store 54 p s) (cells : Array Value)
  (hp : a.eval p = .pointer (some ⟨g, 0, none⟩)) (hs : a.eval s = .agg cells) (h2 : cells.size = 2) (h1 : cells.all (·.oneCell') = true) (ht : Blk W g 54 us) (hu : us.length = 2)
  (h : ∀ W', Blk W' g 54 cells.toList → Turned W W' g → K (a.put o.dst undef) W') :
  if Region.wanted o (yielded ops a.tmps) = true then Oper.wp Tryz.prog o a W K Q else E := by
 rw [if_pos hw]
 have hb := setCells_blk cells.toList [] us W ht (by rw [hu]; simp [h2])
 exact wp_store_mid 54 p s ho g 0 cells hp hs (by rw [h2, ← hu]; exact ht.there) (by rw [h2]; exact Tryz.sizePair8) h1 (h _ hb (setCells_turned _ _ _ _))
end
/-- The two marks' cells inverted, one behind the other. -/
def flip1 (l : List Nat) (q : Nat) : List Nat := l.set q (cf l q ^^^ 1)
/-- Row i of the two flips. -/
def fl2 (L : List Nat) (q1 q2 : Nat) : Nat → List Nat
 | 0 => L
 | 1 => flip1 L q1
 | _ => flip1 (flip1 L q1) q2
theorem flip1_01 {l : List Nat} (h : B01 l) {q : Nat} (hq : q < l.length) : B01 (flip1 l q) := fun c hc => by
 rcases List.mem_or_eq_of_mem_set hc with hc | rfl
 ·exact h c hc
 ·exact (xor1_cell (cf_b01 h hq)).1
theorem mt_flip {M : List Nat} (hM : M.length = 16) (h01 : B01 M) {q : Nat} (hq : q < 16) : ∀ n, mt M 0 n ≤ mt (flip1 M q) 0 n + (if q < n then 1 else 0)
 | 0 => Nat.zero_le _
 | n + 1 => by
  have ih := mt_flip hM h01 hq n
  unfold mt
  rw [Nat.zero_add]
  unfold flip1
  rw [cf_set _ _ _ _ (by omega)]
  by_cases e : q = n
  ·subst e
   rw [if_neg (Nat.lt_irrefl _)] at ih
   rw [if_pos (Nat.lt_succ_self _)]
   unfold flip1 at ih
   repeat' split
   all_goals omega
  ·rw [if_neg e]
   unfold flip1 at ih
   by_cases e2 : q < n
   ·rw [if_pos e2] at ih
    rw [if_pos (show q < n + 1 by omega)]
    split <;> omega
   ·rw [if_neg e2] at ih
    rw [if_neg (show ¬ q < n + 1 by omega)]
    split <;> omega
theorem flips {B : List Nat} {q1 q2 : Nat} (h1 : q1 < 16) (h2 : q2 < 16) : ∃ M, flip1 (flip1 (markL ++ B) q1) q2 = M ++ B ∧ M.length = 16 ∧ B01 M ∧ 14 ≤ mt M 0 16 := by
 have hM := markL_len
 have e : ∀ (M : List Nat) (q : Nat), M.length = 16 → q < 16 → flip1 (M ++ B) q = flip1 M q ++ B := fun M q hl hq => by
  unfold flip1
  rw [cf_app_left (by omega), List.set_append_left _ _ (by omega)]
 have l1 : (flip1 markL q1).length = 16 := by unfold flip1; rw [List.length_set]; exact hM
 have l2 : (flip1 (flip1 markL q1) q2).length = 16 := by unfold flip1 at l1 ⊢; rw [List.length_set]; exact l1
 have b1 := flip1_01 markL_01 (q := q1) (by omega)
 have k1 := mt_flip hM markL_01 h1 16
 have k2 := mt_flip l1 b1 h2 16
 have k0 : mt markL 0 16 = 16 := mt_all 16 fun j _ => by rw [Nat.zero_add]
 rw [if_pos h1] at k1
 rw [if_pos h2] at k2
 exact ⟨_, by rw [e _ _ hM h1, e _ _ l1 h2], l2, flip1_01 b1 (by omega), by omega⟩
theorem RowB.head {w : World} {g : Nat} {xs : List Nat} (h : RowB w g xs) {m c : Nat} (hm : m ≤ xs.length) (hc : m ≤ c) (hc2 : c ≤ 9223372036854775807) : BytesAt w (.slice (some ⟨g, 0, none⟩) m c) (xs.take m) :=
 ⟨_, c, by rw [List.length_take, Nat.min_eq_left hm], by rw [List.length_take]; omega, hc2, fun i x hi => by
  rw [List.getElem?_take] at hi
  split at hi
  ·exact ⟨g, 0, u8V x, rfl, by rw [Nat.zero_add]; exact h.cell _ _ hi, rfl⟩
  ·cases hi⟩
theorem RowB.tail2 {w : World} {g : Nat} {xs : List Nat} (h : RowB w g xs) {k m c : Nat} (hm : m = xs.length - k) (hc : m ≤ c) (hc2 : c ≤ 9223372036854775807) : BytesAt w (.slice (some ⟨g, k, none⟩) m c) (xs.drop k) := by
 subst hm
 refine ⟨_, c, by rw [List.length_drop], by rw [List.length_drop]; exact hc, hc2, fun i x hi => ⟨g, k, u8V x, rfl, ?_, rfl⟩⟩
 rw [List.getElem?_drop] at hi
 exact h.cell _ _ hi
theorem u8_inv2 {x : Nat} (h : x = 48 ∨ x = 49) : bits .xor .u8 (x : Int) 1 = ((x ^^^ 1 : Nat) : Int) := by
 rcases h with rfl | rfl <;> decide
namespace damage

set_option maxRecDepth 100000 in
set_option maxHeartbeats 16000000 in
theorem walk (w : World) (k r s i0 l d p a : Int) (t : ByteArray) (m1 m2 x n b : Nat) (ha : 0 ≤ a ∧ a < 4294967296) (hm1 : m1 < 256) (hm2 : m2 < 256) (hx : x < 65536) (hn : n < 65536) (hb : b < 256) :
  Calls Tryz.prog 7 #[.agg #[.int .i64 k, .int .i64 r, .int .i64 s, .int .i64 i0, .int .i64 l, .int .i64 d, .int .i64 p, .int .u32 a, .string t, .int .u8 (m1 : Int), .int .u8 (m2 : Int), .int .u16 (x : Int), .int .u16 (n : Int), .int .u8 (b : Int)]] w fun e w' => e = .returned (.bool true) ∧ Below w.heap.size w w' := by
 have HE := Lib.hid (fun W => fenc_all W k r s i0 l d p a t ha)
 have HA := Lib.hid (fun W => awake_any W)
 have HB := Lib.hid ((Below.refl w.heap.size w).alloc (Nat.le_refl _) (.cells #[.int .i64 k, .int .i64 r, .int .i64 s, .int .i64 i0, .int .i64 l, .int .i64 d, .int .i64 p, .int .u32 a, .string t, .int .u8 (m1 : Int), .int .u8 (m2 : Int), .int .u16 (x : Int), .int .u16 (n : Int), .int .u8 (b : Int)] 56))
 have HD := Lib.hid (Box14.blk (Blk.new w 56 [.int .i64 k, .int .i64 r, .int .i64 s, .int .i64 i0, .int .i64 l, .int .i64 d, .int .i64 p, .int .u32 a, .string t, .int .u8 (m1 : Int), .int .u8 (m2 : Int), .int .u16 (x : Int), .int .u16 (n : Int), .int .u8 (b : Int)]))
 change Hid (Box14 (w.alloc (.cells #[.int .i64 k, .int .i64 r, .int .i64 s, .int .i64 i0, .int .i64 l, .int .i64 d, .int .i64 p, .int .u32 a, .string t, .int .u8 (m1 : Int), .int .u8 (m2 : Int), .int .u16 (x : Int), .int .u16 (n : Int), .int .u8 (b : Int)] 56)) _ _ _ _ _ _ _ _ _ _ _ _ _ _ _) at HD
 go_enter Tryz.func7, Tryz.ntmps7
 go_upto_region 1 with fail
 generalize w.alloc (.cells #[.int .i64 k, .int .i64 r, .int .i64 s, .int .i64 i0, .int .i64 l, .int .i64 d, .int .i64 p, .int .u32 a, .string t, .int .u8 (m1 : Int), .int .u8 (m2 : Int), .int .u16 (x : Int), .int .u16 (n : Int), .int .u8 (b : Int)] 56) = wz at *
 have HDl := HD.out.lt
 go_cut [3, 4] (fun s3 s4 wx => ∃ g3 g4 : Nat, s3 = .pointer (some ⟨g3, 0, none⟩) ∧ s4 = .pointer (some ⟨g4, 0, none⟩) ∧ g3 ≠ g4 ∧ Blk wx g3 26 [.int .i64 k, .int .i64 r, .int .i64 s, .int .i64 i0, .int .i64 l, .int .i64 d, .int .i64 p, .int .u32 a, .string t] ∧ Blk wx g4 54 [.int .u8 (m1 : Int), .int .u8 (m2 : Int)] ∧ Box14 wx w.heap.size (.int .i64 k) (.int .i64 r) (.int .i64 s) (.int .i64 i0) (.int .i64 l) (.int .i64 d) (.int .i64 p) (.int .u32 a) (.string t) (.int .u8 (m1 : Int)) (.int .u8 (m2 : Int)) (.int .u16 (x : Int)) (.int .u16 (n : Int)) (.int .u8 (b : Int)) ∧ Below wz.heap.size wz wx)
 case first =>
  refine wp_region_held_drew (S := (fun W => Box14 W w.heap.size (.int .i64 k) (.int .i64 r) (.int .i64 s) (.int .i64 i0) (.int .i64 l) (.int .i64 d) (.int .i64 p) (.int .u32 a) (.string t) (.int .u8 (m1 : Int)) (.int .u8 (m2 : Int)) (.int .u16 (x : Int)) (.int .u16 (n : Int)) (.int .u8 (b : Int)))) (by kernel_rfl) ?_ (fun hHeld => ?_)
  ·(repeat' (first | with_reducible (first | exact HD.out | refine Box14.drw ?_ | refine Box14.keep ?_ hb5 | refine Box14.keep ?_ hb4 | refine Box14.turned ?_ t7 ?_ | refine Box14.turned ?_ t6 ?_) | omega))
  refine tk 0 ?_
  refine tk 1 ?_
  refine tk 2 ?_
  refine tk 3 ?_
  refine wpAnyH_ready (rs := [4, 5]) (by kernel_rfl) (by simp) ?_
  refine AllReadyH.cons (o := _) rfl (fun K hK => ?_) ?_
  ·refine step_allocF 3 rfl rfl rfl ?_
   intro g3 w4 hg3 p3 hb4
   (try change wz.heap.size ≤ g3 at hg3)
   have l3 := p3.lt
   have s4 := hb4.size; (try change wz.heap.size ≤ _ at s4)
   refine hko hK (by (repeat' (first | with_reducible (first | exact HD.out | refine Box14.drw ?_ | refine Box14.keep ?_ hb5 | refine Box14.keep ?_ hb4 | refine Box14.turned ?_ t7 ?_ | refine Box14.turned ?_ t6 ?_) | omega))) (fun _ => ?_)
   clear hK K
   refine wpAnyH_ready (rs := [5]) (by kernel_rfl) (by simp) ?_
   refine AllReadyH.cons (o := _) rfl (fun K hK => ?_) ?_
   ·refine step_allocP 4 rfl rfl rfl ?_
    intro g4 w5 hg4 p4 hb5
    (try change wz.heap.size ≤ g4 at hg4)
    have l4 := p4.lt
    have s5 := hb5.size; (try change wz.heap.size ≤ _ at s5)
    refine hko hK (by (repeat' (first | with_reducible (first | exact HD.out | refine Box14.drw ?_ | refine Box14.keep ?_ hb5 | refine Box14.keep ?_ hb4 | refine Box14.turned ?_ t7 ?_ | refine Box14.turned ?_ t6 ?_) | omega))) (fun _ => ?_)
    clear hK K
    refine wpAnyH_ready (rs := [6]) (by kernel_rfl) (by simp) ?_
    refine AllReadyH.cons (o := _) rfl (fun K hK => ?_) ?_
    ·refine step_storeF rfl (.tmp 3) (.tmp 13) rfl _ rfl rfl rfl (by simp [Value.oneCell']) (by first | exact p3 | exact p3.kept hb5) rfl ?_
     intro w6 p6 t6
     have s6 := t6.size
     refine hko hK (by (repeat' (first | with_reducible (first | exact HD.out | refine Box14.drw ?_ | refine Box14.keep ?_ hb5 | refine Box14.keep ?_ hb4 | refine Box14.turned ?_ t7 ?_ | refine Box14.turned ?_ t6 ?_) | omega))) (fun _ => ?_)
     clear hK K
     refine wpAnyH_ready (rs := [7]) (by kernel_rfl) (by simp) ?_
     refine AllReadyH.cons (o := _) rfl (fun K hK => ?_) ?_
     ·refine step_storeP rfl (.tmp 4) (.tmp 15) rfl _ rfl rfl rfl (by simp [Value.oneCell']) (by first | exact p4.turned t6 (by omega) | exact (p4.kept hb4).turned t6 (by omega)) rfl ?_
      intro w7 p7 t7
      have s7 := t7.size
      refine hko hK (by (repeat' (first | with_reducible (first | exact HD.out | refine Box14.drw ?_ | refine Box14.keep ?_ hb5 | refine Box14.keep ?_ hb4 | refine Box14.turned ?_ t7 ?_ | refine Box14.turned ?_ t6 ?_) | omega))) (fun _ => ?_)
      clear hK K
      refine wpAnyH_done (by kernel_rfl) ?_ _
      have e3 := p6.turned t7 (by omega)
      have eB : Below wz.heap.size wz w7 := by (repeat' (first | with_reducible (first | exact Below.refl _ _ | refine Below.drew ?_ | refine Turned.below t7 ?_ ?_ | refine Turned.below t6 ?_ ?_ | refine Below.trans ?_ (hb5.mono ?_) | refine Below.trans ?_ (hb4.mono ?_)) | exact Nat.le_refl _ | omega))
      have eD : Box14 w7 w.heap.size (.int .i64 k) (.int .i64 r) (.int .i64 s) (.int .i64 i0) (.int .i64 l) (.int .i64 d) (.int .i64 p) (.int .u32 a) (.string t) (.int .u8 (m1 : Int)) (.int .u8 (m2 : Int)) (.int .u16 (x : Int)) (.int .u16 (n : Int)) (.int .u8 (b : Int)) := by (repeat' (first | with_reducible (first | exact HD.out | refine Box14.drw ?_ | refine Box14.keep ?_ hb5 | refine Box14.keep ?_ hb4 | refine Box14.turned ?_ t7 ?_ | refine Box14.turned ?_ t6 ?_) | omega))
      clear hb4 hb5 t6 t7 p6 p3 p4
      go_wp2_with fail
      go_meet
      exact ⟨g3, g4, rfl, rfl, by omega, e3, p7, eD, eB⟩
     exact AllReadyH.nil
    exact AllReadyH.nil
   exact AllReadyH.nil
  refine AllReadyH.cons (o := _) rfl (fun K hK => ?_) ?_
  ·refine step_allocP 4 rfl rfl rfl ?_
   intro g4 w5 hg4 p4 hb5
   (try change wz.heap.size ≤ g4 at hg4)
   have l4 := p4.lt
   have s5 := hb5.size; (try change wz.heap.size ≤ _ at s5)
   refine hko hK (by (repeat' (first | with_reducible (first | exact HD.out | refine Box14.drw ?_ | refine Box14.keep ?_ hb5 | refine Box14.keep ?_ hb4 | refine Box14.turned ?_ t7 ?_ | refine Box14.turned ?_ t6 ?_) | omega))) (fun _ => ?_)
   clear hK K
   refine wpAnyH_ready (rs := [4]) (by kernel_rfl) (by simp) ?_
   refine AllReadyH.cons (o := _) rfl (fun K hK => ?_) ?_
   ·refine step_allocF 3 rfl rfl rfl ?_
    intro g3 w4 hg3 p3 hb4
    (try change wz.heap.size ≤ g3 at hg3)
    have l3 := p3.lt
    have s4 := hb4.size; (try change wz.heap.size ≤ _ at s4)
    refine hko hK (by (repeat' (first | with_reducible (first | exact HD.out | refine Box14.drw ?_ | refine Box14.keep ?_ hb5 | refine Box14.keep ?_ hb4 | refine Box14.turned ?_ t7 ?_ | refine Box14.turned ?_ t6 ?_) | omega))) (fun _ => ?_)
    clear hK K
    refine wpAnyH_ready (rs := [6]) (by kernel_rfl) (by simp) ?_
    refine AllReadyH.cons (o := _) rfl (fun K hK => ?_) ?_
    ·refine step_storeF rfl (.tmp 3) (.tmp 13) rfl _ rfl rfl rfl (by simp [Value.oneCell']) (by first | exact p3 | exact p3.kept hb5) rfl ?_
     intro w6 p6 t6
     have s6 := t6.size
     refine hko hK (by (repeat' (first | with_reducible (first | exact HD.out | refine Box14.drw ?_ | refine Box14.keep ?_ hb5 | refine Box14.keep ?_ hb4 | refine Box14.turned ?_ t7 ?_ | refine Box14.turned ?_ t6 ?_) | omega))) (fun _ => ?_)
     clear hK K
     refine wpAnyH_ready (rs := [7]) (by kernel_rfl) (by simp) ?_
     refine AllReadyH.cons (o := _) rfl (fun K hK => ?_) ?_
     ·refine step_storeP rfl (.tmp 4) (.tmp 15) rfl _ rfl rfl rfl (by simp [Value.oneCell']) (by first | exact p4.turned t6 (by omega) | exact (p4.kept hb4).turned t6 (by omega)) rfl ?_
      intro w7 p7 t7
      have s7 := t7.size
      refine hko hK (by (repeat' (first | with_reducible (first | exact HD.out | refine Box14.drw ?_ | refine Box14.keep ?_ hb5 | refine Box14.keep ?_ hb4 | refine Box14.turned ?_ t7 ?_ | refine Box14.turned ?_ t6 ?_) | omega))) (fun _ => ?_)
      clear hK K
      refine wpAnyH_done (by kernel_rfl) ?_ _
      have e3 := p6.turned t7 (by omega)
      have eB : Below wz.heap.size wz w7 := by (repeat' (first | with_reducible (first | exact Below.refl _ _ | refine Below.drew ?_ | refine Turned.below t7 ?_ ?_ | refine Turned.below t6 ?_ ?_ | refine Below.trans ?_ (hb5.mono ?_) | refine Below.trans ?_ (hb4.mono ?_)) | exact Nat.le_refl _ | omega))
      have eD : Box14 w7 w.heap.size (.int .i64 k) (.int .i64 r) (.int .i64 s) (.int .i64 i0) (.int .i64 l) (.int .i64 d) (.int .i64 p) (.int .u32 a) (.string t) (.int .u8 (m1 : Int)) (.int .u8 (m2 : Int)) (.int .u16 (x : Int)) (.int .u16 (n : Int)) (.int .u8 (b : Int)) := by (repeat' (first | with_reducible (first | exact HD.out | refine Box14.drw ?_ | refine Box14.keep ?_ hb5 | refine Box14.keep ?_ hb4 | refine Box14.turned ?_ t7 ?_ | refine Box14.turned ?_ t6 ?_) | omega))
      clear hb4 hb5 t6 t7 p6 p3 p4
      go_wp2_with fail
      go_meet
      exact ⟨g3, g4, rfl, rfl, by omega, e3, p7, eD, eB⟩
     exact AllReadyH.nil
    exact AllReadyH.nil
   exact AllReadyH.nil
  exact AllReadyH.nil

 case rest =>
 obtain ⟨g3, g4, rfl, rfl, hne, h3, h4, h5, h6⟩ := hcut
 have HB1 := Lib.hid (HB.out.trans (h6.mono HB.out.size))
 have H3 := Lib.hid h3
 have H4 := Lib.hid h4
 have H5 := Lib.hid h5
 have c0 := h3.cell (i := 0) rfl
 have c1 := h3.cell (i := 1) rfl
 have c2 := h3.cell (i := 2) rfl
 have c3 := h3.cell (i := 3) rfl
 have c4 := h3.cell (i := 4) rfl
 have c5 := h3.cell (i := 5) rfl
 have c6 := h3.cell (i := 6) rfl
 have c7 := h3.cell (i := 7) rfl
 have c8 := h3.cell (i := 8) rfl
 clear h3 h4 h5 h6 HB HD HDl
 unfold frV at HE
 by_cases h0 : frE k r s i0 l d p t = 0
 ·obtain ⟨hm, hc⟩ := msgOf_msg (f := ⟨k, r, s, i0, l, d, p, a, t⟩) h0 ha
  dsimp only at hc
  rw [hc] at HE
  generalize msgOf ⟨k, r, s, i0, l, d, p, a, t⟩ = m at *
  have hby : Bytes (markL ++ bodyL m) := bytes_app (b01_bytes markL_01) (bodyL_bytes hm.bytes hm.len)
  have hsz : (strB (markL ++ bodyL m)).size = 852 := by rw [strB_size, List.length_append, markL_len, bodyL_len]
  have Hbs := Lib.hid (bs_strB hby)
  have Hm := Lib.hid hm
  have HB01 := Lib.hid (bodyL_01 hm.bytes hm.len)
  have hbl := bodyL_len m
  clear hc hby h0 ha hm
  obtain ⟨q1, hq1⟩ : ∃ q, m1 % 16 = q := ⟨_, rfl⟩
  obtain ⟨q2, hq2⟩ : ∃ q, m2 % 16 = q := ⟨_, rfl⟩
  have q1T : Int.tmod (m1 : Int) 16 = (q1 : Int) := by rw [Int.tmod_eq_emod_of_nonneg (by omega)]; omega
  have q2T : Int.tmod (m2 : Int) 16 = (q2 : Int) := by rw [Int.tmod_eq_emod_of_nonneg (by omega)]; omega
  have hq1s : q1 < 16 := by omega
  have hq2s : q2 < 16 := by omega
  obtain ⟨M, hM, hMl, hM1, hMt⟩ := flips (B := bodyL m) hq1s hq2s
  have HMl := Lib.hid hMl
  have HM1 := Lib.hid hM1
  have HMt := Lib.hid hMt
  have hL01 : B01 (markL ++ bodyL m) := fun c hc => (List.mem_append.1 hc).elim (markL_01 c) (HB01.out c)
  have hL0l : (markL ++ bodyL m).length = 852 := by rw [List.length_append, markL_len, bodyL_len]
  have HX0 := Lib.hid (cf_b01 hL01 (i := q1) (by omega))
  have HX1 := Lib.hid (cf_b01 (flip1_01 hL01 (q := q1) (by omega)) (i := q2) (by unfold flip1; rw [List.length_set]; omega))
  have hL1l : (flip1 (markL ++ bodyL m) q1).length = 852 := by unfold flip1; rw [List.length_set]; omega
  have HM := Lib.hid hM
  clear hq1 hq2 hM hMl hM1 hMt hL01
  obtain ⟨C, hC⟩ : ∃ C, strB (markL ++ bodyL m) = C := ⟨_, rfl⟩
  rw [hC] at HE hsz Hbs
  clear hC
  generalize hL0 : markL ++ bodyL m = L0 at *
  have HL0 := Lib.hid hL0
  clear hL0
  go_upto_region 7 with (go_at_call 25; refine (HE.out _).mono ?_; rintro e w1 ⟨rfl, hb1⟩)
  have HB2 := Lib.hid (HB1.out.trans (hb1.mono HB1.out.size))
  have H3b := Lib.hid (H3.out.kept hb1)
  have H4b := Lib.hid (H4.out.kept hb1)
  have H5b := Lib.hid (H5.out.keep hb1)
  clear c0 c1 c2 c3 c4 c5 c6 c7 c8 hb1 HB1 H3 H4 H5 HE
  obtain ⟨cc, w6, hcv, hc1, hc2, hrow, hbb, hsz6⟩ := run_toBytes w1 C (by omega)
  rw [hsz] at hcv hc1
  rw [Hbs.out] at hrow
  have H3c := Lib.hid (H3b.out.kept hbb)
  have H4c := Lib.hid (H4b.out.kept hbb)
  have H5c := Lib.hid (H5b.out.keep hbb)
  have d0 := H4c.out.cell (i := 0) rfl
  have d1 := H4c.out.cell (i := 1) rfl
  have HR0 := Lib.hid hrow
  have HBb := Lib.hid hbb
  have hg3 := H3b.out.lt
  have hg4 := H4b.out.lt
  have hgD := H5b.out.lt
  clear hrow hbb hsz6 H3b H4b H5b
  go_wp2
  clear hcv d0 d1
  have ix0 : ∀ W, (Instr.index 54 (.agg #[.int .u8 (m1 : Int), .int .u8 (m2 : Int)]) (.int .i64 0)).run Tryz.prog W = .ok (.int .u8 (m1 : Int)) W := fun _ => by kernel_rfl
  have ix1 : ∀ W, (Instr.index 54 (.agg #[.int .u8 (m1 : Int), .int .u8 (m2 : Int)]) (.int .i64 1)).run Tryz.prog W = .ok (.int .u8 (m2 : Int)) W := fun _ => by kernel_rfl
  go_loopw [30] (fun y wr => ∃ i : Nat, i ≤ 2 ∧ y = .int .i64 (i : Int) ∧ RowB wr w1.heap.size (fl2 L0 q1 q2 i) ∧ Below w1.heap.size w1 wr ∧ Blk wr g3 26 [.int .i64 k, .int .i64 r, .int .i64 s, .int .i64 i0, .int .i64 l, .int .i64 d, .int .i64 p, .int .u32 a, .string t] ∧ Blk wr g4 54 [.int .u8 (m1 : Int), .int .u8 (m2 : Int)] ∧ Box14 wr w.heap.size (.int .i64 k) (.int .i64 r) (.int .i64 s) (.int .i64 i0) (.int .i64 l) (.int .i64 d) (.int .i64 p) (.int .u32 a) (.string t) (.int .u8 (m1 : Int)) (.int .u8 (m2 : Int)) (.int .u16 (x : Int)) (.int .u16 (n : Int)) (.int .u8 (b : Int))) (fun y _ => 2 - (intOf y).toNat)
  case atStart => exact ⟨0, by omega, rfl, HR0.out, HBb.out, H3c.out, H4c.out, H5c.out⟩
  case round =>
   obtain ⟨i, hi, hz, hR, hB, k3, k4, k5⟩ := hrel
   have HR := Lib.hid hR
   have HBr := Lib.hid hB
   have K3 := Lib.hid k3
   have K4 := Lib.hid k4
   have K5 := Lib.hid k5
   clear hR hB k3 k4 k5 HR0 HBb H3c H4c H5c
   rcases (by omega : i = 0 ∨ i = 1 ∨ i = 2) with rfl | rfl | rfl
   ·rw [show ((0 : Nat) : Int) = 0 from rfl] at hz
    subst hz
    have hx01 := HX0.out
    have hRr : RowB wr w1.heap.size L0 := HR.out
    have hLq : L0[q1]? = some (cf L0 q1) := by unfold cf; rw [List.getElem?_eq_getElem (by omega)]; rfl
    have hc := hRr.cell q1 _ hLq
    have hfr := hRr.free q1 (by omega)
    have hxx := u8_inv2 hx01
    have hq852 : (q1 : Int) < 852 := by omega
    have HS : Hid (RowB (wr.setCell ⟨w1.heap.size, q1, none⟩ (.int .u8 ((cf L0 q1 ^^^ 1 : Nat) : Int))) w1.heap.size (fl2 L0 q1 q2 1)) := Lib.hid (hRr.set q1 (cf L0 q1 ^^^ 1))
    have HBs := Lib.hid (HBr.out.setCell (p := ⟨w1.heap.size, q1, none⟩) (Nat.le_refl _) (.int .u8 ((cf L0 q1 ^^^ 1 : Nat) : Int)))
    have K3s := Lib.hid (K3.out.far (p := ⟨w1.heap.size, q1, none⟩) (by show g3 ≠ w1.heap.size; omega) (.int .u8 ((cf L0 q1 ^^^ 1 : Nat) : Int)))
    have K4s := Lib.hid (K4.out.far (p := ⟨w1.heap.size, q1, none⟩) (by show g4 ≠ w1.heap.size; omega) (.int .u8 ((cf L0 q1 ^^^ 1 : Nat) : Int)))
    have K5s := Lib.hid (K5.out.set (p := ⟨w1.heap.size, q1, none⟩) (by show w1.heap.size ≠ w.heap.size; omega) (.int .u8 ((cf L0 q1 ^^^ 1 : Nat) : Int)))
    clear hRr hLq HX0 HX1
    generalize cf L0 q1 = xj at *
    go_wp2
    go_roundw
    case rel => exact ⟨1, by omega, rfl, HS.out, HBs.out, K3s.out, K4s.out, K5s.out⟩
    case measure => simp [intOf]
   ·rw [show ((1 : Nat) : Int) = 1 from rfl] at hz
    subst hz
    have hx01 := HX1.out
    have hRr : RowB wr w1.heap.size (flip1 L0 q1) := HR.out
    have hLq : (flip1 L0 q1)[q2]? = some (cf (flip1 L0 q1) q2) := by unfold cf; rw [List.getElem?_eq_getElem (by omega)]; rfl
    have hc := hRr.cell q2 _ hLq
    have hfr := hRr.free q2 (by omega)
    have hxx := u8_inv2 hx01
    have hq852 : (q2 : Int) < 852 := by omega
    have HS : Hid (RowB (wr.setCell ⟨w1.heap.size, q2, none⟩ (.int .u8 ((cf (flip1 L0 q1) q2 ^^^ 1 : Nat) : Int))) w1.heap.size (fl2 L0 q1 q2 2)) := Lib.hid (hRr.set q2 (cf (flip1 L0 q1) q2 ^^^ 1))
    have HBs := Lib.hid (HBr.out.setCell (p := ⟨w1.heap.size, q2, none⟩) (Nat.le_refl _) (.int .u8 ((cf (flip1 L0 q1) q2 ^^^ 1 : Nat) : Int)))
    have K3s := Lib.hid (K3.out.far (p := ⟨w1.heap.size, q2, none⟩) (by show g3 ≠ w1.heap.size; omega) (.int .u8 ((cf (flip1 L0 q1) q2 ^^^ 1 : Nat) : Int)))
    have K4s := Lib.hid (K4.out.far (p := ⟨w1.heap.size, q2, none⟩) (by show g4 ≠ w1.heap.size; omega) (.int .u8 ((cf (flip1 L0 q1) q2 ^^^ 1 : Nat) : Int)))
    have K5s := Lib.hid (K5.out.set (p := ⟨w1.heap.size, q2, none⟩) (by show w1.heap.size ≠ w.heap.size; omega) (.int .u8 ((cf (flip1 L0 q1) q2 ^^^ 1 : Nat) : Int)))
    clear hRr hLq HX0 HX1
    generalize cf (flip1 L0 q1) q2 = xj at *
    go_wp2
    go_roundw
    case rel => exact ⟨2, by omega, rfl, HS.out, HBs.out, K3s.out, K4s.out, K5s.out⟩
    case measure => simp [intOf]
   ·rw [show ((2 : Nat) : Int) = 2 from rfl] at hz
    subst hz
    have hR2 : RowB wr w1.heap.size (M ++ bodyL m) := by rw [← HM.out]; exact HR.out
    have HR2 := Lib.hid hR2
    have d0 := K4.out.cell (i := 0) rfl
    have d1 := K4.out.cell (i := 1) rfl
    clear hR2 HR HX0 HX1 ix0 ix1
    go_upto_if 48 with fail
    go_cut [7] (fun s7 wx => ∃ (g7 c7 : Nat) (M' : List Nat), s7 = .slice (some ⟨g7, 0, none⟩) 852 c7 ∧ 852 ≤ c7 ∧ c7 ≤ 9223372036854775807 ∧ RowB wx g7 (M' ++ bodyL m) ∧ M'.length = 16 ∧ B01 M' ∧ 14 ≤ mt M' 0 16 ∧ Below wr.heap.size wr wx)
    case first =>
     by_cases hq : q1 = q2
     ·subst hq
      obtain ⟨c2, w9, hcv2, e1, e2, hrow2, hbb2, _⟩ := run_toBytes wr C (by omega)
      rw [hsz] at hcv2 e1
      rw [Hbs.out, ← HL0.out] at hrow2
      have HR9 := Lib.hid hrow2
      have HB9 := Lib.hid hbb2
      clear hrow2 hbb2
      go_wp2_with fail
      go_meet
      exact ⟨wr.heap.size, c2, markL, rfl, e1, e2, HR9.out, markL_len, markL_01, mt_mark, HB9.out⟩
     ·have hqF : ((q1 : Int) == (q2 : Int)) = false := by simpa using fun h : (q1 : Int) = q2 => hq (by omega)
      go_wp2_with fail
      go_meet
      exact ⟨w1.heap.size, cc, M, rfl, hc1, hc2, HR2.out, HMl.out, HM1.out, HMt.out, Below.refl _ _⟩
    case rest =>
    obtain ⟨g7, c7, M', rfl, e1, e2, hr, hl, h01, hmt, hbx⟩ := hcut
    have HR7 := Lib.hid hr
    have HB3 := HB2.out.trans (HBr.out.mono HB2.out.size)
    have HBx := Lib.hid (HB3.trans (hbx.mono HB3.size))
    have K3x := Lib.hid (K3.out.kept hbx)
    have k5x := K5.out.keep hbx
    obtain ⟨_, _, _, _, _, _, _, _, _, _, _, y11, y12, y13⟩ := k5x
    obtain ⟨K, hK⟩ : ∃ K, n % 91 = K := ⟨_, rfl⟩
    have hKT : Int.tmod (n : Int) 91 = (K : Int) := by rw [Int.tmod_eq_emod_of_nonneg (by omega)]; omega
    have hK90 : K ≤ 90 := by omega
    obtain ⟨T, hT⟩ : ∃ T, strB (bodyL m) = T := ⟨_, rfl⟩
    have hTz : T.size = 836 := by rw [← hT, strB_size, bodyL_len]
    have hTb : bs T = bodyL m := by rw [← hT, bs_strB (b01_bytes HB01.out)]
    have HDm := Lib.hid (fun W => dmg_any W T x K b (by omega) (by omega) hx (by omega) hb)
    have HBu := Lib.hid (dmgL_burst (bodyL_len m) HB01.out (x % 836) (dmgC_ok b) K)
    rw [hTb, hTz] at HDm
    obtain ⟨l2, hl2⟩ : ∃ l2, dmgL (bodyL m) (x % 836) (dmgC b) K = l2 := ⟨_, rfl⟩
    rw [hl2] at HDm HBu
    obtain ⟨q, hq⟩ := scan_burst Hm.out hl (b01_bytes h01) hmt HBu.out hK90
    have hP := fun W => scpiece_any W (strB (M' ++ l2)) (by rw [strB_size, List.length_append, HBu.out.len, hl]; decide)
    rw [hq, ← strB_cat] at hP
    have HP := Lib.hid hP
    have h2 : (M' ++ bodyL m).drop 16 = bodyL m := by rw [← hl]; exact List.drop_left
    have h3 : (M' ++ bodyL m).take 16 = M' := by rw [← hl]; exact List.take_left
    have hlen : (M' ++ bodyL m).length = 852 := by rw [List.length_append, hl, bodyL_len]
    have HCv : Hid (∀ W, RowB W g7 (M' ++ bodyL m) → (convert 28 9 (.slice (some ⟨g7, 16, none⟩) 836 (c7 - 16))).run Tryz.prog W = .ok (.string T) W) := Lib.hid (fun W h => by
     have h1 := h.tail2 (k := 16) (m := 836) (c := c7 - 16) (by omega) (by omega) (by omega)
     rw [h2] at h1
     have h3 := run_toStr h1 (bodyL_len m).symm
     rw [hT] at h3
     exact h3)
    have HCm : Hid (∀ W, RowB W g7 (M' ++ bodyL m) → (convert 28 9 (.slice (some ⟨g7, 0, none⟩) 16 c7)).run Tryz.prog W = .ok (.string (strB M')) W) := Lib.hid (fun W h => by
     have h1 := h.head (m := 16) (c := c7) (by omega) (by omega) e2
     rw [h3] at h1
     exact run_toStr h1 hl.symm)
    clear hr hbx HB3 K3 K4 K5 hK hT hTz hTb hl2 hq hP h2 h3 hlen HR2 HB2 HBr d0 d1
    have hne16 : ¬ c7 = 16 := by omega
    go_upto_region 15 with fail
    refine wp_region_held_drew (S := (fun W => (convert 28 9 (.slice (some ⟨g7, 16, none⟩) 836 (c7 - 16))).run Tryz.prog W = .ok (.string T) W ∧ W.cell? ⟨w.heap.size, 11, none⟩ = some (.int .u16 (x : Int)) ∧ W.cell? ⟨w.heap.size, 12, none⟩ = some (.int .u16 (n : Int)) ∧ W.cell? ⟨w.heap.size, 13, none⟩ = some (.int .u8 (b : Int)))) (by kernel_rfl) ?_ (fun hHeld => ?_)
    ·exact ⟨HCv.out _ (HR7.out.of_heap rfl), y11, y12, y13⟩
    refine tk 0 ?_
    refine tk 1 ?_
    refine tk 2 ?_
    refine tk 3 ?_
    refine tk 4 ?_
    refine tk 5 ?_
    refine tk 6 ?_
    refine tk 7 ?_
    refine tk 8 ?_
    refine tk 9 ?_
    refine tk 10 ?_
    refine tk 11 ?_
    refine wpAnyH_ready (rs := [12]) (by kernel_rfl) (by simp) ?_
    refine AllReadyH.cons (o := _) rfl (fun K hK => ?_) AllReadyH.nil
    go_simp
    (try rw [show IntKind.i64.wrap (x : Int) = x by rw [IntKind.wrap_i64]; omega])
    (try rw [show IntKind.i64.wrap (n : Int) = n by rw [IntKind.wrap_i64]; omega])
    (try rw [hKT])
    refine (HDm.out _).mono ?_
    rintro e w8 ⟨rfl, hb8⟩
    (try go_wp2_with fail)
    have hb8' := (Below.refl _ _).drew.trans hb8
    refine hko hK ⟨HCv.out _ (HR7.out.kept hb8'), cell_below hb8 y11, cell_below hb8 y12, cell_below hb8 y13⟩ (fun _ => ?_)
    clear hK K
    refine tk 13 ?_
    refine wpAnyH_done (by kernel_rfl) ?_ _
    have hcm := HCm.out _ (HR7.out.kept hb8')
    have HB8 := Lib.hid (HBx.out.trans (hb8'.mono HBx.out.size))
    have K38 := Lib.hid (K3x.out.kept hb8')
    clear hb8 hb8' y11 y12 y13 hHeld K3x HBx HDm HCv HCm
    have hcat : (strB M').size + (strB l2).size ≤ 1000000 := by rw [strB_size, strB_size, hl, HBu.out.len]; decide
    go_upto_region 17 with (go_at_call 21; refine (HP.out _).mono ?_; rintro e w9 ⟨v, rfl, hsg, hb9⟩)
    obtain ⟨g, c, rfl, hc⟩ := SgtsAt.at hsg (by simp)
    have HZ9 := Lib.hid (Box9.blk (K38.out.kept hb9))
    have HB9 := Lib.hid (HB8.out.trans (hb9.mono HB8.out.size))
    have HC : Hid (w9.cell? ⟨g, 0, none⟩ = some (.int .i64 0) ∧ w9.cell? ⟨g, 1, none⟩ = some (.int .i64 0) ∧ w9.cell? ⟨g, 2, none⟩ = some (.int .i64 k) ∧ w9.cell? ⟨g, 3, none⟩ = some (.int .i64 r) ∧ w9.cell? ⟨g, 4, none⟩ = some (.int .i64 s) ∧ w9.cell? ⟨g, 5, none⟩ = some (.int .i64 i0) ∧ w9.cell? ⟨g, 6, none⟩ = some (.int .i64 l) ∧ w9.cell? ⟨g, 7, none⟩ = some (.int .i64 d) ∧ w9.cell? ⟨g, 8, none⟩ = some (.int .i64 p) ∧ w9.cell? ⟨g, 9, none⟩ = some (.int .u32 a) ∧ w9.cell? ⟨g, 10, none⟩ = some (.string t)) :=
     Lib.hid ⟨hc 0 _ rfl 0 _ rfl, hc 0 _ rfl 1 _ rfl, hc 0 _ rfl 2 _ rfl, hc 0 _ rfl 3 _ rfl, hc 0 _ rfl 4 _ rfl, hc 0 _ rfl 5 _ rfl, hc 0 _ rfl 6 _ rfl, hc 0 _ rfl 7 _ rfl, hc 0 _ rfl 8 _ rfl, hc 0 _ rfl 9 _ rfl, hc 0 _ rfl 10 _ rfl⟩
    clear hc hsg hb9 HB8 K38 HP hcm
    refine wp_region_held_drew (S := (fun W => Box9 W g3 (.int .i64 k) (.int .i64 r) (.int .i64 s) (.int .i64 i0) (.int .i64 l) (.int .i64 d) (.int .i64 p) (.int .u32 a) (.string t) ∧ (W.cell? ⟨g, 0, none⟩ = some (.int .i64 0) ∧ W.cell? ⟨g, 1, none⟩ = some (.int .i64 0) ∧ W.cell? ⟨g, 2, none⟩ = some (.int .i64 k) ∧ W.cell? ⟨g, 3, none⟩ = some (.int .i64 r) ∧ W.cell? ⟨g, 4, none⟩ = some (.int .i64 s) ∧ W.cell? ⟨g, 5, none⟩ = some (.int .i64 i0) ∧ W.cell? ⟨g, 6, none⟩ = some (.int .i64 l) ∧ W.cell? ⟨g, 7, none⟩ = some (.int .i64 d) ∧ W.cell? ⟨g, 8, none⟩ = some (.int .i64 p) ∧ W.cell? ⟨g, 9, none⟩ = some (.int .u32 a) ∧ W.cell? ⟨g, 10, none⟩ = some (.string t)))) (by kernel_rfl) ?_ (fun hHeld => ?_)
    ·exact ⟨HZ9.out.drw, HC.out⟩
    refine tk 0 ?_
    refine tk 1 ?_
    refine tk 2 ?_
    refine tk 3 ?_
    refine tk 4 ?_
    refine tk 5 ?_
    refine tk 6 ?_
    refine tk 7 ?_
    refine tk 8 ?_
    refine tk 9 ?_
    refine tk 10 ?_
    refine tk 11 ?_
    refine tk 12 ?_
    refine tk 13 ?_
    refine tk 14 ?_
    refine tk 15 ?_
    refine tk 16 ?_
    refine tk 17 ?_
    refine tk 18 ?_
    refine tk 19 ?_
    refine tk 20 ?_
    refine tk 21 ?_
    refine tk 22 ?_
    refine tk 23 ?_
    refine tk 24 ?_
    refine tk 25 ?_
    refine wpAnyH_ready (rs := [26]) (by kernel_rfl) (by simp) ?_
    refine AllReadyH.cons (o := _) rfl (fun K hK => ?_) AllReadyH.nil
    go_simp
    refine (HA.out _).mono ?_
    rintro e w10 ⟨rfl, hb10⟩
    (try go_wp2_with fail)
    refine hko hK ⟨HZ9.out.drw.keep hb10, cell_below hb10 (HC.out.1), cell_below hb10 (HC.out.2.1), cell_below hb10 (HC.out.2.2.1), cell_below hb10 (HC.out.2.2.2.1), cell_below hb10 (HC.out.2.2.2.2.1), cell_below hb10 (HC.out.2.2.2.2.2.1), cell_below hb10 (HC.out.2.2.2.2.2.2.1), cell_below hb10 (HC.out.2.2.2.2.2.2.2.1), cell_below hb10 (HC.out.2.2.2.2.2.2.2.2.1), cell_below hb10 (HC.out.2.2.2.2.2.2.2.2.2.1), cell_below hb10 (HC.out.2.2.2.2.2.2.2.2.2.2)⟩ (fun _ => ?_)
    clear hK K
    refine tk 27 ?_
    refine tk 28 ?_
    refine wpAnyH_done (by kernel_rfl) ?_ _
    have HB10 := Lib.hid (HB9.out.drew.trans (hb10.mono HB9.out.drew.size))
    clear hb10
    go_wp2_with fail
    go_ret
    exact ⟨rfl, HB10.out⟩
 ·have hfe : fencR k r s i0 l d p a t = .tuple #[.string ⟨#[]⟩, .int .i64 (frE k r s i0 l d p t)] := by
   unfold fencR
   rw [if_pos h0]
  rw [hfe] at HE
  have hne2 : (frE k r s i0 l d p t != 0) = true := by simpa using h0
  clear hfe h0
  generalize frE k r s i0 l d p t = E at *
  go_upto_region 4 with (go_at_call 25; refine (HE.out _).mono ?_; rintro e w1 ⟨rfl, hb1⟩)
  have HB2 := Lib.hid (HB1.out.trans (hb1.mono HB1.out.size))
  clear c0 c1 c2 c3 c4 c5 c6 c7 c8 hb1 HB1 H3 H4 H5 HE
  go_wp2_with (go_at_call 19; refine (HA.out _).mono ?_; rintro e w3 ⟨rfl, hb3⟩)
  go_ret
  exact ⟨rfl, HB2.out.trans (hb3.mono HB2.out.size)⟩
end damage
end Go.Proofs.YtjennpcadjdnlaaGreatDoor
