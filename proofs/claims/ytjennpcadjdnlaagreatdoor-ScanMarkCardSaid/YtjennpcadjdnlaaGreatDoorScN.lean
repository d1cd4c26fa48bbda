/-
  A map[int]bool of the call's own, used as a set: a look-up of a bool; what it holds, key by key.
  PLAIN: marks of which some cells are inverted; what scanning yields then.
  WALK: stelelaw14.ScanMark.
-/
import Derived.Test.YtjennpcadjdnlaaGreatDoorScI
import Derived.Maps.RangeWalk
import Derived.Maps.OwnOps
import Derived.Maps.OwnSet
import Derived.Maps.Views
import Derived.WalkKit
namespace Go.Proofs.YtjennpcadjdnlaaGreatDoor
open Go.RowKit Go.Maps

theorem plainElem_bool_inv {H : Type} {P : Program} {e : TypeId} (he : P.underlying e = some .bool) {v : Value} {z : DataW H × List MemPlace} (h : plainElem P e v = some z) : ∃ c, v = .bool c ∧ z = (.lit (.bool c), []) := by
  unfold plainElem at h
  rw [he] at h
  cases v <;> simp at h
  exact ⟨_, rfl, h.symm⟩

/-- 'm[k]' (without 'ok') at elements of type bool. -/
theorem wpList_lookup_own_bool {H : Type} {P : Program} (w : World) {ops : Array Oper} {rest : List Oper} {o : Oper} {a : Act} {Q : Exit → Act → World → Prop}
    (hg : o.guard = none) (m x : Operand) (t : TypeId) (hop : o.op = Op.lookup t m x false)
    (k e : TypeId) (K : Keyed P k) (ht : P.underlying t = some (.map k e)) (he : P.underlying e = some .bool) (hz : (zeroValue e).run P w = .ok (.bool false) w) (b n : Nat) (D : DataW H)
    (hm : a.eval m = .map (some b)) (hown : w.ownsMap P k (plainElem P e) b n D) (key : Value) (kl : Lit) (hx : a.eval x = key) (hkey : keyOf P k key = some kl) (c : Bool) (hc : D.atKey kl (.lit (.bool false)) = .lit (.bool c))
    (hK : wpList P ops Q rest (a.put o.dst (.bool c)) w) :
    wpList P ops Q (o :: rest) a w := by
  refine wpList_plain hg fun K' hK' => ?_
  obtain ⟨v, ps, hrun, hv⟩ := hown.lookup K ht hz (plainElem_bool he false) hkey
  obtain ⟨c', rfl, hc'⟩ := plainElem_bool_inv he hv
  simp only [Prod.mk.injEq] at hc'
  rw [hc] at hc'
  have : c = c' := by simpa using hc'.1
  subst this
  unfold Oper.wp
  simp [execOp, hop, hm, hx, hrun, Result.andThen]
  exact hK' _ _ hK

/-- What the set holds: just the x with p x. -/
structure SetD (D : DataW Unit) (p : Int → Bool) : Prop where
  isMap : IsMap D
  at_ : ∀ x : Int, D.atKey (.int .i64 x) (.lit (.bool false)) = .lit (.bool (p x))
  has_ : ∀ x : Int, Maps.has D (.int .i64 x) = p x

theorem SetD.empty : SetD (.map []) (fun _ => false) := ⟨isMap_empty, fun _ => rfl, fun _ => rfl⟩
theorem SetD.put {D : DataW Unit} {p : Int → Bool} (h : SetD D p) (x : Int) : SetD (D.put (.int .i64 x) (.lit (.bool true))) (fun y => p y || y == x) := by
  refine ⟨h.isMap.put _ _, fun y => ?_, fun y => ?_⟩
  · by_cases e : y = x
    · subst e
      rw [atKey_put_same (k := .int .i64 y) h.isMap trivial]
      simp
    · rw [atKey_put_other (by simpa using e), h.at_]
      simp [e]
  · by_cases e : y = x
    · subst e
      rw [has_put_same (k := .int .i64 y) h.isMap trivial]
      simp
    · rw [has_put_other (by simpa using e), h.has_]
      simp [e]
theorem SetD.congr {D : DataW Unit} {p q : Int → Bool} (h : SetD D p) (e : ∀ x, p x = q x) : SetD D q := by
  obtain rfl : p = q := funext e
  exact h

/-- The step of a range over a map[int]bool of the call's own. -/
theorem wpList_next_ranges_ib {P : Program} (w : World) {ops : Array Oper} {rest : List Oper} {o : Oper} {a : Act} {Q : Exit → Act → World → Prop}
    (hg : o.guard = none) (it : Operand) (hop : o.op = Op.next it false) (k e : TypeId) (K : Keyed P k) (hk : P.underlying k = some (.int .i64)) (he : P.underlying e = some .bool)
    (b r n : Nat) (D : DataW Unit) (left : Lit → Bool) (cnt : Nat) (hit : a.eval it = .pointer (some ⟨r, 0, none⟩)) (h : w.ranges P k (plainElem P e) b r n D left cnt)
    (hDone : cnt = 0 → (∀ kl, left kl = false) → wpList P ops Q rest (a.put o.dst (.tuple #[.bool false])) w)
    (hMore : ∀ (x : Int) (u : Value) (w' : World) (cnt' : Nat), left (.int .i64 x) = true → w'.ranges P k (plainElem P e) b r n D (fun z => left z && !z.sameKey (.int .i64 x)) cnt' → cnt' < cnt →
      w.grownBy w' (some r) → w'.heap.size = w.heap.size → (Instr.entry (.pointer (some ⟨r, 0, none⟩))).run P w' = .ok (.tuple #[.int .i64 x, u]) w' → wpList P ops Q rest (a.put o.dst (.tuple #[.bool true, .int .i64 x, u])) w') :
    wpList P ops Q (o :: rest) a w :=
  wpList_next_ranges w hg it hop k K (plainElem P e) (Value.int .i64) Value.bool (fun key kl hkey => by obtain ⟨x, rfl, _⟩ := Maps.keyOf_int_inv hk hkey; exact ⟨x, rfl⟩) (fun v y hv => by obtain ⟨c, rfl, _⟩ := plainElem_bool_inv he hv; exact ⟨c, rfl⟩)
    b r n D left cnt hit h hDone (fun x c kl y w' cnt' hkey hlk hv hat hrg hlt hgr hsz hen => by
      obtain ⟨x', ex, rfl, hwx⟩ := Maps.keyOf_int_inv hk hkey
      cases ex
      exact hMore x (.bool c) w' cnt' hlk hrg hlt hgr hsz hen)
theorem sameKey_int (x y : Int) : (Lit.int .i64 x).sameKey (.int .i64 y) = (x == y) := by
  by_cases e : x = y
  · subst e
    rw [WideAt.sameKey_self (a := .int .i64 x) trivial]; simp
  · rw [sameKey_ne (by simpa using e)]; simp [e]

end Go.Proofs.YtjennpcadjdnlaaGreatDoor

namespace Go.Proofs.YtjennpcadjdnlaaGreatDoor
open Go.RowKit

theorem mt_set {M : List Nat} {i x : Nat} (hi : i < M.length) (h : cf M i = cf markL i) (hx : x ≠ cf M i) : ∀ n, mt (M.set i x) 0 n + (if i < n then 1 else 0) = mt M 0 n
  | 0 => rfl
  | n + 1 => by
    have ih := mt_set hi h hx n
    unfold mt
    rw [Nat.zero_add, cf_set _ _ _ _ hi]
    by_cases e : i = n
    · subst e
      rw [if_neg (Nat.lt_irrefl _)] at ih
      rw [if_pos rfl, if_neg (by rw [← h]; exact hx), if_pos h, if_pos (Nat.lt_succ_self _)]
      omega
    · rw [if_neg e]
      by_cases e2 : i < n
      · rw [if_pos e2] at ih
        rw [if_pos (show i < n + 1 by omega)]
        omega
      · rw [if_neg e2] at ih
        rw [if_neg (show ¬ i < n + 1 by omega)]
        omega
/-- A strip that begins with a mark of which c cells are inverted, those with p. -/
structure Mrk (B : List Nat) (p : Int → Bool) (c : Nat) (l : List Nat) : Prop where
  cut : ∃ M, l = M ++ B ∧ M.length = 16 ∧ B01 M ∧ mt M 0 16 + c = 16 ∧ ∀ i : Nat, i < 16 → (p i = true ↔ cf M i ≠ cf markL i)
theorem mrk_zero (B : List Nat) : Mrk B (fun _ => false) 0 (markL ++ B) :=
  ⟨markL, rfl, markL_len, markL_01, by rw [mt_all 16 fun j _ => by rw [Nat.zero_add]], fun i _ => by simp⟩
theorem Mrk.same {B l : List Nat} {p : Int → Bool} {c : Nat} (h : Mrk B p c l) {i : Nat} (hi : i < 16) (hp : p i = false) : cf l i = cf markL i := by
  obtain ⟨M, rfl, hM, _, _, h4⟩ := h
  rw [cf_app_left (by omega)]
  exact Decidable.byContradiction fun hne => by
    have h5 := (h4 i hi).2 hne
    rw [hp] at h5
    cases h5
theorem Mrk.len {B l : List Nat} {p : Int → Bool} {c : Nat} (h : Mrk B p c l) : l.length = 16 + B.length := by
  obtain ⟨M, rfl, hM, _⟩ := h
  rw [List.length_append, hM]
theorem Mrk.cell01 {B l : List Nat} {p : Int → Bool} {c : Nat} (h : Mrk B p c l) {i : Nat} (hi : i < 16) : cf l i = 48 ∨ cf l i = 49 := by
  obtain ⟨M, rfl, hM, h1, _, _⟩ := h
  rw [cf_app_left (by omega)]
  exact cf_b01 h1 (by omega)
theorem Mrk.step {B l : List Nat} {p : Int → Bool} {c : Nat} (h : Mrk B p c l) {i : Nat} (hi : i < 16) (hp : p i = false) : Mrk B (fun y => p y || y == (i : Int)) (c + 1) (l.set i (cf l i ^^^ 1)) := by
  have hs := h.same hi hp
  have h01 := h.cell01 hi
  obtain ⟨M, rfl, hM, h1, h2, h3⟩ := h
  rw [cf_app_left (by omega)] at hs h01 ⊢
  obtain ⟨x1, x2⟩ := xor1_cell h01
  refine ⟨M.set i (cf M i ^^^ 1), by rw [List.set_append_left _ _ (by omega)], by rw [List.length_set]; exact hM, fun c hc => ?_, ?_, fun j hj => ?_⟩
  · rcases List.mem_or_eq_of_mem_set hc with hc | rfl
    · exact h1 c hc
    · exact x1
  · have := mt_set (i := i) (x := cf M i ^^^ 1) (by omega) hs x2 16
    rw [if_pos hi] at this
    omega
  · rw [cf_set _ _ _ _ (by omega)]
    by_cases e : i = j
    · subst e
      rw [if_pos rfl, ← hs]
      simp only [beq_self_eq_true, Bool.or_true, true_iff]
      exact x2
    · rw [if_neg e, ← h3 j hj]
      have : ((j : Int) == (i : Int)) = false := by simpa using fun h : (j : Int) = i => e (by omega)
      rw [this, Bool.or_false]
/-- A mark is found where at most two of its cells are inverted. -/
theorem Mrk.scan {m l : List Nat} {f : Frm} {p : Int → Bool} {c : Nat} (hm : Msg m f) (h : Mrk (bodyL m) p c l) (hc : c ≤ 2) : scanL (strB l) 0 = [⟨0, 0, f, qua0⟩] := by
  obtain ⟨M, rfl, hM, h1, h2, _⟩ := h
  have hb := bodyL_01 hm.bytes hm.len
  exact scan_one (bytes_app (b01_bytes h1) (b01_bytes hb)) hM (by rw [bodyL_len]; exact Nat.le_refl _) (by omega) (by rw [bodyL_len, b01_no63 hb]; decide) (body_dec hm)
theorem mrk_bytes {m l : List Nat} {f : Frm} {p : Int → Bool} {c : Nat} (hm : Msg m f) (h : Mrk (bodyL m) p c l) : Bytes l := by
  obtain ⟨M, rfl, _, h1, _, _⟩ := h
  exact bytes_app (b01_bytes h1) (bodyL_bytes hm.bytes hm.len)
/-- No mark is found at the front where more than two are. -/
theorem Mrk.miss {m l : List Nat} {f : Frm} {p : Int → Bool} {c : Nat} (hm : Msg m f) (h : Mrk (bodyL m) p c l) (hc : 2 < c) : ∀ x ∈ scanL (strB l) 0, x.at_ ≠ 0 := by
  intro x hx e
  have h1 := (scanL_mem (strB l) _ 0 rfl x hx).2
  rw [e, bs_strB (mrk_bytes hm h)] at h1
  obtain ⟨M, rfl, hM, _, h2, _⟩ := h
  unfold hit at h1
  have h3 := of_decide_eq_true h1
  rw [mt_congr (r := M) (k' := 0) 16 fun j hj => by rw [Nat.zero_add, cf_app_left (by omega)]] at h3
  omega
/-- Two marks, inverted or not. -/
theorem mark2 (B : List Nat) {i j : Nat} (hi : i < 16) (hj : j < 16) (h : i ≠ j) : Mrk B (fun y => y == (i : Int) || y == (j : Int)) 2 (((markL ++ B).set i (cf (markL ++ B) i ^^^ 1)).set j (cf ((markL ++ B).set i (cf (markL ++ B) i ^^^ 1)) j ^^^ 1)) := by
  have h1 := (mrk_zero B).step hi rfl
  have h2 := h1.step (i := j) hj (by simpa using fun e : (j : Int) = i => h (by omega))
  simpa using h2
end Go.Proofs.YtjennpcadjdnlaaGreatDoor

namespace Go.Proofs.YtjennpcadjdnlaaGreatDoor
open Go.RowKit Go.Maps

theorem keyI : Keyed Tryz.prog 3 := int_keyed Tryz.underlying3
theorem zeroB (w : World) : (zeroValue 4).run Tryz.prog w = .ok (.bool false) w := by kernel_rfl
theorem wf_nat {n : Nat} (h : n ≤ 9223372036854775807) : (Lit.int .i64 (n : Int)).wf = true := WalkArith.wf_i64 (by omega)
theorem u8_inv1 {x : Nat} (h : x = 48 ∨ x = 49) : bits .xor .u8 (x : Int) 1 = ((x ^^^ 1 : Nat) : Int) := by
  rcases h with rfl | rfl <;> decide
theorem map_below {w w' : World} {P : Program} {k : TypeId} {R : Value → Option (DataW Unit × List MemPlace)} {b n : Nat} {D : DataW Unit} (h : w.ownsMap P k R b n D) (hb : Below w.heap.size w w') : w'.ownsMap P k R b n D :=
  h.kept (row := none) ⟨hb.os, hb.tape, hb.output, hb.size, fun i hi _ => hb.block i hi⟩ (by simp)
theorem SgtsAt.alln {W : World} {v : Value} {xs : List Sgt} (h : SgtsAt W v xs) {n : Nat} (hn : xs.length = n) : ∃ A c, v = .slice A n c ∧ ∀ i x, xs[i]? = some x → ∃ b o, A = some ⟨b, o, none⟩ ∧ ∀ j u, x.cells[j]? = some u → W.cell? ⟨b, o + i * 14 + j, none⟩ = some u := by
  subst hn
  exact h.all
namespace mark

set_option maxRecDepth 100000 in
set_option maxHeartbeats 8000000 in
theorem walk (w : World) (k r s i l d p a : Int) (t : ByteArray) (v : Value) (gl : List Nat) (hv : BytesAt w v gl) (hgb : Bytes gl) (ha : 0 ≤ a ∧ a < 4294967296) :
    Calls Tryz.prog 10 #[frV k r s i l d p a t, v] w fun e w' => e = .returned (.bool true) ∧ Below w.heap.size w w' := by
  have HE := Lib.hid (fun W => fenc_all W k r s i l d p a t ha)
  have HA := Lib.hid (fun W => awake_any W)
  have HB := Lib.hid ((Below.refl w.heap.size w).alloc (Nat.le_refl _) (.cells #[.int .i64 k, .int .i64 r, .int .i64 s, .int .i64 i, .int .i64 l, .int .i64 d, .int .i64 p, .int .u32 a, .string t] 26))
  have HZ := Lib.hid (Box9.blk (Blk.new w 26 [.int .i64 k, .int .i64 r, .int .i64 s, .int .i64 i, .int .i64 l, .int .i64 d, .int .i64 p, .int .u32 a, .string t]))
  change Hid (Box9 (w.alloc (.cells #[.int .i64 k, .int .i64 r, .int .i64 s, .int .i64 i, .int .i64 l, .int .i64 d, .int .i64 p, .int .u32 a, .string t] 26)) _ _ _ _ _ _ _ _ _ _) at HZ
  have Hv := Lib.hid (hv.below HB.out)
  have Hgb := Lib.hid hgb
  obtain ⟨Ag, cg, rfl, hg1, hg2, hg3⟩ := hv
  clear hg3 hgb
  by_cases h0 : frE k r s i l d p t = 0
  · obtain ⟨hm, hc⟩ := msgOf_msg (f := ⟨k, r, s, i, l, d, p, a, t⟩) h0 ha
    dsimp only at hc
    rw [hc] at HE
    generalize msgOf ⟨k, r, s, i, l, d, p, a, t⟩ = m at *
    have hby : Bytes (markL ++ bodyL m) := bytes_app (b01_bytes markL_01) (bodyL_bytes hm.bytes hm.len)
    have hsz : (strB (markL ++ bodyL m)).size = 852 := by rw [strB_size, List.length_append, markL_len, bodyL_len]
    have Hbs := Lib.hid (bs_strB hby)
    have Hm := Lib.hid hm
    have HM0 := Lib.hid (mrk_zero (bodyL m))
    have hB2 := bodyL_len m
    have HB2 := Lib.hid hB2
    clear hc hby h0 ha hm hB2
    generalize strB (markL ++ bodyL m) = C at *
    generalize markL ++ bodyL m = L0 at *
    unfold frV at HE ⊢
    by_cases h20 : 20 < gl.length
    · have h20I : (20 : Int) < gl.length := by omega
      go_enter Tryz.func10, Tryz.ntmps10
      go_upto_region 1 with fail
      generalize w.alloc (.cells #[.int .i64 k, .int .i64 r, .int .i64 s, .int .i64 i, .int .i64 l, .int .i64 d, .int .i64 p, .int .u32 a, .string t] 26) = wz at *
      obtain ⟨c0, c1, c2, c3, c4, c5, c6, c7, c8⟩ := HZ.out
      go_wp2_with (first | (go_at_call 25; refine (HE.out _).mono ?_; rintro e w1 ⟨rfl, hb1⟩) | (go_at_call 19; refine (HA.out _).mono ?_; rintro e w2 ⟨rfl, hb2⟩))
      go_ret
      exact ⟨rfl, HB.out.trans ((hb1.trans (hb2.mono hb1.size)).mono HB.out.size)⟩
    · have h20I : ¬ (20 : Int) < gl.length := by omega
      go_enter Tryz.func10, Tryz.ntmps10
      go_upto_region 1 with fail
      generalize w.alloc (.cells #[.int .i64 k, .int .i64 r, .int .i64 s, .int .i64 i, .int .i64 l, .int .i64 d, .int .i64 p, .int .u32 a, .string t] 26) = wz at *
      obtain ⟨c0, c1, c2, c3, c4, c5, c6, c7, c8⟩ := HZ.out
      go_upto_region 6 with (go_at_call 25; refine (HE.out _).mono ?_; rintro e w1 ⟨rfl, hb1⟩)
      have HZ1 := Lib.hid (HZ.out.keep hb1)
      have HB1 := Lib.hid (HB.out.trans (hb1.mono HB.out.size))
      have Hv1 := Lib.hid (Hv.out.below hb1)
      clear c0 c1 c2 c3 c4 c5 c6 c7 c8 hb1 HZ HB HE Hv
      obtain ⟨cc, w6, hcv, hc1, hc2, hrow, hbb, hsz6⟩ := run_toBytes w1 C (by omega)
      rw [hsz] at hcv hc1
      rw [Hbs.out] at hrow
      have hmm := @run_makeMap Tryz.prog
      have HR0 := Lib.hid (RowB.of_heap (w' := w6.alloc (.map #[] 0)) hrow (((Below.refl _ _).alloc (Nat.le_refl _) _).block w1.heap.size hrow.lt))
      have HBM0 := Lib.hid (hbb.alloc hbb.size (.map #[] 0))
      have HO0 := Lib.hid (World.ownsMap_made (H := Unit) w6 Tryz.prog 3 (plainElem Tryz.prog 4))
      have Hsz6 := Lib.hid hsz6
      clear hrow hbb hsz6
      go_wp2
      clear hcv hmm
      go_loopw [36] (fun x wr => ∃ (n c : Nat) (L : List Nat) (pp : Int → Bool) (D : DataW Unit), n ≤ gl.length ∧ x = .int .i64 (n : Int) ∧ Mrk (bodyL m) pp c L ∧ RowB wr w1.heap.size L ∧ wr.ownsMap Tryz.prog 3 (plainElem Tryz.prog 4) w6.heap.size n D ∧ SetD D pp ∧ Maps.size D = c ∧ Below w1.heap.size w1 wr) (fun x _ => gl.length - (intOf x).toNat)
      case atStart => exact ⟨0, 0, L0, _, .map [], by omega, rfl, HM0.out, HR0.out, HO0.out, SetD.empty, rfl, HBM0.out⟩
      case round =>
        obtain ⟨n, c, L, pp, D, hn, rfl, hM, hr, hown, hD, hcD, hB⟩ := hrel
        clear HM0 HR0 HO0 HBM0
        have HM := Lib.hid hM
        have Hr := Lib.hid hr
        have HD := Lib.hid hD
        have HcD := Lib.hid hcD
        have HBr := Lib.hid hB
        clear hM hr hD hcD hB
        by_cases h : n < gl.length
        · have hnI : (n : Int) < gl.length := by omega
          have hgi : gl[n]? = some (cf gl n) := by unfold cf; rw [List.getElem?_eq_getElem h]; rfl
          have hg8 : cf gl n < 256 := cf_lt Hgb.out n
          obtain ⟨gb, go, rfl, hgc⟩ := (Hv1.out.below HBr.out).cell hgi
          generalize cf gl n = g at *
          clear hgi
          obtain ⟨q, hq⟩ : ∃ q, g % 16 = q := ⟨_, rfl⟩
          have hqI : (g : Int) % 16 = (q : Int) := by omega
          have hq16 : q < 16 := by omega
          have hkey : keyOf Tryz.prog 3 (.int .i64 (q : Int)) = some (.int .i64 (q : Int)) := keyOf_int_mk Tryz.underlying3 (wf_nat (by omega))
          have hat := HD.out.at_ q
          clear hq
          go_upto_region 12 with fail
          rw [hqI]
          cases hb : pp q with
          | true =>
            rw [hb] at hat
            have Hat := Lib.hid hat
            clear hat hb
            go_wp2_with (at_lookup; refine wpList_lookup_own_bool _ rfl _ _ 66 rfl 3 4 keyI Tryz.underlying66 Tryz.underlying4 (zeroB _) w6.heap.size n D rfl hown _ _ rfl hkey true Hat.out ?_)
            go_roundw
            case rel => exact ⟨n + 1, c, L, pp, D, by omega, by go_num, HM.out, Hr.out, hown.mono (by omega), HD.out, HcD.out, HBr.out⟩
            case measure => simp [intOf]; omega
          | false =>
            rw [hb] at hat
            have Hat := Lib.hid hat
            have hx01 := HM.out.cell01 hq16
            have hLl := HM.out.len
            rw [HB2.out] at hLl
            have hLq : L[q]? = some (cf L q) := by unfold cf; rw [List.getElem?_eq_getElem (by omega)]; rfl
            have hc := Hr.out.cell q _ hLq
            have hfr := Hr.out.free q (by omega)
            have hxx := u8_inv1 hx01
            have HM2 := Lib.hid (HM.out.step hq16 hb)
            have hq852 : (q : Int) < 852 := by omega
            have hown2 := hown.setCell (a := ⟨w1.heap.size, q, none⟩) (by have := Hsz6.out; show w6.heap.size ≠ w1.heap.size; omega) (.int .u8 ((cf L q ^^^ 1 : Nat) : Int))
            have Hr2 := Lib.hid (Hr.out.set q (cf L q ^^^ 1))
            have HB2r := Lib.hid (HBr.out.setCell (p := ⟨w1.heap.size, q, none⟩) (Nat.le_refl _) (.int .u8 ((cf L q ^^^ 1 : Nat) : Int)))
            have Hsp : Hid (Maps.size (D.put (.int .i64 (q : Int)) (.lit (.bool true))) = c + 1) := Lib.hid (by rw [Maps.size_put (hown.tidy keyI), HD.out.has_, hb, HcD.out]; rfl)
            clear hat hx01 hLq hLl hb
            generalize cf L q = xj at *
            go_wp2_with (first
              | (at_lookup; refine wpList_lookup_own_bool _ rfl _ _ 66 rfl 3 4 keyI Tryz.underlying66 Tryz.underlying4 (zeroB _) w6.heap.size n D rfl hown _ _ rfl hkey false Hat.out ?_)
              | (at_mapUpdate; refine wpList_mapUpdate_own _ rfl _ _ _ 66 rfl 3 4 keyI Tryz.underlying66 _ w6.heap.size n _ rfl hown2 (by unfold maxLen; omega) _ _ _ rfl rfl hkey _ [] (plainElem_bool Tryz.underlying4 true) ?_; intro w7 hown7 hgrow7))
            have HB7 := Lib.hid (HB2r.out.grown hgrow7 HB2r.out.size (fun j hj => by cases hj; have := Hsz6.out; omega))
            have HX7 := Lib.hid (((Below.refl w6.heap.size _).grown hgrow7 (by have := hown2.lt; omega) (fun j hj => by cases hj; exact Nat.le_refl _)))
            have Hr7 := Lib.hid (Hr2.out.below HX7.out (by have := Hsz6.out; omega))
            go_roundw
            case rel => exact ⟨n + 1, c + 1, _, _, _, by omega, by go_num, HM2.out, Hr7.out, hown7, HD.out.put q, Hsp.out, HB7.out⟩
            case measure => simp [intOf]; omega
        · have hnI : ¬ (n : Int) < gl.length := by omega
          have hLl := HM.out.len
          rw [HB2.out] at hLl
          have hcs := run_toStr (Hr.out.bytes (n := 852) (c := cc) hLl.symm hc1 hc2) hLl.symm
          have hP := fun W => scpiece_any W (strB L) (by rw [strB_size]; omega)
          have Hown := Lib.hid hown
          have hleq : (c : Int) ≤ 20 := by have := Hown.out.size_le; have := HcD.out; omega
          clear hown
          by_cases hc2' : c ≤ 2
          · rw [HM.out.scan Hm.out hc2'] at hP
            obtain ⟨xs, hxs⟩ : ∃ xs, [(⟨0, 0, ⟨k, r, s, i, l, d, p, a, t⟩, qua0⟩ : Sgt)] = xs := ⟨_, rfl⟩
            rw [hxs] at hP
            have Hx0 : Hid (xs[0]? = some (⟨0, 0, ⟨k, r, s, i, l, d, p, a, t⟩, qua0⟩ : Sgt)) := Lib.hid (by rw [← hxs]; rfl)
            have Hxl : Hid (xs.length = 1) := Lib.hid (by rw [← hxs]; rfl)
            have HP := Lib.hid hP
            have hc2I : (c : Int) ≤ 2 := by omega
            clear hP hxs hLl HM Hr HD Hv1 Hgb
            generalize strB L = S at *
            go_wp2_with (go_at_call 21; refine (HP.out _).mono ?_; rintro e w5 ⟨v5, rfl, hsg, hb5⟩; obtain ⟨A5, c5, rfl, hc5⟩ := SgtsAt.alln hsg Hxl.out; have HC := Lib.hid hc5; have HB5 := Lib.hid (HBr.out.trans (hb5.mono HBr.out.size)); have HO5 := Lib.hid (map_below Hown.out hb5); clear hc5 hsg hb5 Hown)
            go_loopw [12, 60] (fun b x wx => ∃ q : Nat, q ≤ 1 ∧ x = .int .i64 (q : Int) ∧ b = .bool (q == 1) ∧ Below w5.heap.size w5 wx) (fun _ x _ => 1 - (intOf x).toNat)
            case atStart => exact ⟨0, by omega, rfl, rfl, Below.refl _ _⟩
            case round =>
              obtain ⟨q, hq, rfl, rfl, hB⟩ := hrel
              have HBx := Lib.hid hB
              clear hB
              by_cases hq1 : q < 1
              · obtain rfl : q = 0 := by omega
                obtain ⟨b5, o5, rfl, hd⟩ := HC.out 0 _ Hx0.out
                have hd1 := fun j u hu => cell_below HBx.out (hd j u hu)
                have c0 := hd1 0 _ rfl
                have c1 := hd1 1 _ rfl
                have c2 := hd1 2 _ rfl
                have c3 := hd1 3 _ rfl
                have c4 := hd1 4 _ rfl
                have c5 := hd1 5 _ rfl
                have c6 := hd1 6 _ rfl
                have c7 := hd1 7 _ rfl
                have c8 := hd1 8 _ rfl
                have c9 := hd1 9 _ rfl
                have c10 := hd1 10 _ rfl
                have c11 := hd1 11 _ rfl
                have c12 := hd1 12 _ rfl
                have c13 := hd1 13 _ rfl
                dsimp only [qua0] at c0 c1 c2 c3 c4 c5 c6 c7 c8 c9 c10 c11 c12 c13
                simp only [Nat.zero_mul, Nat.add_zero] at c0 c1 c2 c3 c4 c5 c6 c7 c8 c9 c10 c11 c12 c13
                have HZx := Lib.hid ((HZ1.out.keep HB5.out).keep HBx.out)
                have hZA := HZx.out.keep (show Below wr.heap.size wr (wr.alloc (.cells #[.int .i64 0, .int .i64 0, .int .i64 k, .int .i64 r, .int .i64 s, .int .i64 i, .int .i64 l, .int .i64 d, .int .i64 p, .int .u32 a, .string t, .int .i64 0, .int .i64 0, .int .i64 0] 53)) from (Below.refl _ _).alloc (Nat.le_refl _) _)
                obtain ⟨e0, e1, e2, e3, e4, e5, e6, e7, e8⟩ := hZA
                have HBA := Lib.hid (HBx.out.alloc HBx.out.size (.cells #[.int .i64 0, .int .i64 0, .int .i64 k, .int .i64 r, .int .i64 s, .int .i64 i, .int .i64 l, .int .i64 d, .int .i64 p, .int .u32 a, .string t, .int .i64 0, .int .i64 0, .int .i64 0] 53))
                clear hd hd1 HZx
                rw [show ((0 : Nat) : Int) = 0 from rfl]
                go_wp2
                go_roundw
                case rel => exact ⟨1, by omega, by go_num, rfl, HBA.out⟩
                case measure => simp [intOf]
              · obtain rfl : q = 1 := by omega
                have hlen := (map_below HO5.out HBx.out).len Tryz.underlying66 3
                rw [HcD.out] at hlen
                rw [show ((1 : Nat) : Int) = 1 from rfl]
                have HBf := Lib.hid (HB5.out.trans (HBx.out.mono HB5.out.size))
                go_wp2_with (go_at_call 19; refine (HA.out _).mono ?_; rintro e w6 ⟨rfl, hb6⟩)
                go_ret
                exact ⟨rfl, HB1.out.trans ((HBf.out.trans (hb6.mono HBf.out.size)).mono HB1.out.size)⟩
          · have HS := Lib.hid (HM.out.miss Hm.out (by omega))
            have hsl := scanL_len (strB L) _ 0 rfl
            rw [strB_size, hLl] at hsl
            generalize scanL (strB L) 0 = xs at *
            have HP := Lib.hid hP
            have hc2I : decide ((c : Int) ≤ 2) = false := by simp; omega
            obtain ⟨nx, hnx⟩ : ∃ nx, xs.length = nx := ⟨_, rfl⟩
            have Hxl := Lib.hid hnx
            have hnx9 : nx ≤ 852 := by omega
            clear hsl hP hnx hLl HM Hr HD Hv1 Hgb hc2'
            generalize strB L = S at *
            go_wp2_with (go_at_call 21; refine (HP.out _).mono ?_; rintro e w5 ⟨v5, rfl, hsg, hb5⟩; obtain ⟨A5, c5, rfl, hc5⟩ := SgtsAt.alln hsg Hxl.out; have HC := Lib.hid hc5; have HB5 := Lib.hid (HBr.out.trans (hb5.mono HBr.out.size)); have HO5 := Lib.hid (map_below Hown.out hb5); clear hc5 hsg hb5 Hown)
            go_loopw [12, 60] (fun b x wx => ∃ q : Nat, q ≤ nx ∧ x = .int .i64 (q : Int) ∧ b = .bool false ∧ Below w5.heap.size w5 wx) (fun _ x _ => nx - (intOf x).toNat)
            case atStart => exact ⟨0, by omega, rfl, rfl, Below.refl _ _⟩
            case round =>
              obtain ⟨q, hq, rfl, rfl, hB⟩ := hrel
              have HBx := Lib.hid hB
              clear hB
              by_cases hq1 : q < nx
              · have hqI : (q : Int) < nx := by omega
                obtain ⟨x, hx⟩ : ∃ x, xs[q]? = some x := ⟨_, List.getElem?_eq_getElem (by rw [Hxl.out]; exact hq1)⟩
                have hne := HS.out x (List.mem_of_getElem? hx)
                obtain ⟨b5, o5, rfl, hd⟩ := HC.out q _ hx
                have hd1 := fun j u hu => cell_below HBx.out (hd j u hu)
                obtain ⟨pc, at_, ⟨fk, fr, fs, fi, fl, fd, fp, fa, ft⟩, ⟨qd, qu, qc⟩⟩ := x
                have c0 := hd1 0 _ rfl
                have c1 := hd1 1 _ rfl
                have c2 := hd1 2 _ rfl
                have c3 := hd1 3 _ rfl
                have c4 := hd1 4 _ rfl
                have c5 := hd1 5 _ rfl
                have c6 := hd1 6 _ rfl
                have c7 := hd1 7 _ rfl
                have c8 := hd1 8 _ rfl
                have c9 := hd1 9 _ rfl
                have c10 := hd1 10 _ rfl
                have c11 := hd1 11 _ rfl
                have c12 := hd1 12 _ rfl
                have c13 := hd1 13 _ rfl
                dsimp only at c0 c1 c2 c3 c4 c5 c6 c7 c8 c9 c10 c11 c12 c13
                rw [Nat.add_zero] at c0
                have hatI : ((at_ : Int) == 0) = false := by simpa using fun e : (at_ : Int) = 0 => hne (by dsimp only; omega)
                have HBA := Lib.hid (HBx.out.alloc HBx.out.size (.cells #[.int .i64 pc, .int .i64 (at_ : Int), .int .i64 fk, .int .i64 fr, .int .i64 fs, .int .i64 fi, .int .i64 fl, .int .i64 fd, .int .i64 fp, .int .u32 fa, .string ft, .int .i64 qd, .int .i64 qu, .int .i64 qc] 53))
                clear hd hd1 hx hne
                go_wp2
                go_roundw
                case rel => exact ⟨q + 1, by omega, by go_num, rfl, HBA.out⟩
                case measure => simp [intOf]; omega
              · obtain rfl : q = nx := by omega
                have hqI : ¬ (q : Int) < q := by omega
                have hlen := (map_below HO5.out HBx.out).len Tryz.underlying66 3
                rw [HcD.out] at hlen
                have HBf := Lib.hid (HB5.out.trans (HBx.out.mono HB5.out.size))
                go_wp2_with (go_at_call 19; refine (HA.out _).mono ?_; rintro e w6 ⟨rfl, hb6⟩)
                go_ret
                exact ⟨rfl, HB1.out.trans ((HBf.out.trans (hb6.mono HBf.out.size)).mono HB1.out.size)⟩
  · have h1 : (frE k r s i l d p t != 0) = true := by simpa using h0
    have hR : fencR k r s i l d p a t = .tuple #[.string ⟨#[]⟩, .int .i64 (frE k r s i l d p t)] := by unfold fencR; rw [if_pos h0]
    rw [hR] at HE
    generalize frE k r s i l d p t = F at *
    clear h0 hR ha
    unfold frV at HE ⊢
    go_enter Tryz.func10, Tryz.ntmps10
    go_upto_region 1 with fail
    generalize w.alloc (.cells #[.int .i64 k, .int .i64 r, .int .i64 s, .int .i64 i, .int .i64 l, .int .i64 d, .int .i64 p, .int .u32 a, .string t] 26) = wz at *
    obtain ⟨c0, c1, c2, c3, c4, c5, c6, c7, c8⟩ := HZ.out
    go_wp2_with (first | (go_at_call 25; refine (HE.out _).mono ?_; rintro e w1 ⟨rfl, hb1⟩) | (go_at_call 19; refine (HA.out _).mono ?_; rintro e w2 ⟨rfl, hb2⟩))
    go_ret
    exact ⟨rfl, HB.out.trans ((hb1.trans (hb2.mono hb1.size)).mono HB.out.size)⟩
end mark

end Go.Proofs.YtjennpcadjdnlaaGreatDoor
