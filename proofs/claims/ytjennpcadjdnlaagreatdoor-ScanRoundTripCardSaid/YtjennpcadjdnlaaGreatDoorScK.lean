/-
  WALK: stelelaw14.ScanRoundTrip.
-/
import Derived.Test.YtjennpcadjdnlaaGreatDoorScI
import Derived.BigQuiet
namespace Go.Proofs.YtjennpcadjdnlaaGreatDoor
open Go.RowKit

theorem sightsL_len : ∀ (fs : List Frm) (j : Nat), (sightsL j fs).length = fs.length
  | [], _ => rfl
  | _ :: r, j => by unfold sightsL; rw [List.length_cons, List.length_cons, sightsL_len r]
theorem sightsL_get : ∀ (fs : List Frm) (j i : Nat) (f : Frm), fs[i]? = some f → (sightsL j fs)[i]? = some ⟨0, 852 * (j + i), f, qua0⟩
  | [], _, _, _, h => by cases h
  | g :: r, j, 0, f, h => by cases h; rfl
  | g :: r, j, i + 1, f, h => by
    unfold sightsL
    rw [List.getElem?_cons_succ, sightsL_get r (j + 1) i f h, show j + 1 + i = j + (i + 1) by omega]
/-- A list of sightings, read. -/
theorem SgtsAt.all {W : World} {v : Value} {xs : List Sgt} (h : SgtsAt W v xs) : ∃ A c, v = .slice A xs.length c ∧ ∀ i x, xs[i]? = some x → ∃ b o, A = some ⟨b, o, none⟩ ∧ ∀ j u, x.cells[j]? = some u → W.cell? ⟨b, o + i * 14 + j, none⟩ = some u := by
  by_cases hn : xs = []
  · subst hn
    unfold SgtsAt at h
    rcases h.2 with ⟨rfl, _⟩ | ⟨g, c, cur, rfl, _⟩
    · exact ⟨_, _, rfl, fun i x hx => by cases hx⟩
    · exact ⟨_, _, rfl, fun i x hx => by cases hx⟩
  · obtain ⟨g, c, rfl, hc⟩ := SgtsAt.at h hn
    exact ⟨_, _, rfl, fun i x hx => ⟨g, 0, rfl, fun j u hu => by rw [Nat.zero_add]; exact hc i x hx j u hu⟩⟩
namespace around

set_option maxRecDepth 100000 in
set_option maxHeartbeats 8000000 in
theorem walk (w : World) (v : Value) (fs : List Frm) (hv : FrmsAt w v fs) (ha : ∀ f ∈ fs, f.small) :
    Calls Tryz.prog 6 #[v] w fun e w' => e = .returned (.bool true) ∧ Below w.heap.size w w' := by
  have HA := Lib.hid (fun W => awake_any W)
  have Hv := Lib.hid hv
  by_cases h4 : 4 < fs.length
  · have h4I : (4 : Int) < fs.length := by omega
    obtain ⟨A, c, rfl, h1, h2, h3⟩ := hv
    clear h3 Hv
    go_enter Tryz.func6, Tryz.ntmps6
    go_wp2_with (go_at_call 19; refine (HA.out _).mono ?_; rintro e w3 ⟨rfl, hb3⟩)
    go_ret
    exact ⟨rfl, hb3⟩
  · have h4I : ¬ (4 : Int) < fs.length := by omega
    have HJ := Lib.hid (fun (W : World) (hb : Below w.heap.size w W) => scjoin_any W v fs (Hv.out.below hb) (by omega) ha)
    obtain ⟨A, c, rfl, h1, h2, h3⟩ := hv
    clear h3
    by_cases h0 : joinE fs = 0
    · have hok : ∀ f ∈ fs, fE f = 0 ∧ f.small := fun f hf => ⟨joinE_ok h0 f hf, ha f hf⟩
      have hjs : joinS fs = strB (flatC (fs.map msgOf)) := by unfold joinS; rw [if_pos h0]
      have hsz : (joinS fs).size ≤ 1000000 := by rw [hjs, strB_size, flatC_len, List.length_map]; omega
      have hsc : scanL (joinS fs) 0 = sightsL 0 fs := by rw [hjs]; exact scan_frames (msgs_of hok)
      have HP := Lib.hid (fun W : World => scpiece_any W (joinS fs) hsz)
      rw [hsc] at HP
      rw [h0] at HJ
      clear hok hjs hsz hsc h0
      generalize joinS fs = S at *
      go_enter Tryz.func6, Tryz.ntmps6
      go_upto_region 6 with (go_at_call 23; refine (HJ.out _ (Below.refl _ _)).mono ?_; rintro e w3 ⟨rfl, hb3⟩)
      have HB3 := Lib.hid hb3
      clear hb3 HJ
      go_upto_region 7 with (go_at_call 21; refine (HP.out _).mono ?_; rintro e w5 ⟨v5, rfl, hsg, hb5⟩)
      obtain ⟨A5, c5, rfl, hc5⟩ := SgtsAt.all hsg
      have HB5 := Lib.hid (HB3.out.trans (hb5.mono HB3.out.size))
      have HC := Lib.hid hc5
      have hll := sightsL_len fs 0
      rw [hll]
      clear hc5 hsg hb5 HB3 HP hll
      go_wp2
      go_loopw [33] (fun x wr => ∃ k : Nat, k ≤ fs.length ∧ x = .int .i64 (k : Int) ∧ Below w5.heap.size w5 wr) (fun x _ => fs.length - (intOf x).toNat)
      case atStart => exact ⟨0, by omega, rfl, Below.refl _ _⟩
      case round =>
        obtain ⟨k, hk, rfl, hB⟩ := hrel
        have HBr := Lib.hid hB
        have HBw := Lib.hid (HB5.out.trans (hB.mono HB5.out.size))
        clear hB HB5
        by_cases h : k < fs.length
        · have hkI : (k : Int) < fs.length := by omega
          obtain ⟨f, hf⟩ : ∃ f, fs[k]? = some f := ⟨_, List.getElem?_eq_getElem h⟩
          have hs := sightsL_get fs 0 k f hf
          obtain ⟨b5, o5, rfl, hd⟩ := HC.out k _ hs
          obtain ⟨_, _, e9, _, _, hg⟩ := Hv.out.below HBw.out
          cases e9
          obtain ⟨b, o, rfl, hd2⟩ := hg k f hf
          have hd1 := fun j u hu => cell_below HBr.out (hd j u hu)
          obtain ⟨X, hX⟩ : ∃ X : Int, ((852 * (0 + k) : Nat) : Int) = X := ⟨_, rfl⟩
          have hXw : (k : Int) * 852 = X := by omega
          have hXb : -9223372036854775808 ≤ X ∧ X ≤ 9223372036854775807 := by omega
          obtain ⟨k0, r0, s0, i0, l0, d0, p0, a0, t0⟩ := f
          have e0 := hd2 0 _ rfl
          have e1 := hd2 1 _ rfl
          have e2 := hd2 2 _ rfl
          have e3 := hd2 3 _ rfl
          have e4 := hd2 4 _ rfl
          have e5 := hd2 5 _ rfl
          have e6 := hd2 6 _ rfl
          have e7 := hd2 7 _ rfl
          have e8 := hd2 8 _ rfl
          have c0 := hd1 0 _ rfl
          have c1 := hd1 1 _ rfl
          have c2 := hd1 2 _ rfl
          have c3 := hd1 3 _ rfl
          have c4 := hd1 4 _ rfl
          have c5 := hd1 5 _ rfl
          have c6 := hd1 6 _ rfl
          have c7 := hd1 7 _ rfl
          have c8 := hd1 8 _ rfl
          have c9 := hd1 9 _ rfl
          have c10 := hd1 10 _ rfl
          have c11 := hd1 11 _ rfl
          have c12 := hd1 12 _ rfl
          have c13 := hd1 13 _ rfl
          dsimp only [qua0] at c0 c1 c2 c3 c4 c5 c6 c7 c8 c9 c10 c11 c12 c13 e0 e1 e2 e3 e4 e5 e6 e7 e8
          rw [hX] at c1
          rw [Nat.add_zero] at c0 e0
          clear hd hd1 hd2 hg hs hf hX
          go_upto_region 12 with fail
          have hA : Below wr.heap.size wr (wr.alloc (.cells #[.int .i64 0, .int .i64 X, .int .i64 k0, .int .i64 r0, .int .i64 s0, .int .i64 i0, .int .i64 l0, .int .i64 d0, .int .i64 p0, .int .u32 a0, .string t0, .int .i64 0, .int .i64 0, .int .i64 0] 53)) := (Below.refl _ _).alloc (Nat.le_refl _) _
          have HBa := Lib.hid (HBr.out.trans (hA.mono HBr.out.size))
          have hn := Blk.new wr 53 [.int .i64 0, .int .i64 X, .int .i64 k0, .int .i64 r0, .int .i64 s0, .int .i64 i0, .int .i64 l0, .int .i64 d0, .int .i64 p0, .int .u32 a0, .string t0, .int .i64 0, .int .i64 0, .int .i64 0]
          change Blk (wr.alloc (.cells #[.int .i64 0, .int .i64 X, .int .i64 k0, .int .i64 r0, .int .i64 s0, .int .i64 i0, .int .i64 l0, .int .i64 d0, .int .i64 p0, .int .u32 a0, .string t0, .int .i64 0, .int .i64 0, .int .i64 0] 53)) _ _ _ at hn
          replace c0 := hn.cell (i := 0) rfl
          replace c1 := hn.cell (i := 1) rfl
          replace c2 := hn.cell (i := 2) rfl
          replace c3 := hn.cell (i := 3) rfl
          replace c4 := hn.cell (i := 4) rfl
          replace c5 := hn.cell (i := 5) rfl
          replace c6 := hn.cell (i := 6) rfl
          replace c7 := hn.cell (i := 7) rfl
          replace c8 := hn.cell (i := 8) rfl
          replace c9 := hn.cell (i := 9) rfl
          replace c10 := hn.cell (i := 10) rfl
          replace c11 := hn.cell (i := 11) rfl
          replace c12 := hn.cell (i := 12) rfl
          replace c13 := hn.cell (i := 13) rfl
          replace e0 := cell_below hA e0
          replace e1 := cell_below hA e1
          replace e2 := cell_below hA e2
          replace e3 := cell_below hA e3
          replace e4 := cell_below hA e4
          replace e5 := cell_below hA e5
          replace e6 := cell_below hA e6
          replace e7 := cell_below hA e7
          replace e8 := cell_below hA e8
          clear hA hn HBr HBw
          generalize wr.alloc (.cells #[.int .i64 0, .int .i64 X, .int .i64 k0, .int .i64 r0, .int .i64 s0, .int .i64 i0, .int .i64 l0, .int .i64 d0, .int .i64 p0, .int .u32 a0, .string t0, .int .i64 0, .int .i64 0, .int .i64 0] 53) = wa at *
          have hwr : IntKind.i64.wrap ((k : Int) * 852) = X := by rw [hXw, IntKind.wrap_i64]; omega
          clear hXw
          go_quiet (fail)
          go_wp2
          clear c0 c1 c2 c3 c4 c5 c6 c7 c8 c9 c10 c11 c12 c13 e0 e1 e2 e3 e4 e5 e6 e7 e8 hwr
          go_roundw
          case rel => exact ⟨k + 1, by omega, by go_num, below_drewN HBa.out nq⟩
          case measure => simp [intOf]; omega
        · obtain rfl : k = fs.length := by omega
          have hB := HBw.out
          go_wp2_with (go_at_call 19; refine (HA.out _).mono ?_; rintro e w6 ⟨rfl, hb6⟩)
          go_ret
          exact ⟨rfl, HBw.out.trans (hb6.mono HBw.out.size)⟩
    · have hjs : joinS fs = ⟨#[]⟩ := by unfold joinS; rw [if_neg h0]
      rw [hjs] at HJ
      have hne : (joinE fs != 0) = true := by simpa using h0
      clear hjs h0
      generalize joinE fs = E at *
      go_enter Tryz.func6, Tryz.ntmps6
      go_upto_region 4 with (go_at_call 23; refine (HJ.out _ (Below.refl _ _)).mono ?_; rintro e w3 ⟨rfl, hb3⟩)
      have HB3 := Lib.hid hb3
      clear hb3 HJ
      go_wp2_with (go_at_call 19; refine (HA.out _).mono ?_; rintro e w6 ⟨rfl, hb6⟩)
      go_ret
      exact ⟨rfl, HB3.out.trans (hb6.mono HB3.out.size)⟩
end around

end Go.Proofs.YtjennpcadjdnlaaGreatDoor
