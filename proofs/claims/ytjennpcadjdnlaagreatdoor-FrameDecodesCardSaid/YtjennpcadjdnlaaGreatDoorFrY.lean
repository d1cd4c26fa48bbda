/-
  WALKS: stelelaw13.changed, stelelaw13.FrameDecodes.
  WALK: stelelaw13.FrameDecodes.
-/
import Derived.Test.YtjennpcadjdnlaaGreatDoorRdQ
import Derived.Test.YtjennpcadjdnlaaGreatDoorFrT
import Derived.Test.YtjennpcadjdnlaaGreatDoorFrL
namespace Go.Proofs.YtjennpcadjdnlaaGreatDoor
open Go.RowKit

abbrev u16V (x : Nat) : Value := .int .u16 (x : Int)
theorem u16_below {w w' : World} {v : Value} {xs : List Nat} (h : SlAt (PlainR u16V) w v xs) (hb : Below w.heap.size w w') : SlAt (PlainR u16V) w' v xs := SlAt.keep h (fun _ _ => cell_below hb) plainR_keep

set_option maxRecDepth 100000 in
set_option maxHeartbeats 8000000 in
theorem changed_any (w : World) (C : ByteArray) (hC : C.size = 852) (va vt : Value) (xs ys : List Nat) (kp : Nat) (ha : SlAt (PlainR u16V) w va xs) (hx : ∀ x ∈ xs, x < 65536) (ht : BytesAt w vt ys) (hy : Bytes ys) (hkp : kp < 65536) (hxl : xs.length ≤ 1000) :
    Calls Tryz.prog 17 #[.string C, .agg #[va, vt, .int .u16 (kp : Int)]] w fun e w' => (∃ S, e = .returned (.string S) ∧ S.size ≤ 836) ∧ Below w.heap.size w w' := by
  have hCI : (C.size : Int) = 852 := by omega
  have Ha := Lib.hid ha
  have Ht := Lib.hid ht
  have Hy := Lib.hid hy
  have Hx := Lib.hid hx
  obtain ⟨A, ca, rfl, a1, a2, a3⟩ := ha
  obtain ⟨T, ct, rfl, t1, t2, t3⟩ := ht
  clear a3 t3 hx hy
  obtain ⟨D, hD⟩ : ∃ D, C.extract 16 852 = D := ⟨_, rfl⟩
  have hDz : D.size = 836 := by rw [← hD, ByteArray.size_extract, hC]; rfl
  obtain ⟨w0, hw0⟩ : ∃ w0, w.alloc (.cells #[.slice A xs.length ca, .slice T ys.length ct, .int .u16 (kp : Int)] 31) = w0 := ⟨_, rfl⟩
  have hB0 : Below w.heap.size w w0 := by rw [← hw0]; exact (Below.refl _ _).alloc (Nat.le_refl _) _
  have hX0 : Blk w0 w.heap.size 31 [.slice A xs.length ca, .slice T ys.length ct, .int .u16 (kp : Int)] := by rw [← hw0]; exact Blk.new w 31 _
  obtain ⟨cb, w1, hcv, hc1, hc2, hrow, hbb, _⟩ := run_toBytes w0 D (by omega)
  rw [hDz] at hcv hc1
  have hbl : (bs D).length = 836 := by rw [bs_len, hDz]
  have HR0 := Lib.hid (And.intro hrow hbl)
  have HB1 := Lib.hid (And.intro (hB0.trans (hbb.mono hB0.size)) hbb)
  have HX1 := Lib.hid (hX0.kept hbb)
  have hdB0 := hB0.size
  have HlX := Lib.hid hX0.lt
  go_enter Tryz.func17, Tryz.ntmps17
  go_upto_region 2 with fail
  have k0 := HX1.out.cell (i := 0) rfl
  clear hcv hD hrow hbl hbb hw0 hB0 hX0
  go_wp2
  go_loopw [15] (fun x wr => ∃ (n : Nat) (l : List Nat), n ≤ xs.length ∧ x = .int .i64 (n : Int) ∧ RowB wr w0.heap.size l ∧ l.length = 836 ∧ Blk wr w.heap.size 31 [.slice A xs.length ca, .slice T ys.length ct, .int .u16 (kp : Int)] ∧ Below w.heap.size w wr) (fun x _ => xs.length - (intOf x).toNat)
  case atStart => exact ⟨0, _, by omega, rfl, HR0.out.1, HR0.out.2, HX1.out, HB1.out.1⟩
  case round =>
    obtain ⟨n, l, hn, rfl, hr, hl, hX, hB⟩ := hrel
    clear HR0 HB1 HX1 k0
    have Hr := Lib.hid hr
    have HX := Lib.hid hX
    have HB := Lib.hid hB
    have k0 := hX.cell (i := 0) rfl
    have k1 := hX.cell (i := 1) rfl
    have k2 := hX.cell (i := 2) rfl
    have hne : w.heap.size ≠ w0.heap.size := by have := HlX.out; omega
    clear hr hX hB
    by_cases h : n < xs.length
    · have hnI : (n : Int) < xs.length := by omega
      have hxn : xs[n]? = some (cf xs n) := by unfold cf; rw [List.getElem?_eq_getElem h]; rfl
      obtain ⟨ga, oa, rfl, hca⟩ := SlAt.cell (u16_below Ha.out HB.out) hxn
      have hx6 := Hx.out _ (List.mem_of_getElem? hxn)
      have hq : cf xs n % 836 < 836 := Nat.mod_lt _ (by omega)
      obtain ⟨q, hqe⟩ : ∃ q, cf xs n % 836 = q := ⟨_, rfl⟩
      rw [hqe] at hq
      have hm1 : Int.tmod ((cf xs n : Nat) : Int) 836 = (q : Int) := by rw [Int.tmod_eq_emod_of_nonneg (by omega)]; omega
      have hm2 : ((cf xs n : Nat) : Int) % 836 = (q : Int) := by omega
      have hqI : (q : Int) < 836 := by omega
      have hlq : l[q]? = some (cf l q) := by unfold cf; rw [List.getElem?_eq_getElem (by omega)]; rfl
      have hcl := Hr.out.cell q _ hlq
      have hfl := Hr.out.free q (by omega)
      have HRs := Lib.hid (fun z : Nat => Hr.out.set q z)
      have HXs := Lib.hid (fun u : Value => HX.out.far (p := ⟨w0.heap.size, q, none⟩) hne u)
      have HBs := Lib.hid (fun u : Value => HB.out.setCell (p := ⟨w0.heap.size, q, none⟩) hdB0 u)
      clear hxn hqe hlq
      generalize cf xs n = x at *
      generalize cf l q = old at *
      by_cases hyn : n < ys.length
      · have hynI : (n : Int) < ys.length := by omega
        have hyt : ys[n]? = some (cf ys n) := by unfold cf; rw [List.getElem?_eq_getElem hyn]; rfl
        obtain ⟨gt, ot, rfl, hct⟩ := (Ht.out.below HB.out).cell hyt
        have hy8 : cf ys n < 256 := cf_lt Hy.out n
        clear hyt
        generalize cf ys n = y at *
        rcases (by omega : y % 3 = 0 ∨ y % 3 = 1 ∨ y % 3 = 2) with hy3 | hy3 | hy3
        · have hz1 : Int.tmod (y : Int) 3 = 0 := by rw [Int.tmod_eq_emod_of_nonneg (by omega)]; omega
          go_wp2
          go_roundw
          case rel => exact ⟨n + 1, _, by omega, by go_num, HRs.out _, by rw [List.length_set]; exact hl, HXs.out _, HBs.out _⟩
          case measure => simp [intOf]; omega
        · have hz1 : Int.tmod (y : Int) 3 = 1 := by rw [Int.tmod_eq_emod_of_nonneg (by omega)]; omega
          go_wp2
          go_roundw
          case rel => exact ⟨n + 1, _, by omega, by go_num, HRs.out _, by rw [List.length_set]; exact hl, HXs.out _, HBs.out _⟩
          case measure => simp [intOf]; omega
        · have hz1 : Int.tmod (y : Int) 3 = 2 := by rw [Int.tmod_eq_emod_of_nonneg (by omega)]; omega
          go_wp2
          go_roundw
          case rel => exact ⟨n + 1, _, by omega, by go_num, HRs.out _, by rw [List.length_set]; exact hl, HXs.out _, HBs.out _⟩
          case measure => simp [intOf]; omega
      · have hynI : ¬ (n : Int) < ys.length := by omega
        go_wp2
        go_roundw
        case rel => exact ⟨n + 1, _, by omega, by go_num, HRs.out 63, by rw [List.length_set]; exact hl, HXs.out _, HBs.out _⟩
        case measure => simp [intOf]; omega
    · obtain rfl : n = xs.length := by omega
      have hnI : ¬ (xs.length : Int) < xs.length := by omega
      by_cases hk : kp < 836
      · have hkI : (kp : Int) < 836 := by omega
        have hkc : (kp : Int) ≤ cb := by omega
        have hkN : kp ≤ cb := by omega
        have hv := Hr.out.bytes (n := 836) (c := cb) hl.symm hc1 hc2
        have hv2 : BytesAt wr (.slice (some ⟨w0.heap.size, 0, none⟩) kp cb) (l.take kp) := SlAt.take hv (by rw [hl]; omega)
        have hcs := run_toStr hv2 (by rw [List.length_take, hl]; omega)
        have hsz : (strB (l.take kp)).size ≤ 836 := by rw [strB_size, List.length_take]; omega
        clear hv hv2
        generalize strB (l.take kp) = S at *
        go_wp2
        go_ret
        exact ⟨⟨S, rfl, hsz⟩, HB.out⟩
      · have hkI : ¬ (kp : Int) < 836 := by omega
        have hv := Hr.out.bytes (n := 836) (c := cb) hl.symm hc1 hc2
        have hcs := run_toStr hv hl.symm
        have hsz : (strB l).size ≤ 836 := by rw [strB_size, hl]; omega
        clear hv
        generalize strB l = S at *
        go_wp2
        go_ret
        exact ⟨⟨S, rfl, hsz⟩, HB.out⟩

theorem dec_parts (s : ByteArray) : ∃ (k r q i l d p a : Int) (t : ByteArray) (x y z E : Int), decR s = .tuple #[frV k r q i l d p a t, qualV x y z, .int .i64 E] := by
  unfold decR
  split
  · exact ⟨0, 0, 0, 0, 0, 0, 0, 0, ⟨#[]⟩, 0, 0, 0, _, rfl⟩
  · split
    · exact ⟨0, 0, 0, 0, 0, 0, 0, 0, ⟨#[]⟩, 0, 0, 0, _, rfl⟩
    · split
      · exact ⟨0, 0, 0, 0, 0, 0, 0, 0, ⟨#[]⟩, 0, 0, 0, _, rfl⟩
      · next o n h =>
        split
        · next h0 =>
          obtain ⟨k, r, q, i, l, d, p, a, t, hf⟩ := frame_parts (strB (o.take 44))
          rw [if_pos h0] at hf
          rw [hf]
          exact ⟨_, _, _, _, _, _, _, _, _, _, _, _, _, rfl⟩
        · exact ⟨0, 0, 0, 0, 0, 0, 0, 0, ⟨#[]⟩, 0, 0, 0, _, rfl⟩
/-- Two stores, and what lies elsewhere. -/
theorem two_apart {w W : World} {H g2 g3 : Nat} {us vs : List Value} (hZ : Blk W g2 26 us) (hQ : Blk W g3 35 vs) (hne : g2 ≠ g3) (hB : Below H w W) (h2 : H ≤ g2) (h3 : H ≤ g3)
    (fs qs : List Value) (hf : us.length = fs.length) (hq : vs.length = qs.length) :
    ∃ W1 W2, W.setCells g2 0 fs = W1 ∧ W1.setCells g3 0 qs = W2 ∧ W.there g2 0 fs.length ∧ W1.there g3 0 qs.length ∧ Blk W2 g2 26 fs ∧ Blk W2 g3 35 qs ∧ Below H w W2 ∧ ∀ g t xs, g ≠ g2 → g ≠ g3 → Blk W g t xs → Blk W2 g t xs := by
  have k1 := setCells_turned fs W g2 0
  have k2 := setCells_turned qs (W.setCells g2 0 fs) g3 0
  have b1 := setCells_blk fs [] us W hZ hf
  have q1 := hQ.turned k1 (Ne.symm hne)
  exact ⟨_, _, rfl, rfl, by rw [← hf]; exact hZ.there, by rw [← hq]; exact q1.there, b1.turned k2 hne, setCells_blk qs [] vs _ q1 hq, k2.below (k1.below hB h2) h3, fun g t xs n1 n2 h => (h.turned k1 n1).turned k2 n2⟩

end Go.Proofs.YtjennpcadjdnlaaGreatDoor

namespace Go.Proofs.YtjennpcadjdnlaaGreatDoor
open Go.RowKit
theorem pair_new (W : World) (fs qs : List Value) : Blk ((W.alloc (.cells fs.toArray 26)).alloc (.cells qs.toArray 35)) W.heap.size 26 fs ∧ Blk ((W.alloc (.cells fs.toArray 26)).alloc (.cells qs.toArray 35)) (W.heap.size + 1) 35 qs ∧ Below W.heap.size W ((W.alloc (.cells fs.toArray 26)).alloc (.cells qs.toArray 35)) := by
  refine ⟨(Blk.new W 26 fs).kept ((Below.refl _ _).alloc (Nat.le_refl _) _), ?_, ((Below.refl _ _).alloc (Nat.le_refl _) _).alloc (by simp) _⟩
  have h := Blk.new (W.alloc (.cells fs.toArray 26)) 35 qs
  rw [show (W.alloc (.cells fs.toArray 26)).heap.size = W.heap.size + 1 by simp] at h
  exact h
namespace decodes

set_option maxRecDepth 100000 in
set_option maxHeartbeats 16000000 in
theorem walk (w : World) (k r s i l d p a : Int) (t : ByteArray) (va vt : Value) (xs ys : List Nat) (kp : Nat) (hva : SlAt (PlainR u16V) w va xs) (hx : ∀ x ∈ xs, x < 65536) (hvt : BytesAt w vt ys) (hy : Bytes ys) (hkp : kp < 65536) (b : ByteArray) (ha : 0 ≤ a ∧ a < 4294967296) :
    Calls Tryz.prog 3 #[frV k r s i l d p a t, .agg #[va, vt, .int .u16 (kp : Int)], .string b] w fun e w' => e = .returned (.bool true) ∧ Below w.heap.size w w' := by
  have HAl := Lib.hid (fun W => alive_any W)
  have HTl := Lib.hid (fun W => tooLong_any W k r s i l d p a t)
  have HCh := Lib.hid (fun C (hC : C.size = 852) (hl : xs.length ≤ 1000) W (hb : Below w.heap.size w W) => changed_any W C hC va vt xs ys kp (u16_below hva hb) hx (hvt.below hb) hy hkp hl)
  obtain ⟨A, ca, rfl, a1, a2, a3⟩ := hva
  obtain ⟨T, ct, rfl, t1, t2, t3⟩ := hvt
  clear a3 t3 hx hy hkp
  have hm : ∃ wz, (w.alloc (.cells #[.int .i64 k, .int .i64 r, .int .i64 s, .int .i64 i, .int .i64 l, .int .i64 d, .int .i64 p, .int .u32 a, .string t] 26)).alloc (.cells #[.slice A xs.length ca, .slice T ys.length ct, .int .u16 (kp : Int)] 31) = wz ∧ Blk wz w.heap.size 26 [.int .i64 k, .int .i64 r, .int .i64 s, .int .i64 i, .int .i64 l, .int .i64 d, .int .i64 p, .int .u32 a, .string t] ∧ Blk wz (w.heap.size + 1) 31 [.slice A xs.length ca, .slice T ys.length ct, .int .u16 (kp : Int)] ∧ Below w.heap.size w wz := by
    refine ⟨_, rfl, ?_, ?_, ((Below.refl _ _).alloc (Nat.le_refl _) _).alloc (by simp) _⟩
    · exact (Blk.new w 26 _).kept ((Below.refl _ _).alloc (Nat.le_refl _) _)
    · have h := Blk.new (w.alloc (.cells #[.int .i64 k, .int .i64 r, .int .i64 s, .int .i64 i, .int .i64 l, .int .i64 d, .int .i64 p, .int .u32 a, .string t] 26)) 31 [.slice A xs.length ca, .slice T ys.length ct, .int .u16 (kp : Int)]
      rw [show (w.alloc (.cells #[.int .i64 k, .int .i64 r, .int .i64 s, .int .i64 i, .int .i64 l, .int .i64 d, .int .i64 p, .int .u32 a, .string t] 26)).heap.size = w.heap.size + 1 by simp] at h
      exact h
  obtain ⟨wz, hwz, hz, hq, hb⟩ := hm
  have HZ := Lib.hid hz
  have HX := Lib.hid hq
  have HB := Lib.hid hb
  have HWZ := Lib.hid hwz
  have HE := Lib.hid (fun (h : t.size ≤ 1000) W => renc_any W k r s i l d p a t h ha)
  have HFe := Lib.hid (fun (h : frE k r s i l d p t = 0) => fenc_ok (a := a) h)
  have HFn : Hid (frE k r s i l d p t ≠ 0 → fencR k r s i l d p a t = .tuple #[.string ⟨#[]⟩, .int .i64 (frE k r s i l d p t)]) := Lib.hid (fun h => by unfold fencR; rw [if_pos h])
  obtain ⟨F, hF⟩ : ∃ F, frE k r s i l d p t = F := ⟨_, rfl⟩
  rw [hF] at HFe HFn
  obtain ⟨RE, hRE⟩ : ∃ RE, fencR k r s i l d p a t = RE := ⟨_, rfl⟩
  rw [hRE] at HE HFn
  have HFe2 : Hid (F = 0 → ∃ C : ByteArray, C.size = 852 ∧ RE = .tuple #[.string C, .int .i64 0]) := Lib.hid (fun h => by
    obtain ⟨C, h1, h2⟩ := HFe.out h
    exact ⟨C, h1, by rw [← hRE]; exact h2⟩)
  clear hz hq hb hwz hF hRE HFe ha
  unfold frV at HTl HE ⊢
  obtain ⟨big, hbig⟩ : ∃ x, decide (200 < t.size) = x := ⟨_, rfl⟩
  rw [hbig] at HTl
  go_enter Tryz.func3, Tryz.ntmps3
  go_upto_region 1 with fail
  rw [HWZ.out]
  clear HWZ
  go_upto_region 3 with (go_at_call 12; refine (HAl.out _).mono ?_; rintro e w1 ⟨rfl, hb1⟩)
  have HZ1 := Lib.hid (HZ.out.kept hb1)
  have HX1 := Lib.hid (HX.out.kept hb1)
  have HB1 := Lib.hid (HB.out.trans (hb1.mono HB.out.size))
  clear hb1 HZ HX HB HAl
  obtain ⟨c0, c1, c2, c3, c4, c5, c6, c7, c8⟩ := Box9.blk HZ1.out
  cases big with
  | true =>
    clear hbig
    go_wp2_with (go_at_call 13; refine (HTl.out _).mono ?_; rintro e w2 ⟨rfl, hb2⟩)
    go_ret
    exact ⟨rfl, HB1.out.trans (hb2.mono HB1.out.size)⟩
  | false =>
    have ht : t.size ≤ 200 := by have := of_decide_eq_false hbig; omega
    have HE := Lib.hid (HE.out (by omega))
    clear hbig ht
    by_cases h300 : 300 < xs.length
    · have h3I : decide ((300 : Int) < xs.length) = true := by simp; omega
      go_wp2_with (go_at_call 13; refine (HTl.out _).mono ?_; rintro e w2 ⟨rfl, hb2⟩; have x0 := (HX1.out.kept hb2).cell (i := 0) rfl)
      go_ret
      exact ⟨rfl, HB1.out.trans (hb2.mono HB1.out.size)⟩
    · have h3I : decide ((300 : Int) < xs.length) = false := by simp; omega
      by_cases h900 : 900 < b.size
      · have h9I : decide ((900 : Int) < b.size) = true := by simp; omega
        go_wp2_with (go_at_call 13; refine (HTl.out _).mono ?_; rintro e w2 ⟨rfl, hb2⟩; have x0 := (HX1.out.kept hb2).cell (i := 0) rfl)
        go_ret
        exact ⟨rfl, HB1.out.trans (hb2.mono HB1.out.size)⟩
      · have h9I : decide ((900 : Int) < b.size) = false := by simp; omega
        obtain ⟨k1, r1, q1, i1, l1, d1, p1, a1', t1', x1, y1, z1, E1, hd1⟩ := dec_parts b
        have HD := Lib.hid (fun W => fdec_any W b (by omega))
        have HR := Lib.hid (fun W => rdec_any W b (by omega))
        rw [hd1] at HD HR
        unfold frV qualV at HD HR
        clear hd1
        go_upto_region 5 with (go_at_call 13; refine (HTl.out _).mono ?_; rintro e w2 ⟨rfl, hb2⟩; have x0 := (HX1.out.kept hb2).cell (i := 0) rfl)
        have HZ2 := Lib.hid (HZ1.out.kept hb2)
        have HX2 := Lib.hid (HX1.out.kept hb2)
        have HB2 := Lib.hid (HB1.out.trans (hb2.mono HB1.out.size))
        clear hb2 x0 c0 c1 c2 c3 c4 c5 c6 c7 c8 HZ1 HX1 HB1 HTl
        go_upto_region 6 with (go_at_call 14; refine (HD.out _).mono ?_; rintro e w3 ⟨rfl, hb3⟩)
        obtain ⟨h7, h8, hA⟩ := pair_new w3 [.int .i64 k1, .int .i64 r1, .int .i64 q1, .int .i64 i1, .int .i64 l1, .int .i64 d1, .int .i64 p1, .int .u32 a1', .string t1'] [.int .i64 x1, .int .i64 y1, .int .i64 z1]
        have eA := hb3.trans (hA.mono hb3.size)
        have HZ3 := Lib.hid (HZ2.out.kept eA)
        have HX3 := Lib.hid (HX2.out.kept eA)
        have HB3 := Lib.hid (HB2.out.trans (eA.mono HB2.out.size))
        have H7 := Lib.hid h7
        have H8 := Lib.hid h8
        have hg7 : w.heap.size + 2 ≤ w3.heap.size := by have := HX2.out.lt; have := hb3.size; omega
        clear hb3 hA eA h7 h8 HZ2 HX2 HB2 HD
        change Hid (Blk ((w3.alloc (.cells #[.int .i64 k1, .int .i64 r1, .int .i64 q1, .int .i64 i1, .int .i64 l1, .int .i64 d1, .int .i64 p1, .int .u32 a1', .string t1'] 26)).alloc (.cells #[.int .i64 x1, .int .i64 y1, .int .i64 z1] 35)) _ _ _) at H7
        change Hid (Blk ((w3.alloc (.cells #[.int .i64 k1, .int .i64 r1, .int .i64 q1, .int .i64 i1, .int .i64 l1, .int .i64 d1, .int .i64 p1, .int .u32 a1', .string t1'] 26)).alloc (.cells #[.int .i64 x1, .int .i64 y1, .int .i64 z1] 35)) _ _ _) at H8
        change Hid (Blk ((w3.alloc (.cells #[.int .i64 k1, .int .i64 r1, .int .i64 q1, .int .i64 i1, .int .i64 l1, .int .i64 d1, .int .i64 p1, .int .u32 a1', .string t1'] 26)).alloc (.cells #[.int .i64 x1, .int .i64 y1, .int .i64 z1] 35)) _ _ _) at HZ3
        change Hid (Blk ((w3.alloc (.cells #[.int .i64 k1, .int .i64 r1, .int .i64 q1, .int .i64 i1, .int .i64 l1, .int .i64 d1, .int .i64 p1, .int .u32 a1', .string t1'] 26)).alloc (.cells #[.int .i64 x1, .int .i64 y1, .int .i64 z1] 35)) _ _ _) at HX3
        change Hid (Below _ _ ((w3.alloc (.cells #[.int .i64 k1, .int .i64 r1, .int .i64 q1, .int .i64 i1, .int .i64 l1, .int .i64 d1, .int .i64 p1, .int .u32 a1', .string t1'] 26)).alloc (.cells #[.int .i64 x1, .int .i64 y1, .int .i64 z1] 35))) at HB3
        generalize (w3.alloc (.cells #[.int .i64 k1, .int .i64 r1, .int .i64 q1, .int .i64 i1, .int .i64 l1, .int .i64 d1, .int .i64 p1, .int .u32 a1', .string t1'] 26)).alloc (.cells #[.int .i64 x1, .int .i64 y1, .int .i64 z1] 35) = w4 at *
        generalize w3.heap.size = g7 at *
        go_upto_region 7 with (go_at_call 15; refine (HR.out _).mono ?_; rintro e w5 ⟨rfl, hb5⟩)
        obtain ⟨h10, h11, hA⟩ := pair_new w5 [.int .i64 k1, .int .i64 r1, .int .i64 q1, .int .i64 i1, .int .i64 l1, .int .i64 d1, .int .i64 p1, .int .u32 a1', .string t1'] [.int .i64 x1, .int .i64 y1, .int .i64 z1]
        have eA := hb5.trans (hA.mono hb5.size)
        have HZ6 := Lib.hid (HZ3.out.kept eA)
        have HX6 := Lib.hid (HX3.out.kept eA)
        have H7b := Lib.hid (H7.out.kept eA)
        have H8b := Lib.hid (H8.out.kept eA)
        have HB6 := Lib.hid (HB3.out.trans (eA.mono HB3.out.size))
        have H10 := Lib.hid h10
        have H11 := Lib.hid h11
        have hg10 : g7 + 2 ≤ w5.heap.size := by have := H8.out.lt; have := hb5.size; omega
        clear hb5 hA eA h10 h11 HZ3 HX3 HB3 HR H7 H8
        change Hid (Blk ((w5.alloc (.cells #[.int .i64 k1, .int .i64 r1, .int .i64 q1, .int .i64 i1, .int .i64 l1, .int .i64 d1, .int .i64 p1, .int .u32 a1', .string t1'] 26)).alloc (.cells #[.int .i64 x1, .int .i64 y1, .int .i64 z1] 35)) _ _ _) at H7b
        change Hid (Blk ((w5.alloc (.cells #[.int .i64 k1, .int .i64 r1, .int .i64 q1, .int .i64 i1, .int .i64 l1, .int .i64 d1, .int .i64 p1, .int .u32 a1', .string t1'] 26)).alloc (.cells #[.int .i64 x1, .int .i64 y1, .int .i64 z1] 35)) _ _ _) at H8b
        change Hid (Blk ((w5.alloc (.cells #[.int .i64 k1, .int .i64 r1, .int .i64 q1, .int .i64 i1, .int .i64 l1, .int .i64 d1, .int .i64 p1, .int .u32 a1', .string t1'] 26)).alloc (.cells #[.int .i64 x1, .int .i64 y1, .int .i64 z1] 35)) _ _ _) at H10
        change Hid (Blk ((w5.alloc (.cells #[.int .i64 k1, .int .i64 r1, .int .i64 q1, .int .i64 i1, .int .i64 l1, .int .i64 d1, .int .i64 p1, .int .u32 a1', .string t1'] 26)).alloc (.cells #[.int .i64 x1, .int .i64 y1, .int .i64 z1] 35)) _ _ _) at H11
        change Hid (Blk ((w5.alloc (.cells #[.int .i64 k1, .int .i64 r1, .int .i64 q1, .int .i64 i1, .int .i64 l1, .int .i64 d1, .int .i64 p1, .int .u32 a1', .string t1'] 26)).alloc (.cells #[.int .i64 x1, .int .i64 y1, .int .i64 z1] 35)) _ _ _) at HZ6
        change Hid (Blk ((w5.alloc (.cells #[.int .i64 k1, .int .i64 r1, .int .i64 q1, .int .i64 i1, .int .i64 l1, .int .i64 d1, .int .i64 p1, .int .u32 a1', .string t1'] 26)).alloc (.cells #[.int .i64 x1, .int .i64 y1, .int .i64 z1] 35)) _ _ _) at HX6
        change Hid (Below _ _ ((w5.alloc (.cells #[.int .i64 k1, .int .i64 r1, .int .i64 q1, .int .i64 i1, .int .i64 l1, .int .i64 d1, .int .i64 p1, .int .u32 a1', .string t1'] 26)).alloc (.cells #[.int .i64 x1, .int .i64 y1, .int .i64 z1] 35))) at HB6
        generalize (w5.alloc (.cells #[.int .i64 k1, .int .i64 r1, .int .i64 q1, .int .i64 i1, .int .i64 l1, .int .i64 d1, .int .i64 p1, .int .u32 a1', .string t1'] 26)).alloc (.cells #[.int .i64 x1, .int .i64 y1, .int .i64 z1] 35) = w6 at *
        generalize w5.heap.size = g10 at *
        have u0 := (H7b.out).cell (i := 0) rfl; have u1 := (H7b.out).cell (i := 1) rfl; have u2 := (H7b.out).cell (i := 2) rfl; have u3 := (H7b.out).cell (i := 3) rfl; have u4 := (H7b.out).cell (i := 4) rfl; have u5 := (H7b.out).cell (i := 5) rfl; have u6 := (H7b.out).cell (i := 6) rfl; have u7 := (H7b.out).cell (i := 7) rfl; have u8 := (H7b.out).cell (i := 8) rfl
        have v0 := (H10.out).cell (i := 0) rfl; have v1 := (H10.out).cell (i := 1) rfl; have v2 := (H10.out).cell (i := 2) rfl; have v3 := (H10.out).cell (i := 3) rfl; have v4 := (H10.out).cell (i := 4) rfl; have v5 := (H10.out).cell (i := 5) rfl; have v6 := (H10.out).cell (i := 6) rfl; have v7 := (H10.out).cell (i := 7) rfl; have v8 := (H10.out).cell (i := 8) rfl
        have m0 := (H8b.out).cell (i := 0) rfl; have m1 := (H8b.out).cell (i := 1) rfl; have m2 := (H8b.out).cell (i := 2) rfl
        have n0 := (H11.out).cell (i := 0) rfl; have n1 := (H11.out).cell (i := 1) rfl; have n2 := (H11.out).cell (i := 2) rfl
        go_upto_region 9 with fail
        clear u0 v0 u1 v1 u2 v2 u3 v3 u4 v4 u5 v5 u6 v6 u7 v7 u8 v8 m0 n0 m1 n1 m2 n2
        have c0 := (HZ6.out).cell (i := 0) rfl; have c1 := (HZ6.out).cell (i := 1) rfl; have c2 := (HZ6.out).cell (i := 2) rfl; have c3 := (HZ6.out).cell (i := 3) rfl; have c4 := (HZ6.out).cell (i := 4) rfl; have c5 := (HZ6.out).cell (i := 5) rfl; have c6 := (HZ6.out).cell (i := 6) rfl; have c7 := (HZ6.out).cell (i := 7) rfl; have c8 := (HZ6.out).cell (i := 8) rfl
        by_cases h0 : F = 0
        · obtain ⟨C, hC, hREC⟩ := HFe2.out h0
          rw [hREC] at HE
          have HCh2 := Lib.hid (fun W hb => HCh.out C hC (by omega) W hb)
          clear h0 hREC HFe2 HFn HCh hC
          go_upto_region 12 with (go_at_call 16; refine (HE.out _).mono ?_; rintro e w7 ⟨rfl, hb7⟩)
          have HZ7 := Lib.hid (HZ6.out.kept hb7)
          have HX7 := Lib.hid (HX6.out.kept hb7)
          have H7c := Lib.hid (H7b.out.kept hb7)
          have H8c := Lib.hid (H8b.out.kept hb7)
          have H10c := Lib.hid (H10.out.kept hb7)
          have H11c := Lib.hid (H11.out.kept hb7)
          have HB7 := Lib.hid (HB6.out.trans (hb7.mono HB6.out.size))
          clear c0 c1 c2 c3 c4 c5 c6 c7 c8 hb7 HZ6 HX6 H7b H8b H10 H11 HB6 HE
          have c0 := (HX7.out).cell (i := 0) rfl; have c1 := (HX7.out).cell (i := 1) rfl; have c2 := (HX7.out).cell (i := 2) rfl
          go_upto_region 13 with (go_at_call 17; refine (HCh2.out _ HB7.out).mono ?_; rintro e w8 ⟨⟨S, rfl, hS⟩, hb8⟩)
          have HB8 := Lib.hid (HB7.out.trans (hb8.mono HB7.out.size))
          have H7d := Lib.hid (H7c.out.kept hb8)
          have H8d := Lib.hid (H8c.out.kept hb8)
          have H10d := Lib.hid (H10c.out.kept hb8)
          have H11d := Lib.hid (H11c.out.kept hb8)
          clear c0 c1 c2 hb8 HZ7 HX7 H7c H8c H10c H11c HB7 HCh2
          obtain ⟨k2, r2, q2, i2, l2, d2, p2, a2', t2', x2, y2, z2, E2, hd2⟩ := dec_parts S
          have HD := Lib.hid (fun W => fdec_any W S (by omega))
          have HR := Lib.hid (fun W => rdec_any W S (by omega))
          rw [hd2] at HD HR
          unfold frV qualV at HD HR
          have HO9 : Hid ((#[.int .i64 k2, .int .i64 r2, .int .i64 q2, .int .i64 i2, .int .i64 l2, .int .i64 d2, .int .i64 p2, .int .u32 a2', .string t2'] : Array Value).all (·.oneCell') = true) := Lib.hid (by simp [Value.oneCell'])
          have HO3 : Hid ((#[.int .i64 x2, .int .i64 y2, .int .i64 z2] : Array Value).all (·.oneCell') = true) := Lib.hid (by simp [Value.oneCell'])
          clear hd2
          go_upto_region 14 with (first
            | (go_at_call 14; refine (HD.out _).mono ?_; rintro e w9 ⟨rfl, hb9⟩; obtain ⟨W1, W2, hE1, hE2, hT1, hT2, hF, hQ, hG, hO⟩ := two_apart (H7d.out.kept hb9) (H8d.out.kept hb9) (by omega) (HB8.out.trans (hb9.mono HB8.out.size)) (by omega) (by omega) [.int .i64 k2, .int .i64 r2, .int .i64 q2, .int .i64 i2, .int .i64 l2, .int .i64 d2, .int .i64 p2, .int .u32 a2', .string t2'] [.int .i64 x2, .int .i64 y2, .int .i64 z2] rfl rfl; have HE1 := Lib.hid hE1; have HE2 := Lib.hid hE2; have HT1 := Lib.hid hT1; have HT2 := Lib.hid hT2; have H7e := Lib.hid hF; have H8e := Lib.hid hQ; have HB9 := Lib.hid hG; have H10e := Lib.hid (hO _ _ _ (by omega) (by omega) (H10d.out.kept hb9)); have H11e := Lib.hid (hO _ _ _ (by omega) (by omega) (H11d.out.kept hb9)); clear hE1 hE2 hT1 hT2 hF hQ hG hO hb9 H7d H8d H10d H11d HB8 HD)
            | (refine frm_store rfl (.tmp 7) (.tmp 69) rfl _ _ rfl rfl HT1.out rfl HO9.out W1 HE1.out ?_)
            | (refine qual_store rfl (.tmp 8) (.tmp 70) rfl _ _ rfl rfl HT2.out rfl HO3.out W2 HE2.out ?_))
          clear HE1 HE2 HT1 HT2
          go_upto_region 15 with (first
            | (go_at_call 15; refine (HR.out _).mono ?_; rintro e w10 ⟨rfl, hb10⟩; obtain ⟨X1, X2, hE1, hE2, hT1, hT2, hF, hQ, hG, hO⟩ := two_apart (H10e.out.kept hb10) (H11e.out.kept hb10) (by omega) (HB9.out.trans (hb10.mono HB9.out.size)) (by omega) (by omega) [.int .i64 k2, .int .i64 r2, .int .i64 q2, .int .i64 i2, .int .i64 l2, .int .i64 d2, .int .i64 p2, .int .u32 a2', .string t2'] [.int .i64 x2, .int .i64 y2, .int .i64 z2] rfl rfl; have HE1 := Lib.hid hE1; have HE2 := Lib.hid hE2; have HT1 := Lib.hid hT1; have HT2 := Lib.hid hT2; have H10f := Lib.hid hF; have H11f := Lib.hid hQ; have HB10 := Lib.hid hG; have H7f := Lib.hid (hO _ _ _ (by omega) (by omega) (H7e.out.kept hb10)); have H8f := Lib.hid (hO _ _ _ (by omega) (by omega) (H8e.out.kept hb10)); clear hE1 hE2 hT1 hT2 hF hQ hG hO hb10 H7e H8e H10e H11e HB9 HR)
            | (refine frm_store rfl (.tmp 10) (.tmp 75) rfl _ _ rfl rfl HT1.out rfl HO9.out X1 HE1.out ?_)
            | (refine qual_store rfl (.tmp 11) (.tmp 76) rfl _ _ rfl rfl HT2.out rfl HO3.out X2 HE2.out ?_))
          clear HE1 HE2 HT1 HT2
          have u0 := (H7f.out).cell (i := 0) rfl; have u1 := (H7f.out).cell (i := 1) rfl; have u2 := (H7f.out).cell (i := 2) rfl; have u3 := (H7f.out).cell (i := 3) rfl; have u4 := (H7f.out).cell (i := 4) rfl; have u5 := (H7f.out).cell (i := 5) rfl; have u6 := (H7f.out).cell (i := 6) rfl; have u7 := (H7f.out).cell (i := 7) rfl; have u8 := (H7f.out).cell (i := 8) rfl
          have v0 := (H10f.out).cell (i := 0) rfl; have v1 := (H10f.out).cell (i := 1) rfl; have v2 := (H10f.out).cell (i := 2) rfl; have v3 := (H10f.out).cell (i := 3) rfl; have v4 := (H10f.out).cell (i := 4) rfl; have v5 := (H10f.out).cell (i := 5) rfl; have v6 := (H10f.out).cell (i := 6) rfl; have v7 := (H10f.out).cell (i := 7) rfl; have v8 := (H10f.out).cell (i := 8) rfl
          have m0 := (H8f.out).cell (i := 0) rfl; have m1 := (H8f.out).cell (i := 1) rfl; have m2 := (H8f.out).cell (i := 2) rfl
          have n0 := (H11f.out).cell (i := 0) rfl; have n1 := (H11f.out).cell (i := 1) rfl; have n2 := (H11f.out).cell (i := 2) rfl
          go_wp2_with fail
          go_ret
          exact ⟨rfl, HB10.out⟩
        · have h1 : (F != 0) = true := by simpa using h0
          have hREC := HFn.out h0
          rw [hREC] at HE
          clear h0 hREC HFe2 HFn HCh
          go_wp2_with (go_at_call 16; refine (HE.out _).mono ?_; rintro e w7 ⟨rfl, hb7⟩)
          go_ret
          exact ⟨rfl, HB6.out.trans (hb7.mono HB6.out.size)⟩
end decodes

end Go.Proofs.YtjennpcadjdnlaaGreatDoor
