/-
  WALKS: reedsolomon: Syndromes at eight parity symbols.
  WALKS: reedsolomon.IsCodeword; rsdecode: at, shifted, scaled, Locate, Radius.
  WALKS: rsdecode.Locate; slices.Clone, Sort, Compact, BinarySearch at the nil slice of ints.
-/
import Derived.Test.YtjennpcadjdnlaaGreatDoorPolW
import Derived.Test.YtjennpcadjdnlaaGreatDoorPolA
namespace Go.Proofs.YtjennpcadjdnlaaGreatDoor
open Go.RowKit

theorem make_u8_8 (w : World) : (Instr.makeSlice 28 (.int .i64 8) (.int .i64 8)).run Tryz.prog w = .ok (.slice (some ⟨w.heap.size, 0, none⟩) 8 8) (w.alloc (.cells (arrB (List.replicate 8 0)) 5)) := make_u8 8 8 (Nat.le_refl _) (by omega) w
/-- The syndromes' cells, i of them done, the next one being s. -/
def synL (w : List Nat) (i s : Nat) : List Nat := (List.range 8).map fun j => if j < i then wv (pw j) w else if j = i then s else 0
theorem synL_len (w : List Nat) (i s : Nat) : (synL w i s).length = 8 := by unfold synL; simp
theorem synL_get {w : List Nat} {i s : Nat} (h : i < 8) : (synL w i s)[i]? = some s := by
  unfold synL
  rw [List.getElem?_map, List.getElem?_range h]
  simp
theorem synL_set {w : List Nat} {i s t : Nat} (h : i < 8) : (synL w i s).set i t = synL w i t := by
  refine List.ext_getElem? fun j => ?_
  rw [List.getElem?_set, synL_len]
  unfold synL
  rw [List.getElem?_map, List.getElem?_map]
  by_cases hj : j < 8
  · rw [List.getElem?_range hj]
    by_cases hij : i = j
    · subst hij
      simp [h]
    · simp [hij, Ne.symm hij]
  · rw [List.getElem?_eq_none (by simpa using hj), if_neg (by omega)]
    rfl
theorem synL_next (w : List Nat) (i : Nat) : synL w i (wv (pw i) w) = synL w (i + 1) 0 := by
  unfold synL
  refine List.map_congr_left fun j _ => ?_
  by_cases h1 : j < i
  · rw [if_pos h1, if_pos (by omega)]
  · rw [if_neg h1]
    by_cases h2 : j = i
    · subst h2
      rw [if_pos rfl, if_pos (by omega)]
    · rw [if_neg h2, if_neg (by omega)]
      split <;> rfl
theorem synL_zero (w : List Nat) : synL w 0 0 = List.replicate 8 0 := by
  refine List.ext_getElem? fun j => ?_
  unfold synL
  rw [List.getElem?_map, List.getElem?_replicate]
  by_cases hj : j < 8
  · rw [List.getElem?_range hj, if_pos hj]
    have : ¬ j < 0 := by omega
    simp
  · rw [if_neg hj, List.getElem?_eq_none (by simpa using hj)]
    rfl
theorem synL_end (w : List Nat) : synL w 8 0 = synd w := by
  unfold synL synd
  refine List.map_congr_left fun j h => ?_
  rw [if_pos (List.mem_range.1 h)]
theorem gexp_nat {i : Nat} (h : i < 255) : gexp (i : Int) = pw i := by
  unfold gexp gexpN
  congr 1
  omega

set_option maxRecDepth 100000 in
set_option maxHeartbeats 2000000 in
theorem rssyn_any (w : World) (s : ByteArray) (h1 : 8 ≤ s.size) (h2 : s.size ≤ 255) : Calls Tryz.prog 86 #[.string s, .int .i64 8] w fun e w' => ∃ v, e = .returned (.tuple #[v, .int .i64 0]) ∧ BytesAt w' v (synd (bs s)) ∧ Below w.heap.size w w' := by
  have hmk := make_u8_8
  have h1I : ¬ (s.size : Int) < 8 := by omega
  have h2I : ¬ (255 : Int) < s.size := by omega
  have HB0 := Lib.hid ((Below.refl w.heap.size w).alloc (Nat.le_refl _) (.cells (arrB [0, 0, 0, 0, 0, 0, 0, 0]) 5))
  have hK0 : U8B (w.alloc (.cells (arrB [0, 0, 0, 0, 0, 0, 0, 0]) 5)) w.heap.size (synL (bs s) 0 0) := by
    rw [synL_zero]
    exact U8B.new w _
  have HK0 := Lib.hid hK0
  clear hK0
  go_enter Tryz.func86, Tryz.ntmps86
  go_wp2
  go_loopw [30] (fun x wr => ∃ i : Nat, i ≤ 8 ∧ x = .int .i64 i ∧ U8B wr w.heap.size (synL (bs s) i 0) ∧ Below w.heap.size w wr) (fun x _ => 8 - (intOf x).toNat)
  case atStart => exact ⟨0, by omega, rfl, HK0.out, HB0.out⟩
  case round =>
    obtain ⟨i, hi, rfl, hb, hB⟩ := hrel
    have Hb := Lib.hid hb
    have HBr := Lib.hid hB
    clear hb hB
    by_cases h : i < 8
    · have hiI : (i : Int) < 8 := by omega
      have He := Lib.hid (fun W => gexp_any W (i : Int) (by omega))
      have Hg := Lib.hid (gexp_nat (i := i) (by omega))
      go_wp2_with (go_at_call 91; refine (He.out _).mono ?_; rintro e w1 ⟨rfl, hb1⟩)
      have hlt := Blk.lt Hb.out
      have Hb1 := Lib.hid (Blk.kept Hb.out hb1)
      have HBr1 := Lib.hid (HBr.out.trans (hb1.mono HBr.out.size))
      clear hb1
      rw [Hg.out]
      obtain ⟨wo, hwo⟩ : ∃ wo : World, wo = w1 := ⟨_, rfl⟩
      have Hwo := Lib.hid hwo
      clear hwo
      go_loopw [37] (fun x wr => ∃ k : Nat, k ≤ s.size ∧ x = .int .i64 k ∧ U8B wr w.heap.size (synL (bs s) i (wv (pw i) ((bs s).take k))) ∧ Below w.heap.size w wr) (fun x _ => s.size - (intOf x).toNat)
      case atStart => exact ⟨0, by omega, rfl, Hb1.out, HBr1.out⟩
      case round =>
        obtain ⟨k, hk, rfl, hb, hB⟩ := hrel
        clear Hb HBr Hwo Hb1 HBr1
        have Hb := Lib.hid hb
        have HBr := Lib.hid hB
        clear hb hB
        by_cases h' : k < s.size
        · have hkI : (k : Int) < s.size := by omega
          have hbt : Bytes ((bs s).take k) := fun b hb => bs_lt s b (List.mem_of_mem_take hb)
          obtain ⟨b, hb⟩ : ∃ b : Nat, b = (s[k]'h').toNat := ⟨_, rfl⟩
          have hbl : b < 256 := by rw [hb]; exact UInt8.toNat_lt _
          have htk := bs_take s k h'
          rw [← hb] at htk
          have hst : wv (pw i) ((bs s).take (k + 1)) = gmul (wv (pw i) ((bs s).take k)) (pw i) ^^^ b := by rw [htk, wv_snoc]
          have Hst := Lib.hid hst
          have hx := wv_lt (x := pw i) hbt
          have hc1 := Hb.out.cell (synL_get (w := bs s) h)
          have hf1 := Blk.frozen Hb.out i
          have Hmul := Lib.hid (fun W => gmul_any W _ (pw i) hx (pw_lt i))
          have Hadd := Lib.hid (fun W => gadd_any W _ b (gmul_lt (pw i) hx) hbl)
          have Hset := Lib.hid (synL_set (w := bs s) (s := wv (pw i) ((bs s).take k)) (t := gmul (wv (pw i) ((bs s).take k)) (pw i) ^^^ b) h ▸ U8B.set Hb.out i _)
          have hbI : (((s[k]'h').toNat : Nat) : Int) = (b : Int) := by rw [hb]
          clear hst htk hbt hb
          generalize wv (pw i) ((bs s).take k) = z at *
          generalize pw i = y at *
          go_wp2
          go_still_tail 13, (by kernel_rfl)
          still_call (still_of (Hmul.out _))
          repeat still_step
          still_call (still_of (Hadd.out _))
          repeat still_step
          refine wpStill_nil ?_
          go_wp2
          go_roundw
          case rel => exact ⟨k + 1, by omega, by go_num, by rw [Hst.out]; exact Hset.out, (HBr.out.setCell (p := ⟨w.heap.size, i, none⟩) (Nat.le_refl _) _).drew⟩
          case measure => simp [intOf]; omega
        · have hkn : k = s.size := by omega
          subst hkn
          have e : (bs s).take s.size = bs s := by rw [← bs_len, List.take_length]
          have Hb2 := Lib.hid (synL_next (bs s) i ▸ e ▸ Hb.out)
          clear Hb e
          go_wp2
          go_roundw
          case rel => exact ⟨i + 1, by omega, by go_num, Hb2.out, HBr.out⟩
          case measure => simp [intOf]; omega
    · have hin : i = 8 := by omega
      subst hin
      have hv : BytesAt wr (.slice (some ⟨w.heap.size, 0, none⟩) 8 8) (synd (bs s)) := by
        rw [← synL_end]
        exact U8B.bytes Hb.out (by rw [synL_len]) (Nat.le_refl _) (by omega)
      have Hv := Lib.hid hv
      clear hv
      go_wp2
      go_ret2
      exact ⟨_, rfl, Hv.out, HBr.out⟩

end Go.Proofs.YtjennpcadjdnlaaGreatDoor

namespace Go.Proofs.YtjennpcadjdnlaaGreatDoor
open Go.RowKit

theorem synd_bytes {w : List Nat} (h : Bytes w) : Bytes (synd w) := bytes_map fun _ _ => wv_lt h
theorem all_zero {l : List Nat} (h : l.length = 8) : l = List.replicate 8 0 ↔ ∀ j, j < 8 → cf l j = 0 := by
  constructor
  · rintro rfl j hj
    unfold cf
    rw [List.getElem?_replicate, if_pos hj]
    rfl
  · intro hz
    refine List.ext_getElem? fun i => ?_
    rw [List.getElem?_replicate]
    by_cases hi : i < 8
    · rw [if_pos hi]
      have := hz i hi
      unfold cf at this
      rw [List.getElem?_eq_getElem (by omega)] at this ⊢
      simpa using this
    · rw [if_neg hi, List.getElem?_eq_none (by omega)]
def zero8 (l : List Nat) : Bool := decide (l = List.replicate 8 0)
set_option maxHeartbeats 1000000 in
theorem rsis_any (w : World) (s : ByteArray) (h1 : 8 ≤ s.size) (h2 : s.size ≤ 255) : Calls Tryz.prog 100 #[.string s, .int .i64 8] w fun e w' => e = .returned (.bool (zero8 (synd (bs s)))) ∧ Below w.heap.size w w' := by
  have Hs := Lib.hid (rssyn_any w s h1 h2)
  have hlen := synd_len (bs s)
  have hby := synd_bytes (bs_lt s)
  generalize synd (bs s) = L at *
  go_enter Tryz.func100, Tryz.ntmps100
  go_wp2_with (go_at_call 86; refine Hs.out.mono ?_; rintro e w1 ⟨v, rfl, hv, hb⟩; obtain ⟨A, c, rfl, k1, k2, k3⟩ := hv; have Hv : Hid (BytesAt w1 (.slice A L.length c) L) := Lib.hid ⟨A, c, rfl, k1, k2, k3⟩; have Hb := Lib.hid hb; clear hb k3)
  go_loop [17] (fun x => ∃ k : Nat, k ≤ 8 ∧ x = .int .i64 k ∧ ∀ j, j < k → cf L j = 0) (fun x => 8 - (intOf x).toNat)
  case atStart => exact ⟨0, by omega, rfl, fun j hj => by omega⟩
  case round =>
    obtain ⟨k, hk, rfl, hz⟩ := hrel
    have Hz := Lib.hid hz
    have Hl := Lib.hid hlen
    have hl8 : L.length ≤ 8 := by omega
    have hl9 : 8 ≤ L.length := by omega
    clear hz hlen
    by_cases h : k < 8
    · have hkI : (k : Int) < L.length := by omega
      have hLk : L[k]? = some (cf L k) := by unfold cf; rw [List.getElem?_eq_getElem (by omega)]; rfl
      obtain ⟨b, o, rfl, hc⟩ := BytesAt.cell Hv.out hLk
      by_cases h0 : cf L k = 0
      · have hI : ((cf L k : Nat) : Int) = 0 := by omega
        have hI2 : (((cf L k : Nat) : Int) != 0) = false := by simp [h0]
        have H0 := Lib.hid h0
        have Hc := Lib.hid hc
        have hc' : w1.cell? ⟨b, o + k, none⟩ = some (.int .u8 0) := by rw [← hI]; exact hc
        clear hLk hc h0 hI hI2
        go_wp2
        go_round
        case rel =>
          refine ⟨k + 1, by omega, by go_num, fun j hj => ?_⟩
          rcases Nat.lt_succ_iff_lt_or_eq.1 hj with h1 | rfl
          · exact Hz.out j h1
          · exact H0.out
        case measure => simp [intOf]; omega
      · have hI2 : (((cf L k : Nat) : Int) != 0) = true := by rw [bne_iff_ne]; omega
        have e : zero8 L = false := by
          unfold zero8
          rw [decide_eq_false_iff_not, all_zero Hl.out]
          exact fun hh => h0 (hh k h)
        have He := Lib.hid e
        clear hLk h0 e
        go_wp2
        go_ret
        exact ⟨by rw [He.out]; rfl, Hb.out⟩
    · have hk8 : k = 8 := by omega
      subst hk8
      have e : zero8 L = true := by
        unfold zero8
        rw [decide_eq_true_eq, all_zero Hl.out]
        exact Hz.out
      have He := Lib.hid e
      have hI : ¬ (8 : Int) < L.length := by omega
      clear e
      go_wp2
      go_ret
      exact ⟨by rw [He.out]; rfl, Hb.out⟩
set_option maxHeartbeats 400000 in
theorem dat_any (w : World) (v : Value) (p : List Nat) (d : Nat) (hp : BytesAt w v p) : Calls Tryz.prog 157 #[v, .int .i64 (d : Int)] w fun e w' => e = .returned (.int .u8 (cf p d : Nat)) ∧ w = w' := by
  have Hp0 := Lib.hid hp
  obtain ⟨A, c, rfl, h1, h2, h3⟩ := hp
  clear h3
  by_cases h : d < p.length
  · have hI : (d : Int) < p.length := by omega
    have hpd : p[d]? = some (cf p d) := by unfold cf; rw [List.getElem?_eq_getElem h]; rfl
    obtain ⟨b, o, rfl, hc⟩ := BytesAt.cell Hp0.out hpd
    clear hpd
    go_enter Tryz.func157, Tryz.ntmps157
    go_wp2
    go_ret
    exact ⟨rfl, rfl⟩
  · have hI : (p.length : Int) ≤ d := by omega
    have He := Lib.hid (cf_big (p := p) (i := d) (by omega))
    go_enter Tryz.func157, Tryz.ntmps157
    go_wp2
    go_ret
    exact ⟨ret_num (by rw [He.out]; rfl), rfl⟩
set_option maxHeartbeats 400000 in
theorem dscale_any (w : World) (v : Value) (p : List Nat) (x : Nat) (hp : BytesAt w v p) (bp : Bytes p) (hx : x < 256) (hl : p.length ≤ 100000) : Calls Tryz.prog 160 #[v, .int .u8 (x : Int)] w fun e w' => ∃ v', e = .returned v' ∧ BytesAt w' v' (pmul p [x]) ∧ Below w.heap.size w w' := by
  have hB : Below w.heap.size w (w.alloc (.cells #[.int .u8 (x : Int)] 5)) := (Below.refl _ _).alloc (Nat.le_refl _) _
  have Hm := Lib.hid (pmul_any (w.alloc (.cells #[.int .u8 (x : Int)] 5)) v (.slice (some ⟨w.heap.size, 0, none⟩) 1 1) p [x] (hp.below hB) (BytesAt.one w x) bp (fun b hb => by cases hb with | head => exact hx | tail _ h => cases h) hl (by simp))
  have HB := Lib.hid hB
  clear hB hp
  go_enter Tryz.func160, Tryz.ntmps160
  go_wp2_with (go_at_call 90; refine Hm.out.mono ?_; rintro e w1 ⟨v1, rfl, hv1, hb1⟩)
  go_ret
  exact ⟨v1, rfl, hv1, HB.out.trans (hb1.mono HB.out.size)⟩
set_option maxHeartbeats 400000 in
theorem dshift_any (w : World) (v : Value) (p : List Nat) (k : Nat) (hp : BytesAt w v p) (hk : k ≤ 100000) (hl : p.length ≤ 100000) : Calls Tryz.prog 159 #[v, .int .i64 (k : Int)] w fun e w' => ∃ v', e = .returned v' ∧ BytesAt w' v' (List.replicate k 0 ++ p) ∧ Below w.heap.size w w' := by
  have hmk := make_u8 k k (Nat.le_refl _) (by omega)
  have hB : Below w.heap.size w (w.alloc (.cells (arrB (List.replicate k 0)) 5)) := (Below.refl _ _).alloc (Nat.le_refl _) _
  have hown : (w.alloc (.cells (arrB (List.replicate k 0)) 5)).ownsRow w.heap.size 5 1 (.slice (some ⟨w.heap.size, 0, none⟩) k k) k ((List.replicate k 0).map u8V) :=
    own_blk (U8B.new w _) (Nat.le_refl _) (by simp) (by simp; omega)
  have Hva := Lib.hid (hp.below hB).vAt
  have Hown := Lib.hid hown
  have HB := Lib.hid hB
  clear hB hp hown
  go_enter Tryz.func159, Tryz.ntmps159
  go_wp2_with (at_builtin; refine wpList_appendV _ Tryz.underlying28 Tryz.infoU8 rfl (by omega) (by rfl) _ _ rfl w.heap.size _ k _ rfl v rfl Hown.out (p.map u8V) Hva.out (one_u8s p) (by simp; omega) (by simp) ?_; intro v' w1 hown1 hg1 hat1 hb1)
  go_ret
  rw [← List.map_append] at hown1
  exact ⟨v', rfl, BytesAt.of_own hown1, HB.out.trans hb1⟩
theorem ret_bool {a b : Bool} (h : a = b) : Ending.returned (.bool a) = .returned (.bool b) := by rw [h]
set_option maxHeartbeats 400000 in
theorem dradius_any (w : World) (k : Nat) (hk : k ≤ 1000) : Calls Tryz.prog 101 #[.int .i64 8, .int .i64 (k : Int), .int .i64 0] w fun e w' => e = .returned (.bool (decide (k ≤ 4))) ∧ w = w' := by
  have hI : (0 : Int) ≤ k := by omega
  go_enter Tryz.func101, Tryz.ntmps101
  go_wp2
  go_ret
  exact ⟨ret_bool (by simp; omega), rfl⟩

end Go.Proofs.YtjennpcadjdnlaaGreatDoor

namespace Go.Proofs.YtjennpcadjdnlaaGreatDoor
open Go.RowKit

def differTo (a b : List Nat) (k : Nat) : List Nat := (List.range k).filter fun i => cf a i != cf b i
theorem differTo_succ (a b : List Nat) (k : Nat) : differTo a b (k + 1) = if cf a k = cf b k then differTo a b k else differTo a b k ++ [k] := by
  unfold differTo
  rw [List.range_succ, List.filter_append]
  by_cases h : cf a k = cf b k
  · simp [h]
  · simp [h]
theorem differTo_len (a b : List Nat) (k : Nat) : (differTo a b k).length ≤ k := by
  have := List.length_filter_le (fun i => cf a i != cf b i) (List.range k)
  unfold differTo
  simpa using this
abbrev natV (x : Nat) : Value := .int .i64 (x : Int)
theorem bs_cf (s : ByteArray) (k : Nat) (h : k < s.size) : cf (bs s) k = (s[k]'h).toNat := cf_get (bs_get s k h)
set_option maxHeartbeats 1000000 in
theorem dlocate_any (w : World) (s t : ByteArray) (h1 : s.size = t.size) (h2 : s.size ≤ 100000) : Calls Tryz.prog 98 #[.string s, .string t] w fun e w' => ∃ v, e = .returned (.tuple #[v, .int .i64 0]) ∧ SlAt (PlainR natV) w' v (differ (bs s) (bs t)) ∧ Below w.heap.size w w' := by
  have hneq : ((s.size : Int) != (t.size : Int)) = false := by rw [bne_eq_false_iff_eq]; omega
  have H1 := Lib.hid h1
  have hle : s.size ≤ t.size := by omega
  clear h1
  go_enter Tryz.func98, Tryz.ntmps98
  go_wp2
  go_loopw [6, 15] (fun v x wr => ∃ k : Nat, k ≤ s.size ∧ x = .int .i64 k ∧ wr.ownsRow w.heap.size 3 1 v (differTo (bs s) (bs t) k).length ((differTo (bs s) (bs t) k).map natV) ∧ Below w.heap.size w wr) (fun _ x _ => s.size - (intOf x).toNat)
  case atStart => exact ⟨0, by omega, rfl, World.ownsRow_nil _ _ _ _, Below.refl _ _⟩
  case round =>
    obtain ⟨k, hk, rfl, ho, hB⟩ := hrel
    have Ho := Lib.hid ho
    have HBr := Lib.hid hB
    clear ho hB
    have hlen : (differTo (bs s) (bs t) k).length ≤ 900000 := Nat.le_trans (differTo_len _ _ k) (by omega)
    have hBz := HBr.out.size
    by_cases h : k < s.size
    · have hkI : (k : Int) < s.size := by omega
      have hkJ : (k : Int) < t.size := by omega
      have hkt : k < t.size := by omega
      have hst := differTo_succ (bs s) (bs t) k
      rw [bs_cf s k h, bs_cf t k hkt] at hst
      by_cases he : (s[k]'h).toNat = (t[k]'hkt).toNat
      · rw [if_pos he] at hst
        have hI : ((((s[k]'h).toNat : Nat) : Int) != (((t[k]'hkt).toNat : Nat) : Int)) = false := by rw [bne_eq_false_iff_eq]; omega
        have Hst := Lib.hid hst
        clear hst he
        go_wp2
        go_quiet (fail)
        go_wp2
        go_roundw
        case rel => exact ⟨k + 1, by omega, by go_num, by rw [Hst.out]; exact Ho.out, below_drewN HBr.out nq⟩
        case measure => simp [intOf]; omega
      · rw [if_neg he] at hst
        have hI : ((((s[k]'h).toNat : Nat) : Int) != (((t[k]'hkt).toNat : Nat) : Int)) = true := by rw [bne_iff_ne]; omega
        have Hst := Lib.hid hst
        clear hst he
        go_wp2
        go_quiet (fail)
        go_wp2_with (at_builtin; refine wpList_appOne Tryz.underlying79 Tryz.infoInt rfl (by omega) rfl _ _ rfl rfl rfl rfl Ho.out hlen hBz ?_; intro v1 w1 ho1 hb1)
        go_roundw
        case rel =>
          refine ⟨k + 1, by omega, by go_num, ?_, ?_⟩
          · rw [Hst.out, List.length_append, List.map_append]
            exact ho1
          · exact (below_drewN HBr.out nq).trans hb1
        case measure => simp [intOf]; omega
    · have hkn : k = s.size := by omega
      subst hkn
      have e : differTo (bs s) (bs t) s.size = differ (bs s) (bs t) := by unfold differTo differ; rw [bs_len]
      have Hv := Lib.hid (e ▸ SlAt.of_own Ho.out)
      clear e
      go_wp2
      go_ret2
      exact ⟨_, rfl, Hv.out, HBr.out⟩

end Go.Proofs.YtjennpcadjdnlaaGreatDoor
