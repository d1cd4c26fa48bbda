/-
  Joined: VqC MbA VqF OpnV.
-/
import Derived.Test.YtbccghbngaiceaaGreatDoorMMn07
import Derived.Test.YtbccghbngaiceaaGreatDoorMMn08
import Derived.Test.YtbccghbngaiceaaGreatDoorMMn13
import Derived.Test.YtbccghbngaiceaaGreatDoorMMn15
import Derived.HandedShaped
set_option linter.all false
set_option maxRecDepth 100000
set_option maxHeartbeats 64000000
namespace Go.Proofs.YtbccghbngaiceaaGreatDoor
section
open Go.RowKit
theorem binit_any (w : World) : Calls Tryz.prog 99 #[] w fun e w' => e = .returned (.agg #[.int .u32 1779033703, .int .u32 3144134277, .int .u32 1013904242, .int .u32 2773480762, .int .u32 1359893119, .int .u32 2600822924, .int .u32 528734635, .int .u32 1541459225]) ∧ Below w.heap.size w w' := by
 have HZ := Lib.hid (Blk.new w 176 (initW.map u32V))
 have HB := Lib.hid ((Below.refl w.heap.size w).alloc (Nat.le_refl _) (.cells (initW.map u32V).toArray 176))
 go_enter Tryz.func99, Tryz.ntmps99
 go_wp2_with fail
 refine bodyPost_ret (results_cell_row rfl _ _ w.heap.size 176 _ (0, 0) _ rfl HZ.out Tryz.underlying176 rfl (by kernel_rfl)) rfl ?_
 exact ⟨rfl, HB.out⟩
theorem bperm_any (w : World) : Calls Tryz.prog 181 #[] w fun e w' => e = .returned (.agg #[.int .u64 81985529216486895, .int .u64 16881918945140062035, .int .u64 13312731748010193300, .int .u64 8733003861693448440, .int .u64 10400822202260547645, .int .u64 3200383143768358425, .int .u64 14204332651957162635, .int .u64 15816291393287259690, .int .u64 8064173457993569445, .int .u64 11710614767857974480]) ∧ Below w.heap.size w w' := by
 have HZ := Lib.hid (Blk.new w 253 [.int .u64 81985529216486895, .int .u64 16881918945140062035, .int .u64 13312731748010193300, .int .u64 8733003861693448440, .int .u64 10400822202260547645, .int .u64 3200383143768358425, .int .u64 14204332651957162635, .int .u64 15816291393287259690, .int .u64 8064173457993569445, .int .u64 11710614767857974480])
 have HB := Lib.hid ((Below.refl w.heap.size w).alloc (Nat.le_refl _) (.cells #[.int .u64 81985529216486895, .int .u64 16881918945140062035, .int .u64 13312731748010193300, .int .u64 8733003861693448440, .int .u64 10400822202260547645, .int .u64 3200383143768358425, .int .u64 14204332651957162635, .int .u64 15816291393287259690, .int .u64 8064173457993569445, .int .u64 11710614767857974480] 253))
 go_enter Tryz.func181, Tryz.ntmps181
 go_wp2_with fail
 refine bodyPost_ret (results_cell_row rfl _ _ w.heap.size 253 _ (0, 0) _ rfl HZ.out Tryz.underlying253 rfl (by kernel_rfl)) rfl ?_
 exact ⟨rfl, HB.out⟩
theorem idx_some {s : ByteArray} {p : Nat → Bool} (hp : ∀ c, 128 ≤ c → p c = true) : ∀ (f pos k : Nat), s.size ≤ pos + f → pos ≤ k → (hk : k < s.size) → p (s[k]'hk).toNat = true → Lib.idxFuncFrom p true s f pos ≠ -1
 | 0, pos, k, h1, h2, hk, _ => by omega
 | f + 1, pos, k, h1, h2, hk, hb => by
  unfold Lib.idxFuncFrom
  have hpos : pos < s.size := by omega
  rw [if_pos hpos]
  split
  ·omega
  ·rename_i hn
   by_cases ha : (s[pos]'hpos).toNat < 128
   ·rw [decode_ascii s pos hpos ha] at hn ⊢
    have hne : pos ≠ k := by
     rintro rfl
     exact hn hb
    exact idx_some hp f (pos + 1) k (by omega) (by omega) hk hb
   ·exact absurd (hp _ (decode_high s pos hpos (by omega)).1) hn
theorem okC_big {c : Nat} (h : 128 ≤ c) : okC c = false := by
 cases e : okC c with
 | false => rfl
 | true => have := okC_lt e; omega
theorem idx_all (s : ByteArray) : (0 ≤ Lib.idxFunc (fun c => !okC c) true s) = !((bs s).all okC) := by
 cases h : (bs s).all okC with
 | true =>
  have e : Lib.idxFunc (fun c => !okC c) true s = -1 := idx_none (fun b hb => by
   have := List.all_eq_true.1 h b hb
   exact ⟨okC_lt this, by rw [this]; rfl⟩) _ _
  rw [e]
  simp
 | false =>
  rw [List.all_eq_false] at h
  obtain ⟨b, hb, hn⟩ := h
  obtain ⟨k, hk, e⟩ := List.getElem_of_mem hb
  rw [bs_len] at hk
  have he : (s[k]'hk).toNat = b := by
   have h4 := bs_get s k hk
   rw [List.getElem?_eq_getElem (by rw [bs_len]; exact hk), e] at h4
   exact (Option.some.inj h4).symm
  have h1 := idx_some (s := s) (p := fun c => !okC c) (fun c hc => by rw [okC_big hc]; rfl) s.size 0 k (by omega) (by omega) hk (by rw [he]; simpa using hn)
  have h2 : Lib.idxFunc (fun c => !okC c) true s ≠ -1 := h1
  rcases Lib.idxFunc_range (fun c => !okC c) true s with h3 | h3
  ·exact absurd h3 h2
  ·simp [h3.1]
theorem pcomp_gen (w : World) (s : ByteArray) (hs : s.size ≤ 1000000) : Calls Tryz.prog 272 #[.string s] w fun e w' => e = .returned (.bool (compB (bs s))) ∧ Below w.heap.size w w' := by
 have hx : ∀ W, Calls Tryz.prog 341 #[.string s, .func (.func 342) #[] #[]] W fun e w' => e = .returned (.bool (!((bs s).all okC))) ∧ Below W.heap.size W w' := fun W => by
  refine (Tryz.strings_ContainsFunc 342 #[] (enters_of Tryz.func342 (by kernel_rfl) rfl) (fun c => !okC c) s W (fun W' x _ => (comp1_any W' x).mono fun e w' ⟨he, hw⟩ => ⟨he, 0, hw.symm⟩)).mono ?_
  rintro e w' ⟨rfl, hb⟩
  refine ⟨?_, hb⟩
  exact ret_bool' (by simp only [idx_all, Bool.decide_eq_true])
 have HX := Lib.hid hx
 obtain ⟨R, hR⟩ : ∃ R, compB (bs s) = R := ⟨_, rfl⟩
 obtain ⟨Q, hQ⟩ : ∃ Q, (bs s).all okC = Q := ⟨_, rfl⟩
 rw [hQ] at HX
 have hR' := hR
 rw [compB, bs_len, hQ] at hR
 have n1 : s = ⟨#[46]⟩ ↔ bs s = [46] := ⟨fun e => by rw [e]; rfl, fun e => by rw [← strB_bs s, e]; rfl⟩
 have n2 : s = ⟨#[46, 46]⟩ ↔ bs s = [46, 46] := ⟨fun e => by rw [e]; rfl, fun e => by rw [← strB_bs s, e]; rfl⟩
 clear hx hQ
 rw [hR']
 by_cases i1 : (1 : Int) ≤ s.size
 ·by_cases i2 : (s.size : Int) ≤ 32
  ·by_cases e1 : s.toList = [46]
   ·have hr : R = false := by rw [← hR]; simp [n1.1 (toListV.1 e1)]
    have F1 : (s.toList == [46]) = true := beq_iff_eq.2 e1
    clear hR n1 n2
    go_enter Tryz.func272, Tryz.ntmps272
    go_wp2
    go_ret
    exact ⟨ret_bool' (by first | rfl | simp [hr, F1]), Below.refl _ _⟩
   ·by_cases e2 : s.toList = [46, 46]
    ·have hr : R = false := by rw [← hR]; simp [n2.1 (toListV.1 e2)]
     have F2 : (s.toList == [46, 46]) = true := beq_iff_eq.2 e2
     clear hR n1 n2
     go_enter Tryz.func272, Tryz.ntmps272
     go_wp2
     go_ret
     exact ⟨ret_bool' (by first | rfl | simp [hr, F2]), Below.refl _ _⟩
    ·have hr : R = Q := by
      rw [← hR, decide_eq_true ⟨by omega, by omega, fun e => e1 (toListV.2 (n1.2 e)), fun e => e2 (toListV.2 (n2.2 e))⟩]
      rfl
     have F1 : Hid ((s.toList == [46]) = false) := Lib.hid (beq_eq_false_iff_ne.2 e1)
     have F2 : Hid ((s.toList == [46, 46]) = false) := Lib.hid (beq_eq_false_iff_ne.2 e2)
     clear hR n1 n2
     go_enter Tryz.func272, Tryz.ntmps272
     go_wp2_with fail
     refine (HX.out _).mono ?_
     rintro e1 w1 ⟨rfl, hb⟩
     have HB := Lib.hid hb
     clear hb
     go_wp2_with fail
     go_ret
     exact ⟨ret_bool' (by rw [hr, F1.out, F2.out]; cases Q <;> rfl), HB.out⟩
  ·have hr : R = false := by rw [← hR, decide_eq_false (by omega)]; rfl
   clear hR n1 n2
   go_enter Tryz.func272, Tryz.ntmps272
   go_wp2
   go_ret
   exact ⟨ret_bool' (by first | rfl | simp [hr]), Below.refl _ _⟩
 ·have hr : R = false := by rw [← hR, decide_eq_false (by omega)]; rfl
  clear hR n1 n2
  go_enter Tryz.func272, Tryz.ntmps272
  go_wp2
  go_ret
  exact ⟨ret_bool' (by first | rfl | simp [hr]), Below.refl _ _⟩
theorem pcheck1_gen (w : World) (s : ByteArray) (hs : s.size ≤ 1000000) : Calls Tryz.prog 271 #[.string s] w fun e w' => e = .returned (.bool (!compB (bs s))) ∧ Below w.heap.size w w' := by
 have H := Lib.hid (fun W => pcomp_gen W s hs)
 go_enter Tryz.func271, Tryz.ntmps271
 go_wp2_with fail
 refine (H.out _).mono ?_
 rintro e1 w1 ⟨rfl, hb⟩
 have HB := Lib.hid hb
 clear hb
 go_wp2_with fail
 go_ret
 exact ⟨rfl, HB.out⟩
theorem pcheck_gen (w : World) (s : ByteArray) (hs : s.size ≤ 1000000) (hT : Tab w) : Calls Tryz.prog 177 #[.string s] w fun e w' => e = .returned (.int .i64 (pathE (bs s))) ∧ Below w.heap.size w w' := by
 have HE := Lib.hid (pelems_any w s hs hT)
 have hall : ((elemsL (bs s)).map strB).any (fun x => !compB (bs x)) = !((elemsL (bs s)).all compB) := by
  rw [List.any_map, List.not_all_eq_any_not]
  rw [Bool.eq_iff_iff, List.any_eq_true, List.any_eq_true]
  refine exists_congr fun x => and_congr_right fun hx => ?_
  simp only [Function.comp]
  rw [bs_strB (elemsL_bytes (bs_lt s) x hx)]
 have HL : Hid (∀ x ∈ (elemsL (bs s)).map strB, x.size ≤ 1000000) := Lib.hid (fun x hx => by
  obtain ⟨y, hy, rfl⟩ := List.mem_map.1 hx
  rw [strB_size]
  have := (elemsL_size (s := bs s)).1 y hy
  rw [bs_len] at this
  omega)
 obtain ⟨E, hE⟩ : ∃ E, pathE (bs s) = E := ⟨_, rfl⟩
 rw [hE]
 unfold pathE at hE
 rw [bs_len] at hE
 rw [← List.length_map (f := strB)] at hE
 obtain ⟨Q, hQ⟩ : ∃ Q, (elemsL (bs s)).all compB = Q := ⟨_, rfl⟩
 rw [hQ] at hE hall
 generalize (elemsL (bs s)).map strB = L at *
 have HA := Lib.hid hall
 clear hQ hall
 go_enter Tryz.func177, Tryz.ntmps177
 go_wp2_with fail
 refine HE.out.mono ?_
 rintro e1 w1 ⟨⟨v, rfl, hv⟩, hb⟩
 have HB := Lib.hid hb
 have HC := Lib.hid (contStr_any w1 v L hv 271 #[] (enters_of Tryz.func271 (by kernel_rfl) rfl) (fun x => !compB (bs x)) (fun W x _ hx => pcheck1_gen W x (HL.out x hx)))
 rw [HA.out] at HC
 obtain ⟨A, c, rfl, _, _⟩ := hv.slice
 clear hb hv
 by_cases i1 : (200 : Int) < s.size
 ·have hr : E = 6 := by rw [← hE, if_pos (by omega)]
  subst hr
  go_wp2
  go_ret
  exact ⟨rfl, HB.out⟩
 ·by_cases i2 : (8 : Int) < L.length
  ·have hr : E = 6 := by rw [← hE, if_neg (by omega), if_pos (by omega)]
   subst hr
   go_wp2
   go_ret
   exact ⟨rfl, HB.out⟩
  ·rw [if_neg (by omega), if_neg (by omega)] at hE
   cases Q with
   | true =>
    have hr : E = 0 := hE.symm
    subst hr
    go_wp2_with fail
    refine HC.out.mono ?_
    rintro e2 w2 ⟨rfl, hb2⟩
    have HB2 := Lib.hid (HB.out.trans (hb2.mono HB.out.size))
    clear hb2
    go_wp2_with fail
    go_ret
    exact ⟨rfl, HB2.out⟩
   | false =>
    have hr : E = 7 := hE.symm
    subst hr
    go_wp2_with fail
    refine HC.out.mono ?_
    rintro e2 w2 ⟨rfl, hb2⟩
    have HB2 := Lib.hid (HB.out.trans (hb2.mono HB.out.size))
    clear hb2
    go_wp2_with fail
    go_ret
    exact ⟨rfl, HB2.out⟩
def layE (d s : Int) : Int := if d < 1 ∨ 8 < d ∨ s < 0 ∨ 7 < s then 2 else 0
theorem laycheck_any (w : World) (d s : Int) : Calls Tryz.prog 16 #[.agg #[.int .i64 d, .int .i64 s]] w fun e w' => e = .returned (.int .i64 (layE d s)) ∧ Below w.heap.size w w' := by
 have hK := Blk.new w 25 [.int .i64 d, .int .i64 s]
 change Blk (w.alloc (.cells #[.int .i64 d, .int .i64 s] 25)) _ _ _ at hK
 have HK := Lib.hid hK
 have HB := Lib.hid ((Below.refl w.heap.size w).alloc (Nat.le_refl _) (.cells #[.int .i64 d, .int .i64 s] 25))
 obtain ⟨R, hR⟩ : ∃ R, layE d s = R := ⟨_, rfl⟩
 rw [hR]
 unfold layE at hR
 have HR := Lib.hid hR
 clear hK hR
 go_enter Tryz.func16, Tryz.ntmps16
 go_upto_region 1 with fail
 generalize w.alloc (.cells #[.int .i64 d, .int .i64 s] 25) = wa at *
 have c0 := HK.out.cell (i := 0) rfl
 have c1 := HK.out.cell (i := 1) rfl
 by_cases h1 : d < 1
 ·go_wp2
  go_ret
  exact ⟨by rw [← HR.out, if_pos (by omega)]; rfl, HB.out⟩
 ·by_cases h2 : 8 < d
  ·go_wp2
   go_ret
   exact ⟨by rw [← HR.out, if_pos (by omega)]; rfl, HB.out⟩
  ·by_cases h3 : s < 0
   ·go_wp2
    go_ret
    exact ⟨by rw [← HR.out, if_pos (by omega)]; rfl, HB.out⟩
   ·by_cases h4 : 7 < s
    ·go_wp2
     go_ret
     exact ⟨by rw [← HR.out, if_pos (by omega)]; rfl, HB.out⟩
    ·go_wp2
     go_ret
     exact ⟨by rw [← HR.out, if_neg (by omega)]; rfl, HB.out⟩
theorem check16_any (w : World) (d s : Int) : Calls Tryz.prog 19 #[.agg #[.int .i64 d, .int .i64 s]] w fun e w' => e = .returned (.int .i64 (layE d s)) ∧ Below w.heap.size w w' := by
 have hK := Blk.new w 25 [.int .i64 d, .int .i64 s]
 change Blk (w.alloc (.cells #[.int .i64 d, .int .i64 s] 25)) _ _ _ at hK
 have HK := Lib.hid hK
 have HB := Lib.hid ((Below.refl w.heap.size w).alloc (Nat.le_refl _) (.cells #[.int .i64 d, .int .i64 s] 25))
 obtain ⟨R, hR⟩ : ∃ R, layE d s = R := ⟨_, rfl⟩
 rw [hR]
 unfold layE at hR
 have HR := Lib.hid hR
 clear hK hR
 go_enter Tryz.func19, Tryz.ntmps19
 go_upto_region 1 with fail
 generalize w.alloc (.cells #[.int .i64 d, .int .i64 s] 25) = wa at *
 have c0 := HK.out.cell (i := 0) rfl
 have c1 := HK.out.cell (i := 1) rfl
 by_cases h1 : d < 1
 ·go_wp2
  go_ret
  exact ⟨by rw [← HR.out, if_pos (by omega)]; rfl, HB.out⟩
 ·by_cases h2 : 8 < d
  ·go_wp2
   go_ret
   exact ⟨by rw [← HR.out, if_pos (by omega)]; rfl, HB.out⟩
  ·by_cases h3 : s < 0
   ·go_wp2
    go_ret
    exact ⟨by rw [← HR.out, if_pos (by omega)]; rfl, HB.out⟩
   ·by_cases h4 : 7 < s
    ·go_wp2
     go_ret
     exact ⟨by rw [← HR.out, if_pos (by omega)]; rfl, HB.out⟩
    ·go_wp2
     go_ret
     exact ⟨by rw [← HR.out, if_neg (by omega)]; rfl, HB.out⟩
end
section
open Go.ChangeShapes Go.WideShapes Go.ChangeAt Go.RowKit Go.Deep
theorem cellsAtr : Tryz.prog.cellsOf 123 = 2 := by kernel_rfl
theorem cellsAtrs : Tryz.prog.cellsOf 45 = 1 := by kernel_rfl
instance : Inhabited Atr := ⟨⟨⟨#[]⟩, ⟨#[]⟩⟩⟩
instance : Inhabited Cha := ⟨⟨0, ⟨#[]⟩, [], ⟨#[]⟩, ⟨#[]⟩⟩⟩
instance : Inhabited Bat := ⟨⟨0, []⟩⟩
theorem list2 {α : Type} {l : List α} (h : l.length = 2) : ∃ c0 c1, l = [c0, c1] := by
 match l, h with
 | [c0, c1], _ => exact ⟨c0, c1, rfl⟩
section
variable {H : Type} {enc : TypeId × Value → H} {w : World}
theorem seq_of {α : Type} [Inhabited α] {ρ : Shape α} {TS T : TypeId} (hu : Tryz.prog.underlying TS = some (.slice T)) (hc : Tryz.prog.cellsOf T = ρ.n) (hn : 0 < ρ.n)
  (hcell : ∀ {fuel : Nat} {cs : List Value} {y : DataW H × List MemPlace}, cs.length = ρ.n → DataW.trod enc Tryz.prog w 0 (fun _ => true) true fuel T cs = some y → ∃ x, ρ.R w cs x)
  {fuel : Nat} {c : Value} {y : DataW H × List MemPlace} (hf : DataW.trod enc Tryz.prog w 0 (fun _ => true) true fuel TS [c] = some y) : ∃ xs, SeqAt ρ w c xs := by
 rcases open_slice hu hf with ⟨hcs, _⟩ | ⟨a, len, cap, m, n, D, Pl, hcs, _, hl, hm, hmm, _, hx⟩
 ·simp only [List.cons.injEq, and_true] at hcs
  subst hcs
  exact ⟨[], SeqAt.nil _⟩
 ·simp only [List.cons.injEq, and_true] at hcs
  have hmc : m = cap := by simpa using hmm
  rw [hc] at hx
  obtain ⟨F, hF⟩ := choose_lt (α := α) (n := len) (p := fun i x => ∃ cs, ρ.R w cs x ∧ ∀ j u, cs[j]? = some u → w.cell? ((a.add (i * ρ.n)).add j) = some u) fun i hi => by
   obtain ⟨cs', hcc, ht⟩ := hx i (by omega)
   obtain ⟨_, hcl, hat⟩ := World.cells?_some hcc
   obtain ⟨x, hr⟩ := hcell hcl ht
   exact ⟨x, cs', hr, fun j u hu => by
    have hj : j < ρ.n := by
     have := (List.getElem?_eq_some_iff.1 hu).1
     rwa [hcl] at this
    rw [hat j hj, hu]⟩
  obtain ⟨b, o, spt⟩ := a
  refine ⟨(List.range len).map F, some ⟨b, o, spt⟩, cap, by simpa using hcs, by simpa using hl, by unfold maxLen at hm; omega, fun i x hi => ?_⟩
  rw [List.getElem?_map] at hi
  obtain ⟨j, hj, rfl⟩ := Option.map_eq_some_iff.1 hi
  obtain ⟨h1, h2⟩ := List.getElem?_eq_some_iff.1 hj
  simp at h1 h2
  subst h2
  obtain ⟨cs, hr, hcs2⟩ := hF i h1
  have hspot : spt = none := by
   obtain ⟨cs0, hr0, hc0⟩ := hF 0 (by omega)
   have h0 : 0 < cs0.length := by rw [ρ.len hr0]; exact hn
   have h3 := hc0 0 _ (List.getElem?_eq_getElem h0)
   simpa [Addr.add] using World.cell?_spot h3
  subst hspot
  exact ⟨b, o, cs, rfl, hr, fun j u hu => by
   have h := hcs2 j u hu
   rwa [Addr.add_lit, Addr.add_lit] at h⟩
theorem atr_cells {fuel : Nat} {cs : List Value} {y : DataW H × List MemPlace} (hl : cs.length = 2) (hf : DataW.trod enc Tryz.prog w 0 (fun _ => true) true fuel 123 cs = some y) : ∃ x : Atr, atrS.R w cs x := by
 obtain ⟨c0, c1, rfl⟩ := list2 hl
 obtain ⟨xs, n, _, _, _, hlen, hfs⟩ := DataW.trod_struct Tryz.underlying123 hf
 obtain ⟨y0, y1, rfl⟩ := list2 (l := xs) hlen
 have f0 : DataW.trod enc Tryz.prog w 0 (fun _ => true) true n 9 (([c0, c1].drop 0).take (Tryz.prog.cellsOf 9)) = some y0 := hfs 0 _ rfl
 have f1 : DataW.trod enc Tryz.prog w 0 (fun _ => true) true n 9 (([c0, c1].drop 1).take (Tryz.prog.cellsOf 9)) = some y1 := hfs 1 _ rfl
 rw [cellsS] at f0 f1
 replace f0 : DataW.trod enc Tryz.prog w 0 (fun _ => true) true n 9 [c0] = some y0 := f0
 replace f1 : DataW.trod enc Tryz.prog w 0 (fun _ => true) true n 9 [c1] = some y1 := f1
 obtain ⟨k, e0, _, _⟩ := DataW.trod_string Tryz.underlying9 f0
 obtain ⟨v, e1, _, _⟩ := DataW.trod_string Tryz.underlying9 f1
 have h0 : c0 = .string k := by simpa [Value.cells] using e0
 have h1 : c1 = .string v := by simpa [Value.cells] using e1
 subst h0 h1
 exact ⟨⟨k, v⟩, rfl⟩
theorem open_layout {v : Value} {d : DataW H} {p : List MemPlace} {b0 : Nat} (hval : Value.okWide Tryz.prog w .any b0 25 v) (hd : DataW.Trod enc Tryz.prog w 0 (fun _ => true) true 25 v d p) :
  ∃ a b : Int, v = .agg #[.int .i64 a, .int .i64 b] := by
 obtain ⟨⟨cs⟩, rfl, hsz⟩ := okWide_struct Tryz.underlying25 hval
 rw [cellsL] at hsz
 obtain ⟨c0, c1, rfl⟩ := list2 hsz
 obtain ⟨fuel, hf⟩ := hd
 obtain ⟨z0, z1, m, _, _, g0, g1⟩ := trod_struct2 Tryz.underlying25 hf
 replace g0 : DataW.trod enc Tryz.prog w 0 (fun _ => true) true m 3 (([c0, c1].drop 0).take (Tryz.prog.cellsOf 3)) = some z0 := g0
 replace g1 : DataW.trod enc Tryz.prog w 0 (fun _ => true) true m 3 (([c0, c1].drop 1).take (Tryz.prog.cellsOf 3)) = some z1 := g1
 rw [cellsI] at g0 g1
 replace g0 : DataW.trod enc Tryz.prog w 0 (fun _ => true) true m 3 [c0] = some z0 := g0
 replace g1 : DataW.trod enc Tryz.prog w 0 (fun _ => true) true m 3 [c1] = some z1 := g1
 obtain ⟨k0, e0, _, _⟩ := DataW.trod_int Tryz.underlying3 g0
 obtain ⟨k1, e1, _, _⟩ := DataW.trod_int Tryz.underlying3 g1
 have h0 : c0 = .int .i64 k0 := by simpa [Value.cells] using e0
 have h1 : c1 = .int .i64 k1 := by simpa [Value.cells] using e1
 subst h0 h1
 exact ⟨k0, k1, rfl⟩
end
theorem tab_of {W : World} {L : List (String × DataW Unit)} (hL : laidMetH Tryz.prog L W) (hk : (L.filter fun x => x.1 == "internal/strconv.uint64pow10") = [("internal/strconv.uint64pow10", Lib.tabData .u64 Lib.pow10Tab)]) (hsh : W.ShapedOpen Tryz.prog) : Tab W := by
 have h1 := hL.filter fun x => x.1 == "internal/strconv.uint64pow10"
 rw [hk, MakeChecks.laidMetH_plain _ _ _ (by kernel_rfl)] at h1
 refine ⟨?_, ?_⟩
 ·exact Lib.tabIs_of_head (g := 1) (t := 430) (e := 180) (n := 20) (by kernel_rfl) (by kernel_rfl) Tryz.underlying430 Tryz.underlying180 (by kernel_rfl) (by kernel_rfl) h1
 ·exact cell_of_shapedOpen_int (P := Tryz.prog) (g := 0) (t := 3) (zero := #[.int .i64 0]) hsh (of_decide_eq_true (by kernel_rfl)) (by kernel_rfl) rfl (by kernel_rfl) (by kernel_rfl) Tryz.underlying3
theorem returns_shaped {H : Type} {enc : TypeId × Value → H} {a : Assume} {C : Checked} {os : Os} {f : FuncId} {fn : Func} {s : ChangeSpec} {conds : List PathCond} {apart fresh handsOn again : Bool} {X : World → Array Value → Prop}
  (hX : ∀ (w w' : World) (args : Array Value), w.heap = w'.heap → X w args → X w' args)
  (own : ownKnob C.prog.godebug = none) (started : os.Started) (noInit : C.prog.inits.idxOf? f = none) (hfn : C.prog.funcs[f]? = some fn)
  (witness : ∃ (w : World) (tape : Tape) (i : Input), w.os = os ∧ (w.forCall tape i).Shaped C.prog ∧ i.vars = [] ∧ Input.okWide C.prog (w.forCall tape i) .any w.heap.size f i ∧
   ((s.pre enc C.prog fn conds apart (w.forCall tape i).memory i.args ∧ X (w.forCall tape i).memory i.args) ∧ sizedMet enc C.prog fn (OpenSpec.ofChange s) apart (w.forCall tape i).memory i.args) ∧ a.holds C.prog (lone (Frame.enter C.prog f i.args .normal) [] (w.forCall tape i)))
  (contract : ∀ (W : World) (base : Nat) (args : Array Value) (ds gs : List (DataW H)) (before : List MemPlace),
   (∀ (j : Nat) t v, fn.params[j]? = some t → args[j]? = some v → Value.okWide C.prog W .any base t v) →
   DataW.Whole enc C.prog fn.params.toList s.vars apart W args.toList ds gs before →
   conds.all (PathCond.test C.prog ⟨fn.params.toList, ds, s.plain.varTypes C.prog, gs⟩) = true →
   (DataW.weightsEach C.prog (fn.params.toList ++ s.plain.varTypes C.prog) (ds ++ gs)).all (· ≤ reachBytes) = true → X W args → W.ShapedOpen C.prog →
   a.holds C.prog (lone (Frame.enter C.prog f args .normal) [] W) →
   Calls C.prog f args W fun e W' => ∃ v, e = .returned v ∧ s.post enc C.prog fn apart fresh handsOn again W args v W') :
  ReturnsInHanded a C os f .any (fun w args => (s.pre enc C.prog fn conds apart w args ∧ X w args) ∧ sizedMet enc C.prog fn (OpenSpec.ofChange s) apart w args) (s.post enc C.prog fn apart fresh handsOn again) := by
 refine returnsInHanded_of_calls own started noInit witness ?_
 intro w tape i _ hsh _ hok hpre hholds
 obtain ⟨_, _, _, fn', hfn', _, _, _, _, hval⟩ := hok
 have e : fn' = fn := Option.some.inj (hfn'.symm.trans hfn)
 subst e
 obtain ⟨⟨⟨ds, gs, before, hw, hc⟩, hx⟩, hz⟩ := hpre
 have hw' := DataW.Whole.of_heap (w' := w.forCall tape i) (by rfl) hw
 refine (contract (w.forCall tape i) w.heap.size i.args ds gs before hval hw' hc (hz.weights hw) (hX _ _ _ (by rfl) hx) hsh hholds).mono fun e W' ⟨v, he, hp⟩ => ?_
 subst he
 exact ChangeSpec.post_blind hp
end
end Go.Proofs.YtbccghbngaiceaaGreatDoor
