/-
  Joined: MbN.
-/
import Derived.Test.YtbccghbngaiceaaGreatDoorMMn29
set_option linter.all false
set_option maxRecDepth 100000
set_option maxHeartbeats 64000000
namespace Go.Proofs.YtbccghbngaiceaaGreatDoor
section
open Go.RowKit
def holV (h : Hol) : Value := .agg #[.string h.p, .int .i64 h.u]
def JudgeH (g : Nat) (lb : Array Value) (p : Hol → Bool) (l : List Hol) (w : World) : Prop :=
 ∀ (W : World) (x : Hol), Below w.heap.size w W → x ∈ l → Calls Tryz.prog g (#[holV x] ++ lb) W fun e w' => e = .returned (.bool (p x)) ∧ Below W.heap.size W w'
theorem filt_take {α : Type} {l : List α} {i : Nat} {x : α} (h : l[i]? = some x) (p : α → Bool) : (l.take (i + 1)).filter p = (l.take i).filter p ++ (if p x then [x] else []) := by
 rw [List.take_add_one, h, List.filter_append]
 congr 1
 show [x].filter p = _
 cases hp : p x with
 | true => simp [hp]
 | false => simp [hp]
theorem selected_any (w : World) (v : Value) (l : List Hol) (hv : SeqAt holS w v l) (hl : l.length ≤ 100000) (g : Nat) (lb : Array Value) (eg : ∀ args w, (callFunc g args).run Tryz.prog w = .ok (.enter g args) w) (p : Hol → Bool) (hp : JudgeH g lb p l w) :
  Calls Tryz.prog 118 #[v, .func (.func g) #[] lb] w fun e w' => ∃ v', e = .returned v' ∧ OwnSeq holS 196 w w' v' (l.filter p) ∧ Below w.heap.size w w' := by
 have Hv := Lib.hid hv
 have HP := Lib.hid hp
 obtain ⟨A, c, rfl, h1, h2⟩ := hv.slice
 clear hv hp
 go_enter Tryz.func118, Tryz.ntmps118
 go_wp2
 go_loopw [5, 7, 10] (fun y _ x wr => ∃ i : Nat, i ≤ l.length ∧ x = .int .i64 (i : Int) ∧ OwnSeq holS 196 w wr y ((l.take i).filter p) ∧ Below w.heap.size w wr) (fun _ _ x _ => l.length - (intOf x).toNat)
 case atStart => exact ⟨0, by omega, rfl, OwnSeq.nil _, Below.refl _ _⟩
 case round =>
  obtain ⟨i, hi, rfl, ho, hB⟩ := hrel
  have HB := Lib.hid hB
  have Ho := Lib.hid ho
  clear hB ho
  obtain ⟨Av, cv, hvl, _, _⟩ := (Ho.out.at HB.out).slice
  obtain ⟨nv, hnv⟩ : ∃ n, ((l.take i).filter p).length = n := ⟨_, rfl⟩
  rw [hnv] at hvl
  subst hvl
  clear hnv
  by_cases h : i < l.length
  ·have hiI : (i : Int) < l.length := by omega
   obtain ⟨x, hx⟩ : ∃ x, l[i]? = some x := ⟨_, List.getElem?_eq_getElem h⟩
   have HFt := Lib.hid (filt_take hx p)
   have HFl : Hid (((l.take i).filter p).length + 1 ≤ 100000000) := Lib.hid (by
    have h3 := List.length_filter_le p (l.take i)
    rw [List.length_take] at h3
    omega)
   obtain ⟨_, _, e9, _, _, h4⟩ := Hv.out.below HB.out
   cases e9
   obtain ⟨b, o, cs, rfl, rfl, hc⟩ := h4 i x hx
   have c0 : wr.cell? ⟨b, o + i * 2, none⟩ = some (.string x.p) := hc 0 _ rfl
   have c1 : wr.cell? ⟨b, o + i * 2 + 1, none⟩ = some (.int .i64 x.u) := hc 1 _ rfl
   have hBt := HB.out.alloc HB.out.size (.cells #[.string x.p, .int .i64 x.u] 196)
   have hT := Blk.new wr 196 [.string x.p, .int .i64 x.u]
   change Blk (wr.alloc (.cells #[.string x.p, .int .i64 x.u] 196)) _ _ _ at hT
   have HC := Lib.hid (HP.out _ x hBt (List.mem_of_getElem? hx))
   rw [holV] at HC
   have HT := Lib.hid hT
   have HBt := Lib.hid hBt
   have Hot := Lib.hid (Ho.out.below ((Below.refl wr.heap.size wr).alloc (Nat.le_refl _) (.cells #[.string x.p, .int .i64 x.u] 196)))
   obtain ⟨q, hq⟩ : ∃ q, p x = q := ⟨_, rfl⟩
   rw [hq] at HC HFt
   clear hc h4 hx hq hBt hT
   go_upto_region 5 with fail
   generalize wr.alloc (.cells #[.string x.p, .int .i64 x.u] 196) = wt at *
   clear c0 c1
   have t0 := HT.out.cell (i := 0) rfl
   have t1 := HT.out.cell (i := 1) rfl
   go_wp2_with fail
   refine HC.out.mono ?_
   rintro e2 w2 ⟨rfl, hb2⟩
   have HT2 := Lib.hid (HT.out.kept hb2)
   have Ho2 := Lib.hid (Hot.out.below hb2)
   have HB2 := Lib.hid (HBt.out.trans (hb2.mono HBt.out.size))
   clear hb2 t0 t1
   have t0 := HT2.out.cell (i := 0) rfl
   have t1 := HT2.out.cell (i := 1) rfl
   cases q with
   | true =>
    have hB3 := HB2.out.alloc HB2.out.size (.cells #[.string x.p, .int .i64 x.u] 196)
    have HX : Hid (SrcAt holS w (w2.alloc (.cells #[.string x.p, .int .i64 x.u] 196)) (.slice (some ⟨w2.heap.size, 0, none⟩) 1 1) [x]) := Lib.hid (src1B (ρ := holS) (w0 := w) (w := w) (W := w2) (t := 196) HB2.out [.string x.p, .int .i64 x.u] x rfl)
    have Ho3 := Lib.hid (Ho2.out.below ((Below.refl w2.heap.size w2).alloc (Nat.le_refl _) (.cells #[.string x.p, .int .i64 x.u] 196)))
    have HB3 := Lib.hid hB3
    clear hB3
    go_wp2_with (at_builtin; refine append_seqO (w0 := w) (vx := .slice (some ⟨w2.heap.size, 0, none⟩) 1 1) (us := [x]) Tryz.elemHol rfl _ _ rfl rfl Ho3.out rfl HX.out HFl.out HB3.out ?_; intro va wa hob hgb hor hbb; have KO := Lib.hid hob; have KB := Lib.hid hbb; clear hob hgb hor hbb)
    go_roundw
    case rel => exact ⟨i + 1, by omega, by go_num, by rw [HFt.out]; exact KO.out, KB.out⟩
    case measure => simp [intOf]; omega
   | false =>
    go_wp2
    go_roundw
    case rel => exact ⟨i + 1, by omega, by go_num, by rw [HFt.out]; simpa using Ho2.out, HB2.out⟩
    case measure => simp [intOf]; omega
  ·obtain rfl : i = l.length := by omega
   have hiI : ¬ ((l.length : Nat) : Int) < (l.length : Int) := by omega
   have hT := Ho.out
   rw [List.take_length] at hT
   have HT := Lib.hid hT
   clear hT
   go_wp2
   go_ret
   exact ⟨_, rfl, HT.out, HB.out⟩
theorem rtact1_any (w : World) (h : Hol) (g : Nat) (d : Int) (hg : Blk w g 3 [.int .i64 d]) : Calls Tryz.prog 194 #[holV h, .pointer (some ⟨g, 0, none⟩)] w fun e w' => e = .returned (.bool (decide (d ≤ h.u))) ∧ Below w.heap.size w w' := by
 obtain ⟨p, u⟩ := h
 rw [holV]
 dsimp only
 have hK := Blk.new w 196 [.string p, .int .i64 u]
 change Blk (w.alloc (.cells #[.string p, .int .i64 u] 196)) _ _ _ at hK
 have c1 := hK.cell (i := 1) rfl
 have c2 := (hg.alloc (.cells #[.string p, .int .i64 u] 196)).cell (i := 0) rfl
 have HB := Lib.hid ((Below.refl w.heap.size w).alloc (Nat.le_refl _) (.cells #[.string p, .int .i64 u] 196))
 clear hK hg
 go_enter Tryz.func194, Tryz.ntmps194
 go_wp2
 go_ret
 exact ⟨by first | rfl | exact ret_bool' (by simp), HB.out⟩
theorem rtact_any (w : World) (v : Value) (l : List Hol) (hv : SeqAt holS w v l) (hl : l.length ≤ 100000) (d : Int) : Calls Tryz.prog 117 #[v, .int .i64 d] w fun e w' => ∃ v', e = .returned v' ∧ SeqAt holS w' v' (actH l d) ∧ Below w.heap.size w w' := by
 have hB := (Below.refl w.heap.size w).alloc (Nat.le_refl _) (.cells #[.int .i64 d] 3)
 have HB := Lib.hid hB
 have hK := Blk.new w 3 [.int .i64 d]
 change Blk (w.alloc (.cells #[.int .i64 d] 3)) _ _ _ at hK
 have HX := Lib.hid (selected_any _ v l (hv.below hB) hl 194 #[.pointer (some ⟨w.heap.size, 0, none⟩)] (enters_of Tryz.func194 (by kernel_rfl) rfl) (fun h => decide (d ≤ h.u)) (fun W x hW _ => rtact1_any W x w.heap.size d (hK.kept hW)))
 rw [← actH] at HX
 obtain ⟨A, c, rfl, _, _⟩ := hv.slice
 clear hv hK hB
 go_enter Tryz.func117, Tryz.ntmps117
 go_wp2_with fail
 refine HX.out.mono ?_
 rintro e1 w1 ⟨v1, rfl, ho, hb1⟩
 have HS := Lib.hid (ho.at hb1)
 have HB1 := Lib.hid (HB.out.trans (hb1.mono HB.out.size))
 clear hb1 ho
 go_wp2_with fail
 go_ret
 exact ⟨_, rfl, HS.out, HB1.out⟩
theorem idxHol_any (w : World) (v : Value) (l : List Hol) (hl : SeqAt holS w v l) (g : Nat) (lb : Array Value) (eg : ∀ args w, (callFunc g args).run Tryz.prog w = .ok (.enter g args) w) (p : Hol → Bool) (hp : JudgeH g lb p l w) :
  Calls Tryz.prog 121 #[v, .func (.func g) #[] lb] w fun e w' => e = .returned (.int .i64 (idxI (idxP p l))) ∧ Below w.heap.size w w' := by
 have HL := Lib.hid hl
 obtain ⟨A, c, rfl, h1, h2⟩ := hl.slice
 have HP := Lib.hid hp
 obtain ⟨R, hR⟩ : ∃ R, idxP p l = R := ⟨_, rfl⟩
 rw [hR]
 have HR := Lib.hid hR
 clear hl hp hR
 go_enter Tryz.func121, Tryz.ntmps121
 go_wp2
 go_loopw [8] (fun i wr => ∃ k : Nat, k ≤ l.length ∧ i = .int .i64 k ∧ (∀ (j : Nat) (y : Hol), j < k → l[j]? = some y → p y = false) ∧ Below w.heap.size w wr) (fun i _ => l.length - (intOf i).toNat)
 case atStart => exact ⟨0, Nat.zero_le _, rfl, fun j r h => absurd h (Nat.not_lt_zero _), Below.refl _ _⟩
 case round =>
  obtain ⟨k, hk, rfl, hr, hB⟩ := hrel
  have Hr := Lib.hid hr
  have HB := Lib.hid hB
  clear hr hB
  by_cases hlt : k < l.length
  ·have hkI : (k : Int) < l.length := by omega
   obtain ⟨x, hx⟩ : ∃ x, l[k]? = some x := ⟨_, List.getElem?_eq_getElem hlt⟩
   have Hx := Lib.hid hx
   obtain ⟨_, _, e9, _, _, h4⟩ := HL.out.below HB.out
   cases e9
   obtain ⟨b, o, cs, rfl, rfl, hc⟩ := h4 k x hx
   have HC := Lib.hid (HP.out wr x HB.out (List.mem_of_getElem? hx))
   obtain ⟨q, hq⟩ : ∃ q, p x = q := ⟨_, rfl⟩
   have HQ := Lib.hid hq
   rw [hq, holV] at HC
   have e0 : wr.cell? ⟨b, o + k * 2, none⟩ = some (.string x.p) := hc 0 _ rfl
   have e1 : wr.cell? ⟨b, o + k * 2 + 1, none⟩ = some (.int .i64 x.u) := hc 1 _ rfl
   clear hc h4 hx hq
   go_wp2_with fail
   refine HC.out.mono ?_
   rintro e w2 ⟨rfl, hb2⟩
   have HB2 := Lib.hid (HB.out.trans (hb2.mono HB.out.size))
   clear hb2 e0 e1
   cases q with
   | true =>
    have hr : R = some k := by rw [← HR.out]; exact idxP_some Hr.out Hx.out HQ.out
    subst hr
    go_wp2
    go_ret
    exact ⟨rfl, HB2.out⟩
   | false =>
    go_wp2
    go_roundw
    case rel =>
     refine ⟨k + 1, by omega, by go_num, fun j r hj he => ?_, HB2.out⟩
     rcases Nat.lt_succ_iff_lt_or_eq.1 hj with h | rfl
     ·exact Hr.out j r h he
     ·rw [Hx.out] at he
      cases he
      exact HQ.out
    case measure => simp [intOf]; omega
  ·have hkI : ¬ (k : Int) < l.length := by omega
   have hr : R = none := by
    rw [← HR.out]
    refine idxP_none fun x hx => ?_
    obtain ⟨j, hj⟩ := List.mem_iff_getElem?.1 hx
    exact Hr.out j x (by have := (List.getElem?_eq_some_iff.1 hj).1; omega) hj
   subst hr
   go_wp2
   go_ret
   exact ⟨rfl, HB.out⟩
theorem idxI_any {α : Type} {f : α → Bool} {l : List α} : (0 ≤ idxI (idxP f l)) = (l.any f = true) := by
 cases h : idxP f l with
 | some k =>
  obtain ⟨x, hx, hf⟩ := idxP_at h
  rw [eq_iff_iff]
  exact ⟨fun _ => List.any_eq_true.2 ⟨x, List.mem_of_getElem? hx, hf⟩, fun _ => by show (0 : Int) ≤ (k : Int); omega⟩
 | none =>
  rw [eq_iff_iff]
  refine ⟨fun q => absurd q (by decide), fun q => ?_⟩
  obtain ⟨x, hx, hf⟩ := List.any_eq_true.1 q
  exfalso
  clear q
  induction l with
  | nil => cases hx
  | cons a r ih =>
   rw [idxP] at h
   cases ha : f a with
   | true => rw [ha, if_pos rfl] at h; cases h
   | false =>
    rw [ha, if_neg (by decide)] at h
    rcases List.mem_cons.1 hx with rfl | hx
    ·rw [hf] at ha; cases ha
    ·cases e : idxP f r with
     | none => exact ih e hx
     | some j => rw [e] at h; cases h
theorem contHol_any (w : World) (v : Value) (l : List Hol) (hl : SeqAt holS w v l) (g : Nat) (lb : Array Value) (eg : ∀ args w, (callFunc g args).run Tryz.prog w = .ok (.enter g args) w) (p : Hol → Bool) (hp : JudgeH g lb p l w) :
  Calls Tryz.prog 116 #[v, .func (.func g) #[] lb] w fun e w' => e = .returned (.bool (l.any p)) ∧ Below w.heap.size w w' := by
 have H := Lib.hid (idxHol_any w v l hl g lb eg p hp)
 have HI := Lib.hid (idxI_any (f := p) (l := l))
 generalize idxI (idxP p l) = n at *
 obtain ⟨A, c, rfl, h1, h2⟩ := hl.slice
 clear hl hp
 go_enter Tryz.func116, Tryz.ntmps116
 go_wp2_with (go_at_call 121; refine H.out.mono ?_; rintro e w' ⟨rfl, hb⟩; have HB := Lib.hid hb; clear hb)
 go_ret
 exact ⟨ret_bool' (by simp only [HI.out, Bool.decide_eq_true]), HB.out⟩
theorem rtheld1_any (w : World) (h : Hol) (g : Nat) (s : ByteArray) (hg : Blk w g 9 [.string s]) (hs : s.size ≤ 1000000) (hp : h.p.size ≤ 1000000) (hT : Tab w) : Calls Tryz.prog 193 #[holV h, .pointer (some ⟨g, 0, none⟩)] w fun e w' => e = .returned (.bool (undB s h.p)) ∧ Below w.heap.size w w' := by
 obtain ⟨p, u⟩ := h
 rw [holV]
 dsimp only at hp ⊢
 have hK := Blk.new w 196 [.string p, .int .i64 u]
 change Blk (w.alloc (.cells #[.string p, .int .i64 u] 196)) _ _ _ at hK
 have hB := (Below.refl w.heap.size w).alloc (Nat.le_refl _) (.cells #[.string p, .int .i64 u] 196)
 have HU := Lib.hid (punder_gen _ s p hs hp (hT.below hB))
 have c1 := hK.cell (i := 0) rfl
 have c2 := (hg.alloc (.cells #[.string p, .int .i64 u] 196)).cell (i := 0) rfl
 have HB := Lib.hid hB
 clear hK hg hB hs hp hT
 go_enter Tryz.func193, Tryz.ntmps193
 go_wp2_with fail
 refine HU.out.mono ?_
 rintro e1 w1 ⟨rfl, hb1⟩
 have HB1 := Lib.hid (HB.out.trans (hb1.mono HB.out.size))
 clear hb1
 go_wp2_with fail
 go_ret
 exact ⟨rfl, HB1.out⟩
theorem rtalw1_any (w : World) (h : Hol) (g : Nat) (e : Ent) (ua ux : Value) (hg : Blk w g 48 [.int .i64 e.k, .string e.path, ua, .string e.tgt, .int .i64 e.size, .string e.dig, ux]) (hs : e.path.size ≤ 1000000) (hp : h.p.size ≤ 1000000) (hT : Tab w) : Calls Tryz.prog 115 #[holV h, .pointer (some ⟨g, 0, none⟩)] w fun r w' => r = .returned (.bool (undB h.p e.path)) ∧ Below w.heap.size w w' := by
 obtain ⟨p, u⟩ := h
 rw [holV]
 dsimp only at hp ⊢
 have hK := Blk.new w 196 [.string p, .int .i64 u]
 change Blk (w.alloc (.cells #[.string p, .int .i64 u] 196)) _ _ _ at hK
 have hB := (Below.refl w.heap.size w).alloc (Nat.le_refl _) (.cells #[.string p, .int .i64 u] 196)
 have HU := Lib.hid (punder_gen _ p e.path hp hs (hT.below hB))
 have c1 := hK.cell (i := 0) rfl
 have c2 := (hg.alloc (.cells #[.string p, .int .i64 u] 196)).cell (i := 1) rfl
 have HB := Lib.hid hB
 clear hK hg hB hs hp hT
 go_enter Tryz.func115, Tryz.ntmps115
 go_wp2_with fail
 refine HU.out.mono ?_
 rintro e1 w1 ⟨rfl, hb1⟩
 have HB1 := Lib.hid (HB.out.trans (hb1.mono HB.out.size))
 clear hb1
 go_wp2_with fail
 go_ret
 exact ⟨rfl, HB1.out⟩
theorem actH_mem {l : List Hol} {d : Int} : ∀ x ∈ actH l d, x ∈ l := fun x hx => (List.mem_filter.1 hx).1
theorem rtheld_any (w : World) (v : Value) (l : List Hol) (hv : SeqAt holS w v l) (hl : l.length ≤ 100000) (hz : ∀ h ∈ l, h.p.size ≤ 1000000) (s : ByteArray) (hs : s.size ≤ 1000000) (d : Int) (hT : Tab w) : Calls Tryz.prog 114 #[v, .string s, .int .i64 d] w fun e w' => e = .returned (.bool (heldH l s d)) ∧ Below w.heap.size w w' := by
 have hB := (Below.refl w.heap.size w).alloc (Nat.le_refl _) (.cells #[.string s] 9)
 have HB := Lib.hid hB
 have hK := Blk.new w 9 [.string s]
 change Blk (w.alloc (.cells #[.string s] 9)) _ _ _ at hK
 have HA := Lib.hid (rtact_any _ v l (hv.below hB) hl d)
 have HX := Lib.hid (fun W v' (hW : Below (w.alloc (.cells #[.string s] 9)).heap.size (w.alloc (.cells #[.string s] 9)) W) (hS : SeqAt holS W v' (actH l d)) => contHol_any W v' (actH l d) hS 193 #[.pointer (some ⟨w.heap.size, 0, none⟩)] (enters_of Tryz.func193 (by kernel_rfl) rfl) (fun h => undB s h.p) (fun V x hV hx => rtheld1_any V x w.heap.size s ((hK.kept hW).kept hV) hs (hz x (actH_mem x hx)) ((hT.below (hB.trans (hW.mono hB.size))).below hV)))
 obtain ⟨A, c, rfl, _, _⟩ := hv.slice
 unfold heldH
 clear hv hK hB hs hz hT
 go_enter Tryz.func114, Tryz.ntmps114
 go_wp2_with fail
 refine HA.out.mono ?_
 rintro e1 w1 ⟨v1, rfl, hs1, hb1⟩
 have HS1 := Lib.hid hs1
 have HBa := Lib.hid hb1
 have HB1 := Lib.hid (HB.out.trans (hb1.mono HB.out.size))
 clear hb1 hs1
 go_wp2_with fail
 refine (HX.out _ _ HBa.out HS1.out).mono ?_
 rintro e2 w2 ⟨rfl, hb2⟩
 have HB2 := Lib.hid (HB1.out.trans (hb2.mono HB1.out.size))
 clear hb2
 go_wp2_with fail
 go_ret
 exact ⟨rfl, HB2.out⟩
theorem rtalw_any (w : World) (v : Value) (l : List Hol) (hv : SeqAt holS w v l) (hl : l.length ≤ 100000) (hz : ∀ h ∈ l, h.p.size ≤ 1000000) (e : Ent) (va vx : Value) (hs : e.path.size ≤ 1000000) (d : Int) (hT : Tab w) (hk : 1 ≤ e.k ∧ e.k ≤ 6) : Calls Tryz.prog 58 #[v, entV e va vx, .int .i64 d] w fun r w' => r = .returned (.int .i64 (alwE l e d)) ∧ Below w.heap.size w w' := by
 have hB := (Below.refl w.heap.size w).alloc (Nat.le_refl _) (.cells #[.int .i64 e.k, .string e.path, va, .string e.tgt, .int .i64 e.size, .string e.dig, vx] 48)
 have HB := Lib.hid hB
 have hK := Blk.new w 48 [.int .i64 e.k, .string e.path, va, .string e.tgt, .int .i64 e.size, .string e.dig, vx]
 change Blk (w.alloc (.cells #[.int .i64 e.k, .string e.path, va, .string e.tgt, .int .i64 e.size, .string e.dig, vx] 48)) _ _ _ at hK
 have c0 := hK.cell (i := 0) rfl
 have c1 := hK.cell (i := 1) rfl
 have HH := Lib.hid (rtheld_any _ v l (hv.below hB) hl hz e.path hs d (hT.below hB))
 have HA := Lib.hid (fun W (hW : Below w.heap.size w W) => rtact_any W v l (hv.below hW) hl d)
 have HX := Lib.hid (fun W v' (hW : Below (w.alloc (.cells #[.int .i64 e.k, .string e.path, va, .string e.tgt, .int .i64 e.size, .string e.dig, vx] 48)).heap.size (w.alloc (.cells #[.int .i64 e.k, .string e.path, va, .string e.tgt, .int .i64 e.size, .string e.dig, vx] 48)) W) (hS : SeqAt holS W v' (actH l d)) => contHol_any W v' (actH l d) hS 115 #[.pointer (some ⟨w.heap.size, 0, none⟩)] (enters_of Tryz.func115 (by kernel_rfl) rfl) (fun h => undB h.p e.path) (fun V x hV hx => rtalw1_any V x w.heap.size e va vx ((hK.kept hW).kept hV) hs (hz x (actH_mem x hx)) ((hT.below (hB.trans (hW.mono hB.size))).below hV)))
 obtain ⟨A, c, rfl, _, _⟩ := hv.slice
 obtain ⟨R, hR⟩ : ∃ R, alwE l e d = R := ⟨_, rfl⟩
 rw [hR]
 rw [alwE] at hR
 have HR := Lib.hid hR
 generalize heldH l e.path d = HD at *
 generalize (actH l d).any (fun h => undB h.p e.path) = AN at *
 obtain ⟨k, path, attrs, t, size, dig, exts⟩ := e
 rw [entV]
 dsimp only at HB HH HA HX hK c0 c1 HR hk ⊢
 clear hv hB hs hz hT hR
 by_cases hc : k = 1 ∨ k = 2 ∨ k = 3
 ·have HR := Lib.hid ((if_pos hc).symm.trans HR.out)
  have hq : ((k == 1) = true) ∨ ((k == 1) = false ∧ (k == 2) = true) ∨ ((k == 1) = false ∧ (k == 2) = false ∧ (k == 3) = true) := by
   rcases hc with rfl | rfl | rfl
   ·exact .inl rfl
   ·exact .inr (.inl ⟨rfl, rfl⟩)
   ·exact .inr (.inr ⟨rfl, rfl, rfl⟩)
  clear hc hK hk
  rcases hq with f1 | ⟨f1, f2⟩ | ⟨f1, f2, f3⟩
  all_goals
   go_enter Tryz.func58, Tryz.ntmps58
   go_wp2_with fail
   refine HH.out.mono ?_
   rintro e1 w1 ⟨rfl, hb1⟩
   have HB1 := Lib.hid (HB.out.trans (hb1.mono HB.out.size))
   clear hb1
   cases HD
   ·have hr : R = 0 := HR.out.symm
    subst hr
    go_wp2_with fail
    go_ret
    exact ⟨rfl, HB1.out⟩
   ·have hr : R = 15 := HR.out.symm
    subst hr
    go_wp2_with fail
    go_ret
    exact ⟨rfl, HB1.out⟩
 ·have HR := Lib.hid ((if_neg hc).symm.trans HR.out)
  have f1 : (k == 1) = false := beq_eq_false_iff_ne.2 (by omega)
  have f2 : (k == 2) = false := beq_eq_false_iff_ne.2 (by omega)
  have f3 : (k == 3) = false := beq_eq_false_iff_ne.2 (by omega)
  by_cases h4 : k = 4
  ·have f4 : (k == 4) = true := by rw [h4]; rfl
   have HR := Lib.hid ((if_pos h4).symm.trans HR.out)
   clear hc h4 hk
   go_enter Tryz.func58, Tryz.ntmps58
   go_wp2_with fail
   refine HH.out.mono ?_
   rintro e1 w1 ⟨rfl, hb1⟩
   have HBa := Lib.hid hb1
   have HB1 := Lib.hid (HB.out.trans (hb1.mono HB.out.size))
   clear hb1
   cases HD
   ·have HR : Hid ((if AN = true then (15 : Int) else 0) = R) := Lib.hid HR.out
    go_wp2_with fail
    refine (HA.out _ HB1.out).mono ?_
    rintro e2 w2 ⟨v2, rfl, hs2, hb2⟩
    have HS2 := Lib.hid hs2
    have HBb := Lib.hid (HBa.out.trans (hb2.mono HBa.out.size))
    have HB2 := Lib.hid (HB1.out.trans (hb2.mono HB1.out.size))
    clear hb2 hs2
    go_wp2_with fail
    refine (HX.out _ _ HBb.out HS2.out).mono ?_
    rintro e3 w3 ⟨rfl, hb3⟩
    have HB3 := Lib.hid (HB2.out.trans (hb3.mono HB2.out.size))
    clear hb3
    cases AN
    ·have hr : R = 0 := HR.out.symm
     subst hr
     go_wp2_with fail
     go_ret
     exact ⟨rfl, HB3.out⟩
    ·have hr : R = 15 := HR.out.symm
     subst hr
     go_wp2_with fail
     go_ret
     exact ⟨rfl, HB3.out⟩
   ·have hr : R = 15 := HR.out.symm
    subst hr
    go_wp2_with fail
    go_ret
    exact ⟨rfl, HB1.out⟩
  ·have f4 : (k == 4) = false := beq_eq_false_iff_ne.2 h4
   have hr : R = 0 := by rw [← HR.out, if_neg h4]
   subst hr
   clear hc h4 hk
   go_enter Tryz.func58, Tryz.ntmps58
   go_wp2_with fail
   go_ret
   exact ⟨rfl, HB.out⟩
end
end Go.Proofs.YtbccghbngaiceaaGreatDoor
