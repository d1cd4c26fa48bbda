/-
 WALK: stelelaw44.CollectOrder.
-/
import Derived.Test.YtnlnmfkmbpihhaaGreatDoorCoFr
import Derived.Laws.AppendOwnNone
namespace Go.Proofs.YtnlnmfkmbpihhaaGreatDoor
open Go.RowKit

/-- append of a row to a row, both of which the call owns. -/
theorem append_row {P : Program} {ops : Array Oper} {rest : List Oper} {o : Oper} {a : Act} {Q : Exit → Act → World → Prop} (w : World) (hgd : o.guard = none) (s x : Operand) (t : TypeId) (ho : o.op = .call { callee := .builtin .append, args := #[s, x], argTypes := #[t, t] })
  (base : Nat) (e : TypeId) (i : TypeInfo) (z : Value) (size bytes : Nat) (ht : P.underlying t = some (.slice e)) (hi : P.info? e = some i) (hz : i.zero = some z) (hsize : i.size = size) (hby : i.bytes = bytes) (hzs : z.cells.size = size) (hsz : 0 < size)
  (v : Value) (n : Nat) (xs : List Value) (hs : a.eval s = v) (hown : w.ownsRow base e size v n xs) (u : Value) (m : Nat) (news : List Value) (B2 : Nat) (hx : a.eval x = u) (hu : w.ownsRow B2 e size u m news)
  (h1 : ∀ u ∈ news, u.oneCell' = true) (h63 : n + m ≤ maxLen) (hbytes : (n + m) * bytes ≤ 140737488355328) (hbase : base ≤ w.heap.size)
  (h : ∀ v' w', w'.ownsRow base e size v' (n + m) (xs ++ news) → w.grownBy w' v.ownBlock → wpList P ops Q rest (a.put o.dst v') w') :
  wpList P ops Q (o :: rest) a w := by
 rcases hu.2 with ⟨rfl, rfl⟩ | ⟨g, cap, cur, rfl, _⟩
 ·have hn : news = [] := List.eq_nil_of_length_eq_zero (by have := hu.1; simpa using this)
  subst hn
  refine wpList_append_own_none hgd s x t ho base e i size ht hi v n xs hs hown hx (h v w ?_ ⟨rfl, rfl, rfl, Nat.le_refl _, fun _ _ _ => rfl⟩)
  rw [Nat.add_zero, List.append_nil]
  exact hown
 ·refine append_atC w hgd s x t ho base e i z size bytes ht hi hz hsize hby hzs hsz v n xs hs hown ⟨g, 0, none⟩ m cap news hx hu.1 (fun j y hj => ?_) h1 h63 hbytes hbase fun v' w' h1 h2 _ => h v' w' h1 h2
  rw [Addr.add_lit, Nat.zero_add, hu.cellAt j (by rw [← hu.1]; exact (List.getElem?_eq_some_iff.1 hj).1)]
  exact hj
/-- Cells just laid are a row of the call's own. -/
theorem own_lit (W : World) (t : TypeId) (xs : List Value) (h : xs.length ≤ maxLen) : (W.alloc (.cells xs.toArray t)).ownsRow W.heap.size t 1 (.slice (some ⟨W.heap.size, 0, none⟩) xs.length xs.length) xs.length xs := by
 refine ⟨by omega, .inr ⟨W.heap.size, xs.length, xs.toArray, rfl, Nat.le_refl _, ?_, Nat.le_refl _, h, by simp, by simp⟩⟩
 show (W.heap.push (Obj.cells xs.toArray t))[W.heap.size]? = _
 exact Array.getElem?_push_size
theorem framesL_app (a b : List ByteArray) : framesL (a ++ b) = framesL a ++ framesL b := by unfold framesL; rw [List.flatMap_append]
/-- Pieces that are known, or too short for a frame, add no frame. -/
theorem framesL_more {bl ss : List ByteArray} (h : ∀ s ∈ bl, s ∈ ss ∨ s.size < 16) : ∀ y, y ∈ framesL (bl ++ ss) ↔ y ∈ framesL ss := by
 intro y
 rw [framesL_app, List.mem_append]
 refine ⟨fun hy => hy.elim (fun hy => ?_) id, .inr⟩
 obtain ⟨s, hs, hy⟩ := List.mem_flatMap.1 hy
 rcases h s hs with h1 | h1
 ·exact List.mem_flatMap.2 ⟨s, h1, hy⟩
 ·rw [scanL_end (by omega)] at hy
  cases hy
namespace coorder

set_option maxRecDepth 100000 in
set_option maxHeartbeats 16000000 in
theorem walk (w : World) (v : Value) (fs : List Frm) (hv : FrmsAt w v fs) (ha : ∀ f ∈ fs, f.small) (sp : Nat) (hsp : sp < 65536) (vd : Value) (D : List Nat) (hd : U16At w vd D) (hdb : ∀ x ∈ D, x < 65536) (ar : Int) (_ : 0 ≤ ar) (_ : ar < 4294967296) :
  Calls Tryz.prog 7 #[v, .int .u16 (sp : Int), vd, .int .u32 ar] w fun e w' => e = .returned (.bool true) ∧ Below w.heap.size w w' := by
 have HDb := Lib.hid hdb
 clear hdb
 have HA := Lib.hid (fun W => alive_any W)
 have Hv := Lib.hid hv
 have HD := Lib.hid hd
 obtain ⟨A, c, rfl, h1, h2, h3⟩ := hv
 obtain ⟨Ad, cd, rfl, hd1, hd2, hd3⟩ := hd
 clear h3 hd3
 have HF := Lib.hid (fun W : World => few_any W A Ad fs.length D.length c cd)
 by_cases h5 : fs.length ≤ 5 ∧ D.length ≤ 300
 ·rw [decide_eq_true h5] at HF
  obtain ⟨ss, hss⟩ : ∃ ss, dmgP D (pcsL fs.length sp fs) = ss := ⟨_, rfl⟩
  have HP : Hid (∀ W : World, Below w.heap.size w W → Calls Tryz.prog 24 #[.slice A fs.length c, .int .u16 (sp : Int), .slice Ad D.length cd] W fun e w' => ∃ v', e = .returned v' ∧ w'.ownsRow W.heap.size 9 1 v' ss.length (ss.map .string) ∧ Below W.heap.size W w') := Lib.hid (fun W hb => by
   rw [← hss]
   exact pieces_any W _ _ fs D sp (Hv.out.below hb) (HD.out.below hb) (by omega) ha hsp HDb.out rjoin_any)
  have hsl : ss.length ≤ 5 := by rw [← hss]; exact dmg_few h5.1
  have Hsz : Hid (∀ s ∈ ss, s.size ≤ 2556) := Lib.hid (by rw [← hss]; exact dmg_size)
  have HBu := Lib.hid (fun (W : World) (vl : Value) (h : StrvAt W vl ss) => rbusy_any W vl ss 20 h (by omega) (fun s hs => Nat.le_trans (Hsz.out s hs) (by omega)))
  have HC := Lib.hid (fun (W : World) (vl : Value) (ls : List ByteArray) (h : StrvAt W vl ls) (hl : ls.length ≤ 20) (hs : ∀ s ∈ ls, s.size ≤ 2556) => coll_pieces W vl ar ls h (by omega) (fun s hm => Nat.le_trans (hs s hm) (by omega)) (piecesL_small (n := 2556) (by omega) hs))
  obtain ⟨iS, hi, hq0, hq1, hq2⟩ := info_parts Tryz.infoStrC
  have HiS : Hid (Tryz.prog.info? 9 = some iS ∧ iS.zero = some (.string ⟨#[]⟩) ∧ iS.size = 1 ∧ iS.bytes = 16) := Lib.hid ⟨hi, hq0, hq1, hq2⟩
  clear hi hq0 hq1 hq2 hss
  go_enter Tryz.func7, Tryz.ntmps7
  go_wp2_with fail
  refine (HA.out _).mono ?_
  rintro e1 w1 ⟨rfl, hb1⟩
  have HB1 := Lib.hid hb1
  clear hb1
  go_wp2_with fail
  refine (HF.out _).mono ?_
  rintro e2 w2 ⟨rfl, rfl⟩
  go_wp2_with fail
  refine (HP.out _ HB1.out).mono ?_
  rintro e3 w3 ⟨v3, rfl, ho3, hb3⟩
  have Ho3 := Lib.hid ho3
  have HV3 := Lib.hid (StrvAt.of_own ho3)
  have HB3 := Lib.hid (HB1.out.trans (hb3.mono HB1.out.size))
  have hs1 := HB1.out.size
  clear ho3 hb3 HP
  go_wp2_with fail
  refine (HBu.out _ _ HV3.out).mono ?_
  rintro e4 w4 ⟨n, rfl, hn, hb4⟩
  have HV4 := Lib.hid (HV3.out.below hb4)
  have Ho4 := Lib.hid (own_belowC Ho3.out hb4)
  have HB4 := Lib.hid (HB3.out.trans (hb4.mono HB3.out.size))
  clear hb4 HBu HV3 Ho3 HB3
  obtain ⟨A3, c3, rfl⟩ := own_sliceU Ho4.out
  rcases hn with rfl | rfl
  ·have hO5 := own_lit w4 9 [.string ⟨#[]⟩, .string ⟨#[48, 49, 49, 48]⟩] (by decide)
   change (w4.alloc (.cells #[.string ⟨#[]⟩, .string ⟨#[48, 49, 49, 48]⟩] 9)).ownsRow _ _ _ _ _ _ at hO5
   have HO5 := Lib.hid hO5
   have HBz := Lib.hid ((Below.refl w4.heap.size w4).alloc (Nat.le_refl _) (.cells #[.string ⟨#[]⟩, .string ⟨#[48, 49, 49, 48]⟩] 9))
   clear hO5
   go_upto_region 9 with fail
   generalize w4.alloc (.cells #[.string ⟨#[]⟩, .string ⟨#[48, 49, 49, 48]⟩] 9) = wz at *
   go_wp2
   go_loopw [10, 11] (fun y x wr => ∃ (k : Nat) (z : Int) (bl : List ByteArray), k ≤ ss.length ∧ x = .int .i64 z ∧ z + 1 = (k : Int) ∧ bl.length + 2 * k ≤ 2 + 2 * ss.length ∧ (∀ s ∈ bl, s ∈ ss ∨ s.size < 16) ∧ wr.ownsRow w4.heap.size 9 1 y bl.length (bl.map .string) ∧ Below w4.heap.size w4 wr) (fun _ x _ => (intOf x + 1).toNat)
   case atStart => exact ⟨ss.length, (ss.length : Int) - 1, [⟨#[]⟩, ⟨#[48, 49, 49, 48]⟩], Nat.le_refl _, rfl, by omega, by simp, fun s hs => .inr (by
    rcases List.mem_cons.1 hs with rfl | hs
    ·decide
    ·rw [List.mem_singleton.1 hs]
     decide), HO5.out, HBz.out⟩
   case round =>
    obtain ⟨vo, rfl⟩ : ∃ x, x = u10 := ⟨_, rfl⟩
    obtain ⟨k, z, bl, hk, rfl, hz, hbl, hmem, ho, hB⟩ := hrel
    have Ho := Lib.hid ho
    have HB := Lib.hid hB
    have Hmem := Lib.hid hmem
    clear HO5 HBz ho hB hmem
    rcases k with _ | k
    ·obtain rfl : z = -1 := by omega
     have Hu := Lib.hid (own_belowC Ho4.out HB.out)
     have Heq : Hid (collF ar (piecesL 0 (bl ++ ss)) = collF ar (piecesL 0 ss)) := Lib.hid (collF_same (framesL_more Hmem.out))
     have HC1 := Lib.hid (fun (W : World) (vl : Value) (h : StrvAt W vl (bl ++ ss)) => HC.out W vl (bl ++ ss) h (by rw [List.length_append]; omega) (fun s hs => by
      rcases List.mem_append.1 hs with hs | hs
      ·rcases Hmem.out s hs with h | h
       ·exact Hsz.out s h
       ·omega
      ·exact Hsz.out s hs))
     have HC2 := Lib.hid (fun (W : World) (vl : Value) (h : StrvAt W vl ss) => HC.out W vl ss h (by omega) Hsz.out)
     rw [Heq.out] at HC1
     generalize collF ar (piecesL 0 ss) = cs at *
     have Hone : Hid (∀ x ∈ ss.map Value.string, x.oneCell' = true) := Lib.hid (fun x hx => by
      obtain ⟨y, _, rfl⟩ := List.mem_map.1 hx
      rfl)
     have hbls : (bl ++ ss).length = bl.length + ss.length := List.length_append
     clear Heq Hmem hz HC Hsz
     go_wp2_with (at_builtin; refine append_row _ rfl _ _ 26 rfl w4.heap.size 9 iS (.string ⟨#[]⟩) 1 16 Tryz.underlying26 HiS.out.1 HiS.out.2.1 HiS.out.2.2.1 HiS.out.2.2.2 rfl (by omega) vo bl.length _ rfl Ho.out _ ss.length _ _ rfl Hu.out Hone.out (by unfold maxLen; omega) (by omega) HB.out.size ?_; intro va wa hob hgb; have KU := Lib.hid hob; have KB := Lib.hid (HB.out.grown hgb HB.out.size (fun j hj => own_geC Ho.out j hj)); clear hob hgb)
     have HVa : Hid (StrvAt wa va (bl ++ ss)) := Lib.hid (StrvAt.of_own (B := w4.heap.size) (by rw [hbls, List.map_append]; exact KU.out))
     refine (HC1.out _ _ HVa.out).mono ?_
     rintro e5 w5 ⟨u5, rfl, hf5, hb5⟩
     have HF5 := Lib.hid hf5
     have HB5 := Lib.hid (KB.out.trans (hb5.mono KB.out.size))
     clear hf5 hb5 KB KU HVa HC1
     go_wp2_with fail
     refine (HC2.out _ _ (HV4.out.below HB5.out)).mono ?_
     rintro e6 w6 ⟨u6, rfl, hf6, hb6⟩
     have HF6 := Lib.hid hf6
     have HF5' := Lib.hid (HF5.out.below hb6)
     have HB6 := Lib.hid (HB5.out.trans (hb6.mono HB5.out.size))
     clear hf6 hb6 HB5 HF5
     go_wp2_with fail
     refine (same44_any _ ar u5 u6 _ HF5'.out HF6.out).mono ?_
     rintro e7 w7 ⟨rfl, hb7⟩
     have HB7 := Lib.hid (HB6.out.trans (hb7.mono HB6.out.size))
     clear hb7
     go_wp2_with fail
     go_ret
     exact ⟨rfl, HB4.out.trans (HB7.out.mono HB4.out.size)⟩
    ·obtain rfl : z = (k : Int) := by omega
     have hkl : k < ss.length := by omega
     obtain ⟨s, hs⟩ : ∃ s, ss[k]? = some s := ⟨_, List.getElem?_eq_getElem hkl⟩
     have hkI : (k : Int) < ss.length := by omega
     have hin : s ∈ ss := List.mem_of_getElem? hs
     obtain ⟨_, _, e9, h4⟩ := HV4.out.below HB.out
     cases e9
     obtain ⟨b, o, rfl, hc⟩ := h4 k s hs
     clear h4 hs hz
     have Hnews : Hid (∀ (q : Nat) (x : Value), ([.string s, .string ⟨#[63]⟩] : List Value)[q]? = some x → (wr.alloc (.cells #[.string s, .string ⟨#[63]⟩] 9)).cell? ((⟨wr.heap.size, 0, none⟩ : Addr).add q) = some x) := Lib.hid (fun q x hq => by
      rw [Addr.add_lit, Nat.zero_add]
      exact (Blk.new wr 9 [.string s, .string ⟨#[63]⟩]).cell hq)
     have Hone : Hid (∀ x ∈ ([.string s, .string ⟨#[63]⟩] : List Value), x.oneCell' = true) := Lib.hid (by simp [Value.oneCell'])
     have HU := Lib.hid (Ho.out.alloc (.cells #[.string s, .string ⟨#[63]⟩] 9))
     have HB2 := Lib.hid (HB.out.alloc HB.out.size (.cells #[.string s, .string ⟨#[63]⟩] 9))
     go_wp2_with (at_builtin; refine append_atC _ rfl _ _ 26 rfl w4.heap.size 9 iS (.string ⟨#[]⟩) 1 16 Tryz.underlying26 HiS.out.1 HiS.out.2.1 HiS.out.2.2.1 HiS.out.2.2.2 rfl (by omega) vo bl.length _ rfl HU.out ⟨wr.heap.size, 0, none⟩ 2 2 _ rfl rfl Hnews.out Hone.out (by unfold maxLen; omega) (by omega) HB2.out.size ?_; intro va wa hob hgb _; have KU := Lib.hid hob; have KB := Lib.hid (HB2.out.grown hgb HB2.out.size (fun j hj => own_geC HU.out j hj)); clear hob hgb)
     go_roundw
     case rel => exact ⟨k, (k : Int) - 1, bl ++ [s, ⟨#[63]⟩], by omega, by first | rfl | go_num, by omega, by simp; omega, fun x hx => by
      rcases List.mem_append.1 hx with hx | hx
      ·exact Hmem.out x hx
      ·rcases List.mem_cons.1 hx with rfl | hx
       ·exact .inl hin
       ·right
        rw [List.mem_singleton.1 hx]
        decide, by rw [List.length_append, List.map_append]; exact KU.out, KB.out⟩
     case measure => simp [intOf]; try omega
  ·go_wp2_with fail
   go_ret
   exact ⟨rfl, HB4.out⟩
 ·rw [decide_eq_false h5] at HF
  go_enter Tryz.func7, Tryz.ntmps7
  go_wp2_with fail
  refine (HA.out _).mono ?_
  rintro e1 w1 ⟨rfl, hb1⟩
  have HB1 := Lib.hid hb1
  clear hb1
  go_wp2_with fail
  refine (HF.out _).mono ?_
  rintro e2 w2 ⟨rfl, rfl⟩
  go_wp2_with fail
  go_ret
  exact ⟨rfl, HB1.out⟩
end coorder
end Go.Proofs.YtnlnmfkmbpihhaaGreatDoor
