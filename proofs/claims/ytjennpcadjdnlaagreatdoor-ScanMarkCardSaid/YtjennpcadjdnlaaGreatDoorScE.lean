/-
  WALKS: scan.sightings and its iterator.
-/
import Derived.Test.YtjennpcadjdnlaaGreatDoorScC
import Derived.Test.YtjennpcadjdnlaaGreatDoorEncC
namespace Go.Proofs.YtjennpcadjdnlaaGreatDoor
open Go.RowKit Go.Shelf
attribute [local go_sem] Oper.semAt_some

def RdS (x : Sgt) (args : Array Value) (_ : World) : Prop := args = #[x.v]
theorem tryP_parts (s : ByteArray) (o : Nat) : ∃ (pc : Int) (at_ : Nat) (k r q i l d p a : Int) (t : ByteArray) (x y z : Int) (b : Bool), tryP s o = (⟨pc, at_, ⟨k, r, q, i, l, d, p, a, t⟩, ⟨x, y, z⟩⟩, b) := by
  obtain ⟨⟨pc, at_, ⟨k, r, q, i, l, d, p, a, t⟩, ⟨x, y, z⟩⟩, b⟩ := tryP s o
  exact ⟨pc, at_, k, r, q, i, l, d, p, a, t, x, y, z, b, rfl⟩

set_option maxHeartbeats 1000000 in
theorem scsights_any (w : World) (s : ByteArray) : Calls Tryz.prog 59 #[.string s] w fun e w' => e = .returned (.func (.func 123) #[] #[.pointer (some ⟨w.heap.size, 0, none⟩)]) ∧ w.alloc (.cells #[.string s] 9) = w' := by
  go_enter Tryz.func59, Tryz.ntmps59
  go_wp2
  go_ret
  exact ⟨rfl, rfl⟩

set_option maxRecDepth 100000 in
set_option maxHeartbeats 8000000 in
theorem sights_all (s : ByteArray) (nb : Nat) (W0 : World) (hs : s.size ≤ 1000000) (hb0 : Boxed W0 nb 9 (.string s)) :
    rangeStr.IterStr Tryz.prog 123 #[.pointer (some ⟨nb, 0, none⟩)] RdS (fun k => k = nb) (scanL s 0) W0 := by
  intro l J W hb hJ hY h0
  have hbx : Boxed W nb 9 (.string s) := (hb.block nb hb0.lt).trans hb0
  have HJ := Lib.hid hJ
  have HY := Lib.hid hY
  have HF : Hid (∀ (V : World) (i : Nat), i ≤ 3000000 → Calls Tryz.prog 28 #[.string s, .int .i64 (i : Int)] V fun e w' => e = .returned (findR (findL (bs s) i)) ∧ Below V.heap.size V w') := Lib.hid (fun V i hi => mkfind_any V s i (by omega) hs)
  have HA : Hid (∀ (V : World) (o : Nat), o + 16 ≤ s.size → Calls Tryz.prog 124 #[.string s, .int .i64 (o : Int)] V fun e w' => e = .returned (.tuple #[(tryP s o).1.v, .bool (tryP s o).2]) ∧ Below V.heap.size V w') := Lib.hid (fun V o ho => scat_any V s o ho hs)
  have Hbx := Lib.hid hbx
  have H0 := Lib.hid h0
  clear hJ hY hbx h0 hb hb0
  refine callsIn_of_wp Tryz.func123 rfl trivial ?_ rfl
  simp only [Tryz.ntmps123, List.size_toArray, List.length_cons, List.length_nil, Nat.reduceAdd, Nat.reduceSub, Array.replicate_succ, Array.replicate_zero, List.push_toArray, List.append_toArray, List.nil_append, List.cons_append]
  gi_wp2
  gi_loopw [3] (fun x wr => ∃ (i : Nat) (pre : List Sgt), i ≤ 3000000 ∧ x = .int .i64 (i : Int) ∧ W.heap.size ≤ wr.heap.size ∧ Boxed wr nb 9 (.string s) ∧ pre ++ scanL s i = scanL s 0 ∧ J pre wr)
    (fun x _ => 3000000 - (intOf x).toNat)
  case atStart => exact ⟨0, [], by omega, rfl, Nat.le_refl _, Hbx.out, rfl, H0.out⟩
  case round =>
    obtain ⟨i, pre, hi, rfl, hsz, hbx, hpre, hj⟩ := hrel
    clear H0 Hbx
    have hcell := hbx.cell
    have Hbx := Lib.hid hbx
    have Hsz := Lib.hid hsz
    have Hpre := Lib.hid hpre
    have Hj := Lib.hid hj
    have HF1 := Lib.hid (HF.out wr i hi)
    obtain ⟨F, hF⟩ : ∃ F, findL (bs s) i = F := ⟨_, rfl⟩
    rw [hF] at HF1
    have HFe := Lib.hid hF
    clear hbx hsz hpre hj hF
    cases F with
    | none =>
      unfold findR at HF1
      have hn := scanL_none HFe.out
      have Hn := Lib.hid hn
      clear hn
      gi_wp2_with fail
      refine ⟨trivial, rfl, ?_⟩
      gi_at_call 28
      refine (callsIn_wide.2 HF1.out).mono ?_
      rintro e w1 ⟨rfl, hb1⟩
      have Hj1 := Lib.hid (HJ.out _ _ _ Hj.out Hsz.out (rangeOwn.Aside.of_below hb1 Hsz.out))
      have Hp2 : Hid (pre = scanL s 0) := Lib.hid (by rw [← Hpre.out, Hn.out, List.append_nil])
      clear hb1
      gi_wp2
      exact bodyPost_ret (results_none rfl _ _ _) rfl ⟨⟨_, rfl⟩, Hp2.out ▸ Hj1.out⟩
    | some o =>
      unfold findR at HF1
      obtain ⟨ho1, ho2⟩ := findL_le HFe.out
      rw [bs_len] at ho2
      have hos : o ≤ 1000000 := by omega
      obtain ⟨pc, at_, k, r, q, c, l1, d, p, a, t, x, y, z, ok, hP⟩ := tryP_parts s o
      have ht := tryP_try s o
      rw [hP] at ht
      have Ht := Lib.hid ht
      have HA1 : Hid (∀ V : World, Calls Tryz.prog 124 #[.string s, .int .i64 (o : Int)] V fun e w' => e = .returned (.tuple #[.agg #[.int .i64 pc, .int .i64 (at_ : Int), .int .i64 k, .int .i64 r, .int .i64 q, .int .i64 c, .int .i64 l1, .int .i64 d, .int .i64 p, .int .u32 a, .string t, .int .i64 x, .int .i64 y, .int .i64 z], .bool ok]) ∧ Below V.heap.size V w') := Lib.hid (fun V => by
        have h := HA.out V o ho2
        rw [hP] at h
        exact h)
      clear ht hP
      have hio : i ≤ o := ho1
      gi_wp2_with fail
      refine ⟨trivial, rfl, ?_⟩
      gi_at_call 28
      refine (callsIn_wide.2 HF1.out).mono ?_
      rintro e w1 ⟨rfl, hb1⟩
      have hbx1 : Boxed w1 nb 9 (.string s) := (hb1.block nb Hbx.out.lt).trans Hbx.out
      have hcell1 := hbx1.cell
      have Hbx1 := Lib.hid hbx1
      have Hj1 := Lib.hid (HJ.out _ _ _ Hj.out Hsz.out (rangeOwn.Aside.of_below hb1 Hsz.out))
      have Hsz1 := Lib.hid (Nat.le_trans Hsz.out hb1.size)
      clear hb1 hbx1 hcell Hbx Hj Hsz HF1
      gi_wp2_with fail
      refine ⟨trivial, rfl, ?_⟩
      gi_at_call 124
      refine (callsIn_wide.2 (HA1.out _)).mono ?_
      rintro e w2 ⟨rfl, hb2⟩
      have hA3 : Below w2.heap.size w2 (w2.alloc (.cells #[.int .i64 pc, .int .i64 (at_ : Int), .int .i64 k, .int .i64 r, .int .i64 q, .int .i64 c, .int .i64 l1, .int .i64 d, .int .i64 p, .int .u32 a, .string t, .int .i64 x, .int .i64 y, .int .i64 z] 53)) := (Below.refl _ _).alloc (Nat.le_refl _) _
      have hb3 := hb2.trans (hA3.mono hb2.size)
      have hbx3 : Boxed (w2.alloc (.cells #[.int .i64 pc, .int .i64 (at_ : Int), .int .i64 k, .int .i64 r, .int .i64 q, .int .i64 c, .int .i64 l1, .int .i64 d, .int .i64 p, .int .u32 a, .string t, .int .i64 x, .int .i64 y, .int .i64 z] 53)) nb 9 (.string s) := (hb3.block nb Hbx1.out.lt).trans Hbx1.out
      have Hbx3 := Lib.hid hbx3
      have Hj3 := Lib.hid (HJ.out _ _ _ Hj1.out Hsz1.out (rangeOwn.Aside.of_below hb3 Hsz1.out))
      have Hsz3 := Lib.hid (Nat.le_trans Hsz1.out hb3.size)
      have hk := Blk.new w2 53 [.int .i64 pc, .int .i64 (at_ : Int), .int .i64 k, .int .i64 r, .int .i64 q, .int .i64 c, .int .i64 l1, .int .i64 d, .int .i64 p, .int .u32 a, .string t, .int .i64 x, .int .i64 y, .int .i64 z]
      change Blk (w2.alloc (.cells #[.int .i64 pc, .int .i64 (at_ : Int), .int .i64 k, .int .i64 r, .int .i64 q, .int .i64 c, .int .i64 l1, .int .i64 d, .int .i64 p, .int .u32 a, .string t, .int .i64 x, .int .i64 y, .int .i64 z] 53)) _ _ _ at hk
      have e0 := hk.cell (i := 0) rfl
      have e1 := hk.cell (i := 1) rfl
      have e2 := hk.cell (i := 2) rfl
      have e3 := hk.cell (i := 3) rfl
      have e4 := hk.cell (i := 4) rfl
      have e5 := hk.cell (i := 5) rfl
      have e6 := hk.cell (i := 6) rfl
      have e7 := hk.cell (i := 7) rfl
      have e8 := hk.cell (i := 8) rfl
      have e9 := hk.cell (i := 9) rfl
      have e10 := hk.cell (i := 10) rfl
      have e11 := hk.cell (i := 11) rfl
      have e12 := hk.cell (i := 12) rfl
      have e13 := hk.cell (i := 13) rfl
      clear hb2 hA3 hb3 hbx3 hcell1 Hbx1 Hj1 Hsz1 HA1 hk
      cases ok with
      | false =>
        have hm := scanL_miss HFe.out Ht.out
        have Hm := Lib.hid hm
        clear hm
        gi_wp2
        go_roundw
        case rel => exact ⟨o + 1, pre, by omega, by go_num, Hsz3.out, Hbx3.out, by rw [← Hm.out]; exact Hpre.out, Hj3.out⟩
        case measure => simp [intOf]; omega
      | true =>
        have hm := scanL_some HFe.out Ht.out
        obtain ⟨X, hX⟩ : ∃ X : Sgt, (⟨pc, at_, ⟨k, r, q, c, l1, d, p, a, t⟩, ⟨x, y, z⟩⟩ : Sgt) = X := ⟨_, rfl⟩
        have hpre := Hpre.out
        rw [hm] at hpre
        have Hpre2 := Lib.hid hpre
        obtain ⟨fn, tmps, assign, body, hy, hR⟩ := HY.out pre ⟨pc, at_, ⟨k, r, q, c, l1, d, p, a, t⟩, ⟨x, y, z⟩⟩ #[.agg #[.int .i64 pc, .int .i64 (at_ : Int), .int .i64 k, .int .i64 r, .int .i64 q, .int .i64 c, .int .i64 l1, .int .i64 d, .int .i64 p, .int .u32 a, .string t, .int .i64 x, .int .i64 y, .int .i64 z]] (w2.alloc (.cells #[.int .i64 pc, .int .i64 (at_ : Int), .int .i64 k, .int .i64 r, .int .i64 q, .int .i64 c, .int .i64 l1, .int .i64 d, .int .i64 p, .int .u32 a, .string t, .int .i64 x, .int .i64 y, .int .i64 z] 53)) Hj3.out rfl ⟨scanL s (o + 852), by rw [← hpre]; simp⟩
        have HR := Lib.hid hR
        clear hR hm hX hpre
        gi_wp2
        refine ⟨rfl, HR.out.mono ?_⟩
        rintro e W1 ⟨rfl, hj1, hk1⟩
        have Hj4 := Lib.hid hj1
        have Hk1 := Lib.hid hk1
        clear hj1 hk1 e0 e1 e2 e3 e4 e5 e6 e7 e8 e9 e10 e11 e12 e13
        gi_wp2
        go_roundw
        case rel => exact ⟨o + 852, _, by omega, by go_num, Nat.le_trans Hsz3.out Hk1.out.1, Hk1.out.2 _ _ Hbx3.out (.inr rfl), by rw [← Hpre2.out]; simp, Hj4.out⟩
        case measure => simp [intOf]; omega

end Go.Proofs.YtjennpcadjdnlaaGreatDoor
