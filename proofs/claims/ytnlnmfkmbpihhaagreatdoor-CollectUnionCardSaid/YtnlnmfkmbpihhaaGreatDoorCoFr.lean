/-
 WALK: stelelaw44.CollectFrames.
-/
import Derived.Test.YtnlnmfkmbpihhaaGreatDoorCoX
import Derived.Test.YtnlnmfkmbpihhaaGreatDoorScX
namespace Go.Proofs.YtnlnmfkmbpihhaaGreatDoor
open Go.RowKit

/-- What steleref44.Collect gathers from pieces. -/
theorem rcoll_pieces (w : World) (vl : Value) (ar : Int) (ss : List ByteArray) (hv : StrvAt w vl ss) (hl : ss.length ≤ 100) (hs : ∀ s ∈ ss, s.size ≤ 900000) (hn : (piecesL 0 ss).length ≤ 900000) :
  Calls Tryz.prog 27 #[vl, .int .u32 ar] w fun e w' => ∃ v, e = .returned (.agg #[.int .u32 ar, v]) ∧ FrmsAt w' v (collF ar (piecesL 0 ss)) ∧ Below w.heap.size w w' :=
 rcoll_any w vl ar (piecesL 0 ss) hn fun W hb => rpieces_any W vl ss (hv.below hb) (by omega) hs
theorem dmg_few {k s : Nat} {fs : List Frm} {D : List Nat} (h : fs.length ≤ 5) : (dmgP D (pcsL k s fs)).length ≤ 5 := by
 rw [dmgP_len]
 exact pcsL_few h
theorem dmg_size {k s : Nat} {fs : List Frm} {D : List Nat} : ∀ x ∈ dmgP D (pcsL k s fs), x.size ≤ 2556 := dmgP_size fun x hx => (pcsL_size x hx).2
namespace coframes

set_option maxRecDepth 100000 in
set_option maxHeartbeats 16000000 in
theorem walk (w : World) (v : Value) (fs : List Frm) (hv : FrmsAt w v fs) (ha : ∀ f ∈ fs, f.small) (sp : Nat) (hsp : sp < 65536) (vd : Value) (D : List Nat) (hd : U16At w vd D) (hdb : ∀ x ∈ D, x < 65536) (ar : Int) (_ : 0 ≤ ar) (_ : ar < 4294967296) (more : ByteArray) :
  Calls Tryz.prog 5 #[v, .int .u16 (sp : Int), vd, .int .u32 ar, .string more] w fun e w' => e = .returned (.bool true) ∧ Below w.heap.size w w' := by
 have HDb := Lib.hid hdb
 clear hdb
 have HA := Lib.hid (fun W => alive_any W)
 have Hv := Lib.hid hv
 have HD := Lib.hid hd
 obtain ⟨A, c, rfl, h1, h2, h3⟩ := hv
 obtain ⟨Ad, cd, rfl, hd1, hd2, hd3⟩ := hd
 clear h3 hd3
 have HF := Lib.hid (fun W : World => few_any W A Ad fs.length D.length c cd)
 by_cases h5 : fs.length ≤ 5 ∧ D.length ≤ 300
 ·rw [decide_eq_true h5] at HF
  by_cases hm : more.size ≤ 300
  ·have hmI : ¬ (300 : Int) < more.size := by omega
   obtain ⟨ss, hss⟩ : ∃ ss, dmgP D (pcsL fs.length sp fs) = ss := ⟨_, rfl⟩
   have HP : Hid (∀ W : World, Below w.heap.size w W → Calls Tryz.prog 24 #[.slice A fs.length c, .int .u16 (sp : Int), .slice Ad D.length cd] W fun e w' => ∃ v', e = .returned v' ∧ w'.ownsRow W.heap.size 9 1 v' ss.length (ss.map .string) ∧ Below W.heap.size W w') := Lib.hid (fun W hb => by
    rw [← hss]
    exact pieces_any W _ _ fs D sp (Hv.out.below hb) (HD.out.below hb) (by omega) ha hsp HDb.out rjoin_any)
   have hsl : ss.length ≤ 5 := by rw [← hss]; exact dmg_few h5.1
   have hsz : ∀ s ∈ ss ++ [more], s.size ≤ 2556 := fun s hs => by
    rcases List.mem_append.1 hs with hs | hs
    ·rw [← hss] at hs
     exact dmg_size s hs
    ·rw [List.mem_singleton.1 hs]
     omega
   obtain ⟨ls, hls⟩ : ∃ ls, ss ++ [more] = ls := ⟨_, rfl⟩
   have hll : ls.length = ss.length + 1 := by rw [← hls]; simp
   rw [hls] at hsz
   have hps : (piecesL 0 ls).length ≤ 900000 := piecesL_small (n := 2556) (by omega) hsz
   have HBu := Lib.hid (fun (W : World) (vl : Value) (h : StrvAt W vl ls) => rbusy_any W vl ls 20 h (by omega) (fun s hs => Nat.le_trans (hsz s hs) (by omega)))
   have HC1 := Lib.hid (fun (W : World) (vl : Value) (h : StrvAt W vl ls) => coll_pieces W vl ar ls h (by omega) (fun s hs => Nat.le_trans (hsz s hs) (by omega)) hps)
   have HC2 := Lib.hid (fun (W : World) (vl : Value) (h : StrvAt W vl ls) => rcoll_pieces W vl ar ls h (by omega) (fun s hs => Nat.le_trans (hsz s hs) (by omega)) hps)
   obtain ⟨iS, hi, hq0, hq1, hq2⟩ := info_parts Tryz.infoStrC
   have HiS : Hid (Tryz.prog.info? 9 = some iS ∧ iS.zero = some (.string ⟨#[]⟩) ∧ iS.size = 1 ∧ iS.bytes = 16) := Lib.hid ⟨hi, hq0, hq1, hq2⟩
   have hlsm : ls.map Value.string = ss.map .string ++ [.string more] := by rw [← hls]; simp
   have Hll := Lib.hid hll
   have Hlsm := Lib.hid hlsm
   clear hi hq0 hq1 hq2 hss hsz hps hls hll hlsm
   generalize collF ar (piecesL 0 ls) = cs at *
   go_enter Tryz.func5, Tryz.ntmps5
   go_wp2_with fail
   refine (HA.out _).mono ?_
   rintro e1 w1 ⟨rfl, hb1⟩
   have HB1 := Lib.hid hb1
   clear hb1
   go_wp2_with fail
   refine (HF.out _).mono ?_
   rintro e2 w2 ⟨rfl, rfl⟩
   go_wp2_with fail
   refine (HP.out _ HB1.out).mono ?_
   rintro e3 w3 ⟨v3, rfl, ho3, hb3⟩
   have Ho3 := Lib.hid ho3
   have hs13 := hb3.size
   have HB3 := Lib.hid (HB1.out.trans (hb3.mono HB1.out.size))
   have hs1 := HB1.out.size
   clear ho3 hb3 HP
   have Hnews : Hid (∀ (q : Nat) (x : Value), ([.string more] : List Value)[q]? = some x → (w3.alloc (.cells #[.string more] 9)).cell? ((⟨w3.heap.size, 0, none⟩ : Addr).add q) = some x) := Lib.hid (fun q x hq => by
    rw [Addr.add_lit, Nat.zero_add]
    exact (Blk.new w3 9 [.string more]).cell hq)
   have Hone : Hid (∀ x ∈ ([.string more] : List Value), x.oneCell' = true) := Lib.hid (by simp [Value.oneCell'])
   have HU := Lib.hid (Ho3.out.alloc (.cells #[.string more] 9))
   have HBu3 := Lib.hid (HB3.out.alloc HB3.out.size (.cells #[.string more] 9))
   have hba : w1.heap.size ≤ (w3.alloc (.cells #[.string more] 9)).heap.size := by simp; omega
   go_upto_region 6 with (at_builtin; refine append_atC _ rfl _ _ 26 rfl w1.heap.size 9 iS (.string ⟨#[]⟩) 1 16 Tryz.underlying26 HiS.out.1 HiS.out.2.1 HiS.out.2.2.1 HiS.out.2.2.2 rfl (by omega) v3 ss.length _ rfl HU.out ⟨w3.heap.size, 0, none⟩ 1 1 _ rfl rfl Hnews.out Hone.out (by unfold maxLen; omega) (by omega) hba ?_; intro va wa hob hgb _; have KU := Lib.hid hob; have KB := Lib.hid (HBu3.out.grown hgb HBu3.out.size (fun j hj => by have := own_geC HU.out j hj; omega)); clear hob hgb)
   have HV : Hid (StrvAt wa va ls) := Lib.hid (StrvAt.of_own (B := w1.heap.size) (by rw [Hll.out, Hlsm.out]; exact KU.out))
   clear HU HBu3 Hnews Hone Ho3 HB3 KU hba hs13
   go_wp2_with fail
   refine (HBu.out _ _ HV.out).mono ?_
   rintro e4 w4 ⟨n, rfl, hn, hb4⟩
   have HV4 := Lib.hid (HV.out.below hb4)
   have HB4 := Lib.hid (KB.out.trans (hb4.mono KB.out.size))
   clear hb4 HBu KB
   obtain ⟨_, cv, rfl, _⟩ := HV.out
   clear HV
   rcases hn with rfl | rfl
   ·go_wp2_with fail
    refine (HC1.out _ _ HV4.out).mono ?_
    rintro e5 w5 ⟨u5, rfl, hf5, hb5⟩
    have HF5 := Lib.hid hf5
    have HV5 := Lib.hid (HV4.out.below hb5)
    have HB5 := Lib.hid (HB4.out.trans (hb5.mono HB4.out.size))
    clear hf5 hb5 HB4 HC1 HV4
    go_wp2_with fail
    refine (HC2.out _ _ HV5.out).mono ?_
    rintro e6 w6 ⟨u6, rfl, hf6, hb6⟩
    have HF6 := Lib.hid hf6
    have HF5' := Lib.hid (HF5.out.below hb6)
    have HB6 := Lib.hid (HB5.out.trans (hb6.mono HB5.out.size))
    clear hf6 hb6 HB5 HF5
    go_wp2_with fail
    refine (same44_any _ ar u5 u6 _ HF5'.out HF6.out).mono ?_
    rintro e7 w7 ⟨rfl, hb7⟩
    have HB7 := Lib.hid (HB6.out.trans (hb7.mono HB6.out.size))
    clear hb7
    go_wp2_with fail
    go_ret
    exact ⟨rfl, HB7.out⟩
   ·go_wp2_with fail
    go_ret
    exact ⟨rfl, HB4.out⟩
  ·have hmI : (300 : Int) < more.size := by omega
   go_enter Tryz.func5, Tryz.ntmps5
   go_wp2_with fail
   refine (HA.out _).mono ?_
   rintro e1 w1 ⟨rfl, hb1⟩
   have HB1 := Lib.hid hb1
   clear hb1
   go_wp2_with fail
   refine (HF.out _).mono ?_
   rintro e2 w2 ⟨rfl, rfl⟩
   go_wp2_with fail
   go_ret
   exact ⟨rfl, HB1.out⟩
 ·rw [decide_eq_false h5] at HF
  go_enter Tryz.func5, Tryz.ntmps5
  go_wp2_with fail
  refine (HA.out _).mono ?_
  rintro e1 w1 ⟨rfl, hb1⟩
  have HB1 := Lib.hid hb1
  clear hb1
  go_wp2_with fail
  refine (HF.out _).mono ?_
  rintro e2 w2 ⟨rfl, rfl⟩
  go_wp2_with fail
  go_ret
  exact ⟨rfl, HB1.out⟩
end coframes
end Go.Proofs.YtnlnmfkmbpihhaaGreatDoor
