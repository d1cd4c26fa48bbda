/-
  Joined: MbT.
-/
import Derived.Test.YtbccghbngaiceaaGreatDoorMMn41
set_option linter.all false
set_option maxRecDepth 100000
set_option maxHeartbeats 64000000
namespace Go.Proofs.YtbccghbngaiceaaGreatDoor
section
open Go.RowKit
structure StaN (s : Sta) (n : Nat) : Prop where
 tn : s.tree.length ≤ n
 tp : ∀ x ∈ s.tree, x.path.size ≤ 1000
 hn : s.holds.length ≤ n
 hp : ∀ h ∈ s.holds, h.p.size ≤ 1000
theorem StaN.mono {s : Sta} {n m : Nat} (h : StaN s n) (q : n ≤ m) : StaN s m := ⟨Nat.le_trans h.tn q, h.tp, Nat.le_trans h.hn q, h.hp⟩
theorem insAt_len {α : Type} {l : List α} {i : Nat} {x : α} : (insAt l i x).length ≤ l.length + 1 := by
 rw [insAt, List.length_append, List.length_cons, List.length_take, List.length_drop]
 omega
theorem insAt_mem {α : Type} {l : List α} {i : Nat} {x y : α} (h : y ∈ insAt l i x) : y = x ∨ y ∈ l := by
 rcases List.mem_append.1 h with h | h
 ·exact .inr (List.mem_of_mem_take h)
 ·rcases List.mem_cons.1 h with h | h
  ·exact .inl h
  ·exact .inr (List.mem_of_mem_drop h)
theorem applyT_n {t : List Ent} {e : Ent} {n : Nat} (hl : t.length ≤ n) (hp : ∀ x ∈ t, x.path.size ≤ 1000) (he : e.path.size ≤ 1000) : (applyT t e).2.length ≤ n + 1 ∧ ∀ x ∈ (applyT t e).2, x.path.size ≤ 1000 := by
 unfold applyT
 have nil : ([] : List Ent).length ≤ n + 1 ∧ ∀ x ∈ ([] : List Ent), x.path.size ≤ 1000 := ⟨Nat.zero_le _, fun x hx => nomatch hx⟩
 by_cases h1 : enE e ≠ 0
 ·rw [if_pos h1]; exact nil
 rw [if_neg h1]
 by_cases h2 : 3 < e.k
 ·rw [if_pos h2]
  by_cases h3 : idxT t e.path = none ∧ e.path.size ≠ 0
  ·rw [if_pos h3]; exact nil
  rw [if_neg h3]
  exact ⟨Nat.le_trans (List.length_filter_le _ _) (by omega), fun x hx => hp x (List.mem_filter.1 hx).1⟩
 rw [if_neg h2]
 by_cases h4 : dirE t (parB e.path) ≠ 0
 ·rw [if_pos h4]; exact nil
 rw [if_neg h4]
 cases idxT t e.path with
 | none =>
  simp only
  by_cases h5 : 5000 ≤ t.length
  ·rw [if_pos h5]; exact nil
  rw [if_neg h5]
  exact ⟨Nat.le_trans insAt_len (by omega), fun x hx => (insAt_mem hx).elim (fun q => by rw [q]; exact he) (hp x)⟩
 | some a =>
  simp only
  cases t[a]? with
  | none => exact nil
  | some x =>
   simp only
   by_cases h6 : decide (x.k = 2) = decide (e.k = 2)
   ·rw [if_pos h6]
    refine ⟨by rw [List.length_set]; omega, fun y hy => ?_⟩
    rcases List.mem_or_eq_of_mem_set hy with hy | rfl
    ·exact hp y hy
    ·exact he
   ·rw [if_neg h6]; exact nil
theorem applyH_n {l : List Hol} {e : Ent} {d : Int} {n : Nat} (hl : l.length ≤ n) (hp : ∀ h ∈ l, h.p.size ≤ 1000) (he : e.path.size ≤ 1000) : (applyH l e d).2.length ≤ n + 1 ∧ ∀ h ∈ (applyH l e d).2, h.p.size ≤ 1000 := by
 unfold applyH
 dsimp only
 have nil : ([] : List Hol).length ≤ n + 1 ∧ ∀ x ∈ ([] : List Hol), x.p.size ≤ 1000 := ⟨Nat.zero_le _, fun x hx => nomatch hx⟩
 have ha : (actH l d).length ≤ n := Nat.le_trans (List.length_filter_le _ _) hl
 have hr : ((actH l d).filter fun h => decide (h.p ≠ e.path)).length ≤ n := Nat.le_trans (List.length_filter_le _ _) ha
 have hra : ∀ h ∈ (actH l d).filter (fun h => decide (h.p ≠ e.path)), h.p.size ≤ 1000 := fun h hh => hp h (actH_mem h (List.mem_filter.1 hh).1)
 by_cases h5 : e.k = 5
 ·rw [if_pos h5]
  exact ⟨Nat.le_trans insAt_len (by omega), fun x hx => (insAt_mem hx).elim (fun q => by rw [q]; exact he) (hra x)⟩
 rw [if_neg h5]
 by_cases h6 : e.k = 6
 ·rw [if_pos h6]
  by_cases h7 : ((actH l d).filter fun h => decide (h.p ≠ e.path)).length = (actH l d).length
  ·rw [if_pos h7]; exact nil
  ·rw [if_neg h7]; exact ⟨Nat.le_trans hr (Nat.le_succ n), hra⟩
 rw [if_neg h6]
 exact ⟨Nat.le_trans ha (Nat.le_succ n), fun h hh => hp h (actH_mem h hh)⟩
theorem stepS_n {s : Sta} {e : Ent} {d : Int} {n : Nat} (h : StaN s n) (he : e.path.size ≤ 1000) : StaN (stepS s e d).2 (n + 1) := by
 have up : StaN s (n + 1) := ⟨by have := h.tn; omega, h.tp, by have := h.hn; omega, h.hp⟩
 unfold stepS
 by_cases h1 : (applyT s.tree e).1 ≠ 0
 ·rw [if_pos h1]; exact up
 rw [if_neg h1]
 by_cases h2 : (3 < e.k ∨ (getT s.tree e.path).isSome) ∧ alwE s.holds e d ≠ 0
 ·rw [if_pos h2]; exact up
 rw [if_neg h2]
 by_cases h3 : (applyH s.holds e d).1 ≠ 0
 ·rw [if_pos h3]; exact up
 rw [if_neg h3]
 have a := applyT_n h.tn h.tp he
 have b := applyH_n (d := d) h.hn h.hp he
 exact ⟨a.1, a.2, b.1, b.2⟩
theorem stepS_ok {s : Sta} {e : Ent} {d : Int} (h : (stepS s e d).1 = 0) : EntOk e := by
 unfold stepS at h
 by_cases h1 : (applyT s.tree e).1 ≠ 0
 ·rw [if_pos h1] at h; exact absurd h h1
 ·exact applyT_ok (Decidable.byContradiction h1)
theorem box_state {W : World} {g : Nat} {vt vh : Value} (hB : Blk W g 69 [vt, vh]) (h1 : kd vt = 4) (h2 : kd vh = 4) : Box W g [4, 4] := ⟨_, _, hB, by rw [List.map_cons, List.map_cons, h1, h2]; rfl⟩
theorem setRow_entK {W : World} {v : Value} {xs : List Ent} (h : SeqAt entS W v xs) {g : Nat} (hB : Box W g [4, 4]) (cs : Array Value) : SeqAt entS (W.setRow g cs) v xs :=
 off_ent (ks := [4, 4]) (by decide) (by decide) (by decide) W _ g v xs hB (setRow_grown W g cs) h
theorem setRow_holK {W : World} {v : Value} {xs : List Hol} (h : SeqAt holS W v xs) {g : Nat} (hB : Box W g [4, 4]) (cs : Array Value) : SeqAt holS (W.setRow g cs) v xs :=
 off_hol (ks := [4, 4]) (by decide) W _ g v xs hB (setRow_grown W g cs) h
theorem entsS_cons {pre : List Ses} {d : Int} {s : Sta} {e : Ent} {r : List Ent} : entsS pre d s (e :: r) = if (stepS s e d).1 ≠ 0 then ((stepS s e d).1, s) else if storedB pre e then entsS pre d (stepS s e d).2 r else (2, s) := rfl
theorem histE_cons {pre : List Ses} {p : ByteArray} {d : Int} {s : Sta} {x : Ses} {r : List Ses} : histE pre p d s (x :: r) = if sgnE x ≠ 0 then sgnE x else if x.num ≠ (pre.length : Int) + 1 ∨ x.date < d then 14 else if x.prev ≠ p then 20 else if (entsS (pre ++ [x]) x.date s x.ents).1 ≠ 0 then (entsS (pre ++ [x]) x.date s x.ents).1 else histE (pre ++ [x]) (dgS x) x.date (entsS (pre ++ [x]) x.date s x.ents).2 r := rfl
def StAt (W : World) (g : Nat) (s : Sta) : Prop := ∃ At ct Ah ch, Blk W g 69 [.slice At s.tree.length ct, .slice Ah s.holds.length ch] ∧ SeqAt entS W (.slice At s.tree.length ct) s.tree ∧ SeqAt holS W (.slice Ah s.holds.length ch) s.holds
theorem StAt.below {W W' : World} {g : Nat} {s : Sta} (h : StAt W g s) (hb : Below W.heap.size W W') : StAt W' g s := by
 obtain ⟨At, ct, Ah, ch, h1, h2, h3⟩ := h
 exact ⟨At, ct, Ah, ch, h1.kept hb, h2.below hb, h3.below hb⟩
theorem StAt.turn {W : World} {g : Nat} {s s' : Sta} {vt vh : Value} (h : StAt W g s) (h2 : SeqAt entS W vt s'.tree) (h3 : SeqAt holS W vh s'.holds) : StAt (W.setRow g #[vt, vh]) g s' := by
 obtain ⟨At, ct, Ah, ch, h1, _, _⟩ := h
 have hbx := box_state h1 rfl rfl
 obtain ⟨Bt, dt, rfl, _, _⟩ := h2.slice
 obtain ⟨Bh, dh, rfl, _, _⟩ := h3.slice
 exact ⟨Bt, dt, Bh, dh, setRow_heap _ _ _ _ _ _ h1, setRow_entK h2 hbx _, setRow_holK h3 hbx _⟩
theorem Blk.setRowN {W : World} {g b : Nat} {t : TypeId} {us : List Value} (h : Blk W b t us) (hne : b ≠ g) (cs : Array Value) : Blk (W.setRow g cs) b t us := (setRow_other W g b cs hne).trans h
theorem hcheck_any (w : World) (v : Value) (l : List Ses) (hv : SeqAt sesS w v l) (hl : l.length ≤ 100) (hz : ∀ x ∈ l, SesS x) (hT : Tb w) : Calls Tryz.prog 18 #[v] w fun r w' => r = .returned (.int .i64 (histC l)) ∧ Below w.heap.size w w' := by
 obtain ⟨R, hR⟩ : ∃ R, histC l = R := ⟨_, rfl⟩
 rw [hR]
 unfold histC at hR
 have HR := Lib.hid hR
 have HV := Lib.hid hv
 have HT := Lib.hid hT
 have HZ := Lib.hid hz
 obtain ⟨A, c, rfl, _, _⟩ := hv.slice
 have hK := Blk.new w 69 [.slice none 0 0, .slice none 0 0]
 change Blk (w.alloc (.cells #[.slice none 0 0, .slice none 0 0] 69)) _ _ _ at hK
 have HB0 := Lib.hid ((Below.refl w.heap.size w).alloc (Nat.le_refl _) (.cells #[.slice none 0 0, .slice none 0 0] 69))
 have HA0 : Hid (StAt (w.alloc (.cells #[.slice none 0 0, .slice none 0 0] 69)) w.heap.size ⟨[], []⟩) := Lib.hid ⟨none, 0, none, 0, hK, SeqAt.nil _, SeqAt.nil _⟩
 clear hv hR hz hT hK
 go_enter Tryz.func18, Tryz.ntmps18
 go_upto_region 3 with fail
 generalize w.alloc (.cells #[.slice none 0 0, .slice none 0 0] 69) = wa at *
 go_wp2_with fail
 go_loopw [4, 5, 14] (fun p d z wr => ∃ (i : Nat) (s : Sta) (pv : ByteArray) (dt : Int), i ≤ l.length ∧ p = .string pv ∧ d = .int .i64 dt ∧ z = .int .i64 (i : Int) ∧ histE (l.take i) pv dt s (l.drop i) = R ∧ StaN s (12 * i) ∧ StAt wr w.heap.size s ∧ Below w.heap.size w wr) (fun _ _ z _ => l.length - (intOf z).toNat)
 case atStart => exact ⟨0, ⟨[], []⟩, ⟨#[]⟩, 0, Nat.zero_le _, rfl, rfl, rfl, HR.out, ⟨Nat.zero_le _, (fun x hx => nomatch hx), Nat.zero_le _, (fun x hx => nomatch hx)⟩, HA0.out, HB0.out⟩
 case round =>
  obtain ⟨i, s, pv, dt, hi, rfl, rfl, rfl, hE, hN, hA, hB⟩ := hrel
  have HN := Lib.hid hN
  have HA := Lib.hid hA
  have HB := Lib.hid hB
  clear hN hA hB HA0 HB0
  by_cases hil : i < l.length
  ·have hiI : (i : Int) < l.length := by omega
   obtain ⟨x, hx⟩ : ∃ x, l[i]? = some x := ⟨_, List.getElem?_eq_getElem hil⟩
   have HSx := Lib.hid (HZ.out x (List.mem_of_getElem? hx))
   have htk : l.take (i + 1) = l.take i ++ [x] := by rw [List.take_add_one, hx]; rfl
   have HEq := Lib.hid (show (if sgnE x ≠ 0 then sgnE x else if x.num ≠ (i : Int) + 1 ∨ x.date < dt then 14 else if x.prev ≠ pv then 20 else if (entsS (l.take (i + 1)) x.date s x.ents).1 ≠ 0 then (entsS (l.take (i + 1)) x.date s x.ents).1 else histE (l.take (i + 1)) (dgS x) x.date (entsS (l.take (i + 1)) x.date s x.ents).2 (l.drop (i + 1))) = R by
    rw [← hE, List.drop_eq_getElem_cons hil, histE_cons, show l[i] = x from Option.some.inj ((List.getElem?_eq_getElem hil).symm.trans hx), List.length_take_of_le hi, htk])
   obtain ⟨_, _, e9, _, _, h4⟩ := HV.out
   cases e9
   obtain ⟨b, o, cs, rfl, hR9, hc⟩ := h4 i x hx
   obtain ⟨ve, rfl, hve⟩ := hR9
   obtain ⟨Ae, ce, rfl, _, _⟩ := hve.slice
   have e0 : wr.cell? ⟨b, o + i * 6, none⟩ = some (.int .i64 x.num) := cell_below HB.out (hc 0 _ rfl)
   have e1 : wr.cell? ⟨b, o + i * 6 + 1, none⟩ = some (.int .i64 x.date) := cell_below HB.out (hc 1 _ rfl)
   have e2 : wr.cell? ⟨b, o + i * 6 + 2, none⟩ = some (.string x.prev) := cell_below HB.out (hc 2 _ rfl)
   have e3 : wr.cell? ⟨b, o + i * 6 + 3, none⟩ = some (.slice Ae x.ents.length ce) := cell_below HB.out (hc 3 _ rfl)
   have e4 : wr.cell? ⟨b, o + i * 6 + 4, none⟩ = some (.string x.str) := cell_below HB.out (hc 4 _ rfl)
   have e5 : wr.cell? ⟨b, o + i * 6 + 5, none⟩ = some (.string x.sig) := cell_below HB.out (hc 5 _ rfl)
   have hK := Blk.new wr 43 [.int .i64 x.num, .int .i64 x.date, .string x.prev, .slice Ae x.ents.length ce, .string x.str, .string x.sig]
   change Blk (wr.alloc (.cells #[.int .i64 x.num, .int .i64 x.date, .string x.prev, .slice Ae x.ents.length ce, .string x.str, .string x.sig] 43)) _ _ _ at hK
   have hBx := (Below.refl wr.heap.size wr).alloc (Nat.le_refl _) (.cells #[.int .i64 x.num, .int .i64 x.date, .string x.prev, .slice Ae x.ents.length ce, .string x.str, .string x.sig] 43)
   have HB1 := Lib.hid (HB.out.trans (hBx.mono HB.out.size))
   have HA1 := Lib.hid (HA.out.below hBx)
   have HVw := Lib.hid hve
   have HDg := Lib.hid (dirdigest_gen (wr.alloc (.cells #[.int .i64 x.num, .int .i64 x.date, .string x.prev, .slice Ae x.ents.length ce, .string x.str, .string x.sig] 43)) x _ (hve.below HB1.out) HSx.out (HT.out.below HB1.out))
   obtain ⟨TX, hTX⟩ : ∃ TX, (if sgnE x = 0 then dgS x else ⟨#[]⟩) = TX := ⟨_, rfl⟩
   rw [hTX] at HDg
   have HTX := Lib.hid hTX
   obtain ⟨gx, hgx⟩ : ∃ gx, wr.heap.size = gx := ⟨_, rfl⟩
   have HGx := Lib.hid (show w.heap.size < gx by obtain ⟨_, _, _, _, q, _, _⟩ := HA.out; rw [← hgx]; exact q.lt)
   rw [hgx] at hK
   have HK1 := Lib.hid hK
   generalize hSG : sgnE x = SG at *
   have HSG := Lib.hid hSG
   clear hSG
   clear hx htk hE hc h4 hve hK hBx hTX
   go_upto_region 6 with fail
   rw [hgx] at *
   clear hgx e0 e1 e2 e3 e4 e5
   generalize wr.alloc (.cells #[.int .i64 x.num, .int .i64 x.date, .string x.prev, .slice Ae x.ents.length ce, .string x.str, .string x.sig] 43) = wb at *
   have c0 := HK1.out.cell (i := 0) rfl
   have c1 := HK1.out.cell (i := 1) rfl
   have c2 := HK1.out.cell (i := 2) rfl
   have c3 := HK1.out.cell (i := 3) rfl
   have c4 := HK1.out.cell (i := 4) rfl
   have c5 := HK1.out.cell (i := 5) rfl
   go_wp2_with fail
   refine HDg.out.mono ?_
   rintro e2 w2 ⟨rfl, hb2⟩
   have HB2 := Lib.hid (HB1.out.trans (hb2.mono HB1.out.size))
   have HK2 := Lib.hid (HK1.out.kept hb2)
   have HA2 := Lib.hid (HA1.out.below hb2)
   clear hb2 HDg HK1 HB1 HA1 HA c0 c1 c2 c3 c4 c5
   by_cases hsg : SG = 0
   rotate_left
   ·have g1 : (SG != 0) = true := by rw [bne, beq_eq_false_iff_ne.2 hsg]; rfl
    have hr : R = SG := by rw [← HEq.out, if_pos hsg]
    subst hr
    clear HEq hsg HSG HTX
    go_wp2_with fail
    go_ret
    exact ⟨rfl, HB2.out⟩
   subst hsg
   have HTX := Lib.hid ((if_pos rfl).symm.trans HTX.out)
   have HEq := Lib.hid ((if_neg (fun q => q rfl)).symm.trans HEq.out)
   have c0 := HK2.out.cell (i := 0) rfl
   have c1 := HK2.out.cell (i := 1) rfl
   have c2 := HK2.out.cell (i := 2) rfl
   have c3 := HK2.out.cell (i := 3) rfl
   have c4 := HK2.out.cell (i := 4) rfl
   have c5 := HK2.out.cell (i := 5) rfl
   by_cases hnd : x.num ≠ (i : Int) + 1 ∨ x.date < dt
   ·have hr : R = 14 := by rw [← HEq.out, if_pos hnd]
    subst hr
    clear HEq
    by_cases hn : x.num = (i : Int) + 1
    ·have hd : x.date < dt := hnd.resolve_left (fun q => q hn)
     have g1 : (x.num != (i : Int) + 1) = false := by rw [hn]; simp
     clear hn hnd
     go_wp2_with fail
     go_ret
     exact ⟨rfl, HB2.out⟩
    ·have g1 : (x.num != (i : Int) + 1) = true := by rw [bne, beq_eq_false_iff_ne.2 hn]; rfl
     clear hn hnd
     go_wp2_with fail
     go_ret
     exact ⟨rfl, HB2.out⟩
   have g1 : (x.num != (i : Int) + 1) = false := by rw [Decidable.not_not.1 (fun q => hnd (.inl q))]; simp
   have g2 : ¬ x.date < dt := fun q => hnd (.inr q)
   have HEq := Lib.hid ((if_neg hnd).symm.trans HEq.out)
   clear hnd
   by_cases hpv : x.prev = pv
   rotate_left
   ·have g3 : (x.prev.toList == pv.toList) = false := by rw [beq_eq_false_iff_ne]; exact fun e => hpv (by rw [ByteArray.toList_eq, ByteArray.toList_eq] at e; exact ByteArray.ext (Array.toList_inj.1 e))
    have hr : R = 20 := by rw [← HEq.out, if_pos hpv]
    subst hr
    clear HEq hpv
    go_wp2_with fail
    go_ret
    exact ⟨rfl, HB2.out⟩
   have HEqq := Lib.hid ((if_neg (fun q => q hpv)).symm.trans HEq.out)
   clear HEq
   subst hpv
   have HEq := Lib.hid HEqq.out
   clear HEqq
   have g3 : (x.prev.toList == x.prev.toList) = true := by simp
   go_upto_region 13 with fail
   go_quiet (fail)
   have hbd : Below w2.heap.size w2 (w2.drewN nq) := blwN (Below.refl _ _) nq
   have HB3 := Lib.hid (HB2.out.trans (hbd.mono HB2.out.size))
   have HK3 := Lib.hid (HK2.out.kept hbd)
   have HA3 := Lib.hid (HA2.out.below hbd)
   have hgx2 : gx < w2.heap.size := HK2.out.lt
   have HGX := Lib.hid (show gx < (w2.drewN nq).heap.size from Nat.lt_of_lt_of_le hgx2 hbd.size)
   clear hbd hgx2 HB2 HK2 HA2 c0 c1 c2 c3 c4 c5
   generalize w2.drewN nq = w3 at *
   obtain ⟨EA, hEA⟩ : ∃ EA, entsS (l.take (i + 1)) x.date s x.ents = EA := ⟨_, rfl⟩
   rw [hEA] at HEq
   have HEA := Lib.hid hEA
   clear hEA
   have c0 := HK3.out.cell (i := 0) rfl
   have c1 := HK3.out.cell (i := 1) rfl
   have c2 := HK3.out.cell (i := 2) rfl
   have c3 := HK3.out.cell (i := 3) rfl
   have c4 := HK3.out.cell (i := 4) rfl
   have c5 := HK3.out.cell (i := 5) rfl
   go_wp2_with fail
   go_loopw [51] (fun z wi => ∃ (j : Nat) (s' : Sta), j ≤ x.ents.length ∧ z = .int .i64 (j : Int) ∧ entsS (l.take (i + 1)) x.date s' (x.ents.drop j) = EA ∧ StaN s' (12 * i + j) ∧ StAt wi w.heap.size s' ∧ Blk wi gx 43 [.int .i64 x.num, .int .i64 x.date, .string x.prev, .slice Ae x.ents.length ce, .string x.str, .string x.sig] ∧ Below w.heap.size w wi) (fun z _ => x.ents.length - (intOf z).toNat)
   case atStart => exact ⟨0, s, Nat.zero_le _, rfl, HEA.out, HN.out, HA3.out, HK3.out, HB3.out⟩
   case round =>
    obtain ⟨j, s2, hj, rfl, hE2, hN2, hA2, hX2, hB2⟩ := hrel
    have HX2 := Lib.hid hX2
    have HE2 := Lib.hid hE2
    have HN2 := Lib.hid hN2
    have HA2 := Lib.hid hA2
    have HBj := Lib.hid hB2
    clear hE2 hN2 hA2 hX2 hB2
    by_cases hjl : j < x.ents.length
    ·have hjI : (j : Int) < x.ents.length := by omega
     obtain ⟨y, hy⟩ : ∃ y, x.ents[j]? = some y := ⟨_, List.getElem?_eq_getElem hjl⟩
     have HY := Lib.hid hy
     have hye := HSx.out.each y (List.mem_of_getElem? hy)
     obtain ⟨_, _, e9, _, _, h4⟩ := HVw.out
     cases e9
     obtain ⟨b2, o2, cs, rfl, hR9, hc⟩ := h4 j y hy
     obtain ⟨va, vx, rfl, hva, hvx⟩ := hR9
     obtain ⟨Aa, ca, rfl, _, _⟩ := hva.slice
     obtain ⟨Ax, cx, rfl, _, _⟩ := hvx.slice
     have q0 : wr.cell? ⟨b2, o2 + j * 7, none⟩ = some (.int .i64 y.k) := cell_below HBj.out (hc 0 _ rfl)
     have q1 : wr.cell? ⟨b2, o2 + j * 7 + 1, none⟩ = some (.string y.path) := cell_below HBj.out (hc 1 _ rfl)
     have q2 : wr.cell? ⟨b2, o2 + j * 7 + 2, none⟩ = some (.slice Aa y.attrs.length ca) := cell_below HBj.out (hc 2 _ rfl)
     have q3 : wr.cell? ⟨b2, o2 + j * 7 + 3, none⟩ = some (.string y.tgt) := cell_below HBj.out (hc 3 _ rfl)
     have q4 : wr.cell? ⟨b2, o2 + j * 7 + 4, none⟩ = some (.int .i64 y.size) := cell_below HBj.out (hc 4 _ rfl)
     have q5 : wr.cell? ⟨b2, o2 + j * 7 + 5, none⟩ = some (.string y.dig) := cell_below HBj.out (hc 5 _ rfl)
     have q6 : wr.cell? ⟨b2, o2 + j * 7 + 6, none⟩ = some (.slice Ax y.exts.length cx) := cell_below HBj.out (hc 6 _ rfl)
     clear hc h4 hy
     have HE2 := Lib.hid (show (if (stepS s2 y x.date).1 ≠ 0 then ((stepS s2 y x.date).1, s2) else if storedB (l.take (i + 1)) y then entsS (l.take (i + 1)) x.date (stepS s2 y x.date).2 (x.ents.drop (j + 1)) else (2, s2)) = EA by rw [← HE2.out, List.drop_eq_getElem_cons hjl, entsS_cons, show x.ents[j] = y from Option.some.inj ((List.getElem?_eq_getElem hjl).symm.trans HY.out)])
     obtain ⟨At, ct, Ah, ch, hA2, hT2, hH2⟩ := HA2.out
     have hK := Blk.new wr 48 [.int .i64 y.k, .string y.path, .slice Aa y.attrs.length ca, .string y.tgt, .int .i64 y.size, .string y.dig, .slice Ax y.exts.length cx]
     change Blk (wr.alloc (.cells #[.int .i64 y.k, .string y.path, .slice Aa y.attrs.length ca, .string y.tgt, .int .i64 y.size, .string y.dig, .slice Ax y.exts.length cx] 48)) _ _ _ at hK
     have hBy := (Below.refl wr.heap.size wr).alloc (Nat.le_refl _) (.cells #[.int .i64 y.k, .string y.path, .slice Aa y.attrs.length ca, .string y.tgt, .int .i64 y.size, .string y.dig, .slice Ax y.exts.length cx] 48)
     have HBy := Lib.hid (HBj.out.trans (hBy.mono HBj.out.size))
     have HS3 := Lib.hid (hA2.kept hBy)
     have HKy := Lib.hid hK
     have HX3 := Lib.hid (HX2.out.kept hBy)
     have HVa := Lib.hid (hva.below HBy.out)
     have HVx := Lib.hid (hvx.below HBy.out)
     have hvx0 := Lib.hid hvx
     have HT3 := Lib.hid (hT2.below hBy)
     have HH3 := Lib.hid (hH2.below hBy)
     have HAp := Lib.hid (happly_any _ _ _ s2 (hT2.below hBy) (hH2.below hBy) ⟨by have := HN2.out.tn; have := HSx.out.ents; omega, HN2.out.tp, by have := HN2.out.hn; have := HSx.out.ents; omega, HN2.out.hp⟩ y _ _ HVa.out HVx.out hye.1 hye.2 x.date (HT.out.below HBy.out))
     obtain ⟨gy, hgy⟩ : ∃ gy, wr.heap.size = gy := ⟨_, rfl⟩
     have hgy2 : gy ≠ w.heap.size := by have := HX2.out.lt; have := HGx.out; omega
     have HGy := Lib.hid hgy2
     clear hgy2
     rw [hgy] at HKy
     clear hK hBy hA2 hT2 hH2 hva hvx
     have HN4 := Lib.hid (stepS_n (d := x.date) HN2.out hye.1)
     have HOk := Lib.hid (fun h : (stepS s2 y x.date).1 = 0 => stepS_ok h)
     generalize stepS s2 y x.date = ST at *
     obtain ⟨sc, s3⟩ := ST
     dsimp only at HE2 HN4 HOk
     rw [entV] at HAp
     go_upto_region 17 with fail
     rw [hgy] at *
     clear q0 q1 q2 q3 q4 q5 q6 hgy
     generalize wr.alloc (.cells #[.int .i64 y.k, .string y.path, .slice Aa y.attrs.length ca, .string y.tgt, .int .i64 y.size, .string y.dig, .slice Ax y.exts.length cx] 48) = wj at *
     have s0 := HS3.out.cell (i := 0) rfl
     have s1 := HS3.out.cell (i := 1) rfl
     have y0 := HKy.out.cell (i := 0) rfl
     have y1 := HKy.out.cell (i := 1) rfl
     have y2 := HKy.out.cell (i := 2) rfl
     have y3 := HKy.out.cell (i := 3) rfl
     have y4 := HKy.out.cell (i := 4) rfl
     have y5 := HKy.out.cell (i := 5) rfl
     have y6 := HKy.out.cell (i := 6) rfl
     have c1 := HX3.out.cell (i := 1) rfl
     go_wp2_with fail
     refine HAp.out.mono ?_
     rintro e5 w5 ⟨⟨vt, vh, rfl, hvt, hvh⟩, hb5⟩
     obtain ⟨A5, c5, rfl, _, _⟩ := hvt.slice
     obtain ⟨B5, d5, rfl, _, _⟩ := hvh.slice
     have HA5 := Lib.hid (show StAt w5 w.heap.size s2 from ⟨At, ct, Ah, ch, HS3.out.kept hb5, HT3.out.below hb5, HH3.out.below hb5⟩)
     have HS5 := Lib.hid (HS3.out.kept hb5)
     have HKy5 := Lib.hid (HKy.out.kept hb5)
     have HX5 := Lib.hid (HX3.out.kept hb5)
     have HB5 := Lib.hid (HBy.out.trans (hb5.mono HBy.out.size))
     clear hb5 s0 s1 y0 y1 y2 y3 y4 y5 y6 c1
     have HA6 := Lib.hid (HA5.out.turn hvt hvh)
     have HKy6 := Lib.hid (HKy5.out.setRowN HGy.out #[.slice A5 s3.tree.length c5, .slice B5 s3.holds.length d5])
     have HX6 := Lib.hid (HX5.out.setRowN (show gx ≠ w.heap.size by have := HGx.out; omega) #[.slice A5 s3.tree.length c5, .slice B5 s3.holds.length d5])
     have HB6 := Lib.hid (below_setRow HB5.out (Nat.le_refl _) #[.slice A5 s3.tree.length c5, .slice B5 s3.holds.length d5])
     clear hvt hvh HA5 HKy5 HX5 HB5 HS3 HKy HX3 HBy HT3 HH3 HAp
     by_cases hsc : sc ≠ 0
     ·have g1 : (sc != 0) = true := by rw [bne, beq_eq_false_iff_ne.2 hsc]; rfl
      have hea : (sc, s2) = EA := by rw [← HE2.out, if_pos hsc]
      have hr : R = sc := by rw [← HEq.out, ← hea, if_pos hsc]
      subst hr
      clear HEq HE2 hea hsc
      go_wp2_with (refine wpList_store_row rfl 69 (.tmp 3) (.tmp 61) rfl w.heap.size #[.slice A5 s3.tree.length c5, .slice B5 s3.holds.length d5] rfl rfl 69 _ HS5.out (by kernel_rfl) rfl (by simp [Value.oneCell']) ?_)
      go_ret
      exact ⟨rfl, HB6.out⟩
     replace hsc : sc = 0 := Decidable.not_not.1 hsc
     subst hsc
     go_upto_region 20 with (refine wpList_store_row rfl 69 (.tmp 3) (.tmp 61) rfl w.heap.size #[.slice A5 s3.tree.length c5, .slice B5 s3.holds.length d5] rfl rfl 69 _ HS5.out (by kernel_rfl) rfl (by simp [Value.oneCell']) ?_)
     generalize w5.setRow w.heap.size #[.slice A5 s3.tree.length c5, .slice B5 s3.holds.length d5] = w6 at *
     have HE2 := Lib.hid ((if_neg (fun q => q rfl)).symm.trans HE2.out)
     have HEk := Lib.hid (by first | exact HOk.out rfl | exact HOk.out trivial)
     have hi1 : i + 1 ≤ l.length := hil
     have HSd := Lib.hid (fun (W : World) (hW : Below w6.heap.size w6 W) => hstored_any W _ _ (((HV.out.below HB6.out).below hW).take hi1) (by rw [List.length_take]; omega) (fun z hz => (HZ.out z (List.mem_of_mem_take hz)).str) y (.slice Aa y.attrs.length ca) (.slice Ax y.exts.length cx) rfl (hvx0.out.below (HB6.out.trans (hW.mono HB6.out.size))) HEk.out.exts.2.1)
     rw [entV] at HSd
     obtain ⟨q, hq⟩ : ∃ q, storedB (l.take (i + 1)) y = q := ⟨_, rfl⟩
     rw [hq] at HSd HE2
     have HKc := Lib.hid HKy6.out.drewV
     have HBc := Lib.hid (Below.refl w6.heap.size w6).drew
     have hwr : IntKind.i64.wrap ((i : Int) + 1) = (i : Int) + 1 := IntWalk.i64_in _ (by omega)
     have hiN : ((i : Int) + 1).toNat = i + 1 := by omega
     have hi0 : (0 : Int) ≤ (i : Int) + 1 := by omega
     have hic : (i : Int) + 1 ≤ (c : Int) := by omega
     clear hq
     go_upto_region 20 with fail
     go_cut [67] (fun f wx => f = .bool (!q) ∧ Below w6.heap.size w6 wx)
     case first =>
      refine wp_region_held_drew (S := (fun W => W.cell? ⟨gy, 0, none⟩ = some (.int .i64 y.k) ∧ W.cell? ⟨gy, 1, none⟩ = some (.string y.path) ∧ W.cell? ⟨gy, 2, none⟩ = some (.slice Aa y.attrs.length ca) ∧ W.cell? ⟨gy, 3, none⟩ = some (.string y.tgt) ∧ W.cell? ⟨gy, 4, none⟩ = some (.int .i64 y.size) ∧ W.cell? ⟨gy, 5, none⟩ = some (.string y.dig) ∧ W.cell? ⟨gy, 6, none⟩ = some (.slice Ax y.exts.length cx))) (by kernel_rfl) ?_ (fun hHeld => ?_)
      ·exact ⟨HKc.out.cell (i := 0) rfl, HKc.out.cell (i := 1) rfl, HKc.out.cell (i := 2) rfl, HKc.out.cell (i := 3) rfl, HKc.out.cell (i := 4) rfl, HKc.out.cell (i := 5) rfl, HKc.out.cell (i := 6) rfl⟩
      refine tk 0 ?_
      refine tk 1 ?_
      refine tk 2 ?_
      refine tk 3 ?_
      refine tk 4 ?_
      refine wpAnyH_ready (rs := [5]) (by kernel_rfl) (by simp) ?_
      refine AllReadyH.cons (o := _) rfl (fun K hK => ?_) ?_
      ·go_simp
       refine (HSd.out _ HBc.out).mono ?_
       rintro e7 w7 ⟨rfl, hb7⟩
       (try go_wp2_with fail)
       have HKc := Lib.hid (HKc.out.kept hb7)
       have HBc := Lib.hid (HBc.out.trans (hb7.mono HBc.out.size))
       clear hb7
       refine hko hK (by exact ⟨HKc.out.cell (i := 0) rfl, HKc.out.cell (i := 1) rfl, HKc.out.cell (i := 2) rfl, HKc.out.cell (i := 3) rfl, HKc.out.cell (i := 4) rfl, HKc.out.cell (i := 5) rfl, HKc.out.cell (i := 6) rfl⟩) (fun _ => ?_)
       clear hK K
       refine tk 6 ?_
       refine tk 7 ?_
       refine wpAnyH_done (by kernel_rfl) ?_ _
       go_wp2_with fail
       go_meet
       exact ⟨by first | rfl | (congr 1; cases q <;> rfl), HBc.out⟩
      exact AllReadyH.nil
     case rest =>
      obtain ⟨rfl, hb⟩ := hcut
      have HA7 := Lib.hid (HA6.out.below hb)
      have HX7 := Lib.hid (HX6.out.kept hb)
      have HB7 := Lib.hid (HB6.out.trans (hb.mono HB6.out.size))
      clear hb HSd HKc HBc HA6 HX6 HB6 HKy6 hwr hiN hi0 hic hi1
      cases q with
      | true =>
       have HE2 := Lib.hid ((if_pos rfl).symm.trans HE2.out)
       go_wp2_with fail
       go_roundw
       case rel => exact ⟨j + 1, s3, by omega, by go_num, HE2.out, HN4.out, HA7.out, HX7.out, HB7.out⟩
       case measure => simp [intOf]; omega
      | false =>
       have hea : (2, s2) = EA := ((if_neg (fun q => Bool.noConfusion q)).symm.trans HE2.out)
       have hr : R = 2 := by rw [← HEq.out, ← hea]; rfl
       subst hr
       clear HEq HE2 hea
       go_wp2_with fail
       go_ret
       exact ⟨rfl, HB7.out⟩
    ·obtain rfl : j = x.ents.length := by omega
     have hjI : ¬ ((x.ents.length : Nat) : Int) < (x.ents.length : Int) := by omega
     have hea : (0, s2) = EA := by rw [← HE2.out, List.drop_length]; rfl
     subst hea
     have HNx := Lib.hid (show histE (l.take (i + 1)) TX x.date s2 (l.drop (i + 1)) = R by rw [← HTX.out, ← HEq.out]; rfl)
     have HNn := Lib.hid (HN2.out.mono (show 12 * i + x.ents.length ≤ 12 * (i + 1) by have := HSx.out.ents; omega))
     clear HEq HE2
     go_wp2_with fail
     go_roundw
     case rel => exact ⟨i + 1, s2, TX, x.date, by omega, rfl, rfl, by go_num, HNx.out, HNn.out, HA2.out, HBj.out⟩
     case measure => simp [intOf]; omega
  ·obtain rfl : i = l.length := by omega
   have hiI : ¬ ((l.length : Nat) : Int) < (l.length : Int) := by omega
   have hr : R = 0 := by rw [← hE, List.drop_length]; rfl
   subst hr
   go_wp2_with fail
   go_ret
   exact ⟨rfl, HB.out⟩
end
end Go.Proofs.YtbccghbngaiceaaGreatDoor
