/-
  Joined: VqP.
-/
import Derived.Test.YtbccghbngaiceaaGreatDoorMMn10
set_option linter.all false
set_option maxRecDepth 100000
set_option maxHeartbeats 64000000
namespace Go.Proofs.YtbccghbngaiceaaGreatDoor
section
open Go.RowKit
theorem Blk.drewV {w : World} {g : Nat} {t : TypeId} {us : List Value} (h : Blk w g t us) : Blk w.drew g t us := h.kept (Below.refl _ _).drew
theorem namesB_at {m : Nat} (h : m < 6) : namesB[m]? = some (nameK ((m : Int) + 1)) := by
 rcases (by omega : m = 0 ∨ m = 1 ∨ m = 2 ∨ m = 3 ∨ m = 4 ∨ m = 5) with rfl | rfl | rfl | rfl | rfl | rfl <;> rfl
structure EntZ (e : Ent) : Prop where
 path : e.path.size ≤ 200
 tgt : e.tgt.size ≤ 200
 atn : e.attrs.length ≤ 16
 kv : ∀ a ∈ e.attrs, a.k.size ≤ 64 ∧ a.v.size ≤ 64
 dig : e.dig.size ≤ 32
 exn : e.exts.length ≤ 65536
theorem EntOk.z {e : Ent} (h : EntOk e) : EntZ e := by
 have hA := attrsE_ok h.attrs
 refine ⟨?_, ?_, hA.len, fun a ha => ?_, ?_, ?_⟩
 ·have := h.path
  unfold pathE at this
  split at this
  ·cases this
  ·rw [bs_len] at *
   omega
 ·have := h.tgt
  unfold tgtB at this
  split at this
  ·exact (of_decide_eq_true this).2
  ·split at this
   ·rw [dateB, Bool.and_eq_true] at this
    have := (of_decide_eq_true this.1).2.1
    rw [bs_len] at this
    omega
   ·have := of_decide_eq_true this
    omega
 ·obtain ⟨h1, h2⟩ := hA.key a ha
  rw [keyB, Bool.and_eq_true] at h1
  have := (of_decide_eq_true h1.1).2
  rw [bs_len] at this
  omega
 ·by_cases hk : e.k = 1
  ·have := h.dig.1 hk; omega
  ·have := h.dig.2 hk; omega
 ·have key : ∀ l : List Ext, (∀ x ∈ l, extB x = true) → (l.length : Int) ≤ sumX l := by
   intro l
   induction l with
   | nil => intro _; exact Int.le_refl _
   | cons x r ih =>
    intro hx
    have h1 := of_decide_eq_true (hx x List.mem_cons_self)
    have h2 := ih fun y hy => hx y (List.mem_cons_of_mem _ hy)
    rw [sumX, List.length_cons]
    omega
  have h1 := key _ h.exts.2.1
  have h2 := h.exts.2.2
  have h3 := h.size
  omega
theorem headL_len {e : Ent} (h : EntOk e) : (headL e).length ≤ 4000 := by
 have z := h.z
 have h1 := nstL_len (nameK e.k) (by have := (nameK_some h.kind).2; omega)
 have h1' := (nameK_some h.kind).2
 have h2 := nstL_len e.path (by have := z.path; omega)
 have h3 := numL_len e.attrs.length (by have := z.atn; omega)
 have h4 := atrL_len (l := e.attrs) (m := 64) (by omega) z.kv
 have h5 := nstL_len e.tgt (by have := z.tgt; omega)
 have h6 := Nat.mul_le_mul z.atn (Nat.le_refl (2 * 64 + 44))
 have h7 := z.path
 have h8 := z.tgt
 rw [strB_size] at h1 h2 h3 h5
 rw [headL, List.length_append, List.length_append, List.length_append, List.length_append]
 omega
theorem atrL_lt (l : List Atr) : ∀ b ∈ atrL l, b < 256 := by
 intro b hb
 obtain ⟨a, _, ha⟩ := List.mem_flatMap.1 hb
 rcases List.mem_append.1 ha with ha | ha
 ·exact nstL_lt _ b ha
 ·exact nstL_lt _ b ha
theorem headL_lt (e : Ent) : ∀ b ∈ headL e, b < 256 := by
 intro b hb
 unfold headL at hb
 simp only [List.mem_append] at hb
 rcases hb with (((hb | hb) | hb) | hb) | hb
 ·exact nstL_lt _ b hb
 ·exact nstL_lt _ b hb
 ·exact numL_lt _ b hb
 ·exact atrL_lt _ b hb
 ·exact nstL_lt _ b hb
theorem nsts2 (a b : ByteArray) : nstsL [a, b] = nstL (bs a) ++ nstL (bs b) := by
 unfold nstsL
 simp
theorem enhead_ok (w : World) (e : Ent) (va vx : Value) (hva : SeqAt atrS w va e.attrs) (hvx : SeqAt extS w vx e.exts) (h : EntOk e) (hT : Tab w) : Calls Tryz.prog 50 #[entV e va vx] w fun r w' => r = .returned (.tuple #[.string (strB (headL e)), .int .i64 0]) ∧ Below w.heap.size w w' := by
 have HCk := Lib.hid (fun W (hW : Below w.heap.size w W) => encheck_ok W e va vx (hva.below hW) (hvx.below hW) h (hT.below hW))
 have HNm : Hid (∀ W : World, Calls Tryz.prog 94 #[] W fun e w' => (∃ g, e = .returned (.slice (some ⟨g, 0, none⟩) 6 6) ∧ Blk w' g 9 (namesB.map Value.string)) ∧ Below W.heap.size W w') := Lib.hid (fun W => (ennames_any W).mono fun e w' ⟨he, hw⟩ => ⟨⟨_, he, by rw [hw]; exact Blk.new W 9 (namesB.map Value.string)⟩, by rw [hw]; exact (Below.refl _ _).alloc (Nat.le_refl _) _⟩)
 have HT := Lib.hid hT
 have z := h.z
 have HhL := Lib.hid (headL_len h)
 obtain ⟨m, hm⟩ : ∃ m : Nat, e.k = (m : Int) + 1 := ⟨(e.k - 1).toNat, by have := h.kind; omega⟩
 have hm6 : m < 6 := by have := h.kind; omega
 have HLt := Lib.hid (headL_lt e)
 clear h hT
 obtain ⟨k, path, attrs, t, size, dig, exts⟩ := e
 dsimp only at hm hva hvx
 subst hm
 obtain ⟨R, hR⟩ : ∃ R, headL ⟨(m : Int) + 1, path, attrs, t, size, dig, exts⟩ = R := ⟨_, rfl⟩
 rw [hR] at HhL HLt ⊢
 rw [headL] at hR
 obtain ⟨N, hN⟩ : ∃ N, nameK ((m : Int) + 1) = N := ⟨_, rfl⟩
 have HNn : Hid (namesB[m]? = some N) := Lib.hid (by rw [namesB_at hm6, hN])
 have hNs : N.size ≤ 7 := by rw [← hN]; exact (nameK_some (by omega)).2
 dsimp only at hR
 rw [hN] at hR
 have hz1 := z.path
 have hz2 := z.tgt
 have hz3 := z.atn
 have Hkv := Lib.hid z.kv
 clear z hN
 dsimp only at hz1 hz2 hz3 Hkv
 have HR := Lib.hid hR
 clear hR
 have Hva := Lib.hid hva
 obtain ⟨Aa, ca, rfl, ha1, ha2⟩ := hva.slice
 obtain ⟨Ax, cx, rfl, hx1, hx2⟩ := hvx.slice
 clear hva hvx
 rw [entV] at HCk ⊢
 dsimp only at HCk ⊢
 have hK := Blk.new w 48 [.int .i64 ((m : Int) + 1), .string path, .slice Aa attrs.length ca, .string t, .int .i64 size, .string dig, .slice Ax exts.length cx]
 change Blk (w.alloc (.cells #[.int .i64 ((m : Int) + 1), .string path, .slice Aa attrs.length ca, .string t, .int .i64 size, .string dig, .slice Ax exts.length cx] 48)) _ _ _ at hK
 have HB0 := Lib.hid ((Below.refl w.heap.size w).alloc (Nat.le_refl _) (.cells #[.int .i64 ((m : Int) + 1), .string path, .slice Aa attrs.length ca, .string t, .int .i64 size, .string dig, .slice Ax exts.length cx] 48))
 have HK := Lib.hid hK
 clear hK
 obtain ⟨X, hX⟩ : ∃ X, strB (nstsL [N, path]) = X := ⟨_, rfl⟩
 have HXb : Hid (bs X = nstL (bs N) ++ nstL (bs path)) := Lib.hid (by rw [← hX, bs_strB (nstsL_lt _), nsts2])
 have HXz : Hid (X.size ≤ 1000000000) := Lib.hid (by
  have h1 := nstL_len N (by omega)
  have h2 := nstL_len path (by omega)
  rw [strB_size] at h1 h2
  rw [← hX, strB_size, nsts2, List.length_append]
  omega)
 have hwr : IntKind.i64.wrap ((m : Int) + 1 - 1) = (m : Int) := by rw [IntWalk.i64_in _ (by omega)]; omega
 have hwr2 : (m : Int) + 1 - 1 = m := by omega
 have hwr3 : IntKind.i64.wrap (m : Int) = (m : Int) := by rw [IntWalk.i64_in _ (by omega)]
 have hm6I : (m : Int) < 6 := by omega
 go_enter Tryz.func50, Tryz.ntmps50
 go_upto_region 1 with fail
 generalize w.alloc (.cells #[.int .i64 ((m : Int) + 1), .string path, .slice Aa attrs.length ca, .string t, .int .i64 size, .string dig, .slice Ax exts.length cx] 48) = wb at *
 have c0 := HK.out.cell (i := 0) rfl
 have c1 := HK.out.cell (i := 1) rfl
 have c2 := HK.out.cell (i := 2) rfl
 have c3 := HK.out.cell (i := 3) rfl
 have c4 := HK.out.cell (i := 4) rfl
 have c5 := HK.out.cell (i := 5) rfl
 have c6 := HK.out.cell (i := 6) rfl
 go_wp2_with fail
 refine (HCk.out _ HB0.out).mono ?_
 rintro e1 w1 ⟨rfl, hb1⟩
 have HK1 := Lib.hid (HK.out.kept hb1)
 have HB1 := Lib.hid (HB0.out.trans (hb1.mono HB0.out.size))
 clear hb1 c0 c1 c2 c3 c4 c5 c6 HK HB0
 have HSs : Hid (∀ (W : World) (v : Value), Below w1.heap.size w1 W → SeqAt strS W v [N, path] → Calls Tryz.prog 93 #[v] W fun e w' => e = .returned (.string X) ∧ Below W.heap.size W w') := Lib.hid (fun W v hW hv => by
  rw [← hX]
  exact nstrings_any W v [N, path] hv (by simp) (fun s hs => by
   simp only [List.mem_cons, List.not_mem_nil, or_false] at hs
   rcases hs with rfl | rfl <;> omega) (HT.out.below (HB1.out.trans (hW.mono HB1.out.size))))
 clear hX
 have HBl0 := Lib.hid (Bld.new w1)
 have HBc0 := Lib.hid ((Below.refl w1.heap.size w1).alloc (Nat.le_refl _) (.cells #[.pointer none, .slice none 0 0] 112))
 go_upto_region 5 with fail
 generalize w1.alloc (.cells #[.pointer none, .slice none 0 0] 112) = wz at *
 have HBl := Lib.hid HBl0.out.drew
 have HBc := Lib.hid HBc0.out.drew
 go_cut [] (fun wx => Bld wx w1.heap.size w1.heap.size ([] ++ bs X) ∧ Below w1.heap.size w1 wx)
 case first =>
  refine wp_region_held_drew (S := (fun W => W.cell? ⟨w.heap.size, 0, none⟩ = some (.int .i64 ((m : Int) + 1)) ∧ W.cell? ⟨w.heap.size, 1, none⟩ = some (.string path))) (by kernel_rfl) ?_ (fun hHeld => ?_)
  ·exact ⟨(HK1.out.kept HBc.out).cell (i := 0) rfl, (HK1.out.kept HBc.out).cell (i := 1) rfl⟩
  refine tk 1 ?_
  refine tk 2 ?_
  refine tk 3 ?_
  refine tk 6 ?_
  refine tk 7 ?_
  refine wpAnyH_ready (rs := [0]) (by kernel_rfl) (by simp) ?_
  refine AllReadyH.cons (o := _) rfl (fun K hK => ?_) ?_
  ·go_simp
   refine (HNm.out _).mono ?_
   rintro e5 w5 ⟨⟨g, rfl, hnb⟩, hb5⟩
   (try go_wp2_with fail)
   have HNb := Lib.hid hnb
   have HBl := Lib.hid (HBl.out.below hb5)
   have HBc := Lib.hid (HBc.out.trans (hb5.mono HBc.out.size))
   clear hb5 hnb
   refine hko hK (by exact ⟨(HK1.out.kept HBc.out).cell (i := 0) rfl, (HK1.out.kept HBc.out).cell (i := 1) rfl⟩) (fun _ => ?_)
   clear hK K
   refine tk 4 ?_
   refine wpAnyH_ready (rs := [5]) (by kernel_rfl) (by simp) ?_
   refine AllReadyH.cons (o := _) rfl (fun K hK => ?_) ?_
   ·have q0 := HNb.out.cell (i := m) (u := .string N) (by rw [List.getElem?_map, HNn.out]; rfl)
    go_simp
    clear q0
    refine hko hK (by exact ⟨(HK1.out.kept HBc.out).cell (i := 0) rfl, (HK1.out.kept HBc.out).cell (i := 1) rfl⟩) (fun _ => ?_)
    clear hK K
    refine wpAnyH_ready (rs := [8]) (by kernel_rfl) (by simp) ?_
    refine AllReadyH.cons (o := _) rfl (fun K hK => ?_) ?_
    ·go_simp
     have HV := Lib.hid (SeqAt.strs _ [N, path] 2 (Nat.le_refl 2) (by decide) : SeqAt strS (w5.alloc (.cells #[.string N, .string path] 9)) _ [N, path])
     have HBl := Lib.hid (HBl.out.alloc (.cells #[.string N, .string path] 9))
     have HBc := Lib.hid (HBc.out.alloc HBc.out.size (.cells #[.string N, .string path] 9))
     refine hko hK (by exact ⟨(HK1.out.kept HBc.out).cell (i := 0) rfl, (HK1.out.kept HBc.out).cell (i := 1) rfl⟩) (fun _ => ?_)
     clear hK K
     refine wpAnyH_ready (rs := [9]) (by kernel_rfl) (by simp) ?_
     refine AllReadyH.cons (o := _) rfl (fun K hK => ?_) ?_
     ·go_simp
      refine (HSs.out _ _ HBc.out HV.out).mono ?_
      rintro e6 w6 ⟨rfl, hb6⟩
      (try go_wp2_with fail)
      have HBl := Lib.hid (HBl.out.below hb6)
      have HBc := Lib.hid (HBc.out.trans (hb6.mono HBc.out.size))
      clear hb6
      refine hko hK (by exact ⟨(HK1.out.kept HBc.out).cell (i := 0) rfl, (HK1.out.kept HBc.out).cell (i := 1) rfl⟩) (fun _ => ?_)
      clear hK K
      refine wpAnyH_ready (rs := [10]) (by kernel_rfl) (by simp) ?_
      refine AllReadyH.cons (o := _) rfl (fun K hK => ?_) ?_
      ·go_simp
       refine (wsB _ _ _ _ X HBl.out (by decide) HXz.out HBc.out.size).mono ?_
       rintro e7 w7 ⟨rfl, hbl7, hb7⟩
       (try go_wp2_with fail)
       have HBl := Lib.hid hbl7
       have HBc := Lib.hid (HBc.out.trans hb7)
       clear hb7 hbl7
       refine hko hK (by exact ⟨(HK1.out.kept HBc.out).cell (i := 0) rfl, (HK1.out.kept HBc.out).cell (i := 1) rfl⟩) (fun _ => ?_)
       clear hK K
       refine wpAnyH_done (by kernel_rfl) ?_ _
       go_wp2_with fail
       go_meet
       exact ⟨HBl.out, HBc.out⟩
      exact AllReadyH.nil
     exact AllReadyH.nil
    exact AllReadyH.nil
   exact AllReadyH.nil
  exact AllReadyH.nil
 case rest =>
  obtain ⟨hbl, hbc⟩ := hcut
  have HBl1 := Lib.hid hbl
  have HBc1 := Lib.hid hbc
  clear hbl hbc HBl HBc HBl0 HBc0
  have HK2 := Lib.hid (HK1.out.kept HBc1.out)
  have c2 := HK2.out.cell (i := 2) rfl
  have HNu := Lib.hid (nnumber_any wc attrs.length (by omega) (HT.out.below (HB1.out.trans (HBc1.out.mono HB1.out.size))))
  obtain ⟨Y, hY⟩ : ∃ Y, strB (numL attrs.length) = Y := ⟨_, rfl⟩
  have HYb : Hid (bs Y = numL attrs.length) := Lib.hid (by rw [← hY, bs_strB (numL_lt _)])
  have HYz := Lib.hid (show Y.size ≤ 21 by rw [← hY]; exact numL_len _ (by omega))
  rw [hY] at HNu
  clear hY
  go_wp2_with fail
  refine HNu.out.mono ?_
  rintro e2 w2 ⟨rfl, hb2⟩
  have HW := Lib.hid (wsB w2 w1.heap.size w1.heap.size _ Y (HBl1.out.below hb2) (by rw [List.nil_append, bs_len]; exact HXz.out) (by have := HYz.out; omega) (HBc1.out.trans (hb2.mono HBc1.out.size)).size)
  have HBc2 := Lib.hid (HBc1.out.trans (hb2.mono HBc1.out.size))
  clear hb2 c2
  go_wp2_with fail
  refine HW.out.mono ?_
  rintro e3 w3 ⟨rfl, hbl3, hb3⟩
  obtain ⟨A0, hA0⟩ : ∃ A0, [] ++ bs X ++ bs Y = A0 := ⟨_, rfl⟩
  rw [hA0] at hbl3
  have HA0 : Hid (A0 = nstL (bs N) ++ nstL (bs path) ++ numL attrs.length) := Lib.hid (by rw [← hA0, List.nil_append, HXb.out, HYb.out])
  have HA0l : Hid (A0.length ≤ 1000) := Lib.hid (by
   have h1 := nstL_len N (by omega)
   have h2 := nstL_len path (by omega)
   have h3 := numL_len attrs.length (by omega)
   rw [strB_size] at h1 h2 h3
   rw [HA0.out, List.length_append, List.length_append]
   omega)
  have HBl3 := Lib.hid hbl3
  have HBc3 := Lib.hid (HBc2.out.trans hb3)
  have HK3 := Lib.hid (HK1.out.kept HBc3.out)
  clear hbl3 hb3 hA0 HBl1 HBc1 HBc2 HK2 HW
  have c2 := HK3.out.cell (i := 2) rfl
  have HAl : Hid (∀ i, (atrL (attrs.take i)).length ≤ 10000) := Lib.hid (fun i => by
   have h1 := atrL_len (l := attrs.take i) (m := 64) (by omega) (fun a h => Hkv.out a (List.mem_of_mem_take h))
   have h2 := Nat.mul_le_mul (show (attrs.take i).length ≤ 16 by rw [List.length_take]; omega) (Nat.le_refl (2 * 64 + 44))
   omega)
  go_wp2
  go_loopw [32] (fun x wr => ∃ i : Nat, i ≤ attrs.length ∧ x = .int .i64 (i : Int) ∧ Bld wr w1.heap.size w1.heap.size (A0 ++ atrL (attrs.take i)) ∧ Below w1.heap.size w1 wr) (fun x _ => attrs.length - (intOf x).toNat)
  case atStart => exact ⟨0, by omega, rfl, by rw [List.take_zero, show atrL [] = [] from rfl, List.append_nil]; exact HBl3.out, HBc3.out⟩
  case round =>
   obtain ⟨i, hi, rfl, hbl, hB⟩ := hrel
   have HBl := Lib.hid hbl
   have HB := Lib.hid hB
   clear hbl hB c2
   by_cases h : i < attrs.length
   ·have hiI : (i : Int) < attrs.length := by omega
    obtain ⟨a, ha⟩ : ∃ a, attrs[i]? = some a := ⟨_, List.getElem?_eq_getElem h⟩
    obtain ⟨hak, hav⟩ := Hkv.out a (List.mem_of_getElem? ha)
    have HNx := Lib.hid (atrL_take ha)
    obtain ⟨_, _, e9, _, _, h4⟩ := Hva.out.below (HB1.out.trans (HB.out.mono HB1.out.size))
    cases e9
    obtain ⟨b, o, cs, rfl, rfl, hc⟩ := h4 i a ha
    obtain ⟨ak, av⟩ := a
    dsimp only at hak hav HNx
    have e0 : wr.cell? ⟨b, o + i * 2, none⟩ = some (.string ak) := hc 0 _ rfl
    have e1 : wr.cell? ⟨b, o + i * 2 + 1, none⟩ = some (.string av) := hc 1 _ rfl
    have hTm := Blk.new wr 123 [.string ak, .string av]
    change Blk (wr.alloc (.cells #[.string ak, .string av] 123)) _ _ _ at hTm
    have HTm := Lib.hid hTm
    have HBt := Lib.hid (HB.out.alloc HB.out.size (.cells #[.string ak, .string av] 123))
    have HBlt := Lib.hid (HBl.out.alloc (.cells #[.string ak, .string av] 123))
    clear hc h4 ha hTm
    go_upto_region 10 with fail
    generalize wr.alloc (.cells #[.string ak, .string av] 123) = wt at *
    clear e0 e1
    have t0 := HTm.out.cell (i := 0) rfl
    have t1 := HTm.out.cell (i := 1) rfl
    obtain ⟨Z, hZ⟩ : ∃ Z, strB (nstsL [ak, av]) = Z := ⟨_, rfl⟩
    have HZb : Hid (bs Z = nstL (bs ak) ++ nstL (bs av)) := Lib.hid (by rw [← hZ, bs_strB (nstsL_lt _), nsts2])
    have HZz : Hid (Z.size ≤ 1000000000) := Lib.hid (by
     have h1 := nstL_len ak (by omega)
     have h2 := nstL_len av (by omega)
     rw [strB_size] at h1 h2
     rw [← hZ, strB_size, nsts2, List.length_append]
     omega)
    have HSq : Hid (Calls Tryz.prog 93 #[.slice (some ⟨wt.heap.size, 0, none⟩) 2 2] (wt.alloc (.cells #[.string ak, .string av] 9)) fun e w' => e = .returned (.string Z) ∧ Below (wt.alloc (.cells #[.string ak, .string av] 9)).heap.size (wt.alloc (.cells #[.string ak, .string av] 9)) w') := Lib.hid (by
     rw [← hZ]
     exact nstrings_any _ _ [ak, av] (SeqAt.strs wt [ak, av] 2 (Nat.le_refl 2) (by decide)) (by simp) (fun s hs => by
      simp only [List.mem_cons, List.not_mem_nil, or_false] at hs
      rcases hs with rfl | rfl <;> omega) (HT.out.below (HB1.out.trans ((HBt.out.alloc HBt.out.size _).mono HB1.out.size))))
    clear hZ
    have HBu := Lib.hid (HBt.out.alloc HBt.out.size (.cells #[.string ak, .string av] 9))
    have HBlu := Lib.hid (HBlt.out.alloc (.cells #[.string ak, .string av] 9))
    go_wp2_with fail
    refine HSq.out.mono ?_
    rintro e4 w4 ⟨rfl, hb4⟩
    have HW := Lib.hid (wsB w4 w1.heap.size w1.heap.size _ Z (HBlu.out.below hb4) (by rw [List.length_append]; have := HA0l.out; have := HAl.out i; omega) HZz.out (HBu.out.trans (hb4.mono HBu.out.size)).size)
    have HB4 := Lib.hid (HBu.out.trans (hb4.mono HBu.out.size))
    clear hb4
    go_wp2_with fail
    refine HW.out.mono ?_
    rintro e5 w5 ⟨rfl, hbl5, hb5⟩
    have HBl5 := Lib.hid hbl5
    have HB5 := Lib.hid (HB4.out.trans hb5)
    clear hbl5 hb5
    go_wp2_with fail
    go_roundw
    case rel => exact ⟨i + 1, by omega, by go_num, by rw [HNx.out, ← HZb.out, ← List.append_assoc]; exact HBl5.out, HB5.out⟩
    case measure => simp [intOf]; omega
   ·obtain rfl : i = attrs.length := by omega
    have hiI : ¬ ((attrs.length : Nat) : Int) < (attrs.length : Int) := by omega
    have HKr := Lib.hid (HK1.out.kept HB.out)
    have c3 := HKr.out.cell (i := 3) rfl
    obtain ⟨Z, hZ⟩ : ∃ Z, strB (nstL (bs t)) = Z := ⟨_, rfl⟩
    have HZb : Hid (bs Z = nstL (bs t)) := Lib.hid (by rw [← hZ, bs_strB (nstL_lt _)])
    have HZz := Lib.hid (show Z.size ≤ 300 by rw [← hZ]; have := nstL_len t (by omega); omega)
    have HSq := Lib.hid (nnstring_any wr t (by omega) (HT.out.below (HB1.out.trans (HB.out.mono HB1.out.size))))
    rw [hZ] at HSq
    clear hZ
    have HRl : Hid (A0 ++ atrL (attrs.take attrs.length) ++ bs Z = R) := Lib.hid (by rw [← HR.out, HA0.out, HZb.out, List.take_length])
    go_wp2_with fail
    refine HSq.out.mono ?_
    rintro e4 w4 ⟨rfl, hb4⟩
    have HW := Lib.hid (wsB w4 w1.heap.size w1.heap.size _ Z (HBl.out.below hb4) (by rw [List.length_append]; have := HA0l.out; have := HAl.out attrs.length; omega) (by have := HZz.out; omega) (HB.out.trans (hb4.mono HB.out.size)).size)
    have HB4 := Lib.hid (HB.out.trans (hb4.mono HB.out.size))
    rw [HRl.out] at HW
    clear hb4
    go_wp2_with fail
    refine HW.out.mono ?_
    rintro e5 w5 ⟨rfl, hbl5, hb5⟩
    have HS := Lib.hid (str_any w5 w1.heap.size w1.heap.size R HLt.out hbl5 (HB4.out.trans hb5).size)
    have HB5 := Lib.hid (HB4.out.trans hb5)
    clear hbl5 hb5
    go_wp2_with fail
    refine HS.out.mono ?_
    rintro e6 w6 ⟨rfl, _, hb6⟩
    have HB6 := Lib.hid (HB1.out.trans ((HB5.out.trans hb6).mono HB1.out.size))
    clear hb6
    go_wp2_with fail
    go_ret2
    exact ⟨rfl, HB6.out⟩
end
end Go.Proofs.YtbccghbngaiceaaGreatDoor
