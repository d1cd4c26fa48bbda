/-
 WALKS: cmp.Or at int, collect.compare; PLAIN: frames in order.
-/
import Derived.Test.YtnlnmfkmbpihhaaGreatDoorCoT
import Derived.Test.YtnlnmfkmbpihhaaGreatDoorFrE
import Derived.Test.YtnlnmfkmbpihhaaGreatDoorShelg
import Derived.Shelf.SlSortCmp.NoneTotal
namespace Go.Proofs.YtnlnmfkmbpihhaaGreatDoor
open Go.RowKit

/-- The first that is not 0. -/
def orL : List Int → Int
 | [] => 0
 | x :: r => if x ≠ 0 then x else orL r
set_option maxHeartbeats 1000000 in
theorem or_any (w : World) (b : Nat) (xs : List Int) (hb : Blk w b 3 (xs.map fun x => .int .i64 x)) (hl : xs.length ≤ 1000) :
  Calls Tryz.prog 120 #[.slice (some ⟨b, 0, none⟩) xs.length xs.length] w fun e w' => e = .returned (.int .i64 (orL xs)) ∧ w = w' := by
 have Hb := Lib.hid hb
 obtain ⟨R, hR⟩ : ∃ R, orL xs = R := ⟨_, rfl⟩
 rw [hR]
 have HR := Lib.hid hR
 clear hb hR
 go_enter Tryz.func120, Tryz.ntmps120
 go_wp2
 go_loopw [8] (fun x wr => ∃ k : Nat, k ≤ xs.length ∧ x = .int .i64 (k : Int) ∧ R = orL (xs.drop k) ∧ wr = w) (fun x _ => xs.length - (intOf x).toNat)
 case atStart => exact ⟨0, by omega, rfl, HR.out.symm, rfl⟩
 case round =>
  obtain ⟨k, hk, rfl, hr, rfl⟩ := hrel
  have Hr := Lib.hid hr
  clear hr HR
  by_cases h : k < xs.length
  ·have hkI : (k : Int) < xs.length := by omega
   obtain ⟨x, hx⟩ : ∃ x, xs[k]? = some x := ⟨_, List.getElem?_eq_getElem h⟩
   have hc := Hb.out.cell (i := k) (by rw [List.getElem?_map, hx]; rfl)
   have hd : xs.drop k = x :: xs.drop (k + 1) := by
    obtain ⟨h1, h2⟩ := List.getElem?_eq_some_iff.1 hx
    rw [List.drop_eq_getElem_cons h1, h2]
   have hr := Hr.out
   rw [hd, orL] at hr
   by_cases h0 : x = 0
   ·rw [if_neg (by simpa using h0)] at hr
    subst h0
    have Hr2 := Lib.hid hr
    clear hr hx hd Hr
    go_wp2
    go_roundw
    case rel => exact ⟨k + 1, by omega, by go_num, Hr2.out, by first | rfl | trivial⟩
    case measure => simp [intOf]; omega
   ·rw [if_pos h0] at hr
    have hb0 : (x != 0) = true := by rw [bne_iff_ne]; exact h0
    have Hr2 := Lib.hid hr
    clear hr hx hd Hr h0
    go_wp2
    go_ret
    exact ⟨congrArg (fun z => Ending.returned (.int .i64 z)) Hr2.out.symm, rfl⟩
  ·obtain rfl : k = xs.length := by omega
   have hkI : ¬ (xs.length : Int) < xs.length := by omega
   have hr := Hr.out
   rw [List.drop_length, orL] at hr
   have Hr2 := Lib.hid hr
   clear hr Hr
   go_wp2
   go_ret
   exact ⟨congrArg (fun z => Ending.returned (.int .i64 z)) Hr2.out.symm, rfl⟩
/-- collect.compare. -/
def cmpF (f g : Frm) : Int := orL [Lib.compareInt f.s g.s, Lib.compareInt f.k g.k, Lib.compareInt f.r g.r, Lib.compareInt f.i g.i, Lib.compareInt f.d g.d, Lib.compareInt f.p g.p, Lib.compareInt f.l g.l, Lib.compareBytes f.t.data.toList g.t.data.toList]

set_option maxRecDepth 100000 in
set_option maxHeartbeats 8000000 in
theorem cmp_any (w : World) (f g : Frm) : Calls Tryz.prog 59 #[f.v, g.v] w fun e w' => e = .returned (.int .i64 (cmpF f g)) ∧ ∃ q os', w' = Sort.grow (w.drewN q) os' := by
 have HI : Hid (∀ (V : World) (x y : Int), Calls Tryz.prog 121 #[.int .i64 x, .int .i64 y] V fun e w' => e = .returned (.int .i64 (Lib.compareInt x y)) ∧ V = w') := Lib.hid (fun V x y => (AnyG.cmp_Compare_int Tryz.cmpInt x y V).mono fun _ _ ⟨h1, h2⟩ => ⟨h1, h2.symm⟩)
 have HS : Hid (∀ (V : World) (x y : ByteArray), Calls Tryz.prog 122 #[.string x, .string y] V fun e w' => e = .returned (.int .i64 (Lib.compareBytes x.data.toList y.data.toList)) ∧ V = w') := Lib.hid (fun V x y => (Any.strings_Compare Tryz.strCmp x y V).mono fun _ _ ⟨h1, h2⟩ => ⟨h1, h2.symm⟩)
 obtain ⟨k, r, s, i, l, d, p, a, t⟩ := f
 obtain ⟨k', r', s', i', l', d', p', a', t'⟩ := g
 unfold cmpF Frm.v frV
 dsimp only
 have C0 := Lib.hid (fun V => HI.out V s s')
 have C1 := Lib.hid (fun V => HI.out V k k')
 have C2 := Lib.hid (fun V => HI.out V r r')
 have C3 := Lib.hid (fun V => HI.out V i i')
 have C4 := Lib.hid (fun V => HI.out V d d')
 have C5 := Lib.hid (fun V => HI.out V p p')
 have C6 := Lib.hid (fun V => HI.out V l l')
 have C7 := Lib.hid (fun V => HS.out V t t')
 generalize Lib.compareInt s s' = x0 at *
 generalize Lib.compareInt k k' = x1 at *
 generalize Lib.compareInt r r' = x2 at *
 generalize Lib.compareInt i i' = x3 at *
 generalize Lib.compareInt d d' = x4 at *
 generalize Lib.compareInt p p' = x5 at *
 generalize Lib.compareInt l l' = x6 at *
 generalize Lib.compareBytes t.data.toList t'.data.toList = x7 at *
 clear HI HS
 have HOr : Hid (∀ (V : World) (b : Nat), Blk V b 3 [.int .i64 x0, .int .i64 x1, .int .i64 x2, .int .i64 x3, .int .i64 x4, .int .i64 x5, .int .i64 x6, .int .i64 x7] → Calls Tryz.prog 120 #[.slice (some ⟨b, 0, none⟩) 8 8] V fun e w' => e = .returned (.int .i64 (orL [x0, x1, x2, x3, x4, x5, x6, x7])) ∧ V = w') := Lib.hid (fun V b hb => or_any V b [x0, x1, x2, x3, x4, x5, x6, x7] hb (by simp))
 have h1 := Blk.new w 34 [.int .i64 k, .int .i64 r, .int .i64 s, .int .i64 i, .int .i64 l, .int .i64 d, .int .i64 p, .int .u32 a, .string t]
 change Blk (w.alloc (.cells #[.int .i64 k, .int .i64 r, .int .i64 s, .int .i64 i, .int .i64 l, .int .i64 d, .int .i64 p, .int .u32 a, .string t] 34)) _ _ _ at h1
 have H1 := Lib.hid (Box9.blk (h1.alloc (.cells #[.int .i64 k', .int .i64 r', .int .i64 s', .int .i64 i', .int .i64 l', .int .i64 d', .int .i64 p', .int .u32 a', .string t'] 34)))
 have h2 := Blk.new (w.alloc (.cells #[.int .i64 k, .int .i64 r, .int .i64 s, .int .i64 i, .int .i64 l, .int .i64 d, .int .i64 p, .int .u32 a, .string t] 34)) 34 [.int .i64 k', .int .i64 r', .int .i64 s', .int .i64 i', .int .i64 l', .int .i64 d', .int .i64 p', .int .u32 a', .string t']
 rw [show (w.alloc (.cells #[.int .i64 k, .int .i64 r, .int .i64 s, .int .i64 i, .int .i64 l, .int .i64 d, .int .i64 p, .int .u32 a, .string t] 34)).heap.size = w.heap.size + 1 by simp] at h2
 have H2 := Lib.hid (Box9.blk h2)
 change Hid (Box9 ((w.alloc (.cells #[.int .i64 k, .int .i64 r, .int .i64 s, .int .i64 i, .int .i64 l, .int .i64 d, .int .i64 p, .int .u32 a, .string t] 34)).alloc (.cells #[.int .i64 k', .int .i64 r', .int .i64 s', .int .i64 i', .int .i64 l', .int .i64 d', .int .i64 p', .int .u32 a', .string t'] 34)) _ _ _ _ _ _ _ _ _ _) at H2
 have Hwz : Hid (∃ os, (w.alloc (.cells #[.int .i64 k, .int .i64 r, .int .i64 s, .int .i64 i, .int .i64 l, .int .i64 d, .int .i64 p, .int .u32 a, .string t] 34)).alloc (.cells #[.int .i64 k', .int .i64 r', .int .i64 s', .int .i64 i', .int .i64 l', .int .i64 d', .int .i64 p', .int .u32 a', .string t'] 34) = Sort.grow (w.drewN 0) os) := Lib.hid ⟨_, by rw [Sort.alloc_eq_grow, Sort.alloc_eq_grow, Sort.grow_grow]; rfl⟩
 clear h1 h2
 generalize orL [x0, x1, x2, x3, x4, x5, x6, x7] = R at *
 go_enter Tryz.func59, Tryz.ntmps59
 go_upto_region 1 with fail
 generalize (w.alloc (.cells #[.int .i64 k, .int .i64 r, .int .i64 s, .int .i64 i, .int .i64 l, .int .i64 d, .int .i64 p, .int .u32 a, .string t] 34)).alloc (.cells #[.int .i64 k', .int .i64 r', .int .i64 s', .int .i64 i', .int .i64 l', .int .i64 d', .int .i64 p', .int .u32 a', .string t'] 34) = wz at *
 refine wp_region_held_drew (S := (fun W => Box9 W w.heap.size (.int .i64 k) (.int .i64 r) (.int .i64 s) (.int .i64 i) (.int .i64 l) (.int .i64 d) (.int .i64 p) (.int .u32 a) (.string t) ∧ Box9 W (w.heap.size + 1) (.int .i64 k') (.int .i64 r') (.int .i64 s') (.int .i64 i') (.int .i64 l') (.int .i64 d') (.int .i64 p') (.int .u32 a') (.string t'))) (by kernel_rfl) ?_ (fun hHeld => ?_)
 ·(first | exact ⟨H1.out, H2.out⟩ | exact ⟨H1.out.drw, H2.out.drw⟩ | exact ⟨(H1.out.keep ((Below.refl _ _).alloc (Nat.le_refl _) _)).drw, (H2.out.keep ((Below.refl _ _).alloc (Nat.le_refl _) _)).drw⟩)
 refine tk 0 ?_
 refine tk 1 ?_
 refine tk 2 ?_
 refine tk 3 ?_
 refine take_call (i := 4) (oi := _) (v := (.int .i64 x0)) rfl (by kernel_rfl) (by kernel_rfl) (by kernel_rfl) (fun _ _ _ h => h) (And.intro (by rfl) ?hya5) (by assumption) ?resta5
 case hya5 =>
  intro V hSw
  exact ⟨121, #[.int .i64 s, .int .i64 s'], by go_simp, C0.out V⟩
 try simp only [Act.put, List.setIfInBounds_toArray]
 try simp only [List.getElem_toArray, List.getElem_cons_zero, List.getElem_cons_succ]
 refine tk 5 ?_
 refine tk 6 ?_
 refine tk 7 ?_
 refine tk 8 ?_
 refine take_call (i := 9) (oi := _) (v := (.int .i64 x1)) rfl (by kernel_rfl) (by kernel_rfl) (by kernel_rfl) (fun _ _ _ h => h) (And.intro (by rfl) ?hya10) (by assumption) ?resta10
 case hya10 =>
  intro V hSw
  exact ⟨121, #[.int .i64 k, .int .i64 k'], by go_simp, C1.out V⟩
 try simp only [Act.put, List.setIfInBounds_toArray]
 try simp only [List.getElem_toArray, List.getElem_cons_zero, List.getElem_cons_succ]
 refine tk 10 ?_
 refine tk 11 ?_
 refine tk 12 ?_
 refine tk 13 ?_
 refine take_call (i := 14) (oi := _) (v := (.int .i64 x2)) rfl (by kernel_rfl) (by kernel_rfl) (by kernel_rfl) (fun _ _ _ h => h) (And.intro (by rfl) ?hya15) (by assumption) ?resta15
 case hya15 =>
  intro V hSw
  exact ⟨121, #[.int .i64 r, .int .i64 r'], by go_simp, C2.out V⟩
 try simp only [Act.put, List.setIfInBounds_toArray]
 try simp only [List.getElem_toArray, List.getElem_cons_zero, List.getElem_cons_succ]
 refine tk 15 ?_
 refine tk 16 ?_
 refine tk 17 ?_
 refine tk 18 ?_
 refine take_call (i := 19) (oi := _) (v := (.int .i64 x3)) rfl (by kernel_rfl) (by kernel_rfl) (by kernel_rfl) (fun _ _ _ h => h) (And.intro (by rfl) ?hya20) (by assumption) ?resta20
 case hya20 =>
  intro V hSw
  exact ⟨121, #[.int .i64 i, .int .i64 i'], by go_simp, C3.out V⟩
 try simp only [Act.put, List.setIfInBounds_toArray]
 try simp only [List.getElem_toArray, List.getElem_cons_zero, List.getElem_cons_succ]
 refine tk 20 ?_
 refine tk 21 ?_
 refine tk 22 ?_
 refine tk 23 ?_
 refine tk 24 ?_
 refine tk 25 ?_
 refine take_call (i := 26) (oi := _) (v := (.int .i64 x4)) rfl (by kernel_rfl) (by kernel_rfl) (by kernel_rfl) (fun _ _ _ h => h) (And.intro (by rfl) ?hya27) (by assumption) ?resta27
 case hya27 =>
  intro V hSw
  exact ⟨121, #[.int .i64 d, .int .i64 d'], by go_simp, C4.out V⟩
 try simp only [Act.put, List.setIfInBounds_toArray]
 try simp only [List.getElem_toArray, List.getElem_cons_zero, List.getElem_cons_succ]
 refine tk 27 ?_
 refine tk 28 ?_
 refine tk 29 ?_
 refine tk 30 ?_
 refine tk 31 ?_
 refine tk 32 ?_
 refine take_call (i := 33) (oi := _) (v := (.int .i64 x5)) rfl (by kernel_rfl) (by kernel_rfl) (by kernel_rfl) (fun _ _ _ h => h) (And.intro (by rfl) ?hya34) (by assumption) ?resta34
 case hya34 =>
  intro V hSw
  exact ⟨121, #[.int .i64 p, .int .i64 p'], by go_simp, C5.out V⟩
 try simp only [Act.put, List.setIfInBounds_toArray]
 try simp only [List.getElem_toArray, List.getElem_cons_zero, List.getElem_cons_succ]
 refine tk 34 ?_
 refine tk 35 ?_
 refine tk 36 ?_
 refine tk 37 ?_
 refine take_call (i := 38) (oi := _) (v := (.int .i64 x6)) rfl (by kernel_rfl) (by kernel_rfl) (by kernel_rfl) (fun _ _ _ h => h) (And.intro (by rfl) ?hya39) (by assumption) ?resta39
 case hya39 =>
  intro V hSw
  exact ⟨121, #[.int .i64 l, .int .i64 l'], by go_simp, C6.out V⟩
 try simp only [Act.put, List.setIfInBounds_toArray]
 try simp only [List.getElem_toArray, List.getElem_cons_zero, List.getElem_cons_succ]
 refine tk 39 ?_
 refine tk 40 ?_
 refine tk 41 ?_
 refine tk 42 ?_
 refine take_call (i := 43) (oi := _) (v := (.int .i64 x7)) rfl (by kernel_rfl) (by kernel_rfl) (by kernel_rfl) (fun _ _ _ h => h) (And.intro (by rfl) ?hya44) (by assumption) ?resta44
 case hya44 =>
  intro V hSw
  exact ⟨122, #[.string t, .string t'], by go_simp, C7.out V⟩
 try simp only [Act.put, List.setIfInBounds_toArray]
 try simp only [List.getElem_toArray, List.getElem_cons_zero, List.getElem_cons_succ]
 refine wpAnyH_ready (rs := [44]) (by kernel_rfl) (by simp) ?_
 refine AllReadyH.cons (o := _) rfl (fun K hK => ?_) ?_
 ·go_simp
  refine hko hK (by (first | exact ⟨H1.out, H2.out⟩ | exact ⟨H1.out.drw, H2.out.drw⟩ | exact ⟨(H1.out.keep ((Below.refl _ _).alloc (Nat.le_refl _) _)).drw, (H2.out.keep ((Below.refl _ _).alloc (Nat.le_refl _) _)).drw⟩)) (fun _ => ?_)
  clear hK K
  refine wpAnyH_ready (rs := [45]) (by kernel_rfl) (by simp) ?_
  refine AllReadyH.cons (o := _) rfl (fun K hK => ?_) ?_
  ·go_simp
   refine (HOr.out _ _ (by first | exact (Blk.new wz 3 _) | exact (Blk.new wz.drew 3 _))).mono ?_
   rintro e w6 ⟨rfl, rfl⟩
   (try go_wp2_with fail)
   refine hko hK (by (first | exact ⟨H1.out, H2.out⟩ | exact ⟨H1.out.drw, H2.out.drw⟩ | exact ⟨(H1.out.keep ((Below.refl _ _).alloc (Nat.le_refl _) _)).drw, (H2.out.keep ((Below.refl _ _).alloc (Nat.le_refl _) _)).drw⟩)) (fun _ => ?_)
   clear hK K
   refine tk 46 ?_
   refine wpAnyH_done (by kernel_rfl) ?_ _
   go_wp2_with fail
   go_ret
   obtain ⟨os, e⟩ := Hwz.out
   exact ⟨rfl, 1, _, by rw [e, Sort.alloc_eq_grow, Sort.grow_grow]; rfl⟩
  exact AllReadyH.nil
 exact AllReadyH.nil

end Go.Proofs.YtnlnmfkmbpihhaaGreatDoor
