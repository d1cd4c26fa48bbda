/-
  WALK: the iterator over all sets of reels.
-/
import Derived.Test.YtgclbnfpipepfaaClone
import Derived.Test.YtgclbnfpipepfaaRangeAll
import Derived.RangeFuncBound
import Derived.RangeFuncCalls
import Derived.Shelf.Abstract
import Derived.Shelf.RegionOpen
import Derived.OwnWalkIn
import Derived.TacticsInMore
import Derived.LoopNIn
import Derived.LoopIn
import Derived.Deep.RegionHeld3
namespace Go.Proofs.Ytgclbnfpipepfaa
open Go.RowKit Go.Shelf
attribute [local go_sem] Oper.semAt_some

/-- The sets that extend 'set' by numbers from n - k on, below n, in the order in which they come. -/
def rest (n : Nat) : Nat → List Int → List (List Int)
  | 0, _ => []
  | k + 1, set => ((set ++ [((n - (k + 1) : Nat) : Int)]) :: rest n k (set ++ [((n - (k + 1) : Nat) : Int)])) ++ rest n k set

/-- The body's word to the iterator, as the iterator's helper is told of it. -/
def Rounds (l : Nat) (S : Nat → Prop) (J : List (List Int) → World → Prop) (xs : List (List Int)) : Prop :=
  ∀ pre x v W1, J pre W1 → IntsAt W1 v x → (pre ++ [x]) <+: xs → YieldAt Fence.wide 0 Try.prog l #[v] W1 fun e W' => e = .returned (.bool true) ∧ J (pre ++ [x]) W' ∧ KeepsOn S W1 W'

/-- The helper's three boxes. -/
structure Boxes (W : World) (l Y nb fb n : Nat) : Prop where
  y : W.cell? ⟨Y, 0, none⟩ = some (.func (.yield l) #[] #[])
  n : W.cell? ⟨nb, 0, none⟩ = some (.int .i64 n)
  f : W.cell? ⟨fb, 0, none⟩ = some (.func (.func 32) #[] #[.pointer (some ⟨Y, 0, none⟩), .pointer (some ⟨nb, 0, none⟩), .pointer (some ⟨fb, 0, none⟩)])

theorem cell_keeps {S : Nat → Prop} {A B : World} (h : KeepsOn S A B) {p : Addr} {u : Value} (hp : S p.block) (hc : A.cell? p = some u) : B.cell? p = some u :=
  (World.cell?_of_block (h.2 _ hp (World.block_lt_of_cell? _ _ hc))).trans hc
theorem Boxes.keeps {S : Nat → Prop} {A B : World} {l Y nb fb n : Nat} (h : Boxes A l Y nb fb n) (k : KeepsOn S A B) (hY : S Y) (hn : S nb) (hf : S fb) : Boxes B l Y nb fb n :=
  ⟨cell_keeps k hY h.y, cell_keeps k hn h.n, cell_keeps k hf h.f⟩

theorem KeepsOn.of_below {S : Nat → Prop} {A B : World} (h : Below A.heap.size A B) : KeepsOn S A B := ⟨h.size, fun k _ hk => h.block k hk⟩

def InS (S : Nat → Prop) (v : Value) : Prop := ∀ a n c, v = .slice (some a) n c → S a.block
theorem IntsAt.keeps {S : Nat → Prop} {A B : World} {v : Value} {xs : List Int} (h : IntsAt A v xs) (hv : InS S v) (k : KeepsOn S A B) : IntsAt B v xs := by
  obtain ⟨X, c, rfl, h1, h2, h3⟩ := h
  refine ⟨X, c, rfl, h1, h2, fun i x hi => ?_⟩
  obtain ⟨b, o, u, rfl, hc, hr⟩ := h3 i x hi
  exact ⟨b, o, u, rfl, cell_keeps k (p := ⟨b, o + i, none⟩) (hv ⟨b, o, none⟩ _ _ rfl) hc, hr⟩

theorem own_ge {w : World} {base n : Nat} {t : TypeId} {v : Value} {xs : List Value} (h : w.ownsRow base t 1 v n xs) : ∀ k, v.ownBlock = some k → base ≤ k := by
  rcases h.2 with ⟨rfl, _⟩ | ⟨g, cap, cur, rfl, hb, _⟩
  · intro k hk; cases hk
  · intro k hk; cases hk; exact hb

theorem own_mono {w : World} {base base' n : Nat} {t : TypeId} {v : Value} {xs : List Value} (h : w.ownsRow base t 1 v n xs) (hb : base' ≤ base) : w.ownsRow base' t 1 v n xs :=
  ⟨h.1, h.2.imp id fun ⟨g, cap, cur, a, b, c⟩ => ⟨g, cap, cur, a, Nat.le_trans hb b, c⟩⟩

/-- One number is appended to a row of the call's own, at a step of a region that draws. -/
theorem step_append1 (w : World) {ops : Array Oper} {o : Oper} {a : Act} {K : Act → World → Prop} {Q : Exit → Act → World → Prop} {E : Prop} (hgd : o.guard = none) (s x : Operand)
    (ho : o.op = .call { callee := .builtin .append, args := #[s, x], argTypes := #[22, 22] }) (B : Nat) (v : Value) (n : Nat) (xs : List Int) (r : Int) (hs : a.eval s = v) (g0 : Nat) (hx : a.eval x = .slice (some ⟨g0, 0, none⟩) 1 1)
    (hown : w.ownsRow B 3 1 v n (xs.map intV)) (hc : w.cell? ⟨g0, 0, none⟩ = some (intV r)) (hn : n ≤ 1000000) (hB : B ≤ w.heap.size)
    (h : ∀ g cap w', w'.ownsRow B 3 1 (.slice (some ⟨g, 0, none⟩) (n + 1) cap) (n + 1) (xs.map intV ++ [intV r]) → Below B w w' → K (a.put o.dst (.slice (some ⟨g, 0, none⟩) (n + 1) cap)) w') :
    if Region.wanted o (yielded ops a.tmps) = true then Oper.wp Try.prog o a w K Q else E := by
  obtain ⟨i0, hi, hz0, hz1, hz2⟩ := info_parts Try.infoI
  refine step_append_lies w hgd s x 22 ho B 3 i0 _ 1 8 Try.underlying22 hi hz0 hz1 hz2 rfl (by omega) v n (xs.map intV) hs hown ⟨g0, 0, none⟩ 1 1 [intV r] hx rfl (fun j u hj => ?_) (fun u hu => ?_) (by omega) (by unfold maxLen; omega) (by omega) hB _ rfl ?_
  · cases j with
    | zero => cases hj; rw [Addr.add_lit]; exact hc
    | succ j => cases hj
  · rw [List.mem_singleton.1 hu]; rfl
  · intro g cap w' h1 h2 _ _
    exact h g cap w' h1 ((Below.refl _ _).grown h2 hB (own_ge hown))

set_option maxHeartbeats 1000000 in
theorem from_in (l n Y nb fb N0 : Nat) (S : Nat → Prop) (hS : ∀ k, N0 ≤ k → S k) (hSY : S Y) (hSn : S nb) (hSf : S fb) (J : List (List Int) → World → Prop) (xs : List (List Int)) (hn : n ≤ 1000)
    (hJ : ∀ s A B, J s A → Below A.heap.size A B → J s B) (hY : Rounds l S J xs) (k : Nat) :
    ∀ (set : List Int) (v : Value) (pre : List (List Int)) (W : World), k ≤ n → set.length + k ≤ n → N0 ≤ W.heap.size → J pre W → Boxes W l Y nb fb n → IntsAt W v set → InS S v → (pre ++ set :: rest n k set) <+: xs →
      CallsIn Fence.wide 0 Try.prog 32 #[v, .int .i64 ((n - k : Nat) : Int), .pointer (some ⟨Y, 0, none⟩), .pointer (some ⟨nb, 0, none⟩), .pointer (some ⟨fb, 0, none⟩)] W
        fun e W' => e = .returned (.bool true) ∧ J (pre ++ set :: rest n k set) W' ∧ KeepsOn S W W' := by
  induction k using Nat.strongRecOn with
  | _ k ih =>
    intro set v pre W hk hlen hN hj hb hv hvS hpre
    obtain ⟨fn, tmps, assign, body, hy, hR⟩ := hY pre set v W hj hv (List.IsPrefix.trans ⟨rest n k set, by simp⟩ hpre)
    obtain ⟨hb1, hb2, hb3⟩ := id hb
    have Hpre := Lib.hid hpre
    have HR := Lib.hid hR
    have Hb := Lib.hid hb
    have Hv := Lib.hid hv
    have Ih := Lib.hid ih
    have HJ := Lib.hid hJ
    clear hpre hR hb hv ih hJ hY
    refine callsIn_of_wp Try.func32 rfl trivial ?_ rfl
    simp only [Try.ntmps32, List.size_toArray, List.length_cons, List.length_nil, Nat.reduceAdd, Nat.reduceSub, Array.replicate_succ, Array.replicate_zero, List.push_toArray, List.append_toArray, List.nil_append, List.cons_append]
    gi_wp2
    refine ⟨rfl, HR.out.mono ?_⟩
    rintro e W1 ⟨rfl, hj1, hk1⟩
    have hb' := Hb.out.keeps hk1 hSY hSn hSf
    have hv1 := Hv.out.keeps hvS hk1
    have Hv1 := Lib.hid hv1
    have Hb1 := Lib.hid hb'
    clear hb' hv1 hb1 hb2 hb3 hy
    gi_wp2
    gi_loopw [8] (fun r wr => ∃ (j : Nat) (done : List (List Int)), j ≤ k ∧ r = .int .i64 ((n - j : Nat) : Int) ∧ done ++ rest n j set = rest n k set ∧ J (pre ++ set :: done) wr ∧ KeepsOn S W wr ∧ Boxes wr l Y nb fb n ∧ IntsAt wr v set)
      (fun r _ => n - (intOf r).toNat)
    case atStart => exact ⟨k, [], Nat.le_refl _, rfl, rfl, hj1, hk1, Hb1.out, Hv1.out⟩
    case round =>
      obtain ⟨j, done, hjk, rfl, hdone, hjr, hkr, hbr, hvr⟩ := hrel
      obtain ⟨hb1, hb2, hb3⟩ := id hbr
      have Hdone := Lib.hid hdone
      have Hbr := Lib.hid hbr
      have Hvr := Lib.hid hvr
      clear hdone hbr hvr
      cases j with
      | zero =>
        have hlt : ¬ ((n - 0 : Nat) : Int) < n := by omega
        gi_wp2
        refine bodyPost_ret (results_tmp rfl _ _ _) rfl ?_
        refine ⟨rfl, ?_, hkr⟩
        have e := Hdone.out
        simp only [rest, List.append_nil] at e
        rw [← e]; exact hjr
      | succ j =>
        have hlt : ((n - (j + 1) : Nat) : Int) < n := by omega
        have hwr1 : IntKind.i64.wrap (((n - (j + 1) : Nat) : Int) + 1) = ((n - j : Nat) : Int) := by rw [IntWalk.i64_in _ (by omega)]; omega
        have hr0 : (0 : Int) ≤ ((n - (j + 1) : Nat) : Int) := by omega
        obtain ⟨i0, hi, hz0, hz1, hz2⟩ := info_parts Try.infoI
        have Rec : ∀ (w2 : World) (g cap : Nat), w2.ownsRow wr.heap.size 3 1 (.slice (some ⟨g, 0, none⟩) (set.length + 1) cap) (set.length + 1) (set.map intV ++ [intV ((n - (j + 1) : Nat) : Int)]) → Below wr.heap.size wr w2 →
            Calls Try.prog 32 #[.slice (some ⟨g, 0, none⟩) (set.length + 1) cap, .int .i64 ((n - j : Nat) : Int), .pointer (some ⟨Y, 0, none⟩), .pointer (some ⟨nb, 0, none⟩), .pointer (some ⟨fb, 0, none⟩)] w2
              fun e W' => e = .returned (.bool true) ∧ J (pre ++ set :: (done ++ (set ++ [((n - (j + 1) : Nat) : Int)]) :: rest n j (set ++ [((n - (j + 1) : Nat) : Int)]))) W' ∧ KeepsOn S wr W' := by
          intro w2 g cap hown hbw
          have hk2 : KeepsOn S wr w2 := KeepsOn.of_below hbw
          have hi2 : IntsAt w2 (.slice (some ⟨g, 0, none⟩) (set.length + 1) cap) (set ++ [((n - (j + 1) : Nat) : Int)]) := IntsAt.of_own (base := wr.heap.size) (n := set.length + 1) (by simpa using hown)
          have hge : wr.heap.size ≤ g := own_ge hown g rfl
          have hWr : N0 ≤ wr.heap.size := Nat.le_trans hN hkr.1
          have hrest : rest n (j + 1) set = (set ++ [((n - (j + 1) : Nat) : Int)]) :: rest n j (set ++ [((n - (j + 1) : Nat) : Int)]) ++ rest n j set := rfl
          refine (callsIn_wide.1 (Ih.out j (by omega) (set ++ [((n - (j + 1) : Nat) : Int)]) _ (pre ++ set :: done) w2 (by omega) (by simp; omega) (Nat.le_trans hWr hbw.size) (HJ.out _ _ _ hjr hbw) (Hbr.out.keeps hk2 hSY hSn hSf) hi2
            (fun a m c e => by cases e; exact hS _ (by show N0 ≤ g; omega)) ?_)).mono ?_
          · refine List.IsPrefix.trans ⟨rest n j set, ?_⟩ Hpre.out
            rw [← Hdone.out, hrest]
            simp
          · rintro e W' ⟨rfl, h1, h2⟩
            refine ⟨rfl, ?_, hk2.trans h2⟩
            simpa using h1
        have HRec := Lib.hid Rec
        clear Rec
        have HvA := Lib.hid (clone_any wr.drew v set (show IntsAt wr.drew v set from Hvr.out) (by omega))
        have HvB := Lib.hid (clone_any (wr.alloc (.cells #[intV ((n - (j + 1) : Nat) : Int)] 3)).drew v set (show IntsAt (wr.alloc (.cells #[intV ((n - (j + 1) : Nat) : Int)] 3)).drew v set from Hvr.out.alloc _) (by omega))
        gi_wp2
        refine wpIn_wide.2 ?_
        go_region_held3 (fun w' => w'.cell? ⟨fb, 0, none⟩ = some (.func (.func 32) #[] #[.pointer (some ⟨Y, 0, none⟩), .pointer (some ⟨nb, 0, none⟩), .pointer (some ⟨fb, 0, none⟩)]))
          (first
            | exact hb3
            | exact cell_below (by assumption) hb3
            | exact cell_below ((Below.refl _ _).alloc (Nat.le_refl _) _) (by assumption)
            | exact cell_keeps (by assumption) hSf hb3)
          (first
            | (go_at_call 24; (with_reducible refine HvA.out.mono ?_); rintro e w1 ⟨v1, rfl, hown1, hbl0⟩; have hbl1 : Below wr.heap.size wr w1 := (Below.refl wr.heap.size wr).drew.trans hbl0; clear hbl0)
            | (go_at_call 24; (with_reducible refine HvB.out.mono ?_); rintro e w1 ⟨v1, rfl, hown0, hbl0⟩; have hcB : w1.cell? ⟨wr.heap.size, 0, none⟩ = some (intV ((n - (j + 1) : Nat) : Int)) := cell_below hbl0 (by simp); have hbl1 : Below wr.heap.size wr w1 := ((Below.refl wr.heap.size wr).alloc (Nat.le_refl _) _).drew.trans (hbl0.mono (by simp)); have hownB := own_mono (base' := wr.heap.size) hown0 (by simp); clear hbl0)
            | (refine step_append1 _ (by rfl) _ _ (by rfl) wr.heap.size _ set.length set _ (by rfl) w1.heap.size (by rfl) (hown1.alloc _) (by simp; rfl) (by omega) (by have := hbl1.size; simp; omega) ?_; intro g cap w2 hown2 hbl20; have hbl2 : Below wr.heap.size wr w2 := (hbl1.alloc hbl1.size _).trans hbl20; clear hbl20)
            | (refine step_append1 _ (by rfl) _ _ (by rfl) wr.heap.size _ set.length set _ (by rfl) wr.heap.size (by rfl) hownB hcB (by omega) hbl1.size ?_; intro g cap w2 hown2 hbl20; have hbl2 : Below wr.heap.size wr w2 := hbl1.trans hbl20; clear hbl20)
            | (go_at_call 32; refine (HRec.out _ _ _ hown2 hbl2).mono ?_; rintro e w3 ⟨rfl, hj3, hk3⟩))
        all_goals
          gi_wp2
          go_roundw
          case rel =>
            refine ⟨j, _, by omega, by go_num, ?_, hj3, hkr.trans hk3, Hbr.out.keeps hk3 hSY hSn hSf, Hvr.out.keeps hvS hk3⟩
            rw [← Hdone.out]
            simp [rest]
          case measure => simp [intOf]; omega

end Go.Proofs.Ytgclbnfpipepfaa
