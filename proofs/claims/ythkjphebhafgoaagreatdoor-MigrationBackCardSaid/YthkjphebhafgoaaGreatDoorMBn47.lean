/-
  Joined: MbZ.
-/
import Derived.Test.YthkjphebhafgoaaGreatDoorMBn40
set_option linter.all false
set_option maxRecDepth 100000
set_option maxHeartbeats 64000000
namespace Go.Proofs.YthkjphebhafgoaaGreatDoor
section
open Go.RowKit
theorem great32_any (w : World) (v : Value) (l : List Atr) (hv : SeqAt atrS w v l) : Calls Tryz.prog 27 #[v] w fun r w' => (∃ k : Int, r = .returned (.int .i64 k)) ∧ w = w' := by
 have HV := Lib.hid hv
 obtain ⟨A, c, rfl, _, _⟩ := hv.slice
 clear hv
 by_cases h30 : (30 : Int) < l.length
 ·go_enter Tryz.func27, Tryz.ntmps27
  go_wp2
  go_ret
  exact ⟨⟨_, rfl⟩, rfl⟩
 go_enter Tryz.func27, Tryz.ntmps27
 go_wp2
 go_loopw [3] (fun x wr => ∃ k : Nat, k ≤ l.length ∧ x = .int .i64 (k : Int) ∧ w = wr) (fun x _ => l.length - (intOf x).toNat)
 case atStart => exact ⟨0, by omega, rfl, rfl⟩
 case round =>
  obtain ⟨k, hk, rfl, rfl⟩ := hrel
  by_cases h : k < l.length
  ·have hkI : (k : Int) < l.length := by omega
   obtain ⟨x, hx⟩ : ∃ x, l[k]? = some x := ⟨_, List.getElem?_eq_getElem h⟩
   obtain ⟨_, _, e9, _, _, h4⟩ := HV.out
   cases e9
   obtain ⟨b, o, cs, rfl, hR9, hc⟩ := h4 k x hx
   obtain rfl := hR9
   have c0 : w.cell? ⟨b, o + k * 2, none⟩ = some (.string x.k) := hc 0 _ rfl
   have c1 : w.cell? ⟨b, o + k * 2 + 1, none⟩ = some (.string x.v) := hc 1 _ rfl
   clear hc h4 hx
   by_cases h1 : (100 : Int) < x.k.size
   ·go_wp2
    go_ret
    exact ⟨⟨_, rfl⟩, rfl⟩
   by_cases h2 : (100 : Int) < x.v.size
   ·go_wp2
    go_ret
    exact ⟨⟨_, rfl⟩, rfl⟩
   go_wp2
   go_roundw
   case rel => exact ⟨k + 1, by omega, by go_num, by first | rfl | trivial⟩
   case measure => simp [intOf]; omega
  ·obtain rfl : k = l.length := by omega
   have hkI : ¬ ((l.length : Nat) : Int) < (l.length : Int) := by omega
   go_wp2
   go_ret
   exact ⟨⟨_, rfl⟩, rfl⟩
def SmE (x : Ent) : Prop := x.path.size ≤ 300 ∧ x.tgt.size ≤ 300
theorem great36_any (w : World) (x : Ent) (va vx : Value) (ha : SeqAt atrS w va x.attrs) (hx : SeqAt extS w vx x.exts) : Calls Tryz.prog 11 #[entV x va vx] w fun r w' => (∃ k : Int, r = .returned (.int .i64 k) ∧ (k ≠ 1 → SmE x)) ∧ Below w.heap.size w w' := by
 obtain ⟨k, path, attrs, t, size, dig, exts⟩ := x
 dsimp only at ha hx
 rw [entV, SmE]
 dsimp only
 obtain ⟨A, c, rfl, _, _⟩ := hx.slice
 obtain ⟨Aa, ca, rfl, _, _⟩ := ha.slice
 have hB := (Below.refl w.heap.size w).alloc (Nat.le_refl _) (.cells #[.int .i64 k, .string path, .slice Aa attrs.length ca, .string t, .int .i64 size, .string dig, .slice A exts.length c] 48)
 have hK : Blk (w.alloc (.cells #[.int .i64 k, .string path, .slice Aa attrs.length ca, .string t, .int .i64 size, .string dig, .slice A exts.length c] 48)) w.heap.size 48 [.int .i64 k, .string path, .slice Aa attrs.length ca, .string t, .int .i64 size, .string dig, .slice A exts.length c] := Blk.new w _ _
 have HG := Lib.hid (great32_any _ _ attrs (ha.below hB))
 have HB := Lib.hid hB
 have a1 := hK.cell (i := 1) rfl
 have a2 := hK.cell (i := 2) rfl
 have a3 := hK.cell (i := 3) rfl
 have a5 := hK.cell (i := 5) rfl
 have a6 := hK.cell (i := 6) rfl
 clear hB hK ha hx
 by_cases h1 : (300 : Int) < path.size
 ·go_enter Tryz.func11, Tryz.ntmps11
  go_wp2
  go_ret
  exact ⟨⟨_, rfl, fun h => absurd rfl h⟩, HB.out⟩
 by_cases h2 : (300 : Int) < t.size
 ·go_enter Tryz.func11, Tryz.ntmps11
  go_wp2
  go_ret
  exact ⟨⟨_, rfl, fun h => absurd rfl h⟩, HB.out⟩
 have HS : Hid (path.size ≤ 300 ∧ t.size ≤ 300) := Lib.hid (by omega)
 by_cases h3 : (100 : Int) < dig.size
 ·go_enter Tryz.func11, Tryz.ntmps11
  go_wp2
  go_ret
  exact ⟨⟨_, rfl, fun h => absurd rfl h⟩, HB.out⟩
 by_cases h4 : (30 : Int) < exts.length
 ·go_enter Tryz.func11, Tryz.ntmps11
  go_wp2
  go_ret
  exact ⟨⟨_, rfl, fun h => absurd rfl h⟩, HB.out⟩
 go_enter Tryz.func11, Tryz.ntmps11
 go_wp2_with fail
 refine HG.out.mono ?_
 rintro e w2 ⟨⟨n, rfl⟩, rfl⟩
 by_cases hn : n = 1
 ·have g1 : (n == 1) = true := by rw [hn]; rfl
  clear hn
  go_wp2_with fail
  go_ret
  exact ⟨⟨_, rfl, fun h => absurd rfl h⟩, HB.out⟩
 ·have g1 : (n == 1) = false := beq_eq_false_iff_ne.2 hn
  clear hn
  go_wp2_with fail
  go_ret
  exact ⟨⟨_, rfl, fun _ => HS.out⟩, HB.out⟩
def SmS (x : Ses) : Prop := x.prev.size ≤ 100 ∧ x.str.size ≤ 1000 ∧ x.sig.size ≤ 2100 ∧ (x.ents.length ≤ 12 ∨ x.ents.length = 401) ∧ ∀ e ∈ x.ents, SmE e
theorem take_memM {α : Type} {l : List α} {i : Nat} {x : α} {p : α → Prop} (hx : l[i]? = some x) (h : ∀ y ∈ l.take i, p y) (hp : p x) : ∀ y ∈ l.take (i + 1), p y := by
 intro y hy
 rw [List.take_add_one, hx] at hy
 rcases List.mem_append.1 hy with hy | hy
 ·exact h y hy
 ·have e : y = x := by simpa using hy
  rw [e]
  exact hp
theorem great40_any (w : World) (x : Ses) (ve : Value) (hve : SeqAt entS w ve x.ents) : Calls Tryz.prog 10 #[.agg #[.int .i64 x.num, .int .i64 x.date, .string x.prev, ve, .string x.str, .string x.sig]] w fun r w' => (∃ k : Int, r = .returned (.int .i64 k) ∧ (k ≠ 1 → SmS x)) ∧ Below w.heap.size w w' := by
 obtain ⟨num, date, prev, l, st, sg⟩ := x
 rw [SmS]
 dsimp only at hve ⊢
 have HV := Lib.hid hve
 obtain ⟨A, c, rfl, _, _⟩ := hve.slice
 have HB := Lib.hid ((Below.refl w.heap.size w).alloc (Nat.le_refl _) (.cells #[.int .i64 num, .int .i64 date, .string prev, .slice A l.length c, .string st, .string sg] 43))
 have hK : Blk (w.alloc (.cells #[.int .i64 num, .int .i64 date, .string prev, .slice A l.length c, .string st, .string sg] 43)) w.heap.size 43 [.int .i64 num, .int .i64 date, .string prev, .slice A l.length c, .string st, .string sg] := Blk.new w _ _
 have HK := Lib.hid hK
 have a2 := hK.cell (i := 2) rfl
 have a3 := hK.cell (i := 3) rfl
 have a4 := hK.cell (i := 4) rfl
 have a5 := hK.cell (i := 5) rfl
 clear hK hve
 by_cases h1 : (100 : Int) < prev.size
 ·go_enter Tryz.func10, Tryz.ntmps10
  go_wp2
  go_ret
  exact ⟨⟨_, rfl, fun h => absurd rfl h⟩, HB.out⟩
 by_cases h2 : (1000 : Int) < st.size
 ·go_enter Tryz.func10, Tryz.ntmps10
  go_wp2
  go_ret
  exact ⟨⟨_, rfl, fun h => absurd rfl h⟩, HB.out⟩
 by_cases h3 : (2100 : Int) < sg.size
 ·go_enter Tryz.func10, Tryz.ntmps10
  go_wp2
  go_ret
  exact ⟨⟨_, rfl, fun h => absurd rfl h⟩, HB.out⟩
 have key : ∀ (hn : l.length ≤ 12 ∨ l.length = 401) (f4 : ((12 : Int) < l.length ∧ ((l.length : Int) != 401) = false) ∨ ¬ (12 : Int) < l.length), Calls Tryz.prog 10 #[.agg #[.int .i64 num, .int .i64 date, .string prev, .slice A l.length c, .string st, .string sg]] w fun r w' => (∃ k : Int, r = .returned (.int .i64 k) ∧ (k ≠ 1 → prev.size ≤ 100 ∧ st.size ≤ 1000 ∧ sg.size ≤ 2100 ∧ (l.length ≤ 12 ∨ l.length = 401) ∧ ∀ e ∈ l, SmE e)) ∧ Below w.heap.size w w' := by
  intro hn f4
  have HP : Hid (prev.size ≤ 100 ∧ st.size ≤ 1000 ∧ sg.size ≤ 2100 ∧ (l.length ≤ 12 ∨ l.length = 401)) := Lib.hid ⟨by omega, by omega, by omega, hn⟩
  clear hn
  go_enter Tryz.func10, Tryz.ntmps10
  go_upto_region 1 with fail
  generalize w.alloc (.cells #[.int .i64 num, .int .i64 date, .string prev, .slice A l.length c, .string st, .string sg] 43) = wb at *
  go_cut [31] (fun f wx => f = .bool false ∧ wx = wb)
  case first =>
   rcases f4 with ⟨f4, f5⟩ | f4
   ·go_wp2_with fail
    go_meet
    exact ⟨rfl, rfl⟩
   ·go_wp2_with fail
    go_meet
    exact ⟨rfl, rfl⟩
  case rest =>
   obtain ⟨rfl, rfl⟩ := hcut
   clear f4 h1 h2 h3 a2 a4 a5
   go_wp2
   go_loopw [3] (fun z wr => ∃ k : Nat, k ≤ l.length ∧ z = .int .i64 (k : Int) ∧ (∀ e ∈ l.take k, SmE e) ∧ Below wc.heap.size wc wr) (fun z _ => l.length - (intOf z).toNat)
   case atStart => exact ⟨0, by omega, rfl, fun e he => by simp at he, Below.refl _ _⟩
   case round =>
    obtain ⟨k, hk, rfl, hs, hB⟩ := hrel
    have HS := Lib.hid hs
    have HBr := Lib.hid hB
    clear hB hs a3
    have a3 := (HK.out.kept HBr.out).cell (i := 3) rfl
    by_cases h : k < l.length
    ·have hkI : (k : Int) < l.length := by omega
     obtain ⟨x, hx⟩ : ∃ x, l[k]? = some x := ⟨_, List.getElem?_eq_getElem h⟩
     have Hx := Lib.hid hx
     obtain ⟨_, _, e9, _, _, h4⟩ := (HV.out.below HB.out).below HBr.out
     cases e9
     obtain ⟨b, o, cs, rfl, hR9, hc⟩ := h4 k x hx
     obtain ⟨va, vx, rfl, hva, hvx⟩ := hR9
     have HG := Lib.hid (great36_any wr x va vx hva hvx)
     obtain ⟨Aa, ca, rfl, _, _⟩ := hva.slice
     obtain ⟨Ax, cx, rfl, _, _⟩ := hvx.slice
     rw [entV] at HG
     have e0 : wr.cell? ⟨b, o + k * 7, none⟩ = some (.int .i64 x.k) := hc 0 _ rfl
     have e1 : wr.cell? ⟨b, o + k * 7 + 1, none⟩ = some (.string x.path) := hc 1 _ rfl
     have e2 : wr.cell? ⟨b, o + k * 7 + 2, none⟩ = some (.slice Aa x.attrs.length ca) := hc 2 _ rfl
     have e3 : wr.cell? ⟨b, o + k * 7 + 3, none⟩ = some (.string x.tgt) := hc 3 _ rfl
     have e4 : wr.cell? ⟨b, o + k * 7 + 4, none⟩ = some (.int .i64 x.size) := hc 4 _ rfl
     have e5 : wr.cell? ⟨b, o + k * 7 + 5, none⟩ = some (.string x.dig) := hc 5 _ rfl
     have e6 : wr.cell? ⟨b, o + k * 7 + 6, none⟩ = some (.slice Ax x.exts.length cx) := hc 6 _ rfl
     clear hc h4 hx hva hvx
     go_wp2_with fail
     refine HG.out.mono ?_
     rintro e w2 ⟨⟨n, rfl, hn⟩, hb⟩
     have HN := Lib.hid hn
     have HB2 := Lib.hid (HBr.out.trans (hb.mono HBr.out.size))
     clear hn hb e0 e1 e2 e3 e4 e5 e6
     by_cases h1 : n = 1
     ·have g1 : (n == 1) = true := by rw [h1]; rfl
      clear h1
      go_wp2_with fail
      go_ret
      exact ⟨⟨_, rfl, fun h => absurd rfl h⟩, HB.out.trans (HB2.out.mono HB.out.size)⟩
     ·have g1 : (n == 1) = false := beq_eq_false_iff_ne.2 h1
      have HS2 := Lib.hid (take_memM Hx.out HS.out (HN.out h1))
      clear h1
      go_wp2_with fail
      go_roundw
      case rel => exact ⟨k + 1, by omega, by go_num, HS2.out, HB2.out⟩
      case measure => simp [intOf]; omega
    ·obtain rfl : k = l.length := by omega
     have hkI : ¬ ((l.length : Nat) : Int) < (l.length : Int) := by omega
     go_wp2
     go_ret
     exact ⟨⟨_, rfl, fun _ => ⟨HP.out.1, HP.out.2.1, HP.out.2.2.1, HP.out.2.2.2, by have := HS.out; rwa [List.take_length] at this⟩⟩, HB.out.trans (HBr.out.mono HB.out.size)⟩
 by_cases h4 : (12 : Int) < l.length
 ·by_cases h5 : l.length = 401
  ·exact key (.inr h5) (.inl ⟨h4, by rw [h5]; rfl⟩)
  ·have g5 : ((l.length : Int) != 401) = true := by rw [bne, beq_eq_false_iff_ne.2 (by omega)]; rfl
   clear key h5
   go_enter Tryz.func10, Tryz.ntmps10
   go_wp2
   go_ret
   exact ⟨⟨_, rfl, fun h => absurd rfl h⟩, HB.out⟩
 ·exact key (.inl (by omega)) (.inr h4)
end
end Go.Proofs.YthkjphebhafgoaaGreatDoor
