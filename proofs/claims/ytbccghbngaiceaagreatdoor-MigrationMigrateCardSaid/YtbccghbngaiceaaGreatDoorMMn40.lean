/-
  Joined: MgZ.
-/
import Derived.Test.YtbccghbngaiceaaGreatDoorMMn27
import Derived.Test.YtbccghbngaiceaaGreatDoorMMn28
set_option linter.all false
set_option maxRecDepth 100000
set_option maxHeartbeats 64000000
namespace Go.Proofs.YtbccghbngaiceaaGreatDoor
section
open Go.RowKit
theorem take_memM {α : Type} {l : List α} {i : Nat} {x : α} {p : α → Prop} (hx : l[i]? = some x) (h : ∀ y ∈ l.take i, p y) (hp : p x) : ∀ y ∈ l.take (i + 1), p y := by
 intro y hy
 rw [List.take_add_one, hx] at hy
 rcases List.mem_append.1 hy with hy | hy
 ·exact h y hy
 ·have e : y = x := by simpa using hy
  rw [e]
  exact hp
theorem great32_ex (w : World) (v : Value) (l : List Atr) (hv : SeqAt atrS w v l) : Calls Tryz.prog 30 #[v] w fun r w' => (∃ k : Int, r = .returned (.int .i64 k) ∧ (k ≠ 1 → ∀ a ∈ l, a.k.size ≤ 100)) ∧ w = w' := by
 have HV := Lib.hid hv
 obtain ⟨A, c, rfl, _, _⟩ := hv.slice
 clear hv
 by_cases h30 : (30 : Int) < l.length
 ·go_enter Tryz.func30, Tryz.ntmps30
  go_wp2
  go_ret
  exact ⟨⟨_, rfl, fun h => absurd rfl h⟩, rfl⟩
 go_enter Tryz.func30, Tryz.ntmps30
 go_wp2
 go_loopw [3] (fun x wr => ∃ k : Nat, k ≤ l.length ∧ x = .int .i64 (k : Int) ∧ (∀ a ∈ l.take k, a.k.size ≤ 100) ∧ w = wr) (fun x _ => l.length - (intOf x).toNat)
 case atStart => exact ⟨0, by omega, rfl, fun e he => by simp at he, rfl⟩
 case round =>
  obtain ⟨k, hk, rfl, hs, rfl⟩ := hrel
  have HS := Lib.hid hs
  clear hs
  by_cases h : k < l.length
  ·have hkI : (k : Int) < l.length := by omega
   obtain ⟨x, hx⟩ : ∃ x, l[k]? = some x := ⟨_, List.getElem?_eq_getElem h⟩
   have Hx := Lib.hid hx
   obtain ⟨_, _, e9, _, _, h4⟩ := HV.out
   cases e9
   obtain ⟨b, o, cs, rfl, hR9, hc⟩ := h4 k x hx
   obtain rfl := hR9
   have c0 : w.cell? ⟨b, o + k * 2, none⟩ = some (.string x.k) := hc 0 _ rfl
   have c1 : w.cell? ⟨b, o + k * 2 + 1, none⟩ = some (.string x.v) := hc 1 _ rfl
   clear hc h4 hx
   by_cases h1 : (100 : Int) < x.k.size
   ·go_wp2
    go_ret
    exact ⟨⟨_, rfl, fun h => absurd rfl h⟩, rfl⟩
   by_cases h2 : (100 : Int) < x.v.size
   ·go_wp2
    go_ret
    exact ⟨⟨_, rfl, fun h => absurd rfl h⟩, rfl⟩
   have HS2 := Lib.hid (take_memM Hx.out HS.out (show x.k.size ≤ 100 by omega))
   go_wp2
   go_roundw
   case rel => exact ⟨k + 1, by omega, by go_num, HS2.out, by first | rfl | trivial⟩
   case measure => simp [intOf]; omega
  ·obtain rfl : k = l.length := by omega
   have hkI : ¬ ((l.length : Nat) : Int) < (l.length : Int) := by omega
   have HE : Hid (∀ a ∈ l, a.k.size ≤ 100) := Lib.hid (by have h6 := HS.out; rw [List.take_length] at h6; exact h6)
   go_wp2
   go_ret
   exact ⟨⟨_, rfl, fun _ => HE.out⟩, rfl⟩
def SmEG (x : Ent) : Prop := x.path.size ≤ 300 ∧ x.tgt.size ≤ 300 ∧ (∀ a ∈ x.attrs, a.k.size ≤ 100) ∧ x.exts.length ≤ 30
theorem great36_ex (w : World) (x : Ent) (va vx : Value) (ha : SeqAt atrS w va x.attrs) (hx : SeqAt extS w vx x.exts) : Calls Tryz.prog 12 #[entV x va vx] w fun r w' => (∃ k : Int, r = .returned (.int .i64 k) ∧ (k ≠ 1 → SmEG x)) ∧ Below w.heap.size w w' := by
 obtain ⟨k, path, attrs, t, size, dig, exts⟩ := x
 dsimp only at ha hx
 rw [entV, SmEG]
 dsimp only
 obtain ⟨A, c, rfl, _, _⟩ := hx.slice
 obtain ⟨Aa, ca, rfl, _, _⟩ := ha.slice
 have hB := (Below.refl w.heap.size w).alloc (Nat.le_refl _) (.cells #[.int .i64 k, .string path, .slice Aa attrs.length ca, .string t, .int .i64 size, .string dig, .slice A exts.length c] 48)
 have hK : Blk (w.alloc (.cells #[.int .i64 k, .string path, .slice Aa attrs.length ca, .string t, .int .i64 size, .string dig, .slice A exts.length c] 48)) w.heap.size 48 [.int .i64 k, .string path, .slice Aa attrs.length ca, .string t, .int .i64 size, .string dig, .slice A exts.length c] := Blk.new w _ _
 have HG := Lib.hid (great32_ex _ _ attrs (ha.below hB))
 have HB := Lib.hid hB
 have a1 := hK.cell (i := 1) rfl
 have a2 := hK.cell (i := 2) rfl
 have a3 := hK.cell (i := 3) rfl
 have a5 := hK.cell (i := 5) rfl
 have a6 := hK.cell (i := 6) rfl
 clear hB hK ha hx
 by_cases h1 : (300 : Int) < path.size
 ·go_enter Tryz.func12, Tryz.ntmps12
  go_wp2
  go_ret
  exact ⟨⟨_, rfl, fun h => absurd rfl h⟩, HB.out⟩
 by_cases h2 : (300 : Int) < t.size
 ·go_enter Tryz.func12, Tryz.ntmps12
  go_wp2
  go_ret
  exact ⟨⟨_, rfl, fun h => absurd rfl h⟩, HB.out⟩
 by_cases h3 : (100 : Int) < dig.size
 ·go_enter Tryz.func12, Tryz.ntmps12
  go_wp2
  go_ret
  exact ⟨⟨_, rfl, fun h => absurd rfl h⟩, HB.out⟩
 by_cases h4 : (30 : Int) < exts.length
 ·go_enter Tryz.func12, Tryz.ntmps12
  go_wp2
  go_ret
  exact ⟨⟨_, rfl, fun h => absurd rfl h⟩, HB.out⟩
 go_enter Tryz.func12, Tryz.ntmps12
 go_wp2_with fail
 have HS : Hid (path.size ≤ 300 ∧ t.size ≤ 300 ∧ exts.length ≤ 30) := Lib.hid (by omega)
 refine HG.out.mono ?_
 rintro e w2 ⟨⟨n, rfl, hn3⟩, rfl⟩
 have HN3 := Lib.hid hn3
 clear hn3
 by_cases hn : n = 1
 ·have g1 : (n == 1) = true := by rw [hn]; rfl
  clear hn
  go_wp2_with fail
  go_ret
  exact ⟨⟨_, rfl, fun h => absurd rfl h⟩, HB.out⟩
 ·have g1 : (n == 1) = false := beq_eq_false_iff_ne.2 hn
  have HN := Lib.hid (HN3.out hn)
  clear hn
  go_wp2_with fail
  go_ret
  exact ⟨⟨_, rfl, fun _ => ⟨HS.out.1, HS.out.2.1, HN.out, HS.out.2.2⟩⟩, HB.out⟩
def SmSG (x : Ses) : Prop := x.prev.size ≤ 100 ∧ x.str.size ≤ 1000 ∧ x.sig.size ≤ 2100 ∧ (x.ents.length ≤ 12 ∨ x.ents.length = 401) ∧ ∀ e ∈ x.ents, SmEG e
theorem great40_ex (w : World) (x : Ses) (ve : Value) (hve : SeqAt entS w ve x.ents) : Calls Tryz.prog 11 #[.agg #[.int .i64 x.num, .int .i64 x.date, .string x.prev, ve, .string x.str, .string x.sig]] w fun r w' => (∃ k : Int, r = .returned (.int .i64 k) ∧ (k ≠ 1 → SmSG x)) ∧ Below w.heap.size w w' := by
 obtain ⟨num, date, prev, l, st, sg⟩ := x
 rw [SmSG]
 dsimp only at hve ⊢
 have HV := Lib.hid hve
 obtain ⟨A, c, rfl, _, _⟩ := hve.slice
 have HB := Lib.hid ((Below.refl w.heap.size w).alloc (Nat.le_refl _) (.cells #[.int .i64 num, .int .i64 date, .string prev, .slice A l.length c, .string st, .string sg] 43))
 have hK : Blk (w.alloc (.cells #[.int .i64 num, .int .i64 date, .string prev, .slice A l.length c, .string st, .string sg] 43)) w.heap.size 43 [.int .i64 num, .int .i64 date, .string prev, .slice A l.length c, .string st, .string sg] := Blk.new w _ _
 have HK := Lib.hid hK
 have a2 := hK.cell (i := 2) rfl
 have a3 := hK.cell (i := 3) rfl
 have a4 := hK.cell (i := 4) rfl
 have a5 := hK.cell (i := 5) rfl
 clear hK hve
 by_cases h1 : (100 : Int) < prev.size
 ·go_enter Tryz.func11, Tryz.ntmps11
  go_wp2
  go_ret
  exact ⟨⟨_, rfl, fun h => absurd rfl h⟩, HB.out⟩
 by_cases h2 : (1000 : Int) < st.size
 ·go_enter Tryz.func11, Tryz.ntmps11
  go_wp2
  go_ret
  exact ⟨⟨_, rfl, fun h => absurd rfl h⟩, HB.out⟩
 by_cases h3 : (2100 : Int) < sg.size
 ·go_enter Tryz.func11, Tryz.ntmps11
  go_wp2
  go_ret
  exact ⟨⟨_, rfl, fun h => absurd rfl h⟩, HB.out⟩
 have key : ∀ (hn : l.length ≤ 12 ∨ l.length = 401) (f4 : ((12 : Int) < l.length ∧ ((l.length : Int) != 401) = false) ∨ ¬ (12 : Int) < l.length), Calls Tryz.prog 11 #[.agg #[.int .i64 num, .int .i64 date, .string prev, .slice A l.length c, .string st, .string sg]] w fun r w' => (∃ k : Int, r = .returned (.int .i64 k) ∧ (k ≠ 1 → prev.size ≤ 100 ∧ st.size ≤ 1000 ∧ sg.size ≤ 2100 ∧ (l.length ≤ 12 ∨ l.length = 401) ∧ ∀ e ∈ l, SmEG e)) ∧ Below w.heap.size w w' := by
  intro hn f4
  have HP : Hid (prev.size ≤ 100 ∧ st.size ≤ 1000 ∧ sg.size ≤ 2100 ∧ (l.length ≤ 12 ∨ l.length = 401)) := Lib.hid ⟨by omega, by omega, by omega, hn⟩
  clear hn
  go_enter Tryz.func11, Tryz.ntmps11
  go_upto_region 1 with fail
  generalize w.alloc (.cells #[.int .i64 num, .int .i64 date, .string prev, .slice A l.length c, .string st, .string sg] 43) = wb at *
  go_cut [31] (fun f wx => f = .bool false ∧ wx = wb)
  case first =>
   rcases f4 with ⟨f4, f5⟩ | f4
   ·go_wp2_with fail
    go_meet
    exact ⟨rfl, rfl⟩
   ·go_wp2_with fail
    go_meet
    exact ⟨rfl, rfl⟩
  case rest =>
   obtain ⟨rfl, rfl⟩ := hcut
   clear f4 h1 h2 h3 a2 a4 a5
   go_wp2
   go_loopw [3] (fun z wr => ∃ k : Nat, k ≤ l.length ∧ z = .int .i64 (k : Int) ∧ (∀ e ∈ l.take k, SmEG e) ∧ Below wc.heap.size wc wr) (fun z _ => l.length - (intOf z).toNat)
   case atStart => exact ⟨0, by omega, rfl, fun e he => by simp at he, Below.refl _ _⟩
   case round =>
    obtain ⟨k, hk, rfl, hs, hB⟩ := hrel
    have HS := Lib.hid hs
    have HBr := Lib.hid hB
    clear hB hs a3
    have a3 := (HK.out.kept HBr.out).cell (i := 3) rfl
    by_cases h : k < l.length
    ·have hkI : (k : Int) < l.length := by omega
     obtain ⟨x, hx⟩ : ∃ x, l[k]? = some x := ⟨_, List.getElem?_eq_getElem h⟩
     have Hx := Lib.hid hx
     obtain ⟨_, _, e9, _, _, h4⟩ := (HV.out.below HB.out).below HBr.out
     cases e9
     obtain ⟨b, o, cs, rfl, hR9, hc⟩ := h4 k x hx
     obtain ⟨va, vx, rfl, hva, hvx⟩ := hR9
     have HG := Lib.hid (great36_ex wr x va vx hva hvx)
     obtain ⟨Aa, ca, rfl, _, _⟩ := hva.slice
     obtain ⟨Ax, cx, rfl, _, _⟩ := hvx.slice
     rw [entV] at HG
     have e0 : wr.cell? ⟨b, o + k * 7, none⟩ = some (.int .i64 x.k) := hc 0 _ rfl
     have e1 : wr.cell? ⟨b, o + k * 7 + 1, none⟩ = some (.string x.path) := hc 1 _ rfl
     have e2 : wr.cell? ⟨b, o + k * 7 + 2, none⟩ = some (.slice Aa x.attrs.length ca) := hc 2 _ rfl
     have e3 : wr.cell? ⟨b, o + k * 7 + 3, none⟩ = some (.string x.tgt) := hc 3 _ rfl
     have e4 : wr.cell? ⟨b, o + k * 7 + 4, none⟩ = some (.int .i64 x.size) := hc 4 _ rfl
     have e5 : wr.cell? ⟨b, o + k * 7 + 5, none⟩ = some (.string x.dig) := hc 5 _ rfl
     have e6 : wr.cell? ⟨b, o + k * 7 + 6, none⟩ = some (.slice Ax x.exts.length cx) := hc 6 _ rfl
     clear hc h4 hx hva hvx
     go_wp2_with fail
     refine HG.out.mono ?_
     rintro e w2 ⟨⟨n, rfl, hn⟩, hb⟩
     have HN := Lib.hid hn
     have HB2 := Lib.hid (HBr.out.trans (hb.mono HBr.out.size))
     clear hn hb e0 e1 e2 e3 e4 e5 e6
     by_cases h1 : n = 1
     ·have g1 : (n == 1) = true := by rw [h1]; rfl
      clear h1
      go_wp2_with fail
      go_ret
      exact ⟨⟨_, rfl, fun h => absurd rfl h⟩, HB.out.trans (HB2.out.mono HB.out.size)⟩
     ·have g1 : (n == 1) = false := beq_eq_false_iff_ne.2 h1
      have HS2 := Lib.hid (take_memM Hx.out HS.out (HN.out h1))
      clear h1
      go_wp2_with fail
      go_roundw
      case rel => exact ⟨k + 1, by omega, by go_num, HS2.out, HB2.out⟩
      case measure => simp [intOf]; omega
    ·obtain rfl : k = l.length := by omega
     have hkI : ¬ ((l.length : Nat) : Int) < (l.length : Int) := by omega
     go_wp2
     go_ret
     exact ⟨⟨_, rfl, fun _ => ⟨HP.out.1, HP.out.2.1, HP.out.2.2.1, HP.out.2.2.2, by have := HS.out; rwa [List.take_length] at this⟩⟩, HB.out.trans (HBr.out.mono HB.out.size)⟩
 by_cases h4 : (12 : Int) < l.length
 ·by_cases h5 : l.length = 401
  ·exact key (.inr h5) (.inl ⟨h4, by rw [h5]; rfl⟩)
  ·have g5 : ((l.length : Int) != 401) = true := by rw [bne, beq_eq_false_iff_ne.2 (by omega)]; rfl
   clear key h5
   go_enter Tryz.func11, Tryz.ntmps11
   go_wp2
   go_ret
   exact ⟨⟨_, rfl, fun h => absurd rfl h⟩, HB.out⟩
 ·exact key (.inl (by omega)) (.inr h4)
theorem sesG_of {x : Ses} (h : SmSG x) (h30 : x.ents.length ≤ 30) : SesG x :=
 ⟨by have := h.1; omega, by have := h.2.1; omega, by have := h.2.2.1; omega, by have := h.2.2.2.1; omega, fun e he => by have h5 := h.2.2.2.2 e he; exact ⟨by have := h5.1; omega, by have := h5.2.1; omega, fun a ha => by have := h5.2.2.1 a ha; omega, by have := h5.2.2.2; omega⟩⟩
theorem great41_ex (w : World) (v : Value) (l : List Ses) (hv : SeqAt sesS w v l) : Calls Tryz.prog 5 #[v] w fun r w' => (∃ k : Int, r = .returned (.int .i64 k) ∧ (¬ 0 < k → l.length ≤ 8 ∧ ∀ x ∈ l, SesG x)) ∧ Below w.heap.size w w' := by
 have HV := Lib.hid hv
 obtain ⟨A, c, rfl, _, _⟩ := hv.slice
 clear hv
 by_cases h8 : (8 : Int) < l.length
 ·go_enter Tryz.func5, Tryz.ntmps5
  go_wp2
  go_ret
  exact ⟨⟨_, rfl, fun h => by first | exact absurd h (by decide) | exact absurd (show (0 : Int) < 1 by decide) h⟩, Below.refl _ _⟩
 have H8 : Hid (l.length ≤ 8) := Lib.hid (by omega)
 go_enter Tryz.func5, Tryz.ntmps5
 go_wp2
 go_loopw [3, 13] (fun y z wr => ∃ (i : Nat) (n : Int), i ≤ l.length ∧ y = .int .i64 n ∧ z = .int .i64 (i : Int) ∧ (∀ x ∈ l.take i, SesG x) ∧ Below w.heap.size w wr) (fun _ z _ => l.length - (intOf z).toNat)
 case atStart => exact ⟨0, 0, by omega, rfl, rfl, fun e he => by simp at he, Below.refl _ _⟩
 case round =>
  obtain ⟨i, n, hi, rfl, rfl, hs, hB⟩ := hrel
  have HS := Lib.hid hs
  have HBr := Lib.hid hB
  clear hB hs
  by_cases h : i < l.length
  ·have hiI : (i : Int) < l.length := by omega
   obtain ⟨x, hx⟩ : ∃ x, l[i]? = some x := ⟨_, List.getElem?_eq_getElem h⟩
   have Hx := Lib.hid hx
   obtain ⟨_, _, e9, _, _, h4⟩ := HV.out.below HBr.out
   cases e9
   obtain ⟨b, o, cs, rfl, hR9, hc⟩ := h4 i x hx
   obtain ⟨ve, rfl, hve⟩ := hR9
   have hBa := (Below.refl wr.heap.size wr).alloc (Nat.le_refl _) (.cells #[.int .i64 x.num, .int .i64 x.date, .string x.prev, ve, .string x.str, .string x.sig] 43)
   have HG := Lib.hid (great40_ex _ x ve (hve.below hBa))
   have HVe := Lib.hid (hve.below hBa)
   obtain ⟨Ae, ce, rfl, _, _⟩ := hve.slice
   have e0 : wr.cell? ⟨b, o + i * 6, none⟩ = some (.int .i64 x.num) := hc 0 _ rfl
   have e1 : wr.cell? ⟨b, o + i * 6 + 1, none⟩ = some (.int .i64 x.date) := hc 1 _ rfl
   have e2 : wr.cell? ⟨b, o + i * 6 + 2, none⟩ = some (.string x.prev) := hc 2 _ rfl
   have e3 : wr.cell? ⟨b, o + i * 6 + 3, none⟩ = some (.slice Ae x.ents.length ce) := hc 3 _ rfl
   have e4 : wr.cell? ⟨b, o + i * 6 + 4, none⟩ = some (.string x.str) := hc 4 _ rfl
   have e5 : wr.cell? ⟨b, o + i * 6 + 5, none⟩ = some (.string x.sig) := hc 5 _ rfl
   have hK : Blk (wr.alloc (.cells #[.int .i64 x.num, .int .i64 x.date, .string x.prev, .slice Ae x.ents.length ce, .string x.str, .string x.sig] 43)) wr.heap.size 43 [.int .i64 x.num, .int .i64 x.date, .string x.prev, .slice Ae x.ents.length ce, .string x.str, .string x.sig] := Blk.new wr _ _
   have HK := Lib.hid hK
   have HB1 := Lib.hid (HBr.out.trans (hBa.mono HBr.out.size))
   clear hc h4 hx hve hBa hK
   go_upto_region 7 with fail
   clear e0 e1 e2 e3 e4 e5
   generalize wr.alloc (.cells #[.int .i64 x.num, .int .i64 x.date, .string x.prev, .slice Ae x.ents.length ce, .string x.str, .string x.sig] 43) = wb at *
   generalize wr.heap.size = g at *
   have a0 := HK.out.cell (i := 0) rfl
   have a1 := HK.out.cell (i := 1) rfl
   have a2 := HK.out.cell (i := 2) rfl
   have a3 := HK.out.cell (i := 3) rfl
   have a4 := HK.out.cell (i := 4) rfl
   have a5 := HK.out.cell (i := 5) rfl
   by_cases h30 : (30 : Int) < x.ents.length
   ·go_wp2
    go_ret
    exact ⟨⟨_, rfl, fun h => by first | exact absurd h (by decide) | exact absurd (show (0 : Int) < 1 by decide) h⟩, HB1.out⟩
   go_wp2_with fail
   refine HG.out.mono ?_
   rintro e2 w2 ⟨⟨k, rfl, hk⟩, hb⟩
   have HB2 := Lib.hid (HB1.out.trans (hb.mono HB1.out.size))
   have HVe2 := Lib.hid (HVe.out.below hb)
   have HK2 := Lib.hid (HK.out.kept hb)
   have Hk := Lib.hid hk
   clear hk hb a0 a1 a2 a3 a4 a5 HG HVe HK
   by_cases h1 : k = 1
   ·have g1 : (k == 1) = true := by rw [h1]; rfl
    clear h1
    go_wp2_with fail
    go_ret
    exact ⟨⟨_, rfl, fun h => by first | exact absurd h (by decide) | exact absurd (show (0 : Int) < 1 by decide) h⟩, HB2.out⟩
   have g1 : (k == 1) = false := beq_eq_false_iff_ne.2 h1
   have HS2 := Lib.hid (take_memM Hx.out HS.out (sesG_of (Hk.out h1) (by omega)))
   have a3 := HK2.out.cell (i := 3) rfl
   have a4 := HK2.out.cell (i := 4) rfl
   clear h1 h30
   go_wp2_with fail
   go_loopw [39] (fun z wi => ∃ j : Nat, j ≤ x.ents.length ∧ z = .int .i64 (j : Int) ∧ Below w2.heap.size w2 wi) (fun z _ => x.ents.length - (intOf z).toNat)
   case atStart => exact ⟨0, by omega, rfl, Below.refl _ _⟩
   case round =>
    obtain ⟨j, hj, rfl, hB⟩ := hrel
    have HBj := Lib.hid hB
    clear hB a3 a4
    by_cases hjl : j < x.ents.length
    ·have hjI : (j : Int) < x.ents.length := by omega
     obtain ⟨y, hy⟩ : ∃ y, x.ents[j]? = some y := ⟨_, List.getElem?_eq_getElem hjl⟩
     obtain ⟨_, _, e9, _, _, h4⟩ := HVe2.out.below HBj.out
     cases e9
     obtain ⟨b2, o2, cs, rfl, hR9, hc⟩ := h4 j y hy
     obtain ⟨va, vx, rfl, hva, hvx⟩ := hR9
     have hBa := (Below.refl wr.heap.size wr).alloc (Nat.le_refl _) (.cells #[.int .i64 y.k, .string y.path, va, .string y.tgt, .int .i64 y.size, .string y.dig, vx] 48)
     have HG := Lib.hid (great36_ex _ y va vx (hva.below hBa) (hvx.below hBa))
     have HBy := Lib.hid (HBj.out.trans (hBa.mono HBj.out.size))
     obtain ⟨Aa, ca, rfl, _, _⟩ := hva.slice
     obtain ⟨Ax, cx, rfl, _, _⟩ := hvx.slice
     rw [entV] at HG
     have e0 : wr.cell? ⟨b2, o2 + j * 7, none⟩ = some (.int .i64 y.k) := hc 0 _ rfl
     have e1 : wr.cell? ⟨b2, o2 + j * 7 + 1, none⟩ = some (.string y.path) := hc 1 _ rfl
     have e2 : wr.cell? ⟨b2, o2 + j * 7 + 2, none⟩ = some (.slice Aa y.attrs.length ca) := hc 2 _ rfl
     have e3 : wr.cell? ⟨b2, o2 + j * 7 + 3, none⟩ = some (.string y.tgt) := hc 3 _ rfl
     have e4 : wr.cell? ⟨b2, o2 + j * 7 + 4, none⟩ = some (.int .i64 y.size) := hc 4 _ rfl
     have e5 : wr.cell? ⟨b2, o2 + j * 7 + 5, none⟩ = some (.string y.dig) := hc 5 _ rfl
     have e6 : wr.cell? ⟨b2, o2 + j * 7 + 6, none⟩ = some (.slice Ax y.exts.length cx) := hc 6 _ rfl
     have hK : Blk (wr.alloc (.cells #[.int .i64 y.k, .string y.path, .slice Aa y.attrs.length ca, .string y.tgt, .int .i64 y.size, .string y.dig, .slice Ax y.exts.length cx] 48)) wr.heap.size 48 [.int .i64 y.k, .string y.path, .slice Aa y.attrs.length ca, .string y.tgt, .int .i64 y.size, .string y.dig, .slice Ax y.exts.length cx] := Blk.new wr _ _
     have HKy := Lib.hid hK
     clear hc h4 hy hva hvx hBa hK
     go_upto_region 13 with fail
     clear e0 e1 e2 e3 e4 e5 e6
     generalize wr.alloc (.cells #[.int .i64 y.k, .string y.path, .slice Aa y.attrs.length ca, .string y.tgt, .int .i64 y.size, .string y.dig, .slice Ax y.exts.length cx] 48) = wj at *
     generalize wr.heap.size = gy at *
     have y0 := HKy.out.cell (i := 0) rfl
     have y1 := HKy.out.cell (i := 1) rfl
     have y2 := HKy.out.cell (i := 2) rfl
     have y3 := HKy.out.cell (i := 3) rfl
     have y4 := HKy.out.cell (i := 4) rfl
     have y5 := HKy.out.cell (i := 5) rfl
     have y6 := HKy.out.cell (i := 6) rfl
     go_wp2_with fail
     refine HG.out.mono ?_
     rintro e5 w5 ⟨⟨k5, rfl, -⟩, hb⟩
     have HB5 := Lib.hid (HBy.out.trans (hb.mono HBy.out.size))
     clear hb y0 y1 y2 y3 y4 y5 y6
     by_cases h5 : k5 = 1
     ·have g5 : (k5 == 1) = true := by rw [h5]; rfl
      clear h5
      go_wp2_with fail
      go_ret
      exact ⟨⟨_, rfl, fun h => by first | exact absurd h (by decide) | exact absurd (show (0 : Int) < 1 by decide) h⟩, HB2.out.trans (HB5.out.mono HB2.out.size)⟩
     ·have g5 : (k5 == 1) = false := beq_eq_false_iff_ne.2 h5
      clear h5
      go_wp2_with fail
      go_roundw
      case rel => exact ⟨j + 1, by omega, by go_num, HB5.out⟩
      case measure => simp [intOf]; omega
    ·obtain rfl : j = x.ents.length := by omega
     have hjI : ¬ ((x.ents.length : Nat) : Int) < (x.ents.length : Int) := by omega
     go_wp2
     go_roundw
     case rel => exact ⟨i + 1, _, by omega, rfl, by go_num, HS2.out, HB2.out.trans (HBj.out.mono HB2.out.size)⟩
     case measure => simp [intOf]; omega
  ·obtain rfl : i = l.length := by omega
   have hiI : ¬ ((l.length : Nat) : Int) < (l.length : Int) := by omega
   have HF : Hid (l.length ≤ 8 ∧ ∀ x ∈ l, SesG x) := Lib.hid ⟨H8.out, by have := HS.out; rwa [List.take_length] at this⟩
   by_cases hn : (20000 : Int) < n
   ·go_wp2
    go_ret
    exact ⟨⟨_, rfl, fun h => by first | exact absurd h (by decide) | exact absurd (show (0 : Int) < 1 by decide) h⟩, HBr.out⟩
   ·go_wp2
    go_ret
    exact ⟨⟨_, rfl, fun _ => HF.out⟩, HBr.out⟩
end
end Go.Proofs.YtbccghbngaiceaaGreatDoor
