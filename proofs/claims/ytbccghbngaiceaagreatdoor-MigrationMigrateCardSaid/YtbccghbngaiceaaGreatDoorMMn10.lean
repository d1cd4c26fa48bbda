/-
  Joined: VqN VqO.
-/
import Derived.Test.YtbccghbngaiceaaGreatDoorMMn09
set_option linter.all false
set_option maxRecDepth 100000
set_option maxHeartbeats 64000000
namespace Go.Proofs.YtbccghbngaiceaaGreatDoor
section
open Go.RowKit
theorem encheck_ok (w : World) (e : Ent) (va vx : Value) (hva : SeqAt atrS w va e.attrs) (hvx : SeqAt extS w vx e.exts) (h : EntOk e) (hT : Tab w) : Calls Tryz.prog 92 #[entV e va vx] w fun r w' => r = .returned (.int .i64 0) ∧ Below w.heap.size w w' := by
 have HTg := Lib.hid (fun W (hW : Below w.heap.size w W) => entarget_ok W e va vx h.tgt (hT.below hW))
 have HCo := Lib.hid (fun W (hW : Below w.heap.size w W) => encontent_ok W e va vx (hvx.below hW) h)
 have HAt := Lib.hid (fun W (hW : Below w.heap.size w W) => atcheck_ok W va e.attrs (hva.below hW) h.attrs)
 have HPa := Lib.hid (fun W (hW : Below w.heap.size w W) => pcheck_ok W e.path h.path (hT.below hW))
 have hk := h.kind
 have hn := h.named
 have hb := h.bare
 clear h hT
 obtain ⟨k, path, attrs, t, size, dig, exts⟩ := e
 dsimp only at hva hvx hk hn hb HTg HCo HAt HPa
 obtain ⟨Aa, ca, rfl, ha1, ha2⟩ := hva.slice
 obtain ⟨Ax, cx, rfl, hx1, hx2⟩ := hvx.slice
 clear hva hvx
 rw [entV] at HTg HCo ⊢
 dsimp only at HTg HCo ⊢
 have hK := Blk.new w 48 [.int .i64 k, .string path, .slice Aa attrs.length ca, .string t, .int .i64 size, .string dig, .slice Ax exts.length cx]
 change Blk (w.alloc (.cells #[.int .i64 k, .string path, .slice Aa attrs.length ca, .string t, .int .i64 size, .string dig, .slice Ax exts.length cx] 48)) _ _ _ at hK
 have HB0 := Lib.hid ((Below.refl w.heap.size w).alloc (Nat.le_refl _) (.cells #[.int .i64 k, .string path, .slice Aa attrs.length ca, .string t, .int .i64 size, .string dig, .slice Ax exts.length cx] 48))
 have HK := Lib.hid hK
 clear hK
 have i1 : ¬ k < 1 := by omega
 have i2 : ¬ 6 < k := by omega
 have Hn := Lib.hid hn
 have Hb := Lib.hid hb
 have Hk := Lib.hid hk
 clear hk hn hb
 go_enter Tryz.func92, Tryz.ntmps92
 go_upto_region 1 with fail
 generalize w.alloc (.cells #[.int .i64 k, .string path, .slice Aa attrs.length ca, .string t, .int .i64 size, .string dig, .slice Ax exts.length cx] 48) = wb at *
 have c0 := HK.out.cell (i := 0) rfl
 have c1 := HK.out.cell (i := 1) rfl
 go_wp2_with fail
 refine (HPa.out _ HB0.out).mono ?_
 rintro e2 w2 ⟨rfl, hb2⟩
 have HK2 := Lib.hid (HK.out.kept hb2)
 have HB2 := Lib.hid (HB0.out.trans (hb2.mono HB0.out.size))
 clear hb2 HK HB0 c0 c1
 have c0 := HK2.out.cell (i := 0) rfl
 have c1 := HK2.out.cell (i := 1) rfl
 go_upto_region 6 with fail
 go_cut [31] (fun s wx => s = .bool false ∧ w2 = wx)
 case first =>
  by_cases h0 : path.size = 0
  ·have e0 : path.toList.isEmpty = true := by
    rw [show path = ⟨#[]⟩ by apply ByteArray.ext; exact Array.eq_empty_of_size_eq_zero h0]
    exact isEmptyV0
   have h5 := Hn.out h0
   have h6 := Hk.out
   clear h0
   by_cases h7 : k = 5
   ·have f1 : (k != 5) = false := by rw [h7]; rfl
    clear h5 h6 h7
    go_wp2_with fail
    go_meet
    exact ⟨rfl, rfl⟩
   ·have f1 : (k != 5) = true := by rw [bne, beq_eq_false_iff_ne.2 h7]; rfl
    have f2 : (k != 6) = false := by rw [show k = 6 by omega]; rfl
    clear h5 h6 h7
    go_wp2_with fail
    go_meet
    exact ⟨rfl, rfl⟩
  ·have e0 : path.toList.isEmpty = false := isEmptyV h0
   clear h0
   go_wp2_with fail
   go_meet
   exact ⟨rfl, rfl⟩
 case rest =>
  obtain ⟨rfl, rfl⟩ := hcut
  have c2 := HK2.out.cell (i := 2) rfl
  go_wp2_with fail
  refine (HAt.out _ HB2.out).mono ?_
  rintro e3 w3 ⟨rfl, hb3⟩
  have HK3 := Lib.hid (HK2.out.kept hb3)
  have HB3 := Lib.hid (HB2.out.trans (hb3.mono HB2.out.size))
  clear hb3 HK2 HB2 c0 c1 c2
  have c0 := HK3.out.cell (i := 0) rfl
  have c2 := HK3.out.cell (i := 2) rfl
  have c1 := HK3.out.cell (i := 1) rfl
  have c3 := HK3.out.cell (i := 3) rfl
  have c4 := HK3.out.cell (i := 4) rfl
  have c5 := HK3.out.cell (i := 5) rfl
  have c6 := HK3.out.cell (i := 6) rfl
  go_upto_region 11 with fail
  go_cut [51] (fun s wx => ∃ W, s = .bool false ∧ W = wx ∧ Below w3.heap.size w3 W)
  case first =>
   have hz2 : (¬ (0 : Int) < attrs.length) ∨ ((0 : Int) < attrs.length ∧ ¬ 3 < k) := by
    by_cases q : 0 < attrs.length
    ·have := Hb.out q; exact .inr ⟨by omega, by omega⟩
    ·exact .inl (by omega)
   rcases hz2 with f1 | ⟨f1, f2⟩
   ·go_wp2_with fail
    refine (HTg.out _ HB3.out).mono ?_
    rintro e4 w4 ⟨rfl, hb4⟩
    go_wp2_with fail
    go_meet
    exact ⟨_, rfl, rfl, hb4⟩
   ·go_wp2_with fail
    refine (HTg.out _ HB3.out).mono ?_
    rintro e4 w4 ⟨rfl, hb4⟩
    go_wp2_with fail
    go_meet
    exact ⟨_, rfl, rfl, hb4⟩
  case rest =>
   obtain ⟨w4, rfl, rfl, hb4⟩ := hcut
   have HK4 := Lib.hid (HK3.out.kept hb4)
   have HB4 := Lib.hid (HB3.out.trans (hb4.mono HB3.out.size))
   clear hb4 HK3 HB3 c0 c1 c2 c3 c4 c5 c6
   have c0 := HK4.out.cell (i := 0) rfl
   have c2 := HK4.out.cell (i := 2) rfl
   have c1 := HK4.out.cell (i := 1) rfl
   have c3 := HK4.out.cell (i := 3) rfl
   have c4 := HK4.out.cell (i := 4) rfl
   have c5 := HK4.out.cell (i := 5) rfl
   have c6 := HK4.out.cell (i := 6) rfl
   go_wp2_with fail
   refine (HCo.out _ HB4.out).mono ?_
   rintro e5 w5 ⟨rfl, hb5⟩
   have HB5 := Lib.hid (HB4.out.trans (hb5.mono HB4.out.size))
   clear hb5
   go_wp2_with fail
   go_ret
   exact ⟨rfl, HB5.out⟩
def namesB : List ByteArray := [⟨#[102, 105, 108, 101]⟩, ⟨#[100, 105, 114]⟩, ⟨#[108, 105, 110, 107]⟩, ⟨#[114, 101, 109, 111, 118, 101]⟩, ⟨#[104, 111, 108, 100]⟩, ⟨#[114, 101, 108, 101, 97, 115, 101]⟩]
theorem ennames_any (w : World) : Calls Tryz.prog 94 #[] w fun e w' => e = .returned (.slice (some ⟨w.heap.size, 0, none⟩) 6 6) ∧ w' = w.alloc (.cells (namesB.map Value.string).toArray 9) := by
 go_enter Tryz.func94, Tryz.ntmps94
 go_wp2
 go_ret
 exact ⟨rfl, rfl⟩
theorem Bld.below {A W : World} {K b : Nat} {l : List Nat} (h : Bld A K b l) (hb : Below A.heap.size A W) : Bld W K b l := by
 have hk : ∀ (k : Nat) (o : Obj), A.heap[k]? = some o → W.heap[k]? = some o := fun k o ho => by
  have hlt : k < A.heap.size := by
   rcases Nat.lt_or_ge k A.heap.size with h' | h'
   ·exact h'
   ·rw [Array.getElem?_eq_none h'] at ho; cases ho
  rw [hb.block k hlt]
  exact ho
 have key : ∀ p, Lib.BuilderAtF 112 5 K b p (l.map u8V) A → Lib.BuilderAtF 112 5 K b p (l.map u8V) W := by
  rintro p ⟨hB, v, hb, hown, hne⟩
  refine ⟨hB, v, hk _ _ hb, ⟨hown.1, ?_⟩, hne⟩
  rcases hown.2 with hn | ⟨g, cap, cur, fz, hv, hbg, hg, rest⟩
  ·exact .inl hn
  ·exact .inr ⟨g, cap, cur, fz, hv, hbg, hk _ _ hg, rest⟩
 exact Or.elim h (fun x => .inl (key _ x)) (fun x => .inr (key _ x))
theorem Bld.alloc {A : World} {K b : Nat} {l : List Nat} (h : Bld A K b l) (o : Obj) : Bld (A.alloc o) K b l := h.below ((Below.refl _ _).alloc (Nat.le_refl _) _)
theorem Bld.drew {A : World} {K b : Nat} {l : List Nat} (h : Bld A K b l) : Bld A.drew K b l := h.below (Below.refl _ _).drew
theorem wsB (w : World) (B b : Nat) (l : List Nat) (s : ByteArray) (h : Bld w B b l) (hl : l.length ≤ 1000000000) (hs : s.size ≤ 1000000000) (hB : B ≤ w.heap.size) :
  Calls Tryz.prog 47 #[.pointer (some ⟨b, 0, none⟩), .string s] w fun e w' => e = .returned (.tuple #[.int .i64 s.size, .nilIface]) ∧ Bld w' B b (l ++ bs s) ∧ Below B w w' := by
 refine (Tryz.Builder_WriteString_k B b _ s w h (by rw [List.length_map]; omega) hB).mono fun e w' ⟨he, h1, hb, _⟩ => ⟨he, ?_, hb⟩
 have := Or.inr (a := Lib.BuilderAtF 112 5 B b (.pointer none) (l.map u8V ++ Lib.strCells s) w') h1
 have e1 : (l ++ bs s).map u8V = l.map u8V ++ Lib.strCells s := by
  rw [List.map_append]
  unfold Lib.strCells bs
  rw [List.map_map]
  rfl
 show Lib.IsBuilderF _ _ _ _ _ _
 rw [e1]
 exact this
theorem wsK (w : World) (B b : Nat) (l : List Nat) (s : ByteArray) (h : Bld w B b l) (hl : l.length ≤ 1000000000) (hs : s.size ≤ 1000000000) (hB : B ≤ w.heap.size) :
  Calls Tryz.prog 47 #[.pointer (some ⟨b, 0, none⟩), .string s] w fun e w' => e = .returned (.tuple #[.int .i64 s.size, .nilIface]) ∧ Bld w' B b (l ++ bs s) ∧ Below B w w' ∧ Lib.OthersKept 5 (some b) w w' := by
 refine (Tryz.Builder_WriteString_k B b _ s w h (by rw [List.length_map]; omega) hB).mono fun e w' ⟨he, h1, hb, ho⟩ => ⟨he, ?_, hb, ho⟩
 have := Or.inr (a := Lib.BuilderAtF 112 5 B b (.pointer none) (l.map u8V ++ Lib.strCells s) w') h1
 have e1 : (l ++ bs s).map u8V = l.map u8V ++ Lib.strCells s := by
  rw [List.map_append]
  unfold Lib.strCells bs
  rw [List.map_map]
  rfl
 show Lib.IsBuilderF _ _ _ _ _ _
 rw [e1]
 exact this
theorem Bld.lt {A : World} {K b : Nat} {l : List Nat} (h : Bld A K b l) : b < A.heap.size := by
 have key : ∀ p, Lib.BuilderAtF 112 5 K b p (l.map u8V) A → b < A.heap.size := by
  rintro p ⟨_, v, hb, _⟩
  rcases Nat.lt_or_ge b A.heap.size with h' | h'
  ·exact h'
  ·rw [Array.getElem?_eq_none h'] at hb; cases hb
 exact Or.elim h (key _) (key _)
theorem Blk.others {w w' : World} {g b : Nat} {t : TypeId} {us : List Value} (h : Blk w g t us) (ho : Lib.OthersKept 5 (some b) w w') (hne : g ≠ b) (ht : t ≠ 5) : Blk w' g t us :=
 ho g _ h (fun e => hne (Option.some.inj e)) (fun c fz e => ht (by cases e; rfl))
theorem lenB (w : World) (B b : Nat) (l : List Nat) (h : Bld w B b l) : Calls Tryz.prog 97 #[.pointer (some ⟨b, 0, none⟩)] w fun e w' => e = .returned (.int .i64 (l.length : Int)) ∧ w' = w := by
 refine (Tryz.Builder_Len_f B b _ w h).mono fun e w' ⟨he, hw⟩ => ⟨?_, hw⟩
 rw [he, List.length_map]
def nstsL (l : List ByteArray) : List Nat := l.flatMap fun s => nstL (bs s)
theorem nstsL_take {l : List ByteArray} {i : Nat} {s : ByteArray} (h : l[i]? = some s) : nstsL (l.take (i + 1)) = nstsL (l.take i) ++ nstL (bs s) := by
 unfold nstsL
 rw [List.take_add_one, h, List.flatMap_append]
 simp
theorem nstL_lt (s : ByteArray) : ∀ b ∈ nstL (bs s), b < 256 := by
 intro b hb
 unfold nstL at hb
 simp only [List.mem_append, List.mem_singleton] at hb
 rcases hb with ((hb | rfl) | hb) | rfl
 ·have := digD_bytes _ b hb; omega
 ·decide
 ·exact bs_lt s b hb
 ·decide
theorem numL_lt (n : Nat) : ∀ b ∈ numL n, b < 256 := by
 intro b hb
 unfold numL at hb
 simp only [List.mem_append, List.mem_singleton] at hb
 rcases hb with hb | rfl
 ·have := digD_bytes _ b hb; omega
 ·decide
theorem nstsL_lt (l : List ByteArray) : ∀ b ∈ nstsL l, b < 256 := by
 intro b hb
 obtain ⟨s, _, hs⟩ := List.mem_flatMap.1 hb
 exact nstL_lt s b hs
theorem nstsL_len {l : List ByteArray} {m : Nat} (hm : m ≤ 1000000000) (h : ∀ s ∈ l, s.size ≤ m) : (nstsL l).length ≤ l.length * (m + 22) := by
 induction l with
 | nil => simp [nstsL]
 | cons s r ih =>
  have h1 := nstL_len s (by have := h s List.mem_cons_self; omega)
  rw [strB_size] at h1
  have h2 := ih fun x hx => h x (List.mem_cons_of_mem _ hx)
  have h3 := h s List.mem_cons_self
  have e : nstsL (s :: r) = nstL (bs s) ++ nstsL r := by unfold nstsL; rw [List.flatMap_cons]
  rw [e, List.length_append, List.length_cons, Nat.add_mul, Nat.one_mul]
  omega
theorem nstrings_any (w : World) (v : Value) (l : List ByteArray) (hv : SeqAt strS w v l) (hl : l.length ≤ 100) (hs : ∀ s ∈ l, s.size ≤ 1000000) (hT : Tab w) : Calls Tryz.prog 93 #[v] w fun e w' => e = .returned (.string (strB (nstsL l))) ∧ Below w.heap.size w w' := by
 have HL := Lib.hid hv
 obtain ⟨A, c, rfl, h1, h2⟩ := hv.slice
 have HSz : Hid (∀ i, (nstsL (l.take i)).length ≤ 200000000) := Lib.hid (fun i => by
  have h3 := nstsL_len (l := l.take i) (m := 1000000) (by omega) (fun s hs' => hs s (List.mem_of_mem_take hs'))
  have h4 := Nat.mul_le_mul (show (l.take i).length ≤ 100 by rw [List.length_take]; omega) (Nat.le_refl (1000000 + 22))
  omega)
 have Hs := Lib.hid hs
 have HT := Lib.hid hT
 clear hv hs hT
 go_enter Tryz.func93, Tryz.ntmps93
 go_wp2
 go_loopw [8] (fun x wr => ∃ i : Nat, i ≤ l.length ∧ x = .int .i64 (i : Int) ∧ Bld wr w.heap.size w.heap.size (nstsL (l.take i)) ∧ Below w.heap.size w wr) (fun x _ => l.length - (intOf x).toNat)
 case atStart => exact ⟨0, by omega, rfl, Bld.new w, (Below.refl _ _).alloc (Nat.le_refl _) _⟩
 case round =>
  obtain ⟨i, hi, rfl, hbl, hB⟩ := hrel
  have HBl := Lib.hid hbl
  have HB := Lib.hid hB
  clear hbl hB
  by_cases h : i < l.length
  ·have hiI : (i : Int) < l.length := by omega
   obtain ⟨x, hx⟩ : ∃ x, l[i]? = some x := ⟨_, List.getElem?_eq_getElem h⟩
   have Hst := Lib.hid (nstsL_take hx)
   have hxs := Hs.out x (List.mem_of_getElem? hx)
   obtain ⟨_, _, e9, _, _, h4⟩ := HL.out.below HB.out
   cases e9
   obtain ⟨b, o, cs, rfl, rfl, hc⟩ := h4 i x hx
   have e0 : wr.cell? ⟨b, o + i * 1, none⟩ = some (.string x) := hc 0 _ rfl
   rw [Nat.mul_one] at e0
   have HC := Lib.hid (nnstring_any wr x (by omega) (HT.out.below HB.out))
   have hq := nstL_len x (by omega)
   obtain ⟨X, hX⟩ : ∃ X, strB (nstL (bs x)) = X := ⟨_, rfl⟩
   have HX : Hid (bs X = nstL (bs x)) := Lib.hid (by rw [← hX, bs_strB (nstL_lt x)])
   rw [hX] at HC hq
   clear hc h4 hx hX
   go_wp2_with fail
   refine HC.out.mono ?_
   rintro e w2 ⟨rfl, hb2⟩
   have HW := Lib.hid (wsB w2 w.heap.size w.heap.size _ X (HBl.out.below hb2) (by have := HSz.out i; omega) (by omega) (HB.out.trans (hb2.mono HB.out.size)).size)
   have HB2 := Lib.hid (HB.out.trans (hb2.mono HB.out.size))
   clear hb2
   go_wp2_with fail
   refine HW.out.mono ?_
   rintro e3 w3 ⟨rfl, hbl3, hb3⟩
   have HBl3 := Lib.hid hbl3
   have HB3 := Lib.hid (HB2.out.trans hb3)
   clear hbl3 hb3
   go_wp2_with fail
   go_roundw
   case rel => exact ⟨i + 1, by omega, by go_num, by rw [Hst.out, ← HX.out]; exact HBl3.out, HB3.out⟩
   case measure => simp [intOf]; omega
  ·obtain rfl : i = l.length := by omega
   have hiI : ¬ ((l.length : Nat) : Int) < (l.length : Int) := by omega
   have HS := Lib.hid (str_any wr w.heap.size w.heap.size _ (nstsL_lt _) HBl.out HB.out.size)
   rw [List.take_length] at HS
   go_wp2_with fail
   refine HS.out.mono ?_
   rintro e2 w2 ⟨rfl, _, hb2⟩
   have HB2 := Lib.hid (HB.out.trans hb2)
   clear hb2
   go_wp2_with fail
   go_ret
   exact ⟨rfl, HB2.out⟩
end
end Go.Proofs.YtbccghbngaiceaaGreatDoor
