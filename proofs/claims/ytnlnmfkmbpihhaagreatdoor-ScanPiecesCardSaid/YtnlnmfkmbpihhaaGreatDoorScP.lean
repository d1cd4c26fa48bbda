/-
 WALK: stelelaw14.cells; PLAIN: where sightings lie.
-/
import Derived.Test.YtnlnmfkmbpihhaaGreatDoorScPa
namespace Go.Proofs.YtnlnmfkmbpihhaaGreatDoor
open Go.RowKit

/-- A part of a piece. -/
structure Prt where
 front : ByteArray
 data : ByteArray
 reel : Nat
 ix : Nat
 at_ : Nat
 ln : Nat
 by_ : Nat
def Prt.cells (p : Prt) : List Value := [.string p.front, .int .u8 (p.reel : Int), .int .u16 (p.ix : Int), .string p.data, .int .u16 (p.at_ : Int), .int .u16 (p.ln : Int), .int .u8 (p.by_ : Int)]
def Prt.small (p : Prt) : Prop := p.front.size ≤ 9223372036854775807 ∧ p.data.size ≤ 9223372036854775807 ∧ p.reel < 256 ∧ p.ix < 65536 ∧ p.at_ < 65536 ∧ p.ln < 65536 ∧ p.by_ < 256
/-- A slice value that reads as these parts. -/
def PartsAt (W : World) (v : Value) (fs : List Prt) : Prop :=
 ∃ (A : Option Addr) (c : Nat), v = .slice A fs.length c ∧ fs.length ≤ c ∧ c ≤ 9223372036854775807 ∧
  ∀ i f, fs[i]? = some f → ∃ b o, A = some ⟨b, o, none⟩ ∧ ∀ j u, f.cells[j]? = some u → W.cell? ⟨b, o + i * 7 + j, none⟩ = some u
theorem PartsAt.below {W W' : World} {v : Value} {fs : List Prt} (h : PartsAt W v fs) (hb : Below W.heap.size W W') : PartsAt W' v fs := by
 obtain ⟨A, c, e, h1, h2, h3⟩ := h
 refine ⟨A, c, e, h1, h2, fun i f hf => ?_⟩
 obtain ⟨b, o, e1, h4⟩ := h3 i f hf
 exact ⟨b, o, e1, fun j u hu => cell_below hb (h4 j u hu)⟩

/-- Sightings that lie behind 'last', a frame apart, each at a mark whose body decodes so. -/
def Placed (s : ByteArray) : Int → List Sgt → Prop
 | _, [] => True
 | last, x :: r => last + 852 ≤ x.at_ ∧ x.at_ + 16 ≤ s.size ∧ x.piece = 0 ∧ findL (bs s) x.at_ = some x.at_ ∧ decP (bodyAt s x.at_) = (x.f, x.q, 0) ∧ Placed s x.at_ r
theorem tryAt_dec {s : ByteArray} {o : Nat} {x : Sgt} (h : tryAt s o = some x) : decP (bodyAt s o) = (x.f, x.q, 0) := by
 unfold tryAt at h
 split at h
 ·split at h
  ·next h0 =>
   cases h
   obtain ⟨⟨f, q, e⟩, hP⟩ : ∃ P, decP (bodyAt s o) = P := ⟨_, rfl⟩
   rw [hP] at h0 ⊢
   dsimp only at h0 ⊢
   rw [h0]
  ·cases h
 ·cases h
theorem scanL_placed (s : ByteArray) : ∀ (n i : Nat), s.size - i = n → ∀ last : Int, last + 852 ≤ i → Placed s last (scanL s i) := by
 intro n
 induction n using Nat.strongRecOn with
 | _ n ih =>
  intro i hi last hl
  cases hf : findL (bs s) i with
  | none => rw [scanL_none hf]; trivial
  | some o =>
   obtain ⟨h1, h2, h3, _⟩ := findL_some _ i rfl hf
   have h2' := h2
   rw [bs_len] at h2
   cases ht : tryAt s o with
   | none =>
    rw [scanL_miss hf ht]
    exact ih (s.size - (o + 1)) (by omega) (o + 1) rfl last (by omega)
   | some x =>
    rw [scanL_some hf ht]
    have hx := tryAt_at ht
    have hd := tryAt_dec ht
    have hfo := findL_hit h2' h3
    rw [← hx.1] at hfo hd
    refine ⟨by rw [hx.1]; omega, by rw [hx.1]; omega, hx.2, hfo, hd, ?_⟩
    rw [hx.1]
    by_cases hle : s.size < o + 852 + 16
    ·rw [scanL_end hle]; trivial
    ·exact ih (s.size - (o + 852)) (by omega) (o + 852) rfl o (by omega)
-- @CELLS
/-- A block of seven cells that is read. -/
abbrev Box7 (W : World) (H : Nat) (c0 c1 c2 c3 c4 c5 c6 : Value) : Prop := W.cell? ⟨H, 0, none⟩ = some c0 ∧ W.cell? ⟨H, 1, none⟩ = some c1 ∧ W.cell? ⟨H, 2, none⟩ = some c2 ∧ W.cell? ⟨H, 3, none⟩ = some c3 ∧ W.cell? ⟨H, 4, none⟩ = some c4 ∧ W.cell? ⟨H, 5, none⟩ = some c5 ∧ W.cell? ⟨H, 6, none⟩ = some c6
theorem Box7.keep {A B : World} {H : Nat} {c0 c1 c2 c3 c4 c5 c6 : Value} (h : Box7 A H c0 c1 c2 c3 c4 c5 c6) (hb : Below A.heap.size A B) : Box7 B H c0 c1 c2 c3 c4 c5 c6 := by
 obtain ⟨h0, h1, h2, h3, h4, h5, h6⟩ := h
 exact ⟨cell_below hb h0, cell_below hb h1, cell_below hb h2, cell_below hb h3, cell_below hb h4, cell_below hb h5, cell_below hb h6⟩
theorem Box7.drw {A : World} {H : Nat} {c0 c1 c2 c3 c4 c5 c6 : Value} (h : Box7 A H c0 c1 c2 c3 c4 c5 c6) : Box7 A.drew H c0 c1 c2 c3 c4 c5 c6 := h
theorem Box7.blk {W : World} {g : Nat} {t : TypeId} {c0 c1 c2 c3 c4 c5 c6 : Value} (h : Blk W g t [c0, c1, c2, c3, c4, c5, c6]) : Box7 W g c0 c1 c2 c3 c4 c5 c6 :=
 ⟨h.cell (i := 0) rfl, h.cell (i := 1) rfl, h.cell (i := 2) rfl, h.cell (i := 3) rfl, h.cell (i := 4) rfl, h.cell (i := 5) rfl, h.cell (i := 6) rfl⟩
theorem fencR_size (f : Frm) : ∃ (C : ByteArray) (E : Int), fencR f.k f.r f.s f.i f.l f.d f.p f.a f.t = .tuple #[.string C, .int .i64 E] ∧ (E = 0 → C.size = 852) := by
 unfold fencR
 split
 ·next h => exact ⟨_, _, rfl, fun e => absurd e h⟩
 ·exact ⟨_, _, rfl, fun _ => by rw [mark_cat, strB_size, List.length_append, markL_len, bodyL_len]⟩
theorem mkFrm_small (r s i ld lp : Int) (C : ByteArray) : (mkFrm r s i ld lp 7 C).small := by unfold Frm.small mkFrm; dsimp only; omega

set_option maxRecDepth 100000 in
set_option maxHeartbeats 16000000 in
theorem cells_any (w : World) (v : Value) (ps : List Prt) (hv : PartsAt w v ps) (hl : ps.length ≤ 2940000000000) (hs : ∀ p ∈ ps, p.small) :
  Calls Tryz.prog 12 #[v] w fun e w' => ∃ (S : ByteArray) (ok : Value), e = .returned (.tuple #[.string S, ok]) ∧ (ok = .bool false ∨ (ok = .bool true ∧ S.size ≤ 3156)) ∧ Below w.heap.size w w' := by
 have Hv := Lib.hid hv
 have Hs := Lib.hid hs
 have Hap : Hid (∀ x y : ByteArray, (x ++ y).size = x.size + y.size) := Lib.hid (fun x y => ByteArray.size_append)
 obtain ⟨A, c, rfl, h1, h2, h3⟩ := hv
 clear h3 hs
 go_enter Tryz.func12, Tryz.ntmps12
 go_wp2
 go_loopw [4, 11] (fun y z wr => ∃ (k : Nat) (S : ByteArray), k ≤ ps.length ∧ y = .string S ∧ z = .int .i64 (k : Int) ∧ S.size ≤ 1052 * k ∧ Below w.heap.size w wr) (fun _ z _ => ps.length - (intOf z).toNat)
 case atStart => exact ⟨0, ⟨#[]⟩, by omega, rfl, rfl, Nat.le_refl _, Below.refl _ _⟩
 case round =>
  obtain ⟨k, S, hk, rfl, rfl, hS, hB⟩ := hrel
  have HBr := Lib.hid hB
  clear hB
  by_cases h : k < ps.length
  ·have hkI : (k : Int) < ps.length := by omega
   obtain ⟨f, hf⟩ : ∃ f, ps[k]? = some f := ⟨_, List.getElem?_eq_getElem h⟩
   have hsm := Hs.out f (List.mem_of_getElem? hf)
   obtain ⟨_, _, e9, _, _, h4⟩ := Hv.out.below HBr.out
   cases e9
   obtain ⟨bb, o, rfl, h5⟩ := h4 k f hf
   obtain ⟨F, D, rl, ix, x, n, b⟩ := f
   obtain ⟨hF, hD, hrl, hix, hx, hn, hb⟩ := hsm
   dsimp only at hF hD hrl hix hx hn hb
   have c0 := h5 0 _ rfl
   have c1 := h5 1 _ rfl
   have c2 := h5 2 _ rfl
   have c3 := h5 3 _ rfl
   have c4 := h5 4 _ rfl
   have c5 := h5 5 _ rfl
   have c6 := h5 6 _ rfl
   dsimp only at c0 c1 c2 c3 c4 c5 c6
   clear h4 h5 hf Hs
   rw [Nat.add_zero] at c0
   have HZ := Lib.hid (Box7.blk (Blk.new wr 75 [.string F, .int .u8 (rl : Int), .int .u16 (ix : Int), .string D, .int .u16 (x : Int), .int .u16 (n : Int), .int .u8 (b : Int)]))
   change Hid (Box7 (wr.alloc (.cells #[.string F, .int .u8 (rl : Int), .int .u16 (ix : Int), .string D, .int .u16 (x : Int), .int .u16 (n : Int), .int .u8 (b : Int)] 75)) _ _ _ _ _ _ _ _) at HZ
   have HBz := Lib.hid (HBr.out.alloc HBr.out.size (.cells #[.string F, .int .u8 (rl : Int), .int .u16 (ix : Int), .string D, .int .u16 (x : Int), .int .u16 (n : Int), .int .u8 (b : Int)] 75))
   go_upto_region 5 with fail
   clear c0 c1 c2 c3 c4 c5 c6 HBr
   generalize wr.alloc (.cells #[.string F, .int .u8 (rl : Int), .int .u16 (ix : Int), .string D, .int .u16 (x : Int), .int .u16 (n : Int), .int .u8 (b : Int)] 75) = wz at *
   obtain ⟨d0, d1, d2, d3, d4, d5, d6⟩ := HZ.out
   by_cases hF2 : 200 < F.size
   ·have hFI : (200 : Int) < F.size := by omega
    go_wp2
    go_ret2
    exact ⟨⟨#[]⟩, .bool false, rfl, .inl rfl, HBz.out⟩
   ·have hFI : ¬ (200 : Int) < F.size := by omega
    by_cases hD2 : 40 < D.size
    ·have hDI : (40 : Int) < D.size := by omega
     go_wp2
     go_ret2
     exact ⟨⟨#[]⟩, .bool false, rfl, .inl rfl, HBz.out⟩
    ·have hDI : ¬ (40 : Int) < D.size := by omega
     obtain ⟨r, hr⟩ : ∃ r, rl % 3 = r := ⟨_, rfl⟩
     have hrT : (rl : Int) % 3 = (r : Int) := by omega
     obtain ⟨q, hq⟩ : ∃ q, n % 200 = q := ⟨_, rfl⟩
     have HqT : Hid (Int.tmod (n : Int) 200 = (q : Int)) := Lib.hid (by rw [Int.tmod_eq_emod_of_nonneg (by omega)]; omega)
     have hqz : q < 200 := by omega
     have HM := Lib.hid (fun W => rmake_all W (r : Int) 1 (ix : Int) 2 1 7 D (by omega))
     have HE := Lib.hid (fun W => renc_all W (mkFrm (r : Int) 1 (ix : Int) 2 1 7 D).k (mkFrm (r : Int) 1 (ix : Int) 2 1 7 D).r (mkFrm (r : Int) 1 (ix : Int) 2 1 7 D).s (mkFrm (r : Int) 1 (ix : Int) 2 1 7 D).i (mkFrm (r : Int) 1 (ix : Int) 2 1 7 D).l (mkFrm (r : Int) 1 (ix : Int) 2 1 7 D).d (mkFrm (r : Int) 1 (ix : Int) 2 1 7 D).p (mkFrm (r : Int) 1 (ix : Int) 2 1 7 D).a (mkFrm (r : Int) 1 (ix : Int) 2 1 7 D).t (mkFrm_small _ _ _ _ _ _))
     obtain ⟨C, E, hfe, hCz⟩ := fencR_size (mkFrm (r : Int) 1 (ix : Int) 2 1 7 D)
     rw [hfe] at HE
     unfold Frm.v at HM
     unfold mkFrm frV at HM HE
     dsimp only at HM HE
     generalize strB (padL (D.extract 0 (min 28 D.size))) = Z at *
     generalize ((min 28 D.size : Nat) : Int) = Lz at *
     clear hr hq hfe
     go_upto_region 7 with fail
     go_wp2_with fail
     (try rw [hrT])
     refine (HM.out _).mono ?_
     rintro e w1 ⟨rfl, hb1⟩
     go_wp2_with fail
     refine (HE.out _).mono ?_
     rintro e w2 ⟨rfl, hb2⟩
     have hb12 := hb1.trans (hb2.mono hb1.size)
     have HZx := Lib.hid (HZ.out.keep hb12)
     have HBy := Lib.hid (HBz.out.trans (hb12.mono HBz.out.size))
     clear hb1 hb2 hb12 HM HE HZ HBz d0 d1 d2 d3 d4 d5 d6
     by_cases hE : E = 0
     ·subst hE
      have hCz := hCz rfl
      obtain ⟨G, hG⟩ : ∃ G, strB (dmgL (bs C) (x % C.size) (dmgC b) q) = G := ⟨_, rfl⟩
      have hGz : G.size = 852 := by rw [← hG, strB_size, dmgL_len, bs_len, hCz]
      have HDm := Lib.hid (fun W => dmg_any W C x q b (by omega) (by omega) hx (by omega) hb)
      rw [hG] at HDm
      have hqT := HqT.out
      have hFG : ¬ 9223372036854775807 < F.size + 852 := by omega
      have hSG : ¬ 9223372036854775807 < S.size + (F.size + 852) := by omega
      clear hG
      go_upto_region 10 with fail
      refine wp_region_held_drew (S := (fun W => Box7 W wr.heap.size (.string F) (.int .u8 (rl : Int)) (.int .u16 (ix : Int)) (.string D) (.int .u16 (x : Int)) (.int .u16 (n : Int)) (.int .u8 (b : Int)))) (by kernel_rfl) ?_ (fun hHeld => ?_)
      ·(first | exact HZx.out | exact HZx.out.drw | exact HZx.out.drw.keep hb8)
      refine tk 0 ?_
      refine tk 1 ?_
      refine tk 2 ?_
      refine tk 3 ?_
      refine tk 4 ?_
      refine tk 5 ?_
      refine tk 6 ?_
      refine tk 7 ?_
      refine tk 8 ?_
      refine tk 9 ?_
      refine tk 10 ?_
      refine tk 11 ?_
      refine tk 12 ?_
      refine wpAnyH_ready (rs := [13]) (by kernel_rfl) (by simp) ?_
      refine AllReadyH.cons (o := _) rfl (fun K hK => ?_) ?_
      ·go_simp
       (try rw [show IntKind.i64.wrap (x : Int) = x by rw [IntKind.wrap_i64]; omega])
       (try rw [show IntKind.i64.wrap (n : Int) = n by rw [IntKind.wrap_i64]; omega])
       (try rw [hqT])
       refine (HDm.out _).mono ?_
       rintro e w8 ⟨rfl, hb8⟩
       (try go_wp2_with fail)
       refine hko hK (by (first | exact HZx.out | exact HZx.out.drw | exact HZx.out.drw.keep hb8)) (fun _ => ?_)
       clear hK K
       refine tk 14 ?_
       refine tk 15 ?_
       refine tk 16 ?_
       refine wpAnyH_done (by kernel_rfl) ?_ _
       have hb8' := (Below.refl _ _).drew.trans hb8
       have HB8 := Lib.hid (HBy.out.trans (hb8'.mono HBy.out.size))
       clear hb8 hb8' hHeld HDm HBy HZx
       go_wp2_with fail
       go_roundw
       case rel => exact ⟨k + 1, S ++ (F ++ G), by omega, rfl, by go_num, by rw [Hap.out, Hap.out]; omega, HB8.out⟩
       case measure => simp [intOf]; omega
      exact AllReadyH.nil
     ·have hne : (E != 0) = true := by simpa using hE
      go_wp2
      go_ret2
      exact ⟨⟨#[]⟩, .bool false, rfl, .inl rfl, HBy.out⟩
  ·obtain rfl : k = ps.length := by omega
   by_cases h3 : ps.length ≤ 3
   ·have h3I : (ps.length : Int) ≤ 3 := by omega
    go_wp2
    go_ret2
    exact ⟨S, .bool true, rfl, .inr ⟨rfl, by omega⟩, HBr.out⟩
   ·have h3I : ¬ (ps.length : Int) ≤ 3 := by omega
    go_wp2
    go_ret2
    exact ⟨S, .bool false, rfl, .inl rfl, HBr.out⟩
end Go.Proofs.YtnlnmfkmbpihhaaGreatDoor
