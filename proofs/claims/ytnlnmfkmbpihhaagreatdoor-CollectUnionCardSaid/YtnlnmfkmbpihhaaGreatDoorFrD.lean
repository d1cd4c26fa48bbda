/-
 WALK: frame.Unmarshal.
 PLAIN: what frame.Decode answers; unreadable cells alone decode to zeros.
 PLAIN: sizes of what the decoder makes.
-/
import Derived.Test.YtnlnmfkmbpihhaaGreatDoorFrB
import Derived.Test.YtnlnmfkmbpihhaaGreatDoorPolW
import Derived.Test.YtnlnmfkmbpihhaaGreatDoorStrW
namespace Go.Proofs.YtnlnmfkmbpihhaaGreatDoor
open Go.RowKit

theorem setCells_blk {g : Nat} {t : TypeId} : ∀ (vs : List Value) (pre us : List Value) (W : World), Blk W g t (pre ++ us) → us.length = vs.length → Blk (W.setCells g pre.length vs) g t (pre ++ vs)
 | [], pre, us, W, h, hl => by
  obtain rfl : us = [] := List.eq_nil_of_length_eq_zero hl
  exact h
 | v :: r, pre, us, W, h, hl => by
  match us, hl, h with
  | u :: us', hl, h =>
   have h1 := h.set pre.length v
   rw [List.set_append_right _ _ (Nat.le_refl _), Nat.sub_self, List.set_cons_zero] at h1
   have h2 := setCells_blk r (pre ++ [v]) us' _ (by rw [List.append_assoc]; exact h1) (by simpa using hl)
   rw [List.length_append, List.length_singleton, List.append_assoc] at h2
   exact h2
theorem Blk.there {W : World} {g : Nat} {t : TypeId} {us : List Value} (h : Blk W g t us) : W.there g 0 us.length := fun j hj => by
 rw [Nat.zero_add]
 exact ⟨by rw [h.cell (List.getElem?_eq_getElem hj)]; rfl, h.frozen j⟩
theorem Tryz.sizeFrame : (Tryz.prog.info? 34).map (·.size) = some 9 := by kernel_rfl
theorem frm_store {ops : Array Oper} {rest : List Oper} {op : Oper} {a : Act} {W : World} {Q : Exit → Act → World → Prop} (hgd : op.guard = none) (x y : Operand) (ho : op.op = .store 34 x y)
  (b : Nat) (cells : Array Value) (hx : a.eval x = .pointer (some ⟨b, 0, none⟩)) (hy : a.eval y = .agg cells)
  (ht : W.there b 0 cells.size) (h9 : cells.size = 9) (h1 : cells.all (·.oneCell') = true) (W1 : World) (hE : W.setCells b 0 cells.toList = W1)
  (h : wpList Tryz.prog ops Q rest (a.put op.dst undef) W1) : wpList Tryz.prog ops Q (op :: rest) a W :=
 wpList_store_mid hgd 34 x y ho b 0 cells hx hy ht (by rw [h9]; exact Tryz.sizeFrame) h1 (by rw [hE]; exact h)
theorem Turned.trans {A B C : World} {g : Nat} (h : Turned A B g) (k : Turned B C g) : Turned A C g :=
 ⟨k.os.trans h.os, k.tape.trans h.tape, k.output.trans h.output, k.size.trans h.size, fun j hj => (k.other j hj).trans (h.other j hj)⟩
theorem setCells_turned : ∀ (vs : List Value) (W : World) (g o : Nat), Turned W (W.setCells g o vs) g
 | [], W, g, _ => turned_refl W g
 | v :: r, W, g, o => (turned_set1 W g o v).trans (setCells_turned r _ g (o + 1))
def zeroL : List Value := [.int .i64 0, .int .i64 0, .int .i64 0, .int .i64 0, .int .i64 0, .int .i64 0, .int .i64 0, .int .u32 0, .string ⟨#[]⟩]
section
variable {ops : Array Oper} {o : Oper} {a : Act} {K : Act → World → Prop} {Q : Exit → Act → World → Prop} {E : Prop}
theorem step_allocF {W : World} (d : Tmp) (_hd : o.dst = some d) (hw : Region.wanted o (yielded ops a.tmps) = true) (ho : o.op = .alloc 34)
  (h : ∀ g W', W.heap.size ≤ g → Blk W' g 34 zeroL → Below W.heap.size W W' → K (a.put (some d) (.pointer (some ⟨g, 0, none⟩))) W') :
  if Region.wanted o (yielded ops a.tmps) = true then Oper.wp Tryz.prog o a W K Q else E := by
 rw [if_pos hw]
 rw [← _hd] at h
 have hK := h _ _ (Nat.le_refl _) (Blk.new W 34 zeroL) ((Below.refl _ _).alloc (Nat.le_refl _) _)
 clear _hd
 unfold zeroL at hK
 unfold Oper.wp execOp
 simp only [ho]
 go_simp
 exact hK
theorem step_storeF {W : World} {g : Nat} {us : List Value} (hw : Region.wanted o (yielded ops a.tmps) = true) (p s : Operand) (ho : o.op = .store 34 p s) (cells : Array Value)
  (hp : a.eval p = .pointer (some ⟨g, 0, none⟩)) (hs : a.eval s = .agg cells) (h9 : cells.size = 9) (h1 : cells.all (·.oneCell') = true) (ht : Blk W g 34 us) (hu : us.length = 9)
  (h : ∀ W', Blk W' g 34 cells.toList → Turned W W' g → K (a.put o.dst undef) W') :
  if Region.wanted o (yielded ops a.tmps) = true then Oper.wp Tryz.prog o a W K Q else E := by
 rw [if_pos hw]
 have hb := setCells_blk cells.toList [] us W ht (by rw [hu]; simp [h9])
 exact wp_store_mid 34 p s ho g 0 cells hp hs (by rw [h9, ← hu]; exact ht.there) (by rw [h9]; exact Tryz.sizeFrame) h1 (h _ hb (setCells_turned _ _ _ _))
end
/-- The checksum behind the first forty bytes is theirs. -/
def sumOK (s : ByteArray) : Bool := (strB (be4 (sumL [s.extract 0 40]))).toList == (s.extract 40 44).toList
def unmF (s : ByteArray) : Value :=
 frV (valL (bs (s.extract 0 1))) (valL (bs (s.extract 1 2))) (valL (bs (s.extract 2 4))) (valL (bs (s.extract 4 6))) (valL (bs (s.extract 6 7))) (cf (bs s) 7 / 16 : Nat) (cf (bs s) 7 % 16 : Nat) (valL (bs (s.extract 8 12))) (s.extract 12 40)
def unmL (s : ByteArray) : List Value :=
 [.int .i64 (valL (bs (s.extract 0 1))), .int .i64 (valL (bs (s.extract 1 2))), .int .i64 (valL (bs (s.extract 2 4))), .int .i64 (valL (bs (s.extract 4 6))), .int .i64 (valL (bs (s.extract 6 7))), .int .i64 (cf (bs s) 7 / 16 : Nat), .int .i64 (cf (bs s) 7 % 16 : Nat), .int .u32 (valL (bs (s.extract 8 12))), .string (s.extract 12 40)]
theorem u8_and15 : ∀ n : Fin 256, bits .and .u8 ((n.val : Nat) : Int) 15 = ((n.val % 16 : Nat) : Int) := by decide +kernel
theorem valL_small (s : ByteArray) (i j : Nat) (h : j ≤ i + 2) : IntKind.i64.wrap ((valL (bs (s.extract i j)) : Nat) : Int) = (valL (bs (s.extract i j)) : Nat) := by
 have h1 := valL_lt (bs (s.extract i j)) (fun x hx => bs_lt _ x hx)
 have h2 : (bs (s.extract i j)).length ≤ 2 := by rw [bs_len, ByteArray.size_extract]; omega
 have h3 : 256 ^ (bs (s.extract i j)).length ≤ 65536 := Nat.le_trans (Nat.pow_le_pow_right (by decide) h2) (by decide)
 rw [IntKind.wrap_i64]
 omega
theorem unmL_eq (s : ByteArray) (h : 7 < s.size) :
  [Value.int .i64 (IntKind.i64.wrap (valL (bs (s.extract 0 1)) : Nat)), .int .i64 (IntKind.i64.wrap (valL (bs (s.extract 1 2)) : Nat)), .int .i64 (IntKind.i64.wrap (valL (bs (s.extract 2 4)) : Nat)),
   .int .i64 (IntKind.i64.wrap (valL (bs (s.extract 4 6)) : Nat)), .int .i64 (IntKind.i64.wrap (valL (bs (s.extract 6 7)) : Nat)), .int .i64 (IntKind.i64.wrap (((s[7]'h).toNat : Int) / 16)),
   .int .i64 (IntKind.i64.wrap (bits .and .u8 ((s[7]'h).toNat : Int) 15)), .int .u32 (valL (bs (s.extract 8 12)) : Nat), .string (s.extract 12 40)] = unmL s := by
 have h8 : (s[7]'h).toNat < 256 := UInt8.toNat_lt _
 have h15 := u8_and15 ⟨(s[7]'h).toNat, h8⟩
 dsimp only at h15
 rw [valL_small s 0 1 (by omega), valL_small s 1 2 (by omega), valL_small s 2 4 (by omega), valL_small s 4 6 (by omega), valL_small s 6 7 (by omega), h15]
 unfold unmL
 rw [bs_cf s 7 h]
 have e1 : IntKind.i64.wrap (((s[7]'h).toNat : Int) / 16) = (((s[7]'h).toNat / 16 : Nat) : Int) := by rw [IntKind.wrap_i64]; omega
 have e2 : IntKind.i64.wrap (((s[7]'h).toNat % 16 : Nat) : Int) = (((s[7]'h).toNat % 16 : Nat) : Int) := by rw [IntKind.wrap_i64]; omega
 rw [e1, e2]
def unmE (s : ByteArray) : Int :=
 frE (valL (bs (s.extract 0 1))) (valL (bs (s.extract 1 2))) (valL (bs (s.extract 2 4))) (valL (bs (s.extract 4 6))) (valL (bs (s.extract 6 7))) (cf (bs s) 7 / 16 : Nat) (cf (bs s) 7 % 16 : Nat) (s.extract 12 40)
def zeroF : Value := frV 0 0 0 0 0 0 0 0 ⟨#[]⟩
def unmR (s : ByteArray) : Value :=
 if s.size ≠ 44 then .tuple #[zeroF, .int .i64 4] else if !sumOK s then .tuple #[zeroF, .int .i64 5]
 else if unmE s ≠ 0 then .tuple #[zeroF, .int .i64 (unmE s)] else .tuple #[unmF s, .int .i64 0]

set_option maxRecDepth 100000 in
set_option maxHeartbeats 8000000 in
theorem funm_any (w : World) (s : ByteArray) (_hs : s.size ≤ 1000) :
  Calls Tryz.prog 55 #[.string s] w fun e w' => e = .returned (unmR s) ∧ Below w.heap.size w w' := by
 obtain ⟨R, hR⟩ : ∃ R, unmR s = R := ⟨_, rfl⟩
 rw [hR]
 unfold unmR at hR
 by_cases h44 : s.size = 44
 ·rw [if_neg (by omega)] at hR
  have HR := Lib.hid hR
  clear hR
  have h44I : (s.size : Int) = 44 := by omega
  go_enter Tryz.func55, Tryz.ntmps55
  go_upto_region 3 with fail
  have HZ := Lib.hid (Blk.new w 34 [.int .i64 0, .int .i64 0, .int .i64 0, .int .i64 0, .int .i64 0, .int .i64 0, .int .i64 0, .int .u32 0, .string ⟨#[]⟩])
  have HBz := Lib.hid ((Below.refl w.heap.size w).alloc (Nat.le_refl _) (.cells #[.int .i64 0, .int .i64 0, .int .i64 0, .int .i64 0, .int .i64 0, .int .i64 0, .int .i64 0, .int .u32 0, .string ⟨#[]⟩] 34))
  change Hid (Blk (w.alloc (.cells #[.int .i64 0, .int .i64 0, .int .i64 0, .int .i64 0, .int .i64 0, .int .i64 0, .int .i64 0, .int .u32 0, .string ⟨#[]⟩] 34)) _ _ _) at HZ
  generalize w.alloc (.cells #[.int .i64 0, .int .i64 0, .int .i64 0, .int .i64 0, .int .i64 0, .int .i64 0, .int .i64 0, .int .u32 0, .string ⟨#[]⟩] 34) = wz at *
  obtain ⟨bad, hok⟩ : ∃ b, (!sumOK s) = b := ⟨_, rfl⟩
  go_cut [11] (fun s11 wx => s11 = .bool bad ∧ Below wz.heap.size wz wx)
  case first =>
   refine wp_region_held_drew (S := (fun _ => True)) (by kernel_rfl) ?_ (fun hHeld => ?_)
   ·exact trivial
   refine tk 0 ?_
   refine tk 1 ?_
   refine tk 5 ?_
   refine tk 6 ?_
   refine wpAnyH_ready (rs := [2]) (by kernel_rfl) (by simp) ?_
   refine AllReadyH.cons (o := _) rfl (fun K hK => ?_) ?_
   ·go_simp
    refine hko hK (by exact trivial) (fun _ => ?_)
    clear hK K
    refine wpAnyH_ready (rs := [3]) (by kernel_rfl) (by simp) ?_
    refine AllReadyH.cons (o := _) rfl (fun K hK => ?_) ?_
    ·go_simp
     refine (csum_any _ _ [s.extract 0 40] (Blk.slAt (f := strV) (xs := [s.extract 0 40]) (Blk.new wz.drew 9 [.string (s.extract 0 40)]) (c := 1) (by simp) (by omega)) (by intro x hx; rw [List.mem_singleton.1 hx, ByteArray.size_extract]; omega) (by simp)).mono ?_
     rintro e w5 ⟨rfl, rfl⟩
     (try go_wp2_with fail)
     refine hko hK (by exact trivial) (fun _ => ?_)
     clear hK K
     refine wpAnyH_ready (rs := [4]) (by kernel_rfl) (by simp) ?_
     refine AllReadyH.cons (o := _) rfl (fun K hK => ?_) ?_
     ·go_simp
      refine (cbytes_any _ _ (sumL_lt _)).mono ?_
      rintro e w6 ⟨rfl, hb6⟩
      (try go_wp2_with fail)
      refine hko hK (by exact trivial) (fun _ => ?_)
      clear hK K
      refine wpAnyH_ready (rs := [7]) (by kernel_rfl) (by simp) ?_
      refine AllReadyH.cons (o := _) rfl (fun K hK => ?_) ?_
      ·go_simp
       refine hko hK (by exact trivial) (fun _ => ?_)
       clear hK K
       refine wpAnyH_ready (rs := [8]) (by kernel_rfl) (by simp) ?_
       refine AllReadyH.cons (o := _) rfl (fun K hK => ?_) ?_
       ·go_simp
        refine hko hK (by exact trivial) (fun _ => ?_)
        clear hK K
        refine wpAnyH_done (by kernel_rfl) ?_ _
        have eB : Below wz.heap.size wz w6 := ((Below.refl wz.heap.size wz).drew.alloc (Nat.le_refl _) _).trans (hb6.mono (by simp))
        go_wp2_with fail
        go_meet
        exact ⟨by rw [← hok]; rfl, eB⟩
       exact AllReadyH.nil
      exact AllReadyH.nil
     exact AllReadyH.nil
    exact AllReadyH.nil
   exact AllReadyH.nil

  case rest =>
   obtain ⟨rfl, eB⟩ := hcut
   have hZ := HZ.out.kept eB
   have hBc := HBz.out.trans (eB.mono (HBz.out.size))
   cases bad with
   | true =>
    have HF := Lib.hid (setCells_blk [.int .i64 0, .int .i64 0, .int .i64 0, .int .i64 0, .int .i64 0, .int .i64 0, .int .i64 0, .int .u32 0, .string ⟨#[]⟩] [] _ wc hZ rfl)
    have HG := Lib.hid (setCells_below hBc (Nat.le_refl _) [.int .i64 0, .int .i64 0, .int .i64 0, .int .i64 0, .int .i64 0, .int .i64 0, .int .i64 0, .int .u32 0, .string ⟨#[]⟩] 0)
    have HT := Lib.hid hZ.there
    obtain ⟨W1, hE⟩ : ∃ W1, wc.setCells w.heap.size 0 [.int .i64 0, .int .i64 0, .int .i64 0, .int .i64 0, .int .i64 0, .int .i64 0, .int .i64 0, .int .u32 0, .string ⟨#[]⟩] = W1 := ⟨_, rfl⟩
    have HE := Lib.hid hE
    have HO : Hid ((#[Value.int .i64 0, Value.int .i64 0, Value.int .i64 0, Value.int .i64 0, Value.int .i64 0, Value.int .i64 0, Value.int .i64 0, Value.int .u32 0, Value.string ⟨#[]⟩] : Array Value).all (·.oneCell') = true) := Lib.hid (by simp [Value.oneCell'])
    have HR2 : Hid (R = .tuple #[zeroF, .int .i64 5]) := Lib.hid (by rw [← HR.out, hok, if_pos rfl])
    rw [hE] at HG
    have HF2 : Hid (Blk W1 w.heap.size 34 _) := Lib.hid (hE ▸ HF.out)
    clear hZ hBc eB HZ HBz hE hok HR HF
    go_upto_region 4 with fail
    go_wp2_with (refine frm_store rfl (.tmp 2) (.tmp 20) rfl _ _ rfl rfl HT.out rfl HO.out W1 HE.out ?_)
    have hF := HF2.out
    have c0 := hF.cell (i := 0) rfl
    have c1 := hF.cell (i := 1) rfl
    have c2 := hF.cell (i := 2) rfl
    have c3 := hF.cell (i := 3) rfl
    have c4 := hF.cell (i := 4) rfl
    have c5 := hF.cell (i := 5) rfl
    have c6 := hF.cell (i := 6) rfl
    have c7 := hF.cell (i := 7) rfl
    have c8 := hF.cell (i := 8) rfl
    rw [HR2.out]
    exact bodyPost_ret (v := .tuple #[zeroF, .int .i64 5]) (by simp [results, Tryz.results55, go_sem, zeroF, frV, c0, c1, c2, c3, c4, c5, c6, c7, c8]) rfl ⟨rfl, HG.out⟩
   | false =>
    have HR2 : Hid ((if unmE s ≠ 0 then Value.tuple #[zeroF, .int .i64 (unmE s)] else .tuple #[unmF s, .int .i64 0]) = R) := Lib.hid (by have h := HR.out; rw [hok, if_neg Bool.false_ne_true] at h; exact h)
    have HZc := Lib.hid hZ
    have HBc := Lib.hid hBc
    have HV : Hid (∀ (W : World) (q : ByteArray), q.size ≤ 4 → Calls Tryz.prog 116 #[.string q] W fun e w' => e = .returned (.int .u32 (valL (bs q))) ∧ W = w') := Lib.hid (fun W q hq => fvalue_any W q hq)
    have HUL := Lib.hid (unmL_eq s (by omega))
    have HPay : Hid ((s.extract 12 40).size ≤ 1000) := Lib.hid (by rw [ByteArray.size_extract]; omega)
    clear hZ hBc eB HZ HBz hok HR
    obtain ⟨wa, rfl⟩ : ∃ x, x = wc := ⟨_, rfl⟩
    go_upto_region 5 with fail
    go_cut [4] (fun s4 wy => ∃ g4 : Nat, s4 = .pointer (some ⟨g4, 0, none⟩) ∧ wa.heap.size ≤ g4 ∧ Blk wy g4 34 (unmL s) ∧ Below wa.heap.size wa wy)
    case first =>
     refine wp_region_held_drew (S := (fun _ => True)) (by kernel_rfl) ?_ (fun hHeld => ?_)
     ·exact trivial
     refine tk 0 ?_
     refine tk 1 ?_
     refine take_call (i := 2) (oi := _) (v := (.int .u32 ((valL (bs (s.extract 0 1)) : Nat) : Int))) rfl (by kernel_rfl) (by kernel_rfl) (by kernel_rfl) (fun _ _ _ h => h) (And.intro (by rfl) ?hyb3) (by assumption) ?restb3
     case hyb3 =>
      intro W hSw
      exact ⟨116, #[.string (s.extract 0 1)], by go_simp, HV.out W (s.extract 0 1) (by rw [ByteArray.size_extract]; omega)⟩
     try simp only [Act.put, List.setIfInBounds_toArray]
     try simp only [List.getElem_toArray, List.getElem_cons_zero, List.getElem_cons_succ]
     refine tk 3 ?_
     refine tk 4 ?_
     refine tk 5 ?_
     refine take_call (i := 6) (oi := _) (v := (.int .u32 ((valL (bs (s.extract 1 2)) : Nat) : Int))) rfl (by kernel_rfl) (by kernel_rfl) (by kernel_rfl) (fun _ _ _ h => h) (And.intro (by rfl) ?hyb7) (by assumption) ?restb7
     case hyb7 =>
      intro W hSw
      exact ⟨116, #[.string (s.extract 1 2)], by go_simp, HV.out W (s.extract 1 2) (by rw [ByteArray.size_extract]; omega)⟩
     try simp only [Act.put, List.setIfInBounds_toArray]
     try simp only [List.getElem_toArray, List.getElem_cons_zero, List.getElem_cons_succ]
     refine tk 7 ?_
     refine tk 8 ?_
     refine tk 9 ?_
     refine take_call (i := 10) (oi := _) (v := (.int .u32 ((valL (bs (s.extract 2 4)) : Nat) : Int))) rfl (by kernel_rfl) (by kernel_rfl) (by kernel_rfl) (fun _ _ _ h => h) (And.intro (by rfl) ?hyb11) (by assumption) ?restb11
     case hyb11 =>
      intro W hSw
      exact ⟨116, #[.string (s.extract 2 4)], by go_simp, HV.out W (s.extract 2 4) (by rw [ByteArray.size_extract]; omega)⟩
     try simp only [Act.put, List.setIfInBounds_toArray]
     try simp only [List.getElem_toArray, List.getElem_cons_zero, List.getElem_cons_succ]
     refine tk 11 ?_
     refine tk 12 ?_
     refine tk 13 ?_
     refine take_call (i := 14) (oi := _) (v := (.int .u32 ((valL (bs (s.extract 4 6)) : Nat) : Int))) rfl (by kernel_rfl) (by kernel_rfl) (by kernel_rfl) (fun _ _ _ h => h) (And.intro (by rfl) ?hyb15) (by assumption) ?restb15
     case hyb15 =>
      intro W hSw
      exact ⟨116, #[.string (s.extract 4 6)], by go_simp, HV.out W (s.extract 4 6) (by rw [ByteArray.size_extract]; omega)⟩
     try simp only [Act.put, List.setIfInBounds_toArray]
     try simp only [List.getElem_toArray, List.getElem_cons_zero, List.getElem_cons_succ]
     refine tk 15 ?_
     refine tk 16 ?_
     refine tk 17 ?_
     refine take_call (i := 18) (oi := _) (v := (.int .u32 ((valL (bs (s.extract 6 7)) : Nat) : Int))) rfl (by kernel_rfl) (by kernel_rfl) (by kernel_rfl) (fun _ _ _ h => h) (And.intro (by rfl) ?hyb19) (by assumption) ?restb19
     case hyb19 =>
      intro W hSw
      exact ⟨116, #[.string (s.extract 6 7)], by go_simp, HV.out W (s.extract 6 7) (by rw [ByteArray.size_extract]; omega)⟩
     try simp only [Act.put, List.setIfInBounds_toArray]
     try simp only [List.getElem_toArray, List.getElem_cons_zero, List.getElem_cons_succ]
     refine tk 19 ?_
     refine tk 20 ?_
     refine tk 21 ?_
     refine tk 22 ?_
     refine tk 23 ?_
     refine tk 24 ?_
     refine tk 25 ?_
     refine tk 26 ?_
     refine tk 27 ?_
     refine tk 28 ?_
     refine tk 29 ?_
     refine tk 30 ?_
     refine take_call (i := 31) (oi := _) (v := (.int .u32 ((valL (bs (s.extract 8 12)) : Nat) : Int))) rfl (by kernel_rfl) (by kernel_rfl) (by kernel_rfl) (fun _ _ _ h => h) (And.intro (by rfl) ?hyb32) (by assumption) ?restb32
     case hyb32 =>
      intro W hSw
      exact ⟨116, #[.string (s.extract 8 12)], by go_simp, HV.out W (s.extract 8 12) (by rw [ByteArray.size_extract]; omega)⟩
     try simp only [Act.put, List.setIfInBounds_toArray]
     try simp only [List.getElem_toArray, List.getElem_cons_zero, List.getElem_cons_succ]
     refine tk 32 ?_
     refine tk 33 ?_
     refine tk 34 ?_
     refine wpAnyH_ready (rs := [35]) (by kernel_rfl) (by simp) ?_
     refine AllReadyH.cons (o := _) rfl (fun K hK => ?_) ?_
     ·refine step_allocF 4 rfl rfl rfl ?_
      intro g4 w4 hg4 p4 hb4
      refine hko hK (by exact trivial) (fun _ => ?_)
      clear hK K
      refine wpAnyH_ready (rs := [36]) (by kernel_rfl) (by simp) ?_
      refine AllReadyH.cons (o := _) rfl (fun K hK => ?_) ?_
      ·refine step_storeF rfl (.tmp 4) (.tmp 55) rfl _ rfl rfl rfl (by simp [Value.oneCell']) p4 rfl ?_
       intro w5 p5 t5
       refine hko hK (by exact trivial) (fun _ => ?_)
       clear hK K
       refine wpAnyH_done (by kernel_rfl) ?_ _
       have eB : Below wa.heap.size wa w5 := t5.below ((Below.refl wa.heap.size wa).drew.trans hb4) hg4
       clear hb4 t5 p4
       go_wp2_with fail
       go_meet
       refine ⟨g4, rfl, hg4, ?_, eB⟩
       rw [← HUL.out]
       exact p5
      exact AllReadyH.nil
     exact AllReadyH.nil

    case rest =>
     obtain ⟨g4, rfl, hg4, p4, eB4⟩ := hcut
     have HZd := Lib.hid (HZc.out.kept eB4)
     have HBd := Lib.hid (HBc.out.trans (eB4.mono HBc.out.size))
     have hR2 := HR2.out
     have ht := HPay.out
     have hlt : w.heap.size < g4 := Nat.lt_of_lt_of_le HZc.out.lt hg4
     clear HR2 HPay HUL HV HZc HBc eB4
     unfold unmE unmF at hR2
     unfold unmL at p4
     generalize ((valL (bs (s.extract 0 1)) : Nat) : Int) = k at p4 hR2
     generalize ((valL (bs (s.extract 1 2)) : Nat) : Int) = r at p4 hR2
     generalize ((valL (bs (s.extract 2 4)) : Nat) : Int) = q at p4 hR2
     generalize ((valL (bs (s.extract 4 6)) : Nat) : Int) = i at p4 hR2
     generalize ((valL (bs (s.extract 6 7)) : Nat) : Int) = l at p4 hR2
     generalize ((cf (bs s) 7 / 16 : Nat) : Int) = d at p4 hR2
     generalize ((cf (bs s) 7 % 16 : Nat) : Int) = p at p4 hR2
     generalize ((valL (bs (s.extract 8 12)) : Nat) : Int) = a at p4 hR2
     generalize s.extract 12 40 = t at p4 hR2 ht
     have HC := Lib.hid (fun W => fcheck_any W k r q i l d p a t ht)
     obtain ⟨E, hE⟩ : ∃ E, frE k r q i l d p t = E := ⟨_, rfl⟩
     rw [hE] at hR2 HC
     clear hE ht hg4
     unfold frV at HC
     have HP4 := Lib.hid p4
     have c0 := p4.cell (i := 0) rfl
     have c1 := p4.cell (i := 1) rfl
     have c2 := p4.cell (i := 2) rfl
     have c3 := p4.cell (i := 3) rfl
     have c4 := p4.cell (i := 4) rfl
     have c5 := p4.cell (i := 5) rfl
     have c6 := p4.cell (i := 6) rfl
     have c7 := p4.cell (i := 7) rfl
     have c8 := p4.cell (i := 8) rfl
     clear p4
     by_cases h0 : E = 0
     ·subst h0
      have HR3 : Hid (R = .tuple #[frV k r q i l d p a t, .int .i64 0]) := Lib.hid (by rw [← hR2, if_neg (by simp)])
      clear hR2
      go_upto_region 9 with (go_at_call 117; refine (HC.out _).mono ?_; rintro e w7 ⟨rfl, hb7⟩)
      have hZ7 := HZd.out.kept hb7
      have hB7 := HBd.out.trans (hb7.mono HBd.out.size)
      have p7 := HP4.out.kept hb7
      have HF := Lib.hid (setCells_blk [.int .i64 k, .int .i64 r, .int .i64 q, .int .i64 i, .int .i64 l, .int .i64 d, .int .i64 p, .int .u32 a, .string t] [] _ w7 hZ7 rfl)
      have HG := Lib.hid (setCells_below hB7 (Nat.le_refl _) [.int .i64 k, .int .i64 r, .int .i64 q, .int .i64 i, .int .i64 l, .int .i64 d, .int .i64 p, .int .u32 a, .string t] 0)
      have HT := Lib.hid hZ7.there
      obtain ⟨W1, hE⟩ : ∃ W1, w7.setCells w.heap.size 0 [.int .i64 k, .int .i64 r, .int .i64 q, .int .i64 i, .int .i64 l, .int .i64 d, .int .i64 p, .int .u32 a, .string t] = W1 := ⟨_, rfl⟩
      have HE := Lib.hid hE
      have HO : Hid ((#[Value.int .i64 k, .int .i64 r, .int .i64 q, .int .i64 i, .int .i64 l, .int .i64 d, .int .i64 p, .int .u32 a, .string t] : Array Value).all (·.oneCell') = true) := Lib.hid (by simp [Value.oneCell'])
      rw [hE] at HG
      have HF2 : Hid (Blk W1 w.heap.size 34 _) := Lib.hid (hE ▸ HF.out)
      have c0 := p7.cell (i := 0) rfl
      have c1 := p7.cell (i := 1) rfl
      have c2 := p7.cell (i := 2) rfl
      have c3 := p7.cell (i := 3) rfl
      have c4 := p7.cell (i := 4) rfl
      have c5 := p7.cell (i := 5) rfl
      have c6 := p7.cell (i := 6) rfl
      have c7 := p7.cell (i := 7) rfl
      have c8 := p7.cell (i := 8) rfl
      clear hZ7 hB7 p7 hE HF HZd HBd hb7 HC
      go_wp2_with (refine frm_store rfl (.tmp 2) (.tmp 62) rfl _ _ rfl rfl HT.out rfl HO.out W1 HE.out ?_)
      have hF := HF2.out
      clear c0 c1 c2 c3 c4 c5 c6 c7 c8
      have c0 := hF.cell (i := 0) rfl
      have c1 := hF.cell (i := 1) rfl
      have c2 := hF.cell (i := 2) rfl
      have c3 := hF.cell (i := 3) rfl
      have c4 := hF.cell (i := 4) rfl
      have c5 := hF.cell (i := 5) rfl
      have c6 := hF.cell (i := 6) rfl
      have c7 := hF.cell (i := 7) rfl
      have c8 := hF.cell (i := 8) rfl
      rw [HR3.out]
      exact bodyPost_ret (v := .tuple #[frV k r q i l d p a t, .int .i64 0]) (by simp [results, Tryz.results55, go_sem, frV, c0, c1, c2, c3, c4, c5, c6, c7, c8]) rfl ⟨rfl, HG.out⟩
     ·have HR3 : Hid (R = .tuple #[zeroF, .int .i64 E]) := Lib.hid (by rw [← hR2, if_pos h0])
      have h1 : (E != 0) = true := by simpa using h0
      clear hR2 h0
      go_upto_region 8 with (go_at_call 117; refine (HC.out _).mono ?_; rintro e w7 ⟨rfl, hb7⟩)
      have hZ7 := HZd.out.kept hb7
      have hB7 := HBd.out.trans (hb7.mono HBd.out.size)
      have HF := Lib.hid (setCells_blk [.int .i64 0, .int .i64 0, .int .i64 0, .int .i64 0, .int .i64 0, .int .i64 0, .int .i64 0, .int .u32 0, .string ⟨#[]⟩] [] _ w7 hZ7 rfl)
      have HG := Lib.hid (setCells_below hB7 (Nat.le_refl _) [.int .i64 0, .int .i64 0, .int .i64 0, .int .i64 0, .int .i64 0, .int .i64 0, .int .i64 0, .int .u32 0, .string ⟨#[]⟩] 0)
      have HT := Lib.hid hZ7.there
      obtain ⟨W1, hE⟩ : ∃ W1, w7.setCells w.heap.size 0 [.int .i64 0, .int .i64 0, .int .i64 0, .int .i64 0, .int .i64 0, .int .i64 0, .int .i64 0, .int .u32 0, .string ⟨#[]⟩] = W1 := ⟨_, rfl⟩
      have HE := Lib.hid hE
      have HO : Hid ((#[Value.int .i64 0, Value.int .i64 0, Value.int .i64 0, Value.int .i64 0, Value.int .i64 0, Value.int .i64 0, Value.int .i64 0, Value.int .u32 0, Value.string ⟨#[]⟩] : Array Value).all (·.oneCell') = true) := Lib.hid (by simp [Value.oneCell'])
      rw [hE] at HG
      have HF2 : Hid (Blk W1 w.heap.size 34 _) := Lib.hid (hE ▸ HF.out)
      clear hZ7 hB7 hE HF HZd HBd hb7 HC c0 c1 c2 c3 c4 c5 c6 c7 c8
      go_wp2_with (refine frm_store rfl (.tmp 2) (.tmp 60) rfl _ _ rfl rfl HT.out rfl HO.out W1 HE.out ?_)
      have hF := HF2.out
      have c0 := hF.cell (i := 0) rfl
      have c1 := hF.cell (i := 1) rfl
      have c2 := hF.cell (i := 2) rfl
      have c3 := hF.cell (i := 3) rfl
      have c4 := hF.cell (i := 4) rfl
      have c5 := hF.cell (i := 5) rfl
      have c6 := hF.cell (i := 6) rfl
      have c7 := hF.cell (i := 7) rfl
      have c8 := hF.cell (i := 8) rfl
      rw [HR3.out]
      exact bodyPost_ret (v := .tuple #[zeroF, .int .i64 E]) (by simp [results, Tryz.results55, go_sem, zeroF, frV, c0, c1, c2, c3, c4, c5, c6, c7, c8]) rfl ⟨rfl, HG.out⟩
 ·rw [if_pos h44] at hR
  subst hR
  have h44I : ¬ ((s.size : Int) = 44) := by omega
  have h44J : ((s.size : Int) != 44) = true := by simpa using h44I
  go_enter Tryz.func55, Tryz.ntmps55
  go_wp2
  exact bodyPost_ret (v := .tuple #[zeroF, .int .i64 4]) (by simp [results, Tryz.results55, go_sem, zeroF, frV]) rfl ⟨rfl, (Below.refl _ _).alloc (Nat.le_refl _) _⟩

end Go.Proofs.YtnlnmfkmbpihhaaGreatDoor

namespace Go.Proofs.YtnlnmfkmbpihhaaGreatDoor
open Go.RowKit

def qualV (d u c : Int) : Value := .agg #[.int .i64 d, .int .i64 u, .int .i64 c]
def zeroQ : Value := qualV 0 0 0
def unmC (s : ByteArray) : Int := if s.size ≠ 44 then 4 else if !sumOK s then 5 else unmE s
theorem unmR_eq (s : ByteArray) : unmR s = .tuple #[if unmC s = 0 then unmF s else zeroF, .int .i64 (unmC s)] := by
 unfold unmR unmC
 split
 ·rfl
 ·split
  ·rfl
  ·split
   ·rfl
   ·next h => simp only [ne_eq, Decidable.not_not] at h; rw [h]; rfl
/-- The bits of the cells, and their distance. -/
def inner (l : List Nat) : List Nat × Int := match extP l with
 | some u => (u, 0)
 | none => (vdec 416 l 0, vst l 0)
def fullL (s : ByteArray) : List Nat := bs s ++ List.replicate (836 - s.size) 63
def wordL (s : ByteArray) : List Nat := deinL (fullL s)
def recL (s : ByteArray) : List Nat := toB (bitsS (inner (wordL s)).1)
def decR (s : ByteArray) : Value :=
 if chkE (bs s) ≠ 0 then .tuple #[zeroF, zeroQ, .int .i64 (chkE (bs s))]
 else if 836 < s.size then .tuple #[zeroF, zeroQ, .int .i64 6]
 else match rsDec (recL s) with
 | none => .tuple #[zeroF, zeroQ, .int .i64 11]
 | some (o, n) => if unmC (strB (o.take 44)) = 0 then .tuple #[unmF (strB (o.take 44)), qualV (inner (wordL s)).2 ((fullL s).count 63 : Nat) n, .int .i64 0] else .tuple #[zeroF, zeroQ, .int .i64 (unmC (strB (o.take 44)))]

end Go.Proofs.YtnlnmfkmbpihhaaGreatDoor

namespace Go.Proofs.YtnlnmfkmbpihhaaGreatDoor
open Go.RowKit

theorem chkE_ok {l : List Nat} (h : chkE l = 0) : cellsOK l = true := by
 unfold chkE at h
 cases hc : cellsOK l with
 | true => rfl
 | false => rw [hc] at h; simp at h
theorem cellsOK_iff {l : List Nat} : cellsOK l = true ↔ ∀ c ∈ l, c = 48 ∨ c = 49 ∨ c = 63 := by
 unfold cellsOK allIn cellSet
 rw [List.all_eq_true]
 simp
theorem full_len {s : ByteArray} (h : s.size ≤ 836) : (fullL s).length = 836 := by
 unfold fullL
 rw [List.length_append, bs_len, List.length_replicate]
 omega
theorem full_bytes (s : ByteArray) : Bytes (fullL s) := by
 intro x hx
 unfold fullL at hx
 rcases List.mem_append.1 hx with hx | hx
 ·exact bs_lt s x hx
 ·rw [(List.mem_replicate.1 hx).2]; omega
theorem full_ok {s : ByteArray} (h : cellsOK (bs s) = true) : cellsOK (fullL s) = true := by
 rw [cellsOK_iff] at h ⊢
 intro c hc
 unfold fullL at hc
 rcases List.mem_append.1 hc with hc | hc
 ·exact h c hc
 ·exact .inr (.inr (List.mem_replicate.1 hc).2)
theorem dein_mem {l : List Nat} (hl : l.length = 836) {x : Nat} (h : x ∈ deinL l) : x ∈ l := by
 unfold deinL at h
 obtain ⟨i, hi, rfl⟩ := List.mem_map.1 h
 have hi' := ilv_lt (List.mem_range.1 hi)
 have hlt : ilv i < l.length := by omega
 rw [cf_get (List.getElem?_eq_getElem hlt)]
 exact List.getElem_mem hlt
theorem word_len (s : ByteArray) : (wordL s).length = 836 := deinL_len _
theorem word_ok {s : ByteArray} (h : cellsOK (bs s) = true) (hs : s.size ≤ 836) : cellsOK (wordL s) = true := by
 have h1 := full_ok h
 rw [cellsOK_iff] at h1 ⊢
 exact fun c hc => h1 c (dein_mem (full_len hs) hc)
theorem word_bytes {s : ByteArray} (hs : s.size ≤ 836) : Bytes (wordL s) := fun x hx => full_bytes s x (dein_mem (full_len hs) hx)
theorem extP_some {l u : List Nat} (hl : l.length = 836) (h : extP l = some u) : u.length = 416 ∧ Bits u := by
 unfold extP at h
 split at h
 ·cases h
 ·split at h
  ·cases h
  ·next v hv =>
   obtain ⟨h1, h2⟩ := cext_some l 0 hv
   have h3 := cenc_len v 0
   rw [h2, hl] at h3
   split at h
   ·cases h
    rw [List.length_take]
    exact ⟨by omega, fun b hb => h1 b (List.mem_of_mem_take hb)⟩
   ·cases h
theorem inner_len {l : List Nat} (hl : l.length = 836) : (inner l).1.length = 416 ∧ Bits (inner l).1 := by
 unfold inner
 split
 ·next u hu => exact extP_some hl hu
 ·exact ⟨vdec_len 416 l 0 (by omega), vdec_bits 416 l 0⟩
theorem bitsS_01 {u : List Nat} (h : Bits u) : B01 (bitsS u) := fun c hc => by
 obtain ⟨x, hx, rfl⟩ := List.mem_map.1 hc
 have := h x hx
 omega
theorem toB_len (l : List Nat) : (toB l).length = l.length / 8 := by unfold toB; rw [List.length_map, List.length_range]
theorem toB_bytes (l : List Nat) : Bytes (toB l) := fun x hx => by
 unfold toB at hx
 obtain ⟨i, _, rfl⟩ := List.mem_map.1 hx
 exact Nat.lt_of_lt_of_le (pk_lt _ 8) (by decide)
theorem rec_len (s : ByteArray) : (recL s).length = 52 := by
 unfold recL
 rw [toB_len, bitsS_len, (inner_len (word_len s)).1]
theorem rec_bytes (s : ByteArray) : Bytes (recL s) := toB_bytes _
theorem rsDec_len {w o : List Nat} {n : Nat} (hw : Bytes w) (h : rsDec w = some (o, n)) : o.length = w.length ∧ Bytes o := by
 unfold rsDec at h
 dsimp only at h
 split at h
 ·cases h
 ·next out roots hf =>
  split at h
  ·cases h
   have := fixP_ok hw _ hf
   exact ⟨this.1, this.2.1⟩
  ·cases h
theorem take44 {o : List Nat} (ho : Bytes o) : (strB o).extract 0 44 = strB (o.take 44) := by
 refine bs_inj ?_
 rw [bs_extract, bs_strB ho, bs_strB (fun x hx => ho x (List.mem_of_mem_take hx)), List.drop_zero]
/-- A frame, cell by cell. -/
theorem frame_parts (s : ByteArray) : ∃ (k r q i l d p a : Int) (t : ByteArray), (if unmC s = 0 then unmF s else zeroF) = frV k r q i l d p a t := by
 by_cases h : unmC s = 0
 ·rw [if_pos h]; exact ⟨_, _, _, _, _, _, _, _, _, rfl⟩
 ·rw [if_neg h]; exact ⟨0, 0, 0, 0, 0, 0, 0, 0, ⟨#[]⟩, rfl⟩

end Go.Proofs.YtnlnmfkmbpihhaaGreatDoor
