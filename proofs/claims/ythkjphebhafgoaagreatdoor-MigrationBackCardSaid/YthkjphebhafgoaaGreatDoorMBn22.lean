/-
  Joined: VqC OpnV.
-/
import Derived.Test.YthkjphebhafgoaaGreatDoorMBn08
import Derived.Test.YthkjphebhafgoaaGreatDoorMBn10
import Derived.Test.YthkjphebhafgoaaGreatDoorMBn13
import Derived.HandedShaped
set_option linter.all false
set_option maxRecDepth 100000
set_option maxHeartbeats 64000000
namespace Go.Proofs.YthkjphebhafgoaaGreatDoor
section
open Go.RowKit
theorem binit_any (w : World) : Calls Tryz.prog 87 #[] w fun e w' => e = .returned (.agg #[.int .u32 1779033703, .int .u32 3144134277, .int .u32 1013904242, .int .u32 2773480762, .int .u32 1359893119, .int .u32 2600822924, .int .u32 528734635, .int .u32 1541459225]) ∧ Below w.heap.size w w' := by
 have HZ := Lib.hid (Blk.new w 169 (initW.map u32V))
 have HB := Lib.hid ((Below.refl w.heap.size w).alloc (Nat.le_refl _) (.cells (initW.map u32V).toArray 169))
 go_enter Tryz.func87, Tryz.ntmps87
 go_wp2_with fail
 refine bodyPost_ret (results_cell_row rfl _ _ w.heap.size 169 _ (0, 0) _ rfl HZ.out Tryz.underlying169 rfl (by kernel_rfl)) rfl ?_
 exact ⟨rfl, HB.out⟩
theorem bperm_any (w : World) : Calls Tryz.prog 152 #[] w fun e w' => e = .returned (.agg #[.int .u64 81985529216486895, .int .u64 16881918945140062035, .int .u64 13312731748010193300, .int .u64 8733003861693448440, .int .u64 10400822202260547645, .int .u64 3200383143768358425, .int .u64 14204332651957162635, .int .u64 15816291393287259690, .int .u64 8064173457993569445, .int .u64 11710614767857974480]) ∧ Below w.heap.size w w' := by
 have HZ := Lib.hid (Blk.new w 244 [.int .u64 81985529216486895, .int .u64 16881918945140062035, .int .u64 13312731748010193300, .int .u64 8733003861693448440, .int .u64 10400822202260547645, .int .u64 3200383143768358425, .int .u64 14204332651957162635, .int .u64 15816291393287259690, .int .u64 8064173457993569445, .int .u64 11710614767857974480])
 have HB := Lib.hid ((Below.refl w.heap.size w).alloc (Nat.le_refl _) (.cells #[.int .u64 81985529216486895, .int .u64 16881918945140062035, .int .u64 13312731748010193300, .int .u64 8733003861693448440, .int .u64 10400822202260547645, .int .u64 3200383143768358425, .int .u64 14204332651957162635, .int .u64 15816291393287259690, .int .u64 8064173457993569445, .int .u64 11710614767857974480] 244))
 go_enter Tryz.func152, Tryz.ntmps152
 go_wp2_with fail
 refine bodyPost_ret (results_cell_row rfl _ _ w.heap.size 244 _ (0, 0) _ rfl HZ.out Tryz.underlying244 rfl (by kernel_rfl)) rfl ?_
 exact ⟨rfl, HB.out⟩
end
section
open Go.ChangeShapes Go.WideShapes Go.ChangeAt Go.RowKit Go.Deep
theorem cellsAtr : Tryz.prog.cellsOf 117 = 2 := by kernel_rfl
theorem cellsAtrs : Tryz.prog.cellsOf 45 = 1 := by kernel_rfl
instance : Inhabited Atr := ⟨⟨⟨#[]⟩, ⟨#[]⟩⟩⟩
instance : Inhabited Cha := ⟨⟨0, ⟨#[]⟩, [], ⟨#[]⟩, ⟨#[]⟩⟩⟩
instance : Inhabited Bat := ⟨⟨0, []⟩⟩
theorem list2 {α : Type} {l : List α} (h : l.length = 2) : ∃ c0 c1, l = [c0, c1] := by
 match l, h with
 | [c0, c1], _ => exact ⟨c0, c1, rfl⟩
section
variable {H : Type} {enc : TypeId × Value → H} {w : World}
theorem seq_of {α : Type} [Inhabited α] {ρ : Shape α} {TS T : TypeId} (hu : Tryz.prog.underlying TS = some (.slice T)) (hc : Tryz.prog.cellsOf T = ρ.n) (hn : 0 < ρ.n)
  (hcell : ∀ {fuel : Nat} {cs : List Value} {y : DataW H × List MemPlace}, cs.length = ρ.n → DataW.trod enc Tryz.prog w 0 (fun _ => true) true fuel T cs = some y → ∃ x, ρ.R w cs x)
  {fuel : Nat} {c : Value} {y : DataW H × List MemPlace} (hf : DataW.trod enc Tryz.prog w 0 (fun _ => true) true fuel TS [c] = some y) : ∃ xs, SeqAt ρ w c xs := by
 rcases open_slice hu hf with ⟨hcs, _⟩ | ⟨a, len, cap, m, n, D, Pl, hcs, _, hl, hm, hmm, _, hx⟩
 ·simp only [List.cons.injEq, and_true] at hcs
  subst hcs
  exact ⟨[], SeqAt.nil _⟩
 ·simp only [List.cons.injEq, and_true] at hcs
  have hmc : m = cap := by simpa using hmm
  rw [hc] at hx
  obtain ⟨F, hF⟩ := choose_lt (α := α) (n := len) (p := fun i x => ∃ cs, ρ.R w cs x ∧ ∀ j u, cs[j]? = some u → w.cell? ((a.add (i * ρ.n)).add j) = some u) fun i hi => by
   obtain ⟨cs', hcc, ht⟩ := hx i (by omega)
   obtain ⟨_, hcl, hat⟩ := World.cells?_some hcc
   obtain ⟨x, hr⟩ := hcell hcl ht
   exact ⟨x, cs', hr, fun j u hu => by
    have hj : j < ρ.n := by
     have := (List.getElem?_eq_some_iff.1 hu).1
     rwa [hcl] at this
    rw [hat j hj, hu]⟩
  obtain ⟨b, o, spt⟩ := a
  refine ⟨(List.range len).map F, some ⟨b, o, spt⟩, cap, by simpa using hcs, by simpa using hl, by unfold maxLen at hm; omega, fun i x hi => ?_⟩
  rw [List.getElem?_map] at hi
  obtain ⟨j, hj, rfl⟩ := Option.map_eq_some_iff.1 hi
  obtain ⟨h1, h2⟩ := List.getElem?_eq_some_iff.1 hj
  simp at h1 h2
  subst h2
  obtain ⟨cs, hr, hcs2⟩ := hF i h1
  have hspot : spt = none := by
   obtain ⟨cs0, hr0, hc0⟩ := hF 0 (by omega)
   have h0 : 0 < cs0.length := by rw [ρ.len hr0]; exact hn
   have h3 := hc0 0 _ (List.getElem?_eq_getElem h0)
   simpa [Addr.add] using World.cell?_spot h3
  subst hspot
  exact ⟨b, o, cs, rfl, hr, fun j u hu => by
   have h := hcs2 j u hu
   rwa [Addr.add_lit, Addr.add_lit] at h⟩
theorem atr_cells {fuel : Nat} {cs : List Value} {y : DataW H × List MemPlace} (hl : cs.length = 2) (hf : DataW.trod enc Tryz.prog w 0 (fun _ => true) true fuel 117 cs = some y) : ∃ x : Atr, atrS.R w cs x := by
 obtain ⟨c0, c1, rfl⟩ := list2 hl
 obtain ⟨xs, n, _, _, _, hlen, hfs⟩ := DataW.trod_struct Tryz.underlying117 hf
 obtain ⟨y0, y1, rfl⟩ := list2 (l := xs) hlen
 have f0 : DataW.trod enc Tryz.prog w 0 (fun _ => true) true n 9 (([c0, c1].drop 0).take (Tryz.prog.cellsOf 9)) = some y0 := hfs 0 _ rfl
 have f1 : DataW.trod enc Tryz.prog w 0 (fun _ => true) true n 9 (([c0, c1].drop 1).take (Tryz.prog.cellsOf 9)) = some y1 := hfs 1 _ rfl
 rw [cellsS] at f0 f1
 replace f0 : DataW.trod enc Tryz.prog w 0 (fun _ => true) true n 9 [c0] = some y0 := f0
 replace f1 : DataW.trod enc Tryz.prog w 0 (fun _ => true) true n 9 [c1] = some y1 := f1
 obtain ⟨k, e0, _, _⟩ := DataW.trod_string Tryz.underlying9 f0
 obtain ⟨v, e1, _, _⟩ := DataW.trod_string Tryz.underlying9 f1
 have h0 : c0 = .string k := by simpa [Value.cells] using e0
 have h1 : c1 = .string v := by simpa [Value.cells] using e1
 subst h0 h1
 exact ⟨⟨k, v⟩, rfl⟩
theorem open_layout {v : Value} {d : DataW H} {p : List MemPlace} {b0 : Nat} (hval : Value.okWide Tryz.prog w .any b0 24 v) (hd : DataW.Trod enc Tryz.prog w 0 (fun _ => true) true 24 v d p) :
  ∃ a b : Int, v = .agg #[.int .i64 a, .int .i64 b] := by
 obtain ⟨⟨cs⟩, rfl, hsz⟩ := okWide_struct Tryz.underlying24 hval
 rw [cellsL] at hsz
 obtain ⟨c0, c1, rfl⟩ := list2 hsz
 obtain ⟨fuel, hf⟩ := hd
 obtain ⟨z0, z1, m, _, _, g0, g1⟩ := trod_struct2 Tryz.underlying24 hf
 replace g0 : DataW.trod enc Tryz.prog w 0 (fun _ => true) true m 3 (([c0, c1].drop 0).take (Tryz.prog.cellsOf 3)) = some z0 := g0
 replace g1 : DataW.trod enc Tryz.prog w 0 (fun _ => true) true m 3 (([c0, c1].drop 1).take (Tryz.prog.cellsOf 3)) = some z1 := g1
 rw [cellsI] at g0 g1
 replace g0 : DataW.trod enc Tryz.prog w 0 (fun _ => true) true m 3 [c0] = some z0 := g0
 replace g1 : DataW.trod enc Tryz.prog w 0 (fun _ => true) true m 3 [c1] = some z1 := g1
 obtain ⟨k0, e0, _, _⟩ := DataW.trod_int Tryz.underlying3 g0
 obtain ⟨k1, e1, _, _⟩ := DataW.trod_int Tryz.underlying3 g1
 have h0 : c0 = .int .i64 k0 := by simpa [Value.cells] using e0
 have h1 : c1 = .int .i64 k1 := by simpa [Value.cells] using e1
 subst h0 h1
 exact ⟨k0, k1, rfl⟩
end
theorem tab_of {W : World} {L : List (String × DataW Unit)} (hL : laidMetH Tryz.prog L W) (hk : (L.filter fun x => x.1 == "internal/strconv.uint64pow10") = [("internal/strconv.uint64pow10", Lib.tabData .u64 Lib.pow10Tab)]) (hsh : W.ShapedOpen Tryz.prog) : Tab W := by
 have h1 := hL.filter fun x => x.1 == "internal/strconv.uint64pow10"
 rw [hk, MakeChecks.laidMetH_plain _ _ _ (by kernel_rfl)] at h1
 refine ⟨?_, ?_⟩
 ·exact Lib.tabIs_of_head (g := 1) (t := 417) (e := 173) (n := 20) (by kernel_rfl) (by kernel_rfl) Tryz.underlying417 Tryz.underlying173 (by kernel_rfl) (by kernel_rfl) h1
 ·exact cell_of_shapedOpen_int (P := Tryz.prog) (g := 0) (t := 3) (zero := #[.int .i64 0]) hsh (of_decide_eq_true (by kernel_rfl)) (by kernel_rfl) rfl (by kernel_rfl) (by kernel_rfl) Tryz.underlying3
theorem returns_shaped {H : Type} {enc : TypeId × Value → H} {a : Assume} {C : Checked} {os : Os} {f : FuncId} {fn : Func} {s : ChangeSpec} {conds : List PathCond} {apart fresh handsOn again : Bool} {X : World → Array Value → Prop}
  (hX : ∀ (w w' : World) (args : Array Value), w.heap = w'.heap → X w args → X w' args)
  (own : ownKnob C.prog.godebug = none) (started : os.Started) (noInit : C.prog.inits.idxOf? f = none) (hfn : C.prog.funcs[f]? = some fn)
  (witness : ∃ (w : World) (tape : Tape) (i : Input), w.os = os ∧ (w.forCall tape i).Shaped C.prog ∧ i.vars = [] ∧ Input.okWide C.prog (w.forCall tape i) .any w.heap.size f i ∧
   ((s.pre enc C.prog fn conds apart (w.forCall tape i).memory i.args ∧ X (w.forCall tape i).memory i.args) ∧ sizedMet enc C.prog fn (OpenSpec.ofChange s) apart (w.forCall tape i).memory i.args) ∧ a.holds C.prog (lone (Frame.enter C.prog f i.args .normal) [] (w.forCall tape i)))
  (contract : ∀ (W : World) (base : Nat) (args : Array Value) (ds gs : List (DataW H)) (before : List MemPlace),
   (∀ (j : Nat) t v, fn.params[j]? = some t → args[j]? = some v → Value.okWide C.prog W .any base t v) →
   DataW.Whole enc C.prog fn.params.toList s.vars apart W args.toList ds gs before →
   conds.all (PathCond.test C.prog ⟨fn.params.toList, ds, s.plain.varTypes C.prog, gs⟩) = true →
   (DataW.weightsEach C.prog (fn.params.toList ++ s.plain.varTypes C.prog) (ds ++ gs)).all (· ≤ reachBytes) = true → X W args → W.ShapedOpen C.prog →
   a.holds C.prog (lone (Frame.enter C.prog f args .normal) [] W) →
   Calls C.prog f args W fun e W' => ∃ v, e = .returned v ∧ s.post enc C.prog fn apart fresh handsOn again W args v W') :
  ReturnsInHanded a C os f .any (fun w args => (s.pre enc C.prog fn conds apart w args ∧ X w args) ∧ sizedMet enc C.prog fn (OpenSpec.ofChange s) apart w args) (s.post enc C.prog fn apart fresh handsOn again) := by
 refine returnsInHanded_of_calls own started noInit witness ?_
 intro w tape i _ hsh _ hok hpre hholds
 obtain ⟨_, _, _, fn', hfn', _, _, _, _, hval⟩ := hok
 have e : fn' = fn := Option.some.inj (hfn'.symm.trans hfn)
 subst e
 obtain ⟨⟨⟨ds, gs, before, hw, hc⟩, hx⟩, hz⟩ := hpre
 have hw' := DataW.Whole.of_heap (w' := w.forCall tape i) (by rfl) hw
 refine (contract (w.forCall tape i) w.heap.size i.args ds gs before hval hw' hc (hz.weights hw) (hX _ _ _ (by rfl) hx) hsh hholds).mono fun e W' ⟨v, he, hp⟩ => ?_
 subst he
 exact ChangeSpec.post_blind hp
end
end Go.Proofs.YthkjphebhafgoaaGreatDoor
