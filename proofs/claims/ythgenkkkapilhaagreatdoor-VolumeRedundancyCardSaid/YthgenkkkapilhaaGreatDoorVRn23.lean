/-
  Joined: VqC VqD VqE VqO VpM VqG VoS VoT FrE FrBz LvrD.
-/
import Derived.Test.YthgenkkkapilhaaGreatDoorVRn14
import Derived.Test.YthgenkkkapilhaaGreatDoorVRn17
import Derived.Test.YthgenkkkapilhaaGreatDoorVRn21
import Derived.Test.YthgenkkkapilhaaGreatDoorCards
set_option linter.all false
set_option maxRecDepth 100000
set_option maxHeartbeats 64000000
namespace Go.Proofs.YthgenkkkapilhaaGreatDoor
section
open Go.RowKit
theorem binit_any (w:World):Calls Tryz.prog 132 #[] w fun e w'=>e=.returned (.agg #[.int .u32 1779033703,.int .u32 3144134277,.int .u32 1013904242,.int .u32 2773480762,.int .u32 1359893119,.int .u32 2600822924,.int .u32 528734635,.int .u32 1541459225])/\Below w.heap.size w w':=by
 have HZ:=zY (Blk.new w 207 (initW.map u32V))
 have HB:=zY (zBl w (.cells (initW.map u32V).toArray 207))
 go_enter Tryz.func132,Tryz.ntmps132
 go_wp2_with fail
 refine bodyPost_ret (results_cell_row rfl _ _ w.heap.size 207 _ (0,0) _ rfl HZ.out Tryz.underlying207 rfl (by kernel_rfl)) rfl ?_
 exact⟨rfl,HB.out⟩
theorem bperm_any (w:World):Calls Tryz.prog 201 #[] w fun e w'=>e=.returned (.agg #[.int .u64 81985529216486895,.int .u64 16881918945140062035,.int .u64 13312731748010193300,.int .u64 8733003861693448440,.int .u64 10400822202260547645,.int .u64 3200383143768358425,.int .u64 14204332651957162635,.int .u64 15816291393287259690,.int .u64 8064173457993569445,.int .u64 11710614767857974480])/\Below w.heap.size w w':=by
 have HZ:=zY (Blk.new w 271 [.int .u64 81985529216486895,.int .u64 16881918945140062035,.int .u64 13312731748010193300,.int .u64 8733003861693448440,.int .u64 10400822202260547645,.int .u64 3200383143768358425,.int .u64 14204332651957162635,.int .u64 15816291393287259690,.int .u64 8064173457993569445,.int .u64 11710614767857974480])
 have HB:=zY (zBl w (.cells #[.int .u64 81985529216486895,.int .u64 16881918945140062035,.int .u64 13312731748010193300,.int .u64 8733003861693448440,.int .u64 10400822202260547645,.int .u64 3200383143768358425,.int .u64 14204332651957162635,.int .u64 15816291393287259690,.int .u64 8064173457993569445,.int .u64 11710614767857974480] 271))
 go_enter Tryz.func201,Tryz.ntmps201
 go_wp2_with fail
 refine bodyPost_ret (results_cell_row rfl _ _ w.heap.size 271 _ (0,0) _ rfl HZ.out Tryz.underlying271 rfl (by kernel_rfl)) rfl ?_
 exact⟨rfl,HB.out⟩
theorem quad_m0 (f:Nat×Operand->Nat×Value):(Array.map f #[(0,.const (.int .i64 0)),(1,.const (.int .i64 4)),(2,.const (.int .i64 8)),(3,.const (.int .i64 12))]).toList=[f (0,.const (.int .i64 0)),f (1,.const (.int .i64 4)),f (2,.const (.int .i64 8)),f (3,.const (.int .i64 12))]:=by simp
theorem quad_b0:Tryz.prog.built 273 [(0,.int .i64 0),(1,.int .i64 4),(2,.int .i64 8),(3,.int .i64 12)]=some #[.int .i64 0,.int .i64 4,.int .i64 8,.int .i64 12]:=by kernel_rfl
theorem quad_m1 (f:Nat×Operand->Nat×Value):(Array.map f #[(0,.const (.int .i64 1)),(1,.const (.int .i64 5)),(2,.const (.int .i64 9)),(3,.const (.int .i64 13))]).toList=[f (0,.const (.int .i64 1)),f (1,.const (.int .i64 5)),f (2,.const (.int .i64 9)),f (3,.const (.int .i64 13))]:=by simp
theorem quad_b1:Tryz.prog.built 273 [(0,.int .i64 1),(1,.int .i64 5),(2,.int .i64 9),(3,.int .i64 13)]=some #[.int .i64 1,.int .i64 5,.int .i64 9,.int .i64 13]:=by kernel_rfl
theorem quad_m2 (f:Nat×Operand->Nat×Value):(Array.map f #[(0,.const (.int .i64 2)),(1,.const (.int .i64 6)),(2,.const (.int .i64 10)),(3,.const (.int .i64 14))]).toList=[f (0,.const (.int .i64 2)),f (1,.const (.int .i64 6)),f (2,.const (.int .i64 10)),f (3,.const (.int .i64 14))]:=by simp
theorem quad_b2:Tryz.prog.built 273 [(0,.int .i64 2),(1,.int .i64 6),(2,.int .i64 10),(3,.int .i64 14)]=some #[.int .i64 2,.int .i64 6,.int .i64 10,.int .i64 14]:=by kernel_rfl
theorem quad_m3 (f:Nat×Operand->Nat×Value):(Array.map f #[(0,.const (.int .i64 3)),(1,.const (.int .i64 7)),(2,.const (.int .i64 11)),(3,.const (.int .i64 15))]).toList=[f (0,.const (.int .i64 3)),f (1,.const (.int .i64 7)),f (2,.const (.int .i64 11)),f (3,.const (.int .i64 15))]:=by simp
theorem quad_b3:Tryz.prog.built 273 [(0,.int .i64 3),(1,.int .i64 7),(2,.int .i64 11),(3,.int .i64 15)]=some #[.int .i64 3,.int .i64 7,.int .i64 11,.int .i64 15]:=by kernel_rfl
theorem quad_m4 (f:Nat×Operand->Nat×Value):(Array.map f #[(0,.const (.int .i64 0)),(1,.const (.int .i64 5)),(2,.const (.int .i64 10)),(3,.const (.int .i64 15))]).toList=[f (0,.const (.int .i64 0)),f (1,.const (.int .i64 5)),f (2,.const (.int .i64 10)),f (3,.const (.int .i64 15))]:=by simp
theorem quad_b4:Tryz.prog.built 273 [(0,.int .i64 0),(1,.int .i64 5),(2,.int .i64 10),(3,.int .i64 15)]=some #[.int .i64 0,.int .i64 5,.int .i64 10,.int .i64 15]:=by kernel_rfl
theorem quad_m5 (f:Nat×Operand->Nat×Value):(Array.map f #[(0,.const (.int .i64 1)),(1,.const (.int .i64 6)),(2,.const (.int .i64 11)),(3,.const (.int .i64 12))]).toList=[f (0,.const (.int .i64 1)),f (1,.const (.int .i64 6)),f (2,.const (.int .i64 11)),f (3,.const (.int .i64 12))]:=by simp
theorem quad_b5:Tryz.prog.built 273 [(0,.int .i64 1),(1,.int .i64 6),(2,.int .i64 11),(3,.int .i64 12)]=some #[.int .i64 1,.int .i64 6,.int .i64 11,.int .i64 12]:=by kernel_rfl
theorem quad_m6 (f:Nat×Operand->Nat×Value):(Array.map f #[(0,.const (.int .i64 2)),(1,.const (.int .i64 7)),(2,.const (.int .i64 8)),(3,.const (.int .i64 13))]).toList=[f (0,.const (.int .i64 2)),f (1,.const (.int .i64 7)),f (2,.const (.int .i64 8)),f (3,.const (.int .i64 13))]:=by simp
theorem quad_b6:Tryz.prog.built 273 [(0,.int .i64 2),(1,.int .i64 7),(2,.int .i64 8),(3,.int .i64 13)]=some #[.int .i64 2,.int .i64 7,.int .i64 8,.int .i64 13]:=by kernel_rfl
theorem quad_m7 (f:Nat×Operand->Nat×Value):(Array.map f #[(0,.const (.int .i64 3)),(1,.const (.int .i64 4)),(2,.const (.int .i64 9)),(3,.const (.int .i64 14))]).toList=[f (0,.const (.int .i64 3)),f (1,.const (.int .i64 4)),f (2,.const (.int .i64 9)),f (3,.const (.int .i64 14))]:=by simp
theorem quad_b7:Tryz.prog.built 273 [(0,.int .i64 3),(1,.int .i64 4),(2,.int .i64 9),(3,.int .i64 14)]=some #[.int .i64 3,.int .i64 4,.int .i64 9,.int .i64 14]:=by kernel_rfl
theorem quad_m (f:Nat×Operand->Nat×Value):(Array.map f #[(0,.tmp 1),(1,.tmp 2),(2,.tmp 3),(3,.tmp 4),(4,.tmp 5),(5,.tmp 6),(6,.tmp 7),(7,.tmp 8)]).toList=[f (0,.tmp 1),f (1,.tmp 2),f (2,.tmp 3),f (3,.tmp 4),f (4,.tmp 5),f (5,.tmp 6),f (6,.tmp 7),f (7,.tmp 8)]:=by simp
theorem quad_b:Tryz.prog.built 274 [(0,.agg #[.int .i64 0,.int .i64 4,.int .i64 8,.int .i64 12]),(1,.agg #[.int .i64 1,.int .i64 5,.int .i64 9,.int .i64 13]),(2,.agg #[.int .i64 2,.int .i64 6,.int .i64 10,.int .i64 14]),(3,.agg #[.int .i64 3,.int .i64 7,.int .i64 11,.int .i64 15]),(4,.agg #[.int .i64 0,.int .i64 5,.int .i64 10,.int .i64 15]),(5,.agg #[.int .i64 1,.int .i64 6,.int .i64 11,.int .i64 12]),(6,.agg #[.int .i64 2,.int .i64 7,.int .i64 8,.int .i64 13]),(7,.agg #[.int .i64 3,.int .i64 4,.int .i64 9,.int .i64 14])]=some #[.int .i64 0,.int .i64 4,.int .i64 8,.int .i64 12,.int .i64 1,.int .i64 5,.int .i64 9,.int .i64 13,.int .i64 2,.int .i64 6,.int .i64 10,.int .i64 14,.int .i64 3,.int .i64 7,.int .i64 11,.int .i64 15,.int .i64 0,.int .i64 5,.int .i64 10,.int .i64 15,.int .i64 1,.int .i64 6,.int .i64 11,.int .i64 12,.int .i64 2,.int .i64 7,.int .i64 8,.int .i64 13,.int .i64 3,.int .i64 4,.int .i64 9,.int .i64 14]:=by kernel_rfl
theorem bquads_any (w:World):Calls Tryz.prog 202 #[] w fun e w'=>e=.returned (.agg #[.int .i64 0,.int .i64 4,.int .i64 8,.int .i64 12,.int .i64 1,.int .i64 5,.int .i64 9,.int .i64 13,.int .i64 2,.int .i64 6,.int .i64 10,.int .i64 14,.int .i64 3,.int .i64 7,.int .i64 11,.int .i64 15,.int .i64 0,.int .i64 5,.int .i64 10,.int .i64 15,.int .i64 1,.int .i64 6,.int .i64 11,.int .i64 12,.int .i64 2,.int .i64 7,.int .i64 8,.int .i64 13,.int .i64 3,.int .i64 4,.int .i64 9,.int .i64 14])/\Below w.heap.size w w':=by
 have HZ:Hid (Blk (w.alloc (.cells (List.replicate 32 (.int .i64 0)).toArray 274)) w.heap.size 274 (List.replicate 32 (.int .i64 0))):=zY (Blk.new _ _ _)
 have HB:=zY (zBl w (.cells (List.replicate 32 (.int .i64 0)).toArray 274))
 go_enter Tryz.func202,Tryz.ntmps202
 go_upto_region 1 with fail
 change Code.wp _ _ _ _ (w.alloc (.cells (List.replicate 32 (.int .i64 0)).toArray 274))
 generalize w.alloc (.cells (List.replicate 32 (.int .i64 0)).toArray 274)=wa at *
 refine wp_region_lit ?_
 refine wpList_build rfl 273 #[(0,.const (.int .i64 0)),(1,.const (.int .i64 4)),(2,.const (.int .i64 8)),(3,.const (.int .i64 12))] rfl (by rw[quad_m0];show (Tryz.prog.built 273 [(0,.int .i64 0),(1,.int .i64 4),(2,.int .i64 8),(3,.int .i64 12)]).isSome=true;rw[quad_b0];rfl) ?_
 rw[quad_m0]
 change wpList _ _ _ _ (Act.put _ _ (.agg ((Tryz.prog.built 273 [(0,.int .i64 0),(1,.int .i64 4),(2,.int .i64 8),(3,.int .i64 12)]).getD #[]))) _
 rw[quad_b0]
 simp only[Act.put,List.setIfInBounds_toArray,List.set_cons_zero,List.set_cons_succ,Option.getD_some]
 refine wpList_build rfl 273 #[(0,.const (.int .i64 1)),(1,.const (.int .i64 5)),(2,.const (.int .i64 9)),(3,.const (.int .i64 13))] rfl (by rw[quad_m1];show (Tryz.prog.built 273 [(0,.int .i64 1),(1,.int .i64 5),(2,.int .i64 9),(3,.int .i64 13)]).isSome=true;rw[quad_b1];rfl) ?_
 rw[quad_m1]
 change wpList _ _ _ _ (Act.put _ _ (.agg ((Tryz.prog.built 273 [(0,.int .i64 1),(1,.int .i64 5),(2,.int .i64 9),(3,.int .i64 13)]).getD #[]))) _
 rw[quad_b1]
 simp only[Act.put,List.setIfInBounds_toArray,List.set_cons_zero,List.set_cons_succ,Option.getD_some]
 refine wpList_build rfl 273 #[(0,.const (.int .i64 2)),(1,.const (.int .i64 6)),(2,.const (.int .i64 10)),(3,.const (.int .i64 14))] rfl (by rw[quad_m2];show (Tryz.prog.built 273 [(0,.int .i64 2),(1,.int .i64 6),(2,.int .i64 10),(3,.int .i64 14)]).isSome=true;rw[quad_b2];rfl) ?_
 rw[quad_m2]
 change wpList _ _ _ _ (Act.put _ _ (.agg ((Tryz.prog.built 273 [(0,.int .i64 2),(1,.int .i64 6),(2,.int .i64 10),(3,.int .i64 14)]).getD #[]))) _
 rw[quad_b2]
 simp only[Act.put,List.setIfInBounds_toArray,List.set_cons_zero,List.set_cons_succ,Option.getD_some]
 refine wpList_build rfl 273 #[(0,.const (.int .i64 3)),(1,.const (.int .i64 7)),(2,.const (.int .i64 11)),(3,.const (.int .i64 15))] rfl (by rw[quad_m3];show (Tryz.prog.built 273 [(0,.int .i64 3),(1,.int .i64 7),(2,.int .i64 11),(3,.int .i64 15)]).isSome=true;rw[quad_b3];rfl) ?_
 rw[quad_m3]
 change wpList _ _ _ _ (Act.put _ _ (.agg ((Tryz.prog.built 273 [(0,.int .i64 3),(1,.int .i64 7),(2,.int .i64 11),(3,.int .i64 15)]).getD #[]))) _
 rw[quad_b3]
 simp only[Act.put,List.setIfInBounds_toArray,List.set_cons_zero,List.set_cons_succ,Option.getD_some]
 refine wpList_build rfl 273 #[(0,.const (.int .i64 0)),(1,.const (.int .i64 5)),(2,.const (.int .i64 10)),(3,.const (.int .i64 15))] rfl (by rw[quad_m4];show (Tryz.prog.built 273 [(0,.int .i64 0),(1,.int .i64 5),(2,.int .i64 10),(3,.int .i64 15)]).isSome=true;rw[quad_b4];rfl) ?_
 rw[quad_m4]
 change wpList _ _ _ _ (Act.put _ _ (.agg ((Tryz.prog.built 273 [(0,.int .i64 0),(1,.int .i64 5),(2,.int .i64 10),(3,.int .i64 15)]).getD #[]))) _
 rw[quad_b4]
 simp only[Act.put,List.setIfInBounds_toArray,List.set_cons_zero,List.set_cons_succ,Option.getD_some]
 refine wpList_build rfl 273 #[(0,.const (.int .i64 1)),(1,.const (.int .i64 6)),(2,.const (.int .i64 11)),(3,.const (.int .i64 12))] rfl (by rw[quad_m5];show (Tryz.prog.built 273 [(0,.int .i64 1),(1,.int .i64 6),(2,.int .i64 11),(3,.int .i64 12)]).isSome=true;rw[quad_b5];rfl) ?_
 rw[quad_m5]
 change wpList _ _ _ _ (Act.put _ _ (.agg ((Tryz.prog.built 273 [(0,.int .i64 1),(1,.int .i64 6),(2,.int .i64 11),(3,.int .i64 12)]).getD #[]))) _
 rw[quad_b5]
 simp only[Act.put,List.setIfInBounds_toArray,List.set_cons_zero,List.set_cons_succ,Option.getD_some]
 refine wpList_build rfl 273 #[(0,.const (.int .i64 2)),(1,.const (.int .i64 7)),(2,.const (.int .i64 8)),(3,.const (.int .i64 13))] rfl (by rw[quad_m6];show (Tryz.prog.built 273 [(0,.int .i64 2),(1,.int .i64 7),(2,.int .i64 8),(3,.int .i64 13)]).isSome=true;rw[quad_b6];rfl) ?_
 rw[quad_m6]
 change wpList _ _ _ _ (Act.put _ _ (.agg ((Tryz.prog.built 273 [(0,.int .i64 2),(1,.int .i64 7),(2,.int .i64 8),(3,.int .i64 13)]).getD #[]))) _
 rw[quad_b6]
 simp only[Act.put,List.setIfInBounds_toArray,List.set_cons_zero,List.set_cons_succ,Option.getD_some]
 refine wpList_build rfl 273 #[(0,.const (.int .i64 3)),(1,.const (.int .i64 4)),(2,.const (.int .i64 9)),(3,.const (.int .i64 14))] rfl (by rw[quad_m7];show (Tryz.prog.built 273 [(0,.int .i64 3),(1,.int .i64 4),(2,.int .i64 9),(3,.int .i64 14)]).isSome=true;rw[quad_b7];rfl) ?_
 rw[quad_m7]
 change wpList _ _ _ _ (Act.put _ _ (.agg ((Tryz.prog.built 273 [(0,.int .i64 3),(1,.int .i64 4),(2,.int .i64 9),(3,.int .i64 14)]).getD #[]))) _
 rw[quad_b7]
 simp only[Act.put,List.setIfInBounds_toArray,List.set_cons_zero,List.set_cons_succ,Option.getD_some]
 refine wpList_build rfl 274 #[(0,.tmp 1),(1,.tmp 2),(2,.tmp 3),(3,.tmp 4),(4,.tmp 5),(5,.tmp 6),(6,.tmp 7),(7,.tmp 8)] rfl (by rw[quad_m];show (Tryz.prog.built 274 [(0,.agg #[.int .i64 0,.int .i64 4,.int .i64 8,.int .i64 12]),(1,.agg #[.int .i64 1,.int .i64 5,.int .i64 9,.int .i64 13]),(2,.agg #[.int .i64 2,.int .i64 6,.int .i64 10,.int .i64 14]),(3,.agg #[.int .i64 3,.int .i64 7,.int .i64 11,.int .i64 15]),(4,.agg #[.int .i64 0,.int .i64 5,.int .i64 10,.int .i64 15]),(5,.agg #[.int .i64 1,.int .i64 6,.int .i64 11,.int .i64 12]),(6,.agg #[.int .i64 2,.int .i64 7,.int .i64 8,.int .i64 13]),(7,.agg #[.int .i64 3,.int .i64 4,.int .i64 9,.int .i64 14])]).isSome=true;rw[quad_b];rfl) ?_
 rw[quad_m]
 change wpList _ _ _ _ (Act.put _ _ (.agg ((Tryz.prog.built 274 [(0,.agg #[.int .i64 0,.int .i64 4,.int .i64 8,.int .i64 12]),(1,.agg #[.int .i64 1,.int .i64 5,.int .i64 9,.int .i64 13]),(2,.agg #[.int .i64 2,.int .i64 6,.int .i64 10,.int .i64 14]),(3,.agg #[.int .i64 3,.int .i64 7,.int .i64 11,.int .i64 15]),(4,.agg #[.int .i64 0,.int .i64 5,.int .i64 10,.int .i64 15]),(5,.agg #[.int .i64 1,.int .i64 6,.int .i64 11,.int .i64 12]),(6,.agg #[.int .i64 2,.int .i64 7,.int .i64 8,.int .i64 13]),(7,.agg #[.int .i64 3,.int .i64 4,.int .i64 9,.int .i64 14])]).getD #[]))) _
 rw[quad_b]
 simp only[Act.put,List.setIfInBounds_toArray,List.set_cons_zero,List.set_cons_succ,Option.getD_some]
 refine wpList_store_row rfl 274 (.tmp 0) (.tmp 9) rfl w.heap.size #[.int .i64 0,.int .i64 4,.int .i64 8,.int .i64 12,.int .i64 1,.int .i64 5,.int .i64 9,.int .i64 13,.int .i64 2,.int .i64 6,.int .i64 10,.int .i64 14,.int .i64 3,.int .i64 7,.int .i64 11,.int .i64 15,.int .i64 0,.int .i64 5,.int .i64 10,.int .i64 15,.int .i64 1,.int .i64 6,.int .i64 11,.int .i64 12,.int .i64 2,.int .i64 7,.int .i64 8,.int .i64 13,.int .i64 3,.int .i64 4,.int .i64 9,.int .i64 14] rfl rfl 274 _ HZ.out (by kernel_rfl) (by simp) (by simp[Value.oneCell']) ?_
 go_wp2_with fail
 refine bodyPost_ret (results_cell_row rfl _ _ w.heap.size 274 _ (0,0) _ rfl (setRow_heap _ _ _ _ _ _ HZ.out) Tryz.underlying274 rfl (by kernel_rfl)) rfl ?_
 exact⟨rfl,below_setRow HB.out (Nat.le_refl _) _⟩
theorem run_index_p (w:World) (cs:Array Value) (r:Nat) (hr:r<10) {v:Value} (hv:cs[r]?=some v):(Instr.index 271 (.agg cs) (.int .i64 (r:Int))).run Tryz.prog w=.ok v w:=by
 have hn:(0:Int)<=(r:Int)/\(r:Int)<(10:Nat):=by omega
 have hu:=Tryz.underlying271
 simp[Instr.index,run_underlying hu,asIntOf,hn,hr,hv,go_sem]
theorem run_index_q (w:World) (cs:Array Value) (r:Nat) (hr:r<8) (hc:cs.size=32):(Instr.index 274 (.agg cs) (.int .i64 (r:Int))).run Tryz.prog w=.ok (.agg (cs.extract (r*4) (r*4+4))) w:=by
 have hn:(0:Int)<=(r:Int)/\(r:Int)<(8:Nat):=by omega
 have hu:=Tryz.underlying274
 have h32:r*4+4<=32:=by omega
 simp[Instr.index,run_underlying hu,asIntOf,hn,hr,hc,h32,go_sem]
def permI:Nat->Int
 |0=>81985529216486895
 |1=>16881918945140062035
 |2=>13312731748010193300
 |3=>8733003861693448440
 |4=>10400822202260547645
 |5=>3200383143768358425
 |6=>14204332651957162635
 |7=>15816291393287259690
 |8=>8064173457993569445
 |9=>11710614767857974480
 |_=>0
theorem perm_at:∀r,r<10->(#[.int .u64 81985529216486895,.int .u64 16881918945140062035,.int .u64 13312731748010193300,.int .u64 8733003861693448440,.int .u64 10400822202260547645,.int .u64 3200383143768358425,.int .u64 14204332651957162635,.int .u64 15816291393287259690,.int .u64 8064173457993569445,.int .u64 11710614767857974480]:Array Value)[r]?=some (.int .u64 (permI r))
 |0,_=>rfl
 |1,_=>rfl
 |2,_=>rfl
 |3,_=>rfl
 |4,_=>rfl
 |5,_=>rfl
 |6,_=>rfl
 |7,_=>rfl
 |8,_=>rfl
 |9,_=>rfl
 |n+10,h=>absurd h (by omega)
theorem perm_x0:∀r,r<10->bits .and .u64 (permI r/1152921504606846976) 15=(sigN r 0:Int)/\bits .and .u64 (permI r/72057594037927936) 15=(sigN r 1:Int):=by decide
theorem quad_at0 (w:World):(Instr.index 274 (.agg #[.int .i64 0,.int .i64 4,.int .i64 8,.int .i64 12,.int .i64 1,.int .i64 5,.int .i64 9,.int .i64 13,.int .i64 2,.int .i64 6,.int .i64 10,.int .i64 14,.int .i64 3,.int .i64 7,.int .i64 11,.int .i64 15,.int .i64 0,.int .i64 5,.int .i64 10,.int .i64 15,.int .i64 1,.int .i64 6,.int .i64 11,.int .i64 12,.int .i64 2,.int .i64 7,.int .i64 8,.int .i64 13,.int .i64 3,.int .i64 4,.int .i64 9,.int .i64 14]) (.int .i64 0)).run Tryz.prog w=.ok (.agg #[.int .i64 0,.int .i64 4,.int .i64 8,.int .i64 12]) w:=run_index_q w _ 0 (by decide) rfl
theorem perm_x1:∀r,r<10->bits .and .u64 (permI r/4503599627370496) 15=(sigN r 2:Int)/\bits .and .u64 (permI r/281474976710656) 15=(sigN r 3:Int):=by decide
theorem quad_at1 (w:World):(Instr.index 274 (.agg #[.int .i64 0,.int .i64 4,.int .i64 8,.int .i64 12,.int .i64 1,.int .i64 5,.int .i64 9,.int .i64 13,.int .i64 2,.int .i64 6,.int .i64 10,.int .i64 14,.int .i64 3,.int .i64 7,.int .i64 11,.int .i64 15,.int .i64 0,.int .i64 5,.int .i64 10,.int .i64 15,.int .i64 1,.int .i64 6,.int .i64 11,.int .i64 12,.int .i64 2,.int .i64 7,.int .i64 8,.int .i64 13,.int .i64 3,.int .i64 4,.int .i64 9,.int .i64 14]) (.int .i64 1)).run Tryz.prog w=.ok (.agg #[.int .i64 1,.int .i64 5,.int .i64 9,.int .i64 13]) w:=run_index_q w _ 1 (by decide) rfl
theorem perm_x2:∀r,r<10->bits .and .u64 (permI r/17592186044416) 15=(sigN r 4:Int)/\bits .and .u64 (permI r/1099511627776) 15=(sigN r 5:Int):=by decide
theorem quad_at2 (w:World):(Instr.index 274 (.agg #[.int .i64 0,.int .i64 4,.int .i64 8,.int .i64 12,.int .i64 1,.int .i64 5,.int .i64 9,.int .i64 13,.int .i64 2,.int .i64 6,.int .i64 10,.int .i64 14,.int .i64 3,.int .i64 7,.int .i64 11,.int .i64 15,.int .i64 0,.int .i64 5,.int .i64 10,.int .i64 15,.int .i64 1,.int .i64 6,.int .i64 11,.int .i64 12,.int .i64 2,.int .i64 7,.int .i64 8,.int .i64 13,.int .i64 3,.int .i64 4,.int .i64 9,.int .i64 14]) (.int .i64 2)).run Tryz.prog w=.ok (.agg #[.int .i64 2,.int .i64 6,.int .i64 10,.int .i64 14]) w:=run_index_q w _ 2 (by decide) rfl
theorem perm_x3:∀r,r<10->bits .and .u64 (permI r/68719476736) 15=(sigN r 6:Int)/\bits .and .u64 (permI r/4294967296) 15=(sigN r 7:Int):=by decide
theorem quad_at3 (w:World):(Instr.index 274 (.agg #[.int .i64 0,.int .i64 4,.int .i64 8,.int .i64 12,.int .i64 1,.int .i64 5,.int .i64 9,.int .i64 13,.int .i64 2,.int .i64 6,.int .i64 10,.int .i64 14,.int .i64 3,.int .i64 7,.int .i64 11,.int .i64 15,.int .i64 0,.int .i64 5,.int .i64 10,.int .i64 15,.int .i64 1,.int .i64 6,.int .i64 11,.int .i64 12,.int .i64 2,.int .i64 7,.int .i64 8,.int .i64 13,.int .i64 3,.int .i64 4,.int .i64 9,.int .i64 14]) (.int .i64 3)).run Tryz.prog w=.ok (.agg #[.int .i64 3,.int .i64 7,.int .i64 11,.int .i64 15]) w:=run_index_q w _ 3 (by decide) rfl
theorem perm_x4:∀r,r<10->bits .and .u64 (permI r/268435456) 15=(sigN r 8:Int)/\bits .and .u64 (permI r/16777216) 15=(sigN r 9:Int):=by decide
theorem quad_at4 (w:World):(Instr.index 274 (.agg #[.int .i64 0,.int .i64 4,.int .i64 8,.int .i64 12,.int .i64 1,.int .i64 5,.int .i64 9,.int .i64 13,.int .i64 2,.int .i64 6,.int .i64 10,.int .i64 14,.int .i64 3,.int .i64 7,.int .i64 11,.int .i64 15,.int .i64 0,.int .i64 5,.int .i64 10,.int .i64 15,.int .i64 1,.int .i64 6,.int .i64 11,.int .i64 12,.int .i64 2,.int .i64 7,.int .i64 8,.int .i64 13,.int .i64 3,.int .i64 4,.int .i64 9,.int .i64 14]) (.int .i64 4)).run Tryz.prog w=.ok (.agg #[.int .i64 0,.int .i64 5,.int .i64 10,.int .i64 15]) w:=run_index_q w _ 4 (by decide) rfl
theorem perm_x5:∀r,r<10->bits .and .u64 (permI r/1048576) 15=(sigN r 10:Int)/\bits .and .u64 (permI r/65536) 15=(sigN r 11:Int):=by decide
theorem quad_at5 (w:World):(Instr.index 274 (.agg #[.int .i64 0,.int .i64 4,.int .i64 8,.int .i64 12,.int .i64 1,.int .i64 5,.int .i64 9,.int .i64 13,.int .i64 2,.int .i64 6,.int .i64 10,.int .i64 14,.int .i64 3,.int .i64 7,.int .i64 11,.int .i64 15,.int .i64 0,.int .i64 5,.int .i64 10,.int .i64 15,.int .i64 1,.int .i64 6,.int .i64 11,.int .i64 12,.int .i64 2,.int .i64 7,.int .i64 8,.int .i64 13,.int .i64 3,.int .i64 4,.int .i64 9,.int .i64 14]) (.int .i64 5)).run Tryz.prog w=.ok (.agg #[.int .i64 1,.int .i64 6,.int .i64 11,.int .i64 12]) w:=run_index_q w _ 5 (by decide) rfl
theorem perm_x6:∀r,r<10->bits .and .u64 (permI r/4096) 15=(sigN r 12:Int)/\bits .and .u64 (permI r/256) 15=(sigN r 13:Int):=by decide
theorem quad_at6 (w:World):(Instr.index 274 (.agg #[.int .i64 0,.int .i64 4,.int .i64 8,.int .i64 12,.int .i64 1,.int .i64 5,.int .i64 9,.int .i64 13,.int .i64 2,.int .i64 6,.int .i64 10,.int .i64 14,.int .i64 3,.int .i64 7,.int .i64 11,.int .i64 15,.int .i64 0,.int .i64 5,.int .i64 10,.int .i64 15,.int .i64 1,.int .i64 6,.int .i64 11,.int .i64 12,.int .i64 2,.int .i64 7,.int .i64 8,.int .i64 13,.int .i64 3,.int .i64 4,.int .i64 9,.int .i64 14]) (.int .i64 6)).run Tryz.prog w=.ok (.agg #[.int .i64 2,.int .i64 7,.int .i64 8,.int .i64 13]) w:=run_index_q w _ 6 (by decide) rfl
theorem perm_x7:∀r,r<10->bits .and .u64 (permI r/16) 15=(sigN r 14:Int)/\bits .and .u64 (permI r/1) 15=(sigN r 15:Int):=by decide
theorem quad_at7 (w:World):(Instr.index 274 (.agg #[.int .i64 0,.int .i64 4,.int .i64 8,.int .i64 12,.int .i64 1,.int .i64 5,.int .i64 9,.int .i64 13,.int .i64 2,.int .i64 6,.int .i64 10,.int .i64 14,.int .i64 3,.int .i64 7,.int .i64 11,.int .i64 15,.int .i64 0,.int .i64 5,.int .i64 10,.int .i64 15,.int .i64 1,.int .i64 6,.int .i64 11,.int .i64 12,.int .i64 2,.int .i64 7,.int .i64 8,.int .i64 13,.int .i64 3,.int .i64 4,.int .i64 9,.int .i64 14]) (.int .i64 7)).run Tryz.prog w=.ok (.agg #[.int .i64 3,.int .i64 4,.int .i64 9,.int .i64 14]) w:=run_index_q w _ 7 (by decide) rfl
theorem Bld.below {A W:World} {K b:Nat} {l:List Nat} (h:Bld A K b l) (hb:Below A.heap.size A W):Bld W K b l:=by
 have hk:∀(k:Nat) (o:Obj),A.heap[k]?=some o->W.heap[k]?=some o:=fun k o ho=>by
  have hlt:k<A.heap.size:=by
   rcases Nat.lt_or_ge k A.heap.size with h'|h'
   ·exact h'
   ·rw[Array.getElem?_eq_none h']at ho;cases ho
  rw[hb.block k hlt]
  exact ho
 have key:∀p,Lib.BuilderAtF 135 5 K b p (l.map u8V) A->Lib.BuilderAtF 135 5 K b p (l.map u8V) W:=by
  rintro p ⟨hB,v,hb,hown,hne⟩
  refine⟨hB,v,hk _ _ hb,⟨hown.1,?_⟩,hne⟩
  rcases hown.2 with hn|⟨g,cap,cur,fz,hv,hbg,hg,rest⟩
  ·exact .inl hn
  ·exact .inr ⟨g,cap,cur,fz,hv,hbg,hk _ _ hg,rest⟩
 exact Or.elim h (fun x=>.inl (key _ x)) (fun x=>.inr (key _ x))
theorem Bld.alloc {A:World} {K b:Nat} {l:List Nat} (h:Bld A K b l) (o:Obj):Bld (A.alloc o) K b l:=h.below ((Below.refl _ _).alloc (Nat.le_refl _) _)
theorem Bld.drew {A:World} {K b:Nat} {l:List Nat} (h:Bld A K b l):Bld A.drew K b l:=h.below (Below.refl _ _).drew
theorem wsB (w:World) (B b:Nat) (l:List Nat) (s:ByteArray) (h:Bld w B b l) (hl:l.length<=1000000000) (hs:s.size<=1000000000) (hB:B<=w.heap.size):
  Calls Tryz.prog 64 #[.pointer (some ⟨b,0,none⟩),.string s] w fun e w'=>e=.returned (.tuple #[.int .i64 s.size,.nilIface])/\Bld w' B b (l++bs s)/\Below B w w':=by
 refine(Tryz.Builder_WriteString_k B b _ s w h (by rw[List.length_map];omega) hB).mono fun e w' ⟨he,h1,hb,_⟩=>⟨he,?_,hb⟩
 have:=Or.inr (a:=Lib.BuilderAtF 135 5 B b (.pointer none) (l.map u8V++Lib.strCells s) w') h1
 have e1:(l++bs s).map u8V=l.map u8V++Lib.strCells s:=by
  rw[List.map_append]
  unfold Lib.strCells bs
  rw[List.map_map]
  rfl
 show Lib.IsBuilderF _ _ _ _ _ _
 rw[e1]
 exact this
theorem wsK (w:World) (B b:Nat) (l:List Nat) (s:ByteArray) (h:Bld w B b l) (hl:l.length<=1000000000) (hs:s.size<=1000000000) (hB:B<=w.heap.size):
  Calls Tryz.prog 64 #[.pointer (some ⟨b,0,none⟩),.string s] w fun e w'=>e=.returned (.tuple #[.int .i64 s.size,.nilIface])/\Bld w' B b (l++bs s)/\Below B w w'/\Lib.OthersKept 5 (some b) w w':=by
 refine(Tryz.Builder_WriteString_k B b _ s w h (by rw[List.length_map];omega) hB).mono fun e w' ⟨he,h1,hb,ho⟩=>⟨he,?_,hb,ho⟩
 have:=Or.inr (a:=Lib.BuilderAtF 135 5 B b (.pointer none) (l.map u8V++Lib.strCells s) w') h1
 have e1:(l++bs s).map u8V=l.map u8V++Lib.strCells s:=by
  rw[List.map_append]
  unfold Lib.strCells bs
  rw[List.map_map]
  rfl
 show Lib.IsBuilderF _ _ _ _ _ _
 rw[e1]
 exact this
theorem Bld.lt {A:World} {K b:Nat} {l:List Nat} (h:Bld A K b l):b<A.heap.size:=by
 have key:∀p,Lib.BuilderAtF 135 5 K b p (l.map u8V) A->b<A.heap.size:=by
  rintro p ⟨_,v,hb,_⟩
  rcases Nat.lt_or_ge b A.heap.size with h'|h'
  ·exact h'
  ·rw[Array.getElem?_eq_none h']at hb;cases hb
 exact Or.elim h (key _) (key _)
theorem Blk.others {w w':World} {g b:Nat} {t:TypeId} {us:List Value} (h:Blk w g t us) (ho:Lib.OthersKept 5 (some b) w w') (hne:g≠b) (ht:t≠5):Blk w' g t us:=
 ho g _ h (fun e=>hne (Option.some.inj e)) (fun c fz e=>ht (by cases e;rfl))
theorem lenB (w:World) (B b:Nat) (l:List Nat) (h:Bld w B b l):Calls Tryz.prog 102 #[.pointer (some ⟨b,0,none⟩)] w fun e w'=>e=.returned (.int .i64 (l.length:Int))/\w'=w:=by
 refine(Tryz.Builder_Len_f B b _ w h).mono fun e w' ⟨he,hw⟩=>⟨?_,hw⟩
 rw[he,List.length_map]
def nstsL (l:List ByteArray):List Nat:=l.flatMap fun s=>nstL (bs s)
theorem nstsL_take {l:List ByteArray} {i:Nat} {s:ByteArray} (h:l[i]?=some s):nstsL (l.take (i+1))=nstsL (l.take i)++nstL (bs s):=by
 unfold nstsL
 rw[List.take_add_one,h,List.flatMap_append]
 simp
theorem nstL_lt (s:ByteArray):∀b∈nstL (bs s),b<256:=by
 intro b hb
 unfold nstL at hb
 simp only[List.mem_append,List.mem_singleton]at hb
 rcases hb with((hb|rfl)|hb)|rfl
 ·have:=digD_bytes _ b hb;omega
 ·decide
 ·exact bs_lt s b hb
 ·decide
theorem numL_lt (n:Nat):∀b∈numL n,b<256:=by
 intro b hb
 unfold numL at hb
 simp only[List.mem_append,List.mem_singleton]at hb
 rcases hb with hb|rfl
 ·have:=digD_bytes _ b hb;omega
 ·decide
theorem nstsL_lt (l:List ByteArray):∀b∈nstsL l,b<256:=by
 intro b hb
 obtain⟨s,_,hs⟩:=List.mem_flatMap.1 hb
 exact nstL_lt s b hs
theorem nstsL_len {l:List ByteArray} {m:Nat} (hm:m<=1000000000) (h:∀s∈l,s.size<=m):(nstsL l).length<=l.length*(m+22):=by
 induction l with
 |nil=>simp[nstsL]
 |cons s r ih=>
  have h1:=nstL_len s (by have:=h s List.mem_cons_self;omega)
  rw[strB_size]at h1
  have h2:=ih fun x hx=>h x (List.mem_cons_of_mem _ hx)
  have h3:=h s List.mem_cons_self
  have e:nstsL (s::r)=nstL (bs s)++nstsL r:=by unfold nstsL;rw[List.flatMap_cons]
  rw[e,List.length_append,List.length_cons,Nat.add_mul,Nat.one_mul]
  omega
theorem nstrings_any (w:World) (v:Value) (l:List ByteArray) (hv:SeqAt strS w v l) (hl:l.length<=100) (hs:∀s∈l,s.size<=1000000) (hT:Tab w):Calls Tryz.prog 143 #[v] w fun e w'=>e=.returned (.string (strB (nstsL l)))/\Below w.heap.size w w':=by
 have HL:=zY hv
 obtain⟨A,c,rfl,h1,h2⟩:=hv.slice
 have HSz:Hid (∀i,(nstsL (l.take i)).length<=200000000):=zY (fun i=>by
  have h3:=nstsL_len (l:=l.take i) (m:=1000000) (by omega) (fun s hs'=>hs s (List.mem_of_mem_take hs'))
  have h4:=Nat.mul_le_mul (show (l.take i).length<=100 by rw[List.length_take];omega) (Nat.le_refl (1000000+22))
  omega)
 have Hs:=zY hs
 have HT:=zY hT
 clear hv hs hT
 go_enter Tryz.func143,Tryz.ntmps143
 go_wp2
 go_loopw [8] (fun x wr=>∃i:Nat,i<=l.length/\x=.int .i64 (i:Int)/\Bld wr w.heap.size w.heap.size (nstsL (l.take i))/\Below w.heap.size w wr) (fun x _=>l.length-(intOf x).toNat)
 case atStart=>exact⟨0,by omega,rfl,Bld.new w,(Below.refl _ _).alloc (Nat.le_refl _) _⟩
 case round=>
  obtain⟨i,hi,rfl,hbl,hB⟩:=hrel
  have HBl:=zY hbl
  have HB:=zY hB
  clear hbl hB
  by_cases h:i<l.length
  {
  have hiI:(i:Int)<l.length:=by omega
  obtain⟨x,hx⟩:∃x,l[i]?=some x:=⟨_,List.getElem?_eq_getElem h⟩
  have Hst:=zY (nstsL_take hx)
  have hxs:=Hs.out x (List.mem_of_getElem? hx)
  obtain⟨_,_,e9,_,_,h4⟩:=HL.out.below HB.out
  cases e9
  obtain⟨b,o,cs,rfl,rfl,hc⟩:=h4 i x hx
  have e0:wr.cell? ⟨b,o+i*1,none⟩=some (.string x):=hc 0 _ rfl
  rw[Nat.mul_one]at e0
  have HC:=zY (nnstring_any wr x (by omega) (HT.out.below HB.out))
  have hq:=nstL_len x (by omega)
  obtain⟨X,hX⟩:=zNm (strB (nstL (bs x)))
  have HX:Hid (bs X=nstL (bs x)):=zY (by rw[<-hX,bs_strB (nstL_lt x)])
  rw[hX]at HC hq
  clear hc h4 hx hX
  go_wp2_with fail
  refine HC.out.mono ?_
  rintro e w2 ⟨rfl,hb2⟩
  have HW:=zY (wsB w2 w.heap.size w.heap.size _ X (HBl.out.below hb2) (by have:=HSz.out i;omega) (by omega) (HB.out.trans (hb2.mono HB.out.size)).size)
  have HB2:=zYt HB hb2
  clear hb2
  go_wp2_with fail
  refine HW.out.mono ?_
  rintro e3 w3 ⟨rfl,hbl3,hb3⟩
  have HBl3:=zY hbl3
  have HB3:=zY (HB2.out.trans hb3)
  clear hbl3 hb3
  go_wp2_with fail
  go_roundw
  case rel=>exact⟨i+1,by omega,by go_num,by rw[Hst.out,<-HX.out];exact HBl3.out,HB3.out⟩
  case measure=>simp[intOf];omega}
  {
  obtain rfl:i=l.length:=by omega
  have hiI:¬((l.length:Nat):Int)<(l.length:Int):=by omega
  have HS:=zY (str_any wr w.heap.size w.heap.size _ (nstsL_lt _) HBl.out HB.out.size)
  rw[List.take_length]at HS
  go_wp2_with fail
  refine HS.out.mono ?_
  rintro e2 w2 ⟨rfl,_,hb2⟩
  have HB2:=zY (HB.out.trans hb2)
  clear hb2
  go_wp2_with fail
  go_ret
  exact⟨rfl,HB2.out⟩}
def RetSeq {α:Type} (ρ:Shape α) (t:TypeId) (w w':World) (xs:List α) (e:Ending):Prop:=∃v,e=.returned v/\OwnSeq ρ t w w' v xs
theorem streams_any (w:World) (id d s:Int) (v:Value) (L:List Ses) (hv:SeqAt sesS w v L) (hl:L.length<=1000):Calls Tryz.prog 215 #[.agg #[.int .u32 id,.int .i64 d,.int .i64 s,v]] w fun e w'=>RetSeq strS 9 w w' (L.map (·.str)) e/\Below w.heap.size w w':=by
 obtain⟨A,c,rfl,h1,h2⟩:=hv.slice
 have hK:=Blk.new w 28 [.int .u32 id,.int .i64 d,.int .i64 s,.slice A L.length c]
 change Blk (w.alloc (.cells #[.int .u32 id,.int .i64 d,.int .i64 s,.slice A L.length c] 28)) _ _ _ at hK
 have HK:=zY hK
 have HB0:=zY (zBl w (.cells #[.int .u32 id,.int .i64 d,.int .i64 s,.slice A L.length c] 28))
 have Hv:=zY (hv.below HB0.out)
 have Hl:=zY hl
 clear hK hv hl
 go_enter Tryz.func215,Tryz.ntmps215
 go_upto_region 1 with fail
 generalize w.alloc (.cells #[.int .u32 id,.int .i64 d,.int .i64 s,.slice A L.length c] 28)=wa at *
 go_wp2
 go_loopw [3,4] (fun y x wr=>∃i:Nat,i<=L.length/\x=.int .i64 (i:Int)/\OwnSeq strS 9 wa wr y ((L.take i).map (·.str))/\Below wa.heap.size wa wr) (fun _ x _=>L.length-(intOf x).toNat)
 case atStart=>exact⟨0,by omega,rfl,OwnSeq.new _,(Below.refl _ _).alloc (Nat.le_refl _) _⟩
 case round=>
  obtain⟨i,hi,rfl,ho,hB⟩:=hrel
  have HB:=zY hB
  have HO:=zY ho
  have HKr:=zY (HK.out.kept hB)
  clear ho hB
  have c3:=HKr.out.c 3
  by_cases h:i<L.length
  {
  have hiI:(i:Int)<L.length:=by omega
  obtain⟨x,hx⟩:∃x,L[i]?=some x:=⟨_,List.getElem?_eq_getElem h⟩
  have Hx:Hid ((L.take (i+1)).map (·.str)=(L.take i).map (·.str)++[x.str]):=zY (by rw[List.take_add_one,hx,List.map_append];rfl)
  obtain⟨_,_,e9,_,_,h4⟩:=Hv.out
  cases e9
  obtain⟨b,o,cs,rfl,⟨ve,rfl,_⟩,hc⟩:=h4 i x hx
  have e4:=cell_below HB.out (show wa.cell? ⟨b,o+i*6+4,none⟩=some (.string x.str) from hc 4 _ rfl)
  have Hl1:Hid (((L.take i).map (·.str)).length+1<=100000000):=zY (by have:=Hl.out;simp;omega)
  generalize x.str=X at *
  clear hc h4 hx
  go_wp2_with (at_builtin;refine append_seq (ρ:=strS) (w0:=wa) Tryz.elemStr rfl _ _ rfl rfl (HO.out.alloc _) rfl (src1 (ρ:=strS) [.string X] X rfl rfl) Hl1.out (HB.out.alloc HB.out.size _) ?_;intro va1 wa1 hob _ hbb;have KU:=zY hob;have KB:=zY hbb;clear hob hbb)
  go_roundw
  case rel=>exact⟨i+1,by omega,by go_num,by rw[Hx.out];exact KU.out,KB.out⟩
  case measure=>simp[intOf];omega}
  {
  obtain rfl:i=L.length:=by omega
  have hiI:¬((L.length:Nat):Int)<(L.length:Int):=by omega
  have HF:=zY (by have:=HO.out.low flatS HB0.out.size;rwa [List.take_length]at this:OwnSeq strS 9 w _ _ (L.map (·.str)))
  go_wp2
  go_ret
  exact⟨⟨_,rfl,HF.out⟩,HB0.out.trans (HB.out.mono HB0.out.size)⟩
}
theorem close39_any (w:World) (num date sn:Int) (prev st:ByteArray) (Ae Ac At Ah:Option Addr) (ne ce nc cc nt ct nh ch:Nat):Calls Tryz.prog 83 #[.agg #[.int .i64 num,.int .i64 date,.string prev,.slice Ae ne ce,.slice Ac nc cc,.int .i64 sn,.string st,.slice At nt ct,.slice Ah nh ch]] w fun e w'=>e=.returned (.agg #[.int .i64 num,.int .i64 date,.string prev,.slice Ae ne ce,.string st,.string ⟨#[]⟩])/\Below w.heap.size w w':=by
 have hK:=Blk.new w 163 [.int .i64 num,.int .i64 date,.string prev,.slice Ae ne ce,.slice Ac nc cc,.int .i64 sn,.string st,.slice At nt ct,.slice Ah nh ch]
 change Blk (w.alloc (.cells #[.int .i64 num,.int .i64 date,.string prev,.slice Ae ne ce,.slice Ac nc cc,.int .i64 sn,.string st,.slice At nt ct,.slice Ah nh ch] 163)) _ _ _ at hK
 have HB1:=zY (zBl w (.cells #[.int .i64 num,.int .i64 date,.string prev,.slice Ae ne ce,.slice Ac nc cc,.int .i64 sn,.string st,.slice At nt ct,.slice Ah nh ch] 163))
 have HK1:=zY hK
 have HSz:Hid ((w.alloc (.cells #[.int .i64 num,.int .i64 date,.string prev,.slice Ae ne ce,.slice Ac nc cc,.int .i64 sn,.string st,.slice At nt ct,.slice Ah nh ch] 163)).heap.size=w.heap.size+1):=zY (World.size_alloc _ _)
 clear hK
 have HZ:Hid (∀W:World,W.heap.size=w.heap.size+1->Blk (W.alloc (.cells #[.int .i64 0,.int .i64 0,.string ⟨#[]⟩,.slice none 0 0,.string ⟨#[]⟩,.string ⟨#[]⟩] 45)) (w.heap.size+1) 45 [.int .i64 0,.int .i64 0,.string ⟨#[]⟩,.slice none 0 0,.string ⟨#[]⟩,.string ⟨#[]⟩]):=zY (fun W h=>by rw[<-h];exact Blk.new _ _ _)
 have HZ1:=zY (HZ.out _ HSz.out)
 have HB:=zY (HB1.out.alloc HB1.out.size (.cells #[.int .i64 0,.int .i64 0,.string ⟨#[]⟩,.slice none 0 0,.string ⟨#[]⟩,.string ⟨#[]⟩] 45))
 have HK:=zY (HK1.out.alloc (.cells #[.int .i64 0,.int .i64 0,.string ⟨#[]⟩,.slice none 0 0,.string ⟨#[]⟩,.string ⟨#[]⟩] 45))
 clear HZ HSz HB1 HK1
 go_enter Tryz.func83,Tryz.ntmps83
 go_upto_region 1 with fail
 generalize (w.alloc (.cells #[.int .i64 num,.int .i64 date,.string prev,.slice Ae ne ce,.slice Ac nc cc,.int .i64 sn,.string st,.slice At nt ct,.slice Ah nh ch] 163)).alloc (.cells #[.int .i64 0,.int .i64 0,.string ⟨#[]⟩,.slice none 0 0,.string ⟨#[]⟩,.string ⟨#[]⟩] 45)=wa at *
 have c0:=HK.out.c 0
 have c1:=HK.out.c 1
 have c2:=HK.out.c 2
 have c3:=HK.out.c 3
 have c6:=HK.out.c 6
 have z0:=HZ1.out.c 0
 have z1:=HZ1.out.c 1
 have z2:=HZ1.out.c 2
 have z3:=HZ1.out.c 3
 have z4:=HZ1.out.c 4
 have z5:=HZ1.out.c 5
 have y0:=HZ1.out.frozen 0
 have y1:=HZ1.out.frozen 1
 have y2:=HZ1.out.frozen 2
 have y3:=HZ1.out.frozen 3
 have y4:=HZ1.out.frozen 4
 have y5:=HZ1.out.frozen 5
 have HW:=zY ((((((HZ1.out.set 0 (.int .i64 num)).set 1 (.int .i64 date)).set 2 (.string prev)).set 3 (.slice Ae ne ce)).set 4 (.string st)).set 5 (.string ⟨#[]⟩))
 have hle:w.heap.size<=w.heap.size+1:=by omega
 have HBw:=zY ((((((HB.out.setCell (p:=⟨w.heap.size+1,0,none⟩) hle (.int .i64 num)).setCell (p:=⟨w.heap.size+1,1,none⟩) hle (.int .i64 date)).setCell (p:=⟨w.heap.size+1,2,none⟩) hle (.string prev)).setCell (p:=⟨w.heap.size+1,3,none⟩) hle (.slice Ae ne ce)).setCell (p:=⟨w.heap.size+1,4,none⟩) hle (.string st)).setCell (p:=⟨w.heap.size+1,5,none⟩) hle (.string ⟨#[]⟩))
 clear hle
 go_wp2_with fail
 refine bodyPost_ret (results_cell_row rfl _ _ (w.heap.size+1) 45 _ (0,0) _ rfl HW.out Tryz.underlying45 rfl (by kernel_rfl)) rfl ?_
 exact⟨rfl,HBw.out⟩
def partB (s:ByteArray) (k:Nat):ByteArray:=s.extract (28*k) (min (28*k+28) s.size)
def partsB (s:ByteArray):List ByteArray:=(List.range ((s.size+27)/28)).map (partB s)
def EntCells (cs:List Value):Prop:=∃(k sz:Int) (p t d:ByteArray) (A B:Option Addr) (n m c e:Nat),cs=[.int .i64 k,.string p,.slice A n c,.string t,.int .i64 sz,.string d,.slice B m e]
def RetEB (e:Ending):Prop:=∃cs b,EntCells cs/\e=.returned (.tuple #[.agg cs.toArray,.bool b])
theorem get37_any (w:World) (v:Value) (l:List Ent) (hv:SeqAt entS w v l) (s:ByteArray):Calls Tryz.prog 155 #[v,.string s] w fun e w'=>RetEB e/\Below w.heap.size w w':=by
 have Hv:=zY hv
 obtain⟨A,c,rfl,h1,h2⟩:=hv.slice
 clear hv
 have hZ:=Blk.new w 182 [.int .i64 0,.string ⟨#[]⟩,.slice none 0 0,.string ⟨#[]⟩,.int .i64 0,.string ⟨#[]⟩,.slice none 0 0]
 change Blk (w.alloc (.cells #[.int .i64 0,.string ⟨#[]⟩,.slice none 0 0,.string ⟨#[]⟩,.int .i64 0,.string ⟨#[]⟩,.slice none 0 0] 182)) _ _ _ at hZ
 have HZ0:=zY hZ
 have HB0:=zY (zBl w (.cells #[.int .i64 0,.string ⟨#[]⟩,.slice none 0 0,.string ⟨#[]⟩,.int .i64 0,.string ⟨#[]⟩,.slice none 0 0] 182))
 clear hZ
 go_enter Tryz.func155,Tryz.ntmps155
 go_upto_region 1 with fail
 generalize w.alloc (.cells #[.int .i64 0,.string ⟨#[]⟩,.slice none 0 0,.string ⟨#[]⟩,.int .i64 0,.string ⟨#[]⟩,.slice none 0 0] 182)=wa at *
 go_wp2
 go_loopw [7,10] (fun _ x wr=>∃i:Nat,i<=l.length/\x=.int .i64 (i:Int)/\Below wa.heap.size wa wr) (fun _ x _=>l.length-(intOf x).toNat)
 case atStart=>exact⟨0,by omega,rfl,Below.refl _ _⟩
 case round=>
  obtain⟨i,hi,rfl,hB⟩:=hrel
  have HB:=zY hB
  have HZ:=zY (HZ0.out.kept hB)
  clear hB
  by_cases h:i<l.length
  {
  have hiI:(i:Int)<l.length:=by omega
  obtain⟨x,hx⟩:∃x,l[i]?=some x:=⟨_,List.getElem?_eq_getElem h⟩
  obtain⟨_,_,e9,_,_,h4⟩:=Hv.out.below (HB0.out.trans (HB.out.mono HB0.out.size))
  cases e9
  obtain⟨b,o,cs,rfl,⟨va,vx,rfl,ra,rx⟩,hc⟩:=h4 i x hx
  obtain⟨Aa,ca,rfl,_,_⟩:=ra.slice
  obtain⟨Ax,cx,rfl,_,_⟩:=rx.slice
  obtain⟨k,p,attrs,t,sz,d,exts⟩:=x
  dsimp only at hc
  generalize attrs.length=na at *
  generalize exts.length=nx at *
  have e0:wr.cell? ⟨b,o+i*7,none⟩=some (.int .i64 k):=hc 0 _ rfl
  have e1:wr.cell? ⟨b,o+i*7+1,none⟩=some (.string p):=hc 1 _ rfl
  have e2:wr.cell? ⟨b,o+i*7+2,none⟩=some (.slice Aa na ca):=hc 2 _ rfl
  have e3:wr.cell? ⟨b,o+i*7+3,none⟩=some (.string t):=hc 3 _ rfl
  have e4:wr.cell? ⟨b,o+i*7+4,none⟩=some (.int .i64 sz):=hc 4 _ rfl
  have e5:wr.cell? ⟨b,o+i*7+5,none⟩=some (.string d):=hc 5 _ rfl
  have e6:wr.cell? ⟨b,o+i*7+6,none⟩=some (.slice Ax nx cx):=hc 6 _ rfl
  clear hc h4 hx ra rx
  have hF:=Blk.new wr 182 [.int .i64 k,.string p,.slice Aa na ca,.string t,.int .i64 sz,.string d,.slice Ax nx cx]
  change Blk (wr.alloc (.cells #[.int .i64 k,.string p,.slice Aa na ca,.string t,.int .i64 sz,.string d,.slice Ax nx cx] 182)) _ _ _ at hF
  have HBz:=zY (HB.out.alloc HB.out.size (.cells #[.int .i64 k,.string p,.slice Aa na ca,.string t,.int .i64 sz,.string d,.slice Ax nx cx] 182))
  have HZz:=zY (HZ.out.alloc (.cells #[.int .i64 k,.string p,.slice Aa na ca,.string t,.int .i64 sz,.string d,.slice Ax nx cx] 182))
  go_upto_region 4 with fail
  clear e0 e1 e2 e3 e4 e5 e6
  generalize wr.alloc (.cells #[.int .i64 k,.string p,.slice Aa na ca,.string t,.int .i64 sz,.string d,.slice Ax nx cx] 182)=wz at *
  have hg1:=hF.c 1
  have HFz:=zY hF
  clear hF
  by_cases hps:p=s
  {
  subst hps
  go_upto_region 5 with fail
  refine wp_region_lit ?_
  refine wpList_load_row rfl 182 (.tmp 7) rfl wr.heap.size rfl 182 _ (0,0) _ HFz.out Tryz.underlying182 rfl (by kernel_rfl) ?_
  refine wpList_store_row rfl 182 (.tmp 4) (.tmp 18) rfl w.heap.size _ rfl rfl 182 _ HZz.out (by kernel_rfl) rfl (by simp[Value.oneCell']) ?_
  clear hg1
  go_wp2_with fail
  refine bodyPost_ret (results_row_tmp rfl _ _ w.heap.size 182 _ (0,0) _ rfl (setRow_heap _ _ _ _ _ _ HZz.out) Tryz.underlying182 rfl (by kernel_rfl)) rfl ?_
  exact⟨⟨_,true,⟨k,sz,p,t,d,Aa,Ax,na,nx,ca,cx,rfl⟩,rfl⟩,below_setRow (HB0.out.trans (HBz.out.mono HB0.out.size)) (Nat.le_refl _) _⟩}
  {
  have b3:¬p.toList=s.toList:=fun e=>hps (by rw[ByteArray.toList_eq,ByteArray.toList_eq]at e;exact ByteArray.ext (Array.toList_inj.1 e))
  have b4:(p.toList==s.toList)=false:=by rw[beq_eq_false_iff_ne];exact b3
  clear hps
  go_wp2
  go_roundw
  case rel=>exact⟨i+1,by omega,by go_num,HBz.out⟩
  case measure=>simp[intOf];omega}}
  {
  have hiI:¬(i:Int)<l.length:=by omega
  have hbt:(Tryz.prog.built 182 [])=some #[.int .i64 0,.string ⟨#[]⟩,.slice none 0 0,.string ⟨#[]⟩,.int .i64 0,.string ⟨#[]⟩,.slice none 0 0]:=by kernel_rfl
  have hmap:∀f:Nat×Operand->Nat×Value,(Array.map f #[]).toList=[]:=fun f=>by simp
  go_upto_region 7 with fail
  refine wp_region_lit ?_
  refine wpList_build rfl 182 #[] rfl (by rw[hmap,hbt];rfl) ?_
  rw[hmap,hbt]
  refine wpList_store_row rfl 182 (.tmp 4) (.tmp 20) rfl w.heap.size #[.int .i64 0,.string ⟨#[]⟩,.slice none 0 0,.string ⟨#[]⟩,.int .i64 0,.string ⟨#[]⟩,.slice none 0 0] rfl rfl 182 _ HZ.out (by kernel_rfl) rfl (by simp[Value.oneCell']) ?_
  go_wp2_with fail
  refine bodyPost_ret (results_row_tmp rfl _ _ w.heap.size 182 _ (0,0) _ rfl (setRow_heap _ _ _ _ _ _ HZ.out) Tryz.underlying182 rfl (by kernel_rfl)) rfl ?_
  exact⟨⟨[.int .i64 0,.string ⟨#[]⟩,.slice none 0 0,.string ⟨#[]⟩,.int .i64 0,.string ⟨#[]⟩,.slice none 0 0],false,⟨0,0,_,_,_,none,none,0,0,0,0,rfl⟩,rfl⟩,below_setRow (HB0.out.trans (HB.out.mono HB0.out.size)) (Nat.le_refl _) _⟩}
theorem dir37_any (w:World) (v:Value) (l:List Ent) (hv:SeqAt entS w v l) (s:ByteArray):Calls Tryz.prog 228 #[v,.string s] w fun e w'=>RetI e/\Below w.heap.size w w':=by
 have HG:=zY (get37_any w v l hv s)
 obtain⟨A,c,rfl,h1,h2⟩:=hv.slice
 clear hv
 by_cases h0:s.size=0
 {
 have f0:s.toList.isEmpty=true:=by
  rw[show s=⟨#[]⟩ by apply ByteArray.ext;exact Array.eq_empty_of_size_eq_zero h0]
  exact isEmptyV0
 clear h0
 go_enter Tryz.func228,Tryz.ntmps228
 go_wp2_with fail
 go_ret
 exact⟨RetI.of 0,Below.refl _ _⟩}
 {
 have f0:s.toList.isEmpty=false:=isEmptyV h0
 clear h0
 go_enter Tryz.func228,Tryz.ntmps228
 go_wp2_with fail
 refine HG.out.mono ?_
 rintro e1 w1 ⟨⟨cs,b,⟨k,sz,p,t,d,Aa,Ax,na,nx,ca,cx,rfl⟩,rfl⟩,hb⟩
 have HB:=zY hb
 have hF:=Blk.new w1 182 [.int .i64 k,.string p,.slice Aa na ca,.string t,.int .i64 sz,.string d,.slice Ax nx cx]
 change Blk (w1.alloc (.cells #[.int .i64 k,.string p,.slice Aa na ca,.string t,.int .i64 sz,.string d,.slice Ax nx cx] 182)) _ _ _ at hF
 have HBz:=zY (HB.out.alloc HB.out.size (.cells #[.int .i64 k,.string p,.slice Aa na ca,.string t,.int .i64 sz,.string d,.slice Ax nx cx] 182))
 have c0:=hF.c 0
 clear hb hF HG HB
 cases b with
 |false=>
  go_wp2_with fail
  go_ret
  exact⟨RetI.of 9,HBz.out⟩
 |true=>
  by_cases hk:k=2
  {
  subst hk
  go_wp2_with fail
  go_ret
  exact⟨RetI.of 0,HBz.out⟩}
  {
  have f1:(k != 2)=true:=by rw[bne_iff_ne];exact hk
  clear hk
  go_wp2_with fail
  go_ret
  exact⟨RetI.of 10,HBz.out⟩}}
abbrev Box9 (W:World) (H:Nat) (c0 c1 c2 c3 c4 c5 c6 c7 c8:Value):Prop:=W.cell? ⟨H,0,none⟩=some c0/\W.cell? ⟨H,1,none⟩=some c1/\W.cell? ⟨H,2,none⟩=some c2/\W.cell? ⟨H,3,none⟩=some c3/\W.cell? ⟨H,4,none⟩=some c4/\W.cell? ⟨H,5,none⟩=some c5/\W.cell? ⟨H,6,none⟩=some c6/\W.cell? ⟨H,7,none⟩=some c7/\W.cell? ⟨H,8,none⟩=some c8
theorem Box9.keep {A B:World} {H:Nat} {c0 c1 c2 c3 c4 c5 c6 c7 c8:Value} (h:Box9 A H c0 c1 c2 c3 c4 c5 c6 c7 c8) (hb:Below A.heap.size A B):Box9 B H c0 c1 c2 c3 c4 c5 c6 c7 c8:=by
 obtain⟨h0,h1,h2,h3,h4,h5,h6,h7,h8⟩:=h
 exact⟨cell_below hb h0,cell_below hb h1,cell_below hb h2,cell_below hb h3,cell_below hb h4,cell_below hb h5,cell_below hb h6,cell_below hb h7,cell_below hb h8⟩
theorem Box9.drw {A:World} {H:Nat} {c0 c1 c2 c3 c4 c5 c6 c7 c8:Value} (h:Box9 A H c0 c1 c2 c3 c4 c5 c6 c7 c8):Box9 A.drew H c0 c1 c2 c3 c4 c5 c6 c7 c8:=h
theorem Box9.blk {W:World} {g:Nat} {t:TypeId} {c0 c1 c2 c3 c4 c5 c6 c7 c8:Value} (h:Blk W g t [c0,c1,c2,c3,c4,c5,c6,c7,c8]):Box9 W g c0 c1 c2 c3 c4 c5 c6 c7 c8:=
 ⟨h.c 0,h.c 1,h.c 2,h.c 3,h.c 4,h.c 5,h.c 6,h.c 7,h.c 8⟩
def msgL (k r s i l d p a:Nat) (t:ByteArray):List Nat:=beL k 1++beL r 1++beL s 2++beL i 2++beL l 1++beL (16*d+p) 1++beL a 4++bs t
def marL (k r s i l d p a:Nat) (t:ByteArray):List Nat:=msgL k r s i l d p a t++be4 (sumL [strB (msgL k r s i l d p a t)])
def marR (k r s i l d p a:Int) (t:ByteArray):Value:=
 if frE k r s i l d p t≠0 then .tuple #[.string ⟨#[]⟩,.int .i64 (frE k r s i l d p t)] else .tuple #[.string (strB (marL k.toNat r.toNat s.toNat i.toNat l.toNat d.toNat p.toNat a.toNat t)),.int .i64 0]
theorem frE_ok {k r s i l d p:Int} {t:ByteArray} (h:frE k r s i l d p t=0):
  (k=66∨k=68)/\(1<=d/\d<=8)/\(0<=p/\p<=7)/\(0<=r/\r<=d+p-1)/\(1<=s/\s<=255)/\(0<=i/\i<=65535)/\(0<=l/\l<=28)/\t.size=28:=by
 unfold frE inR at h
 split at h
 ·cases h
 {
 split at h
 ·cases h
 {
 split at h
 ·cases h
 {
 split at h
 ·cases h
 {
 next h1 h2 h3 h4=>
 simp only[Bool.and_eq_true,Bool.or_eq_true,bne_iff_ne,ne_eq,Bool.not_eq_true',Bool.and_eq_false_imp,decide_eq_true_eq,decide_eq_false_iff_not,not_and,not_or,Decidable.not_not]at h1 h2 h3 h4
 refine⟨by omega,by omega,by omega,by omega,by omega,by omega,by omega,by omega⟩
}}}}
def hdrL (k r s i l d p a:Nat):List Nat:=[k,r,s/256,s%256,i/256,i%256,l,16*d+p,a/16777216,a/65536%256,a/256%256,a%256]
theorem hdr_msg (k r s i l d p a:Nat) (t:ByteArray) (hk:k<256) (hr:r<256) (hs:s<256) (hi:i<65536) (hl:l<256) (hd:16*d+p<256) (ha:a<4294967296):
  hdrL k r s i l d p a++bs t=msgL k r s i l d p a t:=by
 have e1:∀n,n<256->beL n 1=[n]:=fun n hn=>by simp[beL];omega
 have e2:∀n,n<65536->beL n 2=[n/256,n%256]:=fun n hn=>by simp[beL];omega
 have e4:beL a 4=[a/16777216,a/65536%256,a/256%256,a%256]:=by simp[beL];omega
 unfold msgL hdrL
 rw[e1 k hk,e1 r hr,e2 s (by omega),e2 i hi,e1 l hl,e1 _ hd,e4]
 simp
theorem hdr_bytes (k r s i l d p a:Nat) (hk:k<256) (hr:r<256) (hs:s<256) (hi:i<65536) (hl:l<256) (hd:16*d+p<256) (ha:a<4294967296):Bytes (hdrL k r s i l d p a):=by
 intro x hx
 unfold hdrL at hx
 simp only[List.mem_cons,List.not_mem_nil,or_false]at hx
 omega
def bitU (l:List Nat):List Nat:=(frmB l).map (· - 48)
theorem bitU_bits (l:List Nat):Bits (bitU l):=by
 intro x hx
 obtain⟨c,hc,rfl⟩:=List.mem_map.1 hx
 rcases frmB_01 l c hc with rfl|rfl<;>decide
theorem bitsS_bitU (l:List Nat):bitsS (bitU l)=frmB l:=by
 unfold bitsS bitU
 rw[List.map_map]
 conv=>rhs;rw[<-List.map_id (frmB l)]
 refine List.map_congr_left fun c hc=>?_
 rcases frmB_01 l c hc with rfl|rfl<;>rfl
theorem bitU_len (l:List Nat):(bitU l).length=8*l.length:=by unfold bitU;rw[List.length_map,frmB_len]
def cellL (m:List Nat):List Nat:=cenc 0 (bitU (rsEnc m)++[0,0])
def bodyL (m:List Nat):List Nat:=interL (cellL m)
theorem rsEnc_ok {m:List Nat} (hm:Bytes m) (hl:m.length=44):(rsEnc m).length=52/\Bytes (rsEnc m):=by
 obtain⟨h1,h2,_⟩:=rsPar_inv m hm
 unfold rsEnc
 refine⟨by rw[List.length_append,h1,hl],fun x hx=>?_⟩
 rcases List.mem_append.1 hx with hx|hx
 ·exact hm x hx
 ·exact h2 x hx
theorem cenc_01:∀(u:List Nat) (s:Nat),B01 (cenc s u)
 |[],_=>fun c hc=>by cases hc
 |b::r,s=>fun c hc=>by
  simp only[cenc,List.mem_cons]at hc
  rcases hc with rfl|rfl|hc
  ·unfold co1;omega
  ·unfold co2;omega
  ·exact cenc_01 r _ c hc
theorem cellL_len {m:List Nat} (hm:Bytes m) (hl:m.length=44):(cellL m).length=836:=by
 unfold cellL
 rw[cenc_len,List.length_append,bitU_len,(rsEnc_ok hm hl).1]
 rfl
theorem cellL_01 (m:List Nat):B01 (cellL m):=cenc_01 _ _
theorem inter_mem {l:List Nat} (hl:l.length=836) {x:Nat} (h:x∈interL l):x∈l:=by
 unfold interL at h
 obtain⟨j,hj,rfl⟩:=List.mem_map.1 h
 have hj':=(ilv_uil (List.mem_range.1 hj)).2
 have hlt:uil j<l.length:=by omega
 rw[cf_get (List.getElem?_eq_getElem hlt)]
 exact List.getElem_mem hlt
theorem bodyL_01 {m:List Nat} (hm:Bytes m) (hl:m.length=44):B01 (bodyL m):=fun c hc=>cellL_01 m c (inter_mem (cellL_len hm hl) hc)
theorem bodyL_bytes {m:List Nat} (hm:Bytes m) (hl:m.length=44):Bytes (bodyL m):=fun c hc=>by rcases bodyL_01 hm hl c hc with rfl|rfl<;>decide
theorem bodyL_len (m:List Nat):(bodyL m).length=836:=interL_len _
theorem be4_bytes {c:Nat} (h:c<4294967296):Bytes (be4 c):=by
 intro x hx
 unfold be4 at hx
 simp only[List.mem_cons,List.not_mem_nil,or_false]at hx
 omega
theorem mar_ok {k r s i l d p a:Nat} {t:ByteArray} (he:frE k r s i l d p t=0) (ha:a<4294967296):
  ∃c,c<4294967296/\marL k r s i l d p a t=hdrL k r s i l d p a++bs t++be4 c/\Bytes (marL k r s i l d p a t)/\(marL k r s i l d p a t).length=44/\c=sumL [strB (hdrL k r s i l d p a++bs t)]/\Bytes (hdrL k r s i l d p a++bs t):=by
 obtain⟨h1,h2,h3,h4,h5,h6,h7,h8⟩:=frE_ok he
 have hm:=hdr_msg k r s i l d p a t (by omega) (by omega) (by omega) (by omega) (by omega) (by omega) ha
 have hb:=hdr_bytes k r s i l d p a (by omega) (by omega) (by omega) (by omega) (by omega) (by omega) ha
 have hb2:Bytes (hdrL k r s i l d p a++bs t):=fun x hx=>by
  rcases List.mem_append.1 hx with hx|hx
  ·exact hb x hx
  ·exact bs_lt t x hx
 have e:marL k r s i l d p a t=hdrL k r s i l d p a++bs t++be4 (sumL [strB (hdrL k r s i l d p a++bs t)]):=by unfold marL;rw[<-hm]
 refine⟨_,sumL_lt _,e,?_,?_,rfl,hb2⟩
 {
 rw[e]
 intro x hx
 rcases List.mem_append.1 hx with hx|hx
 ·exact hb2 x hx
 ·exact be4_bytes (sumL_lt _) x hx}
 {
 rw[e,List.length_append,List.length_append,bs_len,h8]
 rfl}
theorem beL_length (n:Nat):∀k,(beL n k).length=k
 |0=>rfl
 |k+1=>by rw[beL,List.length_cons,beL_length n k]
def numK (n m k:Nat):List Nat:=List.replicate (m-k) 0++beL n k
theorem numK_len {n m k:Nat} (h:k<=m):(numK n m k).length=m:=by
 unfold numK
 rw[List.length_append,List.length_replicate,beL_length]
 omega
theorem numK_set {n m k:Nat} (h:k<m):(numK n m k).set (m-1-k) (n/256^k%256)=numK n m (k+1):=by
 unfold numK
 rw[beL,show m-k=(m-(k+1))+1 by omega,List.replicate_succ',List.append_assoc,List.set_append_right _ _ (by rw[List.length_replicate];omega),List.length_replicate,show m-1-k-(m-(k+1))=0 by omega]
 rfl
theorem numK_get {n m k:Nat} (h:k<m):(numK n m k)[m-1-k]?=some 0:=by
 unfold numK
 rw[List.getElem?_append_left (by rw[List.length_replicate];omega),List.getElem?_replicate,if_pos (by omega)]
theorem fnumber_any (w:World) (n m:Nat) (_hn:n<4294967296) (hm:m<=8):Calls Tryz.prog 250 #[.int .u32 (n:Int),.int .i64 (m:Int)] w fun e w'=>e=.returned (.string (strB (beL n m)))/\Below w.heap.size w w':=by
 have hmk:=make_u8 m m (Nat.le_refl _) (by omega)
 have hmJ:(m:Int)<=8:=by omega
 go_enter Tryz.func250,Tryz.ntmps250
 go_wp2
 go_loopw [0,11] (fun v c wr=>∃k:Nat,k<=m/\v=.int .u32 ((n/256^k:Nat):Int)/\c=.int .i64 (k:Int)/\U8B wr w.heap.size (numK n m k)/\Below w.heap.size w wr) (fun _ c _=>m-(intOf c).toNat)
 case atStart=>exact⟨0,by omega,by simp,rfl,by have:=U8B.new w (List.replicate m 0);unfold numK beL;simpa using this,(Below.refl _ _).alloc (Nat.le_refl _) _⟩
 case round=>
  obtain⟨k,hk,rfl,rfl,hb,hB⟩:=hrel
  have Hb:=zY hb
  have HB:=zY hB
  by_cases h:k<m
  {
  have hkI:(k:Int)<m:=by omega
  have hc:=hb.cell (numK_get (n:=n) h)
  have hf:=hb.frozen (m-1-k)
  have hi:((m:Int)-1-k).toNat=m-1-k:=by omega
  have hw:IntKind.i64.wrap ((m:Int)-1-k)=m-1-k:=by rw[IntKind.wrap_i64];omega
  have hw1:IntKind.i64.wrap ((m:Int)-1)=m-1:=by rw[IntKind.wrap_i64];omega
  have h0:(0:Int)<=m-1-k:=by omega
  have h2:(m:Int)-1-k<m:=by omega
  have HS:=zY (hb.set (m-1-k) (n/256^k%256))
  have Hset:=zY (numK_set (n:=n) h)
  clear hb hB
  go_wp2
  go_roundw
  case rel=>
   have e1:((n:Int)/256^k/256)=((n/256^(k+1):Nat):Int):=by rw[Nat.pow_succ,<-Nat.div_div_eq_div_mul];push_cast;rfl
   have e2:((n:Int)/256^k%256)=((n/256^k%256:Nat):Int):=by push_cast;rfl
   rw[e1,e2]
   exact⟨k+1,by omega,rfl,by go_num,by rw[<-Hset.out];exact HS.out,HB.out.setCell (p:=⟨w.heap.size,m-1-k,none⟩) (Nat.le_refl _) _⟩
  case measure=>simp[intOf];omega}
  {
  have hkm:k=m:=by omega
  subst hkm
  have hcs:=run_toStr (hb.bytes (n:=k) (c:=k) (numK_len (Nat.le_refl _)).symm (Nat.le_refl _) (by omega)) (numK_len (Nat.le_refl _)).symm
  have e:numK n k k=beL n k:=by unfold numK;simp
  rw[e]at hcs
  clear hb hB
  go_wp2
  go_ret
  exact⟨rfl,HB.out⟩
}
end
end Go.Proofs.YthgenkkkapilhaaGreatDoor
namespace Go.Proofs.YthgenkkkapilhaaGreatDoor.lawVoRedundancy
section
open Go.ChangeShapes Go.WideShapes Go.ChangeAt Go.RowKit
theorem wfT:Rows.volumeRedundancyRow.wfByText (OpenSpec.ofChange Rows.volumeRedundancySpec)=true:=by kernel_rfl
theorem looksT:true=Tryz.prog.looks []:=by kernel_rfl
theorem goesF:false=Rows.volumeRedundancyRow.goesBy Tryz.prog:=by kernel_rfl
theorem mainT : Tryz.prog.mainIs = some (true, "174266067ec6230a6e948b97ff1584906e8abc8bea5e33ca035a81317c67f444".toList) := by kernel_rfl
theorem fnT : Tryz.prog.funcNamed "stele/stelelaw43.VolumeRedundancy" = some 7 := by kernel_rfl
end
end Go.Proofs.YthgenkkkapilhaaGreatDoor.lawVoRedundancy
