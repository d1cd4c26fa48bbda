/-
  Joined: VqC VqD VqE VrO VoS VoT OpnV.
-/
import Derived.Test.YthgenkkkapilhaaGreatDoorVSn10
import Derived.Test.YthgenkkkapilhaaGreatDoorVSn14
import Derived.Test.YthgenkkkapilhaaGreatDoorVSn16
import Derived.HandedShaped
set_option linter.all false
set_option maxRecDepth 100000
set_option maxHeartbeats 64000000
namespace Go.Proofs.YthgenkkkapilhaaGreatDoor
section
open Go.RowKit
theorem binit_any (w:World):Calls Tryz.prog 132 #[] w fun e w'=>e=.returned (.agg #[.int .u32 1779033703,.int .u32 3144134277,.int .u32 1013904242,.int .u32 2773480762,.int .u32 1359893119,.int .u32 2600822924,.int .u32 528734635,.int .u32 1541459225])/\Below w.heap.size w w':=by
 have HZ:=zY (Blk.new w 207 (initW.map u32V))
 have HB:=zY (zBl w (.cells (initW.map u32V).toArray 207))
 go_enter Tryz.func132,Tryz.ntmps132
 go_wp2_with fail
 refine bodyPost_ret (results_cell_row rfl _ _ w.heap.size 207 _ (0,0) _ rfl HZ.out Tryz.underlying207 rfl (by kernel_rfl)) rfl ?_
 exact⟨rfl,HB.out⟩
theorem bperm_any (w:World):Calls Tryz.prog 201 #[] w fun e w'=>e=.returned (.agg #[.int .u64 81985529216486895,.int .u64 16881918945140062035,.int .u64 13312731748010193300,.int .u64 8733003861693448440,.int .u64 10400822202260547645,.int .u64 3200383143768358425,.int .u64 14204332651957162635,.int .u64 15816291393287259690,.int .u64 8064173457993569445,.int .u64 11710614767857974480])/\Below w.heap.size w w':=by
 have HZ:=zY (Blk.new w 271 [.int .u64 81985529216486895,.int .u64 16881918945140062035,.int .u64 13312731748010193300,.int .u64 8733003861693448440,.int .u64 10400822202260547645,.int .u64 3200383143768358425,.int .u64 14204332651957162635,.int .u64 15816291393287259690,.int .u64 8064173457993569445,.int .u64 11710614767857974480])
 have HB:=zY (zBl w (.cells #[.int .u64 81985529216486895,.int .u64 16881918945140062035,.int .u64 13312731748010193300,.int .u64 8733003861693448440,.int .u64 10400822202260547645,.int .u64 3200383143768358425,.int .u64 14204332651957162635,.int .u64 15816291393287259690,.int .u64 8064173457993569445,.int .u64 11710614767857974480] 271))
 go_enter Tryz.func201,Tryz.ntmps201
 go_wp2_with fail
 refine bodyPost_ret (results_cell_row rfl _ _ w.heap.size 271 _ (0,0) _ rfl HZ.out Tryz.underlying271 rfl (by kernel_rfl)) rfl ?_
 exact⟨rfl,HB.out⟩
theorem quad_m0 (f:Nat×Operand->Nat×Value):(Array.map f #[(0,.const (.int .i64 0)),(1,.const (.int .i64 4)),(2,.const (.int .i64 8)),(3,.const (.int .i64 12))]).toList=[f (0,.const (.int .i64 0)),f (1,.const (.int .i64 4)),f (2,.const (.int .i64 8)),f (3,.const (.int .i64 12))]:=by simp
theorem quad_b0:Tryz.prog.built 273 [(0,.int .i64 0),(1,.int .i64 4),(2,.int .i64 8),(3,.int .i64 12)]=some #[.int .i64 0,.int .i64 4,.int .i64 8,.int .i64 12]:=by kernel_rfl
theorem quad_m1 (f:Nat×Operand->Nat×Value):(Array.map f #[(0,.const (.int .i64 1)),(1,.const (.int .i64 5)),(2,.const (.int .i64 9)),(3,.const (.int .i64 13))]).toList=[f (0,.const (.int .i64 1)),f (1,.const (.int .i64 5)),f (2,.const (.int .i64 9)),f (3,.const (.int .i64 13))]:=by simp
theorem quad_b1:Tryz.prog.built 273 [(0,.int .i64 1),(1,.int .i64 5),(2,.int .i64 9),(3,.int .i64 13)]=some #[.int .i64 1,.int .i64 5,.int .i64 9,.int .i64 13]:=by kernel_rfl
theorem quad_m2 (f:Nat×Operand->Nat×Value):(Array.map f #[(0,.const (.int .i64 2)),(1,.const (.int .i64 6)),(2,.const (.int .i64 10)),(3,.const (.int .i64 14))]).toList=[f (0,.const (.int .i64 2)),f (1,.const (.int .i64 6)),f (2,.const (.int .i64 10)),f (3,.const (.int .i64 14))]:=by simp
theorem quad_b2:Tryz.prog.built 273 [(0,.int .i64 2),(1,.int .i64 6),(2,.int .i64 10),(3,.int .i64 14)]=some #[.int .i64 2,.int .i64 6,.int .i64 10,.int .i64 14]:=by kernel_rfl
theorem quad_m3 (f:Nat×Operand->Nat×Value):(Array.map f #[(0,.const (.int .i64 3)),(1,.const (.int .i64 7)),(2,.const (.int .i64 11)),(3,.const (.int .i64 15))]).toList=[f (0,.const (.int .i64 3)),f (1,.const (.int .i64 7)),f (2,.const (.int .i64 11)),f (3,.const (.int .i64 15))]:=by simp
theorem quad_b3:Tryz.prog.built 273 [(0,.int .i64 3),(1,.int .i64 7),(2,.int .i64 11),(3,.int .i64 15)]=some #[.int .i64 3,.int .i64 7,.int .i64 11,.int .i64 15]:=by kernel_rfl
theorem quad_m4 (f:Nat×Operand->Nat×Value):(Array.map f #[(0,.const (.int .i64 0)),(1,.const (.int .i64 5)),(2,.const (.int .i64 10)),(3,.const (.int .i64 15))]).toList=[f (0,.const (.int .i64 0)),f (1,.const (.int .i64 5)),f (2,.const (.int .i64 10)),f (3,.const (.int .i64 15))]:=by simp
theorem quad_b4:Tryz.prog.built 273 [(0,.int .i64 0),(1,.int .i64 5),(2,.int .i64 10),(3,.int .i64 15)]=some #[.int .i64 0,.int .i64 5,.int .i64 10,.int .i64 15]:=by kernel_rfl
theorem quad_m5 (f:Nat×Operand->Nat×Value):(Array.map f #[(0,.const (.int .i64 1)),(1,.const (.int .i64 6)),(2,.const (.int .i64 11)),(3,.const (.int .i64 12))]).toList=[f (0,.const (.int .i64 1)),f (1,.const (.int .i64 6)),f (2,.const (.int .i64 11)),f (3,.const (.int .i64 12))]:=by simp
theorem quad_b5:Tryz.prog.built 273 [(0,.int .i64 1),(1,.int .i64 6),(2,.int .i64 11),(3,.int .i64 12)]=some #[.int .i64 1,.int .i64 6,.int .i64 11,.int .i64 12]:=by kernel_rfl
theorem quad_m6 (f:Nat×Operand->Nat×Value):(Array.map f #[(0,.const (.int .i64 2)),(1,.const (.int .i64 7)),(2,.const (.int .i64 8)),(3,.const (.int .i64 13))]).toList=[f (0,.const (.int .i64 2)),f (1,.const (.int .i64 7)),f (2,.const (.int .i64 8)),f (3,.const (.int .i64 13))]:=by simp
theorem quad_b6:Tryz.prog.built 273 [(0,.int .i64 2),(1,.int .i64 7),(2,.int .i64 8),(3,.int .i64 13)]=some #[.int .i64 2,.int .i64 7,.int .i64 8,.int .i64 13]:=by kernel_rfl
theorem quad_m7 (f:Nat×Operand->Nat×Value):(Array.map f #[(0,.const (.int .i64 3)),(1,.const (.int .i64 4)),(2,.const (.int .i64 9)),(3,.const (.int .i64 14))]).toList=[f (0,.const (.int .i64 3)),f (1,.const (.int .i64 4)),f (2,.const (.int .i64 9)),f (3,.const (.int .i64 14))]:=by simp
theorem quad_b7:Tryz.prog.built 273 [(0,.int .i64 3),(1,.int .i64 4),(2,.int .i64 9),(3,.int .i64 14)]=some #[.int .i64 3,.int .i64 4,.int .i64 9,.int .i64 14]:=by kernel_rfl
theorem quad_m (f:Nat×Operand->Nat×Value):(Array.map f #[(0,.tmp 1),(1,.tmp 2),(2,.tmp 3),(3,.tmp 4),(4,.tmp 5),(5,.tmp 6),(6,.tmp 7),(7,.tmp 8)]).toList=[f (0,.tmp 1),f (1,.tmp 2),f (2,.tmp 3),f (3,.tmp 4),f (4,.tmp 5),f (5,.tmp 6),f (6,.tmp 7),f (7,.tmp 8)]:=by simp
theorem quad_b:Tryz.prog.built 274 [(0,.agg #[.int .i64 0,.int .i64 4,.int .i64 8,.int .i64 12]),(1,.agg #[.int .i64 1,.int .i64 5,.int .i64 9,.int .i64 13]),(2,.agg #[.int .i64 2,.int .i64 6,.int .i64 10,.int .i64 14]),(3,.agg #[.int .i64 3,.int .i64 7,.int .i64 11,.int .i64 15]),(4,.agg #[.int .i64 0,.int .i64 5,.int .i64 10,.int .i64 15]),(5,.agg #[.int .i64 1,.int .i64 6,.int .i64 11,.int .i64 12]),(6,.agg #[.int .i64 2,.int .i64 7,.int .i64 8,.int .i64 13]),(7,.agg #[.int .i64 3,.int .i64 4,.int .i64 9,.int .i64 14])]=some #[.int .i64 0,.int .i64 4,.int .i64 8,.int .i64 12,.int .i64 1,.int .i64 5,.int .i64 9,.int .i64 13,.int .i64 2,.int .i64 6,.int .i64 10,.int .i64 14,.int .i64 3,.int .i64 7,.int .i64 11,.int .i64 15,.int .i64 0,.int .i64 5,.int .i64 10,.int .i64 15,.int .i64 1,.int .i64 6,.int .i64 11,.int .i64 12,.int .i64 2,.int .i64 7,.int .i64 8,.int .i64 13,.int .i64 3,.int .i64 4,.int .i64 9,.int .i64 14]:=by kernel_rfl
theorem bquads_any (w:World):Calls Tryz.prog 202 #[] w fun e w'=>e=.returned (.agg #[.int .i64 0,.int .i64 4,.int .i64 8,.int .i64 12,.int .i64 1,.int .i64 5,.int .i64 9,.int .i64 13,.int .i64 2,.int .i64 6,.int .i64 10,.int .i64 14,.int .i64 3,.int .i64 7,.int .i64 11,.int .i64 15,.int .i64 0,.int .i64 5,.int .i64 10,.int .i64 15,.int .i64 1,.int .i64 6,.int .i64 11,.int .i64 12,.int .i64 2,.int .i64 7,.int .i64 8,.int .i64 13,.int .i64 3,.int .i64 4,.int .i64 9,.int .i64 14])/\Below w.heap.size w w':=by
 have HZ:Hid (Blk (w.alloc (.cells (List.replicate 32 (.int .i64 0)).toArray 274)) w.heap.size 274 (List.replicate 32 (.int .i64 0))):=zY (Blk.new _ _ _)
 have HB:=zY (zBl w (.cells (List.replicate 32 (.int .i64 0)).toArray 274))
 go_enter Tryz.func202,Tryz.ntmps202
 go_upto_region 1 with fail
 change Code.wp _ _ _ _ (w.alloc (.cells (List.replicate 32 (.int .i64 0)).toArray 274))
 generalize w.alloc (.cells (List.replicate 32 (.int .i64 0)).toArray 274)=wa at *
 refine wp_region_lit ?_
 refine wpList_build rfl 273 #[(0,.const (.int .i64 0)),(1,.const (.int .i64 4)),(2,.const (.int .i64 8)),(3,.const (.int .i64 12))] rfl (by rw[quad_m0];show (Tryz.prog.built 273 [(0,.int .i64 0),(1,.int .i64 4),(2,.int .i64 8),(3,.int .i64 12)]).isSome=true;rw[quad_b0];rfl) ?_
 rw[quad_m0]
 change wpList _ _ _ _ (Act.put _ _ (.agg ((Tryz.prog.built 273 [(0,.int .i64 0),(1,.int .i64 4),(2,.int .i64 8),(3,.int .i64 12)]).getD #[]))) _
 rw[quad_b0]
 simp only[Act.put,List.setIfInBounds_toArray,List.set_cons_zero,List.set_cons_succ,Option.getD_some]
 refine wpList_build rfl 273 #[(0,.const (.int .i64 1)),(1,.const (.int .i64 5)),(2,.const (.int .i64 9)),(3,.const (.int .i64 13))] rfl (by rw[quad_m1];show (Tryz.prog.built 273 [(0,.int .i64 1),(1,.int .i64 5),(2,.int .i64 9),(3,.int .i64 13)]).isSome=true;rw[quad_b1];rfl) ?_
 rw[quad_m1]
 change wpList _ _ _ _ (Act.put _ _ (.agg ((Tryz.prog.built 273 [(0,.int .i64 1),(1,.int .i64 5),(2,.int .i64 9),(3,.int .i64 13)]).getD #[]))) _
 rw[quad_b1]
 simp only[Act.put,List.setIfInBounds_toArray,List.set_cons_zero,List.set_cons_succ,Option.getD_some]
 refine wpList_build rfl 273 #[(0,.const (.int .i64 2)),(1,.const (.int .i64 6)),(2,.const (.int .i64 10)),(3,.const (.int .i64 14))] rfl (by rw[quad_m2];show (Tryz.prog.built 273 [(0,.int .i64 2),(1,.int .i64 6),(2,.int .i64 10),(3,.int .i64 14)]).isSome=true;rw[quad_b2];rfl) ?_
 rw[quad_m2]
 change wpList _ _ _ _ (Act.put _ _ (.agg ((Tryz.prog.built 273 [(0,.int .i64 2),(1,.int .i64 6),(2,.int .i64 10),(3,.int .i64 14)]).getD #[]))) _
 rw[quad_b2]
 simp only[Act.put,List.setIfInBounds_toArray,List.set_cons_zero,List.set_cons_succ,Option.getD_some]
 refine wpList_build rfl 273 #[(0,.const (.int .i64 3)),(1,.const (.int .i64 7)),(2,.const (.int .i64 11)),(3,.const (.int .i64 15))] rfl (by rw[quad_m3];show (Tryz.prog.built 273 [(0,.int .i64 3),(1,.int .i64 7),(2,.int .i64 11),(3,.int .i64 15)]).isSome=true;rw[quad_b3];rfl) ?_
 rw[quad_m3]
 change wpList _ _ _ _ (Act.put _ _ (.agg ((Tryz.prog.built 273 [(0,.int .i64 3),(1,.int .i64 7),(2,.int .i64 11),(3,.int .i64 15)]).getD #[]))) _
 rw[quad_b3]
 simp only[Act.put,List.setIfInBounds_toArray,List.set_cons_zero,List.set_cons_succ,Option.getD_some]
 refine wpList_build rfl 273 #[(0,.const (.int .i64 0)),(1,.const (.int .i64 5)),(2,.const (.int .i64 10)),(3,.const (.int .i64 15))] rfl (by rw[quad_m4];show (Tryz.prog.built 273 [(0,.int .i64 0),(1,.int .i64 5),(2,.int .i64 10),(3,.int .i64 15)]).isSome=true;rw[quad_b4];rfl) ?_
 rw[quad_m4]
 change wpList _ _ _ _ (Act.put _ _ (.agg ((Tryz.prog.built 273 [(0,.int .i64 0),(1,.int .i64 5),(2,.int .i64 10),(3,.int .i64 15)]).getD #[]))) _
 rw[quad_b4]
 simp only[Act.put,List.setIfInBounds_toArray,List.set_cons_zero,List.set_cons_succ,Option.getD_some]
 refine wpList_build rfl 273 #[(0,.const (.int .i64 1)),(1,.const (.int .i64 6)),(2,.const (.int .i64 11)),(3,.const (.int .i64 12))] rfl (by rw[quad_m5];show (Tryz.prog.built 273 [(0,.int .i64 1),(1,.int .i64 6),(2,.int .i64 11),(3,.int .i64 12)]).isSome=true;rw[quad_b5];rfl) ?_
 rw[quad_m5]
 change wpList _ _ _ _ (Act.put _ _ (.agg ((Tryz.prog.built 273 [(0,.int .i64 1),(1,.int .i64 6),(2,.int .i64 11),(3,.int .i64 12)]).getD #[]))) _
 rw[quad_b5]
 simp only[Act.put,List.setIfInBounds_toArray,List.set_cons_zero,List.set_cons_succ,Option.getD_some]
 refine wpList_build rfl 273 #[(0,.const (.int .i64 2)),(1,.const (.int .i64 7)),(2,.const (.int .i64 8)),(3,.const (.int .i64 13))] rfl (by rw[quad_m6];show (Tryz.prog.built 273 [(0,.int .i64 2),(1,.int .i64 7),(2,.int .i64 8),(3,.int .i64 13)]).isSome=true;rw[quad_b6];rfl) ?_
 rw[quad_m6]
 change wpList _ _ _ _ (Act.put _ _ (.agg ((Tryz.prog.built 273 [(0,.int .i64 2),(1,.int .i64 7),(2,.int .i64 8),(3,.int .i64 13)]).getD #[]))) _
 rw[quad_b6]
 simp only[Act.put,List.setIfInBounds_toArray,List.set_cons_zero,List.set_cons_succ,Option.getD_some]
 refine wpList_build rfl 273 #[(0,.const (.int .i64 3)),(1,.const (.int .i64 4)),(2,.const (.int .i64 9)),(3,.const (.int .i64 14))] rfl (by rw[quad_m7];show (Tryz.prog.built 273 [(0,.int .i64 3),(1,.int .i64 4),(2,.int .i64 9),(3,.int .i64 14)]).isSome=true;rw[quad_b7];rfl) ?_
 rw[quad_m7]
 change wpList _ _ _ _ (Act.put _ _ (.agg ((Tryz.prog.built 273 [(0,.int .i64 3),(1,.int .i64 4),(2,.int .i64 9),(3,.int .i64 14)]).getD #[]))) _
 rw[quad_b7]
 simp only[Act.put,List.setIfInBounds_toArray,List.set_cons_zero,List.set_cons_succ,Option.getD_some]
 refine wpList_build rfl 274 #[(0,.tmp 1),(1,.tmp 2),(2,.tmp 3),(3,.tmp 4),(4,.tmp 5),(5,.tmp 6),(6,.tmp 7),(7,.tmp 8)] rfl (by rw[quad_m];show (Tryz.prog.built 274 [(0,.agg #[.int .i64 0,.int .i64 4,.int .i64 8,.int .i64 12]),(1,.agg #[.int .i64 1,.int .i64 5,.int .i64 9,.int .i64 13]),(2,.agg #[.int .i64 2,.int .i64 6,.int .i64 10,.int .i64 14]),(3,.agg #[.int .i64 3,.int .i64 7,.int .i64 11,.int .i64 15]),(4,.agg #[.int .i64 0,.int .i64 5,.int .i64 10,.int .i64 15]),(5,.agg #[.int .i64 1,.int .i64 6,.int .i64 11,.int .i64 12]),(6,.agg #[.int .i64 2,.int .i64 7,.int .i64 8,.int .i64 13]),(7,.agg #[.int .i64 3,.int .i64 4,.int .i64 9,.int .i64 14])]).isSome=true;rw[quad_b];rfl) ?_
 rw[quad_m]
 change wpList _ _ _ _ (Act.put _ _ (.agg ((Tryz.prog.built 274 [(0,.agg #[.int .i64 0,.int .i64 4,.int .i64 8,.int .i64 12]),(1,.agg #[.int .i64 1,.int .i64 5,.int .i64 9,.int .i64 13]),(2,.agg #[.int .i64 2,.int .i64 6,.int .i64 10,.int .i64 14]),(3,.agg #[.int .i64 3,.int .i64 7,.int .i64 11,.int .i64 15]),(4,.agg #[.int .i64 0,.int .i64 5,.int .i64 10,.int .i64 15]),(5,.agg #[.int .i64 1,.int .i64 6,.int .i64 11,.int .i64 12]),(6,.agg #[.int .i64 2,.int .i64 7,.int .i64 8,.int .i64 13]),(7,.agg #[.int .i64 3,.int .i64 4,.int .i64 9,.int .i64 14])]).getD #[]))) _
 rw[quad_b]
 simp only[Act.put,List.setIfInBounds_toArray,List.set_cons_zero,List.set_cons_succ,Option.getD_some]
 refine wpList_store_row rfl 274 (.tmp 0) (.tmp 9) rfl w.heap.size #[.int .i64 0,.int .i64 4,.int .i64 8,.int .i64 12,.int .i64 1,.int .i64 5,.int .i64 9,.int .i64 13,.int .i64 2,.int .i64 6,.int .i64 10,.int .i64 14,.int .i64 3,.int .i64 7,.int .i64 11,.int .i64 15,.int .i64 0,.int .i64 5,.int .i64 10,.int .i64 15,.int .i64 1,.int .i64 6,.int .i64 11,.int .i64 12,.int .i64 2,.int .i64 7,.int .i64 8,.int .i64 13,.int .i64 3,.int .i64 4,.int .i64 9,.int .i64 14] rfl rfl 274 _ HZ.out (by kernel_rfl) (by simp) (by simp[Value.oneCell']) ?_
 go_wp2_with fail
 refine bodyPost_ret (results_cell_row rfl _ _ w.heap.size 274 _ (0,0) _ rfl (setRow_heap _ _ _ _ _ _ HZ.out) Tryz.underlying274 rfl (by kernel_rfl)) rfl ?_
 exact⟨rfl,below_setRow HB.out (Nat.le_refl _) _⟩
theorem run_index_p (w:World) (cs:Array Value) (r:Nat) (hr:r<10) {v:Value} (hv:cs[r]?=some v):(Instr.index 271 (.agg cs) (.int .i64 (r:Int))).run Tryz.prog w=.ok v w:=by
 have hn:(0:Int)<=(r:Int)/\(r:Int)<(10:Nat):=by omega
 have hu:=Tryz.underlying271
 simp[Instr.index,run_underlying hu,asIntOf,hn,hr,hv,go_sem]
theorem run_index_q (w:World) (cs:Array Value) (r:Nat) (hr:r<8) (hc:cs.size=32):(Instr.index 274 (.agg cs) (.int .i64 (r:Int))).run Tryz.prog w=.ok (.agg (cs.extract (r*4) (r*4+4))) w:=by
 have hn:(0:Int)<=(r:Int)/\(r:Int)<(8:Nat):=by omega
 have hu:=Tryz.underlying274
 have h32:r*4+4<=32:=by omega
 simp[Instr.index,run_underlying hu,asIntOf,hn,hr,hc,h32,go_sem]
def permI:Nat->Int
 |0=>81985529216486895
 |1=>16881918945140062035
 |2=>13312731748010193300
 |3=>8733003861693448440
 |4=>10400822202260547645
 |5=>3200383143768358425
 |6=>14204332651957162635
 |7=>15816291393287259690
 |8=>8064173457993569445
 |9=>11710614767857974480
 |_=>0
theorem perm_at:∀r,r<10->(#[.int .u64 81985529216486895,.int .u64 16881918945140062035,.int .u64 13312731748010193300,.int .u64 8733003861693448440,.int .u64 10400822202260547645,.int .u64 3200383143768358425,.int .u64 14204332651957162635,.int .u64 15816291393287259690,.int .u64 8064173457993569445,.int .u64 11710614767857974480]:Array Value)[r]?=some (.int .u64 (permI r))
 |0,_=>rfl
 |1,_=>rfl
 |2,_=>rfl
 |3,_=>rfl
 |4,_=>rfl
 |5,_=>rfl
 |6,_=>rfl
 |7,_=>rfl
 |8,_=>rfl
 |9,_=>rfl
 |n+10,h=>absurd h (by omega)
theorem perm_x0:∀r,r<10->bits .and .u64 (permI r/1152921504606846976) 15=(sigN r 0:Int)/\bits .and .u64 (permI r/72057594037927936) 15=(sigN r 1:Int):=by decide
theorem quad_at0 (w:World):(Instr.index 274 (.agg #[.int .i64 0,.int .i64 4,.int .i64 8,.int .i64 12,.int .i64 1,.int .i64 5,.int .i64 9,.int .i64 13,.int .i64 2,.int .i64 6,.int .i64 10,.int .i64 14,.int .i64 3,.int .i64 7,.int .i64 11,.int .i64 15,.int .i64 0,.int .i64 5,.int .i64 10,.int .i64 15,.int .i64 1,.int .i64 6,.int .i64 11,.int .i64 12,.int .i64 2,.int .i64 7,.int .i64 8,.int .i64 13,.int .i64 3,.int .i64 4,.int .i64 9,.int .i64 14]) (.int .i64 0)).run Tryz.prog w=.ok (.agg #[.int .i64 0,.int .i64 4,.int .i64 8,.int .i64 12]) w:=run_index_q w _ 0 (by decide) rfl
theorem perm_x1:∀r,r<10->bits .and .u64 (permI r/4503599627370496) 15=(sigN r 2:Int)/\bits .and .u64 (permI r/281474976710656) 15=(sigN r 3:Int):=by decide
theorem quad_at1 (w:World):(Instr.index 274 (.agg #[.int .i64 0,.int .i64 4,.int .i64 8,.int .i64 12,.int .i64 1,.int .i64 5,.int .i64 9,.int .i64 13,.int .i64 2,.int .i64 6,.int .i64 10,.int .i64 14,.int .i64 3,.int .i64 7,.int .i64 11,.int .i64 15,.int .i64 0,.int .i64 5,.int .i64 10,.int .i64 15,.int .i64 1,.int .i64 6,.int .i64 11,.int .i64 12,.int .i64 2,.int .i64 7,.int .i64 8,.int .i64 13,.int .i64 3,.int .i64 4,.int .i64 9,.int .i64 14]) (.int .i64 1)).run Tryz.prog w=.ok (.agg #[.int .i64 1,.int .i64 5,.int .i64 9,.int .i64 13]) w:=run_index_q w _ 1 (by decide) rfl
theorem perm_x2:∀r,r<10->bits .and .u64 (permI r/17592186044416) 15=(sigN r 4:Int)/\bits .and .u64 (permI r/1099511627776) 15=(sigN r 5:Int):=by decide
theorem quad_at2 (w:World):(Instr.index 274 (.agg #[.int .i64 0,.int .i64 4,.int .i64 8,.int .i64 12,.int .i64 1,.int .i64 5,.int .i64 9,.int .i64 13,.int .i64 2,.int .i64 6,.int .i64 10,.int .i64 14,.int .i64 3,.int .i64 7,.int .i64 11,.int .i64 15,.int .i64 0,.int .i64 5,.int .i64 10,.int .i64 15,.int .i64 1,.int .i64 6,.int .i64 11,.int .i64 12,.int .i64 2,.int .i64 7,.int .i64 8,.int .i64 13,.int .i64 3,.int .i64 4,.int .i64 9,.int .i64 14]) (.int .i64 2)).run Tryz.prog w=.ok (.agg #[.int .i64 2,.int .i64 6,.int .i64 10,.int .i64 14]) w:=run_index_q w _ 2 (by decide) rfl
theorem perm_x3:∀r,r<10->bits .and .u64 (permI r/68719476736) 15=(sigN r 6:Int)/\bits .and .u64 (permI r/4294967296) 15=(sigN r 7:Int):=by decide
theorem quad_at3 (w:World):(Instr.index 274 (.agg #[.int .i64 0,.int .i64 4,.int .i64 8,.int .i64 12,.int .i64 1,.int .i64 5,.int .i64 9,.int .i64 13,.int .i64 2,.int .i64 6,.int .i64 10,.int .i64 14,.int .i64 3,.int .i64 7,.int .i64 11,.int .i64 15,.int .i64 0,.int .i64 5,.int .i64 10,.int .i64 15,.int .i64 1,.int .i64 6,.int .i64 11,.int .i64 12,.int .i64 2,.int .i64 7,.int .i64 8,.int .i64 13,.int .i64 3,.int .i64 4,.int .i64 9,.int .i64 14]) (.int .i64 3)).run Tryz.prog w=.ok (.agg #[.int .i64 3,.int .i64 7,.int .i64 11,.int .i64 15]) w:=run_index_q w _ 3 (by decide) rfl
theorem perm_x4:∀r,r<10->bits .and .u64 (permI r/268435456) 15=(sigN r 8:Int)/\bits .and .u64 (permI r/16777216) 15=(sigN r 9:Int):=by decide
theorem quad_at4 (w:World):(Instr.index 274 (.agg #[.int .i64 0,.int .i64 4,.int .i64 8,.int .i64 12,.int .i64 1,.int .i64 5,.int .i64 9,.int .i64 13,.int .i64 2,.int .i64 6,.int .i64 10,.int .i64 14,.int .i64 3,.int .i64 7,.int .i64 11,.int .i64 15,.int .i64 0,.int .i64 5,.int .i64 10,.int .i64 15,.int .i64 1,.int .i64 6,.int .i64 11,.int .i64 12,.int .i64 2,.int .i64 7,.int .i64 8,.int .i64 13,.int .i64 3,.int .i64 4,.int .i64 9,.int .i64 14]) (.int .i64 4)).run Tryz.prog w=.ok (.agg #[.int .i64 0,.int .i64 5,.int .i64 10,.int .i64 15]) w:=run_index_q w _ 4 (by decide) rfl
theorem perm_x5:∀r,r<10->bits .and .u64 (permI r/1048576) 15=(sigN r 10:Int)/\bits .and .u64 (permI r/65536) 15=(sigN r 11:Int):=by decide
theorem quad_at5 (w:World):(Instr.index 274 (.agg #[.int .i64 0,.int .i64 4,.int .i64 8,.int .i64 12,.int .i64 1,.int .i64 5,.int .i64 9,.int .i64 13,.int .i64 2,.int .i64 6,.int .i64 10,.int .i64 14,.int .i64 3,.int .i64 7,.int .i64 11,.int .i64 15,.int .i64 0,.int .i64 5,.int .i64 10,.int .i64 15,.int .i64 1,.int .i64 6,.int .i64 11,.int .i64 12,.int .i64 2,.int .i64 7,.int .i64 8,.int .i64 13,.int .i64 3,.int .i64 4,.int .i64 9,.int .i64 14]) (.int .i64 5)).run Tryz.prog w=.ok (.agg #[.int .i64 1,.int .i64 6,.int .i64 11,.int .i64 12]) w:=run_index_q w _ 5 (by decide) rfl
theorem perm_x6:∀r,r<10->bits .and .u64 (permI r/4096) 15=(sigN r 12:Int)/\bits .and .u64 (permI r/256) 15=(sigN r 13:Int):=by decide
theorem quad_at6 (w:World):(Instr.index 274 (.agg #[.int .i64 0,.int .i64 4,.int .i64 8,.int .i64 12,.int .i64 1,.int .i64 5,.int .i64 9,.int .i64 13,.int .i64 2,.int .i64 6,.int .i64 10,.int .i64 14,.int .i64 3,.int .i64 7,.int .i64 11,.int .i64 15,.int .i64 0,.int .i64 5,.int .i64 10,.int .i64 15,.int .i64 1,.int .i64 6,.int .i64 11,.int .i64 12,.int .i64 2,.int .i64 7,.int .i64 8,.int .i64 13,.int .i64 3,.int .i64 4,.int .i64 9,.int .i64 14]) (.int .i64 6)).run Tryz.prog w=.ok (.agg #[.int .i64 2,.int .i64 7,.int .i64 8,.int .i64 13]) w:=run_index_q w _ 6 (by decide) rfl
theorem perm_x7:∀r,r<10->bits .and .u64 (permI r/16) 15=(sigN r 14:Int)/\bits .and .u64 (permI r/1) 15=(sigN r 15:Int):=by decide
theorem quad_at7 (w:World):(Instr.index 274 (.agg #[.int .i64 0,.int .i64 4,.int .i64 8,.int .i64 12,.int .i64 1,.int .i64 5,.int .i64 9,.int .i64 13,.int .i64 2,.int .i64 6,.int .i64 10,.int .i64 14,.int .i64 3,.int .i64 7,.int .i64 11,.int .i64 15,.int .i64 0,.int .i64 5,.int .i64 10,.int .i64 15,.int .i64 1,.int .i64 6,.int .i64 11,.int .i64 12,.int .i64 2,.int .i64 7,.int .i64 8,.int .i64 13,.int .i64 3,.int .i64 4,.int .i64 9,.int .i64 14]) (.int .i64 7)).run Tryz.prog w=.ok (.agg #[.int .i64 3,.int .i64 4,.int .i64 9,.int .i64 14]) w:=run_index_q w _ 7 (by decide) rfl
theorem holds_zero0 (w:World) (T:TypeId) (nd:Nat) (hs:nd<=24):Sort.Holds (fun(b:UInt8)=>Value.int .u8 (b.toNat:Int)) (w.alloc (.cells Lib.zeros24 T)) w.heap.size 0 (Array.replicate nd (0:UInt8)):=fun j hj=>by
 have hj':j<nd:=by simpa using hj
 refine⟨?_,World.frozen?_alloc_new _ _ _ _⟩
 rw[World.cell?_alloc_new,Lib.zeros24_at _ (by omega),getElem!_pos _ j hj]
 simp
theorem below_row (w:World) (o:Obj) (dk:Array UInt8) (k:Nat):Below w.heap.size w ((Sort.putRow (fun(b:UInt8)=>Value.int .u8 (b.toNat:Int)) (w.alloc o) w.heap.size 0 dk).drewN k):=by
 obtain⟨os,e⟩:∃os,(Sort.putRow (fun(b:UInt8)=>Value.int .u8 (b.toNat:Int)) (w.alloc o) w.heap.size 0 dk).drewN k=Sort.grow (w.drewN k) os:=by
  rw[Sort.alloc_eq_grow]
  obtain⟨os',_,e⟩:=Sort.putRow_grow_new (fun(b:UInt8)=>Value.int .u8 (b.toNat:Int)) w #[o] w.heap.size 0 dk (Nat.le_refl _)
  exact⟨os',by rw[e];rfl⟩
 rw[e]
 refine⟨rfl,rfl,rfl,?_,fun j hj=>?_⟩
 {
 show w.heap.size<=(w.heap++os).size
 rw[Array.size_append]
 omega}
 {
 show (w.heap++os)[j]?=_
 rw[Array.getElem?_append_left hj]}
theorem decB (n:Nat):(⟨(Lib.decDigits n).toArray⟩:ByteArray)=strB (digD n):=by rw[<-itoaB,Lib.itoa_nonneg]
theorem ifmtU_any (w:World) (u:Nat) (hu64:u<18446744073709551616) (hT:Tab w):Calls Tryz.prog 303 #[.int .u64 (u:Int),.int .i64 10] w fun e w'=>e=.returned (.string (strB (digD u)))/\Below w.heap.size w w':=by
 rw[<-decB]
 by_cases hs:u<100
 {
 have hsI:(u:Int)<100:=by omega
 have huw:IntKind.i64.wrap (u:Int)=u:=zIw (by omega)
 go_enter Tryz.func303,Tryz.ntmps303
 go_wp2_with fail
 refine(Tryz.internal_strconv_small u hs _).mono ?_
 rintro e w' ⟨rfl,rfl⟩
 go_wp2
 go_ret
 exact⟨rfl,Below.refl _ _⟩}
 {
 have hu1:1<=u:=by omega
 have hsI:¬(u:Int)<100:=by omega
 have hnd20:Lib.nDigits u<=20:=by have:=Lib.numDigits_eq u hu1 hu64;split at this<;>omega
 have hb3:Lib.nDigits u<=24:=by omega
 have hal:Tryz.prog.arrayLen 323=24:=by simp[Program.arrayLen,Tryz.underlying323]
 have hsl1:∀W,(Instr.sliceAt 323 (.pointer (some ⟨w.heap.size,0,none⟩)) none (some (.int .i64 (Lib.nDigits u:Int))) none).run Tryz.prog W=.ok (.slice (some ⟨w.heap.size,0,none⟩) (Lib.nDigits u) 24) W:=fun W=>by
  rw[run_sliceAt_array_h W 323 ⟨w.heap.size,0,none⟩ (by simp[Program.arrayLen,Program.elem,Tryz.underlying323]) .i64 (Lib.nDigits u:Int) (by omega) (by rw[hal];omega)]
  go_simp
 have hH0:=holds_zero0 w 323 (Lib.nDigits u) (by omega)
 have hfmt:=Tryz.internal_strconv_formatBase10 w.heap.size 0 24 u (Array.replicate (Lib.nDigits u) 0) (w.alloc (.cells Lib.zeros24 323)) hH0 (by rw[Array.size_replicate];exact Lib.lt_pow_nDigits u) hu64 (by rw[Array.size_replicate];omega)
 rw[Array.size_replicate]at hfmt
 have HH0:=zY hH0
 have HT:=zY hT
 clear hH0 hal hT
 go_enter Tryz.func303,Tryz.ntmps303
 go_wp2_with fail
 refine(Tryz.internal_strconv_numDigits u hu1 hu64 _ (Lib.tabIs_alloc HT.out.pow _)).mono ?_
 rintro e w' ⟨rfl,rfl⟩
 go_wp2_with fail
 refine hfmt.mono ?_
 rintro e w' ⟨rfl,k,v',dk,rfl,hF⟩
 have hcv:(convert 117 9 (.slice (some ⟨w.heap.size,0,none⟩) (Lib.nDigits u) 24)).run Tryz.prog ((Sort.putRow (fun(b:UInt8)=>Value.int .u8 (b.toNat:Int)) (w.alloc (.cells Lib.zeros24 323)) w.heap.size 0 dk).drewN k)=.ok (.string ⟨(Lib.decDigits u).toArray⟩) ((Sort.putRow (fun(b:UInt8)=>Value.int .u8 (b.toNat:Int)) (w.alloc (.cells Lib.zeros24 323)) w.heap.size 0 dk).drewN k):=by
  have h:=run_convert_bytes_back (P:=Tryz.prog) ((Sort.putRow (fun(b:UInt8)=>Value.int .u8 (b.toNat:Int)) (w.alloc (.cells Lib.zeros24 323)) w.heap.size 0 dk).drewN k) 117 9 5 ⟨w.heap.size,0,none⟩ 24 (Lib.decDigits u) Tryz.underlying117 Tryz.underlying5 Tryz.underlying9 (fun j hj=>by
   rw[Lib.row_is_numeral hF j hj,Lib.add_plain,World.cell?_drewN]
   exact Sort.cell?_putRow (fun(b:UInt8)=>Value.int .u8 (b.toNat:Int)) _ w.heap.size 0 _ dk HH0.out (by rw[hF.size,Array.size_replicate]) j (by rw[hF.size];rw[Lib.decDigits_length]at hj;exact hj))
  rw[Lib.decDigits_length]at h
  exact h
 have HBz:=zY (below_row w (.cells Lib.zeros24 323) dk k)
 clear hF
 go_wp2
 go_ret
 exact⟨rfl,HBz.out⟩
}
theorem fmtU_any (w:World) (u:Nat) (hu64:u<18446744073709551616) (hT:Tab w):Calls Tryz.prog 245 #[.int .u64 (u:Int),.int .i64 10] w fun e w'=>e=.returned (.string (strB (digD u)))/\Below w.heap.size w w':=by
 have H:=zY (ifmtU_any w u hu64 hT)
 clear hT
 go_enter Tryz.func245,Tryz.ntmps245
 go_wp2_with fail
 refine H.out.mono ?_
 rintro e w' ⟨rfl,hb⟩
 have HB:=zY hb
 clear hb
 go_wp2
 go_ret
 exact⟨rfl,HB.out⟩
def padL (n v:Nat):List Nat:=List.replicate (n-(digD v).length) 48++digD v
def digF (g:Nat):Value:=.func (.func 244) #[] #[.pointer (some ⟨g,0,none⟩)]
theorem pdigits_any (w:World) (n:Int):Calls Tryz.prog 166 #[.int .i64 n] w fun e w'=>e=.returned (.tuple #[digF w.heap.size,.func (.func 246) #[] #[]])/\w.alloc (.cells #[.int .i64 n] 3)=w':=by
 go_enter Tryz.func166,Tryz.ntmps166
 go_wp2
 go_ret2
 exact⟨rfl,rfl⟩
theorem pdig1_any (w:World) (g n v:Nat) (hg:w.cell? ⟨g,0,none⟩=some (.int .i64 (n:Int))) (hn:n<=100) (hv:v<18446744073709551616) (hT:Tab w):Calls Tryz.prog 244 #[.int .u64 (v:Int),.pointer (some ⟨g,0,none⟩)] w fun e w'=>e=.returned (.string (strB (padL n v)))/\Below w.heap.size w w':=by
 have H1:=zY (fmtU_any w v hv hT)
 have Hg:=zY hg
 obtain⟨z,hz⟩:=zNm (n-(digD v).length)
 have hl:=digD_len20 (u:=v) (by omega)
 have hsz:(strB (digD v)).size=(digD v).length:=strB_size _
 have hmx:max (0:Int) ((n:Int)-(strB (digD v)).size)=z:=by rw[hsz];omega
 have hw1:IntKind.i64.wrap ((n:Int)-(strB (digD v)).size)=(n:Int)-(strB (digD v)).size:=IntWalk.i64_in _ (by rw[hsz];omega)
 have H2:Hid (∀W:World,Calls Tryz.prog 55 #[.string ⟨#[48]⟩,.int .i64 (z:Int)] W fun e w'=>e=.returned (.string (strB (List.replicate z 48)))/\Below W.heap.size W w'):=zY (fun W=>repeat_any W 48 z (by omega))
 have Hc:Hid (strB (List.replicate z 48)++strB (digD v)=strB (padL n v)):=zY (by rw[padL,hz];exact strB_cat _ _)
 obtain⟨Z,hZ⟩:=zNm (strB (List.replicate z 48))
 have hZz:Z.size=z:=by rw[<-hZ,strB_size,List.length_replicate]
 rw[hZ]at H2 Hc
 have hcc:¬9223372036854775807<Z.size+(strB (digD v)).size:=by omega
 generalize strB (digD v)=Q at *
 clear hg hT hz hl hsz hZ hZz
 go_enter Tryz.func244,Tryz.ntmps244
 go_wp2_with fail
 refine H1.out.mono ?_
 rintro e w1 ⟨rfl,hb1⟩
 have g1:=cell_below hb1 Hg.out
 have HB1:=zY hb1
 clear hb1
 go_upto_region 2 with fail
 go_wp2_with fail
 refine(H2.out _).mono ?_
 rintro e w2 ⟨rfl,hb2⟩
 have HB2:=zYt HB1 hb2
 clear hb2
 go_wp2
 go_ret
 exact⟨by rw[Hc.out]<;>rfl,HB2.out⟩
def EntCells (cs:List Value):Prop:=∃(k sz:Int) (p t d:ByteArray) (A B:Option Addr) (n m c e:Nat),cs=[.int .i64 k,.string p,.slice A n c,.string t,.int .i64 sz,.string d,.slice B m e]
def RetEB (e:Ending):Prop:=∃cs b,EntCells cs/\e=.returned (.tuple #[.agg cs.toArray,.bool b])
theorem get37_any (w:World) (v:Value) (l:List Ent) (hv:SeqAt entS w v l) (s:ByteArray):Calls Tryz.prog 155 #[v,.string s] w fun e w'=>RetEB e/\Below w.heap.size w w':=by
 have Hv:=zY hv
 obtain⟨A,c,rfl,h1,h2⟩:=hv.slice
 clear hv
 have hZ:=Blk.new w 182 [.int .i64 0,.string ⟨#[]⟩,.slice none 0 0,.string ⟨#[]⟩,.int .i64 0,.string ⟨#[]⟩,.slice none 0 0]
 change Blk (w.alloc (.cells #[.int .i64 0,.string ⟨#[]⟩,.slice none 0 0,.string ⟨#[]⟩,.int .i64 0,.string ⟨#[]⟩,.slice none 0 0] 182)) _ _ _ at hZ
 have HZ0:=zY hZ
 have HB0:=zY (zBl w (.cells #[.int .i64 0,.string ⟨#[]⟩,.slice none 0 0,.string ⟨#[]⟩,.int .i64 0,.string ⟨#[]⟩,.slice none 0 0] 182))
 clear hZ
 go_enter Tryz.func155,Tryz.ntmps155
 go_upto_region 1 with fail
 generalize w.alloc (.cells #[.int .i64 0,.string ⟨#[]⟩,.slice none 0 0,.string ⟨#[]⟩,.int .i64 0,.string ⟨#[]⟩,.slice none 0 0] 182)=wa at *
 go_wp2
 go_loopw [7,10] (fun _ x wr=>∃i:Nat,i<=l.length/\x=.int .i64 (i:Int)/\Below wa.heap.size wa wr) (fun _ x _=>l.length-(intOf x).toNat)
 case atStart=>exact⟨0,by omega,rfl,Below.refl _ _⟩
 case round=>
  obtain⟨i,hi,rfl,hB⟩:=hrel
  have HB:=zY hB
  have HZ:=zY (HZ0.out.kept hB)
  clear hB
  by_cases h:i<l.length
  {
  have hiI:(i:Int)<l.length:=by omega
  obtain⟨x,hx⟩:∃x,l[i]?=some x:=⟨_,List.getElem?_eq_getElem h⟩
  obtain⟨_,_,e9,_,_,h4⟩:=Hv.out.below (HB0.out.trans (HB.out.mono HB0.out.size))
  cases e9
  obtain⟨b,o,cs,rfl,⟨va,vx,rfl,ra,rx⟩,hc⟩:=h4 i x hx
  obtain⟨Aa,ca,rfl,_,_⟩:=ra.slice
  obtain⟨Ax,cx,rfl,_,_⟩:=rx.slice
  obtain⟨k,p,attrs,t,sz,d,exts⟩:=x
  dsimp only at hc
  generalize attrs.length=na at *
  generalize exts.length=nx at *
  have e0:wr.cell? ⟨b,o+i*7,none⟩=some (.int .i64 k):=hc 0 _ rfl
  have e1:wr.cell? ⟨b,o+i*7+1,none⟩=some (.string p):=hc 1 _ rfl
  have e2:wr.cell? ⟨b,o+i*7+2,none⟩=some (.slice Aa na ca):=hc 2 _ rfl
  have e3:wr.cell? ⟨b,o+i*7+3,none⟩=some (.string t):=hc 3 _ rfl
  have e4:wr.cell? ⟨b,o+i*7+4,none⟩=some (.int .i64 sz):=hc 4 _ rfl
  have e5:wr.cell? ⟨b,o+i*7+5,none⟩=some (.string d):=hc 5 _ rfl
  have e6:wr.cell? ⟨b,o+i*7+6,none⟩=some (.slice Ax nx cx):=hc 6 _ rfl
  clear hc h4 hx ra rx
  have hF:=Blk.new wr 182 [.int .i64 k,.string p,.slice Aa na ca,.string t,.int .i64 sz,.string d,.slice Ax nx cx]
  change Blk (wr.alloc (.cells #[.int .i64 k,.string p,.slice Aa na ca,.string t,.int .i64 sz,.string d,.slice Ax nx cx] 182)) _ _ _ at hF
  have HBz:=zY (HB.out.alloc HB.out.size (.cells #[.int .i64 k,.string p,.slice Aa na ca,.string t,.int .i64 sz,.string d,.slice Ax nx cx] 182))
  have HZz:=zY (HZ.out.alloc (.cells #[.int .i64 k,.string p,.slice Aa na ca,.string t,.int .i64 sz,.string d,.slice Ax nx cx] 182))
  go_upto_region 4 with fail
  clear e0 e1 e2 e3 e4 e5 e6
  generalize wr.alloc (.cells #[.int .i64 k,.string p,.slice Aa na ca,.string t,.int .i64 sz,.string d,.slice Ax nx cx] 182)=wz at *
  have hg1:=hF.c 1
  have HFz:=zY hF
  clear hF
  by_cases hps:p=s
  {
  subst hps
  go_upto_region 5 with fail
  refine wp_region_lit ?_
  refine wpList_load_row rfl 182 (.tmp 7) rfl wr.heap.size rfl 182 _ (0,0) _ HFz.out Tryz.underlying182 rfl (by kernel_rfl) ?_
  refine wpList_store_row rfl 182 (.tmp 4) (.tmp 18) rfl w.heap.size _ rfl rfl 182 _ HZz.out (by kernel_rfl) rfl (by simp[Value.oneCell']) ?_
  clear hg1
  go_wp2_with fail
  refine bodyPost_ret (results_row_tmp rfl _ _ w.heap.size 182 _ (0,0) _ rfl (setRow_heap _ _ _ _ _ _ HZz.out) Tryz.underlying182 rfl (by kernel_rfl)) rfl ?_
  exact⟨⟨_,true,⟨k,sz,p,t,d,Aa,Ax,na,nx,ca,cx,rfl⟩,rfl⟩,below_setRow (HB0.out.trans (HBz.out.mono HB0.out.size)) (Nat.le_refl _) _⟩}
  {
  have b3:¬p.toList=s.toList:=fun e=>hps (by rw[ByteArray.toList_eq,ByteArray.toList_eq]at e;exact ByteArray.ext (Array.toList_inj.1 e))
  have b4:(p.toList==s.toList)=false:=by rw[beq_eq_false_iff_ne];exact b3
  clear hps
  go_wp2
  go_roundw
  case rel=>exact⟨i+1,by omega,by go_num,HBz.out⟩
  case measure=>simp[intOf];omega}}
  {
  have hiI:¬(i:Int)<l.length:=by omega
  have hbt:(Tryz.prog.built 182 [])=some #[.int .i64 0,.string ⟨#[]⟩,.slice none 0 0,.string ⟨#[]⟩,.int .i64 0,.string ⟨#[]⟩,.slice none 0 0]:=by kernel_rfl
  have hmap:∀f:Nat×Operand->Nat×Value,(Array.map f #[]).toList=[]:=fun f=>by simp
  go_upto_region 7 with fail
  refine wp_region_lit ?_
  refine wpList_build rfl 182 #[] rfl (by rw[hmap,hbt];rfl) ?_
  rw[hmap,hbt]
  refine wpList_store_row rfl 182 (.tmp 4) (.tmp 20) rfl w.heap.size #[.int .i64 0,.string ⟨#[]⟩,.slice none 0 0,.string ⟨#[]⟩,.int .i64 0,.string ⟨#[]⟩,.slice none 0 0] rfl rfl 182 _ HZ.out (by kernel_rfl) rfl (by simp[Value.oneCell']) ?_
  go_wp2_with fail
  refine bodyPost_ret (results_row_tmp rfl _ _ w.heap.size 182 _ (0,0) _ rfl (setRow_heap _ _ _ _ _ _ HZ.out) Tryz.underlying182 rfl (by kernel_rfl)) rfl ?_
  exact⟨⟨[.int .i64 0,.string ⟨#[]⟩,.slice none 0 0,.string ⟨#[]⟩,.int .i64 0,.string ⟨#[]⟩,.slice none 0 0],false,⟨0,0,_,_,_,none,none,0,0,0,0,rfl⟩,rfl⟩,below_setRow (HB0.out.trans (HB.out.mono HB0.out.size)) (Nat.le_refl _) _⟩}
theorem dir37_any (w:World) (v:Value) (l:List Ent) (hv:SeqAt entS w v l) (s:ByteArray):Calls Tryz.prog 228 #[v,.string s] w fun e w'=>RetI e/\Below w.heap.size w w':=by
 have HG:=zY (get37_any w v l hv s)
 obtain⟨A,c,rfl,h1,h2⟩:=hv.slice
 clear hv
 by_cases h0:s.size=0
 {
 have f0:s.toList.isEmpty=true:=by
  rw[show s=⟨#[]⟩ by apply ByteArray.ext;exact Array.eq_empty_of_size_eq_zero h0]
  exact isEmptyV0
 clear h0
 go_enter Tryz.func228,Tryz.ntmps228
 go_wp2_with fail
 go_ret
 exact⟨RetI.of 0,Below.refl _ _⟩}
 {
 have f0:s.toList.isEmpty=false:=isEmptyV h0
 clear h0
 go_enter Tryz.func228,Tryz.ntmps228
 go_wp2_with fail
 refine HG.out.mono ?_
 rintro e1 w1 ⟨⟨cs,b,⟨k,sz,p,t,d,Aa,Ax,na,nx,ca,cx,rfl⟩,rfl⟩,hb⟩
 have HB:=zY hb
 have hF:=Blk.new w1 182 [.int .i64 k,.string p,.slice Aa na ca,.string t,.int .i64 sz,.string d,.slice Ax nx cx]
 change Blk (w1.alloc (.cells #[.int .i64 k,.string p,.slice Aa na ca,.string t,.int .i64 sz,.string d,.slice Ax nx cx] 182)) _ _ _ at hF
 have HBz:=zY (HB.out.alloc HB.out.size (.cells #[.int .i64 k,.string p,.slice Aa na ca,.string t,.int .i64 sz,.string d,.slice Ax nx cx] 182))
 have c0:=hF.c 0
 clear hb hF HG HB
 cases b with
 |false=>
  go_wp2_with fail
  go_ret
  exact⟨RetI.of 9,HBz.out⟩
 |true=>
  by_cases hk:k=2
  {
  subst hk
  go_wp2_with fail
  go_ret
  exact⟨RetI.of 0,HBz.out⟩}
  {
  have f1:(k != 2)=true:=by rw[bne_iff_ne];exact hk
  clear hk
  go_wp2_with fail
  go_ret
  exact⟨RetI.of 10,HBz.out⟩}}
end
section
open Go.ChangeShapes Go.WideShapes Go.ChangeAt Go.RowKit Go.Deep
theorem cellsBat:Tryz.prog.cellsOf 88=2:=by kernel_rfl
theorem cellsCha:Tryz.prog.cellsOf 91=5:=by kernel_rfl
theorem cellsAtr:Tryz.prog.cellsOf 93=2:=by kernel_rfl
theorem cellsAtrs:Tryz.prog.cellsOf 89=1:=by kernel_rfl
theorem cellsChas:Tryz.prog.cellsOf 86=1:=by kernel_rfl
instance:Inhabited Atr:=⟨⟨⟨#[]⟩,⟨#[]⟩⟩⟩
instance:Inhabited Cha:=⟨⟨0,⟨#[]⟩,[],⟨#[]⟩,⟨#[]⟩⟩⟩
instance:Inhabited Bat:=⟨⟨0,[]⟩⟩
theorem list5 {α:Type} {l:List α} (h:l.length=5):∃c0 c1 c2 c3 c4,l=[c0,c1,c2,c3,c4]:=by
 match l,h with
 |[c0,c1,c2,c3,c4],_=>exact⟨c0,c1,c2,c3,c4,rfl⟩
theorem list2 {α:Type} {l:List α} (h:l.length=2):∃c0 c1,l=[c0,c1]:=by
 match l,h with
 |[c0,c1],_=>exact⟨c0,c1,rfl⟩
section
variable {H:Type} {enc:TypeId×Value->H} {w:World}
theorem seq_of {α:Type} [Inhabited α] {ρ:Shape α} {TS T:TypeId} (hu:Tryz.prog.underlying TS=some (.slice T)) (hc:Tryz.prog.cellsOf T=ρ.n) (hn:0<ρ.n)
  (hcell:∀{fuel:Nat} {cs:List Value} {y:DataW H×List MemPlace},cs.length=ρ.n->DataW.trod enc Tryz.prog w 0 (fun _=>true) true fuel T cs=some y->∃x,ρ.R w cs x)
  {fuel:Nat} {c:Value} {y:DataW H×List MemPlace} (hf:DataW.trod enc Tryz.prog w 0 (fun _=>true) true fuel TS [c]=some y):∃xs,SeqAt ρ w c xs:=by
 rcases open_slice hu hf with⟨hcs,_⟩|⟨a,len,cap,m,n,D,Pl,hcs,_,hl,hm,hmm,_,hx⟩
 {
 simp only[List.cons.injEq,and_true]at hcs
 subst hcs
 exact⟨[],SeqAt.nil _⟩}
 {
 simp only[List.cons.injEq,and_true]at hcs
 have hmc:m=cap:=by simpa using hmm
 rw[hc]at hx
 obtain⟨F,hF⟩:=choose_lt (α:=α) (n:=len) (p:=fun i x=>∃cs,ρ.R w cs x/\∀j u,cs[j]?=some u->w.cell? ((a.add (i*ρ.n)).add j)=some u) fun i hi=>by
  obtain⟨cs',hcc,ht⟩:=hx i (by omega)
  obtain⟨_,hcl,hat⟩:=World.cells?_some hcc
  obtain⟨x,hr⟩:=hcell hcl ht
  exact⟨x,cs',hr,fun j u hu=>by
   have hj:j<ρ.n:=by
    have:=(List.getElem?_eq_some_iff.1 hu).1
    rwa [hcl]at this
   rw[hat j hj,hu]⟩
 obtain⟨b,o,spt⟩:=a
 refine⟨(List.range len).map F,some ⟨b,o,spt⟩,cap,by simpa using hcs,by simpa using hl,by unfold maxLen at hm;omega,fun i x hi=>?_⟩
 rw[List.getElem?_map]at hi
 obtain⟨j,hj,rfl⟩:=Option.map_eq_some_iff.1 hi
 obtain⟨h1,h2⟩:=List.getElem?_eq_some_iff.1 hj
 simp at h1 h2
 subst h2
 obtain⟨cs,hr,hcs2⟩:=hF i h1
 have hspot:spt=none:=by
  obtain⟨cs0,hr0,hc0⟩:=hF 0 (by omega)
  have h0:0<cs0.length:=by rw[ρ.len hr0];exact hn
  have h3:=hc0 0 _ (List.getElem?_eq_getElem h0)
  simpa [Addr.add]using World.cell?_spot h3
 subst hspot
 exact⟨b,o,cs,rfl,hr,fun j u hu=>by
  have h:=hcs2 j u hu
  rwa [Addr.add_lit,Addr.add_lit]at h⟩
}
theorem atr_cells {fuel:Nat} {cs:List Value} {y:DataW H×List MemPlace} (hl:cs.length=2) (hf:DataW.trod enc Tryz.prog w 0 (fun _=>true) true fuel 93 cs=some y):∃x:Atr,atrS.R w cs x:=by
 obtain⟨c0,c1,rfl⟩:=list2 hl
 obtain⟨xs,n,_,_,_,hlen,hfs⟩:=DataW.trod_struct Tryz.underlying93 hf
 obtain⟨y0,y1,rfl⟩:=list2 (l:=xs) hlen
 have f0:DataW.trod enc Tryz.prog w 0 (fun _=>true) true n 9 (([c0,c1].drop 0).take (Tryz.prog.cellsOf 9))=some y0:=hfs 0 _ rfl
 have f1:DataW.trod enc Tryz.prog w 0 (fun _=>true) true n 9 (([c0,c1].drop 1).take (Tryz.prog.cellsOf 9))=some y1:=hfs 1 _ rfl
 rw[cellsS]at f0 f1
 replace f0:DataW.trod enc Tryz.prog w 0 (fun _=>true) true n 9 [c0]=some y0:=f0
 replace f1:DataW.trod enc Tryz.prog w 0 (fun _=>true) true n 9 [c1]=some y1:=f1
 obtain⟨k,e0,_,_⟩:=DataW.trod_string Tryz.underlying9 f0
 obtain⟨v,e1,_,_⟩:=DataW.trod_string Tryz.underlying9 f1
 have h0:c0=.string k:=by simpa [Value.cells]using e0
 have h1:c1=.string v:=by simpa [Value.cells]using e1
 subst h0 h1
 exact⟨⟨k,v⟩,rfl⟩
theorem cha_cells {fuel:Nat} {cs:List Value} {y:DataW H×List MemPlace} (hl:cs.length=5) (hf:DataW.trod enc Tryz.prog w 0 (fun _=>true) true fuel 91 cs=some y):∃x:Cha,chaS.R w cs x:=by
 obtain⟨c0,c1,c2,c3,c4,rfl⟩:=list5 hl
 obtain⟨xs,n,_,_,_,hlen,hfs⟩:=DataW.trod_struct Tryz.underlying91 hf
 obtain⟨y0,y1,y2,y3,y4,rfl⟩:=list5 (l:=xs) hlen
 have f0:DataW.trod enc Tryz.prog w 0 (fun _=>true) true n 3 (([c0,c1,c2,c3,c4].drop 0).take (Tryz.prog.cellsOf 3))=some y0:=hfs 0 _ rfl
 have f1:DataW.trod enc Tryz.prog w 0 (fun _=>true) true n 9 (([c0,c1,c2,c3,c4].drop 1).take (Tryz.prog.cellsOf 9))=some y1:=hfs 1 _ rfl
 have f2:DataW.trod enc Tryz.prog w 0 (fun _=>true) true n 89 (([c0,c1,c2,c3,c4].drop 2).take (Tryz.prog.cellsOf 89))=some y2:=hfs 2 _ rfl
 have f3:DataW.trod enc Tryz.prog w 0 (fun _=>true) true n 9 (([c0,c1,c2,c3,c4].drop 3).take (Tryz.prog.cellsOf 9))=some y3:=hfs 3 _ rfl
 have f4:DataW.trod enc Tryz.prog w 0 (fun _=>true) true n 9 (([c0,c1,c2,c3,c4].drop 4).take (Tryz.prog.cellsOf 9))=some y4:=hfs 4 _ rfl
 rw[cellsI]at f0
 rw[cellsS]at f1 f3 f4
 rw[cellsAtrs]at f2
 replace f0:DataW.trod enc Tryz.prog w 0 (fun _=>true) true n 3 [c0]=some y0:=f0
 replace f1:DataW.trod enc Tryz.prog w 0 (fun _=>true) true n 9 [c1]=some y1:=f1
 replace f2:DataW.trod enc Tryz.prog w 0 (fun _=>true) true n 89 [c2]=some y2:=f2
 replace f3:DataW.trod enc Tryz.prog w 0 (fun _=>true) true n 9 [c3]=some y3:=f3
 replace f4:DataW.trod enc Tryz.prog w 0 (fun _=>true) true n 9 [c4]=some y4:=f4
 obtain⟨k0,e0,_,_⟩:=DataW.trod_int Tryz.underlying3 f0
 obtain⟨k1,e1,_,_⟩:=DataW.trod_string Tryz.underlying9 f1
 obtain⟨al,h2⟩:=seq_of (ρ:=atrS) Tryz.underlying89 cellsAtr (by decide) atr_cells f2
 obtain⟨k3,e3,_,_⟩:=DataW.trod_string Tryz.underlying9 f3
 obtain⟨k4,e4,_,_⟩:=DataW.trod_string Tryz.underlying9 f4
 have h0:c0=.int .i64 k0:=by simpa [Value.cells]using e0
 have h1:c1=.string k1:=by simpa [Value.cells]using e1
 have h3:c3=.string k3:=by simpa [Value.cells]using e3
 have h4:c4=.string k4:=by simpa [Value.cells]using e4
 subst h0 h1 h3 h4
 exact⟨⟨k0,k1,al,k3,k4⟩,c2,rfl,h2⟩
theorem bat_cells {fuel:Nat} {cs:List Value} {y:DataW H×List MemPlace} (hl:cs.length=2) (hf:DataW.trod enc Tryz.prog w 0 (fun _=>true) true fuel 88 cs=some y):∃x:Bat,batS.R w cs x:=by
 obtain⟨c0,c1,rfl⟩:=list2 hl
 obtain⟨xs,n,_,_,_,hlen,hfs⟩:=DataW.trod_struct Tryz.underlying88 hf
 obtain⟨y0,y1,rfl⟩:=list2 (l:=xs) hlen
 have f0:DataW.trod enc Tryz.prog w 0 (fun _=>true) true n 3 (([c0,c1].drop 0).take (Tryz.prog.cellsOf 3))=some y0:=hfs 0 _ rfl
 have f1:DataW.trod enc Tryz.prog w 0 (fun _=>true) true n 86 (([c0,c1].drop 1).take (Tryz.prog.cellsOf 86))=some y1:=hfs 1 _ rfl
 rw[cellsI]at f0
 rw[cellsChas]at f1
 replace f0:DataW.trod enc Tryz.prog w 0 (fun _=>true) true n 3 [c0]=some y0:=f0
 replace f1:DataW.trod enc Tryz.prog w 0 (fun _=>true) true n 86 [c1]=some y1:=f1
 obtain⟨k0,e0,_,_⟩:=DataW.trod_int Tryz.underlying3 f0
 obtain⟨cs',h1⟩:=seq_of (ρ:=chaS) Tryz.underlying86 cellsCha (by decide) cha_cells f1
 have h0:c0=.int .i64 k0:=by simpa [Value.cells]using e0
 subst h0
 exact⟨⟨k0,cs'⟩,c1,rfl,h1⟩
theorem open_bats {v:Value} {d:DataW H} {p:List MemPlace} {b0:Nat} (hv:Value.okWide Tryz.prog w .any b0 22 v) (h:DataW.Trod enc Tryz.prog w 0 (fun _=>true) true 22 v d p):∃l,SeqAt batS w v l:=by
 obtain⟨a0,len0,cap0,rfl⟩:=okWide_slice Tryz.underlying22 hv
 obtain⟨fuel,hf⟩:=h
 exact seq_of (ρ:=batS) Tryz.underlying22 cellsBat (by decide) bat_cells (by simpa [Value.cells]using hf)
theorem open_layout {v:Value} {d:DataW H} {p:List MemPlace} {b0:Nat} (hval:Value.okWide Tryz.prog w .any b0 24 v) (hd:DataW.Trod enc Tryz.prog w 0 (fun _=>true) true 24 v d p):
  ∃a b:Int,v=.agg #[.int .i64 a,.int .i64 b]:=by
 obtain⟨⟨cs⟩,rfl,hsz⟩:=okWide_struct Tryz.underlying24 hval
 rw[cellsL]at hsz
 obtain⟨c0,c1,rfl⟩:=list2 hsz
 obtain⟨fuel,hf⟩:=hd
 obtain⟨z0,z1,m,_,_,g0,g1⟩:=trod_struct2 Tryz.underlying24 hf
 replace g0:DataW.trod enc Tryz.prog w 0 (fun _=>true) true m 3 (([c0,c1].drop 0).take (Tryz.prog.cellsOf 3))=some z0:=g0
 replace g1:DataW.trod enc Tryz.prog w 0 (fun _=>true) true m 3 (([c0,c1].drop 1).take (Tryz.prog.cellsOf 3))=some z1:=g1
 rw[cellsI]at g0 g1
 replace g0:DataW.trod enc Tryz.prog w 0 (fun _=>true) true m 3 [c0]=some z0:=g0
 replace g1:DataW.trod enc Tryz.prog w 0 (fun _=>true) true m 3 [c1]=some z1:=g1
 obtain⟨k0,e0,_,_⟩:=DataW.trod_int Tryz.underlying3 g0
 obtain⟨k1,e1,_,_⟩:=DataW.trod_int Tryz.underlying3 g1
 have h0:c0=.int .i64 k0:=by simpa [Value.cells]using e0
 have h1:c1=.int .i64 k1:=by simpa [Value.cells]using e1
 subst h0 h1
 exact⟨k0,k1,rfl⟩
end
theorem tab_of {W : World} {L : List (String × DataW Unit)} (hL : laidMetH Tryz.prog L W) (hk : (L.filter fun x => x.1 == "internal/strconv.uint64pow10") = [("internal/strconv.uint64pow10", Lib.tabData .u64 Lib.pow10Tab)]) (hsh : W.ShapedOpen Tryz.prog) : Tab W := by
 have h1 := hL.filter fun x => x.1 == "internal/strconv.uint64pow10"
 rw[hk,MakeChecks.laidMetH_plain _ _ _ (by kernel_rfl)]at h1
 refine⟨?_,?_⟩
 ·exact Lib.tabIs_of_head (g:=0) (t:=356) (e:=211) (n:=20) (by kernel_rfl) (by kernel_rfl) Tryz.underlying356 Tryz.underlying211 (by kernel_rfl) (by kernel_rfl) h1
 {
 exact cell_of_shapedOpen_int (P:=Tryz.prog) (g:=1) (t:=3) (zero:= #[.int .i64 0]) hsh (of_decide_eq_true (by kernel_rfl)) (by kernel_rfl) rfl (by kernel_rfl) (by kernel_rfl) Tryz.underlying3
}
theorem returns_shaped {H:Type} {enc:TypeId×Value->H} {a:Assume} {C:Checked} {os:Os} {f:FuncId} {fn:Func} {s:ChangeSpec} {conds:List PathCond} {apart fresh handsOn again:Bool} {X:World->Array Value->Prop}
  (hX:∀(w w':World) (args:Array Value),w.heap=w'.heap->X w args->X w' args)
  (own:ownKnob C.prog.godebug=none) (started:os.Started) (noInit:C.prog.inits.idxOf? f=none) (hfn:C.prog.funcs[f]?=some fn)
  (witness:∃(w:World) (tape:Tape) (i:Input),w.os=os/\(w.forCall tape i).Shaped C.prog/\i.vars=[]/\Input.okWide C.prog (w.forCall tape i) .any w.heap.size f i /\
   ((s.pre enc C.prog fn conds apart (w.forCall tape i).memory i.args/\X (w.forCall tape i).memory i.args)/\sizedMet enc C.prog fn (OpenSpec.ofChange s) apart (w.forCall tape i).memory i.args)/\a.holds C.prog (lone (Frame.enter C.prog f i.args .normal) [] (w.forCall tape i)))
  (contract:∀(W:World) (base:Nat) (args:Array Value) (ds gs:List (DataW H)) (before:List MemPlace),
   (∀(j:Nat) t v,fn.params[j]?=some t->args[j]?=some v->Value.okWide C.prog W .any base t v) ->
   DataW.Whole enc C.prog fn.params.toList s.vars apart W args.toList ds gs before ->
   conds.all (PathCond.test C.prog ⟨fn.params.toList,ds,s.plain.varTypes C.prog,gs⟩)=true ->
   (DataW.weightsEach C.prog (fn.params.toList++s.plain.varTypes C.prog) (ds++gs)).all (· <= reachBytes)=true->X W args->W.ShapedOpen C.prog ->
   a.holds C.prog (lone (Frame.enter C.prog f args .normal) [] W) ->
   Calls C.prog f args W fun e W'=>∃v,e=.returned v/\s.post enc C.prog fn apart fresh handsOn again W args v W'):
  ReturnsInHanded a C os f .any (fun w args=>(s.pre enc C.prog fn conds apart w args/\X w args)/\sizedMet enc C.prog fn (OpenSpec.ofChange s) apart w args) (s.post enc C.prog fn apart fresh handsOn again):=by
 refine returnsInHanded_of_calls own started noInit witness ?_
 intro w tape i _ hsh _ hok hpre hholds
 obtain⟨_,_,_,fn',hfn',_,_,_,_,hval⟩:=hok
 have e:fn'=fn:=Option.some.inj (hfn'.symm.trans hfn)
 subst e
 obtain⟨⟨⟨ds,gs,before,hw,hc⟩,hx⟩,hz⟩:=hpre
 have hw':=DataW.Whole.of_heap (w':=w.forCall tape i) (by rfl) hw
 refine(contract (w.forCall tape i) w.heap.size i.args ds gs before hval hw' hc (hz.weights hw) (hX _ _ _ (by rfl) hx) hsh hholds).mono fun e W' ⟨v,he,hp⟩=>?_
 subst he
 exact ChangeSpec.post_blind hp
end
end Go.Proofs.YthgenkkkapilhaaGreatDoor
