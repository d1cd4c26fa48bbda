/-
  Joined: VqD VqE VoS VoT VpN.
-/
import Derived.Test.YthgenkkkapilhaaGreatDoorVFk13
import Derived.Test.YthgenkkkapilhaaGreatDoorVFk14
set_option linter.all false
set_option maxRecDepth 100000
set_option maxHeartbeats 64000000
namespace Go.Proofs.YthgenkkkapilhaaGreatDoor
section
open Go.RowKit
theorem quad_m0 (f:Nat×Operand->Nat×Value):(Array.map f #[(0,.const (.int .i64 0)),(1,.const (.int .i64 4)),(2,.const (.int .i64 8)),(3,.const (.int .i64 12))]).toList=[f (0,.const (.int .i64 0)),f (1,.const (.int .i64 4)),f (2,.const (.int .i64 8)),f (3,.const (.int .i64 12))]:=by simp
theorem quad_b0:Tryz.prog.built 273 [(0,.int .i64 0),(1,.int .i64 4),(2,.int .i64 8),(3,.int .i64 12)]=some #[.int .i64 0,.int .i64 4,.int .i64 8,.int .i64 12]:=by kernel_rfl
theorem quad_m1 (f:Nat×Operand->Nat×Value):(Array.map f #[(0,.const (.int .i64 1)),(1,.const (.int .i64 5)),(2,.const (.int .i64 9)),(3,.const (.int .i64 13))]).toList=[f (0,.const (.int .i64 1)),f (1,.const (.int .i64 5)),f (2,.const (.int .i64 9)),f (3,.const (.int .i64 13))]:=by simp
theorem quad_b1:Tryz.prog.built 273 [(0,.int .i64 1),(1,.int .i64 5),(2,.int .i64 9),(3,.int .i64 13)]=some #[.int .i64 1,.int .i64 5,.int .i64 9,.int .i64 13]:=by kernel_rfl
theorem quad_m2 (f:Nat×Operand->Nat×Value):(Array.map f #[(0,.const (.int .i64 2)),(1,.const (.int .i64 6)),(2,.const (.int .i64 10)),(3,.const (.int .i64 14))]).toList=[f (0,.const (.int .i64 2)),f (1,.const (.int .i64 6)),f (2,.const (.int .i64 10)),f (3,.const (.int .i64 14))]:=by simp
theorem quad_b2:Tryz.prog.built 273 [(0,.int .i64 2),(1,.int .i64 6),(2,.int .i64 10),(3,.int .i64 14)]=some #[.int .i64 2,.int .i64 6,.int .i64 10,.int .i64 14]:=by kernel_rfl
theorem quad_m3 (f:Nat×Operand->Nat×Value):(Array.map f #[(0,.const (.int .i64 3)),(1,.const (.int .i64 7)),(2,.const (.int .i64 11)),(3,.const (.int .i64 15))]).toList=[f (0,.const (.int .i64 3)),f (1,.const (.int .i64 7)),f (2,.const (.int .i64 11)),f (3,.const (.int .i64 15))]:=by simp
theorem quad_b3:Tryz.prog.built 273 [(0,.int .i64 3),(1,.int .i64 7),(2,.int .i64 11),(3,.int .i64 15)]=some #[.int .i64 3,.int .i64 7,.int .i64 11,.int .i64 15]:=by kernel_rfl
theorem quad_m4 (f:Nat×Operand->Nat×Value):(Array.map f #[(0,.const (.int .i64 0)),(1,.const (.int .i64 5)),(2,.const (.int .i64 10)),(3,.const (.int .i64 15))]).toList=[f (0,.const (.int .i64 0)),f (1,.const (.int .i64 5)),f (2,.const (.int .i64 10)),f (3,.const (.int .i64 15))]:=by simp
theorem quad_b4:Tryz.prog.built 273 [(0,.int .i64 0),(1,.int .i64 5),(2,.int .i64 10),(3,.int .i64 15)]=some #[.int .i64 0,.int .i64 5,.int .i64 10,.int .i64 15]:=by kernel_rfl
theorem quad_m5 (f:Nat×Operand->Nat×Value):(Array.map f #[(0,.const (.int .i64 1)),(1,.const (.int .i64 6)),(2,.const (.int .i64 11)),(3,.const (.int .i64 12))]).toList=[f (0,.const (.int .i64 1)),f (1,.const (.int .i64 6)),f (2,.const (.int .i64 11)),f (3,.const (.int .i64 12))]:=by simp
theorem quad_b5:Tryz.prog.built 273 [(0,.int .i64 1),(1,.int .i64 6),(2,.int .i64 11),(3,.int .i64 12)]=some #[.int .i64 1,.int .i64 6,.int .i64 11,.int .i64 12]:=by kernel_rfl
theorem quad_m6 (f:Nat×Operand->Nat×Value):(Array.map f #[(0,.const (.int .i64 2)),(1,.const (.int .i64 7)),(2,.const (.int .i64 8)),(3,.const (.int .i64 13))]).toList=[f (0,.const (.int .i64 2)),f (1,.const (.int .i64 7)),f (2,.const (.int .i64 8)),f (3,.const (.int .i64 13))]:=by simp
theorem quad_b6:Tryz.prog.built 273 [(0,.int .i64 2),(1,.int .i64 7),(2,.int .i64 8),(3,.int .i64 13)]=some #[.int .i64 2,.int .i64 7,.int .i64 8,.int .i64 13]:=by kernel_rfl
theorem quad_m7 (f:Nat×Operand->Nat×Value):(Array.map f #[(0,.const (.int .i64 3)),(1,.const (.int .i64 4)),(2,.const (.int .i64 9)),(3,.const (.int .i64 14))]).toList=[f (0,.const (.int .i64 3)),f (1,.const (.int .i64 4)),f (2,.const (.int .i64 9)),f (3,.const (.int .i64 14))]:=by simp
theorem quad_b7:Tryz.prog.built 273 [(0,.int .i64 3),(1,.int .i64 4),(2,.int .i64 9),(3,.int .i64 14)]=some #[.int .i64 3,.int .i64 4,.int .i64 9,.int .i64 14]:=by kernel_rfl
theorem quad_m (f:Nat×Operand->Nat×Value):(Array.map f #[(0,.tmp 1),(1,.tmp 2),(2,.tmp 3),(3,.tmp 4),(4,.tmp 5),(5,.tmp 6),(6,.tmp 7),(7,.tmp 8)]).toList=[f (0,.tmp 1),f (1,.tmp 2),f (2,.tmp 3),f (3,.tmp 4),f (4,.tmp 5),f (5,.tmp 6),f (6,.tmp 7),f (7,.tmp 8)]:=by simp
theorem quad_b:Tryz.prog.built 274 [(0,.agg #[.int .i64 0,.int .i64 4,.int .i64 8,.int .i64 12]),(1,.agg #[.int .i64 1,.int .i64 5,.int .i64 9,.int .i64 13]),(2,.agg #[.int .i64 2,.int .i64 6,.int .i64 10,.int .i64 14]),(3,.agg #[.int .i64 3,.int .i64 7,.int .i64 11,.int .i64 15]),(4,.agg #[.int .i64 0,.int .i64 5,.int .i64 10,.int .i64 15]),(5,.agg #[.int .i64 1,.int .i64 6,.int .i64 11,.int .i64 12]),(6,.agg #[.int .i64 2,.int .i64 7,.int .i64 8,.int .i64 13]),(7,.agg #[.int .i64 3,.int .i64 4,.int .i64 9,.int .i64 14])]=some #[.int .i64 0,.int .i64 4,.int .i64 8,.int .i64 12,.int .i64 1,.int .i64 5,.int .i64 9,.int .i64 13,.int .i64 2,.int .i64 6,.int .i64 10,.int .i64 14,.int .i64 3,.int .i64 7,.int .i64 11,.int .i64 15,.int .i64 0,.int .i64 5,.int .i64 10,.int .i64 15,.int .i64 1,.int .i64 6,.int .i64 11,.int .i64 12,.int .i64 2,.int .i64 7,.int .i64 8,.int .i64 13,.int .i64 3,.int .i64 4,.int .i64 9,.int .i64 14]:=by kernel_rfl
theorem bquads_any (w:World):Calls Tryz.prog 202 #[] w fun e w'=>e=.returned (.agg #[.int .i64 0,.int .i64 4,.int .i64 8,.int .i64 12,.int .i64 1,.int .i64 5,.int .i64 9,.int .i64 13,.int .i64 2,.int .i64 6,.int .i64 10,.int .i64 14,.int .i64 3,.int .i64 7,.int .i64 11,.int .i64 15,.int .i64 0,.int .i64 5,.int .i64 10,.int .i64 15,.int .i64 1,.int .i64 6,.int .i64 11,.int .i64 12,.int .i64 2,.int .i64 7,.int .i64 8,.int .i64 13,.int .i64 3,.int .i64 4,.int .i64 9,.int .i64 14])/\Below w.heap.size w w':=by
 have HZ:Hid (Blk (w.alloc (.cells (List.replicate 32 (.int .i64 0)).toArray 274)) w.heap.size 274 (List.replicate 32 (.int .i64 0))):=zY (Blk.new _ _ _)
 have HB:=zY (zBl w (.cells (List.replicate 32 (.int .i64 0)).toArray 274))
 go_enter Tryz.func202,Tryz.ntmps202
 go_upto_region 1 with fail
 change Code.wp _ _ _ _ (w.alloc (.cells (List.replicate 32 (.int .i64 0)).toArray 274))
 generalize w.alloc (.cells (List.replicate 32 (.int .i64 0)).toArray 274)=wa at *
 refine wp_region_lit ?_
 refine wpList_build rfl 273 #[(0,.const (.int .i64 0)),(1,.const (.int .i64 4)),(2,.const (.int .i64 8)),(3,.const (.int .i64 12))] rfl (by rw[quad_m0];show (Tryz.prog.built 273 [(0,.int .i64 0),(1,.int .i64 4),(2,.int .i64 8),(3,.int .i64 12)]).isSome=true;rw[quad_b0];rfl) ?_
 rw[quad_m0]
 change wpList _ _ _ _ (Act.put _ _ (.agg ((Tryz.prog.built 273 [(0,.int .i64 0),(1,.int .i64 4),(2,.int .i64 8),(3,.int .i64 12)]).getD #[]))) _
 rw[quad_b0]
 simp only[Act.put,List.setIfInBounds_toArray,List.set_cons_zero,List.set_cons_succ,Option.getD_some]
 refine wpList_build rfl 273 #[(0,.const (.int .i64 1)),(1,.const (.int .i64 5)),(2,.const (.int .i64 9)),(3,.const (.int .i64 13))] rfl (by rw[quad_m1];show (Tryz.prog.built 273 [(0,.int .i64 1),(1,.int .i64 5),(2,.int .i64 9),(3,.int .i64 13)]).isSome=true;rw[quad_b1];rfl) ?_
 rw[quad_m1]
 change wpList _ _ _ _ (Act.put _ _ (.agg ((Tryz.prog.built 273 [(0,.int .i64 1),(1,.int .i64 5),(2,.int .i64 9),(3,.int .i64 13)]).getD #[]))) _
 rw[quad_b1]
 simp only[Act.put,List.setIfInBounds_toArray,List.set_cons_zero,List.set_cons_succ,Option.getD_some]
 refine wpList_build rfl 273 #[(0,.const (.int .i64 2)),(1,.const (.int .i64 6)),(2,.const (.int .i64 10)),(3,.const (.int .i64 14))] rfl (by rw[quad_m2];show (Tryz.prog.built 273 [(0,.int .i64 2),(1,.int .i64 6),(2,.int .i64 10),(3,.int .i64 14)]).isSome=true;rw[quad_b2];rfl) ?_
 rw[quad_m2]
 change wpList _ _ _ _ (Act.put _ _ (.agg ((Tryz.prog.built 273 [(0,.int .i64 2),(1,.int .i64 6),(2,.int .i64 10),(3,.int .i64 14)]).getD #[]))) _
 rw[quad_b2]
 simp only[Act.put,List.setIfInBounds_toArray,List.set_cons_zero,List.set_cons_succ,Option.getD_some]
 refine wpList_build rfl 273 #[(0,.const (.int .i64 3)),(1,.const (.int .i64 7)),(2,.const (.int .i64 11)),(3,.const (.int .i64 15))] rfl (by rw[quad_m3];show (Tryz.prog.built 273 [(0,.int .i64 3),(1,.int .i64 7),(2,.int .i64 11),(3,.int .i64 15)]).isSome=true;rw[quad_b3];rfl) ?_
 rw[quad_m3]
 change wpList _ _ _ _ (Act.put _ _ (.agg ((Tryz.prog.built 273 [(0,.int .i64 3),(1,.int .i64 7),(2,.int .i64 11),(3,.int .i64 15)]).getD #[]))) _
 rw[quad_b3]
 simp only[Act.put,List.setIfInBounds_toArray,List.set_cons_zero,List.set_cons_succ,Option.getD_some]
 refine wpList_build rfl 273 #[(0,.const (.int .i64 0)),(1,.const (.int .i64 5)),(2,.const (.int .i64 10)),(3,.const (.int .i64 15))] rfl (by rw[quad_m4];show (Tryz.prog.built 273 [(0,.int .i64 0),(1,.int .i64 5),(2,.int .i64 10),(3,.int .i64 15)]).isSome=true;rw[quad_b4];rfl) ?_
 rw[quad_m4]
 change wpList _ _ _ _ (Act.put _ _ (.agg ((Tryz.prog.built 273 [(0,.int .i64 0),(1,.int .i64 5),(2,.int .i64 10),(3,.int .i64 15)]).getD #[]))) _
 rw[quad_b4]
 simp only[Act.put,List.setIfInBounds_toArray,List.set_cons_zero,List.set_cons_succ,Option.getD_some]
 refine wpList_build rfl 273 #[(0,.const (.int .i64 1)),(1,.const (.int .i64 6)),(2,.const (.int .i64 11)),(3,.const (.int .i64 12))] rfl (by rw[quad_m5];show (Tryz.prog.built 273 [(0,.int .i64 1),(1,.int .i64 6),(2,.int .i64 11),(3,.int .i64 12)]).isSome=true;rw[quad_b5];rfl) ?_
 rw[quad_m5]
 change wpList _ _ _ _ (Act.put _ _ (.agg ((Tryz.prog.built 273 [(0,.int .i64 1),(1,.int .i64 6),(2,.int .i64 11),(3,.int .i64 12)]).getD #[]))) _
 rw[quad_b5]
 simp only[Act.put,List.setIfInBounds_toArray,List.set_cons_zero,List.set_cons_succ,Option.getD_some]
 refine wpList_build rfl 273 #[(0,.const (.int .i64 2)),(1,.const (.int .i64 7)),(2,.const (.int .i64 8)),(3,.const (.int .i64 13))] rfl (by rw[quad_m6];show (Tryz.prog.built 273 [(0,.int .i64 2),(1,.int .i64 7),(2,.int .i64 8),(3,.int .i64 13)]).isSome=true;rw[quad_b6];rfl) ?_
 rw[quad_m6]
 change wpList _ _ _ _ (Act.put _ _ (.agg ((Tryz.prog.built 273 [(0,.int .i64 2),(1,.int .i64 7),(2,.int .i64 8),(3,.int .i64 13)]).getD #[]))) _
 rw[quad_b6]
 simp only[Act.put,List.setIfInBounds_toArray,List.set_cons_zero,List.set_cons_succ,Option.getD_some]
 refine wpList_build rfl 273 #[(0,.const (.int .i64 3)),(1,.const (.int .i64 4)),(2,.const (.int .i64 9)),(3,.const (.int .i64 14))] rfl (by rw[quad_m7];show (Tryz.prog.built 273 [(0,.int .i64 3),(1,.int .i64 4),(2,.int .i64 9),(3,.int .i64 14)]).isSome=true;rw[quad_b7];rfl) ?_
 rw[quad_m7]
 change wpList _ _ _ _ (Act.put _ _ (.agg ((Tryz.prog.built 273 [(0,.int .i64 3),(1,.int .i64 4),(2,.int .i64 9),(3,.int .i64 14)]).getD #[]))) _
 rw[quad_b7]
 simp only[Act.put,List.setIfInBounds_toArray,List.set_cons_zero,List.set_cons_succ,Option.getD_some]
 refine wpList_build rfl 274 #[(0,.tmp 1),(1,.tmp 2),(2,.tmp 3),(3,.tmp 4),(4,.tmp 5),(5,.tmp 6),(6,.tmp 7),(7,.tmp 8)] rfl (by rw[quad_m];show (Tryz.prog.built 274 [(0,.agg #[.int .i64 0,.int .i64 4,.int .i64 8,.int .i64 12]),(1,.agg #[.int .i64 1,.int .i64 5,.int .i64 9,.int .i64 13]),(2,.agg #[.int .i64 2,.int .i64 6,.int .i64 10,.int .i64 14]),(3,.agg #[.int .i64 3,.int .i64 7,.int .i64 11,.int .i64 15]),(4,.agg #[.int .i64 0,.int .i64 5,.int .i64 10,.int .i64 15]),(5,.agg #[.int .i64 1,.int .i64 6,.int .i64 11,.int .i64 12]),(6,.agg #[.int .i64 2,.int .i64 7,.int .i64 8,.int .i64 13]),(7,.agg #[.int .i64 3,.int .i64 4,.int .i64 9,.int .i64 14])]).isSome=true;rw[quad_b];rfl) ?_
 rw[quad_m]
 change wpList _ _ _ _ (Act.put _ _ (.agg ((Tryz.prog.built 274 [(0,.agg #[.int .i64 0,.int .i64 4,.int .i64 8,.int .i64 12]),(1,.agg #[.int .i64 1,.int .i64 5,.int .i64 9,.int .i64 13]),(2,.agg #[.int .i64 2,.int .i64 6,.int .i64 10,.int .i64 14]),(3,.agg #[.int .i64 3,.int .i64 7,.int .i64 11,.int .i64 15]),(4,.agg #[.int .i64 0,.int .i64 5,.int .i64 10,.int .i64 15]),(5,.agg #[.int .i64 1,.int .i64 6,.int .i64 11,.int .i64 12]),(6,.agg #[.int .i64 2,.int .i64 7,.int .i64 8,.int .i64 13]),(7,.agg #[.int .i64 3,.int .i64 4,.int .i64 9,.int .i64 14])]).getD #[]))) _
 rw[quad_b]
 simp only[Act.put,List.setIfInBounds_toArray,List.set_cons_zero,List.set_cons_succ,Option.getD_some]
 refine wpList_store_row rfl 274 (.tmp 0) (.tmp 9) rfl w.heap.size #[.int .i64 0,.int .i64 4,.int .i64 8,.int .i64 12,.int .i64 1,.int .i64 5,.int .i64 9,.int .i64 13,.int .i64 2,.int .i64 6,.int .i64 10,.int .i64 14,.int .i64 3,.int .i64 7,.int .i64 11,.int .i64 15,.int .i64 0,.int .i64 5,.int .i64 10,.int .i64 15,.int .i64 1,.int .i64 6,.int .i64 11,.int .i64 12,.int .i64 2,.int .i64 7,.int .i64 8,.int .i64 13,.int .i64 3,.int .i64 4,.int .i64 9,.int .i64 14] rfl rfl 274 _ HZ.out (by kernel_rfl) (by simp) (by simp[Value.oneCell']) ?_
 go_wp2_with fail
 refine bodyPost_ret (results_cell_row rfl _ _ w.heap.size 274 _ (0,0) _ rfl (setRow_heap _ _ _ _ _ _ HZ.out) Tryz.underlying274 rfl (by kernel_rfl)) rfl ?_
 exact⟨rfl,below_setRow HB.out (Nat.le_refl _) _⟩
theorem run_index_p (w:World) (cs:Array Value) (r:Nat) (hr:r<10) {v:Value} (hv:cs[r]?=some v):(Instr.index 271 (.agg cs) (.int .i64 (r:Int))).run Tryz.prog w=.ok v w:=by
 have hn:(0:Int)<=(r:Int)/\(r:Int)<(10:Nat):=by omega
 have hu:=Tryz.underlying271
 simp[Instr.index,run_underlying hu,asIntOf,hn,hr,hv,go_sem]
theorem run_index_q (w:World) (cs:Array Value) (r:Nat) (hr:r<8) (hc:cs.size=32):(Instr.index 274 (.agg cs) (.int .i64 (r:Int))).run Tryz.prog w=.ok (.agg (cs.extract (r*4) (r*4+4))) w:=by
 have hn:(0:Int)<=(r:Int)/\(r:Int)<(8:Nat):=by omega
 have hu:=Tryz.underlying274
 have h32:r*4+4<=32:=by omega
 simp[Instr.index,run_underlying hu,asIntOf,hn,hr,hc,h32,go_sem]
def permI:Nat->Int
 |0=>81985529216486895
 |1=>16881918945140062035
 |2=>13312731748010193300
 |3=>8733003861693448440
 |4=>10400822202260547645
 |5=>3200383143768358425
 |6=>14204332651957162635
 |7=>15816291393287259690
 |8=>8064173457993569445
 |9=>11710614767857974480
 |_=>0
theorem perm_at:∀r,r<10->(#[.int .u64 81985529216486895,.int .u64 16881918945140062035,.int .u64 13312731748010193300,.int .u64 8733003861693448440,.int .u64 10400822202260547645,.int .u64 3200383143768358425,.int .u64 14204332651957162635,.int .u64 15816291393287259690,.int .u64 8064173457993569445,.int .u64 11710614767857974480]:Array Value)[r]?=some (.int .u64 (permI r))
 |0,_=>rfl
 |1,_=>rfl
 |2,_=>rfl
 |3,_=>rfl
 |4,_=>rfl
 |5,_=>rfl
 |6,_=>rfl
 |7,_=>rfl
 |8,_=>rfl
 |9,_=>rfl
 |n+10,h=>absurd h (by omega)
theorem perm_x0:∀r,r<10->bits .and .u64 (permI r/1152921504606846976) 15=(sigN r 0:Int)/\bits .and .u64 (permI r/72057594037927936) 15=(sigN r 1:Int):=by decide
theorem quad_at0 (w:World):(Instr.index 274 (.agg #[.int .i64 0,.int .i64 4,.int .i64 8,.int .i64 12,.int .i64 1,.int .i64 5,.int .i64 9,.int .i64 13,.int .i64 2,.int .i64 6,.int .i64 10,.int .i64 14,.int .i64 3,.int .i64 7,.int .i64 11,.int .i64 15,.int .i64 0,.int .i64 5,.int .i64 10,.int .i64 15,.int .i64 1,.int .i64 6,.int .i64 11,.int .i64 12,.int .i64 2,.int .i64 7,.int .i64 8,.int .i64 13,.int .i64 3,.int .i64 4,.int .i64 9,.int .i64 14]) (.int .i64 0)).run Tryz.prog w=.ok (.agg #[.int .i64 0,.int .i64 4,.int .i64 8,.int .i64 12]) w:=run_index_q w _ 0 (by decide) rfl
theorem perm_x1:∀r,r<10->bits .and .u64 (permI r/4503599627370496) 15=(sigN r 2:Int)/\bits .and .u64 (permI r/281474976710656) 15=(sigN r 3:Int):=by decide
theorem quad_at1 (w:World):(Instr.index 274 (.agg #[.int .i64 0,.int .i64 4,.int .i64 8,.int .i64 12,.int .i64 1,.int .i64 5,.int .i64 9,.int .i64 13,.int .i64 2,.int .i64 6,.int .i64 10,.int .i64 14,.int .i64 3,.int .i64 7,.int .i64 11,.int .i64 15,.int .i64 0,.int .i64 5,.int .i64 10,.int .i64 15,.int .i64 1,.int .i64 6,.int .i64 11,.int .i64 12,.int .i64 2,.int .i64 7,.int .i64 8,.int .i64 13,.int .i64 3,.int .i64 4,.int .i64 9,.int .i64 14]) (.int .i64 1)).run Tryz.prog w=.ok (.agg #[.int .i64 1,.int .i64 5,.int .i64 9,.int .i64 13]) w:=run_index_q w _ 1 (by decide) rfl
theorem perm_x2:∀r,r<10->bits .and .u64 (permI r/17592186044416) 15=(sigN r 4:Int)/\bits .and .u64 (permI r/1099511627776) 15=(sigN r 5:Int):=by decide
theorem quad_at2 (w:World):(Instr.index 274 (.agg #[.int .i64 0,.int .i64 4,.int .i64 8,.int .i64 12,.int .i64 1,.int .i64 5,.int .i64 9,.int .i64 13,.int .i64 2,.int .i64 6,.int .i64 10,.int .i64 14,.int .i64 3,.int .i64 7,.int .i64 11,.int .i64 15,.int .i64 0,.int .i64 5,.int .i64 10,.int .i64 15,.int .i64 1,.int .i64 6,.int .i64 11,.int .i64 12,.int .i64 2,.int .i64 7,.int .i64 8,.int .i64 13,.int .i64 3,.int .i64 4,.int .i64 9,.int .i64 14]) (.int .i64 2)).run Tryz.prog w=.ok (.agg #[.int .i64 2,.int .i64 6,.int .i64 10,.int .i64 14]) w:=run_index_q w _ 2 (by decide) rfl
theorem perm_x3:∀r,r<10->bits .and .u64 (permI r/68719476736) 15=(sigN r 6:Int)/\bits .and .u64 (permI r/4294967296) 15=(sigN r 7:Int):=by decide
theorem quad_at3 (w:World):(Instr.index 274 (.agg #[.int .i64 0,.int .i64 4,.int .i64 8,.int .i64 12,.int .i64 1,.int .i64 5,.int .i64 9,.int .i64 13,.int .i64 2,.int .i64 6,.int .i64 10,.int .i64 14,.int .i64 3,.int .i64 7,.int .i64 11,.int .i64 15,.int .i64 0,.int .i64 5,.int .i64 10,.int .i64 15,.int .i64 1,.int .i64 6,.int .i64 11,.int .i64 12,.int .i64 2,.int .i64 7,.int .i64 8,.int .i64 13,.int .i64 3,.int .i64 4,.int .i64 9,.int .i64 14]) (.int .i64 3)).run Tryz.prog w=.ok (.agg #[.int .i64 3,.int .i64 7,.int .i64 11,.int .i64 15]) w:=run_index_q w _ 3 (by decide) rfl
theorem perm_x4:∀r,r<10->bits .and .u64 (permI r/268435456) 15=(sigN r 8:Int)/\bits .and .u64 (permI r/16777216) 15=(sigN r 9:Int):=by decide
theorem quad_at4 (w:World):(Instr.index 274 (.agg #[.int .i64 0,.int .i64 4,.int .i64 8,.int .i64 12,.int .i64 1,.int .i64 5,.int .i64 9,.int .i64 13,.int .i64 2,.int .i64 6,.int .i64 10,.int .i64 14,.int .i64 3,.int .i64 7,.int .i64 11,.int .i64 15,.int .i64 0,.int .i64 5,.int .i64 10,.int .i64 15,.int .i64 1,.int .i64 6,.int .i64 11,.int .i64 12,.int .i64 2,.int .i64 7,.int .i64 8,.int .i64 13,.int .i64 3,.int .i64 4,.int .i64 9,.int .i64 14]) (.int .i64 4)).run Tryz.prog w=.ok (.agg #[.int .i64 0,.int .i64 5,.int .i64 10,.int .i64 15]) w:=run_index_q w _ 4 (by decide) rfl
theorem perm_x5:∀r,r<10->bits .and .u64 (permI r/1048576) 15=(sigN r 10:Int)/\bits .and .u64 (permI r/65536) 15=(sigN r 11:Int):=by decide
theorem quad_at5 (w:World):(Instr.index 274 (.agg #[.int .i64 0,.int .i64 4,.int .i64 8,.int .i64 12,.int .i64 1,.int .i64 5,.int .i64 9,.int .i64 13,.int .i64 2,.int .i64 6,.int .i64 10,.int .i64 14,.int .i64 3,.int .i64 7,.int .i64 11,.int .i64 15,.int .i64 0,.int .i64 5,.int .i64 10,.int .i64 15,.int .i64 1,.int .i64 6,.int .i64 11,.int .i64 12,.int .i64 2,.int .i64 7,.int .i64 8,.int .i64 13,.int .i64 3,.int .i64 4,.int .i64 9,.int .i64 14]) (.int .i64 5)).run Tryz.prog w=.ok (.agg #[.int .i64 1,.int .i64 6,.int .i64 11,.int .i64 12]) w:=run_index_q w _ 5 (by decide) rfl
theorem perm_x6:∀r,r<10->bits .and .u64 (permI r/4096) 15=(sigN r 12:Int)/\bits .and .u64 (permI r/256) 15=(sigN r 13:Int):=by decide
theorem quad_at6 (w:World):(Instr.index 274 (.agg #[.int .i64 0,.int .i64 4,.int .i64 8,.int .i64 12,.int .i64 1,.int .i64 5,.int .i64 9,.int .i64 13,.int .i64 2,.int .i64 6,.int .i64 10,.int .i64 14,.int .i64 3,.int .i64 7,.int .i64 11,.int .i64 15,.int .i64 0,.int .i64 5,.int .i64 10,.int .i64 15,.int .i64 1,.int .i64 6,.int .i64 11,.int .i64 12,.int .i64 2,.int .i64 7,.int .i64 8,.int .i64 13,.int .i64 3,.int .i64 4,.int .i64 9,.int .i64 14]) (.int .i64 6)).run Tryz.prog w=.ok (.agg #[.int .i64 2,.int .i64 7,.int .i64 8,.int .i64 13]) w:=run_index_q w _ 6 (by decide) rfl
theorem perm_x7:∀r,r<10->bits .and .u64 (permI r/16) 15=(sigN r 14:Int)/\bits .and .u64 (permI r/1) 15=(sigN r 15:Int):=by decide
theorem quad_at7 (w:World):(Instr.index 274 (.agg #[.int .i64 0,.int .i64 4,.int .i64 8,.int .i64 12,.int .i64 1,.int .i64 5,.int .i64 9,.int .i64 13,.int .i64 2,.int .i64 6,.int .i64 10,.int .i64 14,.int .i64 3,.int .i64 7,.int .i64 11,.int .i64 15,.int .i64 0,.int .i64 5,.int .i64 10,.int .i64 15,.int .i64 1,.int .i64 6,.int .i64 11,.int .i64 12,.int .i64 2,.int .i64 7,.int .i64 8,.int .i64 13,.int .i64 3,.int .i64 4,.int .i64 9,.int .i64 14]) (.int .i64 7)).run Tryz.prog w=.ok (.agg #[.int .i64 3,.int .i64 4,.int .i64 9,.int .i64 14]) w:=run_index_q w _ 7 (by decide) rfl
def EntCells (cs:List Value):Prop:=∃(k sz:Int) (p t d:ByteArray) (A B:Option Addr) (n m c e:Nat),cs=[.int .i64 k,.string p,.slice A n c,.string t,.int .i64 sz,.string d,.slice B m e]
def RetEB (e:Ending):Prop:=∃cs b,EntCells cs/\e=.returned (.tuple #[.agg cs.toArray,.bool b])
theorem get37_any (w:World) (v:Value) (l:List Ent) (hv:SeqAt entS w v l) (s:ByteArray):Calls Tryz.prog 155 #[v,.string s] w fun e w'=>RetEB e/\Below w.heap.size w w':=by
 have Hv:=zY hv
 obtain⟨A,c,rfl,h1,h2⟩:=hv.slice
 clear hv
 have hZ:=Blk.new w 182 [.int .i64 0,.string ⟨#[]⟩,.slice none 0 0,.string ⟨#[]⟩,.int .i64 0,.string ⟨#[]⟩,.slice none 0 0]
 change Blk (w.alloc (.cells #[.int .i64 0,.string ⟨#[]⟩,.slice none 0 0,.string ⟨#[]⟩,.int .i64 0,.string ⟨#[]⟩,.slice none 0 0] 182)) _ _ _ at hZ
 have HZ0:=zY hZ
 have HB0:=zY (zBl w (.cells #[.int .i64 0,.string ⟨#[]⟩,.slice none 0 0,.string ⟨#[]⟩,.int .i64 0,.string ⟨#[]⟩,.slice none 0 0] 182))
 clear hZ
 go_enter Tryz.func155,Tryz.ntmps155
 go_upto_region 1 with fail
 generalize w.alloc (.cells #[.int .i64 0,.string ⟨#[]⟩,.slice none 0 0,.string ⟨#[]⟩,.int .i64 0,.string ⟨#[]⟩,.slice none 0 0] 182)=wa at *
 go_wp2
 go_loopw [7,10] (fun _ x wr=>∃i:Nat,i<=l.length/\x=.int .i64 (i:Int)/\Below wa.heap.size wa wr) (fun _ x _=>l.length-(intOf x).toNat)
 case atStart=>exact⟨0,by omega,rfl,Below.refl _ _⟩
 case round=>
  obtain⟨i,hi,rfl,hB⟩:=hrel
  have HB:=zY hB
  have HZ:=zY (HZ0.out.kept hB)
  clear hB
  by_cases h:i<l.length
  {
  have hiI:(i:Int)<l.length:=by omega
  obtain⟨x,hx⟩:∃x,l[i]?=some x:=⟨_,List.getElem?_eq_getElem h⟩
  obtain⟨_,_,e9,_,_,h4⟩:=Hv.out.below (HB0.out.trans (HB.out.mono HB0.out.size))
  cases e9
  obtain⟨b,o,cs,rfl,⟨va,vx,rfl,ra,rx⟩,hc⟩:=h4 i x hx
  obtain⟨Aa,ca,rfl,_,_⟩:=ra.slice
  obtain⟨Ax,cx,rfl,_,_⟩:=rx.slice
  obtain⟨k,p,attrs,t,sz,d,exts⟩:=x
  dsimp only at hc
  generalize attrs.length=na at *
  generalize exts.length=nx at *
  have e0:wr.cell? ⟨b,o+i*7,none⟩=some (.int .i64 k):=hc 0 _ rfl
  have e1:wr.cell? ⟨b,o+i*7+1,none⟩=some (.string p):=hc 1 _ rfl
  have e2:wr.cell? ⟨b,o+i*7+2,none⟩=some (.slice Aa na ca):=hc 2 _ rfl
  have e3:wr.cell? ⟨b,o+i*7+3,none⟩=some (.string t):=hc 3 _ rfl
  have e4:wr.cell? ⟨b,o+i*7+4,none⟩=some (.int .i64 sz):=hc 4 _ rfl
  have e5:wr.cell? ⟨b,o+i*7+5,none⟩=some (.string d):=hc 5 _ rfl
  have e6:wr.cell? ⟨b,o+i*7+6,none⟩=some (.slice Ax nx cx):=hc 6 _ rfl
  clear hc h4 hx ra rx
  have hF:=Blk.new wr 182 [.int .i64 k,.string p,.slice Aa na ca,.string t,.int .i64 sz,.string d,.slice Ax nx cx]
  change Blk (wr.alloc (.cells #[.int .i64 k,.string p,.slice Aa na ca,.string t,.int .i64 sz,.string d,.slice Ax nx cx] 182)) _ _ _ at hF
  have HBz:=zY (HB.out.alloc HB.out.size (.cells #[.int .i64 k,.string p,.slice Aa na ca,.string t,.int .i64 sz,.string d,.slice Ax nx cx] 182))
  have HZz:=zY (HZ.out.alloc (.cells #[.int .i64 k,.string p,.slice Aa na ca,.string t,.int .i64 sz,.string d,.slice Ax nx cx] 182))
  go_upto_region 4 with fail
  clear e0 e1 e2 e3 e4 e5 e6
  generalize wr.alloc (.cells #[.int .i64 k,.string p,.slice Aa na ca,.string t,.int .i64 sz,.string d,.slice Ax nx cx] 182)=wz at *
  have hg1:=hF.c 1
  have HFz:=zY hF
  clear hF
  by_cases hps:p=s
  {
  subst hps
  go_upto_region 5 with fail
  refine wp_region_lit ?_
  refine wpList_load_row rfl 182 (.tmp 7) rfl wr.heap.size rfl 182 _ (0,0) _ HFz.out Tryz.underlying182 rfl (by kernel_rfl) ?_
  refine wpList_store_row rfl 182 (.tmp 4) (.tmp 18) rfl w.heap.size _ rfl rfl 182 _ HZz.out (by kernel_rfl) rfl (by simp[Value.oneCell']) ?_
  clear hg1
  go_wp2_with fail
  refine bodyPost_ret (results_row_tmp rfl _ _ w.heap.size 182 _ (0,0) _ rfl (setRow_heap _ _ _ _ _ _ HZz.out) Tryz.underlying182 rfl (by kernel_rfl)) rfl ?_
  exact⟨⟨_,true,⟨k,sz,p,t,d,Aa,Ax,na,nx,ca,cx,rfl⟩,rfl⟩,below_setRow (HB0.out.trans (HBz.out.mono HB0.out.size)) (Nat.le_refl _) _⟩}
  {
  have b3:¬p.toList=s.toList:=fun e=>hps (by rw[ByteArray.toList_eq,ByteArray.toList_eq]at e;exact ByteArray.ext (Array.toList_inj.1 e))
  have b4:(p.toList==s.toList)=false:=by rw[beq_eq_false_iff_ne];exact b3
  clear hps
  go_wp2
  go_roundw
  case rel=>exact⟨i+1,by omega,by go_num,HBz.out⟩
  case measure=>simp[intOf];omega}}
  {
  have hiI:¬(i:Int)<l.length:=by omega
  have hbt:(Tryz.prog.built 182 [])=some #[.int .i64 0,.string ⟨#[]⟩,.slice none 0 0,.string ⟨#[]⟩,.int .i64 0,.string ⟨#[]⟩,.slice none 0 0]:=by kernel_rfl
  have hmap:∀f:Nat×Operand->Nat×Value,(Array.map f #[]).toList=[]:=fun f=>by simp
  go_upto_region 7 with fail
  refine wp_region_lit ?_
  refine wpList_build rfl 182 #[] rfl (by rw[hmap,hbt];rfl) ?_
  rw[hmap,hbt]
  refine wpList_store_row rfl 182 (.tmp 4) (.tmp 20) rfl w.heap.size #[.int .i64 0,.string ⟨#[]⟩,.slice none 0 0,.string ⟨#[]⟩,.int .i64 0,.string ⟨#[]⟩,.slice none 0 0] rfl rfl 182 _ HZ.out (by kernel_rfl) rfl (by simp[Value.oneCell']) ?_
  go_wp2_with fail
  refine bodyPost_ret (results_row_tmp rfl _ _ w.heap.size 182 _ (0,0) _ rfl (setRow_heap _ _ _ _ _ _ HZ.out) Tryz.underlying182 rfl (by kernel_rfl)) rfl ?_
  exact⟨⟨[.int .i64 0,.string ⟨#[]⟩,.slice none 0 0,.string ⟨#[]⟩,.int .i64 0,.string ⟨#[]⟩,.slice none 0 0],false,⟨0,0,_,_,_,none,none,0,0,0,0,rfl⟩,rfl⟩,below_setRow (HB0.out.trans (HB.out.mono HB0.out.size)) (Nat.le_refl _) _⟩}
theorem dir37_any (w:World) (v:Value) (l:List Ent) (hv:SeqAt entS w v l) (s:ByteArray):Calls Tryz.prog 228 #[v,.string s] w fun e w'=>RetI e/\Below w.heap.size w w':=by
 have HG:=zY (get37_any w v l hv s)
 obtain⟨A,c,rfl,h1,h2⟩:=hv.slice
 clear hv
 by_cases h0:s.size=0
 {
 have f0:s.toList.isEmpty=true:=by
  rw[show s=⟨#[]⟩ by apply ByteArray.ext;exact Array.eq_empty_of_size_eq_zero h0]
  exact isEmptyV0
 clear h0
 go_enter Tryz.func228,Tryz.ntmps228
 go_wp2_with fail
 go_ret
 exact⟨RetI.of 0,Below.refl _ _⟩}
 {
 have f0:s.toList.isEmpty=false:=isEmptyV h0
 clear h0
 go_enter Tryz.func228,Tryz.ntmps228
 go_wp2_with fail
 refine HG.out.mono ?_
 rintro e1 w1 ⟨⟨cs,b,⟨k,sz,p,t,d,Aa,Ax,na,nx,ca,cx,rfl⟩,rfl⟩,hb⟩
 have HB:=zY hb
 have hF:=Blk.new w1 182 [.int .i64 k,.string p,.slice Aa na ca,.string t,.int .i64 sz,.string d,.slice Ax nx cx]
 change Blk (w1.alloc (.cells #[.int .i64 k,.string p,.slice Aa na ca,.string t,.int .i64 sz,.string d,.slice Ax nx cx] 182)) _ _ _ at hF
 have HBz:=zY (HB.out.alloc HB.out.size (.cells #[.int .i64 k,.string p,.slice Aa na ca,.string t,.int .i64 sz,.string d,.slice Ax nx cx] 182))
 have c0:=hF.c 0
 clear hb hF HG HB
 cases b with
 |false=>
  go_wp2_with fail
  go_ret
  exact⟨RetI.of 9,HBz.out⟩
 |true=>
  by_cases hk:k=2
  {
  subst hk
  go_wp2_with fail
  go_ret
  exact⟨RetI.of 0,HBz.out⟩}
  {
  have f1:(k != 2)=true:=by rw[bne_iff_ne];exact hk
  clear hk
  go_wp2_with fail
  go_ret
  exact⟨RetI.of 10,HBz.out⟩}}
def chaOk (c:Cha):Prop:=c.path.size<=250/\c.tgt.size<=250/\c.attrs.length<=20/\c.cont.size<=600/\∀a∈c.attrs,a.k.size<=80/\a.v.size<=80
def cntB:List Bat->Nat
 |[]=>0
 |b::r=>b.l.length+cntB r
theorem cntB_app (l m:List Bat):cntB (l++m)=cntB l+cntB m:=by
 induction l with
 |nil=>simp[cntB]
 |cons x r ih=>rw[List.cons_append,cntB,cntB,ih];omega
def GreatOk (l:List Bat):Prop:=cntB l<=10/\(∀b∈l,∀c∈b.l,chaOk c)/\l.length<=4
def RetGr (l:List Bat) (e:Ending):Prop:=∃n:Int,e=.returned (.int .i64 n)/\(n=1∨(n=0/\GreatOk l))
theorem RetGr.one (l:List Bat):RetGr l (.returned (.int .i64 1)):=⟨1,rfl,.inl rfl⟩
theorem take_mem {α:Type} {l:List α} {i:Nat} {x:α} {p:α->Prop} (hx:l[i]?=some x) (h:∀y∈l.take i,p y) (hp:p x):∀y∈l.take (i+1),p y:=by
 intro y hy
 rw[List.take_add_one,hx]at hy
 rcases List.mem_append.1 hy with hy|hy
 ·exact h y hy
 {
 rw[Option.toList_some,List.mem_singleton]at hy
 rw[hy]
 exact hp
}
theorem great39_any (w:World) (v:Value) (l:List Bat) (hv:SeqAt batS w v l):Calls Tryz.prog 36 #[v] w fun e w'=>RetGr l e/\Below w.heap.size w w':=by
 have Hv:=zY hv
 obtain⟨A,c,rfl,h1,h2⟩:=hv.slice
 clear hv
 go_enter Tryz.func36,Tryz.ntmps36
 go_wp2
 go_loopw [3,4,5,6,7] (fun n x _ _ _ wr=>∃i N:Nat,i<=l.length/\x=.int .i64 (i:Int)/\n=.int .i64 (N:Int)/\N=30*cntB (l.take i)/\N<=300/\(∀b∈l.take i,∀c∈b.l,chaOk c)/\Below w.heap.size w wr) (fun _ x _ _ _ _=>l.length-(intOf x).toNat)
 case atStart=>exact⟨0,0,by omega,rfl,rfl,by simp[cntB],by omega,(fun b hb=>by simp at hb),Below.refl _ _⟩
 case round=>
  obtain⟨i,N,hi,rfl,rfl,hN,hN3,hall,hB⟩:=hrel
  have HN:=zY hN
  have Hall:=zY hall
  have HB:=zY hB
  clear hN hall hB
  by_cases h:i<l.length
  {
  have hiI:(i:Int)<l.length:=by omega
  obtain⟨b,hb⟩:∃b,l[i]?=some b:=⟨_,List.getElem?_eq_getElem h⟩
  have Hb:=zY hb
  obtain⟨_,_,e9,_,_,h4⟩:=Hv.out.below HB.out
  cases e9
  obtain⟨g,o,cs,rfl,⟨vb,rfl,rb⟩,hc⟩:=h4 i b hb
  have HL1:Hid (wr.cell? ⟨g,o+i*2+1,none⟩=some vb):=zY (hc 1 _ rfl)
  have HRb:=zY rb
  have HNx:Hid (30*cntB (l.take (i+1))=N+30*b.l.length):=zY (by rw[HN.out,List.take_add_one,hb,cntB_app];simp only[Option.toList_some,cntB];omega)
  obtain⟨Ab,cb,rfl,_,_⟩:=rb.slice
  clear hc h4 hb rb
  obtain⟨wx,rfl⟩:∃x,x=wr:=⟨_,rfl⟩
  go_wp2
  go_loopw [3,5,6,7] (fun n x _ _ wr=>∃k M:Nat,k<=b.l.length/\x=.int .i64 (k:Int)/\n=.int .i64 (M:Int)/\M=N+30*k/\M<=300/\(∀c∈b.l.take k,chaOk c)/\Below wx.heap.size wx wr) (fun _ x _ _ _=>b.l.length-(intOf x).toNat)
  case atStart=>exact⟨0,N,by omega,rfl,rfl,by omega,hN3,(fun c hc=>by simp at hc),Below.refl _ _⟩
  case round=>
   obtain⟨k,M,hk,rfl,rfl,hM,hM3,hcs,hB2⟩:=hrel
   have HM:=zY hM
   have Hcs:=zY hcs
   have HB2:=zY hB2
   clear hM hcs hB2
   have c1:=cell_below HB2.out HL1.out
   by_cases hk2:k<b.l.length
   {
   have hkI:(k:Int)<b.l.length:=by omega
   obtain⟨x,hx⟩:∃x,b.l[k]?=some x:=⟨_,List.getElem?_eq_getElem hk2⟩
   have Hx:=zY hx
   obtain⟨_,_,e9,_,_,h4⟩:=HRb.out.below HB2.out
   cases e9
   obtain⟨g2,o2,cs,rfl,⟨va,rfl,ra⟩,hc⟩:=h4 k x hx
   have HRa:=zY ra
   obtain⟨Aa,ca,rfl,_,_⟩:=ra.slice
   obtain⟨xk,xp,xa,xt,xc⟩:=x
   dsimp only at hc HRa Hx
   have Hna:Hid (xa.length=xa.length):=zY rfl
   generalize hna:xa.length=na at *
   have Hn:=zY hna
   have e0:wr.cell? ⟨g2,o2+k*5,none⟩=some (.int .i64 xk):=hc 0 _ rfl
   have e1:wr.cell? ⟨g2,o2+k*5+1,none⟩=some (.string xp):=hc 1 _ rfl
   have e2:wr.cell? ⟨g2,o2+k*5+2,none⟩=some (.slice Aa na ca):=hc 2 _ rfl
   have e3:wr.cell? ⟨g2,o2+k*5+3,none⟩=some (.string xt):=hc 3 _ rfl
   have e4:wr.cell? ⟨g2,o2+k*5+4,none⟩=some (.string xc):=hc 4 _ rfl
   clear hc h4 hx ra hna Hna
   have HF:Hid (Blk (wr.alloc (.cells #[.int .i64 xk,.string xp,.slice Aa na ca,.string xt,.string xc] 91)) wr.heap.size 91 [.int .i64 xk,.string xp,.slice Aa na ca,.string xt,.string xc]):=zY (Blk.new _ _ _)
   have HBz:=zY (HB2.out.alloc HB2.out.size (.cells #[.int .i64 xk,.string xp,.slice Aa na ca,.string xt,.string xc] 91))
   have HRz:=zY (HRa.out.below ((Below.refl _ wr).alloc (Nat.le_refl _) (.cells #[.int .i64 xk,.string xp,.slice Aa na ca,.string xt,.string xc] 91)))
   go_upto_region 9 with fail
   clear e0 e1 e2 e3 e4 c1
   generalize wr.alloc (.cells #[.int .i64 xk,.string xp,.slice Aa na ca,.string xt,.string xc] 91)=wz at *
   generalize wr.heap.size=gx at *
   have f1:=HF.out.c 1
   have f2:=HF.out.c 2
   have f3:=HF.out.c 3
   have f4:=HF.out.c 4
   have HBw:=zY (HB.out.trans (HBz.out.mono HB.out.size))
   obtain⟨M2,hM2⟩:=zNm (M+30)
   have hM2I:(M:Int)+30=M2:=by omega
   have HM2:Hid (M2=N+30*(k+1)):=zY (by have:=HM.out;omega)
   clear hM2
   by_cases a1:250<xp.size
   {
   have a1I:(250:Int)<xp.size:=by omega
   go_wp2
   go_ret
   exact⟨RetGr.one l,HBw.out⟩}
   {
   have a1I:¬(250:Int)<xp.size:=by omega
   by_cases a2:250<xt.size
   {
   have a2I:(250:Int)<xt.size:=by omega
   go_wp2
   go_ret
   exact⟨RetGr.one l,HBw.out⟩}
   {
   have a2I:¬(250:Int)<xt.size:=by omega
   by_cases a3:20<na
   {
   have a3I:(20:Int)<na:=by omega
   go_wp2
   go_ret
   exact⟨RetGr.one l,HBw.out⟩}
   {
   have a3I:¬(20:Int)<na:=by omega
   by_cases a4:600<xc.size
   {
   have a4I:(600:Int)<xc.size:=by omega
   go_wp2
   go_ret
   exact⟨RetGr.one l,HBw.out⟩}
   {
   have a4I:¬(600:Int)<xc.size:=by omega
   by_cases a5:300<M2
   {
   have a5I:(300:Int)<M2:=by omega
   go_wp2
   go_ret
   exact⟨RetGr.one l,HBw.out⟩}
   {
   have a5I:¬(300:Int)<M2:=by omega
   go_wp2
   go_loop [7] (fun x=>∃j:Nat,j<=na/\x=.int .i64 (j:Int)/\∀a∈xa.take j,a.k.size<=80/\a.v.size<=80) (fun x=>na-(intOf x).toNat)
   case atStart=>exact⟨0,by omega,rfl,fun a ha=>by simp at ha⟩
   case round=>
    obtain⟨j,hj,rfl,hat⟩:=hrel
    have Hat:=zY hat
    clear hat
    by_cases hj2:j<na
    {
    have hjI:(j:Int)<na:=by omega
    obtain⟨y,hy⟩:∃y,xa[j]?=some y:=⟨_,List.getElem?_eq_getElem (by rw[Hn.out];exact hj2)⟩
    have Hy:=zY hy
    have hrz:=HRz.out
    obtain⟨_,_,e9,_,_,h4⟩:=hrz
    cases e9
    obtain⟨g3,o3,cs,rfl,rfl,hc⟩:=h4 j y hy
    obtain⟨yk,yv⟩:=y
    dsimp only at hc Hy
    have q0:wz.cell? ⟨g3,o3+j*2,none⟩=some (.string yk):=hc 0 _ rfl
    have q1:wz.cell? ⟨g3,o3+j*2+1,none⟩=some (.string yv):=hc 1 _ rfl
    clear hc h4 hy
    by_cases b1:80<yk.size
    {
    have b1I:(80:Int)<yk.size:=by omega
    go_wp2
    go_ret
    exact⟨RetGr.one l,HBw.out⟩}
    {
    have b1I:¬(80:Int)<yk.size:=by omega
    by_cases b2:80<yv.size
    {
    have b2I:(80:Int)<yv.size:=by omega
    go_wp2
    go_ret
    exact⟨RetGr.one l,HBw.out⟩}
    {
    have b2I:¬(80:Int)<yv.size:=by omega
    go_wp2
    go_round
    case rel=>exact⟨j+1,by omega,by go_num,take_mem Hy.out Hat.out ⟨by show yk.size<=80;omega,by show yv.size<=80;omega⟩⟩
    case measure=>simp[intOf];omega}}}
    {
    obtain rfl:j=na:=by omega
    have hjI:¬((j:Nat):Int)<(j:Int):=by omega
    have HOk:Hid (chaOk ⟨xk,xp,xa,xt,xc⟩):=zY ⟨by show xp.size<=250;omega,by show xt.size<=250;omega,by show xa.length<=20;rw[Hn.out];omega,by show xc.size<=600;omega,fun a ha=>Hat.out a (by rw[List.take_of_length_le (by rw[Hn.out];exact Nat.le_refl _)];exact ha)⟩
    go_wp2
    go_roundw
    case rel=>exact⟨k+1,M2,by omega,by go_num,rfl,HM2.out,by omega,take_mem Hx.out Hcs.out HOk.out,HBz.out⟩
    case measure=>simp[intOf];omega}}}}}}}
   {
   obtain rfl:k=b.l.length:=by omega
   have hkI:¬((b.l.length:Nat):Int)<(b.l.length:Int):=by omega
   go_wp2
   go_roundw
   case rel=>exact⟨i+1,M,by omega,by go_num,rfl,by rw[HNx.out];exact HM.out,hM3,take_mem Hb.out Hall.out (fun c hc=>Hcs.out c (by rw[List.take_length];exact hc)),HB.out.trans (HB2.out.mono HB.out.size)⟩
   case measure=>simp[intOf];omega}}
  {
  obtain rfl:i=l.length:=by omega
  have hiI:¬((l.length:Nat):Int)<(l.length:Int):=by omega
  by_cases h5:4<l.length
  {
  have h5I:(4:Int)<l.length:=by omega
  go_wp2
  go_ret
  exact⟨RetGr.one l,HB.out⟩}
  {
  have h5I:¬(4:Int)<l.length:=by omega
  have HG:Hid (GreatOk l):=zY ⟨by have:=HN.out;rw[List.take_length]at this;omega,fun b hb=>Hall.out b (by rw[List.take_length];exact hb),by omega⟩
  go_wp2
  go_ret
  exact⟨⟨0,rfl,.inr ⟨rfl,HG.out⟩⟩,HB.out⟩}}
end
end Go.Proofs.YthgenkkkapilhaaGreatDoor
