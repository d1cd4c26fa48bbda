/-
  Joined: VqD VqE VqL VqM VqN VqG VoS VoT.
-/
import Derived.Test.YthgenkkkapilhaaGreatDoorVCn12
import Derived.Test.YthgenkkkapilhaaGreatDoorVCn18
set_option linter.all false
set_option maxRecDepth 100000
set_option maxHeartbeats 64000000
namespace Go.Proofs.YthgenkkkapilhaaGreatDoor
section
open Go.RowKit
theorem quad_m0 (f:Nat×Operand->Nat×Value):(Array.map f #[(0,.const (.int .i64 0)),(1,.const (.int .i64 4)),(2,.const (.int .i64 8)),(3,.const (.int .i64 12))]).toList=[f (0,.const (.int .i64 0)),f (1,.const (.int .i64 4)),f (2,.const (.int .i64 8)),f (3,.const (.int .i64 12))]:=by simp
theorem quad_b0:Tryz.prog.built 273 [(0,.int .i64 0),(1,.int .i64 4),(2,.int .i64 8),(3,.int .i64 12)]=some #[.int .i64 0,.int .i64 4,.int .i64 8,.int .i64 12]:=by kernel_rfl
theorem quad_m1 (f:Nat×Operand->Nat×Value):(Array.map f #[(0,.const (.int .i64 1)),(1,.const (.int .i64 5)),(2,.const (.int .i64 9)),(3,.const (.int .i64 13))]).toList=[f (0,.const (.int .i64 1)),f (1,.const (.int .i64 5)),f (2,.const (.int .i64 9)),f (3,.const (.int .i64 13))]:=by simp
theorem quad_b1:Tryz.prog.built 273 [(0,.int .i64 1),(1,.int .i64 5),(2,.int .i64 9),(3,.int .i64 13)]=some #[.int .i64 1,.int .i64 5,.int .i64 9,.int .i64 13]:=by kernel_rfl
theorem quad_m2 (f:Nat×Operand->Nat×Value):(Array.map f #[(0,.const (.int .i64 2)),(1,.const (.int .i64 6)),(2,.const (.int .i64 10)),(3,.const (.int .i64 14))]).toList=[f (0,.const (.int .i64 2)),f (1,.const (.int .i64 6)),f (2,.const (.int .i64 10)),f (3,.const (.int .i64 14))]:=by simp
theorem quad_b2:Tryz.prog.built 273 [(0,.int .i64 2),(1,.int .i64 6),(2,.int .i64 10),(3,.int .i64 14)]=some #[.int .i64 2,.int .i64 6,.int .i64 10,.int .i64 14]:=by kernel_rfl
theorem quad_m3 (f:Nat×Operand->Nat×Value):(Array.map f #[(0,.const (.int .i64 3)),(1,.const (.int .i64 7)),(2,.const (.int .i64 11)),(3,.const (.int .i64 15))]).toList=[f (0,.const (.int .i64 3)),f (1,.const (.int .i64 7)),f (2,.const (.int .i64 11)),f (3,.const (.int .i64 15))]:=by simp
theorem quad_b3:Tryz.prog.built 273 [(0,.int .i64 3),(1,.int .i64 7),(2,.int .i64 11),(3,.int .i64 15)]=some #[.int .i64 3,.int .i64 7,.int .i64 11,.int .i64 15]:=by kernel_rfl
theorem quad_m4 (f:Nat×Operand->Nat×Value):(Array.map f #[(0,.const (.int .i64 0)),(1,.const (.int .i64 5)),(2,.const (.int .i64 10)),(3,.const (.int .i64 15))]).toList=[f (0,.const (.int .i64 0)),f (1,.const (.int .i64 5)),f (2,.const (.int .i64 10)),f (3,.const (.int .i64 15))]:=by simp
theorem quad_b4:Tryz.prog.built 273 [(0,.int .i64 0),(1,.int .i64 5),(2,.int .i64 10),(3,.int .i64 15)]=some #[.int .i64 0,.int .i64 5,.int .i64 10,.int .i64 15]:=by kernel_rfl
theorem quad_m5 (f:Nat×Operand->Nat×Value):(Array.map f #[(0,.const (.int .i64 1)),(1,.const (.int .i64 6)),(2,.const (.int .i64 11)),(3,.const (.int .i64 12))]).toList=[f (0,.const (.int .i64 1)),f (1,.const (.int .i64 6)),f (2,.const (.int .i64 11)),f (3,.const (.int .i64 12))]:=by simp
theorem quad_b5:Tryz.prog.built 273 [(0,.int .i64 1),(1,.int .i64 6),(2,.int .i64 11),(3,.int .i64 12)]=some #[.int .i64 1,.int .i64 6,.int .i64 11,.int .i64 12]:=by kernel_rfl
theorem quad_m6 (f:Nat×Operand->Nat×Value):(Array.map f #[(0,.const (.int .i64 2)),(1,.const (.int .i64 7)),(2,.const (.int .i64 8)),(3,.const (.int .i64 13))]).toList=[f (0,.const (.int .i64 2)),f (1,.const (.int .i64 7)),f (2,.const (.int .i64 8)),f (3,.const (.int .i64 13))]:=by simp
theorem quad_b6:Tryz.prog.built 273 [(0,.int .i64 2),(1,.int .i64 7),(2,.int .i64 8),(3,.int .i64 13)]=some #[.int .i64 2,.int .i64 7,.int .i64 8,.int .i64 13]:=by kernel_rfl
theorem quad_m7 (f:Nat×Operand->Nat×Value):(Array.map f #[(0,.const (.int .i64 3)),(1,.const (.int .i64 4)),(2,.const (.int .i64 9)),(3,.const (.int .i64 14))]).toList=[f (0,.const (.int .i64 3)),f (1,.const (.int .i64 4)),f (2,.const (.int .i64 9)),f (3,.const (.int .i64 14))]:=by simp
theorem quad_b7:Tryz.prog.built 273 [(0,.int .i64 3),(1,.int .i64 4),(2,.int .i64 9),(3,.int .i64 14)]=some #[.int .i64 3,.int .i64 4,.int .i64 9,.int .i64 14]:=by kernel_rfl
theorem quad_m (f:Nat×Operand->Nat×Value):(Array.map f #[(0,.tmp 1),(1,.tmp 2),(2,.tmp 3),(3,.tmp 4),(4,.tmp 5),(5,.tmp 6),(6,.tmp 7),(7,.tmp 8)]).toList=[f (0,.tmp 1),f (1,.tmp 2),f (2,.tmp 3),f (3,.tmp 4),f (4,.tmp 5),f (5,.tmp 6),f (6,.tmp 7),f (7,.tmp 8)]:=by simp
theorem quad_b:Tryz.prog.built 274 [(0,.agg #[.int .i64 0,.int .i64 4,.int .i64 8,.int .i64 12]),(1,.agg #[.int .i64 1,.int .i64 5,.int .i64 9,.int .i64 13]),(2,.agg #[.int .i64 2,.int .i64 6,.int .i64 10,.int .i64 14]),(3,.agg #[.int .i64 3,.int .i64 7,.int .i64 11,.int .i64 15]),(4,.agg #[.int .i64 0,.int .i64 5,.int .i64 10,.int .i64 15]),(5,.agg #[.int .i64 1,.int .i64 6,.int .i64 11,.int .i64 12]),(6,.agg #[.int .i64 2,.int .i64 7,.int .i64 8,.int .i64 13]),(7,.agg #[.int .i64 3,.int .i64 4,.int .i64 9,.int .i64 14])]=some #[.int .i64 0,.int .i64 4,.int .i64 8,.int .i64 12,.int .i64 1,.int .i64 5,.int .i64 9,.int .i64 13,.int .i64 2,.int .i64 6,.int .i64 10,.int .i64 14,.int .i64 3,.int .i64 7,.int .i64 11,.int .i64 15,.int .i64 0,.int .i64 5,.int .i64 10,.int .i64 15,.int .i64 1,.int .i64 6,.int .i64 11,.int .i64 12,.int .i64 2,.int .i64 7,.int .i64 8,.int .i64 13,.int .i64 3,.int .i64 4,.int .i64 9,.int .i64 14]:=by kernel_rfl
theorem bquads_any (w:World):Calls Tryz.prog 202 #[] w fun e w'=>e=.returned (.agg #[.int .i64 0,.int .i64 4,.int .i64 8,.int .i64 12,.int .i64 1,.int .i64 5,.int .i64 9,.int .i64 13,.int .i64 2,.int .i64 6,.int .i64 10,.int .i64 14,.int .i64 3,.int .i64 7,.int .i64 11,.int .i64 15,.int .i64 0,.int .i64 5,.int .i64 10,.int .i64 15,.int .i64 1,.int .i64 6,.int .i64 11,.int .i64 12,.int .i64 2,.int .i64 7,.int .i64 8,.int .i64 13,.int .i64 3,.int .i64 4,.int .i64 9,.int .i64 14])/\Below w.heap.size w w':=by
 have HZ:Hid (Blk (w.alloc (.cells (List.replicate 32 (.int .i64 0)).toArray 274)) w.heap.size 274 (List.replicate 32 (.int .i64 0))):=zY (Blk.new _ _ _)
 have HB:=zY (zBl w (.cells (List.replicate 32 (.int .i64 0)).toArray 274))
 go_enter Tryz.func202,Tryz.ntmps202
 go_upto_region 1 with fail
 change Code.wp _ _ _ _ (w.alloc (.cells (List.replicate 32 (.int .i64 0)).toArray 274))
 generalize w.alloc (.cells (List.replicate 32 (.int .i64 0)).toArray 274)=wa at *
 refine wp_region_lit ?_
 refine wpList_build rfl 273 #[(0,.const (.int .i64 0)),(1,.const (.int .i64 4)),(2,.const (.int .i64 8)),(3,.const (.int .i64 12))] rfl (by rw[quad_m0];show (Tryz.prog.built 273 [(0,.int .i64 0),(1,.int .i64 4),(2,.int .i64 8),(3,.int .i64 12)]).isSome=true;rw[quad_b0];rfl) ?_
 rw[quad_m0]
 change wpList _ _ _ _ (Act.put _ _ (.agg ((Tryz.prog.built 273 [(0,.int .i64 0),(1,.int .i64 4),(2,.int .i64 8),(3,.int .i64 12)]).getD #[]))) _
 rw[quad_b0]
 simp only[Act.put,List.setIfInBounds_toArray,List.set_cons_zero,List.set_cons_succ,Option.getD_some]
 refine wpList_build rfl 273 #[(0,.const (.int .i64 1)),(1,.const (.int .i64 5)),(2,.const (.int .i64 9)),(3,.const (.int .i64 13))] rfl (by rw[quad_m1];show (Tryz.prog.built 273 [(0,.int .i64 1),(1,.int .i64 5),(2,.int .i64 9),(3,.int .i64 13)]).isSome=true;rw[quad_b1];rfl) ?_
 rw[quad_m1]
 change wpList _ _ _ _ (Act.put _ _ (.agg ((Tryz.prog.built 273 [(0,.int .i64 1),(1,.int .i64 5),(2,.int .i64 9),(3,.int .i64 13)]).getD #[]))) _
 rw[quad_b1]
 simp only[Act.put,List.setIfInBounds_toArray,List.set_cons_zero,List.set_cons_succ,Option.getD_some]
 refine wpList_build rfl 273 #[(0,.const (.int .i64 2)),(1,.const (.int .i64 6)),(2,.const (.int .i64 10)),(3,.const (.int .i64 14))] rfl (by rw[quad_m2];show (Tryz.prog.built 273 [(0,.int .i64 2),(1,.int .i64 6),(2,.int .i64 10),(3,.int .i64 14)]).isSome=true;rw[quad_b2];rfl) ?_
 rw[quad_m2]
 change wpList _ _ _ _ (Act.put _ _ (.agg ((Tryz.prog.built 273 [(0,.int .i64 2),(1,.int .i64 6),(2,.int .i64 10),(3,.int .i64 14)]).getD #[]))) _
 rw[quad_b2]
 simp only[Act.put,List.setIfInBounds_toArray,List.set_cons_zero,List.set_cons_succ,Option.getD_some]
 refine wpList_build rfl 273 #[(0,.const (.int .i64 3)),(1,.const (.int .i64 7)),(2,.const (.int .i64 11)),(3,.const (.int .i64 15))] rfl (by rw[quad_m3];show (Tryz.prog.built 273 [(0,.int .i64 3),(1,.int .i64 7),(2,.int .i64 11),(3,.int .i64 15)]).isSome=true;rw[quad_b3];rfl) ?_
 rw[quad_m3]
 change wpList _ _ _ _ (Act.put _ _ (.agg ((Tryz.prog.built 273 [(0,.int .i64 3),(1,.int .i64 7),(2,.int .i64 11),(3,.int .i64 15)]).getD #[]))) _
 rw[quad_b3]
 simp only[Act.put,List.setIfInBounds_toArray,List.set_cons_zero,List.set_cons_succ,Option.getD_some]
 refine wpList_build rfl 273 #[(0,.const (.int .i64 0)),(1,.const (.int .i64 5)),(2,.const (.int .i64 10)),(3,.const (.int .i64 15))] rfl (by rw[quad_m4];show (Tryz.prog.built 273 [(0,.int .i64 0),(1,.int .i64 5),(2,.int .i64 10),(3,.int .i64 15)]).isSome=true;rw[quad_b4];rfl) ?_
 rw[quad_m4]
 change wpList _ _ _ _ (Act.put _ _ (.agg ((Tryz.prog.built 273 [(0,.int .i64 0),(1,.int .i64 5),(2,.int .i64 10),(3,.int .i64 15)]).getD #[]))) _
 rw[quad_b4]
 simp only[Act.put,List.setIfInBounds_toArray,List.set_cons_zero,List.set_cons_succ,Option.getD_some]
 refine wpList_build rfl 273 #[(0,.const (.int .i64 1)),(1,.const (.int .i64 6)),(2,.const (.int .i64 11)),(3,.const (.int .i64 12))] rfl (by rw[quad_m5];show (Tryz.prog.built 273 [(0,.int .i64 1),(1,.int .i64 6),(2,.int .i64 11),(3,.int .i64 12)]).isSome=true;rw[quad_b5];rfl) ?_
 rw[quad_m5]
 change wpList _ _ _ _ (Act.put _ _ (.agg ((Tryz.prog.built 273 [(0,.int .i64 1),(1,.int .i64 6),(2,.int .i64 11),(3,.int .i64 12)]).getD #[]))) _
 rw[quad_b5]
 simp only[Act.put,List.setIfInBounds_toArray,List.set_cons_zero,List.set_cons_succ,Option.getD_some]
 refine wpList_build rfl 273 #[(0,.const (.int .i64 2)),(1,.const (.int .i64 7)),(2,.const (.int .i64 8)),(3,.const (.int .i64 13))] rfl (by rw[quad_m6];show (Tryz.prog.built 273 [(0,.int .i64 2),(1,.int .i64 7),(2,.int .i64 8),(3,.int .i64 13)]).isSome=true;rw[quad_b6];rfl) ?_
 rw[quad_m6]
 change wpList _ _ _ _ (Act.put _ _ (.agg ((Tryz.prog.built 273 [(0,.int .i64 2),(1,.int .i64 7),(2,.int .i64 8),(3,.int .i64 13)]).getD #[]))) _
 rw[quad_b6]
 simp only[Act.put,List.setIfInBounds_toArray,List.set_cons_zero,List.set_cons_succ,Option.getD_some]
 refine wpList_build rfl 273 #[(0,.const (.int .i64 3)),(1,.const (.int .i64 4)),(2,.const (.int .i64 9)),(3,.const (.int .i64 14))] rfl (by rw[quad_m7];show (Tryz.prog.built 273 [(0,.int .i64 3),(1,.int .i64 4),(2,.int .i64 9),(3,.int .i64 14)]).isSome=true;rw[quad_b7];rfl) ?_
 rw[quad_m7]
 change wpList _ _ _ _ (Act.put _ _ (.agg ((Tryz.prog.built 273 [(0,.int .i64 3),(1,.int .i64 4),(2,.int .i64 9),(3,.int .i64 14)]).getD #[]))) _
 rw[quad_b7]
 simp only[Act.put,List.setIfInBounds_toArray,List.set_cons_zero,List.set_cons_succ,Option.getD_some]
 refine wpList_build rfl 274 #[(0,.tmp 1),(1,.tmp 2),(2,.tmp 3),(3,.tmp 4),(4,.tmp 5),(5,.tmp 6),(6,.tmp 7),(7,.tmp 8)] rfl (by rw[quad_m];show (Tryz.prog.built 274 [(0,.agg #[.int .i64 0,.int .i64 4,.int .i64 8,.int .i64 12]),(1,.agg #[.int .i64 1,.int .i64 5,.int .i64 9,.int .i64 13]),(2,.agg #[.int .i64 2,.int .i64 6,.int .i64 10,.int .i64 14]),(3,.agg #[.int .i64 3,.int .i64 7,.int .i64 11,.int .i64 15]),(4,.agg #[.int .i64 0,.int .i64 5,.int .i64 10,.int .i64 15]),(5,.agg #[.int .i64 1,.int .i64 6,.int .i64 11,.int .i64 12]),(6,.agg #[.int .i64 2,.int .i64 7,.int .i64 8,.int .i64 13]),(7,.agg #[.int .i64 3,.int .i64 4,.int .i64 9,.int .i64 14])]).isSome=true;rw[quad_b];rfl) ?_
 rw[quad_m]
 change wpList _ _ _ _ (Act.put _ _ (.agg ((Tryz.prog.built 274 [(0,.agg #[.int .i64 0,.int .i64 4,.int .i64 8,.int .i64 12]),(1,.agg #[.int .i64 1,.int .i64 5,.int .i64 9,.int .i64 13]),(2,.agg #[.int .i64 2,.int .i64 6,.int .i64 10,.int .i64 14]),(3,.agg #[.int .i64 3,.int .i64 7,.int .i64 11,.int .i64 15]),(4,.agg #[.int .i64 0,.int .i64 5,.int .i64 10,.int .i64 15]),(5,.agg #[.int .i64 1,.int .i64 6,.int .i64 11,.int .i64 12]),(6,.agg #[.int .i64 2,.int .i64 7,.int .i64 8,.int .i64 13]),(7,.agg #[.int .i64 3,.int .i64 4,.int .i64 9,.int .i64 14])]).getD #[]))) _
 rw[quad_b]
 simp only[Act.put,List.setIfInBounds_toArray,List.set_cons_zero,List.set_cons_succ,Option.getD_some]
 refine wpList_store_row rfl 274 (.tmp 0) (.tmp 9) rfl w.heap.size #[.int .i64 0,.int .i64 4,.int .i64 8,.int .i64 12,.int .i64 1,.int .i64 5,.int .i64 9,.int .i64 13,.int .i64 2,.int .i64 6,.int .i64 10,.int .i64 14,.int .i64 3,.int .i64 7,.int .i64 11,.int .i64 15,.int .i64 0,.int .i64 5,.int .i64 10,.int .i64 15,.int .i64 1,.int .i64 6,.int .i64 11,.int .i64 12,.int .i64 2,.int .i64 7,.int .i64 8,.int .i64 13,.int .i64 3,.int .i64 4,.int .i64 9,.int .i64 14] rfl rfl 274 _ HZ.out (by kernel_rfl) (by simp) (by simp[Value.oneCell']) ?_
 go_wp2_with fail
 refine bodyPost_ret (results_cell_row rfl _ _ w.heap.size 274 _ (0,0) _ rfl (setRow_heap _ _ _ _ _ _ HZ.out) Tryz.underlying274 rfl (by kernel_rfl)) rfl ?_
 exact⟨rfl,below_setRow HB.out (Nat.le_refl _) _⟩
theorem run_index_p (w:World) (cs:Array Value) (r:Nat) (hr:r<10) {v:Value} (hv:cs[r]?=some v):(Instr.index 271 (.agg cs) (.int .i64 (r:Int))).run Tryz.prog w=.ok v w:=by
 have hn:(0:Int)<=(r:Int)/\(r:Int)<(10:Nat):=by omega
 have hu:=Tryz.underlying271
 simp[Instr.index,run_underlying hu,asIntOf,hn,hr,hv,go_sem]
theorem run_index_q (w:World) (cs:Array Value) (r:Nat) (hr:r<8) (hc:cs.size=32):(Instr.index 274 (.agg cs) (.int .i64 (r:Int))).run Tryz.prog w=.ok (.agg (cs.extract (r*4) (r*4+4))) w:=by
 have hn:(0:Int)<=(r:Int)/\(r:Int)<(8:Nat):=by omega
 have hu:=Tryz.underlying274
 have h32:r*4+4<=32:=by omega
 simp[Instr.index,run_underlying hu,asIntOf,hn,hr,hc,h32,go_sem]
def permI:Nat->Int
 |0=>81985529216486895
 |1=>16881918945140062035
 |2=>13312731748010193300
 |3=>8733003861693448440
 |4=>10400822202260547645
 |5=>3200383143768358425
 |6=>14204332651957162635
 |7=>15816291393287259690
 |8=>8064173457993569445
 |9=>11710614767857974480
 |_=>0
theorem perm_at:∀r,r<10->(#[.int .u64 81985529216486895,.int .u64 16881918945140062035,.int .u64 13312731748010193300,.int .u64 8733003861693448440,.int .u64 10400822202260547645,.int .u64 3200383143768358425,.int .u64 14204332651957162635,.int .u64 15816291393287259690,.int .u64 8064173457993569445,.int .u64 11710614767857974480]:Array Value)[r]?=some (.int .u64 (permI r))
 |0,_=>rfl
 |1,_=>rfl
 |2,_=>rfl
 |3,_=>rfl
 |4,_=>rfl
 |5,_=>rfl
 |6,_=>rfl
 |7,_=>rfl
 |8,_=>rfl
 |9,_=>rfl
 |n+10,h=>absurd h (by omega)
theorem perm_x0:∀r,r<10->bits .and .u64 (permI r/1152921504606846976) 15=(sigN r 0:Int)/\bits .and .u64 (permI r/72057594037927936) 15=(sigN r 1:Int):=by decide
theorem quad_at0 (w:World):(Instr.index 274 (.agg #[.int .i64 0,.int .i64 4,.int .i64 8,.int .i64 12,.int .i64 1,.int .i64 5,.int .i64 9,.int .i64 13,.int .i64 2,.int .i64 6,.int .i64 10,.int .i64 14,.int .i64 3,.int .i64 7,.int .i64 11,.int .i64 15,.int .i64 0,.int .i64 5,.int .i64 10,.int .i64 15,.int .i64 1,.int .i64 6,.int .i64 11,.int .i64 12,.int .i64 2,.int .i64 7,.int .i64 8,.int .i64 13,.int .i64 3,.int .i64 4,.int .i64 9,.int .i64 14]) (.int .i64 0)).run Tryz.prog w=.ok (.agg #[.int .i64 0,.int .i64 4,.int .i64 8,.int .i64 12]) w:=run_index_q w _ 0 (by decide) rfl
theorem perm_x1:∀r,r<10->bits .and .u64 (permI r/4503599627370496) 15=(sigN r 2:Int)/\bits .and .u64 (permI r/281474976710656) 15=(sigN r 3:Int):=by decide
theorem quad_at1 (w:World):(Instr.index 274 (.agg #[.int .i64 0,.int .i64 4,.int .i64 8,.int .i64 12,.int .i64 1,.int .i64 5,.int .i64 9,.int .i64 13,.int .i64 2,.int .i64 6,.int .i64 10,.int .i64 14,.int .i64 3,.int .i64 7,.int .i64 11,.int .i64 15,.int .i64 0,.int .i64 5,.int .i64 10,.int .i64 15,.int .i64 1,.int .i64 6,.int .i64 11,.int .i64 12,.int .i64 2,.int .i64 7,.int .i64 8,.int .i64 13,.int .i64 3,.int .i64 4,.int .i64 9,.int .i64 14]) (.int .i64 1)).run Tryz.prog w=.ok (.agg #[.int .i64 1,.int .i64 5,.int .i64 9,.int .i64 13]) w:=run_index_q w _ 1 (by decide) rfl
theorem perm_x2:∀r,r<10->bits .and .u64 (permI r/17592186044416) 15=(sigN r 4:Int)/\bits .and .u64 (permI r/1099511627776) 15=(sigN r 5:Int):=by decide
theorem quad_at2 (w:World):(Instr.index 274 (.agg #[.int .i64 0,.int .i64 4,.int .i64 8,.int .i64 12,.int .i64 1,.int .i64 5,.int .i64 9,.int .i64 13,.int .i64 2,.int .i64 6,.int .i64 10,.int .i64 14,.int .i64 3,.int .i64 7,.int .i64 11,.int .i64 15,.int .i64 0,.int .i64 5,.int .i64 10,.int .i64 15,.int .i64 1,.int .i64 6,.int .i64 11,.int .i64 12,.int .i64 2,.int .i64 7,.int .i64 8,.int .i64 13,.int .i64 3,.int .i64 4,.int .i64 9,.int .i64 14]) (.int .i64 2)).run Tryz.prog w=.ok (.agg #[.int .i64 2,.int .i64 6,.int .i64 10,.int .i64 14]) w:=run_index_q w _ 2 (by decide) rfl
theorem perm_x3:∀r,r<10->bits .and .u64 (permI r/68719476736) 15=(sigN r 6:Int)/\bits .and .u64 (permI r/4294967296) 15=(sigN r 7:Int):=by decide
theorem quad_at3 (w:World):(Instr.index 274 (.agg #[.int .i64 0,.int .i64 4,.int .i64 8,.int .i64 12,.int .i64 1,.int .i64 5,.int .i64 9,.int .i64 13,.int .i64 2,.int .i64 6,.int .i64 10,.int .i64 14,.int .i64 3,.int .i64 7,.int .i64 11,.int .i64 15,.int .i64 0,.int .i64 5,.int .i64 10,.int .i64 15,.int .i64 1,.int .i64 6,.int .i64 11,.int .i64 12,.int .i64 2,.int .i64 7,.int .i64 8,.int .i64 13,.int .i64 3,.int .i64 4,.int .i64 9,.int .i64 14]) (.int .i64 3)).run Tryz.prog w=.ok (.agg #[.int .i64 3,.int .i64 7,.int .i64 11,.int .i64 15]) w:=run_index_q w _ 3 (by decide) rfl
theorem perm_x4:∀r,r<10->bits .and .u64 (permI r/268435456) 15=(sigN r 8:Int)/\bits .and .u64 (permI r/16777216) 15=(sigN r 9:Int):=by decide
theorem quad_at4 (w:World):(Instr.index 274 (.agg #[.int .i64 0,.int .i64 4,.int .i64 8,.int .i64 12,.int .i64 1,.int .i64 5,.int .i64 9,.int .i64 13,.int .i64 2,.int .i64 6,.int .i64 10,.int .i64 14,.int .i64 3,.int .i64 7,.int .i64 11,.int .i64 15,.int .i64 0,.int .i64 5,.int .i64 10,.int .i64 15,.int .i64 1,.int .i64 6,.int .i64 11,.int .i64 12,.int .i64 2,.int .i64 7,.int .i64 8,.int .i64 13,.int .i64 3,.int .i64 4,.int .i64 9,.int .i64 14]) (.int .i64 4)).run Tryz.prog w=.ok (.agg #[.int .i64 0,.int .i64 5,.int .i64 10,.int .i64 15]) w:=run_index_q w _ 4 (by decide) rfl
theorem perm_x5:∀r,r<10->bits .and .u64 (permI r/1048576) 15=(sigN r 10:Int)/\bits .and .u64 (permI r/65536) 15=(sigN r 11:Int):=by decide
theorem quad_at5 (w:World):(Instr.index 274 (.agg #[.int .i64 0,.int .i64 4,.int .i64 8,.int .i64 12,.int .i64 1,.int .i64 5,.int .i64 9,.int .i64 13,.int .i64 2,.int .i64 6,.int .i64 10,.int .i64 14,.int .i64 3,.int .i64 7,.int .i64 11,.int .i64 15,.int .i64 0,.int .i64 5,.int .i64 10,.int .i64 15,.int .i64 1,.int .i64 6,.int .i64 11,.int .i64 12,.int .i64 2,.int .i64 7,.int .i64 8,.int .i64 13,.int .i64 3,.int .i64 4,.int .i64 9,.int .i64 14]) (.int .i64 5)).run Tryz.prog w=.ok (.agg #[.int .i64 1,.int .i64 6,.int .i64 11,.int .i64 12]) w:=run_index_q w _ 5 (by decide) rfl
theorem perm_x6:∀r,r<10->bits .and .u64 (permI r/4096) 15=(sigN r 12:Int)/\bits .and .u64 (permI r/256) 15=(sigN r 13:Int):=by decide
theorem quad_at6 (w:World):(Instr.index 274 (.agg #[.int .i64 0,.int .i64 4,.int .i64 8,.int .i64 12,.int .i64 1,.int .i64 5,.int .i64 9,.int .i64 13,.int .i64 2,.int .i64 6,.int .i64 10,.int .i64 14,.int .i64 3,.int .i64 7,.int .i64 11,.int .i64 15,.int .i64 0,.int .i64 5,.int .i64 10,.int .i64 15,.int .i64 1,.int .i64 6,.int .i64 11,.int .i64 12,.int .i64 2,.int .i64 7,.int .i64 8,.int .i64 13,.int .i64 3,.int .i64 4,.int .i64 9,.int .i64 14]) (.int .i64 6)).run Tryz.prog w=.ok (.agg #[.int .i64 2,.int .i64 7,.int .i64 8,.int .i64 13]) w:=run_index_q w _ 6 (by decide) rfl
theorem perm_x7:∀r,r<10->bits .and .u64 (permI r/16) 15=(sigN r 14:Int)/\bits .and .u64 (permI r/1) 15=(sigN r 15:Int):=by decide
theorem quad_at7 (w:World):(Instr.index 274 (.agg #[.int .i64 0,.int .i64 4,.int .i64 8,.int .i64 12,.int .i64 1,.int .i64 5,.int .i64 9,.int .i64 13,.int .i64 2,.int .i64 6,.int .i64 10,.int .i64 14,.int .i64 3,.int .i64 7,.int .i64 11,.int .i64 15,.int .i64 0,.int .i64 5,.int .i64 10,.int .i64 15,.int .i64 1,.int .i64 6,.int .i64 11,.int .i64 12,.int .i64 2,.int .i64 7,.int .i64 8,.int .i64 13,.int .i64 3,.int .i64 4,.int .i64 9,.int .i64 14]) (.int .i64 7)).run Tryz.prog w=.ok (.agg #[.int .i64 3,.int .i64 4,.int .i64 9,.int .i64 14]) w:=run_index_q w _ 7 (by decide) rfl
theorem digD_val:∀{p:List Nat},p≠[]->p.all digB=true->(1<p.length->cf p 0≠48)->digD (valD p)=p:=by
 intro p
 induction hn:p.length generalizing p with
 |zero=>intro h;exact absurd (List.length_eq_zero_iff.1 hn) h
 |succ n ih=>
  intro h hd h0
  obtain⟨q,c,rfl⟩:∃q c,p=q++[c]:=⟨p.dropLast,p.getLast h,(List.dropLast_concat_getLast h).symm⟩
  have hql:q.length=n:=by simpa using hn
  rw[List.all_append,Bool.and_eq_true]at hd
  have hc':digB c=true:=by simpa using hd.2
  have hc:48<=c/\c<=57:=of_decide_eq_true hc'
  have hv:valD (q++[c])=10*valD q+(c-48):=by rw[valD,List.foldl_append];rfl
  rw[hv]
  by_cases hq:q=[]
  {
  subst hq
  have:valD []=0:=rfl
  rw[this,Nat.mul_zero,Nat.zero_add,digD_small (by omega),List.nil_append]
  congr 1
  omega}
  {
  have hq0:cf q 0≠48:=by
   have hl:0<q.length:=List.length_pos_iff.2 hq
   have:=h0 (by simp;omega)
   rwa [cf,List.getElem?_append_left hl]at this
  have e:=ih hql hq hd.1 (fun _=>hq0)
  have h1:valD q≠0:=fun e0=>by
   rw[e0,digD_small (by decide)]at e
   rw[<-e]at hq0
   exact hq0 rfl
  rw[digD_great (by omega),show (10*valD q+(c-48))/10=valD q by omega,show (10*valD q+(c-48))%10=c-48 by omega,e,digD_small (by omega)]
  congr 1
  simp
  omega}
theorem atoi_val {l:List UInt8} (h:natL l≠[]) (hd:(natL l).all digB=true):Lib.atoi l=some ((valD (natL l):Nat):Int):=by
 have key:∀(l:List UInt8) (a:Nat),(natL l).all digB=true->Lib.decFrom a l=some ((natL l).foldl (fun n c=>10*n+(c-48)) a):=by
  intro l
  induction l with
  |nil=>intro a _;rfl
  |cons b r ih=>
   intro a hd
   have hd':digB b.toNat=true/\(natL r).all digB=true:=by
    have:((b.toNat::natL r).all digB)=true:=hd
    rwa [List.all_cons,Bool.and_eq_true]at this
   have hb:48<=b.toNat/\b.toNat<=57:=of_decide_eq_true hd'.1
   have e:Lib.digitVal b=some (b.toNat-48):=by rw[Lib.digitVal,if_pos hb]
   rw[Lib.decFrom,e]
   show Lib.decFrom (a*10+(b.toNat-48)) r=_
   rw[ih _ hd'.2,Nat.mul_comm]
   rfl
 cases l with
 |nil=>exact absurd rfl h
 |cons b r=>
  have hd':digB b.toNat=true:=by
   have:((b.toNat::natL r).all digB)=true:=hd
   rw[List.all_cons,Bool.and_eq_true]at this
   exact this.1
  have hb:48<=b.toNat/\b.toNat<=57:=of_decide_eq_true hd'
  have n1:¬(b==45)=true:=fun e=>by rw[beq_iff_eq.1 e]at hb;exact absurd hb.1 (by decide)
  have n2:¬(b==43)=true:=fun e=>by rw[beq_iff_eq.1 e]at hb;exact absurd hb.1 (by decide)
  rw[Lib.atoi,if_neg n1,if_neg n2,Lib.decNat,if_neg (by simp),key _ 0 hd]
  rfl
theorem below_bytes (w:World) (e:TypeId) (t:ByteArray):Below w.heap.size w (Lib.bytesWorld w e t):=
 ⟨rfl,rfl,rfl,by rw[Lib.bytesWorld_size];omega,fun k hk=>Lib.bytesWorld_at_old w e t k hk⟩
theorem atoi_date (w:World) (s:ByteArray) (h:dateB (bs s)=true):∃n:Nat,n<=1000000000/\strB (digD n)=s/\Calls Tryz.prog 209 #[.string s] w fun e w'=>e=.returned (.tuple #[.int .i64 (n:Int),.nilIface])/\Below w.heap.size w w':=by
 rw[dateB,Bool.and_eq_true,Bool.and_eq_true]at h
 obtain⟨h1,h2,h3⟩:=h
 have h1:=of_decide_eq_true h1
 have h3:=of_decide_eq_true h3
 have hne:bs s≠[]:=fun e=>by rw[e]at h1;exact absurd h1.1 (by decide)
 refine⟨valD (bs s),h3,?_,?_⟩
 ·rw[digD_val hne h2 (fun h=>fun e=>h1.2.2 ⟨h,e⟩),strB_bs]
 {
 refine(Tryz.strconv_Atoi s _ ?_ (atoi_val (l:=s.data.toList) hne h2) w).mono ?_
 {
 have:=h1.2.1
 rw[bs_len]at this
 omega}
 {
 rintro e w' ⟨rfl,t,rfl⟩
 exact⟨rfl,below_bytes _ _ _⟩
}}
theorem isdate_ok (w:World) (s:ByteArray) (h:dateB (bs s)=true) (hT:Tab w):Calls Tryz.prog 365 #[.string s] w fun e w'=>e=.returned (.bool true)/\Below w.heap.size w w':=by
 obtain⟨n,hn,hd,hc⟩:=atoi_date w s h
 have HC:=zY hc
 have HI:Hid (∀W,Below w.heap.size w W->Calls Tryz.prog 54 #[.int .i64 (n:Int)] W fun e w'=>e=.returned (.string s)/\Below W.heap.size W w'):=zY (fun W hb=>by
  have:=itoa_any W n (by omega) (hT.below hb)
  rwa [hd]at this)
 have i1:(0:Int)<=n:=by omega
 have i2:(n:Int)<=1000000000:=by omega
 clear hc hd h hn
 go_enter Tryz.func365,Tryz.ntmps365
 go_wp2_with fail
 refine HC.out.mono ?_
 rintro e1 w1 ⟨rfl,hb1⟩
 have HB1:=zY hb1
 clear hb1
 go_wp2_with fail
 refine(HI.out _ HB1.out).mono ?_
 rintro e2 w2 ⟨rfl,hb2⟩
 have HB2:=zYt HB1 hb2
 clear hb2
 go_wp2_with fail
 go_ret
 first|exact⟨rfl,HB2.out⟩|exact⟨ret_bool' (by simp),HB2.out⟩
theorem entarget_ok (w:World) (e:Ent) (va vx:Value) (h:tgtB e=true) (hT:Tab w):Calls Tryz.prog 314 #[entV e va vx] w fun r w'=>r=.returned (.bool true)/\Below w.heap.size w w':=by
 obtain⟨k,path,attrs,t,size,dig,exts⟩:=e
 rw[tgtB]at h
 dsimp only at h
 rw[entV]
 dsimp only
 have hK:=Blk.new w 182 [.int .i64 k,.string path,va,.string t,.int .i64 size,.string dig,vx]
 change Blk (w.alloc (.cells #[.int .i64 k,.string path,va,.string t,.int .i64 size,.string dig,vx] 182)) _ _ _ at hK
 have c0:=hK.c 0
 have c3:=hK.c 3
 have HB:=zY (zBl w (.cells #[.int .i64 k,.string path,va,.string t,.int .i64 size,.string dig,vx] 182))
 clear hK
 by_cases h3:k=3
 {
 have i1:(k==3)=true:=by rw[h3];rfl
 rw[if_pos h3]at h
 clear h3
 have h:=of_decide_eq_true h
 have i2:t.toList.isEmpty=false:=isEmptyV (by omega)
 have i3:(t.size:Int)<=200:=by omega
 clear h
 go_enter Tryz.func314,Tryz.ntmps314
 go_wp2
 go_ret
 exact⟨rfl,HB.out⟩}
 {
 have i1:(k==3)=false:=by rw[beq_eq_false_iff_ne];exact h3
 rw[if_neg h3]at h
 clear h3
 by_cases h5:k=5
 {
 have i2:(k==5)=true:=by rw[h5];rfl
 rw[if_pos h5]at h
 clear h5
 have HD:=zY (isdate_ok _ t h (hT.below HB.out))
 clear h
 go_enter Tryz.func314,Tryz.ntmps314
 go_wp2_with fail
 refine HD.out.mono ?_
 rintro e1 w1 ⟨rfl,hb⟩
 have HB1:=zYt HB hb
 clear hb
 go_wp2_with fail
 go_ret
 exact⟨rfl,HB1.out⟩}
 {
 have i2:(k==5)=false:=by rw[beq_eq_false_iff_ne];exact h5
 rw[if_neg h5]at h
 clear h5
 have e0:t=⟨#[]⟩:=by
  apply ByteArray.ext
  exact Array.eq_empty_of_size_eq_zero (of_decide_eq_true h)
 subst e0
 clear h
 go_enter Tryz.func314,Tryz.ntmps314
 go_wp2
 go_ret
 exact⟨rfl,HB.out⟩}}
theorem sumX_nonneg {l:List Ext} (h:∀x∈l,extB x=true):0<=sumX l:=by
 induction l with
 |nil=>exact Int.le_refl _
 |cons x r ih=>
  have h1:=of_decide_eq_true (h x List.mem_cons_self)
  have h2:=ih fun y hy=>h y (List.mem_cons_of_mem _ hy)
  rw[sumX]
  omega
theorem encontent_ok (w:World) (e:Ent) (va vx:Value) (hvx:SeqAt extS w vx e.exts) (h:EntOk e):Calls Tryz.prog 315 #[entV e va vx] w fun r w'=>r=.returned (.int .i64 0)/\Below w.heap.size w w':=by
 obtain⟨k,path,attrs,t,size,dig,exts⟩:=e
 have hsize:=h.size
 have hdig:=h.dig
 have hexts:=h.exts
 clear h
 dsimp only at hvx hsize hdig hexts
 rw[entV]
 dsimp only
 have Hvx:=zY hvx
 obtain⟨Ax,cx,rfl,hx1,hx2⟩:=hvx.slice
 clear hvx
 have hK:=Blk.new w 182 [.int .i64 k,.string path,va,.string t,.int .i64 size,.string dig,.slice Ax exts.length cx]
 change Blk (w.alloc (.cells #[.int .i64 k,.string path,va,.string t,.int .i64 size,.string dig,.slice Ax exts.length cx] 182)) _ _ _ at hK
 have HK:=zY hK
 have HB:=zY (zBl w (.cells #[.int .i64 k,.string path,va,.string t,.int .i64 size,.string dig,.slice Ax exts.length cx] 182))
 clear hK
 by_cases h1:k=1
 {
 have i1:(k==1)=true:=by rw[h1];rfl
 have i1':(k != 1)=false:=by rw[h1];rfl
 have hd:=hdig.1 h1
 have i2:((dig.size:Int) != 32)=false:=by rw[hd];rfl
 have i3:¬size<0:=by omega
 have i4:¬65536<size:=by omega
 have HX:=zY hexts.2.1
 have HS:=zY hexts.2.2
 clear h1 hsize hdig hexts hd
 go_enter Tryz.func315,Tryz.ntmps315
 go_upto_region 2 with fail
 generalize w.alloc (.cells #[.int .i64 k,.string path,va,.string t,.int .i64 size,.string dig,.slice Ax exts.length cx] 182)=wa at *
 have c0:=HK.out.c 0
 have c4:=HK.out.c 4
 have c5:=HK.out.c 5
 have c6:=HK.out.c 6
 go_wp2
 go_loopw [32] (fun x wr=>∃i:Nat,i<=exts.length/\x=.int .i64 (i:Int)/\Below wa.heap.size wa wr) (fun x _=>exts.length-(intOf x).toNat)
 case atStart=>exact⟨0,by omega,rfl,Below.refl _ _⟩
 case round=>
  obtain⟨i,hi,rfl,hB⟩:=hrel
  have HBr:=zY hB
  have HKr:=zY (HK.out.kept hB)
  clear hB c0 c4 c5 c6
  have c0:=HKr.out.c 0
  have c6:=HKr.out.c 6
  by_cases h:i<exts.length
  {
  have hiI:(i:Int)<exts.length:=by omega
  obtain⟨x,hx'⟩:∃x,exts[i]?=some x:=⟨_,List.getElem?_eq_getElem h⟩
  have hxb:=of_decide_eq_true (HX.out x (List.mem_of_getElem? hx'))
  obtain⟨_,_,e9,_,_,h4⟩:=Hvx.out.below (HB.out.trans (HBr.out.mono HB.out.size))
  cases e9
  obtain⟨b,o,cs,rfl,rfl,hc⟩:=h4 i x hx'
  obtain⟨x0,x1,x2⟩:=x
  dsimp only at hxb
  have e0:wr.cell? ⟨b,o+i*3,none⟩=some (.int .i64 x0):=hc 0 _ rfl
  have e1:wr.cell? ⟨b,o+i*3+1,none⟩=some (.int .i64 x1):=hc 1 _ rfl
  have e2:wr.cell? ⟨b,o+i*3+2,none⟩=some (.int .i64 x2):=hc 2 _ rfl
  have hT:=Blk.new wr 252 [.int .i64 x0,.int .i64 x1,.int .i64 x2]
  change Blk (wr.alloc (.cells #[.int .i64 x0,.int .i64 x1,.int .i64 x2] 252)) _ _ _ at hT
  have HT:=zY hT
  have HBt:=zY (HBr.out.alloc HBr.out.size (.cells #[.int .i64 x0,.int .i64 x1,.int .i64 x2] 252))
  have HKt:=zY (HKr.out.kept (zBl wr (.cells #[.int .i64 x0,.int .i64 x1,.int .i64 x2] 252)))
  have j1:¬x0<0:=by omega
  have j2:¬255<x0:=by omega
  have j3:¬x2<1:=by omega
  have j4:¬65536<x2:=by omega
  have j5:¬x1<0:=by omega
  have j6:¬2147483647<x1:=by omega
  have j7:((x0==0)=false)∨((x0==0)=true/\(x1 != 0)=false):=by
   by_cases q:x0=0
   {
   refine .inr ⟨by rw[q];rfl,?_⟩
   have:x1=0:=by
    by_cases q2:x1=0
    ·exact q2
    ·exact absurd ⟨q,q2⟩ hxb.2.2.2.2.2.2
   rw[this]
   rfl}
   ·exact .inl (beq_eq_false_iff_ne.2 q)
  clear hc h4 hx' hxb hT
  go_upto_region 12 with fail
  generalize wr.alloc (.cells #[.int .i64 x0,.int .i64 x1,.int .i64 x2] 252)=wt at *
  clear c0 c6 e0 e1 e2
  have c0:=HKt.out.c 0
  have t0:=HT.out.c 0
  have t1:=HT.out.c 1
  have t2:=HT.out.c 2
  rcases j7 with j7|⟨j7,j8⟩
  {
  go_wp2
  go_roundw
  case rel=>exact⟨i+1,by omega,by go_num,HBt.out⟩
  case measure=>simp[intOf];omega}
  {
  go_wp2
  go_roundw
  case rel=>exact⟨i+1,by omega,by go_num,HBt.out⟩
  case measure=>simp[intOf];omega}}
  {
  obtain rfl:i=exts.length:=by omega
  have hiI:¬((exts.length:Nat):Int)<(exts.length:Int):=by omega
  obtain⟨wy,rfl⟩:∃x,x=wr:=⟨_,rfl⟩
  go_wp2
  go_loopw [5,81] (fun y x wr=>∃(i:Nat) (S:Int),i<=exts.length/\x=.int .i64 (i:Int)/\y=.int .i64 S/\S=sumX (exts.drop i)/\S<=65536/\Below wy.heap.size wy wr) (fun _ x _=>exts.length-(intOf x).toNat)
  case atStart=>exact⟨0,size,by omega,rfl,rfl,by rw[List.drop_zero];exact HS.out.symm,by omega,Below.refl _ _⟩
  case round=>
   obtain⟨i,S,hi,rfl,rfl,hS,hS2,hB2⟩:=hrel
   have HSS:=zY hS
   have HB2:=zY hB2
   clear hS hB2 c0 c6
   by_cases h:i<exts.length
   {
   have hiI:(i:Int)<exts.length:=by omega
   obtain⟨x,hx'⟩:∃x,exts[i]?=some x:=⟨_,List.getElem?_eq_getElem h⟩
   have hxb:=of_decide_eq_true (HX.out x (List.mem_of_getElem? hx'))
   have hd:exts.drop i=x::exts.drop (i+1):=by
    obtain⟨h1,h2⟩:=List.getElem?_eq_some_iff.1 hx'
    rw[List.drop_eq_getElem_cons h1,h2]
   have hn:=sumX_nonneg (l:=exts.drop (i+1)) (fun y hy=>HX.out y (List.mem_of_mem_drop hy))
   have hs2:S=x.l+sumX (exts.drop (i+1)):=by rw[HSS.out,hd,sumX]
   have HN:Hid (S-x.l=sumX (exts.drop (i+1))):=zY (by omega)
   obtain⟨_,_,e9,_,_,h4⟩:=Hvx.out.below (HB.out.trans ((HBr.out.trans (HB2.out.mono HBr.out.size)).mono HB.out.size))
   cases e9
   obtain⟨b,o,cs,rfl,rfl,hc⟩:=h4 i x hx'
   obtain⟨x0,x1,x2⟩:=x
   dsimp only at hxb hs2 HN
   have e0:wr.cell? ⟨b,o+i*3,none⟩=some (.int .i64 x0):=hc 0 _ rfl
   have e1:wr.cell? ⟨b,o+i*3+1,none⟩=some (.int .i64 x1):=hc 1 _ rfl
   have e2:wr.cell? ⟨b,o+i*3+2,none⟩=some (.int .i64 x2):=hc 2 _ rfl
   have hT:=Blk.new wr 252 [.int .i64 x0,.int .i64 x1,.int .i64 x2]
   change Blk (wr.alloc (.cells #[.int .i64 x0,.int .i64 x1,.int .i64 x2] 252)) _ _ _ at hT
   have HT:=zY hT
   have HBt:=zY (HB2.out.alloc HB2.out.size (.cells #[.int .i64 x0,.int .i64 x1,.int .i64 x2] 252))
   have j1:¬S<x2:=by omega
   have j2:S-x2<=65536:=by omega
   have jw:IntKind.i64.wrap (S-x2)=S-x2:=zIw (by omega)
   clear hc h4 hx' hxb hT hd hs2 hn
   go_upto_region 20 with fail
   generalize wr.alloc (.cells #[.int .i64 x0,.int .i64 x1,.int .i64 x2] 252)=wt at *
   clear e0 e1 e2
   have t2:=HT.out.c 2
   go_wp2
   go_roundw
   case rel=>exact⟨i+1,_,by omega,by go_num,rfl,HN.out,j2,HBt.out⟩
   case measure=>simp[intOf];omega}
   {
   obtain rfl:i=exts.length:=by omega
   have hiI:¬((exts.length:Nat):Int)<(exts.length:Int):=by omega
   obtain rfl:S=0:=by rw[HSS.out,List.drop_length];rfl
   go_wp2
   go_ret
   exact⟨rfl,HB.out.trans ((HBr.out.trans (HB2.out.mono HBr.out.size)).mono HB.out.size)⟩}}}
 {
 have i1:(k==1)=false:=by rw[beq_eq_false_iff_ne];exact h1
 have i1':(k != 1)=true:=by rw[bne,i1];rfl
 obtain rfl:size=0:=hsize.2.2 h1
 have hd:=hdig.2 h1
 have i2:((dig.size:Int) != 0)=false:=by rw[hd];rfl
 obtain rfl:exts=[]:=by
  cases exts with
  |nil=>rfl
  |cons x r=>exact absurd (hexts.1 (by simp)) h1
 clear h1 hsize hdig hexts hd hx1
 go_enter Tryz.func315,Tryz.ntmps315
 go_upto_region 2 with fail
 change Blk (w.alloc (.cells #[.int .i64 k,.string path,va,.string t,.int .i64 0,.string dig,.slice Ax 0 cx] 182)) _ _ [.int .i64 k,.string path,va,.string t,.int .i64 0,.string dig,.slice Ax 0 cx]at HK
 have HK:=zY HK
 generalize w.alloc (.cells #[.int .i64 k,.string path,va,.string t,.int .i64 0,.string dig,.slice Ax 0 cx] 182)=wa at *
 have c0:=HK.out.c 0
 have c4:=HK.out.c 4
 have c5:=HK.out.c 5
 have c6:=HK.out.c 6
 go_wp2
 go_loopw [32] (fun x wr=>x=.int .i64 0/\wa=wr) (fun x _=>0)
 case atStart=>exact⟨rfl,rfl⟩
 case round=>
  obtain⟨rfl,rfl⟩:=hrel
  go_wp2
  go_loopw [5,81] (fun y x wr=>x=.int .i64 0/\y=.int .i64 0/\wa=wr) (fun x _ _=>0)
  case atStart=>exact⟨rfl,rfl,rfl⟩
  case round=>
   obtain⟨rfl,rfl,rfl⟩:=hrel
   go_wp2
   go_ret
   exact⟨rfl,HB.out⟩}
theorem encheck_ok (w:World) (e:Ent) (va vx:Value) (hva:SeqAt atrS w va e.attrs) (hvx:SeqAt extS w vx e.exts) (h:EntOk e) (hT:Tab w):Calls Tryz.prog 263 #[entV e va vx] w fun r w'=>r=.returned (.int .i64 0)/\Below w.heap.size w w':=by
 have HTg:=zY (fun W (hW:Below w.heap.size w W)=>entarget_ok W e va vx h.tgt (hT.below hW))
 have HCo:=zY (fun W (hW:Below w.heap.size w W)=>encontent_ok W e va vx (hvx.below hW) h)
 have HAt:=zY (fun W (hW:Below w.heap.size w W)=>atcheck_ok W va e.attrs (hva.below hW) h.attrs)
 have HPa:=zY (fun W (hW:Below w.heap.size w W)=>pcheck_ok W e.path h.path (hT.below hW))
 have hk:=h.kind
 have hn:=h.named
 have hb:=h.bare
 clear h hT
 obtain⟨k,path,attrs,t,size,dig,exts⟩:=e
 dsimp only at hva hvx hk hn hb HTg HCo HAt HPa
 obtain⟨Aa,ca,rfl,ha1,ha2⟩:=hva.slice
 obtain⟨Ax,cx,rfl,hx1,hx2⟩:=hvx.slice
 clear hva hvx
 rw[entV]at HTg HCo⊢
 dsimp only at HTg HCo⊢
 have hK:=Blk.new w 182 [.int .i64 k,.string path,.slice Aa attrs.length ca,.string t,.int .i64 size,.string dig,.slice Ax exts.length cx]
 change Blk (w.alloc (.cells #[.int .i64 k,.string path,.slice Aa attrs.length ca,.string t,.int .i64 size,.string dig,.slice Ax exts.length cx] 182)) _ _ _ at hK
 have HB0:=zY (zBl w (.cells #[.int .i64 k,.string path,.slice Aa attrs.length ca,.string t,.int .i64 size,.string dig,.slice Ax exts.length cx] 182))
 have HK:=zY hK
 clear hK
 have i1:¬k<1:=by omega
 have i2:¬6<k:=by omega
 have Hn:=zY hn
 have Hb:=zY hb
 have Hk:=zY hk
 clear hk hn hb
 go_enter Tryz.func263,Tryz.ntmps263
 go_upto_region 1 with fail
 generalize w.alloc (.cells #[.int .i64 k,.string path,.slice Aa attrs.length ca,.string t,.int .i64 size,.string dig,.slice Ax exts.length cx] 182)=wb at *
 have c0:=HK.out.c 0
 have c1:=HK.out.c 1
 go_wp2_with fail
 refine(HPa.out _ HB0.out).mono ?_
 rintro e2 w2 ⟨rfl,hb2⟩
 have HK2:=zY (HK.out.kept hb2)
 have HB2:=zYt HB0 hb2
 clear hb2 HK HB0 c0 c1
 have c0:=HK2.out.c 0
 have c1:=HK2.out.c 1
 go_upto_region 6 with fail
 go_cut [31] (fun s wx=>s=.bool false/\w2=wx)
 case first=>
  by_cases h0:path.size=0
  {
  have e0:path.toList.isEmpty=true:=by
   rw[show path=⟨#[]⟩ by apply ByteArray.ext;exact Array.eq_empty_of_size_eq_zero h0]
   exact isEmptyV0
  have h5:=Hn.out h0
  have h6:=Hk.out
  clear h0
  by_cases h7:k=5
  {
  have f1:(k != 5)=false:=by rw[h7];rfl
  clear h5 h6 h7
  go_wp2_with fail
  go_meet
  exact⟨rfl,rfl⟩}
  {
  have f1:(k != 5)=true:=by rw[bne,beq_eq_false_iff_ne.2 h7];rfl
  have f2:(k != 6)=false:=by rw[show k=6 by omega];rfl
  clear h5 h6 h7
  go_wp2_with fail
  go_meet
  exact⟨rfl,rfl⟩}}
  {
  have e0:path.toList.isEmpty=false:=isEmptyV h0
  clear h0
  go_wp2_with fail
  go_meet
  exact⟨rfl,rfl⟩}
 case rest=>
  obtain⟨rfl,rfl⟩:=hcut
  have c2:=HK2.out.c 2
  go_wp2_with fail
  refine(HAt.out _ HB2.out).mono ?_
  rintro e3 w3 ⟨rfl,hb3⟩
  have HK3:=zY (HK2.out.kept hb3)
  have HB3:=zYt HB2 hb3
  clear hb3 HK2 HB2 c0 c1 c2
  have c0:=HK3.out.c 0
  have c2:=HK3.out.c 2
  have c1:=HK3.out.c 1
  have c3:=HK3.out.c 3
  have c4:=HK3.out.c 4
  have c5:=HK3.out.c 5
  have c6:=HK3.out.c 6
  go_upto_region 11 with fail
  go_cut [51] (fun s wx=>∃W,s=.bool false/\W=wx/\Below w3.heap.size w3 W)
  case first=>
   have hz2:(¬(0:Int)<attrs.length)∨((0:Int)<attrs.length/\¬3<k):=by
    by_cases q:0<attrs.length
    ·have:=Hb.out q;exact .inr ⟨by omega,by omega⟩
    ·exact .inl (by omega)
   rcases hz2 with f1|⟨f1,f2⟩
   {
   go_wp2_with fail
   refine(HTg.out _ HB3.out).mono ?_
   rintro e4 w4 ⟨rfl,hb4⟩
   go_wp2_with fail
   go_meet
   exact⟨_,rfl,rfl,hb4⟩}
   {
   go_wp2_with fail
   refine(HTg.out _ HB3.out).mono ?_
   rintro e4 w4 ⟨rfl,hb4⟩
   go_wp2_with fail
   go_meet
   exact⟨_,rfl,rfl,hb4⟩}
  case rest=>
   obtain⟨w4,rfl,rfl,hb4⟩:=hcut
   have HK4:=zY (HK3.out.kept hb4)
   have HB4:=zYt HB3 hb4
   clear hb4 HK3 HB3 c0 c1 c2 c3 c4 c5 c6
   have c0:=HK4.out.c 0
   have c2:=HK4.out.c 2
   have c1:=HK4.out.c 1
   have c3:=HK4.out.c 3
   have c4:=HK4.out.c 4
   have c5:=HK4.out.c 5
   have c6:=HK4.out.c 6
   go_wp2_with fail
   refine(HCo.out _ HB4.out).mono ?_
   rintro e5 w5 ⟨rfl,hb5⟩
   have HB5:=zYt HB4 hb5
   clear hb5
   go_wp2_with fail
   go_ret
   exact⟨rfl,HB5.out⟩
def namesB:List ByteArray:=[⟨#[102,105,108,101]⟩,⟨#[100,105,114]⟩,⟨#[108,105,110,107]⟩,⟨#[114,101,109,111,118,101]⟩,⟨#[104,111,108,100]⟩,⟨#[114,101,108,101,97,115,101]⟩]
theorem ennames_any (w:World):Calls Tryz.prog 264 #[] w fun e w'=>e=.returned (.slice (some ⟨w.heap.size,0,none⟩) 6 6)/\w'=w.alloc (.cells (namesB.map Value.string).toArray 9):=by
 go_enter Tryz.func264,Tryz.ntmps264
 go_wp2
 go_ret
 exact⟨rfl,rfl⟩
def partB (s:ByteArray) (k:Nat):ByteArray:=s.extract (28*k) (min (28*k+28) s.size)
def partsB (s:ByteArray):List ByteArray:=(List.range ((s.size+27)/28)).map (partB s)
def EntCells (cs:List Value):Prop:=∃(k sz:Int) (p t d:ByteArray) (A B:Option Addr) (n m c e:Nat),cs=[.int .i64 k,.string p,.slice A n c,.string t,.int .i64 sz,.string d,.slice B m e]
def RetEB (e:Ending):Prop:=∃cs b,EntCells cs/\e=.returned (.tuple #[.agg cs.toArray,.bool b])
theorem get37_any (w:World) (v:Value) (l:List Ent) (hv:SeqAt entS w v l) (s:ByteArray):Calls Tryz.prog 155 #[v,.string s] w fun e w'=>RetEB e/\Below w.heap.size w w':=by
 have Hv:=zY hv
 obtain⟨A,c,rfl,h1,h2⟩:=hv.slice
 clear hv
 have hZ:=Blk.new w 182 [.int .i64 0,.string ⟨#[]⟩,.slice none 0 0,.string ⟨#[]⟩,.int .i64 0,.string ⟨#[]⟩,.slice none 0 0]
 change Blk (w.alloc (.cells #[.int .i64 0,.string ⟨#[]⟩,.slice none 0 0,.string ⟨#[]⟩,.int .i64 0,.string ⟨#[]⟩,.slice none 0 0] 182)) _ _ _ at hZ
 have HZ0:=zY hZ
 have HB0:=zY (zBl w (.cells #[.int .i64 0,.string ⟨#[]⟩,.slice none 0 0,.string ⟨#[]⟩,.int .i64 0,.string ⟨#[]⟩,.slice none 0 0] 182))
 clear hZ
 go_enter Tryz.func155,Tryz.ntmps155
 go_upto_region 1 with fail
 generalize w.alloc (.cells #[.int .i64 0,.string ⟨#[]⟩,.slice none 0 0,.string ⟨#[]⟩,.int .i64 0,.string ⟨#[]⟩,.slice none 0 0] 182)=wa at *
 go_wp2
 go_loopw [7,10] (fun _ x wr=>∃i:Nat,i<=l.length/\x=.int .i64 (i:Int)/\Below wa.heap.size wa wr) (fun _ x _=>l.length-(intOf x).toNat)
 case atStart=>exact⟨0,by omega,rfl,Below.refl _ _⟩
 case round=>
  obtain⟨i,hi,rfl,hB⟩:=hrel
  have HB:=zY hB
  have HZ:=zY (HZ0.out.kept hB)
  clear hB
  by_cases h:i<l.length
  {
  have hiI:(i:Int)<l.length:=by omega
  obtain⟨x,hx⟩:∃x,l[i]?=some x:=⟨_,List.getElem?_eq_getElem h⟩
  obtain⟨_,_,e9,_,_,h4⟩:=Hv.out.below (HB0.out.trans (HB.out.mono HB0.out.size))
  cases e9
  obtain⟨b,o,cs,rfl,⟨va,vx,rfl,ra,rx⟩,hc⟩:=h4 i x hx
  obtain⟨Aa,ca,rfl,_,_⟩:=ra.slice
  obtain⟨Ax,cx,rfl,_,_⟩:=rx.slice
  obtain⟨k,p,attrs,t,sz,d,exts⟩:=x
  dsimp only at hc
  generalize attrs.length=na at *
  generalize exts.length=nx at *
  have e0:wr.cell? ⟨b,o+i*7,none⟩=some (.int .i64 k):=hc 0 _ rfl
  have e1:wr.cell? ⟨b,o+i*7+1,none⟩=some (.string p):=hc 1 _ rfl
  have e2:wr.cell? ⟨b,o+i*7+2,none⟩=some (.slice Aa na ca):=hc 2 _ rfl
  have e3:wr.cell? ⟨b,o+i*7+3,none⟩=some (.string t):=hc 3 _ rfl
  have e4:wr.cell? ⟨b,o+i*7+4,none⟩=some (.int .i64 sz):=hc 4 _ rfl
  have e5:wr.cell? ⟨b,o+i*7+5,none⟩=some (.string d):=hc 5 _ rfl
  have e6:wr.cell? ⟨b,o+i*7+6,none⟩=some (.slice Ax nx cx):=hc 6 _ rfl
  clear hc h4 hx ra rx
  have hF:=Blk.new wr 182 [.int .i64 k,.string p,.slice Aa na ca,.string t,.int .i64 sz,.string d,.slice Ax nx cx]
  change Blk (wr.alloc (.cells #[.int .i64 k,.string p,.slice Aa na ca,.string t,.int .i64 sz,.string d,.slice Ax nx cx] 182)) _ _ _ at hF
  have HBz:=zY (HB.out.alloc HB.out.size (.cells #[.int .i64 k,.string p,.slice Aa na ca,.string t,.int .i64 sz,.string d,.slice Ax nx cx] 182))
  have HZz:=zY (HZ.out.alloc (.cells #[.int .i64 k,.string p,.slice Aa na ca,.string t,.int .i64 sz,.string d,.slice Ax nx cx] 182))
  go_upto_region 4 with fail
  clear e0 e1 e2 e3 e4 e5 e6
  generalize wr.alloc (.cells #[.int .i64 k,.string p,.slice Aa na ca,.string t,.int .i64 sz,.string d,.slice Ax nx cx] 182)=wz at *
  have hg1:=hF.c 1
  have HFz:=zY hF
  clear hF
  by_cases hps:p=s
  {
  subst hps
  go_upto_region 5 with fail
  refine wp_region_lit ?_
  refine wpList_load_row rfl 182 (.tmp 7) rfl wr.heap.size rfl 182 _ (0,0) _ HFz.out Tryz.underlying182 rfl (by kernel_rfl) ?_
  refine wpList_store_row rfl 182 (.tmp 4) (.tmp 18) rfl w.heap.size _ rfl rfl 182 _ HZz.out (by kernel_rfl) rfl (by simp[Value.oneCell']) ?_
  clear hg1
  go_wp2_with fail
  refine bodyPost_ret (results_row_tmp rfl _ _ w.heap.size 182 _ (0,0) _ rfl (setRow_heap _ _ _ _ _ _ HZz.out) Tryz.underlying182 rfl (by kernel_rfl)) rfl ?_
  exact⟨⟨_,true,⟨k,sz,p,t,d,Aa,Ax,na,nx,ca,cx,rfl⟩,rfl⟩,below_setRow (HB0.out.trans (HBz.out.mono HB0.out.size)) (Nat.le_refl _) _⟩}
  {
  have b3:¬p.toList=s.toList:=fun e=>hps (by rw[ByteArray.toList_eq,ByteArray.toList_eq]at e;exact ByteArray.ext (Array.toList_inj.1 e))
  have b4:(p.toList==s.toList)=false:=by rw[beq_eq_false_iff_ne];exact b3
  clear hps
  go_wp2
  go_roundw
  case rel=>exact⟨i+1,by omega,by go_num,HBz.out⟩
  case measure=>simp[intOf];omega}}
  {
  have hiI:¬(i:Int)<l.length:=by omega
  have hbt:(Tryz.prog.built 182 [])=some #[.int .i64 0,.string ⟨#[]⟩,.slice none 0 0,.string ⟨#[]⟩,.int .i64 0,.string ⟨#[]⟩,.slice none 0 0]:=by kernel_rfl
  have hmap:∀f:Nat×Operand->Nat×Value,(Array.map f #[]).toList=[]:=fun f=>by simp
  go_upto_region 7 with fail
  refine wp_region_lit ?_
  refine wpList_build rfl 182 #[] rfl (by rw[hmap,hbt];rfl) ?_
  rw[hmap,hbt]
  refine wpList_store_row rfl 182 (.tmp 4) (.tmp 20) rfl w.heap.size #[.int .i64 0,.string ⟨#[]⟩,.slice none 0 0,.string ⟨#[]⟩,.int .i64 0,.string ⟨#[]⟩,.slice none 0 0] rfl rfl 182 _ HZ.out (by kernel_rfl) rfl (by simp[Value.oneCell']) ?_
  go_wp2_with fail
  refine bodyPost_ret (results_row_tmp rfl _ _ w.heap.size 182 _ (0,0) _ rfl (setRow_heap _ _ _ _ _ _ HZ.out) Tryz.underlying182 rfl (by kernel_rfl)) rfl ?_
  exact⟨⟨[.int .i64 0,.string ⟨#[]⟩,.slice none 0 0,.string ⟨#[]⟩,.int .i64 0,.string ⟨#[]⟩,.slice none 0 0],false,⟨0,0,_,_,_,none,none,0,0,0,0,rfl⟩,rfl⟩,below_setRow (HB0.out.trans (HB.out.mono HB0.out.size)) (Nat.le_refl _) _⟩}
theorem dir37_any (w:World) (v:Value) (l:List Ent) (hv:SeqAt entS w v l) (s:ByteArray):Calls Tryz.prog 228 #[v,.string s] w fun e w'=>RetI e/\Below w.heap.size w w':=by
 have HG:=zY (get37_any w v l hv s)
 obtain⟨A,c,rfl,h1,h2⟩:=hv.slice
 clear hv
 by_cases h0:s.size=0
 {
 have f0:s.toList.isEmpty=true:=by
  rw[show s=⟨#[]⟩ by apply ByteArray.ext;exact Array.eq_empty_of_size_eq_zero h0]
  exact isEmptyV0
 clear h0
 go_enter Tryz.func228,Tryz.ntmps228
 go_wp2_with fail
 go_ret
 exact⟨RetI.of 0,Below.refl _ _⟩}
 {
 have f0:s.toList.isEmpty=false:=isEmptyV h0
 clear h0
 go_enter Tryz.func228,Tryz.ntmps228
 go_wp2_with fail
 refine HG.out.mono ?_
 rintro e1 w1 ⟨⟨cs,b,⟨k,sz,p,t,d,Aa,Ax,na,nx,ca,cx,rfl⟩,rfl⟩,hb⟩
 have HB:=zY hb
 have hF:=Blk.new w1 182 [.int .i64 k,.string p,.slice Aa na ca,.string t,.int .i64 sz,.string d,.slice Ax nx cx]
 change Blk (w1.alloc (.cells #[.int .i64 k,.string p,.slice Aa na ca,.string t,.int .i64 sz,.string d,.slice Ax nx cx] 182)) _ _ _ at hF
 have HBz:=zY (HB.out.alloc HB.out.size (.cells #[.int .i64 k,.string p,.slice Aa na ca,.string t,.int .i64 sz,.string d,.slice Ax nx cx] 182))
 have c0:=hF.c 0
 clear hb hF HG HB
 cases b with
 |false=>
  go_wp2_with fail
  go_ret
  exact⟨RetI.of 9,HBz.out⟩
 |true=>
  by_cases hk:k=2
  {
  subst hk
  go_wp2_with fail
  go_ret
  exact⟨RetI.of 0,HBz.out⟩}
  {
  have f1:(k != 2)=true:=by rw[bne_iff_ne];exact hk
  clear hk
  go_wp2_with fail
  go_ret
  exact⟨RetI.of 10,HBz.out⟩}}
end
end Go.Proofs.YthgenkkkapilhaaGreatDoor
