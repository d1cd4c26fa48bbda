/-
  Joined: VqD VqE VqO VqP VrD.
-/
import Derived.Test.YthgenkkkapilhaaGreatDoorVQn13
import Derived.Test.YthgenkkkapilhaaGreatDoorVQn19
import Derived.Test.YthgenkkkapilhaaGreatDoorVQn21
import Derived.Deep.Upon
set_option linter.all false
set_option maxRecDepth 100000
set_option maxHeartbeats 64000000
namespace Go.Proofs.YthgenkkkapilhaaGreatDoor
open Go.Proofs.Tryz
section
open Go.RowKit
theorem quad_m0 (f:Nat×Operand->Nat×Value):(Array.map f #[(0,.const (.int .i64 0)),(1,.const (.int .i64 4)),(2,.const (.int .i64 8)),(3,.const (.int .i64 12))]).toList=[f (0,.const (.int .i64 0)),f (1,.const (.int .i64 4)),f (2,.const (.int .i64 8)),f (3,.const (.int .i64 12))]:=by simp
theorem quad_b0:prog.built 273 [(0,.int .i64 0),(1,.int .i64 4),(2,.int .i64 8),(3,.int .i64 12)]=some #[.int .i64 0,.int .i64 4,.int .i64 8,.int .i64 12]:=by kernel_rfl
theorem quad_m1 (f:Nat×Operand->Nat×Value):(Array.map f #[(0,.const (.int .i64 1)),(1,.const (.int .i64 5)),(2,.const (.int .i64 9)),(3,.const (.int .i64 13))]).toList=[f (0,.const (.int .i64 1)),f (1,.const (.int .i64 5)),f (2,.const (.int .i64 9)),f (3,.const (.int .i64 13))]:=by simp
theorem quad_b1:prog.built 273 [(0,.int .i64 1),(1,.int .i64 5),(2,.int .i64 9),(3,.int .i64 13)]=some #[.int .i64 1,.int .i64 5,.int .i64 9,.int .i64 13]:=by kernel_rfl
theorem quad_m2 (f:Nat×Operand->Nat×Value):(Array.map f #[(0,.const (.int .i64 2)),(1,.const (.int .i64 6)),(2,.const (.int .i64 10)),(3,.const (.int .i64 14))]).toList=[f (0,.const (.int .i64 2)),f (1,.const (.int .i64 6)),f (2,.const (.int .i64 10)),f (3,.const (.int .i64 14))]:=by simp
theorem quad_b2:prog.built 273 [(0,.int .i64 2),(1,.int .i64 6),(2,.int .i64 10),(3,.int .i64 14)]=some #[.int .i64 2,.int .i64 6,.int .i64 10,.int .i64 14]:=by kernel_rfl
theorem quad_m3 (f:Nat×Operand->Nat×Value):(Array.map f #[(0,.const (.int .i64 3)),(1,.const (.int .i64 7)),(2,.const (.int .i64 11)),(3,.const (.int .i64 15))]).toList=[f (0,.const (.int .i64 3)),f (1,.const (.int .i64 7)),f (2,.const (.int .i64 11)),f (3,.const (.int .i64 15))]:=by simp
theorem quad_b3:prog.built 273 [(0,.int .i64 3),(1,.int .i64 7),(2,.int .i64 11),(3,.int .i64 15)]=some #[.int .i64 3,.int .i64 7,.int .i64 11,.int .i64 15]:=by kernel_rfl
theorem quad_m4 (f:Nat×Operand->Nat×Value):(Array.map f #[(0,.const (.int .i64 0)),(1,.const (.int .i64 5)),(2,.const (.int .i64 10)),(3,.const (.int .i64 15))]).toList=[f (0,.const (.int .i64 0)),f (1,.const (.int .i64 5)),f (2,.const (.int .i64 10)),f (3,.const (.int .i64 15))]:=by simp
theorem quad_b4:prog.built 273 [(0,.int .i64 0),(1,.int .i64 5),(2,.int .i64 10),(3,.int .i64 15)]=some #[.int .i64 0,.int .i64 5,.int .i64 10,.int .i64 15]:=by kernel_rfl
theorem quad_m5 (f:Nat×Operand->Nat×Value):(Array.map f #[(0,.const (.int .i64 1)),(1,.const (.int .i64 6)),(2,.const (.int .i64 11)),(3,.const (.int .i64 12))]).toList=[f (0,.const (.int .i64 1)),f (1,.const (.int .i64 6)),f (2,.const (.int .i64 11)),f (3,.const (.int .i64 12))]:=by simp
theorem quad_b5:prog.built 273 [(0,.int .i64 1),(1,.int .i64 6),(2,.int .i64 11),(3,.int .i64 12)]=some #[.int .i64 1,.int .i64 6,.int .i64 11,.int .i64 12]:=by kernel_rfl
theorem quad_m6 (f:Nat×Operand->Nat×Value):(Array.map f #[(0,.const (.int .i64 2)),(1,.const (.int .i64 7)),(2,.const (.int .i64 8)),(3,.const (.int .i64 13))]).toList=[f (0,.const (.int .i64 2)),f (1,.const (.int .i64 7)),f (2,.const (.int .i64 8)),f (3,.const (.int .i64 13))]:=by simp
theorem quad_b6:prog.built 273 [(0,.int .i64 2),(1,.int .i64 7),(2,.int .i64 8),(3,.int .i64 13)]=some #[.int .i64 2,.int .i64 7,.int .i64 8,.int .i64 13]:=by kernel_rfl
theorem quad_m7 (f:Nat×Operand->Nat×Value):(Array.map f #[(0,.const (.int .i64 3)),(1,.const (.int .i64 4)),(2,.const (.int .i64 9)),(3,.const (.int .i64 14))]).toList=[f (0,.const (.int .i64 3)),f (1,.const (.int .i64 4)),f (2,.const (.int .i64 9)),f (3,.const (.int .i64 14))]:=by simp
theorem quad_b7:prog.built 273 [(0,.int .i64 3),(1,.int .i64 4),(2,.int .i64 9),(3,.int .i64 14)]=some #[.int .i64 3,.int .i64 4,.int .i64 9,.int .i64 14]:=by kernel_rfl
theorem quad_m (f:Nat×Operand->Nat×Value):(Array.map f #[(0,.tmp 1),(1,.tmp 2),(2,.tmp 3),(3,.tmp 4),(4,.tmp 5),(5,.tmp 6),(6,.tmp 7),(7,.tmp 8)]).toList=[f (0,.tmp 1),f (1,.tmp 2),f (2,.tmp 3),f (3,.tmp 4),f (4,.tmp 5),f (5,.tmp 6),f (6,.tmp 7),f (7,.tmp 8)]:=by simp
theorem quad_b:prog.built 274 [(0,.agg #[.int .i64 0,.int .i64 4,.int .i64 8,.int .i64 12]),(1,.agg #[.int .i64 1,.int .i64 5,.int .i64 9,.int .i64 13]),(2,.agg #[.int .i64 2,.int .i64 6,.int .i64 10,.int .i64 14]),(3,.agg #[.int .i64 3,.int .i64 7,.int .i64 11,.int .i64 15]),(4,.agg #[.int .i64 0,.int .i64 5,.int .i64 10,.int .i64 15]),(5,.agg #[.int .i64 1,.int .i64 6,.int .i64 11,.int .i64 12]),(6,.agg #[.int .i64 2,.int .i64 7,.int .i64 8,.int .i64 13]),(7,.agg #[.int .i64 3,.int .i64 4,.int .i64 9,.int .i64 14])]=some #[.int .i64 0,.int .i64 4,.int .i64 8,.int .i64 12,.int .i64 1,.int .i64 5,.int .i64 9,.int .i64 13,.int .i64 2,.int .i64 6,.int .i64 10,.int .i64 14,.int .i64 3,.int .i64 7,.int .i64 11,.int .i64 15,.int .i64 0,.int .i64 5,.int .i64 10,.int .i64 15,.int .i64 1,.int .i64 6,.int .i64 11,.int .i64 12,.int .i64 2,.int .i64 7,.int .i64 8,.int .i64 13,.int .i64 3,.int .i64 4,.int .i64 9,.int .i64 14]:=by kernel_rfl
theorem bquads_any (w:World):Calls prog 202 #[] w fun e w'=>e=.returned (.agg #[.int .i64 0,.int .i64 4,.int .i64 8,.int .i64 12,.int .i64 1,.int .i64 5,.int .i64 9,.int .i64 13,.int .i64 2,.int .i64 6,.int .i64 10,.int .i64 14,.int .i64 3,.int .i64 7,.int .i64 11,.int .i64 15,.int .i64 0,.int .i64 5,.int .i64 10,.int .i64 15,.int .i64 1,.int .i64 6,.int .i64 11,.int .i64 12,.int .i64 2,.int .i64 7,.int .i64 8,.int .i64 13,.int .i64 3,.int .i64 4,.int .i64 9,.int .i64 14])/\Below w.heap.size w w':=by
 have HZ:Hid (Blk (w.alloc (.cells (List.replicate 32 (.int .i64 0)).toArray 274)) w.heap.size 274 (List.replicate 32 (.int .i64 0))):=zY (Blk.new _ _ _);have HB:=zY (zBl w (.cells (List.replicate 32 (.int .i64 0)).toArray 274));go_enter func202,ntmps202;go_upto_region 1 with fail;change Code.wp _ _ _ _ (w.alloc (.cells (List.replicate 32 (.int .i64 0)).toArray 274));generalize w.alloc (.cells (List.replicate 32 (.int .i64 0)).toArray 274)=wa at *;refine wp_region_lit ?_;refine wpList_build rfl 273 #[(0,.const (.int .i64 0)),(1,.const (.int .i64 4)),(2,.const (.int .i64 8)),(3,.const (.int .i64 12))] rfl (by rw[quad_m0];show (prog.built 273 [(0,.int .i64 0),(1,.int .i64 4),(2,.int .i64 8),(3,.int .i64 12)]).isSome=true;rw[quad_b0];rfl) ?_;rw[quad_m0];change wpList _ _ _ _ (Act.put _ _ (.agg ((prog.built 273 [(0,.int .i64 0),(1,.int .i64 4),(2,.int .i64 8),(3,.int .i64 12)]).getD #[]))) _;rw[quad_b0];simp only[Act.put,List.setIfInBounds_toArray,List.set_cons_zero,List.set_cons_succ,Option.getD_some];refine wpList_build rfl 273 #[(0,.const (.int .i64 1)),(1,.const (.int .i64 5)),(2,.const (.int .i64 9)),(3,.const (.int .i64 13))] rfl (by rw[quad_m1];show (prog.built 273 [(0,.int .i64 1),(1,.int .i64 5),(2,.int .i64 9),(3,.int .i64 13)]).isSome=true;rw[quad_b1];rfl) ?_;rw[quad_m1];change wpList _ _ _ _ (Act.put _ _ (.agg ((prog.built 273 [(0,.int .i64 1),(1,.int .i64 5),(2,.int .i64 9),(3,.int .i64 13)]).getD #[]))) _;rw[quad_b1];simp only[Act.put,List.setIfInBounds_toArray,List.set_cons_zero,List.set_cons_succ,Option.getD_some]
 refine wpList_build rfl 273 #[(0,.const (.int .i64 2)),(1,.const (.int .i64 6)),(2,.const (.int .i64 10)),(3,.const (.int .i64 14))] rfl (by rw[quad_m2];show (prog.built 273 [(0,.int .i64 2),(1,.int .i64 6),(2,.int .i64 10),(3,.int .i64 14)]).isSome=true;rw[quad_b2];rfl) ?_;rw[quad_m2];change wpList _ _ _ _ (Act.put _ _ (.agg ((prog.built 273 [(0,.int .i64 2),(1,.int .i64 6),(2,.int .i64 10),(3,.int .i64 14)]).getD #[]))) _;rw[quad_b2];simp only[Act.put,List.setIfInBounds_toArray,List.set_cons_zero,List.set_cons_succ,Option.getD_some];refine wpList_build rfl 273 #[(0,.const (.int .i64 3)),(1,.const (.int .i64 7)),(2,.const (.int .i64 11)),(3,.const (.int .i64 15))] rfl (by rw[quad_m3];show (prog.built 273 [(0,.int .i64 3),(1,.int .i64 7),(2,.int .i64 11),(3,.int .i64 15)]).isSome=true;rw[quad_b3];rfl) ?_;rw[quad_m3];change wpList _ _ _ _ (Act.put _ _ (.agg ((prog.built 273 [(0,.int .i64 3),(1,.int .i64 7),(2,.int .i64 11),(3,.int .i64 15)]).getD #[]))) _;rw[quad_b3];simp only[Act.put,List.setIfInBounds_toArray,List.set_cons_zero,List.set_cons_succ,Option.getD_some];refine wpList_build rfl 273 #[(0,.const (.int .i64 0)),(1,.const (.int .i64 5)),(2,.const (.int .i64 10)),(3,.const (.int .i64 15))] rfl (by rw[quad_m4];show (prog.built 273 [(0,.int .i64 0),(1,.int .i64 5),(2,.int .i64 10),(3,.int .i64 15)]).isSome=true;rw[quad_b4];rfl) ?_;rw[quad_m4];change wpList _ _ _ _ (Act.put _ _ (.agg ((prog.built 273 [(0,.int .i64 0),(1,.int .i64 5),(2,.int .i64 10),(3,.int .i64 15)]).getD #[]))) _;rw[quad_b4]
 simp only[Act.put,List.setIfInBounds_toArray,List.set_cons_zero,List.set_cons_succ,Option.getD_some];refine wpList_build rfl 273 #[(0,.const (.int .i64 1)),(1,.const (.int .i64 6)),(2,.const (.int .i64 11)),(3,.const (.int .i64 12))] rfl (by rw[quad_m5];show (prog.built 273 [(0,.int .i64 1),(1,.int .i64 6),(2,.int .i64 11),(3,.int .i64 12)]).isSome=true;rw[quad_b5];rfl) ?_;rw[quad_m5];change wpList _ _ _ _ (Act.put _ _ (.agg ((prog.built 273 [(0,.int .i64 1),(1,.int .i64 6),(2,.int .i64 11),(3,.int .i64 12)]).getD #[]))) _;rw[quad_b5];simp only[Act.put,List.setIfInBounds_toArray,List.set_cons_zero,List.set_cons_succ,Option.getD_some];refine wpList_build rfl 273 #[(0,.const (.int .i64 2)),(1,.const (.int .i64 7)),(2,.const (.int .i64 8)),(3,.const (.int .i64 13))] rfl (by rw[quad_m6];show (prog.built 273 [(0,.int .i64 2),(1,.int .i64 7),(2,.int .i64 8),(3,.int .i64 13)]).isSome=true;rw[quad_b6];rfl) ?_;rw[quad_m6];change wpList _ _ _ _ (Act.put _ _ (.agg ((prog.built 273 [(0,.int .i64 2),(1,.int .i64 7),(2,.int .i64 8),(3,.int .i64 13)]).getD #[]))) _;rw[quad_b6];simp only[Act.put,List.setIfInBounds_toArray,List.set_cons_zero,List.set_cons_succ,Option.getD_some];refine wpList_build rfl 273 #[(0,.const (.int .i64 3)),(1,.const (.int .i64 4)),(2,.const (.int .i64 9)),(3,.const (.int .i64 14))] rfl (by rw[quad_m7];show (prog.built 273 [(0,.int .i64 3),(1,.int .i64 4),(2,.int .i64 9),(3,.int .i64 14)]).isSome=true;rw[quad_b7];rfl) ?_;rw[quad_m7]
 change wpList _ _ _ _ (Act.put _ _ (.agg ((prog.built 273 [(0,.int .i64 3),(1,.int .i64 4),(2,.int .i64 9),(3,.int .i64 14)]).getD #[]))) _;rw[quad_b7];simp only[Act.put,List.setIfInBounds_toArray,List.set_cons_zero,List.set_cons_succ,Option.getD_some];refine wpList_build rfl 274 #[(0,.tmp 1),(1,.tmp 2),(2,.tmp 3),(3,.tmp 4),(4,.tmp 5),(5,.tmp 6),(6,.tmp 7),(7,.tmp 8)] rfl (by rw[quad_m];show (prog.built 274 [(0,.agg #[.int .i64 0,.int .i64 4,.int .i64 8,.int .i64 12]),(1,.agg #[.int .i64 1,.int .i64 5,.int .i64 9,.int .i64 13]),(2,.agg #[.int .i64 2,.int .i64 6,.int .i64 10,.int .i64 14]),(3,.agg #[.int .i64 3,.int .i64 7,.int .i64 11,.int .i64 15]),(4,.agg #[.int .i64 0,.int .i64 5,.int .i64 10,.int .i64 15]),(5,.agg #[.int .i64 1,.int .i64 6,.int .i64 11,.int .i64 12]),(6,.agg #[.int .i64 2,.int .i64 7,.int .i64 8,.int .i64 13]),(7,.agg #[.int .i64 3,.int .i64 4,.int .i64 9,.int .i64 14])]).isSome=true;rw[quad_b];rfl) ?_;rw[quad_m];change wpList _ _ _ _ (Act.put _ _ (.agg ((prog.built 274 [(0,.agg #[.int .i64 0,.int .i64 4,.int .i64 8,.int .i64 12]),(1,.agg #[.int .i64 1,.int .i64 5,.int .i64 9,.int .i64 13]),(2,.agg #[.int .i64 2,.int .i64 6,.int .i64 10,.int .i64 14]),(3,.agg #[.int .i64 3,.int .i64 7,.int .i64 11,.int .i64 15]),(4,.agg #[.int .i64 0,.int .i64 5,.int .i64 10,.int .i64 15]),(5,.agg #[.int .i64 1,.int .i64 6,.int .i64 11,.int .i64 12]),(6,.agg #[.int .i64 2,.int .i64 7,.int .i64 8,.int .i64 13]),(7,.agg #[.int .i64 3,.int .i64 4,.int .i64 9,.int .i64 14])]).getD #[]))) _;rw[quad_b]
 simp only[Act.put,List.setIfInBounds_toArray,List.set_cons_zero,List.set_cons_succ,Option.getD_some];refine wpList_store_row rfl 274 (.tmp 0) (.tmp 9) rfl w.heap.size #[.int .i64 0,.int .i64 4,.int .i64 8,.int .i64 12,.int .i64 1,.int .i64 5,.int .i64 9,.int .i64 13,.int .i64 2,.int .i64 6,.int .i64 10,.int .i64 14,.int .i64 3,.int .i64 7,.int .i64 11,.int .i64 15,.int .i64 0,.int .i64 5,.int .i64 10,.int .i64 15,.int .i64 1,.int .i64 6,.int .i64 11,.int .i64 12,.int .i64 2,.int .i64 7,.int .i64 8,.int .i64 13,.int .i64 3,.int .i64 4,.int .i64 9,.int .i64 14] rfl rfl 274 _ HZ.out (by kernel_rfl) (by simp) (by simp[Value.oneCell']) ?_;go_wp2_with fail;refine bodyPost_ret (results_cell_row rfl _ _ w.heap.size 274 _ (0,0) _ rfl (setRow_heap _ _ _ _ _ _ HZ.out) underlying274 rfl (by kernel_rfl)) rfl ?_;exact⟨rfl,below_setRow HB.out (Nat.le_refl _) _⟩
theorem run_index_p (w:World) (cs:Array Value) (r:Nat) (hr:r<10) {v:Value} (hv:cs[r]?=some v):(Instr.index 271 (.agg cs) (.int .i64 (r:Int))).run prog w=.ok v w:=by
 have hn:(0:Int)<=(r:Int)/\(r:Int)<(10:Nat):=by omega
 have hu:=underlying271;simp[Instr.index,run_underlying hu,asIntOf,hn,hr,hv,go_sem]
theorem run_index_q (w:World) (cs:Array Value) (r:Nat) (hr:r<8) (hc:cs.size=32):(Instr.index 274 (.agg cs) (.int .i64 (r:Int))).run prog w=.ok (.agg (cs.extract (r*4) (r*4+4))) w:=by
 have hn:(0:Int)<=(r:Int)/\(r:Int)<(8:Nat):=by omega
 have hu:=underlying274;have h32:r*4+4<=32:=by omega
 simp[Instr.index,run_underlying hu,asIntOf,hn,hr,hc,h32,go_sem]
def permI:Nat->Int
 |0=>81985529216486895
 |1=>16881918945140062035
 |2=>13312731748010193300
 |3=>8733003861693448440
 |4=>10400822202260547645
 |5=>3200383143768358425
 |6=>14204332651957162635
 |7=>15816291393287259690
 |8=>8064173457993569445
 |9=>11710614767857974480
 |_=>0
theorem perm_at:∀r,r<10->(#[.int .u64 81985529216486895,.int .u64 16881918945140062035,.int .u64 13312731748010193300,.int .u64 8733003861693448440,.int .u64 10400822202260547645,.int .u64 3200383143768358425,.int .u64 14204332651957162635,.int .u64 15816291393287259690,.int .u64 8064173457993569445,.int .u64 11710614767857974480]:Array Value)[r]?=some (.int .u64 (permI r))
 |0,_=>rfl
 |1,_=>rfl
 |2,_=>rfl
 |3,_=>rfl
 |4,_=>rfl
 |5,_=>rfl
 |6,_=>rfl
 |7,_=>rfl
 |8,_=>rfl
 |9,_=>rfl
 |n+10,h=>absurd h (by omega)
theorem perm_xy:∀r:Nat,r<10->∀k:Nat,k<8->bits .and .u64 (permI r/2^(60-8*(k:Int)).toNat) 15=(sigN r (2*k):Int)/\bits .and .u64 (permI r/2^(56-8*(k:Int)).toNat) 15=(sigN r (2*k+1):Int):=by decide +kernel
def quadsV:Value:=.agg #[.int .i64 0,.int .i64 4,.int .i64 8,.int .i64 12,.int .i64 1,.int .i64 5,.int .i64 9,.int .i64 13,.int .i64 2,.int .i64 6,.int .i64 10,.int .i64 14,.int .i64 3,.int .i64 7,.int .i64 11,.int .i64 15,.int .i64 0,.int .i64 5,.int .i64 10,.int .i64 15,.int .i64 1,.int .i64 6,.int .i64 11,.int .i64 12,.int .i64 2,.int .i64 7,.int .i64 8,.int .i64 13,.int .i64 3,.int .i64 4,.int .i64 9,.int .i64 14]
theorem quads_any (w:World):Calls prog 202 #[] w fun e w'=>e=.returned quadsV/\Below w.heap.size w w':=bquads_any w
theorem quad_col:∀k:Nat,k<8->(#[.int .i64 0,.int .i64 4,.int .i64 8,.int .i64 12,.int .i64 1,.int .i64 5,.int .i64 9,.int .i64 13,.int .i64 2,.int .i64 6,.int .i64 10,.int .i64 14,.int .i64 3,.int .i64 7,.int .i64 11,.int .i64 15,.int .i64 0,.int .i64 5,.int .i64 10,.int .i64 15,.int .i64 1,.int .i64 6,.int .i64 11,.int .i64 12,.int .i64 2,.int .i64 7,.int .i64 8,.int .i64 13,.int .i64 3,.int .i64 4,.int .i64 9,.int .i64 14]:Array Value).extract (k*4) (k*4+4)= #[.int .i64 ((colW k).getD 0 0:Nat),.int .i64 ((colW k).getD 1 0:Nat),.int .i64 ((colW k).getD 2 0:Nat),.int .i64 ((colW k).getD 3 0:Nat)]
 |0,_=>rfl
 |1,_=>rfl
 |2,_=>rfl
 |3,_=>rfl
 |4,_=>rfl
 |5,_=>rfl
 |6,_=>rfl
 |7,_=>rfl
 |n+8,h=>absurd h (by omega)
def Four (a b c d:Nat):Prop:=a<16/\b<16/\c<16/\d<16/\a≠b/\a≠c/\a≠d/\b≠c/\b≠d/\c≠d
theorem col_four:∀k:Nat,k<8->Four ((colW k).getD 0 0) ((colW k).getD 1 0) ((colW k).getD 2 0) ((colW k).getD 3 0):=by unfold Four;decide
theorem qstep (w:World) (r k:Nat) (h:r<10) (hk:k<8):∃a b c d x y:Nat,Four a b c d/\x<16/\y<16/\bits .and .u64 (permI r/2^(60-8*(k:Int)).toNat) 15=(x:Int)/\bits .and .u64 (permI r/2^(56-8*(k:Int)).toNat) 15=(y:Int)/\(Instr.index 274 quadsV (.int .i64 (k:Int))).run prog w=.ok (.agg #[.int .i64 (a:Int),.int .i64 (b:Int),.int .i64 (c:Int),.int .i64 (d:Int)]) w/\∀M V:List Int,rndW M V (8*r+k+1)=mixW (rndW M V (8*r+k)) a b c d (getW M x) (getW M y):=
 ⟨_,_,_,_,sigN r (2*k),sigN r (2*k+1),col_four k hk,sigN_lt r h _ (by omega),sigN_lt r h _ (by omega),(perm_xy r h k hk).1,(perm_xy r h k hk).2,by rw[<-quad_col k hk];exact run_index_q w _ k hk rfl,fun M V=>(rndW_step hk).trans rfl⟩
theorem Bld.below {A W:World} {K b:Nat} {l:List Nat} (h:Bld A K b l) (hb:Below A.heap.size A W):Bld W K b l:=by
 have hk:∀(k:Nat) (o:Obj),A.heap[k]?=some o->W.heap[k]?=some o:=fun k o ho=>by
  have hlt:k<A.heap.size:=by
   rcases Nat.lt_or_ge k A.heap.size with h'|h'
   ·exact h'
   ·rw[Array.getElem?_eq_none h']at ho;cases ho
  rw[hb.block k hlt]
  exact ho
 have key:∀p,Lib.BuilderAtF 135 5 K b p (l.map u8V) A->Lib.BuilderAtF 135 5 K b p (l.map u8V) W:=by rintro p ⟨hB,v,hb,hown,hne⟩;refine⟨hB,v,hk _ _ hb,⟨hown.1,?_⟩,hne⟩;rcases hown.2 with hn|⟨g,cap,cur,fz,hv,hbg,hg,rest⟩;{exact .inl hn};{exact .inr ⟨g,cap,cur,fz,hv,hbg,hk _ _ hg,rest⟩}
 exact Or.elim h (fun x=>.inl (key _ x)) (fun x=>.inr (key _ x))
theorem Bld.alloc {A:World} {K b:Nat} {l:List Nat} (h:Bld A K b l) (o:Obj):Bld (A.alloc o) K b l:=h.below ((Below.refl _ _).alloc (Nat.le_refl _) _)
theorem Bld.drew {A:World} {K b:Nat} {l:List Nat} (h:Bld A K b l):Bld A.drew K b l:=h.below (Below.refl _ _).drew
theorem wsB (w:World) (B b:Nat) (l:List Nat) (s:ByteArray) (h:Bld w B b l) (hl:l.length<=1000000000) (hs:s.size<=1000000000) (hB:B<=w.heap.size):
  Calls prog 64 #[.pointer (some ⟨b,0,none⟩),.string s] w fun e w'=>e=.returned (.tuple #[.int .i64 s.size,.nilIface])/\Bld w' B b (l++bs s)/\Below B w w':=by
 refine(Tryz.Builder_WriteString_k B b _ s w h (by rw[List.length_map];omega) hB).mono fun e w' ⟨he,h1,hb,_⟩=>⟨he,?_,hb⟩
 have:=Or.inr (a:=Lib.BuilderAtF 135 5 B b (.pointer none) (l.map u8V++Lib.strCells s) w') h1;have e1:(l++bs s).map u8V=l.map u8V++Lib.strCells s:=by rw[List.map_append];unfold Lib.strCells bs;rw[List.map_map];rfl
 show Lib.IsBuilderF _ _ _ _ _ _;rw[e1];exact this
theorem wsK (w:World) (B b:Nat) (l:List Nat) (s:ByteArray) (h:Bld w B b l) (hl:l.length<=1000000000) (hs:s.size<=1000000000) (hB:B<=w.heap.size):
  Calls prog 64 #[.pointer (some ⟨b,0,none⟩),.string s] w fun e w'=>e=.returned (.tuple #[.int .i64 s.size,.nilIface])/\Bld w' B b (l++bs s)/\Below B w w'/\Lib.OthersKept 5 (some b) w w':=by
 refine(Tryz.Builder_WriteString_k B b _ s w h (by rw[List.length_map];omega) hB).mono fun e w' ⟨he,h1,hb,ho⟩=>⟨he,?_,hb,ho⟩
 have:=Or.inr (a:=Lib.BuilderAtF 135 5 B b (.pointer none) (l.map u8V++Lib.strCells s) w') h1;have e1:(l++bs s).map u8V=l.map u8V++Lib.strCells s:=by rw[List.map_append];unfold Lib.strCells bs;rw[List.map_map];rfl
 show Lib.IsBuilderF _ _ _ _ _ _;rw[e1];exact this
theorem Bld.lt {A:World} {K b:Nat} {l:List Nat} (h:Bld A K b l):b<A.heap.size:=by
 have key:∀p,Lib.BuilderAtF 135 5 K b p (l.map u8V) A->b<A.heap.size:=by rintro p ⟨_,v,hb,_⟩;rcases Nat.lt_or_ge b A.heap.size with h'|h';{exact h'};{rw[Array.getElem?_eq_none h']at hb;cases hb}
 exact Or.elim h (key _) (key _)
theorem Blk.others {w w':World} {g b:Nat} {t:TypeId} {us:List Value} (h:Blk w g t us) (ho:Lib.OthersKept 5 (some b) w w') (hne:g≠b) (ht:t≠5):Blk w' g t us:=
 ho g _ h (fun e=>hne (Option.some.inj e)) (fun c fz e=>ht (by cases e;rfl))
theorem lenB (w:World) (B b:Nat) (l:List Nat) (h:Bld w B b l):Calls prog 102 #[.pointer (some ⟨b,0,none⟩)] w fun e w'=>e=.returned (.int .i64 (l.length:Int))/\w'=w:=by
 refine(Tryz.Builder_Len_f B b _ w h).mono fun e w' ⟨he,hw⟩=>⟨?_,hw⟩
 rw[he,List.length_map]
def nstsL (l:List ByteArray):List Nat:=l.flatMap fun s=>nstL (bs s)
theorem nstsL_take {l:List ByteArray} {i:Nat} {s:ByteArray} (h:l[i]?=some s):nstsL (l.take (i+1))=nstsL (l.take i)++nstL (bs s):=by
 unfold nstsL;rw[List.take_add_one,h,List.flatMap_append];simp
theorem nstL_lt (s:ByteArray):∀b∈nstL (bs s),b<256:=by
 intro b hb;unfold nstL at hb;simp only[List.mem_append,List.mem_singleton]at hb;rcases hb with((hb|rfl)|hb)|rfl;{have:=digD_bytes _ b hb;omega};{decide};{exact bs_lt s b hb};{decide}
theorem numL_lt (n:Nat):∀b∈numL n,b<256:=by
 intro b hb;unfold numL at hb;simp only[List.mem_append,List.mem_singleton]at hb;rcases hb with hb|rfl;{have:=digD_bytes _ b hb;omega};{decide}
theorem nstsL_lt (l:List ByteArray):∀b∈nstsL l,b<256:=by
 intro b hb;obtain⟨s,_,hs⟩:=List.mem_flatMap.1 hb;exact nstL_lt s b hs
theorem nstsL_len {l:List ByteArray} {m:Nat} (hm:m<=1000000000) (h:∀s∈l,s.size<=m):(nstsL l).length<=l.length*(m+22):=by
 induction l with
 |nil=>simp[nstsL]
 |cons s r ih=>
 have h1:=nstL_len s (by have:=h s List.mem_cons_self;omega);rw[strB_size]at h1;have h2:=ih fun x hx=>h x (List.mem_cons_of_mem _ hx);have h3:=h s List.mem_cons_self;have e:nstsL (s::r)=nstL (bs s)++nstsL r:=by unfold nstsL;rw[List.flatMap_cons]
 rw[e,List.length_append,List.length_cons,Nat.add_mul,Nat.one_mul];omega
theorem nstrings_any (w:World) (v:Value) (l:List ByteArray) (hv:SeqAt strS w v l) (hl:l.length<=100) (hs:∀s∈l,s.size<=1000000) (hT:Tab w):Calls prog 143 #[v] w fun e w'=>e=.returned (.string (strB (nstsL l)))/\Below w.heap.size w w':=by
 have HL:=zY hv;obtain⟨A,c,rfl,h1,h2⟩:=hv.slice;have HSz:Hid (∀i,(nstsL (l.take i)).length<=200000000):=zY (fun i=>by
  have h3:=nstsL_len (l:=l.take i) (m:=1000000) (by omega) (fun s hs'=>hs s (List.mem_of_mem_take hs'))
  have h4:=Nat.mul_le_mul (show (l.take i).length<=100 by rw[List.length_take];omega) (Nat.le_refl (1000000+22))
  omega);have Hs:=zY hs;have HT:=zY hT;clear hv hs hT;go_enter func143,ntmps143;go_wp2;go_loopw [8] (fun x wr=>∃i:Nat,i<=l.length/\x=.int .i64 (i:Int)/\Bld wr w.heap.size w.heap.size (nstsL (l.take i))/\Below w.heap.size w wr) (fun x _=>l.length-(intOf x).toNat);case atStart=>exact⟨0,by omega,rfl,Bld.new w,(Below.refl _ _).alloc (Nat.le_refl _) _⟩
 case round=>
 obtain⟨i,hi,rfl,hbl,hB⟩:=hrel;have HBl:=zY hbl;have HB:=zY hB;clear hbl hB;by_cases h:i<l.length;{
 have hiI:(i:Int)<l.length:=by omega
 obtain⟨x,hx⟩:∃x,l[i]?=some x:=⟨_,List.getElem?_eq_getElem h⟩;have Hst:=zY (nstsL_take hx);have hxs:=Hs.out x (List.mem_of_getElem? hx);obtain⟨_,_,e9,_,_,h4⟩:=HL.below HB.out;cases e9;obtain⟨b,o,cs,rfl,rfl,hc⟩:=h4 i x hx;have e0:wr.cell? ⟨b,o+i*1,none⟩=some (.string x):=hc 0 _ rfl;rw[Nat.mul_one]at e0;have HC:=zY (nnstring_any wr x (by omega) (HT.below HB.out));have hq:=nstL_len x (by omega);obtain⟨X,hX⟩:=zNm (strB (nstL (bs x)));have HX:Hid (bs X=nstL (bs x)):=zY (by rw[<-hX,bs_strB (nstL_lt x)]);rw[hX]at HC hq;clear hc h4 hx hX;go_wp2_with fail;refine HC.mono ?_;rintro e w2 ⟨rfl,hb2⟩;have HW:=zY (wsB w2 w.heap.size w.heap.size _ X (HBl.below hb2) (by have:=HSz.out i;omega) (by omega) (HB.trans (hb2.mono HB.size)).size);have HB2:=zYt HB hb2;clear hb2;go_wp2_with fail;refine HW.mono ?_;rintro e3 w3 ⟨rfl,hbl3,hb3⟩;have HBl3:=zY hbl3;have HB3:=zY (HB2.trans hb3);clear hbl3 hb3;go_wp2_with fail;go_roundw;case rel=>exact⟨i+1,by omega,by go_num,by rw[Hst.out,<-HX.out];exact HBl3.out,HB3.out⟩
 case measure=>simp[intOf];omega};{
 obtain rfl:i=l.length:=by omega
 have hiI:¬((l.length:Nat):Int)<(l.length:Int):=by omega
 have HS:=zY (str_any wr w.heap.size w.heap.size _ (nstsL_lt _) HBl.out HB.size);rw[List.take_length]at HS;go_wp2_with fail;refine HS.mono ?_;rintro e2 w2 ⟨rfl,_,hb2⟩;have HB2:=zY (HB.trans hb2);clear hb2;go_wp2_with fail;go_ret;exact⟨rfl,HB2.out⟩}
theorem Blk.drewV {w:World} {g:Nat} {t:TypeId} {us:List Value} (h:Blk w g t us):Blk w.drew g t us:=h.kept (Below.refl _ _).drew
theorem namesB_at {m:Nat} (h:m<6):namesB[m]?=some (nameK ((m:Int)+1)):=by
 rcases (by omega:m=0∨m=1∨m=2∨m=3∨m=4∨m=5)with rfl|rfl|rfl|rfl|rfl|rfl<;>rfl
structure EntZ (e:Ent):Prop where
 path:e.path.size<=200
 tgt:e.tgt.size<=200
 atn:e.attrs.length<=16
 kv:∀a∈e.attrs,a.k.size<=64/\a.v.size<=64
 dig:e.dig.size<=32
 exn:e.exts.length<=65536
theorem EntOk.z {e:Ent} (h:EntOk e):EntZ e:=by
 have hA:=attrsE_ok h.attrs;refine⟨?_,?_,hA.len,fun a ha=>?_,?_,?_⟩;{
 have:=h.path;unfold pathE at this;split at this;{cases this};{
 rw[bs_len]at *;omega}};{
 have:=h.tgt;unfold tgtB at this;split at this;{exact(of_decide_eq_true this).2};{
 split at this;{
 rw[dateB,Bool.and_eq_true]at this;have:=(of_decide_eq_true this.1).2.1;rw[bs_len]at this;omega};{
 have:=of_decide_eq_true this;omega}}};{
 obtain⟨h1,h2⟩:=hA.key a ha;rw[keyB,Bool.and_eq_true]at h1;have:=(of_decide_eq_true h1.1).2;rw[bs_len]at this;omega};{
 by_cases hk:e.k=1;{have:=h.dig.1 hk;omega};{have:=h.dig.2 hk;omega}};{
 have key:∀l:List Ext,(∀x∈l,extB x=true)->(l.length:Int)<=sumX l:=by{
 intro l;induction l with
 |nil=>intro _;exact Int.le_refl _
 |cons x r ih=>
 intro hx;have h1:=of_decide_eq_true (hx x List.mem_cons_self);have h2:=ih fun y hy=>hx y (List.mem_cons_of_mem _ hy);rw[sumX,List.length_cons];omega};have h1:=key _ h.exts.2.1;have h2:=h.exts.2.2;have h3:=h.size;omega}
theorem headL_len {e:Ent} (h:EntOk e):(headL e).length<=4000:=by
 have z:=h.z;have h1:=nstL_len (nameK e.k) (by have:=(nameK_some h.kind).2;omega);have h1':=(nameK_some h.kind).2;have h2:=nstL_len e.path (by have:=z.path;omega);have h3:=numL_len e.attrs.length (by have:=z.atn;omega);have h4:=atrL_len (l:=e.attrs) (m:=64) (by omega) z.kv;have h5:=nstL_len e.tgt (by have:=z.tgt;omega);have h6:=Nat.mul_le_mul z.atn (Nat.le_refl (2*64+44));have h7:=z.path;have h8:=z.tgt;rw[strB_size]at h1 h2 h3 h5;rw[headL,List.length_append,List.length_append,List.length_append,List.length_append];omega
theorem atrL_lt (l:List Atr):∀b∈atrL l,b<256:=by
 intro b hb;obtain⟨a,_,ha⟩:=List.mem_flatMap.1 hb;rcases List.mem_append.1 ha with ha|ha;{exact nstL_lt _ b ha};{exact nstL_lt _ b ha}
theorem headL_lt (e:Ent):∀b∈headL e,b<256:=by
 intro b hb;unfold headL at hb;simp only[List.mem_append]at hb;rcases hb with(((hb|hb)|hb)|hb)|hb;{exact nstL_lt _ b hb};{exact nstL_lt _ b hb};{exact numL_lt _ b hb};{exact atrL_lt _ b hb};{exact nstL_lt _ b hb}
theorem nsts2 (a b:ByteArray):nstsL [a,b]=nstL (bs a)++nstL (bs b):=by
 unfold nstsL;simp
theorem enhead_ok (w:World) (e:Ent) (va vx:Value) (hva:SeqAt atrS w va e.attrs) (hvx:SeqAt extS w vx e.exts) (h:EntOk e) (hT:Tab w):Calls prog 180 #[entV e va vx] w fun r w'=>r=.returned (.tuple #[.string (strB (headL e)),.int .i64 0])/\Below w.heap.size w w':=by
 have HCk:=zY (fun W (hW:Below w.heap.size w W)=>encheck_ok W e va vx (hva.below hW) (hvx.below hW) h (hT.below hW));have HNm:Hid (∀W:World,Calls prog 264 #[] W fun e w'=>(∃g,e=.returned (.slice (some ⟨g,0,none⟩) 6 6)/\Blk w' g 9 (namesB.map Value.string))/\Below W.heap.size W w'):=zY (fun W=>(ennames_any W).mono fun e w' ⟨he,hw⟩=>⟨⟨_,he,by rw[hw];exact Blk.new W 9 (namesB.map Value.string)⟩,by rw[hw];exact(Below.refl _ _).alloc (Nat.le_refl _) _⟩);have HT:=zY hT;have z:=h.z;have HhL:=zY (headL_len h);obtain⟨m,hm⟩:∃m:Nat,e.k=(m:Int)+1:=⟨(e.k-1).toNat,by have:=h.kind;omega⟩;have hm6:m<6:=by have:=h.kind;omega
 have HLt:=zY (headL_lt e);clear h hT;obtain⟨k,path,attrs,t,size,dig,exts⟩:=e;dsimp only at hm hva hvx;subst hm;obtain⟨R,hR⟩:=zNm (headL ⟨(m:Int)+1,path,attrs,t,size,dig,exts⟩);rw[hR]at HhL HLt⊢;rw[headL]at hR;obtain⟨N,hN⟩:=zNm (nameK ((m:Int)+1));have HNn:Hid (namesB[m]?=some N):=zY (by rw[namesB_at hm6,hN]);have hNs:N.size<=7:=by rw[<-hN];exact(nameK_some (by omega)).2
 dsimp only at hR;rw[hN]at hR;have hz1:=z.path;have hz2:=z.tgt;have hz3:=z.atn;have Hkv:=zY z.kv;clear z hN;dsimp only at hz1 hz2 hz3 Hkv;have HR:=zY hR;clear hR;have Hva:=zY hva;obtain⟨Aa,ca,rfl,ha1,ha2⟩:=hva.slice;obtain⟨Ax,cx,rfl,hx1,hx2⟩:=hvx.slice;clear hva hvx;rw[entV]at HCk⊢;dsimp only at HCk⊢;have hK:=Blk.new w 182 [.int .i64 ((m:Int)+1),.string path,.slice Aa attrs.length ca,.string t,.int .i64 size,.string dig,.slice Ax exts.length cx];change Blk (w.alloc (.cells #[.int .i64 ((m:Int)+1),.string path,.slice Aa attrs.length ca,.string t,.int .i64 size,.string dig,.slice Ax exts.length cx] 182)) _ _ _ at hK;have HB0:=zY (zBl w (.cells #[.int .i64 ((m:Int)+1),.string path,.slice Aa attrs.length ca,.string t,.int .i64 size,.string dig,.slice Ax exts.length cx] 182));have HK:=zY hK;clear hK;obtain⟨X,hX⟩:=zNm (strB (nstsL [N,path]));have HXb:Hid (bs X=nstL (bs N)++nstL (bs path)):=zY (by rw[<-hX,bs_strB (nstsL_lt _),nsts2]);have HXz:Hid (X.size<=1000000000):=zY (by
  have h1:=nstL_len N (by omega)
  have h2:=nstL_len path (by omega)
  rw[strB_size]at h1 h2
  rw[<-hX,strB_size,nsts2,List.length_append]
  omega);have hwr:IntKind.i64.wrap ((m:Int)+1-1)=(m:Int):=by rw[zIw (by omega)];omega
 have hwr2:(m:Int)+1-1=m:=by omega
 have hwr3:IntKind.i64.wrap (m:Int)=(m:Int):=by rw[zIw (by omega)]
 have hm6I:(m:Int)<6:=by omega
 go_enter func180,ntmps180;go_upto_region 1 with fail;generalize w.alloc (.cells #[.int .i64 ((m:Int)+1),.string path,.slice Aa attrs.length ca,.string t,.int .i64 size,.string dig,.slice Ax exts.length cx] 182)=wb at *;have c0:=HK.c 0;have c1:=HK.c 1;have c2:=HK.c 2;have c3:=HK.c 3;have c4:=HK.c 4;have c5:=HK.c 5;have c6:=HK.c 6;go_wp2_with fail;refine(HCk.out _ HB0.out).mono ?_;rintro e1 w1 ⟨rfl,hb1⟩;have HK1:=zY (HK.kept hb1);have HB1:=zYt HB0 hb1;clear hb1 c0 c1 c2 c3 c4 c5 c6 HK HB0;have HSs:Hid (∀(W:World) (v:Value),Below w1.heap.size w1 W->SeqAt strS W v [N,path]->Calls prog 143 #[v] W fun e w'=>e=.returned (.string X)/\Below W.heap.size W w'):=zY (fun W v hW hv=>by
  rw[<-hX]
  exact nstrings_any W v [N,path] hv (by simp) (fun s hs=>by
   simp only[List.mem_cons,List.not_mem_nil,or_false]at hs
   rcases hs with rfl|rfl<;>omega) (HT.below (HB1.trans (hW.mono HB1.size))));clear hX;have HBl0:=zY (Bld.new w1);have HBc0:=zY (zBl w1 (.cells #[.pointer none,.slice none 0 0] 135));go_upto_region 5 with fail;generalize w1.alloc (.cells #[.pointer none,.slice none 0 0] 135)=wz at *;have HBl:=zY HBl0.drew;have HBc:=zY HBc0.drew;go_cut [] (fun wx=>Bld wx w1.heap.size w1.heap.size ([]++bs X)/\Below w1.heap.size w1 wx);case first=>(
 refine wp_region_held_drew (S:=(fun W=>W.cell? ⟨w.heap.size,0,none⟩=some (.int .i64 ((m:Int)+1))/\W.cell? ⟨w.heap.size,1,none⟩=some (.string path))) (by kernel_rfl) ?_ (fun hHeld=>?_);{exact⟨(HK1.kept HBc.out).c 0,(HK1.kept HBc.out).c 1⟩};refine tk 1 ?_;refine tk 2 ?_;refine tk 3 ?_;refine tk 6 ?_;refine tk 7 ?_;refine zE1 0 fun K hK=>?_;go_simp;refine(HNm.out _).mono ?_;rintro e5 w5 ⟨⟨g,rfl,hnb⟩,hb5⟩;(try go_wp2_with fail);have HNb:=zY hnb;have HBl:=zY (HBl.below hb5);have HBc:=zYt HBc hb5;clear hb5 hnb;refine hko hK (by exact⟨(HK1.kept HBc.out).c 0,(HK1.kept HBc.out).c 1⟩) (fun _=>?_);clear hK K;refine tk 4 ?_;refine zE1 5 fun K hK=>?_;have q0:=HNb.cell (i:=m) (u:=.string N) (by rw[List.getElem?_map,HNn.out];rfl);go_simp;clear q0;refine hko hK (by exact⟨(HK1.kept HBc.out).c 0,(HK1.kept HBc.out).c 1⟩) (fun _=>?_);clear hK K;refine zE1 8 fun K hK=>?_;go_simp;have HV:=zY (SeqAt.strs _ [N,path] 2 (Nat.le_refl 2) (by decide):SeqAt strS (w5.alloc (.cells #[.string N,.string path] 9)) _ [N,path]);have HBl:=zY (HBl.alloc (.cells #[.string N,.string path] 9));have HBc:=zY (HBc.alloc HBc.size (.cells #[.string N,.string path] 9));refine hko hK (by exact⟨(HK1.kept HBc.out).c 0,(HK1.kept HBc.out).c 1⟩) (fun _=>?_);clear hK K;refine zE1 9 fun K hK=>?_;go_simp;refine(HSs.out _ _ HBc.out HV.out).mono ?_;rintro e6 w6 ⟨rfl,hb6⟩;(try go_wp2_with fail);have HBl:=zY (HBl.below hb6);have HBc:=zYt HBc hb6;clear hb6;refine hko hK (by exact⟨(HK1.kept HBc.out).c 0,(HK1.kept HBc.out).c 1⟩) (fun _=>?_);clear hK K;refine zE1 10 fun K hK=>?_;go_simp
 refine(wsB _ _ _ _ X HBl.out (by decide) HXz.out HBc.size).mono ?_;rintro e7 w7 ⟨rfl,hbl7,hb7⟩;(try go_wp2_with fail);have HBl:=zY hbl7;have HBc:=zY (HBc.trans hb7);clear hb7 hbl7;refine hko hK (by exact⟨(HK1.kept HBc.out).c 0,(HK1.kept HBc.out).c 1⟩) (fun _=>?_);clear hK K;refine wpAnyH_done (by kernel_rfl) ?_ _;go_wp2_with fail;go_meet;exact⟨HBl.out,HBc.out⟩)
 case rest=>
 obtain⟨hbl,hbc⟩:=hcut;have HBl1:=zY hbl;have HBc1:=zY hbc;clear hbl hbc HBl HBc HBl0 HBc0;have HK2:=zY (HK1.kept HBc1.out);have c2:=HK2.c 2;have HNu:=zY (nnumber_any wc attrs.length (by omega) (HT.below (HB1.trans (HBc1.mono HB1.size))));obtain⟨Y,hY⟩:=zNm (strB (numL attrs.length));have HYb:Hid (bs Y=numL attrs.length):=zY (by rw[<-hY,bs_strB (numL_lt _)]);have HYz:=zY (show Y.size<=21 by rw[<-hY];exact numL_len _ (by omega));rw[hY]at HNu;clear hY;go_wp2_with fail;refine HNu.mono ?_;rintro e2 w2 ⟨rfl,hb2⟩;have HW:=zY (wsB w2 w1.heap.size w1.heap.size _ Y (HBl1.below hb2) (by rw[List.nil_append,bs_len];exact HXz.out) (by have:=HYz.out;omega) (HBc1.trans (hb2.mono HBc1.size)).size);have HBc2:=zYt HBc1 hb2;clear hb2 c2;go_wp2_with fail;refine HW.mono ?_;rintro e3 w3 ⟨rfl,hbl3,hb3⟩;obtain⟨A0,hA0⟩:=zNm ([]++bs X++bs Y);rw[hA0]at hbl3;have HA0:Hid (A0=nstL (bs N)++nstL (bs path)++numL attrs.length):=zY (by rw[<-hA0,List.nil_append,HXb.out,HYb.out]);have HA0l:Hid (A0.length<=1000):=zY (by
  have h1:=nstL_len N (by omega)
  have h2:=nstL_len path (by omega)
  have h3:=numL_len attrs.length (by omega)
  rw[strB_size]at h1 h2 h3
  rw[HA0.out,List.length_append,List.length_append]
  omega);have HBl3:=zY hbl3;have HBc3:=zY (HBc2.trans hb3);have HK3:=zY (HK1.kept HBc3.out);clear hbl3 hb3 hA0 HBl1 HBc1 HBc2 HK2 HW;have c2:=HK3.c 2;have HAl:Hid (∀i,(atrL (attrs.take i)).length<=10000):=zY (fun i=>by
  have h1:=atrL_len (l:=attrs.take i) (m:=64) (by omega) (fun a h=>Hkv.out a (List.mem_of_mem_take h))
  have h2:=Nat.mul_le_mul (show (attrs.take i).length<=16 by rw[List.length_take];omega) (Nat.le_refl (2*64+44))
  omega);go_wp2;go_loopw [32] (fun x wr=>∃i:Nat,i<=attrs.length/\x=.int .i64 (i:Int)/\Bld wr w1.heap.size w1.heap.size (A0++atrL (attrs.take i))/\Below w1.heap.size w1 wr) (fun x _=>attrs.length-(intOf x).toNat);case atStart=>exact⟨0,by omega,rfl,by rw[List.take_zero,show atrL []=[] from rfl,List.append_nil];exact HBl3.out,HBc3.out⟩
 case round=>
 obtain⟨i,hi,rfl,hbl,hB⟩:=hrel;have HBl:=zY hbl;have HB:=zY hB;clear hbl hB c2;by_cases h:i<attrs.length;{
 have hiI:(i:Int)<attrs.length:=by omega
 obtain⟨a,ha⟩:∃a,attrs[i]?=some a:=⟨_,List.getElem?_eq_getElem h⟩;obtain⟨hak,hav⟩:=Hkv.out a (List.mem_of_getElem? ha);have HNx:=zY (atrL_take ha);obtain⟨_,_,e9,_,_,h4⟩:=Hva.below (HB1.trans (HB.mono HB1.size));cases e9;obtain⟨b,o,cs,rfl,rfl,hc⟩:=h4 i a ha;obtain⟨ak,av⟩:=a;dsimp only at hak hav HNx;have e0:wr.cell? ⟨b,o+i*2,none⟩=some (.string ak):=hc 0 _ rfl;have e1:wr.cell? ⟨b,o+i*2+1,none⟩=some (.string av):=hc 1 _ rfl;have hTm:=Blk.new wr 93 [.string ak,.string av];change Blk (wr.alloc (.cells #[.string ak,.string av] 93)) _ _ _ at hTm;have HTm:=zY hTm;have HBt:=zY (HB.alloc HB.size (.cells #[.string ak,.string av] 93));have HBlt:=zY (HBl.alloc (.cells #[.string ak,.string av] 93));clear hc h4 ha hTm;go_upto_region 10 with fail;generalize wr.alloc (.cells #[.string ak,.string av] 93)=wt at *;clear e0 e1;have t0:=HTm.c 0;have t1:=HTm.c 1;obtain⟨Z,hZ⟩:=zNm (strB (nstsL [ak,av]));have HZb:Hid (bs Z=nstL (bs ak)++nstL (bs av)):=zY (by rw[<-hZ,bs_strB (nstsL_lt _),nsts2]);have HZz:Hid (Z.size<=1000000000):=zY (by
  have h1:=nstL_len ak (by omega)
  have h2:=nstL_len av (by omega)
  rw[strB_size]at h1 h2
  rw[<-hZ,strB_size,nsts2,List.length_append]
  omega);have HSq:Hid (Calls prog 143 #[.slice (some ⟨wt.heap.size,0,none⟩) 2 2] (wt.alloc (.cells #[.string ak,.string av] 9)) fun e w'=>e=.returned (.string Z)/\Below (wt.alloc (.cells #[.string ak,.string av] 9)).heap.size (wt.alloc (.cells #[.string ak,.string av] 9)) w'):=zY (by
  rw[<-hZ]
  exact nstrings_any _ _ [ak,av] (SeqAt.strs wt [ak,av] 2 (Nat.le_refl 2) (by decide)) (by simp) (fun s hs=>by
   simp only[List.mem_cons,List.not_mem_nil,or_false]at hs
   rcases hs with rfl|rfl<;>omega) (HT.below (HB1.trans ((HBt.alloc HBt.size _).mono HB1.size))));clear hZ;have HBu:=zY (HBt.alloc HBt.size (.cells #[.string ak,.string av] 9));have HBlu:=zY (HBlt.alloc (.cells #[.string ak,.string av] 9));go_wp2_with fail;refine HSq.mono ?_;rintro e4 w4 ⟨rfl,hb4⟩;have HW:=zY (wsB w4 w1.heap.size w1.heap.size _ Z (HBlu.below hb4) (by rw[List.length_append];have:=HA0l.out;have:=HAl.out i;omega) HZz.out (HBu.trans (hb4.mono HBu.size)).size);have HB4:=zYt HBu hb4;clear hb4;go_wp2_with fail;refine HW.mono ?_;rintro e5 w5 ⟨rfl,hbl5,hb5⟩;have HBl5:=zY hbl5;have HB5:=zY (HB4.trans hb5);clear hbl5 hb5;go_wp2_with fail;go_roundw;case rel=>exact⟨i+1,by omega,by go_num,by rw[HNx.out,<-HZb.out,<-List.append_assoc];exact HBl5.out,HB5.out⟩
 case measure=>simp[intOf];omega};{
 obtain rfl:i=attrs.length:=by omega
 have hiI:¬((attrs.length:Nat):Int)<(attrs.length:Int):=by omega
 have HKr:=zY (HK1.kept HB.out);have c3:=HKr.c 3;obtain⟨Z,hZ⟩:=zNm (strB (nstL (bs t)));have HZb:Hid (bs Z=nstL (bs t)):=zY (by rw[<-hZ,bs_strB (nstL_lt _)]);have HZz:=zY (show Z.size<=300 by rw[<-hZ];have:=nstL_len t (by omega);omega);have HSq:=zY (nnstring_any wr t (by omega) (HT.below (HB1.trans (HB.mono HB1.size))));rw[hZ]at HSq;clear hZ;have HRl:Hid (A0++atrL (attrs.take attrs.length)++bs Z=R):=zY (by rw[<-HR.out,HA0.out,HZb.out,List.take_length]);go_wp2_with fail;refine HSq.mono ?_;rintro e4 w4 ⟨rfl,hb4⟩;have HW:=zY (wsB w4 w1.heap.size w1.heap.size _ Z (HBl.below hb4) (by rw[List.length_append];have:=HA0l.out;have:=HAl.out attrs.length;omega) (by have:=HZz.out;omega) (HB.trans (hb4.mono HB.size)).size);have HB4:=zYt HB hb4;rw[HRl.out]at HW;clear hb4;go_wp2_with fail;refine HW.mono ?_;rintro e5 w5 ⟨rfl,hbl5,hb5⟩;have HS:=zY (str_any w5 w1.heap.size w1.heap.size R HLt.out hbl5 (HB4.trans hb5).size);have HB5:=zY (HB4.trans hb5);clear hbl5 hb5;go_wp2_with fail;refine HS.mono ?_;rintro e6 w6 ⟨rfl,_,hb6⟩;have HB6:=zY (HB1.trans ((HB5.trans hb6).mono HB1.size));clear hb6;go_wp2_with fail;go_ret2;exact⟨rfl,HB6.out⟩}
end
end Go.Proofs.YthgenkkkapilhaaGreatDoor
namespace Go.Proofs.YthgenkkkapilhaaGreatDoor.rangeStr
open Go.Proofs.Tryz
section
open Go.RowKit
def noDefer (ops:Array Oper):Bool:=ops.all fun o=>match o.op with
 |.defer _=>false
 |_=>true
theorem noDefer_spec {ops:Array Oper} (h:noDefer ops=true) {i:Nat} {o:Oper} (ho:ops[i]?=some o):∀c,o.op≠.defer c:=by
 intro c hc;have h2:=(Array.all_eq_true_iff_forall_mem.1 h) o (Array.mem_of_getElem? ho);rw[hc]at h2;cases h2
theorem wpIn_of_wp {P:Program} {o:Oper} {a:Act} {w:World} {K:Act->World->Prop} {Q:Exit->Act->World->Prop} {l:Nat} (hd:∀c,o.op≠.defer c) (h:o.wp P a w K Q):o.wpIn (Fence.wide.inRound l) 0 P a w K Q:=by
 refine⟨fun _ _=>trivial,?_⟩;rw[Fence.inRound_round,Oper.semAt_some l _ _ hd];unfold Oper.wp at h;generalize (execOp a.eval o).run P w=r at *;cases r with
 |ok x w'=>(
 cases x<;>simp only[Oper.upon]at h<;>simp only[Oper.uponIn];case value v=>exact h
 case skip=>exact h
 case defer d=>exact h
 case enter f args=>exact⟨fun h=>(by cases h),CallsIn.inRound l (callsIn_wide.2 h)⟩
 case row row args=>exact⟨fun h=>(by cases h),fun c cs _=>let ⟨v,w',r,s⟩:=h c cs;⟨v,w',r,stepsIn_wide.2 s⟩⟩)
 |halt x w'=>cases x<;>simp only[Oper.upon]at h<;>simp only[Oper.uponIn]<;>exact h
theorem wpOpIn_of_wpOp {P:Program} {ops:Array Oper} {i:Nat} {a:Act} {w:World} {K:Act->World->Prop} {Q:Exit->Act->World->Prop} {l:Nat} (hd:noDefer ops=true) (hQ:∀a w,¬Q .outgrown a w) (h:wpOp P ops Q i K a w):wpOpIn (Fence.wide.inRound l) 0 P ops Q i K a w:=by
 unfold wpOp at h;unfold wpOpIn;split;{
 rename_i h0
 simp only[h0]at h;exact h};{
 rename_i o ho
 simp only[ho]at h;split;{
 rename_i hw
 simp only[hw,if_true]at h;rcases h with h|⟨_,a0,w0,h⟩;{exact wpIn_of_wp (noDefer_spec hd ho) h};{exact absurd h (hQ a0 w0)}};{
 rename_i hw
 simp only[hw]at h;exact⟨fun _ _=>trivial,h⟩}}
theorem wpAnyIn_of_wpAny {P:Program} {ops:Array Oper} {Q:Exit->Act->World->Prop} {md:Region.Mode} {l:Nat} (hd:noDefer ops=true) (hQ:∀a w,¬Q .outgrown a w):∀(fuel:Nat) (listed:Array Bool) (a:Act) (w:World),wpAny P md ops Q fuel listed a w->wpAnyIn (Fence.wide.inRound l) 0 P md ops Q fuel listed a w
 |0,_,_,_,h=>h
 |fuel+1,_,_,_,h=>⟨h.1,fun i hi=>wpOpIn_of_wpOp hd hQ (wpOp_mono (fun a' w' h'=>wpAnyIn_of_wpAny hd hQ fuel _ a' w' h') (h.2 i hi))⟩
theorem wpIn_region_held {P:Program} {ops:Array Oper} {Q:Exit->Act->World->Prop} {S:World->Prop} {l id:Nat} {a:Act} {w:World} (hm:P.follows .mixedOrders=true) (hd:noDefer ops=true) (hQ:∀a w,¬Q .outgrown a w) (hS:S w.drew)
  (h:S w.drew->wpAnyH P .any ops Q S ops.size (Array.replicate ops.size false) a w.drew):(Code.region id ops true).wpIn (Fence.wide.inRound l) 0 P Q a w:=
 wpIn_region_any hm (wpAnyIn_of_wpAny hd hQ _ _ _ _ (wpAny_of_held _ _ _ _ (h hS)))
end
end Go.Proofs.YthgenkkkapilhaaGreatDoor.rangeStr
namespace Go.Proofs.YthgenkkkapilhaaGreatDoor
open Go.Proofs.Tryz
section
open Go.RowKit
section
variable {α:Type} {ρ:Shape α} {w0 w W:World} {v:Value} {xs us:List α}
theorem OwnSeq.blk {t:TypeId} {g:Nat} {css:List (List Value)} (hB:Blk W g t css.flatten) (hb:Both (ρ.R w0) css xs) (hg:w0.heap.size<=g) (hn:xs.length<=100000000):OwnSeq ρ t w0 W (.slice (some ⟨g,0,none⟩) xs.length xs.length) xs:=by
 have hl:css.flatten.length=xs.length*ρ.n:=by rw[flat_len hb.lens,hb.len]
 refine⟨css,⟨hl,.inr ⟨g,xs.length,css.flatten.toArray,rfl,hg,hB,Nat.le_refl _,by unfold maxLen;omega,by simpa using hl,?_⟩⟩,hb⟩;rw[<-hl];exact List.take_length
theorem run_append_full {P:Program} {TS T:TypeId} {b:Nat} {z:Value} (E:Elem P TS T ρ.n b z) (ty:TypeId) {g:Nat} {css:List (List Value)} (hB:Blk w g T css.flatten) (hb:Both (ρ.R w0) css xs) (hg:w0.heap.size<=g) {vx:Value} (hv:SrcAt ρ w0 w vx us) (hn:xs.length+us.length<=100000000):
  ∃v' w',(Builtin.append_ #[TS,TS] ty #[.slice (some ⟨g,0,none⟩) xs.length xs.length,vx]).run P w=.ok v' w'/\OwnSeq ρ T w0 w' v' (xs++us)/\Below w.heap.size w w':=by
 have hl:css.flatten.length=xs.length*ρ.n:=by rw[flat_len hb.lens,hb.len]
 obtain⟨i0,hi,hz0,hz1,hz2⟩:=info_parts E.hi;by_cases h0:us=[];{
 subst h0;obtain⟨A,c,rfl,h⟩:=hv;refine⟨_,w,?_,by rw[List.append_nil];exact OwnSeq.blk hB hb hg (by simp at hn;omega),Below.refl _ _⟩;refine run_append_nothing w TS TS ty T i0 E.ht hi _ _ _ (Nat.le_refl _) _ ?_;cases A with
 |none=>exact Src.ofNil w E.ht c
 |some ad=>exact Src.ofSlice w E.ht ad 0 c [] (by simp) (fun j u hu=>by simp at hu) (fun u hu=>nomatch hu)};{
 obtain⟨ad,c,cu,rfl,hbu,hc⟩:=hv.cells h0;have hpos:0<us.length:=List.length_pos_iff.2 h0;obtain⟨v',w',hr,k1,k2⟩:=run_append_arg_grows (P:=P) w TS ty T i0 z ρ.n b E.ht hi hz0 hz1 hz2 E.hz E.hn ⟨g,0,none⟩ xs.length xs.length css.flatten hl (fun j u hu=>by rw[Addr.add_lit,Nat.zero_add];exact hB.cell hu) ad us.length c cu.flatten (by rw[flat_len hbu.lens,hbu.len]) hc
  (by omega) (by unfold maxLen;omega) (Nat.le_trans (Nat.mul_le_mul hn E.hb) (by omega));refine⟨v',w',hr,⟨css++cu,?_,hb.app hbu⟩,⟨k2.os,k2.tape,k2.output,k2.size,fun k hk=>k2.block k hk (fun e=>nomatch e)⟩⟩;rw[List.flatten_append,List.length_append];have hgw:w0.heap.size<=w.heap.size:=Nat.le_trans hg (Nat.le_of_lt hB.lt);refine⟨k1.1,?_⟩;rcases k1.2 with h|⟨g',cap,cur,e,h1,rest⟩;{exact .inl h};{exact .inr ⟨g',cap,cur,e,Nat.le_trans hgw h1,rest⟩}}
theorem wp_append_full {P:Program} {o:Oper} {a:Act} {K:Act->World->Prop} {Q:Exit->Act->World->Prop} {TS T:TypeId} {b:Nat} {z:Value} (E:Elem P TS T ρ.n b z) (s x:Operand) (ho:o.op=.call { callee:=.builtin .append,args:= #[s,x],argTypes:= #[TS,TS] })
  {g:Nat} {css:List (List Value)} (hs:a.eval s=.slice (some ⟨g,0,none⟩) xs.length xs.length) (hB:Blk w g T css.flatten) (hb:Both (ρ.R w0) css xs) (hg:w0.heap.size<=g) {vx:Value} (hx:a.eval x=vx) (hv:SrcAt ρ w0 w vx us) (hn:xs.length+us.length<=100000000)
  (h:∀v' w',OwnSeq ρ T w0 w' v' (xs++us)->Below w.heap.size w w'->K (a.put o.dst v') w'):o.wp P a w K Q:=by
 obtain⟨v',w',hr,g1,g2⟩:=run_append_full E o.type hB hb hg hv hn;unfold Oper.wp execOp;simp only[ho,resolve,invoke,builtin,Sem.run_bind,Sem.run_pure,Result.andThen_ok,List.map_toArray,List.map_cons,List.map_nil,hs,hx,hr];exact h v' w' g1 g2
theorem SrcAt.flat (hF:Flat ρ) (h:SeqAt ρ w v us):SrcAt ρ w0 w v us:=by
 obtain⟨A,c,e,h1,h2,h3⟩:=h;refine⟨A,c,e,fun i x hx=>?_⟩;obtain⟨b,o,cs,e1,hr,h4⟩:=h3 i x hx;exact⟨b,o,cs,e1,hF _ _ _ _ hr,h4⟩
end
def upto (W:World) (n:Nat):World:={ W with heap:=W.heap.extract 0 n }
theorem upto_size {W:World} {n:Nat} (h:n<=W.heap.size):(upto W n).heap.size=n:=by simp[upto];omega
theorem upto_below {W:World} {n:Nat} (h:n<=W.heap.size):Below (upto W n).heap.size (upto W n) W:=by
 rw[upto_size h];refine⟨rfl,rfl,rfl,by rw[upto_size h];exact h,fun k hk=>?_⟩;simp only[upto];rw[Array.getElem?_extract];rw[if_pos (by omega),Nat.zero_add]
def valS:Shape Value where
 n:=1
 R _ cs u:=cs=[u]/\u.oneCell'=true
 len h:=by rw[h.1];rfl
 one h u hu:=by
  obtain⟨rfl,h1⟩:=h
  rw[List.mem_singleton.1 hu]
  exact h1
 keep h _:=h
theorem flatV:Flat valS:=fun _ _ _ _ h=>h
def OwnRows (t t':TypeId) (w0 W:World) (v:Value) (xss:List (List ByteArray)):Prop:=∃rs,OwnSeq valS t w0 W v rs/\Both (fun r x=>OwnSeq strS t' w0 W r x) rs xss
section
variable {t t':TypeId} {w0 w W W':World} {v:Value} {xss:List (List ByteArray)}
theorem OwnRows.nil (W:World):OwnRows t t' w0 W (.slice none 0 0) []:=⟨[],OwnSeq.nil W,.nil⟩
theorem OwnSeq.stay {α:Type} {ρ:Shape α} {xs:List α} {t:TypeId} (h:OwnSeq ρ t w0 W v xs) (hk:∀k o,w0.heap.size<=k->W.heap[k]?=some o->o.isCells=true->W'.heap[k]?=some o):OwnSeq ρ t w0 W' v xs:=by
 obtain⟨css,ho,hb⟩:=h;refine⟨css,⟨ho.1,?_⟩,hb⟩;rcases ho.2 with h0|⟨g,cap,cur,rfl,h1,h2,rest⟩;{exact .inl h0};{exact .inr ⟨g,cap,cur,rfl,h1,hk _ _ h1 h2 rfl,rest⟩}
theorem OwnRows.stay (h:OwnRows t t' w0 W v xss) (hk:∀k o,w0.heap.size<=k->W.heap[k]?=some o->o.isCells=true->W'.heap[k]?=some o):OwnRows t t' w0 W' v xss:=by
 obtain⟨rs,h1,h2⟩:=h;exact⟨rs,h1.stay hk,h2.mono fun r x h=>h.stay hk⟩
theorem OwnRows.kept (h:OwnRows t t' w0 W v xss) (hb:Below W.heap.size W W'):OwnRows t t' w0 W' v xss:=h.stay fun k o _ ho _=>(hb.block k (Array.getElem?_eq_some_iff.1 ho).1).trans ho
theorem OwnRows.snoc {rs:List Value} {r:Value} {x:List ByteArray} {va:Value} (hne:t≠t') (hr:OwnSeq valS t w0 W va rs) (h2:Both (fun r x=>OwnSeq strS t' w0 W r x) rs xss) (h3:OwnSeq strS t' w0 W r x) (h4:OwnSeq valS t w0 W' v (rs++[r])) (hg:W.grownBy W' va.ownBlock):OwnRows t t' w0 W' v (xss++[x]):=by
 have key:∀(r:Value) (x:List ByteArray),OwnSeq strS t' w0 W r x->OwnSeq strS t' w0 W' r x:=fun r x h=>h.grown hg (h.neO hr (Ne.symm hne));exact⟨_,h4,(h2.mono key).app (.cons (key _ _ h3) .nil)⟩
theorem OwnRows.slice (h:OwnRows t t' w0 W v xss):∃A c,v=.slice A xss.length c:=by
 obtain⟨rs,h1,h2⟩:=h;rw[<-h2.len];exact h1.slice
end
theorem OwnSeq.size {α:Type} {ρ:Shape α} {t:TypeId} {w0 w1 W:World} {v:Value} {xs:List α} (h:OwnSeq ρ t w0 W v xs) (hF:Flat ρ) (e:w1.heap.size=w0.heap.size):OwnSeq ρ t w1 W v xs:=h.low hF (Nat.le_of_eq e)
theorem wp_append_rows {P:Program} {o:Oper} {a:Act} {K:Act->World->Prop} {Q:Exit->Act->World->Prop} {TSS TS T:TypeId} {b:Nat} {z:Value} {w0 w:World} {v r:Value} {xss:List (List ByteArray)} {y:List ByteArray} {xb:Nat} (E:Elem P TSS TS 1 b z) (s x:Operand) (ho:o.op=.call { callee:=.builtin .append,args:= #[s,x],argTypes:= #[TSS,TSS] }) (hne:TS≠T)
  (hs:a.eval s=v) (hO:OwnRows TS T w0 w v xss) (hle:w0.heap.size<=w.heap.size) (hx:a.eval x=.slice (some ⟨xb,0,none⟩) 1 1) (hB:Blk w xb TS [r]) (hr:OwnSeq strS T w0 w r y) (hn:xss.length<=1000000)
  (h:∀v' w',OwnRows TS T w0 w' v' (xss++[y])->Below w0.heap.size w w'->(∀k o,w.heap[k]?=some o->(o.isCells=false∨k<w0.heap.size)->w'.heap[k]?=some o)->K (a.put o.dst v') w'):o.wp P a w K Q:=by
 obtain⟨rs,h1,h2⟩:=hO;have hz:=upto_size hle;have hl:=h2.len;refine wp_append_seq (ρ:=valS) (w0:=upto w w0.heap.size) E s x ho hs (h1.size flatV hz) hx (SrcAt.lit (x:=r) ⟨rfl,hr.one⟩ hB) (by simp only[List.length_singleton];omega) (upto_below hle) ?_;intro v' w' g1 g2 g3;have hge:=h1.ge;have hlow:∀k,k<w0.heap.size->w'.heap[k]?=w.heap[k]?:=fun k hk=>g2.block k (by omega) (fun e=>by have:=hge k e.symm;omega);refine h v' w' (OwnRows.snoc hne h1 h2 hr (g1.size flatV hz.symm) g2) ⟨g2.os,g2.tape,g2.output,g2.size,hlow⟩ fun k o hk ho=>?_;rcases ho with ho|ho;{
 refine(g2.block k (Array.getElem?_eq_some_iff.1 hk).1 fun e=>?_).trans hk;obtain⟨css,h3,_⟩:=h1;rcases h3.2 with⟨rfl,_⟩|⟨g,cap,cur,rfl,_,hg,_⟩;{cases e};{
 have:k=g:=by simpa [Value.ownBlock]using e
 subst this;rw[hg]at hk;cases hk;cases ho}};{exact(hlow k ho).trans hk}
end
end Go.Proofs.YthgenkkkapilhaaGreatDoor