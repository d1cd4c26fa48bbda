/-
  Joined: VqC VqD VqE VqG VoS VoT RdP.
-/
import Derived.Test.YthgenkkkapilhaaGreatDoorVPn17
import Derived.Test.YthgenkkkapilhaaGreatDoorVPn18
set_option linter.all false
set_option maxRecDepth 100000
set_option maxHeartbeats 64000000
namespace Go.Proofs.YthgenkkkapilhaaGreatDoor
open Go.Proofs.Tryz
section
open Go.RowKit
theorem binit_any (w:World):Calls prog 132 #[] w fun e w'=>e=.returned (.agg #[.int .u32 1779033703,.int .u32 3144134277,.int .u32 1013904242,.int .u32 2773480762,.int .u32 1359893119,.int .u32 2600822924,.int .u32 528734635,.int .u32 1541459225])/\Below w.heap.size w w':=by
 have HZ:=zY (Blk.new w 207 (initW.map u32V));have HB:=zY (zBl w (.cells (initW.map u32V).toArray 207));go_enter func132,ntmps132;go_wp2_with fail;refine bodyPost_ret (results_cell_row rfl _ _ w.heap.size 207 _ (0,0) _ rfl HZ.out underlying207 rfl (by kernel_rfl)) rfl ?_;exact⟨rfl,HB.out⟩
theorem bperm_any (w:World):Calls prog 201 #[] w fun e w'=>e=.returned (.agg #[.int .u64 81985529216486895,.int .u64 16881918945140062035,.int .u64 13312731748010193300,.int .u64 8733003861693448440,.int .u64 10400822202260547645,.int .u64 3200383143768358425,.int .u64 14204332651957162635,.int .u64 15816291393287259690,.int .u64 8064173457993569445,.int .u64 11710614767857974480])/\Below w.heap.size w w':=by
 have HZ:=zY (Blk.new w 271 [.int .u64 81985529216486895,.int .u64 16881918945140062035,.int .u64 13312731748010193300,.int .u64 8733003861693448440,.int .u64 10400822202260547645,.int .u64 3200383143768358425,.int .u64 14204332651957162635,.int .u64 15816291393287259690,.int .u64 8064173457993569445,.int .u64 11710614767857974480]);have HB:=zY (zBl w (.cells #[.int .u64 81985529216486895,.int .u64 16881918945140062035,.int .u64 13312731748010193300,.int .u64 8733003861693448440,.int .u64 10400822202260547645,.int .u64 3200383143768358425,.int .u64 14204332651957162635,.int .u64 15816291393287259690,.int .u64 8064173457993569445,.int .u64 11710614767857974480] 271));go_enter func201,ntmps201;go_wp2_with fail;refine bodyPost_ret (results_cell_row rfl _ _ w.heap.size 271 _ (0,0) _ rfl HZ.out underlying271 rfl (by kernel_rfl)) rfl ?_;exact⟨rfl,HB.out⟩
theorem quad_m0 (f:Nat×Operand->Nat×Value):(Array.map f #[(0,.const (.int .i64 0)),(1,.const (.int .i64 4)),(2,.const (.int .i64 8)),(3,.const (.int .i64 12))]).toList=[f (0,.const (.int .i64 0)),f (1,.const (.int .i64 4)),f (2,.const (.int .i64 8)),f (3,.const (.int .i64 12))]:=by simp
theorem quad_b0:prog.built 273 [(0,.int .i64 0),(1,.int .i64 4),(2,.int .i64 8),(3,.int .i64 12)]=some #[.int .i64 0,.int .i64 4,.int .i64 8,.int .i64 12]:=by kernel_rfl
theorem quad_m1 (f:Nat×Operand->Nat×Value):(Array.map f #[(0,.const (.int .i64 1)),(1,.const (.int .i64 5)),(2,.const (.int .i64 9)),(3,.const (.int .i64 13))]).toList=[f (0,.const (.int .i64 1)),f (1,.const (.int .i64 5)),f (2,.const (.int .i64 9)),f (3,.const (.int .i64 13))]:=by simp
theorem quad_b1:prog.built 273 [(0,.int .i64 1),(1,.int .i64 5),(2,.int .i64 9),(3,.int .i64 13)]=some #[.int .i64 1,.int .i64 5,.int .i64 9,.int .i64 13]:=by kernel_rfl
theorem quad_m2 (f:Nat×Operand->Nat×Value):(Array.map f #[(0,.const (.int .i64 2)),(1,.const (.int .i64 6)),(2,.const (.int .i64 10)),(3,.const (.int .i64 14))]).toList=[f (0,.const (.int .i64 2)),f (1,.const (.int .i64 6)),f (2,.const (.int .i64 10)),f (3,.const (.int .i64 14))]:=by simp
theorem quad_b2:prog.built 273 [(0,.int .i64 2),(1,.int .i64 6),(2,.int .i64 10),(3,.int .i64 14)]=some #[.int .i64 2,.int .i64 6,.int .i64 10,.int .i64 14]:=by kernel_rfl
theorem quad_m3 (f:Nat×Operand->Nat×Value):(Array.map f #[(0,.const (.int .i64 3)),(1,.const (.int .i64 7)),(2,.const (.int .i64 11)),(3,.const (.int .i64 15))]).toList=[f (0,.const (.int .i64 3)),f (1,.const (.int .i64 7)),f (2,.const (.int .i64 11)),f (3,.const (.int .i64 15))]:=by simp
theorem quad_b3:prog.built 273 [(0,.int .i64 3),(1,.int .i64 7),(2,.int .i64 11),(3,.int .i64 15)]=some #[.int .i64 3,.int .i64 7,.int .i64 11,.int .i64 15]:=by kernel_rfl
theorem quad_m4 (f:Nat×Operand->Nat×Value):(Array.map f #[(0,.const (.int .i64 0)),(1,.const (.int .i64 5)),(2,.const (.int .i64 10)),(3,.const (.int .i64 15))]).toList=[f (0,.const (.int .i64 0)),f (1,.const (.int .i64 5)),f (2,.const (.int .i64 10)),f (3,.const (.int .i64 15))]:=by simp
theorem quad_b4:prog.built 273 [(0,.int .i64 0),(1,.int .i64 5),(2,.int .i64 10),(3,.int .i64 15)]=some #[.int .i64 0,.int .i64 5,.int .i64 10,.int .i64 15]:=by kernel_rfl
theorem quad_m5 (f:Nat×Operand->Nat×Value):(Array.map f #[(0,.const (.int .i64 1)),(1,.const (.int .i64 6)),(2,.const (.int .i64 11)),(3,.const (.int .i64 12))]).toList=[f (0,.const (.int .i64 1)),f (1,.const (.int .i64 6)),f (2,.const (.int .i64 11)),f (3,.const (.int .i64 12))]:=by simp
theorem quad_b5:prog.built 273 [(0,.int .i64 1),(1,.int .i64 6),(2,.int .i64 11),(3,.int .i64 12)]=some #[.int .i64 1,.int .i64 6,.int .i64 11,.int .i64 12]:=by kernel_rfl
theorem quad_m6 (f:Nat×Operand->Nat×Value):(Array.map f #[(0,.const (.int .i64 2)),(1,.const (.int .i64 7)),(2,.const (.int .i64 8)),(3,.const (.int .i64 13))]).toList=[f (0,.const (.int .i64 2)),f (1,.const (.int .i64 7)),f (2,.const (.int .i64 8)),f (3,.const (.int .i64 13))]:=by simp
theorem quad_b6:prog.built 273 [(0,.int .i64 2),(1,.int .i64 7),(2,.int .i64 8),(3,.int .i64 13)]=some #[.int .i64 2,.int .i64 7,.int .i64 8,.int .i64 13]:=by kernel_rfl
theorem quad_m7 (f:Nat×Operand->Nat×Value):(Array.map f #[(0,.const (.int .i64 3)),(1,.const (.int .i64 4)),(2,.const (.int .i64 9)),(3,.const (.int .i64 14))]).toList=[f (0,.const (.int .i64 3)),f (1,.const (.int .i64 4)),f (2,.const (.int .i64 9)),f (3,.const (.int .i64 14))]:=by simp
theorem quad_b7:prog.built 273 [(0,.int .i64 3),(1,.int .i64 4),(2,.int .i64 9),(3,.int .i64 14)]=some #[.int .i64 3,.int .i64 4,.int .i64 9,.int .i64 14]:=by kernel_rfl
theorem quad_m (f:Nat×Operand->Nat×Value):(Array.map f #[(0,.tmp 1),(1,.tmp 2),(2,.tmp 3),(3,.tmp 4),(4,.tmp 5),(5,.tmp 6),(6,.tmp 7),(7,.tmp 8)]).toList=[f (0,.tmp 1),f (1,.tmp 2),f (2,.tmp 3),f (3,.tmp 4),f (4,.tmp 5),f (5,.tmp 6),f (6,.tmp 7),f (7,.tmp 8)]:=by simp
theorem quad_b:prog.built 274 [(0,.agg #[.int .i64 0,.int .i64 4,.int .i64 8,.int .i64 12]),(1,.agg #[.int .i64 1,.int .i64 5,.int .i64 9,.int .i64 13]),(2,.agg #[.int .i64 2,.int .i64 6,.int .i64 10,.int .i64 14]),(3,.agg #[.int .i64 3,.int .i64 7,.int .i64 11,.int .i64 15]),(4,.agg #[.int .i64 0,.int .i64 5,.int .i64 10,.int .i64 15]),(5,.agg #[.int .i64 1,.int .i64 6,.int .i64 11,.int .i64 12]),(6,.agg #[.int .i64 2,.int .i64 7,.int .i64 8,.int .i64 13]),(7,.agg #[.int .i64 3,.int .i64 4,.int .i64 9,.int .i64 14])]=some #[.int .i64 0,.int .i64 4,.int .i64 8,.int .i64 12,.int .i64 1,.int .i64 5,.int .i64 9,.int .i64 13,.int .i64 2,.int .i64 6,.int .i64 10,.int .i64 14,.int .i64 3,.int .i64 7,.int .i64 11,.int .i64 15,.int .i64 0,.int .i64 5,.int .i64 10,.int .i64 15,.int .i64 1,.int .i64 6,.int .i64 11,.int .i64 12,.int .i64 2,.int .i64 7,.int .i64 8,.int .i64 13,.int .i64 3,.int .i64 4,.int .i64 9,.int .i64 14]:=by kernel_rfl
theorem bquads_any (w:World):Calls prog 202 #[] w fun e w'=>e=.returned (.agg #[.int .i64 0,.int .i64 4,.int .i64 8,.int .i64 12,.int .i64 1,.int .i64 5,.int .i64 9,.int .i64 13,.int .i64 2,.int .i64 6,.int .i64 10,.int .i64 14,.int .i64 3,.int .i64 7,.int .i64 11,.int .i64 15,.int .i64 0,.int .i64 5,.int .i64 10,.int .i64 15,.int .i64 1,.int .i64 6,.int .i64 11,.int .i64 12,.int .i64 2,.int .i64 7,.int .i64 8,.int .i64 13,.int .i64 3,.int .i64 4,.int .i64 9,.int .i64 14])/\Below w.heap.size w w':=by
 have HZ:Hid (Blk (w.alloc (.cells (List.replicate 32 (.int .i64 0)).toArray 274)) w.heap.size 274 (List.replicate 32 (.int .i64 0))):=zY (Blk.new _ _ _);have HB:=zY (zBl w (.cells (List.replicate 32 (.int .i64 0)).toArray 274));go_enter func202,ntmps202;go_upto_region 1 with fail;change Code.wp _ _ _ _ (w.alloc (.cells (List.replicate 32 (.int .i64 0)).toArray 274));generalize w.alloc (.cells (List.replicate 32 (.int .i64 0)).toArray 274)=wa at *;refine wp_region_lit ?_;refine wpList_build rfl 273 #[(0,.const (.int .i64 0)),(1,.const (.int .i64 4)),(2,.const (.int .i64 8)),(3,.const (.int .i64 12))] rfl (by rw[quad_m0];show (prog.built 273 [(0,.int .i64 0),(1,.int .i64 4),(2,.int .i64 8),(3,.int .i64 12)]).isSome=true;rw[quad_b0];rfl) ?_;rw[quad_m0];change wpList _ _ _ _ (Act.put _ _ (.agg ((prog.built 273 [(0,.int .i64 0),(1,.int .i64 4),(2,.int .i64 8),(3,.int .i64 12)]).getD #[]))) _;rw[quad_b0];simp only[Act.put,List.setIfInBounds_toArray,List.set_cons_zero,List.set_cons_succ,Option.getD_some];refine wpList_build rfl 273 #[(0,.const (.int .i64 1)),(1,.const (.int .i64 5)),(2,.const (.int .i64 9)),(3,.const (.int .i64 13))] rfl (by rw[quad_m1];show (prog.built 273 [(0,.int .i64 1),(1,.int .i64 5),(2,.int .i64 9),(3,.int .i64 13)]).isSome=true;rw[quad_b1];rfl) ?_;rw[quad_m1];change wpList _ _ _ _ (Act.put _ _ (.agg ((prog.built 273 [(0,.int .i64 1),(1,.int .i64 5),(2,.int .i64 9),(3,.int .i64 13)]).getD #[]))) _;rw[quad_b1];simp only[Act.put,List.setIfInBounds_toArray,List.set_cons_zero,List.set_cons_succ,Option.getD_some]
 refine wpList_build rfl 273 #[(0,.const (.int .i64 2)),(1,.const (.int .i64 6)),(2,.const (.int .i64 10)),(3,.const (.int .i64 14))] rfl (by rw[quad_m2];show (prog.built 273 [(0,.int .i64 2),(1,.int .i64 6),(2,.int .i64 10),(3,.int .i64 14)]).isSome=true;rw[quad_b2];rfl) ?_;rw[quad_m2];change wpList _ _ _ _ (Act.put _ _ (.agg ((prog.built 273 [(0,.int .i64 2),(1,.int .i64 6),(2,.int .i64 10),(3,.int .i64 14)]).getD #[]))) _;rw[quad_b2];simp only[Act.put,List.setIfInBounds_toArray,List.set_cons_zero,List.set_cons_succ,Option.getD_some];refine wpList_build rfl 273 #[(0,.const (.int .i64 3)),(1,.const (.int .i64 7)),(2,.const (.int .i64 11)),(3,.const (.int .i64 15))] rfl (by rw[quad_m3];show (prog.built 273 [(0,.int .i64 3),(1,.int .i64 7),(2,.int .i64 11),(3,.int .i64 15)]).isSome=true;rw[quad_b3];rfl) ?_;rw[quad_m3];change wpList _ _ _ _ (Act.put _ _ (.agg ((prog.built 273 [(0,.int .i64 3),(1,.int .i64 7),(2,.int .i64 11),(3,.int .i64 15)]).getD #[]))) _;rw[quad_b3];simp only[Act.put,List.setIfInBounds_toArray,List.set_cons_zero,List.set_cons_succ,Option.getD_some];refine wpList_build rfl 273 #[(0,.const (.int .i64 0)),(1,.const (.int .i64 5)),(2,.const (.int .i64 10)),(3,.const (.int .i64 15))] rfl (by rw[quad_m4];show (prog.built 273 [(0,.int .i64 0),(1,.int .i64 5),(2,.int .i64 10),(3,.int .i64 15)]).isSome=true;rw[quad_b4];rfl) ?_;rw[quad_m4];change wpList _ _ _ _ (Act.put _ _ (.agg ((prog.built 273 [(0,.int .i64 0),(1,.int .i64 5),(2,.int .i64 10),(3,.int .i64 15)]).getD #[]))) _;rw[quad_b4]
 simp only[Act.put,List.setIfInBounds_toArray,List.set_cons_zero,List.set_cons_succ,Option.getD_some];refine wpList_build rfl 273 #[(0,.const (.int .i64 1)),(1,.const (.int .i64 6)),(2,.const (.int .i64 11)),(3,.const (.int .i64 12))] rfl (by rw[quad_m5];show (prog.built 273 [(0,.int .i64 1),(1,.int .i64 6),(2,.int .i64 11),(3,.int .i64 12)]).isSome=true;rw[quad_b5];rfl) ?_;rw[quad_m5];change wpList _ _ _ _ (Act.put _ _ (.agg ((prog.built 273 [(0,.int .i64 1),(1,.int .i64 6),(2,.int .i64 11),(3,.int .i64 12)]).getD #[]))) _;rw[quad_b5];simp only[Act.put,List.setIfInBounds_toArray,List.set_cons_zero,List.set_cons_succ,Option.getD_some];refine wpList_build rfl 273 #[(0,.const (.int .i64 2)),(1,.const (.int .i64 7)),(2,.const (.int .i64 8)),(3,.const (.int .i64 13))] rfl (by rw[quad_m6];show (prog.built 273 [(0,.int .i64 2),(1,.int .i64 7),(2,.int .i64 8),(3,.int .i64 13)]).isSome=true;rw[quad_b6];rfl) ?_;rw[quad_m6];change wpList _ _ _ _ (Act.put _ _ (.agg ((prog.built 273 [(0,.int .i64 2),(1,.int .i64 7),(2,.int .i64 8),(3,.int .i64 13)]).getD #[]))) _;rw[quad_b6];simp only[Act.put,List.setIfInBounds_toArray,List.set_cons_zero,List.set_cons_succ,Option.getD_some];refine wpList_build rfl 273 #[(0,.const (.int .i64 3)),(1,.const (.int .i64 4)),(2,.const (.int .i64 9)),(3,.const (.int .i64 14))] rfl (by rw[quad_m7];show (prog.built 273 [(0,.int .i64 3),(1,.int .i64 4),(2,.int .i64 9),(3,.int .i64 14)]).isSome=true;rw[quad_b7];rfl) ?_;rw[quad_m7]
 change wpList _ _ _ _ (Act.put _ _ (.agg ((prog.built 273 [(0,.int .i64 3),(1,.int .i64 4),(2,.int .i64 9),(3,.int .i64 14)]).getD #[]))) _;rw[quad_b7];simp only[Act.put,List.setIfInBounds_toArray,List.set_cons_zero,List.set_cons_succ,Option.getD_some];refine wpList_build rfl 274 #[(0,.tmp 1),(1,.tmp 2),(2,.tmp 3),(3,.tmp 4),(4,.tmp 5),(5,.tmp 6),(6,.tmp 7),(7,.tmp 8)] rfl (by rw[quad_m];show (prog.built 274 [(0,.agg #[.int .i64 0,.int .i64 4,.int .i64 8,.int .i64 12]),(1,.agg #[.int .i64 1,.int .i64 5,.int .i64 9,.int .i64 13]),(2,.agg #[.int .i64 2,.int .i64 6,.int .i64 10,.int .i64 14]),(3,.agg #[.int .i64 3,.int .i64 7,.int .i64 11,.int .i64 15]),(4,.agg #[.int .i64 0,.int .i64 5,.int .i64 10,.int .i64 15]),(5,.agg #[.int .i64 1,.int .i64 6,.int .i64 11,.int .i64 12]),(6,.agg #[.int .i64 2,.int .i64 7,.int .i64 8,.int .i64 13]),(7,.agg #[.int .i64 3,.int .i64 4,.int .i64 9,.int .i64 14])]).isSome=true;rw[quad_b];rfl) ?_;rw[quad_m];change wpList _ _ _ _ (Act.put _ _ (.agg ((prog.built 274 [(0,.agg #[.int .i64 0,.int .i64 4,.int .i64 8,.int .i64 12]),(1,.agg #[.int .i64 1,.int .i64 5,.int .i64 9,.int .i64 13]),(2,.agg #[.int .i64 2,.int .i64 6,.int .i64 10,.int .i64 14]),(3,.agg #[.int .i64 3,.int .i64 7,.int .i64 11,.int .i64 15]),(4,.agg #[.int .i64 0,.int .i64 5,.int .i64 10,.int .i64 15]),(5,.agg #[.int .i64 1,.int .i64 6,.int .i64 11,.int .i64 12]),(6,.agg #[.int .i64 2,.int .i64 7,.int .i64 8,.int .i64 13]),(7,.agg #[.int .i64 3,.int .i64 4,.int .i64 9,.int .i64 14])]).getD #[]))) _;rw[quad_b]
 simp only[Act.put,List.setIfInBounds_toArray,List.set_cons_zero,List.set_cons_succ,Option.getD_some];refine wpList_store_row rfl 274 (.tmp 0) (.tmp 9) rfl w.heap.size #[.int .i64 0,.int .i64 4,.int .i64 8,.int .i64 12,.int .i64 1,.int .i64 5,.int .i64 9,.int .i64 13,.int .i64 2,.int .i64 6,.int .i64 10,.int .i64 14,.int .i64 3,.int .i64 7,.int .i64 11,.int .i64 15,.int .i64 0,.int .i64 5,.int .i64 10,.int .i64 15,.int .i64 1,.int .i64 6,.int .i64 11,.int .i64 12,.int .i64 2,.int .i64 7,.int .i64 8,.int .i64 13,.int .i64 3,.int .i64 4,.int .i64 9,.int .i64 14] rfl rfl 274 _ HZ.out (by kernel_rfl) (by simp) (by simp[Value.oneCell']) ?_;go_wp2_with fail;refine bodyPost_ret (results_cell_row rfl _ _ w.heap.size 274 _ (0,0) _ rfl (setRow_heap _ _ _ _ _ _ HZ.out) underlying274 rfl (by kernel_rfl)) rfl ?_;exact⟨rfl,below_setRow HB.out (Nat.le_refl _) _⟩
theorem run_index_p (w:World) (cs:Array Value) (r:Nat) (hr:r<10) {v:Value} (hv:cs[r]?=some v):(Instr.index 271 (.agg cs) (.int .i64 (r:Int))).run prog w=.ok v w:=by
 have hn:(0:Int)<=(r:Int)/\(r:Int)<(10:Nat):=by omega
 have hu:=underlying271;simp[Instr.index,run_underlying hu,asIntOf,hn,hr,hv,go_sem]
theorem run_index_q (w:World) (cs:Array Value) (r:Nat) (hr:r<8) (hc:cs.size=32):(Instr.index 274 (.agg cs) (.int .i64 (r:Int))).run prog w=.ok (.agg (cs.extract (r*4) (r*4+4))) w:=by
 have hn:(0:Int)<=(r:Int)/\(r:Int)<(8:Nat):=by omega
 have hu:=underlying274;have h32:r*4+4<=32:=by omega
 simp[Instr.index,run_underlying hu,asIntOf,hn,hr,hc,h32,go_sem]
def permI:Nat->Int
 |0=>81985529216486895
 |1=>16881918945140062035
 |2=>13312731748010193300
 |3=>8733003861693448440
 |4=>10400822202260547645
 |5=>3200383143768358425
 |6=>14204332651957162635
 |7=>15816291393287259690
 |8=>8064173457993569445
 |9=>11710614767857974480
 |_=>0
theorem perm_at:∀r,r<10->(#[.int .u64 81985529216486895,.int .u64 16881918945140062035,.int .u64 13312731748010193300,.int .u64 8733003861693448440,.int .u64 10400822202260547645,.int .u64 3200383143768358425,.int .u64 14204332651957162635,.int .u64 15816291393287259690,.int .u64 8064173457993569445,.int .u64 11710614767857974480]:Array Value)[r]?=some (.int .u64 (permI r))
 |0,_=>rfl
 |1,_=>rfl
 |2,_=>rfl
 |3,_=>rfl
 |4,_=>rfl
 |5,_=>rfl
 |6,_=>rfl
 |7,_=>rfl
 |8,_=>rfl
 |9,_=>rfl
 |n+10,h=>absurd h (by omega)
theorem perm_xy:∀r:Nat,r<10->∀k:Nat,k<8->bits .and .u64 (permI r/2^(60-8*(k:Int)).toNat) 15=(sigN r (2*k):Int)/\bits .and .u64 (permI r/2^(56-8*(k:Int)).toNat) 15=(sigN r (2*k+1):Int):=by decide +kernel
def quadsV:Value:=.agg #[.int .i64 0,.int .i64 4,.int .i64 8,.int .i64 12,.int .i64 1,.int .i64 5,.int .i64 9,.int .i64 13,.int .i64 2,.int .i64 6,.int .i64 10,.int .i64 14,.int .i64 3,.int .i64 7,.int .i64 11,.int .i64 15,.int .i64 0,.int .i64 5,.int .i64 10,.int .i64 15,.int .i64 1,.int .i64 6,.int .i64 11,.int .i64 12,.int .i64 2,.int .i64 7,.int .i64 8,.int .i64 13,.int .i64 3,.int .i64 4,.int .i64 9,.int .i64 14]
theorem quads_any (w:World):Calls prog 202 #[] w fun e w'=>e=.returned quadsV/\Below w.heap.size w w':=bquads_any w
theorem quad_col:∀k:Nat,k<8->(#[.int .i64 0,.int .i64 4,.int .i64 8,.int .i64 12,.int .i64 1,.int .i64 5,.int .i64 9,.int .i64 13,.int .i64 2,.int .i64 6,.int .i64 10,.int .i64 14,.int .i64 3,.int .i64 7,.int .i64 11,.int .i64 15,.int .i64 0,.int .i64 5,.int .i64 10,.int .i64 15,.int .i64 1,.int .i64 6,.int .i64 11,.int .i64 12,.int .i64 2,.int .i64 7,.int .i64 8,.int .i64 13,.int .i64 3,.int .i64 4,.int .i64 9,.int .i64 14]:Array Value).extract (k*4) (k*4+4)= #[.int .i64 ((colW k).getD 0 0:Nat),.int .i64 ((colW k).getD 1 0:Nat),.int .i64 ((colW k).getD 2 0:Nat),.int .i64 ((colW k).getD 3 0:Nat)]
 |0,_=>rfl
 |1,_=>rfl
 |2,_=>rfl
 |3,_=>rfl
 |4,_=>rfl
 |5,_=>rfl
 |6,_=>rfl
 |7,_=>rfl
 |n+8,h=>absurd h (by omega)
def Four (a b c d:Nat):Prop:=a<16/\b<16/\c<16/\d<16/\a≠b/\a≠c/\a≠d/\b≠c/\b≠d/\c≠d
theorem col_four:∀k:Nat,k<8->Four ((colW k).getD 0 0) ((colW k).getD 1 0) ((colW k).getD 2 0) ((colW k).getD 3 0):=by unfold Four;decide
theorem qstep (w:World) (r k:Nat) (h:r<10) (hk:k<8):∃a b c d x y:Nat,Four a b c d/\x<16/\y<16/\bits .and .u64 (permI r/2^(60-8*(k:Int)).toNat) 15=(x:Int)/\bits .and .u64 (permI r/2^(56-8*(k:Int)).toNat) 15=(y:Int)/\(Instr.index 274 quadsV (.int .i64 (k:Int))).run prog w=.ok (.agg #[.int .i64 (a:Int),.int .i64 (b:Int),.int .i64 (c:Int),.int .i64 (d:Int)]) w/\∀M V:List Int,rndW M V (8*r+k+1)=mixW (rndW M V (8*r+k)) a b c d (getW M x) (getW M y):=
 ⟨_,_,_,_,sigN r (2*k),sigN r (2*k+1),col_four k hk,sigN_lt r h _ (by omega),sigN_lt r h _ (by omega),(perm_xy r h k hk).1,(perm_xy r h k hk).2,by rw[<-quad_col k hk];exact run_index_q w _ k hk rfl,fun M V=>(rndW_step hk).trans rfl⟩
def partB (s:ByteArray) (k:Nat):ByteArray:=s.extract (28*k) (min (28*k+28) s.size)
def partsB (s:ByteArray):List ByteArray:=(List.range ((s.size+27)/28)).map (partB s)
def EntCells (cs:List Value):Prop:=∃(k sz:Int) (p t d:ByteArray) (A B:Option Addr) (n m c e:Nat),cs=[.int .i64 k,.string p,.slice A n c,.string t,.int .i64 sz,.string d,.slice B m e]
def RetEB (e:Ending):Prop:=∃cs b,EntCells cs/\e=.returned (.tuple #[.agg cs.toArray,.bool b])
theorem get37_any (w:World) (v:Value) (l:List Ent) (hv:SeqAt entS w v l) (s:ByteArray):Calls prog 155 #[v,.string s] w fun e w'=>RetEB e/\Below w.heap.size w w':=by
 have Hv:=zY hv;obtain⟨A,c,rfl,h1,h2⟩:=hv.slice;clear hv;have hZ:=Blk.new w 182 [.int .i64 0,.string ⟨#[]⟩,.slice none 0 0,.string ⟨#[]⟩,.int .i64 0,.string ⟨#[]⟩,.slice none 0 0];change Blk (w.alloc (.cells #[.int .i64 0,.string ⟨#[]⟩,.slice none 0 0,.string ⟨#[]⟩,.int .i64 0,.string ⟨#[]⟩,.slice none 0 0] 182)) _ _ _ at hZ;have HZ0:=zY hZ;have HB0:=zY (zBl w (.cells #[.int .i64 0,.string ⟨#[]⟩,.slice none 0 0,.string ⟨#[]⟩,.int .i64 0,.string ⟨#[]⟩,.slice none 0 0] 182));clear hZ;go_enter func155,ntmps155;go_upto_region 1 with fail;generalize w.alloc (.cells #[.int .i64 0,.string ⟨#[]⟩,.slice none 0 0,.string ⟨#[]⟩,.int .i64 0,.string ⟨#[]⟩,.slice none 0 0] 182)=wa at *;go_wp2;go_loopw [7,10] (fun _ x wr=>∃i:Nat,i<=l.length/\x=.int .i64 (i:Int)/\Below wa.heap.size wa wr) (fun _ x _=>l.length-(intOf x).toNat);case atStart=>exact⟨0,by omega,rfl,Below.refl _ _⟩
 case round=>
 obtain⟨i,hi,rfl,hB⟩:=hrel;have HB:=zY hB;have HZ:=zY (HZ0.kept hB);clear hB;by_cases h:i<l.length;{
 have hiI:(i:Int)<l.length:=by omega
 obtain⟨x,hx⟩:∃x,l[i]?=some x:=⟨_,List.getElem?_eq_getElem h⟩;obtain⟨_,_,e9,_,_,h4⟩:=Hv.below (HB0.trans (HB.mono HB0.size));cases e9;obtain⟨b,o,cs,rfl,⟨va,vx,rfl,ra,rx⟩,hc⟩:=h4 i x hx;obtain⟨Aa,ca,rfl,_,_⟩:=ra.slice;obtain⟨Ax,cx,rfl,_,_⟩:=rx.slice;obtain⟨k,p,attrs,t,sz,d,exts⟩:=x;dsimp only at hc;generalize attrs.length=na at *;generalize exts.length=nx at *;have e0:wr.cell? ⟨b,o+i*7,none⟩=some (.int .i64 k):=hc 0 _ rfl;have e1:wr.cell? ⟨b,o+i*7+1,none⟩=some (.string p):=hc 1 _ rfl;have e2:wr.cell? ⟨b,o+i*7+2,none⟩=some (.slice Aa na ca):=hc 2 _ rfl;have e3:wr.cell? ⟨b,o+i*7+3,none⟩=some (.string t):=hc 3 _ rfl;have e4:wr.cell? ⟨b,o+i*7+4,none⟩=some (.int .i64 sz):=hc 4 _ rfl;have e5:wr.cell? ⟨b,o+i*7+5,none⟩=some (.string d):=hc 5 _ rfl;have e6:wr.cell? ⟨b,o+i*7+6,none⟩=some (.slice Ax nx cx):=hc 6 _ rfl;clear hc h4 hx ra rx;have hF:=Blk.new wr 182 [.int .i64 k,.string p,.slice Aa na ca,.string t,.int .i64 sz,.string d,.slice Ax nx cx];change Blk (wr.alloc (.cells #[.int .i64 k,.string p,.slice Aa na ca,.string t,.int .i64 sz,.string d,.slice Ax nx cx] 182)) _ _ _ at hF;have HBz:=zY (HB.alloc HB.size (.cells #[.int .i64 k,.string p,.slice Aa na ca,.string t,.int .i64 sz,.string d,.slice Ax nx cx] 182));have HZz:=zY (HZ.alloc (.cells #[.int .i64 k,.string p,.slice Aa na ca,.string t,.int .i64 sz,.string d,.slice Ax nx cx] 182));go_upto_region 4 with fail;clear e0 e1 e2 e3 e4 e5 e6;generalize wr.alloc (.cells #[.int .i64 k,.string p,.slice Aa na ca,.string t,.int .i64 sz,.string d,.slice Ax nx cx] 182)=wz at *;have hg1:=hF.c 1;have HFz:=zY hF;clear hF;by_cases hps:p=s;{
 subst hps;go_upto_region 5 with fail;refine wp_region_lit ?_;refine wpList_load_row rfl 182 (.tmp 7) rfl wr.heap.size rfl 182 _ (0,0) _ HFz.out underlying182 rfl (by kernel_rfl) ?_;refine wpList_store_row rfl 182 (.tmp 4) (.tmp 18) rfl w.heap.size _ rfl rfl 182 _ HZz.out (by kernel_rfl) rfl (by simp[Value.oneCell']) ?_;clear hg1;go_wp2_with fail;refine bodyPost_ret (results_row_tmp rfl _ _ w.heap.size 182 _ (0,0) _ rfl (setRow_heap _ _ _ _ _ _ HZz.out) underlying182 rfl (by kernel_rfl)) rfl ?_;exact⟨⟨_,true,⟨k,sz,p,t,d,Aa,Ax,na,nx,ca,cx,rfl⟩,rfl⟩,below_setRow (HB0.trans (HBz.mono HB0.size)) (Nat.le_refl _) _⟩};{
 have b3:¬p.toList=s.toList:=fun e=>hps (by rw[ByteArray.toList_eq,ByteArray.toList_eq]at e;exact ByteArray.ext (Array.toList_inj.1 e));have b4:(p.toList==s.toList)=false:=by rw[beq_eq_false_iff_ne];exact b3
 clear hps;go_wp2;go_roundw;case rel=>exact⟨i+1,by omega,by go_num,HBz.out⟩
 case measure=>simp[intOf];omega}};{
 have hiI:¬(i:Int)<l.length:=by omega
 have hbt:(prog.built 182 [])=some #[.int .i64 0,.string ⟨#[]⟩,.slice none 0 0,.string ⟨#[]⟩,.int .i64 0,.string ⟨#[]⟩,.slice none 0 0]:=by kernel_rfl
 have hmap:∀f:Nat×Operand->Nat×Value,(Array.map f #[]).toList=[]:=fun f=>by simp
 go_upto_region 7 with fail;refine wp_region_lit ?_;refine wpList_build rfl 182 #[] rfl (by rw[hmap,hbt];rfl) ?_;rw[hmap,hbt];refine wpList_store_row rfl 182 (.tmp 4) (.tmp 20) rfl w.heap.size #[.int .i64 0,.string ⟨#[]⟩,.slice none 0 0,.string ⟨#[]⟩,.int .i64 0,.string ⟨#[]⟩,.slice none 0 0] rfl rfl 182 _ HZ.out (by kernel_rfl) rfl (by simp[Value.oneCell']) ?_;go_wp2_with fail;refine bodyPost_ret (results_row_tmp rfl _ _ w.heap.size 182 _ (0,0) _ rfl (setRow_heap _ _ _ _ _ _ HZ.out) underlying182 rfl (by kernel_rfl)) rfl ?_;exact⟨⟨[.int .i64 0,.string ⟨#[]⟩,.slice none 0 0,.string ⟨#[]⟩,.int .i64 0,.string ⟨#[]⟩,.slice none 0 0],false,⟨0,0,_,_,_,none,none,0,0,0,0,rfl⟩,rfl⟩,below_setRow (HB0.trans (HB.mono HB0.size)) (Nat.le_refl _) _⟩}
theorem dir37_any (w:World) (v:Value) (l:List Ent) (hv:SeqAt entS w v l) (s:ByteArray):Calls prog 228 #[v,.string s] w fun e w'=>RetI e/\Below w.heap.size w w':=by
 have HG:=zY (get37_any w v l hv s);obtain⟨A,c,rfl,h1,h2⟩:=hv.slice;clear hv;by_cases h0:s.size=0;{
 have f0:s.toList.isEmpty=true:=by rw[show s=⟨#[]⟩ by apply ByteArray.ext;exact Array.eq_empty_of_size_eq_zero h0];exact isEmptyV0
 clear h0;go_enter func228,ntmps228;go_wp2_with fail;go_ret;exact⟨RetI.of 0,Below.refl _ _⟩};{
 have f0:s.toList.isEmpty=false:=isEmptyV h0;clear h0;go_enter func228,ntmps228;go_wp2_with fail;refine HG.mono ?_;rintro e1 w1 ⟨⟨cs,b,⟨k,sz,p,t,d,Aa,Ax,na,nx,ca,cx,rfl⟩,rfl⟩,hb⟩;have HB:=zY hb;have hF:=Blk.new w1 182 [.int .i64 k,.string p,.slice Aa na ca,.string t,.int .i64 sz,.string d,.slice Ax nx cx];change Blk (w1.alloc (.cells #[.int .i64 k,.string p,.slice Aa na ca,.string t,.int .i64 sz,.string d,.slice Ax nx cx] 182)) _ _ _ at hF;have HBz:=zY (HB.alloc HB.size (.cells #[.int .i64 k,.string p,.slice Aa na ca,.string t,.int .i64 sz,.string d,.slice Ax nx cx] 182));have c0:=hF.c 0;clear hb hF HG HB;cases b with
 |false=>go_wp2_with fail;go_ret;exact⟨RetI.of 9,HBz.out⟩
 |true=>
 by_cases hk:k=2;{
 subst hk;go_wp2_with fail;go_ret;exact⟨RetI.of 0,HBz.out⟩};{
 have f1:(k != 2)=true:=by rw[bne_iff_ne];exact hk
 clear hk;go_wp2_with fail;go_ret;exact⟨RetI.of 10,HBz.out⟩}}
theorem cellsOKp_iff {l:List Nat}:cellsOK l=true↔∀c∈l,c=48∨c=49∨c=63:=by
 unfold cellsOK allIn cellSet;rw[List.all_eq_true];simp
theorem cellsP_take {s:ByteArray} {k:Nat} (hk:k<s.size) (h:∀j,j<k->cf (bs s) j=48∨cf (bs s) j=49∨cf (bs s) j=63) (hx:cf (bs s) k=48∨cf (bs s) k=49∨cf (bs s) k=63):
  ∀j,j<k+1->cf (bs s) j=48∨cf (bs s) j=49∨cf (bs s) j=63:=fun j hj=>by
 have _:=hk
 by_cases e:j=k
 ·rw[e];exact hx
 ·exact h j (by omega)
theorem cellsP_all {l:List Nat} (h:∀j,j<l.length->cf l j=48∨cf l j=49∨cf l j=63):chkE l=0:=by
 unfold chkE;rw[if_pos (cellsOKp_iff.2 fun c hc=>?_)];obtain⟨j,hj,e⟩:=List.getElem_of_mem hc;have:=h j hj;rwa [cf_get (List.getElem?_eq_getElem hj),e]at this
theorem cellsP_not {l:List Nat} {j:Nat} (hj:j<l.length) (h:¬(cf l j=48∨cf l j=49∨cf l j=63)):chkE l=3:=by
 unfold chkE;rw[if_neg fun hc=>h ?_];rw[cf_get (List.getElem?_eq_getElem hj)];exact cellsOKp_iff.1 hc _ (List.getElem_mem hj)
theorem rck1_any (w:World) (s:ByteArray) (hs:s.size<=1000000):Calls prog 118 #[.string s] w fun e w'=>e=.returned (.int .i64 (chkE (bs s)))/\w=w':=by
 obtain⟨R,hR⟩:=zNm (chkE (bs s));rw[hR];have HR:=zY hR;clear hR;go_enter func118,ntmps118;go_wp2;go_loop [3] (fun x=>∃k:Nat,k<=s.size/\x=.int .i64 (k:Int)/\∀j,j<k->cf (bs s) j=48∨cf (bs s) j=49∨cf (bs s) j=63) (fun x=>s.size-(intOf x).toNat);case atStart=>exact⟨0,by omega,rfl,fun j hj=>by omega⟩
 case round=>
 obtain⟨k,hk,rfl,hok⟩:=hrel;have Hok:=zY hok;clear hok;by_cases h:k<s.size;{
 have hkI:(k:Int)<s.size:=by omega
 have HX:=zY (bsc s k h);by_cases h48:(s[k]'h).toNat=48;{
 have e1:(((s[k]'h).toNat:Int) != 48)=false:=by rw[h48];rfl
 have HN:=zY (cellsP_take h Hok.out (by rw[HX.out,h48];exact .inl rfl));go_wp2;go_round;case rel=>exact⟨k+1,by omega,by go_num,HN.out⟩
 case measure=>simp[intOf];omega};{
 have e1:(((s[k]'h).toNat:Int) != 48)=true:=by simpa [bne_iff_ne]using fun e:((s[k]'h).toNat:Int)=48=>h48 (by omega)
 by_cases h49:(s[k]'h).toNat=49;{
 have e2:(((s[k]'h).toNat:Int) != 49)=false:=by rw[h49];rfl
 have HN:=zY (cellsP_take h Hok.out (by rw[HX.out,h49];exact .inr (.inl rfl)));clear h48 h49;go_wp2;go_round;case rel=>exact⟨k+1,by omega,by go_num,HN.out⟩
 case measure=>simp[intOf];omega};{
 have e2:(((s[k]'h).toNat:Int) != 49)=true:=by simpa [bne_iff_ne]using fun e:((s[k]'h).toNat:Int)=49=>h49 (by omega)
 by_cases h63:(s[k]'h).toNat=63;{
 have e3:(((s[k]'h).toNat:Int) != 63)=false:=by rw[h63];rfl
 have HN:=zY (cellsP_take h Hok.out (by rw[HX.out,h63];exact .inr (.inr rfl)));clear h48 h49 h63;go_wp2;go_round;case rel=>exact⟨k+1,by omega,by go_num,HN.out⟩
 case measure=>simp[intOf];omega};{
 have e3:(((s[k]'h).toNat:Int) != 63)=true:=by simpa [bne_iff_ne]using fun e:((s[k]'h).toNat:Int)=63=>h63 (by omega)
 have HE:Hid (R=3):=zY (by rw[<-HR.out];exact cellsP_not (j:=k) (by rw[bs_len];exact h) (by rw[HX.out];rintro(e|e|e);exact h48 e;exact h49 e;exact h63 e));clear h48 h49 h63;go_wp2;go_ret;exact⟨by rw[HE.out];rfl,rfl⟩}}}};{
 have hkI:¬(k:Int)<s.size:=by omega
 have HE:Hid (R=0):=zY (by rw[<-HR.out];exact cellsP_all fun j hj=>Hok.out j (by rw[bs_len]at hj;omega));go_wp2;go_ret;exact⟨by rw[HE.out];rfl,rfl⟩}
theorem runr1_any (w:World) (s:ByteArray) (hs:s.size<=1000000):Calls prog 119 #[.string s] w fun e w'=>e=.returned (.int .i64 ((bs s).count 63:Nat))/\w=w':=by
 go_enter func119,ntmps119;go_wp2;go_loop [3,4] (fun y x=>∃k:Nat,k<=s.size/\x=.int .i64 (k:Int)/\y=.int .i64 ((((bs s).take k).count 63:Nat):Int)) (fun _ x=>s.size-(intOf x).toNat);case atStart=>exact⟨0,by omega,rfl,rfl⟩
 case round=>
 obtain⟨k,hk,rfl,rfl⟩:=hrel;by_cases h:k<s.size;{
 have hkI:(k:Int)<s.size:=by omega
 have hc:=List.count_le_length (a:=63) (l:=(bs s).take k);rw[List.length_take]at hc;have hc9:((bs s).take k).count 63<=1000000:=by omega
 have ht:((bs s).take (k+1)).count 63=((bs s).take k).count 63+if (s[k]'h).toNat=63 then 1 else 0:=by rw[take_snoc_cf (by rw[bs_len];exact h),List.count_append,bsc s k h,List.count_cons,List.count_nil];simp
 have Ht:=zY ht;clear ht hc;generalize ((bs s).take k).count 63=c at *;by_cases h63:(s[k]'h).toNat=63;{
 have e3:(((s[k]'h).toNat:Int)==63)=true:=by rw[h63];rfl
 go_wp2;go_round;case rel=>exact⟨k+1,by omega,by go_num,by rw[Ht.out,if_pos h63];go_num⟩
 case measure=>simp[intOf];omega};{
 have e3:(((s[k]'h).toNat:Int)==63)=false:=by simpa using fun e:((s[k]'h).toNat:Int)=63=>h63 (by omega)
 go_wp2;go_round;case rel=>exact⟨k+1,by omega,by go_num,by rw[Ht.out,if_neg h63];rfl⟩
 case measure=>simp[intOf];omega}};{
 have hkI:¬(k:Int)<s.size:=by omega
 have ht:(bs s).take k=bs s:=List.take_of_length_le (by rw[bs_len];omega);go_wp2;go_ret;exact⟨rfl,rfl⟩}
theorem rto94_any (w:World) (s:ByteArray) (hs:s.size=752) (h01:B01 (bs s)):Calls prog 120 #[.string s] w fun e w'=>(∃v,e=.returned (.tuple #[.string (strB (toB (bs s))),v,.int .i64 0]))/\Below w.heap.size w w':=by
 have e0:chkE (bs s)=0:=by unfold chkE;rw[cells_01 h01];rfl
 have Hck:=zY (fun W=>rck1_any W s (by omega));rw[e0]at Hck;have H01:=zY h01;have hsI:(s.size:Int)=752:=by omega
 have HK0:Hid ((w.alloc (.cells #[] 5)).ownsRow w.heap.size 5 1 (.slice (some ⟨w.heap.size,0,none⟩) 0 0) 0 (((List.range 0).map (byteOf (bs s))).map u8V)):=zY (own_empty w 5 1);have HK1:Hid (((w.alloc (.cells #[] 5)).alloc (.cells #[] 3)).ownsRow w.heap.size 5 1 (.slice (some ⟨w.heap.size,0,none⟩) 0 0) 0 (((List.range 0).map (byteOf (bs s))).map u8V)):=zY (World.ownsRow.alloc HK0.out _);have HB0:=zY ((zBl w (.cells #[] 5)).alloc (by simp) (.cells #[] 3));have HT:Hid ((List.range 94).map (byteOf (bs s))=toB (bs s)):=zY (by unfold toB;rw[bs_len,hs]);clear h01 e0 HK0;go_enter func120,ntmps120;go_wp2_with (go_at_call 118;refine(Hck.out _).mono ?_;rintro e w' ⟨rfl,rfl⟩);go_loopw [5,7] (fun v x wr=>∃q i:Nat,i=8*q/\q<=94/\x=.int .i64 (i:Int)/\wr.ownsRow w.heap.size 5 1 v q (((List.range q).map (byteOf (bs s))).map u8V)/\Below w.heap.size w wr) (fun _ x _=>752-(intOf x).toNat);case atStart=>exact⟨0,0,rfl,by omega,rfl,HK1.out,HB0.out⟩
 case round=>
 obtain⟨q,i,hqi,hq,rfl,ho,hB⟩:=hrel;obtain⟨wo,rfl⟩:∃x,x=wr:=⟨_,rfl⟩;clear HK1 HB0;have Ho:=zY ho;have HBr:=zY hB;have hBz:=HBr.size;have hq9:q<=900000:=by omega
 clear ho hB;by_cases h:q<94;{
 have hqI:(i:Int)<752:=by omega
 have hi9:i<=744:=by omega
 have Hd:=zY (show ∀j,j<8->cf ((bs s).drop (8*q)) j=cf (bs s) (i+j) from fun j _=>by unfold cf;rw[List.getElem?_drop,hqi]);have Hpl:=zY (pk_lt ((bs s).drop (8*q)));have Hby:Hid ((List.range (q+1)).map (byteOf (bs s))=(List.range q).map (byteOf (bs s))++[pk ((bs s).drop (8*q)) 8]):=zY (by rw[List.range_succ,List.map_append];rfl);have Hqi:=zY hqi;generalize hl:(bs s).drop (8*q)=l at *;clear hl hqi;go_wp2;go_loopw [8,9,10] (fun y o z wx=>∃j n p:Nat,j<=8/\n=i+j/\p=pk l j/\z=.int .i64 (n:Int)/\o=.bool false/\y=.int .i64 (p:Int)/\wo=wx) (fun _ _ z _=>i+8-(intOf z).toNat);case atStart=>exact⟨0,i,0,by omega,rfl,rfl,rfl,rfl,rfl,rfl⟩
 case round=>
 obtain⟨j,n,p,hj,hn,hp,rfl,rfl,rfl,rfl⟩:=hrel;by_cases h':j<8;{
 have hjI:(n:Int)<(i:Int)+8:=by omega
 have hx:n<s.size:=by omega
 have hxI:(n:Int)<752:=by omega
 have hp9:p<256:=by rw[hp];exact Nat.lt_of_lt_of_le (Hpl.out j) (Nat.pow_le_pow_right (by omega) (by omega:j<=8))
 have hcx:cf l j=(s[n]'hx).toNat:=by rw[Hd.out j h',<-hn];exact bsc s _ hx
 have hst:pk l (j+1)=2*pk l j+(if cf l j=49 then 1 else 0):=rfl;rw[hcx,<-hp]at hst;have hv:(s[n]'hx).toNat=48∨(s[n]'hx).toNat=49:=by rw[<-bsc s _ hx];exact H01.out _ (by unfold cf;rw[List.getElem?_eq_getElem (by rw[bs_len];exact hx)];exact List.getElem_mem _)
 have Hst:=zY hst;have Hn:=zY hn;clear hst hcx hn hp;rcases hv with hv|hv;{
 have e1:(((s[n]'hx).toNat:Int)==49)=false:=by rw[hv];rfl
 have e2:(((s[n]'hx).toNat:Int)==63)=false:=by rw[hv];rfl
 have HN:Hid (pk l (j+1)=2*p):=zY (by rw[Hst.out,hv,if_neg (by decide)];rfl);clear hv;go_wp2;go_roundw;case rel=>exact⟨j+1,n+1,2*p,by omega,by have:=Hn.out;omega,HN.symm,by go_num,rfl,by go_num,trivial⟩
 case measure=>simp[intOf];omega};{
 have e1:(((s[n]'hx).toNat:Int)==49)=true:=by rw[hv];rfl
 have e2:(((s[n]'hx).toNat:Int)==63)=false:=by rw[hv];rfl
 have HN:Hid (pk l (j+1)=2*p+1):=zY (by rw[Hst.out,hv,if_pos rfl]);clear hv;go_wp2;go_roundw;case rel=>exact⟨j+1,n+1,2*p+1,by omega,by have:=Hn.out;omega,HN.symm,by go_num,rfl,by go_num,trivial⟩
 case measure=>simp[intOf];omega}};{
 obtain rfl:j=8:=by omega
 have hjI:¬(n:Int)<(i:Int)+8:=by omega
 have hp9:p<256:=by rw[hp];exact Hpl.out 8
 rw[<-hp]at Hby;have hp2:(p:Int)%256=(p:Int):=by omega
 clear hp hn;go_wp2_with (at_builtin;refine wpList_app1 rfl _ _ rfl rfl rfl Ho.out hq9 hBz ?_;intro v1 w1 ho1 hb1);go_roundw;case rel=>refine⟨q+1,i+8,by have:=Hqi.out;omega,by omega,by go_num,?_,HBr.trans hb1⟩;rw[Hby.out];exact ho1
 case measure=>simp[intOf];omega}};{
 obtain rfl:q=94:=by omega
 have ho:=Ho.out;rw[HT.out]at ho;have hv:=BytesAt.of_own ho;have hl:(toB (bs s)).length=94:=by rw[<-HT.out,List.length_map,List.length_range]
 obtain⟨A,c,rfl,j1,j2,j3⟩:=BytesAt.of_own ho;have hcs:=run_toStr hv rfl;clear j3;rw[hl]at hcs⊢;clear hv ho;go_wp2;refine bodyPost_ret (v:=?_) (by simp[results,results120,go_sem];rfl) rfl ⟨⟨_,rfl⟩,HBr.out⟩}
end
end Go.Proofs.YthgenkkkapilhaaGreatDoor