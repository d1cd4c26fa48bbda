/- Texts, joined. -/
import Derived.Test.YthgenkkkapilhaaGreatDoorVTn18
import Derived.Test.YthgenkkkapilhaaGreatDoorVTn20
import Derived.Test.YthgenkkkapilhaaGreatDoorVTn24
set_option linter.all false
set_option maxRecDepth 100000
set_option maxHeartbeats 64000000
namespace Go.Proofs.YthgenkkkapilhaaGreatDoor
open Go.Proofs.Tryz
section
open Go.RowKit
theorem binit_any (w:World):Calls prog 132 #[] w fun e w'=>e=.returned (.agg #[.int .u32 1779033703,.int .u32 3144134277,.int .u32 1013904242,.int .u32 2773480762,.int .u32 1359893119,.int .u32 2600822924,.int .u32 528734635,.int .u32 1541459225])/\Below w.heap.size w w':=by
 have HZ:=zY (Blk.new w 207 (initW.map u32V));have HB:=zY (zBl w (.cells (initW.map u32V).toArray 207));go_enter func132,ntmps132;go_wp2_with fail;refine bodyPost_ret (results_cell_row rfl _ _ w.heap.size 207 _ (0,0) _ rfl HZ.out underlying207 rfl (by kernel_rfl)) rfl ?_;exact⟨rfl,HB.out⟩
theorem bperm_any (w:World):Calls prog 201 #[] w fun e w'=>e=.returned (.agg #[.int .u64 81985529216486895,.int .u64 16881918945140062035,.int .u64 13312731748010193300,.int .u64 8733003861693448440,.int .u64 10400822202260547645,.int .u64 3200383143768358425,.int .u64 14204332651957162635,.int .u64 15816291393287259690,.int .u64 8064173457993569445,.int .u64 11710614767857974480])/\Below w.heap.size w w':=by
 have HZ:=zY (Blk.new w 271 [.int .u64 81985529216486895,.int .u64 16881918945140062035,.int .u64 13312731748010193300,.int .u64 8733003861693448440,.int .u64 10400822202260547645,.int .u64 3200383143768358425,.int .u64 14204332651957162635,.int .u64 15816291393287259690,.int .u64 8064173457993569445,.int .u64 11710614767857974480]);have HB:=zY (zBl w (.cells #[.int .u64 81985529216486895,.int .u64 16881918945140062035,.int .u64 13312731748010193300,.int .u64 8733003861693448440,.int .u64 10400822202260547645,.int .u64 3200383143768358425,.int .u64 14204332651957162635,.int .u64 15816291393287259690,.int .u64 8064173457993569445,.int .u64 11710614767857974480] 271));go_enter func201,ntmps201;go_wp2_with fail;refine bodyPost_ret (results_cell_row rfl _ _ w.heap.size 271 _ (0,0) _ rfl HZ.out underlying271 rfl (by kernel_rfl)) rfl ?_;exact⟨rfl,HB.out⟩
theorem quad_m0 (f:Nat×Operand->Nat×Value):(Array.map f #[(0,.const (.int .i64 0)),(1,.const (.int .i64 4)),(2,.const (.int .i64 8)),(3,.const (.int .i64 12))]).toList=[f (0,.const (.int .i64 0)),f (1,.const (.int .i64 4)),f (2,.const (.int .i64 8)),f (3,.const (.int .i64 12))]:=by simp
theorem quad_b0:prog.built 273 [(0,.int .i64 0),(1,.int .i64 4),(2,.int .i64 8),(3,.int .i64 12)]=some #[.int .i64 0,.int .i64 4,.int .i64 8,.int .i64 12]:=by kernel_rfl
theorem quad_m1 (f:Nat×Operand->Nat×Value):(Array.map f #[(0,.const (.int .i64 1)),(1,.const (.int .i64 5)),(2,.const (.int .i64 9)),(3,.const (.int .i64 13))]).toList=[f (0,.const (.int .i64 1)),f (1,.const (.int .i64 5)),f (2,.const (.int .i64 9)),f (3,.const (.int .i64 13))]:=by simp
theorem quad_b1:prog.built 273 [(0,.int .i64 1),(1,.int .i64 5),(2,.int .i64 9),(3,.int .i64 13)]=some #[.int .i64 1,.int .i64 5,.int .i64 9,.int .i64 13]:=by kernel_rfl
theorem quad_m2 (f:Nat×Operand->Nat×Value):(Array.map f #[(0,.const (.int .i64 2)),(1,.const (.int .i64 6)),(2,.const (.int .i64 10)),(3,.const (.int .i64 14))]).toList=[f (0,.const (.int .i64 2)),f (1,.const (.int .i64 6)),f (2,.const (.int .i64 10)),f (3,.const (.int .i64 14))]:=by simp
theorem quad_b2:prog.built 273 [(0,.int .i64 2),(1,.int .i64 6),(2,.int .i64 10),(3,.int .i64 14)]=some #[.int .i64 2,.int .i64 6,.int .i64 10,.int .i64 14]:=by kernel_rfl
theorem quad_m3 (f:Nat×Operand->Nat×Value):(Array.map f #[(0,.const (.int .i64 3)),(1,.const (.int .i64 7)),(2,.const (.int .i64 11)),(3,.const (.int .i64 15))]).toList=[f (0,.const (.int .i64 3)),f (1,.const (.int .i64 7)),f (2,.const (.int .i64 11)),f (3,.const (.int .i64 15))]:=by simp
theorem quad_b3:prog.built 273 [(0,.int .i64 3),(1,.int .i64 7),(2,.int .i64 11),(3,.int .i64 15)]=some #[.int .i64 3,.int .i64 7,.int .i64 11,.int .i64 15]:=by kernel_rfl
theorem quad_m4 (f:Nat×Operand->Nat×Value):(Array.map f #[(0,.const (.int .i64 0)),(1,.const (.int .i64 5)),(2,.const (.int .i64 10)),(3,.const (.int .i64 15))]).toList=[f (0,.const (.int .i64 0)),f (1,.const (.int .i64 5)),f (2,.const (.int .i64 10)),f (3,.const (.int .i64 15))]:=by simp
theorem quad_b4:prog.built 273 [(0,.int .i64 0),(1,.int .i64 5),(2,.int .i64 10),(3,.int .i64 15)]=some #[.int .i64 0,.int .i64 5,.int .i64 10,.int .i64 15]:=by kernel_rfl
theorem quad_m5 (f:Nat×Operand->Nat×Value):(Array.map f #[(0,.const (.int .i64 1)),(1,.const (.int .i64 6)),(2,.const (.int .i64 11)),(3,.const (.int .i64 12))]).toList=[f (0,.const (.int .i64 1)),f (1,.const (.int .i64 6)),f (2,.const (.int .i64 11)),f (3,.const (.int .i64 12))]:=by simp
theorem quad_b5:prog.built 273 [(0,.int .i64 1),(1,.int .i64 6),(2,.int .i64 11),(3,.int .i64 12)]=some #[.int .i64 1,.int .i64 6,.int .i64 11,.int .i64 12]:=by kernel_rfl
theorem quad_m6 (f:Nat×Operand->Nat×Value):(Array.map f #[(0,.const (.int .i64 2)),(1,.const (.int .i64 7)),(2,.const (.int .i64 8)),(3,.const (.int .i64 13))]).toList=[f (0,.const (.int .i64 2)),f (1,.const (.int .i64 7)),f (2,.const (.int .i64 8)),f (3,.const (.int .i64 13))]:=by simp
theorem quad_b6:prog.built 273 [(0,.int .i64 2),(1,.int .i64 7),(2,.int .i64 8),(3,.int .i64 13)]=some #[.int .i64 2,.int .i64 7,.int .i64 8,.int .i64 13]:=by kernel_rfl
theorem quad_m7 (f:Nat×Operand->Nat×Value):(Array.map f #[(0,.const (.int .i64 3)),(1,.const (.int .i64 4)),(2,.const (.int .i64 9)),(3,.const (.int .i64 14))]).toList=[f (0,.const (.int .i64 3)),f (1,.const (.int .i64 4)),f (2,.const (.int .i64 9)),f (3,.const (.int .i64 14))]:=by simp
theorem quad_b7:prog.built 273 [(0,.int .i64 3),(1,.int .i64 4),(2,.int .i64 9),(3,.int .i64 14)]=some #[.int .i64 3,.int .i64 4,.int .i64 9,.int .i64 14]:=by kernel_rfl
theorem quad_m (f:Nat×Operand->Nat×Value):(Array.map f #[(0,.tmp 1),(1,.tmp 2),(2,.tmp 3),(3,.tmp 4),(4,.tmp 5),(5,.tmp 6),(6,.tmp 7),(7,.tmp 8)]).toList=[f (0,.tmp 1),f (1,.tmp 2),f (2,.tmp 3),f (3,.tmp 4),f (4,.tmp 5),f (5,.tmp 6),f (6,.tmp 7),f (7,.tmp 8)]:=by simp
theorem quad_b:prog.built 274 [(0,.agg #[.int .i64 0,.int .i64 4,.int .i64 8,.int .i64 12]),(1,.agg #[.int .i64 1,.int .i64 5,.int .i64 9,.int .i64 13]),(2,.agg #[.int .i64 2,.int .i64 6,.int .i64 10,.int .i64 14]),(3,.agg #[.int .i64 3,.int .i64 7,.int .i64 11,.int .i64 15]),(4,.agg #[.int .i64 0,.int .i64 5,.int .i64 10,.int .i64 15]),(5,.agg #[.int .i64 1,.int .i64 6,.int .i64 11,.int .i64 12]),(6,.agg #[.int .i64 2,.int .i64 7,.int .i64 8,.int .i64 13]),(7,.agg #[.int .i64 3,.int .i64 4,.int .i64 9,.int .i64 14])]=some #[.int .i64 0,.int .i64 4,.int .i64 8,.int .i64 12,.int .i64 1,.int .i64 5,.int .i64 9,.int .i64 13,.int .i64 2,.int .i64 6,.int .i64 10,.int .i64 14,.int .i64 3,.int .i64 7,.int .i64 11,.int .i64 15,.int .i64 0,.int .i64 5,.int .i64 10,.int .i64 15,.int .i64 1,.int .i64 6,.int .i64 11,.int .i64 12,.int .i64 2,.int .i64 7,.int .i64 8,.int .i64 13,.int .i64 3,.int .i64 4,.int .i64 9,.int .i64 14]:=by kernel_rfl
theorem bquads_any (w:World):Calls prog 202 #[] w fun e w'=>e=.returned (.agg #[.int .i64 0,.int .i64 4,.int .i64 8,.int .i64 12,.int .i64 1,.int .i64 5,.int .i64 9,.int .i64 13,.int .i64 2,.int .i64 6,.int .i64 10,.int .i64 14,.int .i64 3,.int .i64 7,.int .i64 11,.int .i64 15,.int .i64 0,.int .i64 5,.int .i64 10,.int .i64 15,.int .i64 1,.int .i64 6,.int .i64 11,.int .i64 12,.int .i64 2,.int .i64 7,.int .i64 8,.int .i64 13,.int .i64 3,.int .i64 4,.int .i64 9,.int .i64 14])/\Below w.heap.size w w':=by
 have HZ:Hid (Blk (w.alloc (.cells (List.replicate 32 (.int .i64 0)).toArray 274)) w.heap.size 274 (List.replicate 32 (.int .i64 0))):=zY (Blk.new _ _ _);have HB:=zY (zBl w (.cells (List.replicate 32 (.int .i64 0)).toArray 274));go_enter func202,ntmps202;go_upto_region 1 with fail;change Code.wp _ _ _ _ (w.alloc (.cells (List.replicate 32 (.int .i64 0)).toArray 274));generalize w.alloc (.cells (List.replicate 32 (.int .i64 0)).toArray 274)=wa at *;refine wp_region_lit ?_;refine wpList_build rfl 273 #[(0,.const (.int .i64 0)),(1,.const (.int .i64 4)),(2,.const (.int .i64 8)),(3,.const (.int .i64 12))] rfl (by rw[quad_m0];show (prog.built 273 [(0,.int .i64 0),(1,.int .i64 4),(2,.int .i64 8),(3,.int .i64 12)]).isSome=true;rw[quad_b0];rfl) ?_;rw[quad_m0];change wpList _ _ _ _ (Act.put _ _ (.agg ((prog.built 273 [(0,.int .i64 0),(1,.int .i64 4),(2,.int .i64 8),(3,.int .i64 12)]).getD #[]))) _;rw[quad_b0];simp only[Act.put,List.setIfInBounds_toArray,List.set_cons_zero,List.set_cons_succ,Option.getD_some];refine wpList_build rfl 273 #[(0,.const (.int .i64 1)),(1,.const (.int .i64 5)),(2,.const (.int .i64 9)),(3,.const (.int .i64 13))] rfl (by rw[quad_m1];show (prog.built 273 [(0,.int .i64 1),(1,.int .i64 5),(2,.int .i64 9),(3,.int .i64 13)]).isSome=true;rw[quad_b1];rfl) ?_;rw[quad_m1];change wpList _ _ _ _ (Act.put _ _ (.agg ((prog.built 273 [(0,.int .i64 1),(1,.int .i64 5),(2,.int .i64 9),(3,.int .i64 13)]).getD #[]))) _;rw[quad_b1];simp only[Act.put,List.setIfInBounds_toArray,List.set_cons_zero,List.set_cons_succ,Option.getD_some]
 refine wpList_build rfl 273 #[(0,.const (.int .i64 2)),(1,.const (.int .i64 6)),(2,.const (.int .i64 10)),(3,.const (.int .i64 14))] rfl (by rw[quad_m2];show (prog.built 273 [(0,.int .i64 2),(1,.int .i64 6),(2,.int .i64 10),(3,.int .i64 14)]).isSome=true;rw[quad_b2];rfl) ?_;rw[quad_m2];change wpList _ _ _ _ (Act.put _ _ (.agg ((prog.built 273 [(0,.int .i64 2),(1,.int .i64 6),(2,.int .i64 10),(3,.int .i64 14)]).getD #[]))) _;rw[quad_b2];simp only[Act.put,List.setIfInBounds_toArray,List.set_cons_zero,List.set_cons_succ,Option.getD_some];refine wpList_build rfl 273 #[(0,.const (.int .i64 3)),(1,.const (.int .i64 7)),(2,.const (.int .i64 11)),(3,.const (.int .i64 15))] rfl (by rw[quad_m3];show (prog.built 273 [(0,.int .i64 3),(1,.int .i64 7),(2,.int .i64 11),(3,.int .i64 15)]).isSome=true;rw[quad_b3];rfl) ?_;rw[quad_m3];change wpList _ _ _ _ (Act.put _ _ (.agg ((prog.built 273 [(0,.int .i64 3),(1,.int .i64 7),(2,.int .i64 11),(3,.int .i64 15)]).getD #[]))) _;rw[quad_b3];simp only[Act.put,List.setIfInBounds_toArray,List.set_cons_zero,List.set_cons_succ,Option.getD_some];refine wpList_build rfl 273 #[(0,.const (.int .i64 0)),(1,.const (.int .i64 5)),(2,.const (.int .i64 10)),(3,.const (.int .i64 15))] rfl (by rw[quad_m4];show (prog.built 273 [(0,.int .i64 0),(1,.int .i64 5),(2,.int .i64 10),(3,.int .i64 15)]).isSome=true;rw[quad_b4];rfl) ?_;rw[quad_m4];change wpList _ _ _ _ (Act.put _ _ (.agg ((prog.built 273 [(0,.int .i64 0),(1,.int .i64 5),(2,.int .i64 10),(3,.int .i64 15)]).getD #[]))) _;rw[quad_b4]
 simp only[Act.put,List.setIfInBounds_toArray,List.set_cons_zero,List.set_cons_succ,Option.getD_some];refine wpList_build rfl 273 #[(0,.const (.int .i64 1)),(1,.const (.int .i64 6)),(2,.const (.int .i64 11)),(3,.const (.int .i64 12))] rfl (by rw[quad_m5];show (prog.built 273 [(0,.int .i64 1),(1,.int .i64 6),(2,.int .i64 11),(3,.int .i64 12)]).isSome=true;rw[quad_b5];rfl) ?_;rw[quad_m5];change wpList _ _ _ _ (Act.put _ _ (.agg ((prog.built 273 [(0,.int .i64 1),(1,.int .i64 6),(2,.int .i64 11),(3,.int .i64 12)]).getD #[]))) _;rw[quad_b5];simp only[Act.put,List.setIfInBounds_toArray,List.set_cons_zero,List.set_cons_succ,Option.getD_some];refine wpList_build rfl 273 #[(0,.const (.int .i64 2)),(1,.const (.int .i64 7)),(2,.const (.int .i64 8)),(3,.const (.int .i64 13))] rfl (by rw[quad_m6];show (prog.built 273 [(0,.int .i64 2),(1,.int .i64 7),(2,.int .i64 8),(3,.int .i64 13)]).isSome=true;rw[quad_b6];rfl) ?_;rw[quad_m6];change wpList _ _ _ _ (Act.put _ _ (.agg ((prog.built 273 [(0,.int .i64 2),(1,.int .i64 7),(2,.int .i64 8),(3,.int .i64 13)]).getD #[]))) _;rw[quad_b6];simp only[Act.put,List.setIfInBounds_toArray,List.set_cons_zero,List.set_cons_succ,Option.getD_some];refine wpList_build rfl 273 #[(0,.const (.int .i64 3)),(1,.const (.int .i64 4)),(2,.const (.int .i64 9)),(3,.const (.int .i64 14))] rfl (by rw[quad_m7];show (prog.built 273 [(0,.int .i64 3),(1,.int .i64 4),(2,.int .i64 9),(3,.int .i64 14)]).isSome=true;rw[quad_b7];rfl) ?_;rw[quad_m7]
 change wpList _ _ _ _ (Act.put _ _ (.agg ((prog.built 273 [(0,.int .i64 3),(1,.int .i64 4),(2,.int .i64 9),(3,.int .i64 14)]).getD #[]))) _;rw[quad_b7];simp only[Act.put,List.setIfInBounds_toArray,List.set_cons_zero,List.set_cons_succ,Option.getD_some];refine wpList_build rfl 274 #[(0,.tmp 1),(1,.tmp 2),(2,.tmp 3),(3,.tmp 4),(4,.tmp 5),(5,.tmp 6),(6,.tmp 7),(7,.tmp 8)] rfl (by rw[quad_m];show (prog.built 274 [(0,.agg #[.int .i64 0,.int .i64 4,.int .i64 8,.int .i64 12]),(1,.agg #[.int .i64 1,.int .i64 5,.int .i64 9,.int .i64 13]),(2,.agg #[.int .i64 2,.int .i64 6,.int .i64 10,.int .i64 14]),(3,.agg #[.int .i64 3,.int .i64 7,.int .i64 11,.int .i64 15]),(4,.agg #[.int .i64 0,.int .i64 5,.int .i64 10,.int .i64 15]),(5,.agg #[.int .i64 1,.int .i64 6,.int .i64 11,.int .i64 12]),(6,.agg #[.int .i64 2,.int .i64 7,.int .i64 8,.int .i64 13]),(7,.agg #[.int .i64 3,.int .i64 4,.int .i64 9,.int .i64 14])]).isSome=true;rw[quad_b];rfl) ?_;rw[quad_m];change wpList _ _ _ _ (Act.put _ _ (.agg ((prog.built 274 [(0,.agg #[.int .i64 0,.int .i64 4,.int .i64 8,.int .i64 12]),(1,.agg #[.int .i64 1,.int .i64 5,.int .i64 9,.int .i64 13]),(2,.agg #[.int .i64 2,.int .i64 6,.int .i64 10,.int .i64 14]),(3,.agg #[.int .i64 3,.int .i64 7,.int .i64 11,.int .i64 15]),(4,.agg #[.int .i64 0,.int .i64 5,.int .i64 10,.int .i64 15]),(5,.agg #[.int .i64 1,.int .i64 6,.int .i64 11,.int .i64 12]),(6,.agg #[.int .i64 2,.int .i64 7,.int .i64 8,.int .i64 13]),(7,.agg #[.int .i64 3,.int .i64 4,.int .i64 9,.int .i64 14])]).getD #[]))) _;rw[quad_b]
 simp only[Act.put,List.setIfInBounds_toArray,List.set_cons_zero,List.set_cons_succ,Option.getD_some];refine wpList_store_row rfl 274 (.tmp 0) (.tmp 9) rfl w.heap.size #[.int .i64 0,.int .i64 4,.int .i64 8,.int .i64 12,.int .i64 1,.int .i64 5,.int .i64 9,.int .i64 13,.int .i64 2,.int .i64 6,.int .i64 10,.int .i64 14,.int .i64 3,.int .i64 7,.int .i64 11,.int .i64 15,.int .i64 0,.int .i64 5,.int .i64 10,.int .i64 15,.int .i64 1,.int .i64 6,.int .i64 11,.int .i64 12,.int .i64 2,.int .i64 7,.int .i64 8,.int .i64 13,.int .i64 3,.int .i64 4,.int .i64 9,.int .i64 14] rfl rfl 274 _ HZ.out (by kernel_rfl) (by simp) (by simp[Value.oneCell']) ?_;go_wp2_with fail;refine bodyPost_ret (results_cell_row rfl _ _ w.heap.size 274 _ (0,0) _ rfl (setRow_heap _ _ _ _ _ _ HZ.out) underlying274 rfl (by kernel_rfl)) rfl ?_;exact⟨rfl,below_setRow HB.out (Nat.le_refl _) _⟩
theorem run_index_p (w:World) (cs:Array Value) (r:Nat) (hr:r<10) {v:Value} (hv:cs[r]?=some v):(Instr.index 271 (.agg cs) (.int .i64 (r:Int))).run prog w=.ok v w:=by
 have hn:(0:Int)<=(r:Int)/\(r:Int)<(10:Nat):=by omega
 have hu:=underlying271;simp[Instr.index,run_underlying hu,asIntOf,hn,hr,hv,go_sem]
theorem run_index_q (w:World) (cs:Array Value) (r:Nat) (hr:r<8) (hc:cs.size=32):(Instr.index 274 (.agg cs) (.int .i64 (r:Int))).run prog w=.ok (.agg (cs.extract (r*4) (r*4+4))) w:=by
 have hn:(0:Int)<=(r:Int)/\(r:Int)<(8:Nat):=by omega
 have hu:=underlying274;have h32:r*4+4<=32:=by omega
 simp[Instr.index,run_underlying hu,asIntOf,hn,hr,hc,h32,go_sem]
def permI:Nat->Int
 |0=>81985529216486895
 |1=>16881918945140062035
 |2=>13312731748010193300
 |3=>8733003861693448440
 |4=>10400822202260547645
 |5=>3200383143768358425
 |6=>14204332651957162635
 |7=>15816291393287259690
 |8=>8064173457993569445
 |9=>11710614767857974480
 |_=>0
theorem perm_at:∀r,r<10->(#[.int .u64 81985529216486895,.int .u64 16881918945140062035,.int .u64 13312731748010193300,.int .u64 8733003861693448440,.int .u64 10400822202260547645,.int .u64 3200383143768358425,.int .u64 14204332651957162635,.int .u64 15816291393287259690,.int .u64 8064173457993569445,.int .u64 11710614767857974480]:Array Value)[r]?=some (.int .u64 (permI r))
 |0,_=>rfl
 |1,_=>rfl
 |2,_=>rfl
 |3,_=>rfl
 |4,_=>rfl
 |5,_=>rfl
 |6,_=>rfl
 |7,_=>rfl
 |8,_=>rfl
 |9,_=>rfl
 |n+10,h=>absurd h (by omega)
theorem perm_xy:∀r:Nat,r<10->∀k:Nat,k<8->bits .and .u64 (permI r/2^(60-8*(k:Int)).toNat) 15=(sigN r (2*k):Int)/\bits .and .u64 (permI r/2^(56-8*(k:Int)).toNat) 15=(sigN r (2*k+1):Int):=by decide +kernel
def quadsV:Value:=.agg #[.int .i64 0,.int .i64 4,.int .i64 8,.int .i64 12,.int .i64 1,.int .i64 5,.int .i64 9,.int .i64 13,.int .i64 2,.int .i64 6,.int .i64 10,.int .i64 14,.int .i64 3,.int .i64 7,.int .i64 11,.int .i64 15,.int .i64 0,.int .i64 5,.int .i64 10,.int .i64 15,.int .i64 1,.int .i64 6,.int .i64 11,.int .i64 12,.int .i64 2,.int .i64 7,.int .i64 8,.int .i64 13,.int .i64 3,.int .i64 4,.int .i64 9,.int .i64 14]
theorem quads_any (w:World):Calls prog 202 #[] w fun e w'=>e=.returned quadsV/\Below w.heap.size w w':=bquads_any w
theorem quad_col:∀k:Nat,k<8->(#[.int .i64 0,.int .i64 4,.int .i64 8,.int .i64 12,.int .i64 1,.int .i64 5,.int .i64 9,.int .i64 13,.int .i64 2,.int .i64 6,.int .i64 10,.int .i64 14,.int .i64 3,.int .i64 7,.int .i64 11,.int .i64 15,.int .i64 0,.int .i64 5,.int .i64 10,.int .i64 15,.int .i64 1,.int .i64 6,.int .i64 11,.int .i64 12,.int .i64 2,.int .i64 7,.int .i64 8,.int .i64 13,.int .i64 3,.int .i64 4,.int .i64 9,.int .i64 14]:Array Value).extract (k*4) (k*4+4)= #[.int .i64 ((colW k).getD 0 0:Nat),.int .i64 ((colW k).getD 1 0:Nat),.int .i64 ((colW k).getD 2 0:Nat),.int .i64 ((colW k).getD 3 0:Nat)]
 |0,_=>rfl
 |1,_=>rfl
 |2,_=>rfl
 |3,_=>rfl
 |4,_=>rfl
 |5,_=>rfl
 |6,_=>rfl
 |7,_=>rfl
 |n+8,h=>absurd h (by omega)
def Four (a b c d:Nat):Prop:=a<16/\b<16/\c<16/\d<16/\a≠b/\a≠c/\a≠d/\b≠c/\b≠d/\c≠d
theorem col_four:∀k:Nat,k<8->Four ((colW k).getD 0 0) ((colW k).getD 1 0) ((colW k).getD 2 0) ((colW k).getD 3 0):=by unfold Four;decide
theorem qstep (w:World) (r k:Nat) (h:r<10) (hk:k<8):∃a b c d x y:Nat,Four a b c d/\x<16/\y<16/\bits .and .u64 (permI r/2^(60-8*(k:Int)).toNat) 15=(x:Int)/\bits .and .u64 (permI r/2^(56-8*(k:Int)).toNat) 15=(y:Int)/\(Instr.index 274 quadsV (.int .i64 (k:Int))).run prog w=.ok (.agg #[.int .i64 (a:Int),.int .i64 (b:Int),.int .i64 (c:Int),.int .i64 (d:Int)]) w/\∀M V:List Int,rndW M V (8*r+k+1)=mixW (rndW M V (8*r+k)) a b c d (getW M x) (getW M y):=
 ⟨_,_,_,_,sigN r (2*k),sigN r (2*k+1),col_four k hk,sigN_lt r h _ (by omega),sigN_lt r h _ (by omega),(perm_xy r h k hk).1,(perm_xy r h k hk).2,by rw[<-quad_col k hk];exact run_index_q w _ k hk rfl,fun M V=>(rndW_step hk).trans rfl⟩
def partB (s:ByteArray) (k:Nat):ByteArray:=s.extract (28*k) (min (28*k+28) s.size)
def partsB (s:ByteArray):List ByteArray:=(List.range ((s.size+27)/28)).map (partB s)
theorem parts40_any (w:World) (s:ByteArray) (hs:s.size<=1000000000):Calls prog 42 #[.string s] w fun e w'=>RetSeq strS 9 w w' (partsB s) e/\Below w.heap.size w w':=by
 go_enter func42,ntmps42;go_wp2;go_loopw [3,4,5] (fun y x _ wr=>∃k:Nat,k<=(s.size+27)/28/\x=.int .i64 ((28*k:Nat):Int)/\OwnSeq strS 9 w wr y ((List.range k).map (partB s))/\Below w.heap.size w wr) (fun _ x _ _=>s.size+28-(intOf x).toNat);case atStart=>exact⟨0,by omega,rfl,OwnSeq.new _,(Below.refl _ _).alloc (Nat.le_refl _) _⟩
 case round=>
 obtain⟨k,hk,rfl,ho,hB⟩:=hrel;have HB:=zY hB;have HO:=zY ho;clear ho hB;obtain⟨i,hi⟩:=zNm (28*k);rw[hi];by_cases h:i<s.size;{
 have hiI:(i:Int)<s.size:=by omega
 obtain⟨j,hj⟩:=zNm (i+28);have hjI:(i:Int)+28=j:=by omega
 have Hkn:Hid (k+1<=(s.size+27)/28/\28*(k+1)=j):=zY (by omega);have Hl1:Hid (((List.range k).map (partB s)).length+1<=100000000):=zY (by simp;omega);by_cases hje:s.size<j;{
 have hjs:(s.size:Int)<j:=by omega
 obtain⟨X,hX⟩:=zNm (s.extract i s.size);have HX:Hid ((List.range (k+1)).map (partB s)=(List.range k).map (partB s)++[X]):=zY (by
  rw[List.range_succ,List.map_append,<-hX]
  simp only[List.map_cons,List.map_nil,partB]
  rw[hi,show min (i+28) s.size=s.size by omega]);have his:(i:Int)<=s.size:=by omega
 have hisn:i<=s.size:=by omega
 clear hi hj hk;go_wp2_with (at_builtin;refine append_seq (ρ:=strS) (w0:=w) Tryz.elemStr rfl _ _ rfl rfl (HO.alloc _) rfl (src1 (ρ:=strS) [.string X] X rfl rfl) Hl1.out (HB.alloc HB.size _) ?_;intro va1 wa1 hob _ hbb;have KU:=zY hob;have KB:=zY hbb;clear hob hbb);go_roundw;case rel=>exact⟨k+1,Hkn.1,by rw[Hkn.2],by rw[HX.out];exact KU.out,KB.out⟩
 case measure=>simp[intOf];omega};{
 have hjs:¬(s.size:Int)<j:=by omega
 obtain⟨X,hX⟩:=zNm (s.extract i j);have HX:Hid ((List.range (k+1)).map (partB s)=(List.range k).map (partB s)++[X]):=zY (by
  rw[List.range_succ,List.map_append,<-hX]
  simp only[List.map_cons,List.map_nil,partB]
  rw[hi,hj,show min j s.size=j by omega]);have hij:(i:Int)<=j:=by omega
 have hijn:i<=j:=by omega
 have hjsn:j<=s.size:=by omega
 have hjsI:(j:Int)<=s.size:=by omega
 clear hi hj hk;go_wp2_with (at_builtin;refine append_seq (ρ:=strS) (w0:=w) Tryz.elemStr rfl _ _ rfl rfl (HO.alloc _) rfl (src1 (ρ:=strS) [.string X] X rfl rfl) Hl1.out (HB.alloc HB.size _) ?_;intro va1 wa1 hob _ hbb;have KU:=zY hob;have KB:=zY hbb;clear hob hbb);go_roundw;case rel=>exact⟨k+1,Hkn.1,by rw[Hkn.2],by rw[HX.out];exact KU.out,KB.out⟩
 case measure=>simp[intOf];omega}};{
 have hiI:¬(i:Int)<s.size:=by omega
 have HK:Hid ((List.range k).map (partB s)=partsB s):=zY (by unfold partsB;rw[show (s.size+27)/28=k by omega]);clear hi hk;go_wp2;go_ret;exact⟨⟨_,rfl,by rw[<-HK.out];exact HO.out⟩,HB.out⟩}
def RetHE (w':World) (n B:Nat) (e:Ending):Prop:=∃v m k,e=.returned (.tuple #[v,.int .i64 k])/\SeqAt holS w' v m/\m.length<=n/\∀h∈m,h.p.size<=B
theorem apply38_any (w:World) (v:Value) (l:List Hol) (B:Nat) (hB:B<=1000000) (hv:SeqAt holS w v l) (hl:l.length<=1000) (hz:∀h∈l,h.p.size<=B) (k:Int) (path tgt dig:ByteArray) (Aa Ax:Option Addr) (na ca nx cx:Nat) (size:Int) (hp:path.size<=B) (ht:tgt.size<=1000000) (date:Int):
  Calls prog 157 #[v,.agg #[.int .i64 k,.string path,.slice Aa na ca,.string tgt,.int .i64 size,.string dig,.slice Ax nx cx],.int .i64 date] w fun e w'=>RetHE w' (l.length+1) B e/\Below w.heap.size w w':=by
 have hK:=Blk.new w 182 [.int .i64 k,.string path,.slice Aa na ca,.string tgt,.int .i64 size,.string dig,.slice Ax nx cx];change Blk (w.alloc (.cells #[.int .i64 k,.string path,.slice Aa na ca,.string tgt,.int .i64 size,.string dig,.slice Ax nx cx] 182)) _ _ _ at hK;have HK:=zY hK;have HB0:=zY (zBl w (.cells #[.int .i64 k,.string path,.slice Aa na ca,.string tgt,.int .i64 size,.string dig,.slice Ax nx cx] 182));have Hv:=zY (hv.below HB0.out);obtain⟨A,c,rfl,h1,h2⟩:=hv.slice;have HA:=zY (fun(W:World) (h:SeqAt holS W (.slice A l.length c) l)=>active_any W (.slice A l.length c) l h (by omega) date);have HD:=zY (fun(W:World)=>date38_any W tgt ht);have Hz:=zY hz;have HBz:=zY hB;have Hl:=zY hl;clear hK hv hz hB hl;go_enter func157,ntmps157;go_upto_region 1 with fail;generalize w.alloc (.cells #[.int .i64 k,.string path,.slice Aa na ca,.string tgt,.int .i64 size,.string dig,.slice Ax nx cx] 182)=wa at *;go_wp2_with fail;refine(HA.out _ Hv.out).mono ?_;rintro e1 w1 ⟨⟨v1,l1,rfl,ho1,hn1,hm1⟩,hb1⟩;have Hn1:=zY hn1;have Hm1:=zY hm1;have HB1:=zYt HB0 hb1;have HK1:=zY (HK.kept hb1);have Hv1:=zY (ho1.at hb1);clear hb1 ho1 hn1 hm1 HK Hv HB0;obtain⟨A1,c1,rfl,_,_⟩:=Hv1.slice;have d0:=HK1.c 0;have d1:=HK1.c 1;have d3:=HK1.c 3;have Hz1:Hid (∀h∈l1,h.p.size<=B):=zY (fun h hh=>Hz.out h (Hm1.out h hh));have HW:=zY (fun(W:World) (h:SeqAt holS W (.slice A1 l1.length c1) l1)=>without_any W (.slice A1 l1.length c1) l1 h (by have:=Hn1.out;have:=Hl.out;omega) path);have hk:k=5∨k=6∨(k≠5/\k≠6):=by omega
 rcases hk with rfl|rfl|⟨k1,k2⟩;{
 go_wp2_with fail;refine(HD.out _).mono ?_;rintro e2 w2 ⟨⟨n,rfl⟩,rfl⟩;by_cases hn:n<0;{
 have HE:=zY ((OwnSeq.new (ρ:=holS) (t:=289) w1).at ((Below.refl _ _).alloc (Nat.le_refl _) _));have HB2:=zY (HB1.alloc HB1.size (.cells #[] 289));go_wp2_with fail;go_ret2;exact⟨⟨_,[],3,rfl,HE.out,by simp,fun h hh=>nomatch hh⟩,HB2.out⟩};{
 go_wp2_with fail;refine(HW.out _ Hv1.out).mono ?_;rintro e3 w3 ⟨⟨v3,l3,q,rfl,ho3,hn3,hm3⟩,hb3⟩;have Hn3:=zY hn3;have Hm3:=zY hm3;have Hv3:=zY (ho3.at hb3);have HB3:=zYt HB1 hb3;have HK3:=zY (HK1.kept hb3);have HI:=zY (fun(u:Int)=>insert38_any w3 v3 l3 (ho3.at hb3) (by have:=Hn1.out;have:=Hl.out;omega) (fun h hh=>Nat.le_trans (Hz1.out h (hm3 h hh)) HBz.out) path u (Nat.le_trans hp HBz.out));clear hb3 ho3 hn3 hm3 d0 d1 d3;obtain⟨A3,c3,rfl,_,_⟩:=Hv3.slice;have g1:=HK3.c 1;by_cases hq:n<q;all_goals
 go_wp2_with fail;refine(HI.out _).mono ?_;rintro e4 w4 ⟨⟨v4,l4,rfl,ho4,hn4,hm4⟩,hb4⟩;go_wp2_with fail;go_ret2;exact⟨⟨v4,l4,0,rfl,ho4.at hb4,by have:=Hn1.out;have:=Hn3.out;omega,fun h hh=>by
  rcases hm4 h hh with rfl|hh
  ·exact hp
  ·exact Hz1.out h (Hm3.out h hh)⟩,HB3.trans (hb4.mono HB3.size)⟩}};{
 go_wp2_with fail;refine(HW.out _ Hv1.out).mono ?_;rintro e3 w3 ⟨⟨v3,l3,q,rfl,ho3,hn3,hm3⟩,hb3⟩;have HB3:=zYt HB1 hb3;have Hn3:=zY hn3;have Hm3:=zY hm3;have Hv3:=zY (ho3.at hb3);clear hb3 ho3 hn3 hm3;by_cases hq:q<0;{
 have HE:=zY ((OwnSeq.new (ρ:=holS) (t:=289) w3).at ((Below.refl _ _).alloc (Nat.le_refl _) _));have HB2:=zY (HB3.alloc HB3.size (.cells #[] 289));go_wp2_with fail;go_ret2;exact⟨⟨_,[],9,rfl,HE.out,by simp,fun h hh=>nomatch hh⟩,HB2.out⟩};{
 go_wp2_with fail;go_ret2;exact⟨⟨v3,l3,0,rfl,Hv3.out,by have:=Hn1.out;have:=Hn3.out;omega,fun h hh=>Hz1.out h (Hm3.out h hh)⟩,HB3.out⟩}};{
 have f1:(k==5)=false:=by rw[beq_eq_false_iff_ne];exact k1
 have f2:(k==6)=false:=by rw[beq_eq_false_iff_ne];exact k2
 clear k1 k2;go_wp2_with fail;go_ret2;exact⟨⟨_,l1,0,rfl,Hv1.out,by have:=Hn1.out;omega,Hz1.out⟩,HB1.out⟩}
def EntCells (cs:List Value):Prop:=∃(k sz:Int) (p t d:ByteArray) (A B:Option Addr) (n m c e:Nat),cs=[.int .i64 k,.string p,.slice A n c,.string t,.int .i64 sz,.string d,.slice B m e]
def RetEB (e:Ending):Prop:=∃cs b,EntCells cs/\e=.returned (.tuple #[.agg cs.toArray,.bool b])
theorem get37_any (w:World) (v:Value) (l:List Ent) (hv:SeqAt entS w v l) (s:ByteArray):Calls prog 155 #[v,.string s] w fun e w'=>RetEB e/\Below w.heap.size w w':=by
 have Hv:=zY hv;obtain⟨A,c,rfl,h1,h2⟩:=hv.slice;clear hv;have hZ:=Blk.new w 182 [.int .i64 0,.string ⟨#[]⟩,.slice none 0 0,.string ⟨#[]⟩,.int .i64 0,.string ⟨#[]⟩,.slice none 0 0];change Blk (w.alloc (.cells #[.int .i64 0,.string ⟨#[]⟩,.slice none 0 0,.string ⟨#[]⟩,.int .i64 0,.string ⟨#[]⟩,.slice none 0 0] 182)) _ _ _ at hZ;have HZ0:=zY hZ;have HB0:=zY (zBl w (.cells #[.int .i64 0,.string ⟨#[]⟩,.slice none 0 0,.string ⟨#[]⟩,.int .i64 0,.string ⟨#[]⟩,.slice none 0 0] 182));clear hZ;go_enter func155,ntmps155;go_upto_region 1 with fail;generalize w.alloc (.cells #[.int .i64 0,.string ⟨#[]⟩,.slice none 0 0,.string ⟨#[]⟩,.int .i64 0,.string ⟨#[]⟩,.slice none 0 0] 182)=wa at *;go_wp2;go_loopw [7,10] (fun _ x wr=>∃i:Nat,i<=l.length/\x=.int .i64 (i:Int)/\Below wa.heap.size wa wr) (fun _ x _=>l.length-(intOf x).toNat);case atStart=>exact⟨0,by omega,rfl,Below.refl _ _⟩
 case round=>
 obtain⟨i,hi,rfl,hB⟩:=hrel;have HB:=zY hB;have HZ:=zY (HZ0.kept hB);clear hB;by_cases h:i<l.length;{
 have hiI:(i:Int)<l.length:=by omega
 obtain⟨x,hx⟩:∃x,l[i]?=some x:=⟨_,List.getElem?_eq_getElem h⟩;obtain⟨_,_,e9,_,_,h4⟩:=Hv.below (HB0.trans (HB.mono HB0.size));cases e9;obtain⟨b,o,cs,rfl,⟨va,vx,rfl,ra,rx⟩,hc⟩:=h4 i x hx;obtain⟨Aa,ca,rfl,_,_⟩:=ra.slice;obtain⟨Ax,cx,rfl,_,_⟩:=rx.slice;obtain⟨k,p,attrs,t,sz,d,exts⟩:=x;dsimp only at hc;generalize attrs.length=na at *;generalize exts.length=nx at *;have e0:wr.cell? ⟨b,o+i*7,none⟩=some (.int .i64 k):=hc 0 _ rfl;have e1:wr.cell? ⟨b,o+i*7+1,none⟩=some (.string p):=hc 1 _ rfl;have e2:wr.cell? ⟨b,o+i*7+2,none⟩=some (.slice Aa na ca):=hc 2 _ rfl;have e3:wr.cell? ⟨b,o+i*7+3,none⟩=some (.string t):=hc 3 _ rfl;have e4:wr.cell? ⟨b,o+i*7+4,none⟩=some (.int .i64 sz):=hc 4 _ rfl;have e5:wr.cell? ⟨b,o+i*7+5,none⟩=some (.string d):=hc 5 _ rfl;have e6:wr.cell? ⟨b,o+i*7+6,none⟩=some (.slice Ax nx cx):=hc 6 _ rfl;clear hc h4 hx ra rx;have hF:=Blk.new wr 182 [.int .i64 k,.string p,.slice Aa na ca,.string t,.int .i64 sz,.string d,.slice Ax nx cx];change Blk (wr.alloc (.cells #[.int .i64 k,.string p,.slice Aa na ca,.string t,.int .i64 sz,.string d,.slice Ax nx cx] 182)) _ _ _ at hF;have HBz:=zY (HB.alloc HB.size (.cells #[.int .i64 k,.string p,.slice Aa na ca,.string t,.int .i64 sz,.string d,.slice Ax nx cx] 182));have HZz:=zY (HZ.alloc (.cells #[.int .i64 k,.string p,.slice Aa na ca,.string t,.int .i64 sz,.string d,.slice Ax nx cx] 182));go_upto_region 4 with fail;clear e0 e1 e2 e3 e4 e5 e6;generalize wr.alloc (.cells #[.int .i64 k,.string p,.slice Aa na ca,.string t,.int .i64 sz,.string d,.slice Ax nx cx] 182)=wz at *;have hg1:=hF.c 1;have HFz:=zY hF;clear hF;by_cases hps:p=s;{
 subst hps;go_upto_region 5 with fail;refine wp_region_lit ?_;refine wpList_load_row rfl 182 (.tmp 7) rfl wr.heap.size rfl 182 _ (0,0) _ HFz.out underlying182 rfl (by kernel_rfl) ?_;refine wpList_store_row rfl 182 (.tmp 4) (.tmp 18) rfl w.heap.size _ rfl rfl 182 _ HZz.out (by kernel_rfl) rfl (by simp[Value.oneCell']) ?_;clear hg1;go_wp2_with fail;refine bodyPost_ret (results_row_tmp rfl _ _ w.heap.size 182 _ (0,0) _ rfl (setRow_heap _ _ _ _ _ _ HZz.out) underlying182 rfl (by kernel_rfl)) rfl ?_;exact⟨⟨_,true,⟨k,sz,p,t,d,Aa,Ax,na,nx,ca,cx,rfl⟩,rfl⟩,below_setRow (HB0.trans (HBz.mono HB0.size)) (Nat.le_refl _) _⟩};{
 have b3:¬p.toList=s.toList:=fun e=>hps (by rw[ByteArray.toList_eq,ByteArray.toList_eq]at e;exact ByteArray.ext (Array.toList_inj.1 e));have b4:(p.toList==s.toList)=false:=by rw[beq_eq_false_iff_ne];exact b3
 clear hps;go_wp2;go_roundw;case rel=>exact⟨i+1,by omega,by go_num,HBz.out⟩
 case measure=>simp[intOf];omega}};{
 have hiI:¬(i:Int)<l.length:=by omega
 have hbt:(prog.built 182 [])=some #[.int .i64 0,.string ⟨#[]⟩,.slice none 0 0,.string ⟨#[]⟩,.int .i64 0,.string ⟨#[]⟩,.slice none 0 0]:=by kernel_rfl
 have hmap:∀f:Nat×Operand->Nat×Value,(Array.map f #[]).toList=[]:=fun f=>by simp
 go_upto_region 7 with fail;refine wp_region_lit ?_;refine wpList_build rfl 182 #[] rfl (by rw[hmap,hbt];rfl) ?_;rw[hmap,hbt];refine wpList_store_row rfl 182 (.tmp 4) (.tmp 20) rfl w.heap.size #[.int .i64 0,.string ⟨#[]⟩,.slice none 0 0,.string ⟨#[]⟩,.int .i64 0,.string ⟨#[]⟩,.slice none 0 0] rfl rfl 182 _ HZ.out (by kernel_rfl) rfl (by simp[Value.oneCell']) ?_;go_wp2_with fail;refine bodyPost_ret (results_row_tmp rfl _ _ w.heap.size 182 _ (0,0) _ rfl (setRow_heap _ _ _ _ _ _ HZ.out) underlying182 rfl (by kernel_rfl)) rfl ?_;exact⟨⟨[.int .i64 0,.string ⟨#[]⟩,.slice none 0 0,.string ⟨#[]⟩,.int .i64 0,.string ⟨#[]⟩,.slice none 0 0],false,⟨0,0,_,_,_,none,none,0,0,0,0,rfl⟩,rfl⟩,below_setRow (HB0.trans (HB.mono HB0.size)) (Nat.le_refl _) _⟩}
theorem dir37_any (w:World) (v:Value) (l:List Ent) (hv:SeqAt entS w v l) (s:ByteArray):Calls prog 228 #[v,.string s] w fun e w'=>RetI e/\Below w.heap.size w w':=by
 have HG:=zY (get37_any w v l hv s);obtain⟨A,c,rfl,h1,h2⟩:=hv.slice;clear hv;by_cases h0:s.size=0;{
 have f0:s.toList.isEmpty=true:=by rw[show s=⟨#[]⟩ by apply ByteArray.ext;exact Array.eq_empty_of_size_eq_zero h0];exact isEmptyV0
 clear h0;go_enter func228,ntmps228;go_wp2_with fail;go_ret;exact⟨RetI.of 0,Below.refl _ _⟩};{
 have f0:s.toList.isEmpty=false:=isEmptyV h0;clear h0;go_enter func228,ntmps228;go_wp2_with fail;refine HG.mono ?_;rintro e1 w1 ⟨⟨cs,b,⟨k,sz,p,t,d,Aa,Ax,na,nx,ca,cx,rfl⟩,rfl⟩,hb⟩;have HB:=zY hb;have hF:=Blk.new w1 182 [.int .i64 k,.string p,.slice Aa na ca,.string t,.int .i64 sz,.string d,.slice Ax nx cx];change Blk (w1.alloc (.cells #[.int .i64 k,.string p,.slice Aa na ca,.string t,.int .i64 sz,.string d,.slice Ax nx cx] 182)) _ _ _ at hF;have HBz:=zY (HB.alloc HB.size (.cells #[.int .i64 k,.string p,.slice Aa na ca,.string t,.int .i64 sz,.string d,.slice Ax nx cx] 182));have c0:=hF.c 0;clear hb hF HG HB;cases b with
 |false=>go_wp2_with fail;go_ret;exact⟨RetI.of 9,HBz.out⟩
 |true=>
 by_cases hk:k=2;{
 subst hk;go_wp2_with fail;go_ret;exact⟨RetI.of 0,HBz.out⟩};{
 have f1:(k != 2)=true:=by rw[bne_iff_ne];exact hk
 clear hk;go_wp2_with fail;go_ret;exact⟨RetI.of 10,HBz.out⟩}}
abbrev Box9 (W:World) (H:Nat) (c0 c1 c2 c3 c4 c5 c6 c7 c8:Value):Prop:=W.cell? ⟨H,0,none⟩=some c0/\W.cell? ⟨H,1,none⟩=some c1/\W.cell? ⟨H,2,none⟩=some c2/\W.cell? ⟨H,3,none⟩=some c3/\W.cell? ⟨H,4,none⟩=some c4/\W.cell? ⟨H,5,none⟩=some c5/\W.cell? ⟨H,6,none⟩=some c6/\W.cell? ⟨H,7,none⟩=some c7/\W.cell? ⟨H,8,none⟩=some c8
theorem Box9.keep {A B:World} {H:Nat} {c0 c1 c2 c3 c4 c5 c6 c7 c8:Value} (h:Box9 A H c0 c1 c2 c3 c4 c5 c6 c7 c8) (hb:Below A.heap.size A B):Box9 B H c0 c1 c2 c3 c4 c5 c6 c7 c8:=by
 obtain⟨h0,h1,h2,h3,h4,h5,h6,h7,h8⟩:=h;exact⟨cell_below hb h0,cell_below hb h1,cell_below hb h2,cell_below hb h3,cell_below hb h4,cell_below hb h5,cell_below hb h6,cell_below hb h7,cell_below hb h8⟩
theorem Box9.drw {A:World} {H:Nat} {c0 c1 c2 c3 c4 c5 c6 c7 c8:Value} (h:Box9 A H c0 c1 c2 c3 c4 c5 c6 c7 c8):Box9 A.drew H c0 c1 c2 c3 c4 c5 c6 c7 c8:=h
theorem Box9.blk {W:World} {g:Nat} {t:TypeId} {c0 c1 c2 c3 c4 c5 c6 c7 c8:Value} (h:Blk W g t [c0,c1,c2,c3,c4,c5,c6,c7,c8]):Box9 W g c0 c1 c2 c3 c4 c5 c6 c7 c8:=
 ⟨h.c 0,h.c 1,h.c 2,h.c 3,h.c 4,h.c 5,h.c 6,h.c 7,h.c 8⟩
def msgL (k r s i l d p a:Nat) (t:ByteArray):List Nat:=beL k 1++beL r 1++beL s 2++beL i 2++beL l 1++beL (16*d+p) 1++beL a 4++bs t
def marL (k r s i l d p a:Nat) (t:ByteArray):List Nat:=msgL k r s i l d p a t++be4 (sumL [strB (msgL k r s i l d p a t)])
def marR (k r s i l d p a:Int) (t:ByteArray):Value:=
 if frE k r s i l d p t≠0 then .tuple #[.string ⟨#[]⟩,.int .i64 (frE k r s i l d p t)] else .tuple #[.string (strB (marL k.toNat r.toNat s.toNat i.toNat l.toNat d.toNat p.toNat a.toNat t)),.int .i64 0]
theorem frE_ok {k r s i l d p:Int} {t:ByteArray} (h:frE k r s i l d p t=0):
  (k=66∨k=68)/\(1<=d/\d<=8)/\(0<=p/\p<=7)/\(0<=r/\r<=d+p-1)/\(1<=s/\s<=255)/\(0<=i/\i<=65535)/\(0<=l/\l<=28)/\t.size=28:=by
 unfold frE inR at h;split at h;{cases h};{
 split at h;{cases h};{
 split at h;{cases h};{
 split at h;{cases h};{
 next h1 h2 h3 h4=>
 simp only[Bool.and_eq_true,Bool.or_eq_true,bne_iff_ne,ne_eq,Bool.not_eq_true',Bool.and_eq_false_imp,decide_eq_true_eq,decide_eq_false_iff_not,not_and,not_or,Decidable.not_not]at h1 h2 h3 h4;refine⟨by omega,by omega,by omega,by omega,by omega,by omega,by omega,by omega⟩}}}}
theorem frE_kind {k r s i l d p:Int} {t:ByteArray} (h:k≠66/\k≠68):frE k r s i l d p t=10:=by
 unfold frE;rw[if_pos (by simp[h.1,h.2])]
theorem frE_bad {k r s i l d p:Int} {t:ByteArray} (hk:k=66∨k=68) (h:d<1∨8<d∨p<0∨7<p∨r<0∨d+p<=r∨s<1∨255<s∨i<0∨65535<i∨l<0∨28<l):frE k r s i l d p t=2:=by
 unfold frE;rw[if_neg (by simp only[Bool.and_eq_true,bne_iff_ne,ne_eq];omega)];split;{rfl};{
 next h1=>
 rw[if_pos];simp only[inR,Bool.or_eq_true,Bool.not_eq_true',Bool.and_eq_false_iff,decide_eq_false_iff_not]at h1⊢;omega}
theorem frE_rest {k r s i l d p:Int} {t:ByteArray} (hk:k=66∨k=68) (h:¬(d<1∨8<d∨p<0∨7<p∨r<0∨d+p<=r∨s<1∨255<s∨i<0∨65535<i∨l<0∨28<l)):
  frE k r s i l d p t=if (t.size:Int) != 28|| !padOK l t then 1 else 0:=by
 unfold frE;rw[if_neg (by simp only[Bool.and_eq_true,bne_iff_ne,ne_eq];omega),if_neg,if_neg];{
 simp only[inR,Bool.or_eq_true,Bool.not_eq_true',Bool.and_eq_false_iff,decide_eq_false_iff_not];omega};{
 simp only[inR,Bool.or_eq_true,Bool.not_eq_true',Bool.and_eq_false_iff,decide_eq_false_iff_not];omega}
def ZeroTo (t:ByteArray) (l j:Nat):Prop:=∀n,l<=n->n<j->(bs t)[n]?=some 0
theorem ZeroTo.pad {t:ByteArray} {l:Nat} (h:ZeroTo t l 28) (ht:t.size=28):padOK l t=true:=by
 unfold padOK allIn;rw[List.all_eq_true];intro x hx;obtain⟨n,hn⟩:=List.mem_iff_getElem?.1 hx;rw[List.getElem?_drop,Int.toNat_natCast]at hn;have hlt:l+n<(bs t).length:=(List.getElem?_eq_some_iff.1 hn).1;rw[bs_len,ht]at hlt;rw[h (l+n) (by omega) hlt]at hn;cases hn;decide
theorem pad_not {t:ByteArray} {l j:Nat} (hl:l<=j) (hj:j<t.size) (h:(t[j]'hj).toNat≠0):padOK l t=false:=by
 unfold padOK allIn;rw[List.all_eq_false];refine⟨(t[j]'hj).toNat,?_,?_⟩;{
 refine List.mem_iff_getElem?.2 ⟨j-l,?_⟩;rw[List.getElem?_drop,Int.toNat_natCast,show l+(j-l)=j by omega];exact bs_get t j hj};{
 simpa using h}
theorem rcheck_all (w:World) (k r s i l d p a:Int) (t:ByteArray):
  Calls prog 258 #[frV k r s i l d p a t] w fun e w'=>e=.returned (.int .i64 (frE k r s i l d p t))/\Below w.heap.size w w':=by
 obtain⟨X,hX⟩:=zNm (frE k r s i l d p t);rw[hX];unfold frV;cases h1:((k != 66)&&(k != 68))with
 |true=>rw[Bool.and_eq_true]at h1;obtain⟨h1,h2⟩:=h1;rw[frE_kind (by simpa using And.intro h1 h2)]at hX;subst hX;go_enter func258,ntmps258;go_wp2;go_ret;exact⟨rfl,(Below.refl _ _).alloc (Nat.le_refl _) _⟩
 |false=>
 have hk:(k != 66)=false∨((k != 66)=true/\(k != 68)=false):=by{
 cases h2:(k != 66)with
 |false=>exact .inl rfl
 |true=>rw[h2]at h1;exact .inr ⟨rfl,by simpa using h1⟩};have hK:k=66∨k=68:=by simpa [Decidable.or_iff_not_imp_left]using h1
 have HB:=zY (((Below.refl _ w).alloc (Nat.le_refl _) (.cells #[.int .i64 k,.int .i64 r,.int .i64 s,.int .i64 i,.int .i64 l,.int .i64 d,.int .i64 p,.int .u32 a,.string t] 49)).alloc (by simp) (.cells #[.int .i64 d,.int .i64 p] 24));clear h1;by_cases hbad:d<1∨8<d∨p<0∨7<p∨r<0∨d+p<=r∨s<1∨255<s∨i<0∨65535<i∨l<0∨28<l;{
 rw[frE_bad hK hbad]at hX;subst hX;clear hK;cases g0:decide (d<1)with
 |true=>(
 clear hbad;rcases hk with hk|⟨hk,hk2⟩;all_goals
 go_enter func258,ntmps258;go_wp2;go_ret;exact⟨rfl,HB.out⟩)
 |false=>
 cases g1:decide (8<d)with
 |true=>(
 clear hbad;rcases hk with hk|⟨hk,hk2⟩;all_goals
 go_enter func258,ntmps258;go_wp2;go_ret;exact⟨rfl,HB.out⟩)
 |false=>
 cases g2:decide (p<0)with
 |true=>(
 clear hbad;rcases hk with hk|⟨hk,hk2⟩;all_goals
 go_enter func258,ntmps258;go_wp2;go_ret;exact⟨rfl,HB.out⟩)
 |false=>
 cases g3:decide (7<p)with
 |true=>(
 clear hbad;rcases hk with hk|⟨hk,hk2⟩;all_goals
 go_enter func258,ntmps258;go_wp2;go_ret;exact⟨rfl,HB.out⟩)
 |false=>
 cases g4:decide (r<0)with
 |true=>(
 clear hbad;rcases hk with hk|⟨hk,hk2⟩;all_goals
 go_enter func258,ntmps258;go_wp2;go_ret;exact⟨rfl,HB.out⟩)
 |false=>
 have ew1:IntKind.i64.wrap (d+p)=d+p:=by(have e1:=of_decide_eq_false g0;have e2:=of_decide_eq_false g1;have e3:=of_decide_eq_false g2;have e4:=of_decide_eq_false g3;rw[IntKind.wrap_i64];omega)
 cases g5:decide (d+p<=r)with
 |true=>(
 clear hbad;rcases hk with hk|⟨hk,hk2⟩;all_goals
 go_enter func258,ntmps258;go_wp2;go_ret;exact⟨rfl,HB.out⟩)
 |false=>
 cases g6:decide (s<1)with
 |true=>(
 clear hbad;rcases hk with hk|⟨hk,hk2⟩;all_goals
 go_enter func258,ntmps258;go_wp2;go_ret;exact⟨rfl,HB.out⟩)
 |false=>
 cases g7:decide (255<s)with
 |true=>(
 clear hbad;rcases hk with hk|⟨hk,hk2⟩;all_goals
 go_enter func258,ntmps258;go_wp2;go_ret;exact⟨rfl,HB.out⟩)
 |false=>
 cases g8:decide (i<0)with
 |true=>(
 clear hbad;rcases hk with hk|⟨hk,hk2⟩;all_goals
 go_enter func258,ntmps258;go_wp2;go_ret;exact⟨rfl,HB.out⟩)
 |false=>
 cases g9:decide (65535<i)with
 |true=>(
 clear hbad;rcases hk with hk|⟨hk,hk2⟩;all_goals
 go_enter func258,ntmps258;go_wp2;go_ret;exact⟨rfl,HB.out⟩)
 |false=>
 cases g10:decide (l<0)with
 |true=>(
 clear hbad;rcases hk with hk|⟨hk,hk2⟩;all_goals
 go_enter func258,ntmps258;go_wp2;go_ret;exact⟨rfl,HB.out⟩)
 |false=>
 cases g11:decide (28<l)with
 |true=>(
 clear hbad;rcases hk with hk|⟨hk,hk2⟩;all_goals
 go_enter func258,ntmps258;go_wp2;go_ret;exact⟨rfl,HB.out⟩)
 |false=>
 exfalso;have e0:=of_decide_eq_false g0;have e1:=of_decide_eq_false g1;have e2:=of_decide_eq_false g2;have e3:=of_decide_eq_false g3;have e4:=of_decide_eq_false g4;have e5:=of_decide_eq_false g5;have e6:=of_decide_eq_false g6;have e7:=of_decide_eq_false g7;have e8:=of_decide_eq_false g8;have e9:=of_decide_eq_false g9;have e10:=of_decide_eq_false g10;have e11:=of_decide_eq_false g11;omega};{
 rw[frE_rest hK hbad]at hX;obtain⟨l,rfl⟩:∃n:Nat,l=n:=⟨l.toNat,by omega⟩;have g0:decide (d<1)=false:=decide_eq_false (by omega);have g1:decide (8<d)=false:=decide_eq_false (by omega);have g2:decide (p<0)=false:=decide_eq_false (by omega);have g3:decide (7<p)=false:=decide_eq_false (by omega);have g4:decide (r<0)=false:=decide_eq_false (by omega);have g5:decide (d+p<=r)=false:=decide_eq_false (by omega);have g6:decide (s<1)=false:=decide_eq_false (by omega);have g7:decide (255<s)=false:=decide_eq_false (by omega);have g8:decide (i<0)=false:=decide_eq_false (by omega);have g9:decide (65535<i)=false:=decide_eq_false (by omega);have g10:decide ((l:Int)<0)=false:=decide_eq_false (by omega);have g11:decide (28<(l:Int))=false:=decide_eq_false (by omega);have ew1:IntKind.i64.wrap (d+p)=d+p:=by rw[IntKind.wrap_i64];omega
 have hlN:l<=28:=by omega
 clear hK hbad;by_cases hn:(t.size:Int)=28;{
 have hn2:t.size=28:=by omega
 have HX:=zY hX;clear hX;rcases hk with hk|⟨hk,hk2⟩;all_goals
 go_enter func258,ntmps258;go_wp2;have HZ:=zY (Box9.blk (Blk.new w 49 [.int .i64 k,.int .i64 r,.int .i64 s,.int .i64 i,.int .i64 (l:Int),.int .i64 d,.int .i64 p,.int .u32 a,.string t]));change Hid (Box9 (w.alloc (.cells #[.int .i64 k,.int .i64 r,.int .i64 s,.int .i64 i,.int .i64 (l:Int),.int .i64 d,.int .i64 p,.int .u32 a,.string t] 49)) _ _ _ _ _ _ _ _ _ _)at HZ;have HZ2:=zY (HZ.keep ((Below.refl _ _).alloc (Nat.le_refl _) (.cells #[.int .i64 d,.int .i64 p] 24)));generalize (w.alloc (.cells #[.int .i64 k,.int .i64 r,.int .i64 s,.int .i64 i,.int .i64 (l:Int),.int .i64 d,.int .i64 p,.int .u32 a,.string t] 49)).alloc (.cells #[.int .i64 d,.int .i64 p] 24)=wz at *;clear HZ;go_loopw [4] (fun v wr=>∃j:Nat,l<=j/\j<=28/\v=.int .i64 j/\ZeroTo t l j/\wr=wz) (fun v _=>28-(intOf v).toNat);case atStart=>exact⟨l,Nat.le_refl _,hlN,rfl,fun n h1 h2=>absurd h2 (by omega),rfl⟩
 case round=>
 obtain⟨j,hlj,hj,rfl,hz,rfl⟩:=hrel;have Hz:=zY hz;clear hz;obtain⟨c0,c1,c2,c3,c4,c5,c6,c7,c8⟩:=HZ2.out;by_cases h:j<28;{
 have hjI:(j:Int)<28:=by omega
 have hjs:j<t.size:=by omega
 by_cases hb:(t[j]'hjs).toNat=0;{
 have hbe:(((t[j]'hjs).toNat:Int) != 0)=false:=by rw[hb];rfl
 have HN:Hid (ZeroTo t l (j+1)):=zY (fun n h1 h2=>by
  by_cases e:n=j
  {
  subst e
  rw[bs_get t n hjs,hb]}
  ·exact Hz.out n h1 (by omega));go_wp2;go_roundw;case rel=>exact⟨j+1,by omega,by omega,by go_num,HN.out,trivial⟩
 case measure=>simp[intOf];omega};{
 have hbe:(((t[j]'hjs).toNat:Int) != 0)=true:=by simpa using hb
 have HX1:Hid (X=1):=zY (by rw[<-HX.out,pad_not hlj hjs hb];simp);clear hb;go_wp2;go_ret;exact⟨by rw[HX1.out];rfl,HB.out⟩}};{
 obtain rfl:j=28:=by omega
 have HX1:Hid (X=0):=zY (by rw[<-HX.out,Hz.pad hn2,hn];rfl);go_wp2;go_ret;exact⟨by rw[HX1.out];rfl,HB.out⟩}};{
 have hn2:((t.size:Int) != 28)=true:=by simpa using hn
 rw[hn2,if_pos (by simp)]at hX;subst hX;rcases hk with hk|⟨hk,hk2⟩;all_goals
 go_enter func258,ntmps258;go_wp2;go_ret;exact⟨rfl,HB.out⟩}}
def hdrL (k r s i l d p a:Nat):List Nat:=[k,r,s/256,s%256,i/256,i%256,l,16*d+p,a/16777216,a/65536%256,a/256%256,a%256]
theorem hdr_msg (k r s i l d p a:Nat) (t:ByteArray) (hk:k<256) (hr:r<256) (hs:s<256) (hi:i<65536) (hl:l<256) (hd:16*d+p<256) (ha:a<4294967296):
  hdrL k r s i l d p a++bs t=msgL k r s i l d p a t:=by
 have e1:∀n,n<256->beL n 1=[n]:=fun n hn=>by simp[beL];omega
 have e2:∀n,n<65536->beL n 2=[n/256,n%256]:=fun n hn=>by simp[beL];omega
 have e4:beL a 4=[a/16777216,a/65536%256,a/256%256,a%256]:=by simp[beL];omega
 unfold msgL hdrL;rw[e1 k hk,e1 r hr,e2 s (by omega),e2 i hi,e1 l hl,e1 _ hd,e4];simp
theorem hdr_bytes (k r s i l d p a:Nat) (hk:k<256) (hr:r<256) (hs:s<256) (hi:i<65536) (hl:l<256) (hd:16*d+p<256) (ha:a<4294967296):Bytes (hdrL k r s i l d p a):=by
 intro x hx;unfold hdrL at hx;simp only[List.mem_cons,List.not_mem_nil,or_false]at hx;omega
theorem rheader_any (w:World) (k r s i l d p a:Nat) (t:ByteArray) (hk:k<256) (hr:r<256) (hs:s<256) (hi:i<65536) (hl:l<256) (hd:16*d+p<256) (ha:a<4294967296):
  Calls prog 259 #[frV k r s i l d p a t] w fun e w'=>e=.returned (.string (strB (hdrL k r s i l d p a)))/\Below w.heap.size w w':=by
 have HL:∀W:World,(convert 117 9 (.slice (some ⟨W.heap.size,0,none⟩) 12 12)).run prog (W.alloc (.cells (arrB (hdrL k r s i l d p a)) 5))=.ok (.string (strB (hdrL k r s i l d p a))) (W.alloc (.cells (arrB (hdrL k r s i l d p a)) 5)):=fun W=>
  run_toStr ((U8B.new W (hdrL k r s i l d p a)).bytes (n:=12) (c:=12) rfl (Nat.le_refl _) (by omega)) rfl;have e:arrB (hdrL k r s i l d p a)= #[.int .u8 (k:Int),.int .u8 (r:Int),.int .u8 ((s:Int)/256),.int .u8 ((s:Int)%256),.int .u8 ((i:Int)/256),.int .u8 ((i:Int)%256),.int .u8 (l:Int),.int .u8 (16*(d:Int)+p),
  .int .u8 ((a:Int)/16777216),.int .u8 ((a:Int)/65536%256),.int .u8 ((a:Int)/256%256),.int .u8 ((a:Int)%256)]:=rfl;rw[e]at HL;have HL2:=HL (w.alloc (.cells #[.int .i64 k,.int .i64 r,.int .i64 s,.int .i64 i,.int .i64 l,.int .i64 d,.int .i64 p,.int .u32 a,.string t] 49));rw[show (w.alloc (.cells #[.int .i64 k,.int .i64 r,.int .i64 s,.int .i64 i,.int .i64 l,.int .i64 d,.int .i64 p,.int .u32 a,.string t] 49)).heap.size=w.heap.size+1 by simp]at HL2;clear HL e;have mk:(k:Int)%256=k:=by omega
 have mr:(r:Int)%256=r:=by omega
 have ml:(l:Int)%256=l:=by omega
 have md:IntKind.i64.wrap (16*(d:Int))=16*d:=by rw[IntKind.wrap_i64];omega
 have mp:IntKind.i64.wrap (16*(d:Int)+p)=16*d+p:=by rw[IntKind.wrap_i64];omega
 have mq:(16*(d:Int)+p)%256=16*d+p:=by omega
 have q1:wrap64 ((s:Int)/256)=s/256:=by unfold wrap64;omega
 have q2:(s:Int)/256%256=s/256:=by omega
 have q3:wrap64 ((i:Int)/256)=i/256:=by unfold wrap64;omega
 have q4:(i:Int)/256%256=i/256:=by omega
 have q5:(a:Int)/16777216%4294967296=a/16777216:=by omega
 have q6:(a:Int)/16777216%256=a/16777216:=by omega
 have q7:(a:Int)/65536%4294967296=a/65536:=by omega
 have q8:(a:Int)/256%4294967296=a/256:=by omega
 clear hk hr hs hi hl hd ha;unfold frV;go_enter func259,ntmps259;go_wp2;go_ret;exact⟨rfl,((Below.refl _ _).alloc (Nat.le_refl _) _).alloc (by simp) _⟩
def bitU (l:List Nat):List Nat:=(frmB l).map (· - 48)
theorem bitU_bits (l:List Nat):Bits (bitU l):=by
 intro x hx;obtain⟨c,hc,rfl⟩:=List.mem_map.1 hx;rcases frmB_01 l c hc with rfl|rfl<;>decide
theorem bitsS_bitU (l:List Nat):bitsS (bitU l)=frmB l:=by
 unfold bitsS bitU;rw[List.map_map];conv=>rhs;rw[<-List.map_id (frmB l)]
 refine List.map_congr_left fun c hc=>?_;rcases frmB_01 l c hc with rfl|rfl<;>rfl
theorem bitU_len (l:List Nat):(bitU l).length=8*l.length:=by unfold bitU;rw[List.length_map,frmB_len]
def cellL (m:List Nat):List Nat:=cenc 0 (bitU (rsEnc m)++[0,0])
def bodyL (m:List Nat):List Nat:=interL (cellL m)
theorem rsEnc_ok {m:List Nat} (hm:Bytes m) (hl:m.length=44):(rsEnc m).length=52/\Bytes (rsEnc m):=by
 obtain⟨h1,h2,_⟩:=rsPar_inv m hm;unfold rsEnc;refine⟨by rw[List.length_append,h1,hl],fun x hx=>?_⟩;rcases List.mem_append.1 hx with hx|hx;{exact hm x hx};{exact h2 x hx}
theorem cenc_01:∀(u:List Nat) (s:Nat),B01 (cenc s u)
 |[],_=>fun c hc=>by cases hc
 |b::r,s=>fun c hc=>by
  simp only[cenc,List.mem_cons]at hc
  rcases hc with rfl|rfl|hc
  ·unfold co1;omega
  ·unfold co2;omega
  ·exact cenc_01 r _ c hc
theorem cellL_len {m:List Nat} (hm:Bytes m) (hl:m.length=44):(cellL m).length=836:=by
 unfold cellL;rw[cenc_len,List.length_append,bitU_len,(rsEnc_ok hm hl).1];rfl
theorem cellL_01 (m:List Nat):B01 (cellL m):=cenc_01 _ _
theorem inter_mem {l:List Nat} (hl:l.length=836) {x:Nat} (h:x∈interL l):x∈l:=by
 unfold interL at h;obtain⟨j,hj,rfl⟩:=List.mem_map.1 h;have hj':=(ilv_uil (List.mem_range.1 hj)).2;have hlt:uil j<l.length:=by omega
 rw[cf_get (List.getElem?_eq_getElem hlt)];exact List.getElem_mem hlt
theorem bodyL_01 {m:List Nat} (hm:Bytes m) (hl:m.length=44):B01 (bodyL m):=fun c hc=>cellL_01 m c (inter_mem (cellL_len hm hl) hc)
theorem bodyL_bytes {m:List Nat} (hm:Bytes m) (hl:m.length=44):Bytes (bodyL m):=fun c hc=>by rcases bodyL_01 hm hl c hc with rfl|rfl<;>decide
theorem bodyL_len (m:List Nat):(bodyL m).length=836:=interL_len _
theorem be4_bytes {c:Nat} (h:c<4294967296):Bytes (be4 c):=by
 intro x hx;unfold be4 at hx;simp only[List.mem_cons,List.not_mem_nil,or_false]at hx;omega
theorem mar_ok {k r s i l d p a:Nat} {t:ByteArray} (he:frE k r s i l d p t=0) (ha:a<4294967296):
  ∃c,c<4294967296/\marL k r s i l d p a t=hdrL k r s i l d p a++bs t++be4 c/\Bytes (marL k r s i l d p a t)/\(marL k r s i l d p a t).length=44/\c=sumL [strB (hdrL k r s i l d p a++bs t)]/\Bytes (hdrL k r s i l d p a++bs t):=by
 obtain⟨h1,h2,h3,h4,h5,h6,h7,h8⟩:=frE_ok he;have hm:=hdr_msg k r s i l d p a t (by omega) (by omega) (by omega) (by omega) (by omega) (by omega) ha;have hb:=hdr_bytes k r s i l d p a (by omega) (by omega) (by omega) (by omega) (by omega) (by omega) ha;have hb2:Bytes (hdrL k r s i l d p a++bs t):=fun x hx=>by
  rcases List.mem_append.1 hx with hx|hx
  ·exact hb x hx
  ·exact bs_lt t x hx
 have e:marL k r s i l d p a t=hdrL k r s i l d p a++bs t++be4 (sumL [strB (hdrL k r s i l d p a++bs t)]):=by unfold marL;rw[<-hm]
 refine⟨_,sumL_lt _,e,?_,?_,rfl,hb2⟩;{
 rw[e];intro x hx;rcases List.mem_append.1 hx with hx|hx;{exact hb2 x hx};{exact be4_bytes (sumL_lt _) x hx}};{
 rw[e,List.length_append,List.length_append,bs_len,h8];rfl}
theorem beL_length (n:Nat):∀k,(beL n k).length=k
 |0=>rfl
 |k+1=>by rw[beL,List.length_cons,beL_length n k]
def numK (n m k:Nat):List Nat:=List.replicate (m-k) 0++beL n k
theorem numK_len {n m k:Nat} (h:k<=m):(numK n m k).length=m:=by
 unfold numK;rw[List.length_append,List.length_replicate,beL_length];omega
theorem numK_set {n m k:Nat} (h:k<m):(numK n m k).set (m-1-k) (n/256^k%256)=numK n m (k+1):=by
 unfold numK;rw[beL,show m-k=(m-(k+1))+1 by omega,List.replicate_succ',List.append_assoc,List.set_append_right _ _ (by rw[List.length_replicate];omega),List.length_replicate,show m-1-k-(m-(k+1))=0 by omega];rfl
theorem numK_get {n m k:Nat} (h:k<m):(numK n m k)[m-1-k]?=some 0:=by
 unfold numK;rw[List.getElem?_append_left (by rw[List.length_replicate];omega),List.getElem?_replicate,if_pos (by omega)]
theorem fnumber_any (w:World) (n m:Nat) (_hn:n<4294967296) (hm:m<=8):Calls prog 250 #[.int .u32 (n:Int),.int .i64 (m:Int)] w fun e w'=>e=.returned (.string (strB (beL n m)))/\Below w.heap.size w w':=by
 have hmk:=make_u8 m m (Nat.le_refl _) (by omega);have hmJ:(m:Int)<=8:=by omega
 go_enter func250,ntmps250;go_wp2;go_loopw [0,11] (fun v c wr=>∃k:Nat,k<=m/\v=.int .u32 ((n/256^k:Nat):Int)/\c=.int .i64 (k:Int)/\U8B wr w.heap.size (numK n m k)/\Below w.heap.size w wr) (fun _ c _=>m-(intOf c).toNat);case atStart=>exact⟨0,by omega,by simp,rfl,by have:=U8B.new w (List.replicate m 0);unfold numK beL;simpa using this,(Below.refl _ _).alloc (Nat.le_refl _) _⟩
 case round=>
 obtain⟨k,hk,rfl,rfl,hb,hB⟩:=hrel;have Hb:=zY hb;have HB:=zY hB;by_cases h:k<m;{
 have hkI:(k:Int)<m:=by omega
 have hc:=hb.cell (numK_get (n:=n) h);have hf:=hb.frozen (m-1-k);have hi:((m:Int)-1-k).toNat=m-1-k:=by omega
 have hw:IntKind.i64.wrap ((m:Int)-1-k)=m-1-k:=by rw[IntKind.wrap_i64];omega
 have hw1:IntKind.i64.wrap ((m:Int)-1)=m-1:=by rw[IntKind.wrap_i64];omega
 have h0:(0:Int)<=m-1-k:=by omega
 have h2:(m:Int)-1-k<m:=by omega
 have HS:=zY (hb.set (m-1-k) (n/256^k%256));have Hset:=zY (numK_set (n:=n) h);clear hb hB;go_wp2;go_roundw;case rel=>(
 have e1:((n:Int)/256^k/256)=((n/256^(k+1):Nat):Int):=by rw[Nat.pow_succ,<-Nat.div_div_eq_div_mul];push_cast;rfl
 have e2:((n:Int)/256^k%256)=((n/256^k%256:Nat):Int):=by push_cast;rfl
 rw[e1,e2];exact⟨k+1,by omega,rfl,by go_num,by rw[<-Hset.out];exact HS.out,HB.setCell (p:=⟨w.heap.size,m-1-k,none⟩) (Nat.le_refl _) _⟩)
 case measure=>simp[intOf];omega};{
 have hkm:k=m:=by omega
 subst hkm;have hcs:=run_toStr (hb.bytes (n:=k) (c:=k) (numK_len (Nat.le_refl _)).symm (Nat.le_refl _) (by omega)) (numK_len (Nat.le_refl _)).symm;have e:numK n k k=beL n k:=by unfold numK;simp
 rw[e]at hcs;clear hb hB;go_wp2;go_ret;exact⟨rfl,HB.out⟩}
end
end Go.Proofs.YthgenkkkapilhaaGreatDoor