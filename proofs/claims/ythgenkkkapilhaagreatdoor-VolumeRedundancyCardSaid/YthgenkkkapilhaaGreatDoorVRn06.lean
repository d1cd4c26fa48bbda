/-
  Joined: VitA TakeA CrcAz VoQ ResT PolW.
-/
import Derived.Test.YthgenkkkapilhaaGreatDoorVRn05
import Derived.Deep.RegionHeld3
set_option linter.all false
set_option maxRecDepth 100000
set_option maxHeartbeats 64000000
namespace Go.Proofs.YthgenkkkapilhaaGreatDoor
section
open Go.RowKit
theorem tk {P:Program} {ops:Array Oper} {Q:Exit->Act->World->Prop} {md:Region.Mode} {S:World->Prop} (i:Nat) {oi:Oper} {v:Value} {fuel:Nat} {listed ls:Array Bool} {a a':Act} {w:World}
  (h:wpAnyH P md ops Q S fuel ls a' w) (hi:ops[i]?=some oi:=by rfl) (hs:Region.noSelect ops=true:=by kernel_rfl) (hf:Region.free md ops listed i=true:=by kernel_rfl)
  (hr:(Region.ready md ops listed).contains i=true:=by kernel_rfl) (hQ:∀c a w,Q (.panic c) (a.put oi.dst v) w->Q (.panic c) a w:=by exact fun _ _ _ h=>h)
  (hw:Region.wanted oi (yielded ops a.tmps)=true:=by rfl) (hy:∀w,S w->(execOp a.eval oi).run P w=.ok (.value v) w:=by(intro W hSw;(try dsimp only at hSw);go_simp;try with_reducible rfl)) (hS:S w:=by assumption)
  (e1:listed.setIfInBounds i true=ls:=by(try simp only[List.setIfInBounds_toArray,List.set_cons_zero,List.set_cons_succ]);with_reducible rfl)
  (e2:a.put oi.dst v=a':=by(try simp only[Act.put,List.setIfInBounds_toArray,List.set_cons_zero,List.set_cons_succ,List.getElem_toArray,List.getElem_cons_zero,List.getElem_cons_succ]);with_reducible rfl):
  wpAnyH P md ops Q S (fuel+1) listed a w:=by
 subst e1 e2
 exact wpAnyH_take hi hs hf hr hQ (Or.inl ⟨hw,hy⟩) hS h
theorem hko {P:Program} {ops:Array Oper} {Q:Exit->Act->World->Prop} {md:Region.Mode} {S:World->Prop} {i:Nat} {fuel:Nat} {listed ls:Array Bool} {K:Act->World->Prop} (hK:Shut (∀a w,S w->(S w->wpAnyH P md ops Q S fuel (listed.setIfInBounds i true) a w)->K a w)) {a a':Act} {w:World}
  (hS:S w) (h:S w->wpAnyH P md ops Q S fuel ls a' w)
  (e1:listed.setIfInBounds i true=ls:=by(try simp only[List.setIfInBounds_toArray,List.set_cons_zero,List.set_cons_succ]);with_reducible rfl)
  (e2:a=a':=by(try simp only[Act.put,List.setIfInBounds_toArray,List.set_cons_zero,List.set_cons_succ,List.getElem_toArray,List.getElem_cons_zero,List.getElem_cons_succ]);with_reducible rfl):K a w:=by
 subst e1 e2
 exact hK.out _ _ hS h
theorem bs_outS (s b:Nat):bs (outS s b)=[co1 s b,co2 s b]:=bs_strB (out_bytes s b)
structure Turned (A B:World) (g:Nat):Prop where
 os:B.os=A.os
 tape:B.tape=A.tape
 output:B.output=A.output
 size:B.heap.size=A.heap.size
 other:∀k,k≠g->B.heap[k]?=A.heap[k]?
theorem Turned.below {A B w:World} {g H:Nat} (h:Turned A B g) (hb:Below H w A) (hg:H<=g):Below H w B:=
 ⟨h.os.trans hb.os,h.tape.trans hb.tape,h.output.trans hb.output,by rw[h.size];exact hb.size,fun k hk=>(h.other k (by omega)).trans (hb.block k hk)⟩
theorem turned_set1 (W:World) (g j:Nat) (y:Value):Turned W (W.setCell ⟨g,j,none⟩ y) g:=
 ⟨rfl,rfl,rfl,by simp,fun k hk=>Below.heap_setCell _ ⟨g,j,none⟩ _ _ hk⟩
end
section
open Go.RowKit
section
variable {P:Program} {ops:Array Oper} {Q:Exit->Act->World->Prop} {md:Region.Mode} {S:World->Prop}
def GivesIf (P:Program) (ops:Array Oper) (S:World->Prop) (o:Oper) (v:Value) (a:Act):Prop:=
 Region.wanted o (yielded ops a.tmps)=true/\∀w,S w->∃f args,(execOp a.eval o).run P w=.ok (.enter f args) w/\Calls P f args w fun e w'=>e=.returned v/\w=w'
theorem GivesIf.here {i:Nat} {o:Oper} {v:Value} {a:Act} (hi:ops[i]?=some o) (hg:GivesIf P ops S o v a) {K:Act->World->Prop} {w:World} (hS:S w) (h:K (a.put o.dst v) w):wpOp P ops Q i K a w:=by
 obtain⟨hw,hv⟩:=hg
 obtain⟨f,args,hr,hc⟩:=hv w hS
 unfold wpOp
 rw[hi]
 show if _ then _ else _
 rw[if_pos hw]
 refine .inl ?_
 unfold Oper.wp
 rw[hr,Oper.upon_enter]
 refine hc.mono ?_
 rintro e w' ⟨rfl,rfl⟩
 exact h
theorem wpOp_shape {j:Nat} {oj:Oper} (hj:ops[j]?=some oj) {Y:Act->Prop} (hput:∀b,Y b->∀u,Y (b.put oj.dst u)) (hdef:∀b d,Y b->Y { b with defers:=d::b.defers })
  {K:Act->World->Prop} {a:Act} {w:World} (hy:Y a) (h:wpOp P ops Q j K a w):wpOp P ops Q j (fun a' w'=>Y a'/\K a' w') a w:=by
 unfold wpOp at *
 rw[hj]at *
 dsimp only at *
 split
 {
 next hw=>
 rw[if_pos hw]at h
 rcases h with h|h
 {
 left
 unfold Oper.wp at *
 cases hr:(execOp a.eval oj).run P w with
 |ok n w'=>
  rw[hr]at h
  cases n<;>simp only[Oper.upon]at h⊢
  all_goals first
   |exact⟨hput _ hy _,h⟩
   |exact⟨hput _ (hdef _ _ hy) _,h⟩
   |exact Calls.mono h fun e w'' he=>by cases e<;>first|exact⟨hput _ hy _,he⟩|exact he
   |exact Rows.mono h fun u w'' he=>⟨hput _ hy _,he⟩
 |halt x w'=>
  rw[hr]at h
  cases x<;>simp only[Oper.upon]at h⊢
  exact h}
 ·exact .inr h}
 {
 next hw=>
 rw[if_neg hw]at h
 exact⟨hput _ hy _,h⟩}
theorem call_first {i:Nat} {oi:Oper} {v:Value} (hi:ops[i]?=some oi) (hsel:∀(j:Nat) (o:Oper) cs b,ops[j]?=some o->o.op≠.select cs b)
  (hQ:∀c a w,Q (.panic c) (a.put oi.dst v) w->Q (.panic c) a w) (fuel:Nat):∀(listed:Array Bool) (a:Act) (w:World),
   (∀j oj,ops[j]?=some oj->j≠i->listed.getD j true=false->(∀e∈oj.after,Region.binds md e=true->e.on≠i)->oi.apart ops oj=true) ->
   i∈Region.ready md ops listed->GivesIf P ops S oi v a->S w ->
   wpAnyH P md ops Q S fuel (listed.setIfInBounds i true) (a.put oi.dst v) w->wpAnyH P md ops Q S (fuel+1) listed a w:=by
 have key:∀(listed:Array Bool) (j:Nat) (oj:Oper),ops[j]?=some oj->i∈Region.ready md ops listed->j∈Region.ready md ops listed->∀e∈oj.after,Region.binds md e=true->e.on≠i:=by
  intro listed j oj hj hir hjr e he hb heq
  have h0:=(mem_ready.1 hir).1
  obtain⟨_,o,ho,hall⟩:=mem_ready.1 hjr
  rw[hj]at ho
  cases ho
  have h1:=hall e he hb
  rw[heq]at h1
  by_cases hlt:i<listed.size
  {
  simp[hlt]at h0 h1
  rw[h0]at h1
  cases h1}
  ·simp[hlt]at h0
 induction fuel with
 |zero=>
  intro listed a w _ hir hg hS H
  refine⟨fun e=>(by rw[e]at hir;cases hir),fun j hjr=>?_⟩
  by_cases hji:j=i
  {
  subst hji
  exact hg.here hi hS ⟨hS,H⟩}
  {
  have:=ready_mono hjr hji
  rw[H.1]at this
  cases this}
 |succ fuel ih=>
  intro listed a w hfree hir hg hS H
  refine⟨fun e=>(by rw[e]at hir;cases hir),fun j hjr=>?_⟩
  by_cases hji:j=i
  {
  subst hji
  exact hg.here hi hS ⟨hS,H⟩}
  obtain⟨hun,oj,hj,_⟩:=mem_ready.1 hjr
  have hap:=hfree j oj hj hji hun (key listed j oj hj hir hjr)
  obtain⟨_,_,hq3⟩:=Oper.apart_spec hap
  have hyF:YieldsIf P ops (fun _=>False) oi v a:=.inl ⟨hg.1,fun _ hf=>hf.elim⟩
  have h2:=wpOp_putIf hj hap (fun cs b=>hsel i oi cs b hi) (fun cs b=>hsel j oj cs b hj) hQ hyF (H.2 j (ready_mono hjr hji))
  have h3:=wpOp_shape hj (Y:=GivesIf P ops S oi v) (fun b hb u=>by
   unfold GivesIf at *
   rw[execOp_put oi (fun cs b=>hsel i oi cs b hi) b oj.dst u hq3,wanted_put oi b oj.dst u hq3]
   exact hb) (fun b d hb=>hb) hg h2
  refine wpOp_mono (fun a' w' h4=>⟨h4.2.2.1,ih (listed.setIfInBounds j true) a' w' (fun k ok hk hki hku hkw=>?_) (ready_mono hir (Ne.symm hji)) h4.1 h4.2.2.1 ?_⟩) h3
  {
  refine hfree k ok hk hki ?_ hkw
  by_cases hjk:j=k
  {
  subst hjk
  exact hun}
  ·rwa [getD_set_ne true hjk]at hku}
  {
  rw[Array.setIfInBounds_comm _ _ hji]
  exact h4.2.2.2}
theorem take_call {i:Nat} {oi:Oper} {v:Value} {fuel:Nat} {listed:Array Bool} {a:Act} {w:World} (hi:ops[i]?=some oi)
  (hs:Region.noSelect ops=true) (hf:Region.free md ops listed i=true) (hr:(Region.ready md ops listed).contains i=true)
  (hQ:∀c a w,Q (.panic c) (a.put oi.dst v) w->Q (.panic c) a w) (hg:GivesIf P ops S oi v a) (hS:S w)
  (h:wpAnyH P md ops Q S fuel (listed.setIfInBounds i true) (a.put oi.dst v) w):wpAnyH P md ops Q S (fuel+1) listed a w:=
 call_first hi (Region.noSelect_spec hs) hQ fuel listed a w (Region.free_spec hi hf) (by simpa using hr) hg hS h
end
end
section
open Go.RowKit
theorem mark_any (w:World):Calls Tryz.prog 172 #[] w fun e w'=>e=.returned (.string markS)/\w=w':=by
 go_enter Tryz.func172,Tryz.ntmps172
 go_wp2
 go_ret
 exact⟨rfl,rfl⟩
def RetB (e:Ending):Prop:=∃b,e=.returned (.bool b)
def RetI (e:Ending):Prop:=∃n:Int,e=.returned (.int .i64 n)
theorem RetB.of (b:Bool):RetB (.returned (.bool b)):=⟨b,rfl⟩
theorem RetI.of (n:Int):RetI (.returned (.int .i64 n)):=⟨n,rfl⟩
theorem under_any (w:World) (s d:ByteArray) (hs:s.size<=1000000) (hd:d.size<=1000000):Calls Tryz.prog 226 #[.string s,.string d] w fun e w'=>RetB e/\Below w.heap.size w w':=by
 have HCs:=zY (fun W=>path_any W s hs)
 have HCd:=zY (fun W=>path_any W d hd)
 have HEs:=zY (fun W=>elems_any W s hs)
 have HEd:=zY (fun W=>elems_any W d hd)
 have hl1:=(elemsL_size (s:=bs s)).2
 have hl2:=(elemsL_size (s:=bs d)).2
 rw[bs_len]at hl1 hl2
 generalize pathE (bs s)=P at *
 generalize pathE (bs d)=Q at *
 generalize elemsL (bs s)=L at *
 generalize elemsL (bs d)=M at *
 go_enter Tryz.func226,Tryz.ntmps226
 go_wp2_with fail
 refine(HCs.out _).mono ?_
 rintro e1 w1 ⟨rfl,hb1⟩
 have HB1:=zY hb1
 clear hb1
 by_cases h0:P=0
 {
 subst h0
 go_wp2_with fail
 refine(HCd.out _).mono ?_
 rintro e2 w2 ⟨rfl,hb2⟩
 have HB2:=zYt HB1 hb2
 clear hb2 HB1
 by_cases h1:Q=0
 {
 subst h1
 go_wp2_with fail
 refine(HEs.out _).mono ?_
 rintro e3 w3 ⟨v3,rfl,ho3,hb3⟩
 have HO3:=zY ho3
 have HB3:=zYt HB2 hb3
 clear ho3 hb3 HB2
 go_wp2_with fail
 refine(HEd.out _).mono ?_
 rintro e4 w2 ⟨v4,rfl,ho4,hb4⟩
 have HL:=zY (ownV_below HO3.out hb4)
 have HM:=zY ho4
 have HB4:=zYt HB3 hb4
 clear ho4 hb4 HB3 HO3
 obtain⟨A1,k1,rfl⟩:=ownV_slice HL.out
 obtain⟨A2,k2,rfl⟩:=ownV_slice HM.out
 by_cases hlt:L.length<M.length
 {
 have f1:(L.length:Int)<M.length:=by omega
 go_wp2
 go_ret
 exact⟨RetB.of false,HB4.out⟩}
 {
 have f1:¬(L.length:Int)<M.length:=by omega
 go_wp2
 go_loopw [7] (fun x wr=>∃i:Nat,i<=M.length/\x=.int .i64 (i:Int)/\Below w2.heap.size w2 wr) (fun x _=>M.length-(intOf x).toNat)
 case atStart=>exact⟨0,by omega,rfl,Below.refl _ _⟩
 case round=>
  obtain⟨i,hi,rfl,hB⟩:=hrel
  have HB:=zY hB
  clear hB
  by_cases h:i<M.length
  {
  have hiI:(i:Int)<M.length:=by omega
  have hiL:(i:Int)<L.length:=by omega
  have hMi:i<M.length:=h
  have hLi:i<L.length:=by omega
  obtain⟨p,hp⟩:∃p,L[i]?=some p:=⟨_,List.getElem?_eq_getElem hLi⟩
  obtain⟨q,hq⟩:∃q,M[i]?=some q:=⟨_,List.getElem?_eq_getElem hMi⟩
  obtain⟨g1,k1,e8,_⟩:=ownV_at HL.out (by omega)
  obtain⟨g2,k2,e9,_⟩:=ownV_at HM.out (by omega)
  cases e8
  cases e9
  have c1:w2.cell? ⟨g1,i,none⟩=some (.string (strB p)):=by
   rw[HL.out.cellAt i (by omega),strsV,List.getElem?_map,hp]
   rfl
  have c2:w2.cell? ⟨g2,i,none⟩=some (.string (strB q)):=by
   rw[HM.out.cellAt i (by omega),strsV,List.getElem?_map,hq]
   rfl
  have c1:=cell_below HB.out c1
  have c2:=cell_below HB.out c2
  clear hp hq hLi hMi
  generalize strB p=X at *
  generalize strB q=Y at *
  by_cases hxy:X=Y
  {
  subst hxy
  have b1:(X != X)=false:=bneV_false rfl
  have b2:(X==X)=true:=beqV_true rfl
  go_upto_region 9 with fail
  go_quiet (fail)
  go_wp2
  go_roundw
  case rel=>exact⟨i+1,by omega,by go_num,zBd HB.out _⟩
  case measure=>simp[intOf];omega}
  {
  have b1:(X != Y)=true:=bneV_true hxy
  have b2:(X==Y)=false:=beqV_false hxy
  have b3:¬X.toList=Y.toList:=fun e=>hxy (by rw[ByteArray.toList_eq,ByteArray.toList_eq]at e;exact ByteArray.ext (Array.toList_inj.1 e))
  have b4:(X.toList==Y.toList)=false:=by rw[beq_eq_false_iff_ne];exact b3
  clear hxy
  go_upto_region 9 with fail
  go_quiet (fail)
  go_wp2
  go_ret
  exact⟨RetB.of false,HB4.out.trans ((zBd HB.out _).mono HB4.out.size)⟩}}
  {
  have hiI:¬(i:Int)<M.length:=by omega
  go_wp2
  go_ret
  exact⟨RetB.of true,HB4.out.trans (HB.out.mono HB4.out.size)⟩}}}
 {
 have hne:(Q != 0)=true:=by rw[bne_iff_ne];exact h1
 go_wp2_with fail
 go_ret
 exact⟨RetB.of false,HB2.out⟩}}
 {
 have hne:(P != 0)=true:=by rw[bne_iff_ne];exact h0
 go_wp2_with fail
 first|(refine⟨trivial,?_⟩;go_wp2_with fail)|skip
 go_ret
 exact⟨RetB.of false,HB1.out⟩}
theorem results_row_tmp {P:Program} {fn:Func} {p u:Tmp} {ty:TypeId} (h:fn.results= #[.cell p ty,.tmp u]) (tmps:Array Value) (w:World) (g:Nat) (t:TypeId) (cs:Array Value) (fr:Nat×Nat) (d:TypeDesc)
  (hp:tmps.getD p undef=.pointer (some ⟨g,0,none⟩)) (hg:w.heap[g]?=some (.cells cs t fr))
  (hu:P.underlying ty=some d) (hd:(match d with|.struct _|.array _ _=>true|_=>false)=true) (hi:(P.info? ty).map (·.size)=some cs.size):
  (results fn tmps).run P w=.ok (.tuple #[.agg cs,tmps.getD u undef]) w:=by
 have hp':tmps[p]?.getD undef=.pointer (some ⟨g,0,none⟩):=by simpa using hp
 rw[results_cell_tmp h]
 simp[hp',asAddr,Result.andThen,run_loadVar_row w g t ty cs fr d hg hu hd hi]
theorem cloneb_any (w:World) (v:Value) (p:List Nat) (hp:BytesAt w v p) (hl:p.length<=1000000):Calls Tryz.prog 378 #[v] w fun e w'=>∃v',e=.returned v'/\BytesAt w' v' p/\Below w.heap.size w w':=by
 have hp0:=hp
 obtain⟨A,c,rfl,h1,h2,h3⟩:=hp
 cases A with
 |none=>
  have hn:p=[]:=by
   cases p with
   |nil=>rfl
   |cons x r=>
    obtain⟨b,o,u,hA,_⟩:=h3 0 x rfl
    cases hA
  subst hn
  have heq:=Lib.run_eql_slice_nil (P:=Tryz.prog) w 117 5 none 0 c 0 0 Tryz.underlying117
  clear h3 hp0
  go_enter Tryz.func378,Tryz.ntmps378
  go_wp2
  go_ret
  exact⟨_,rfl,SlAt.nil w,Below.refl _ _⟩
 |some ad=>
  have heq:=Lib.run_eql_slice_nil (P:=Tryz.prog) w 117 5 (some ad) p.length c 0 0 Tryz.underlying117
  have hown:=own_empty w 5 1
  have hva:VAt (w.alloc (.cells #[] 5)) (.slice (some ad) p.length c) (p.map u8V):=(hp0.below ((Below.refl _ _).alloc (Nat.le_refl _) _)).vAt
  have Hva:=zY hva
  have H3:=zY h3
  clear h3 hva hp0
  go_enter Tryz.func378,Tryz.ntmps378
  go_wp2_with (at_builtin;refine wpList_appendV _ Tryz.underlying117 Tryz.infoU8 rfl (by omega) (by rfl) _ _ rfl w.heap.size _ 0 [] rfl _ rfl hown (p.map u8V) Hva.out (one_u8s p) (by simpa using hl) (by simp) ?_;intro v' w1 hown1 hg1 hat1 hb1)
  go_ret
  simp only[Nat.zero_add,List.nil_append]at hown1
  exact⟨v',rfl,BytesAt.of_own hown1,((Below.refl _ _).alloc (Nat.le_refl _) _).trans hb1⟩
theorem ptrim_any (w:World) (v:Value) (p:List Nat) (hp:BytesAt w v p) (hl:p.length<=1000000):Calls Tryz.prog 376 #[v] w fun e w'=>∃v',e=.returned v'/\BytesAt w' v' (ptrim p)/\Below w.heap.size w w':=by
 have Hp0:=zY hp
 obtain⟨A,c,rfl,h1,h2,h3⟩:=hp
 clear h3
 go_enter Tryz.func376,Tryz.ntmps376
 go_wp2
 go_loop [3] (fun x=>∃k:Nat,k<=p.length/\x=.int .i64 k/\ptrim (p.take k)=ptrim p) (fun x=>(intOf x).toNat)
 case atStart=>exact⟨p.length,Nat.le_refl _,rfl,by rw[List.take_length]⟩
 case round=>
  obtain⟨k,hk,rfl,ht⟩:=hrel
  have Ht:=zY ht
  clear ht
  have hsl:=(Hp0.out).take hk
  have hlk:(p.take k).length<=1000000:=by rw[List.length_take];omega
  have hck:=cloneb_any w (.slice A k c) (p.take k) hsl hlk
  have Hck:=zY hck
  clear hsl hck hlk
  by_cases h0:k=0
  {
  subst h0
  have e:ptrim p=p.take 0:=by rw[<-Ht.out];rfl
  have He:=zY e
  clear e
  go_wp2_with (go_at_call 378;refine Hck.out.mono ?_;rintro e w1 ⟨v1,rfl,hv1,hb1⟩)
  go_ret
  exact⟨v1,rfl,by rw[He.out];exact hv1,hb1⟩}
  {
  have hkp:k-1<p.length:=by omega
  have hp1:p[k-1]?=some (p[k-1]'hkp):=List.getElem?_eq_getElem hkp
  obtain⟨b,o,rfl,hc⟩:=Hp0.out.cell hp1
  have hs1:IntKind.i64.wrap ((k:Int)-1)=((k-1:Nat):Int):=by rw[zIw (by omega)];omega
  have htk:p.take k=p.take (k-1)++[p[k-1]'hkp]:=by
   have:=List.take_add_one (l:=p) (i:=k-1)
   rw[hp1,show k-1+1=k by omega]at this
   exact this
  have hkI:(0:Int)<k:=by omega
  have hkJ:((k-1:Nat):Int)<p.length:=by omega
  generalize p[k-1]'hkp=x at *
  clear hp1
  by_cases hx:x=0
  {
  subst hx
  have hst:ptrim (p.take (k-1))=ptrim p:=by rw[<-Ht.out,htk,ptrim_snoc_zero]
  have Hst:=zY hst
  clear hst htk
  go_wp2
  go_round
  case rel=>exact⟨k-1,by omega,rfl,Hst.out⟩
  case measure=>simp[intOf];omega}
  {
  have e:ptrim p=p.take k:=by rw[<-Ht.out,htk,ptrim_snoc_other _ hx]
  have He:=zY e
  have hxI:((x:Int)==0)=false:=by rw[beq_eq_false_iff_ne];omega
  clear e htk
  go_wp2_with (go_at_call 378;refine Hck.out.mono ?_;rintro e w1 ⟨v1,rfl,hv1,hb1⟩)
  go_ret
  exact⟨v1,rfl,by rw[He.out];exact hv1,hb1⟩
}}
theorem make_u8_sum (a b:Nat) (ha:a<=100000) (hb:b<=100000) (w:World):(Instr.makeSlice 117 (.int .i64 ((a:Int)+b)) (.int .i64 ((a:Int)+b))).run Tryz.prog w=.ok (.slice (some ⟨w.heap.size,0,none⟩) (a+b) (a+b)) (w.alloc (.cells (arrB (List.replicate (a+b) 0)) 5)):=by
 have e:(a:Int)+b=((a+b:Nat):Int):=by omega
 rw[e]
 exact make_u8 _ _ (Nat.le_refl _) (by omega) w
def mulL (p q:List Nat) (n i k:Nat):List Nat:=(List.range n).map fun m=>cv p q i m^^^(if i<=m/\m<i+k then gmul (cf p i) (cf q (m-i)) else 0)
theorem mulL_len (p q:List Nat) (n i k:Nat):(mulL p q n i k).length=n:=by unfold mulL;simp
theorem mulL_get {p q:List Nat} {n i k:Nat} (h:i+k<n):(mulL p q n i k)[i+k]?=some (cv p q i (i+k)):=by
 unfold mulL
 rw[List.getElem?_map,List.getElem?_range h]
 simp
theorem mulL_set {p q:List Nat} {n i k:Nat} (h:i+k<n):(mulL p q n i k).set (i+k) (cv p q i (i+k)^^^gmul (cf p i) (cf q k))=mulL p q n i (k+1):=by
 refine List.ext_getElem? fun j=>?_
 rw[List.getElem?_set,mulL_len]
 unfold mulL
 rw[List.getElem?_map,List.getElem?_map]
 by_cases hj:j<n
 {
 rw[List.getElem?_range hj]
 by_cases hjk:i+k=j
 {
 subst hjk
 have e:i+k-i=k:=by omega
 simp[hj,e]}
 {
 rw[if_neg hjk]
 by_cases h1:i<=j/\j<i+k
 {
 have h2:i<=j/\j<i+(k+1):=by omega
 simp only[Option.map_some,if_pos h1,if_pos h2]}
 {
 have h2:¬(i<=j/\j<i+(k+1)):=by omega
 simp only[Option.map_some,if_neg h1,if_neg h2]}}}
 {
 rw[List.getElem?_eq_none (by simpa using hj),if_neg (by omega)]
 rfl}
theorem mulL_row (p q:List Nat) (n i:Nat):mulL p q n i q.length=mulL p q n (i+1) 0:=by
 unfold mulL
 refine List.map_congr_left fun m _=>?_
 have e:¬(i+1<=m/\m<i+1+0):=by omega
 rw[if_neg e]
 show _=(cv p q i m^^^(if i<=m then gmul (cf p i) (cf q (m-i)) else 0))^^^0
 rw[Nat.xor_zero]
 by_cases h1:i<=m
 {
 by_cases h2:m<i+q.length
 ·rw[if_pos ⟨h1,h2⟩,if_pos h1]
 ·rw[if_neg (by omega),if_pos h1,cf_big (p:=q) (by omega),gmul_zero_right]}
 ·rw[if_neg (by omega),if_neg h1]
theorem mulL_zero (p q:List Nat) (n:Nat):List.replicate n 0=mulL p q n 0 0:=by
 unfold mulL
 refine List.ext_getElem? fun j=>?_
 rw[List.getElem?_map,List.getElem?_replicate]
 by_cases hj:j<n
 {
 rw[if_pos hj,List.getElem?_range hj]
 have e:¬(0<=j/\j<0+0):=by omega
 simp[cv]}
 {
 rw[if_neg hj,List.getElem?_eq_none (by simpa using hj)]
 rfl}
theorem mulL_end (p q:List Nat):mulL p q (p.length+q.length) p.length 0=pmulR p q:=by
 unfold mulL pmulR
 refine List.map_congr_left fun m _=>?_
 rw[if_neg (by omega),Nat.xor_zero]
theorem pmul_any (w:World) (v u:Value) (p q:List Nat) (hp:BytesAt w v p) (hq:BytesAt w u q) (bp:Bytes p) (bq:Bytes q) (hl:p.length<=100000) (hm:q.length<=100000):Calls Tryz.prog 343 #[v,u] w fun e w'=>∃v',e=.returned v'/\BytesAt w' v' (pmul p q)/\Below w.heap.size w w':=by
 have Hp0:=zY hp
 have Hq0:=zY hq
 obtain⟨A,c,rfl,h1,h2,h3⟩:=hp
 obtain⟨A',c',rfl,h1',h2',h3'⟩:=hq
 clear h3 h3'
 have hmk:=make_u8_sum p.length q.length hl hm
 obtain⟨n,hn⟩:=zNm (p.length+q.length)
 rw[hn]at hmk
 have hnl:n<=200000:=by omega
 have HB0:=zY (zBl w (.cells (arrB (List.replicate n 0)) 5))
 have hK0:U8B (w.alloc (.cells (arrB (List.replicate n 0)) 5)) w.heap.size (mulL p q n 0 0):=by
  have:=U8B.new w (List.replicate n 0)
  rw[<-mulL_zero]
  exact this
 have HK0:=zY hK0
 clear hK0
 have hn1:p.length+q.length<=n:=by omega
 have Hn:=zY hn
 clear hn
 go_enter Tryz.func343,Tryz.ntmps343
 go_wp2
 go_loopw [16] (fun x wr=>∃i:Nat,i<=p.length/\x=.int .i64 i/\U8B wr w.heap.size (mulL p q n i 0)/\Below w.heap.size w wr) (fun x _=>p.length-(intOf x).toNat)
 case atStart=>exact⟨0,by omega,rfl,HK0.out,HB0.out⟩
 case round=>
  obtain⟨i,hi,rfl,hb,hB⟩:=hrel
  have Hb:=zY hb
  have HBr:=zY hB
  clear hb hB
  by_cases h:i<p.length
  {
  have hiI:(i:Int)<p.length:=by omega
  obtain⟨wo,hwo⟩:∃wo:World,wo=wr:=⟨_,rfl⟩
  have Hwo:=zY hwo
  clear hwo
  go_wp2
  go_loopw [21] (fun x wr=>∃k:Nat,k<=q.length/\x=.int .i64 k/\U8B wr w.heap.size (mulL p q n i k)/\Below w.heap.size w wr) (fun x _=>q.length-(intOf x).toNat)
  case atStart=>exact⟨0,by omega,rfl,Hb.out,HBr.out⟩
  case round=>
   obtain⟨k,hk,rfl,hb,hB⟩:=hrel
   clear Hb HBr Hwo
   have Hb:=zY hb
   have HBr:=zY hB
   clear hb hB
   by_cases h':k<q.length
   {
   have hkI:(k:Int)<q.length:=by omega
   have hpi:p[i]?=some (cf p i):=by unfold cf;rw[List.getElem?_eq_getElem h];rfl
   have hqk:q[k]?=some (cf q k):=by unfold cf;rw[List.getElem?_eq_getElem h'];rfl
   obtain⟨b,o,rfl,hc⟩:=(Hq0.out.below HBr.out).cell hqk
   obtain⟨b',o',rfl,hc'⟩:=(Hp0.out.below HBr.out).cell hpi
   have hik:i+k<n:=by omega
   have hc1:=Hb.out.cell (mulL_get (p:=p) (q:=q) hik)
   have hf1:=Blk.frozen Hb.out (i+k)
   have Hmul:=zY (fun W=>gmul_any W (cf p i) (cf q k) (cf_lt bp i) (cf_lt bq k))
   have Hadd:=zY (fun W=>gadd_any W (cv p q i (i+k)) (gmul (cf p i) (cf q k)) (cv_lt bp _ _) (gmul_lt _ (cf_lt bp i)))
   have Hset:=zY (mulL_set (p:=p) (q:=q) hik▸U8B.set Hb.out (i+k) (cv p q i (i+k)^^^gmul (cf p i) (cf q k)))
   clear hpi hqk
   generalize gmul (cf p i) (cf q k)=z at *
   generalize cf p i=x at *
   generalize cf q k=y at *
   generalize cv p q i (i+k)=s at *
   have hs1:IntKind.i64.wrap ((i:Int)+k)=(i:Int)+k:=zIw (by omega)
   have hs2:((i:Int)+k).toNat=i+k:=by omega
   have hs3:(0:Int)<=(i:Int)+k:=by omega
   have hs4:(i:Int)+k<n:=by omega
   go_wp2
   go_still_tail 21,(by kernel_rfl)
   still_call (still_of (Hmul.out _))
   repeat still_step
   still_call (still_of (Hadd.out _))
   repeat still_step
   refine wpStill_nil ?_
   go_wp2
   clear hs1 hs2 hs3 hs4
   go_roundw
   case rel=>exact⟨k+1,by omega,by go_num,Hset.out,(HBr.out.setCell (p:=⟨w.heap.size,i+k,none⟩) (Nat.le_refl _) _).drew⟩
   case measure=>simp[intOf];omega}
   {
   have hkn:k=q.length:=by omega
   subst hkn
   have Hb2:=zY (mulL_row p q n i▸Hb.out)
   clear Hb
   go_wp2
   go_roundw
   case rel=>exact⟨i+1,by omega,by go_num,Hb2.out,HBr.out⟩
   case measure=>simp[intOf];omega}}
  {
  have hin:i=p.length:=by omega
  subst hin
  have hl2:(pmulR p q).length=n:=by rw[pmulR_len,Hn.out]
  have hv:BytesAt wr (.slice (some ⟨w.heap.size,0,none⟩) n n) (pmulR p q):=by
   rw[<-mulL_end,Hn.out]
   exact U8B.bytes Hb.out (by rw[mulL_len]) (Nat.le_refl _) (by omega)
  have Ht:=zY (ptrim_any wr _ (pmulR p q) hv (by omega))
  clear hl2 hv
  go_wp2_with (go_at_call 376;refine Ht.out.mono ?_;rintro e w1 ⟨v1,rfl,hv1,hb1⟩)
  go_ret
  exact⟨v1,rfl,hv1,HBr.out.trans (hb1.mono HBr.out.size)⟩
}
theorem make_u8_8 (w:World):(Instr.makeSlice 117 (.int .i64 8) (.int .i64 8)).run Tryz.prog w=.ok (.slice (some ⟨w.heap.size,0,none⟩) 8 8) (w.alloc (.cells (arrB (List.replicate 8 0)) 5)):=make_u8 8 8 (Nat.le_refl _) (by omega) w
end
end Go.Proofs.YthgenkkkapilhaaGreatDoor
