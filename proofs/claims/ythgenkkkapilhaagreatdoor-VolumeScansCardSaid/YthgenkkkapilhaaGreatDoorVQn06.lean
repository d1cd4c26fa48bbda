/-
  Joined: VitA TakeA CrcAz VoR VoU VoV VoW VoX ResT.
-/
import Derived.Test.YthgenkkkapilhaaGreatDoorVQn05
import Derived.Deep.RegionHeld3
set_option linter.all false
set_option maxRecDepth 100000
set_option maxHeartbeats 64000000
namespace Go.Proofs.YthgenkkkapilhaaGreatDoor
open Go.Proofs.Tryz
section
open Go.RowKit
theorem tk {P:Program} {ops:Array Oper} {Q:Exit->Act->World->Prop} {md:Region.Mode} {S:World->Prop} (i:Nat) {oi:Oper} {v:Value} {fuel:Nat} {listed ls:Array Bool} {a a':Act} {w:World}
  (h:wpAnyH P md ops Q S fuel ls a' w) (hi:ops[i]?=some oi:=by rfl) (hs:Region.noSelect ops=true:=by kernel_rfl) (hf:Region.free md ops listed i=true:=by kernel_rfl)
  (hr:(Region.ready md ops listed).contains i=true:=by kernel_rfl) (hQ:∀c a w,Q (.panic c) (a.put oi.dst v) w->Q (.panic c) a w:=by exact fun _ _ _ h=>h)
  (hw:Region.wanted oi (yielded ops a.tmps)=true:=by rfl) (hy:∀w,S w->(execOp a.eval oi).run P w=.ok (.value v) w:=by(intro W hSw;(try dsimp only at hSw);go_simp;try with_reducible rfl)) (hS:S w:=by assumption)
  (e1:listed.setIfInBounds i true=ls:=by(try simp only[List.setIfInBounds_toArray,List.set_cons_zero,List.set_cons_succ]);with_reducible rfl)
  (e2:a.put oi.dst v=a':=by(try simp only[Act.put,List.setIfInBounds_toArray,List.set_cons_zero,List.set_cons_succ,List.getElem_toArray,List.getElem_cons_zero,List.getElem_cons_succ]);with_reducible rfl):
  wpAnyH P md ops Q S (fuel+1) listed a w:=by
 subst e1 e2;exact wpAnyH_take hi hs hf hr hQ (Or.inl ⟨hw,hy⟩) hS h
theorem hko {P:Program} {ops:Array Oper} {Q:Exit->Act->World->Prop} {md:Region.Mode} {S:World->Prop} {i:Nat} {fuel:Nat} {listed ls:Array Bool} {K:Act->World->Prop} (hK:Shut (∀a w,S w->(S w->wpAnyH P md ops Q S fuel (listed.setIfInBounds i true) a w)->K a w)) {a a':Act} {w:World}
  (hS:S w) (h:S w->wpAnyH P md ops Q S fuel ls a' w)
  (e1:listed.setIfInBounds i true=ls:=by(try simp only[List.setIfInBounds_toArray,List.set_cons_zero,List.set_cons_succ]);with_reducible rfl)
  (e2:a=a':=by(try simp only[Act.put,List.setIfInBounds_toArray,List.set_cons_zero,List.set_cons_succ,List.getElem_toArray,List.getElem_cons_zero,List.getElem_cons_succ]);with_reducible rfl):K a w:=by
 subst e1 e2;exact hK.out _ _ hS h
theorem bs_outS (s b:Nat):bs (outS s b)=[co1 s b,co2 s b]:=bs_strB (out_bytes s b)
structure Turned (A B:World) (g:Nat):Prop where
 os:B.os=A.os
 tape:B.tape=A.tape
 output:B.output=A.output
 size:B.heap.size=A.heap.size
 other:∀k,k≠g->B.heap[k]?=A.heap[k]?
theorem Turned.below {A B w:World} {g H:Nat} (h:Turned A B g) (hb:Below H w A) (hg:H<=g):Below H w B:=
 ⟨h.os.trans hb.os,h.tape.trans hb.tape,h.output.trans hb.output,by rw[h.size];exact hb.size,fun k hk=>(h.other k (by omega)).trans (hb.block k hk)⟩
theorem turned_set1 (W:World) (g j:Nat) (y:Value):Turned W (W.setCell ⟨g,j,none⟩ y) g:=
 ⟨rfl,rfl,rfl,by simp,fun k hk=>Below.heap_setCell _ ⟨g,j,none⟩ _ _ hk⟩
theorem turned_refl (W:World) (g:Nat):Turned W W g:=⟨rfl,rfl,rfl,rfl,fun _ _=>rfl⟩
end
section
open Go.RowKit
section
variable {P:Program} {ops:Array Oper} {Q:Exit->Act->World->Prop} {md:Region.Mode} {S:World->Prop}
def GivesIf (P:Program) (ops:Array Oper) (S:World->Prop) (o:Oper) (v:Value) (a:Act):Prop:=
 Region.wanted o (yielded ops a.tmps)=true/\∀w,S w->∃f args,(execOp a.eval o).run P w=.ok (.enter f args) w/\Calls P f args w fun e w'=>e=.returned v/\w=w'
theorem GivesIf.here {i:Nat} {o:Oper} {v:Value} {a:Act} (hi:ops[i]?=some o) (hg:GivesIf P ops S o v a) {K:Act->World->Prop} {w:World} (hS:S w) (h:K (a.put o.dst v) w):wpOp P ops Q i K a w:=by
 obtain⟨hw,hv⟩:=hg;obtain⟨f,args,hr,hc⟩:=hv w hS;unfold wpOp;rw[hi];show if _ then _ else _;rw[if_pos hw];refine .inl ?_;unfold Oper.wp;rw[hr,Oper.upon_enter];refine hc.mono ?_;rintro e w' ⟨rfl,rfl⟩;exact h
theorem wpOp_shape {j:Nat} {oj:Oper} (hj:ops[j]?=some oj) {Y:Act->Prop} (hput:∀b,Y b->∀u,Y (b.put oj.dst u)) (hdef:∀b d,Y b->Y { b with defers:=d::b.defers })
  {K:Act->World->Prop} {a:Act} {w:World} (hy:Y a) (h:wpOp P ops Q j K a w):wpOp P ops Q j (fun a' w'=>Y a'/\K a' w') a w:=by
 unfold wpOp at *;rw[hj]at *;dsimp only at *;split;{
 next hw=>
 rw[if_pos hw]at h;rcases h with h|h;{
 left;unfold Oper.wp at *;cases hr:(execOp a.eval oj).run P w with
 |ok n w'=>(
 rw[hr]at h;cases n<;>simp only[Oper.upon]at h⊢;all_goals first
  |exact⟨hput _ hy _,h⟩
  |exact⟨hput _ (hdef _ _ hy) _,h⟩
  |exact Calls.mono h fun e w'' he=>by cases e<;>first|exact⟨hput _ hy _,he⟩|exact he
  |exact Rows.mono h fun u w'' he=>⟨hput _ hy _,he⟩)
 |halt x w'=>
 rw[hr]at h;cases x<;>simp only[Oper.upon]at h⊢;exact h};{exact .inr h}};{
 next hw=>
 rw[if_neg hw]at h;exact⟨hput _ hy _,h⟩}
theorem call_first {i:Nat} {oi:Oper} {v:Value} (hi:ops[i]?=some oi) (hsel:∀(j:Nat) (o:Oper) cs b,ops[j]?=some o->o.op≠.select cs b)
  (hQ:∀c a w,Q (.panic c) (a.put oi.dst v) w->Q (.panic c) a w) (fuel:Nat):∀(listed:Array Bool) (a:Act) (w:World),
   (∀j oj,ops[j]?=some oj->j≠i->listed.getD j true=false->(∀e∈oj.after,Region.binds md e=true->e.on≠i)->oi.apart ops oj=true) ->
   i∈Region.ready md ops listed->GivesIf P ops S oi v a->S w ->
   wpAnyH P md ops Q S fuel (listed.setIfInBounds i true) (a.put oi.dst v) w->wpAnyH P md ops Q S (fuel+1) listed a w:=by
 have key:∀(listed:Array Bool) (j:Nat) (oj:Oper),ops[j]?=some oj->i∈Region.ready md ops listed->j∈Region.ready md ops listed->∀e∈oj.after,Region.binds md e=true->e.on≠i:=by{
 intro listed j oj hj hir hjr e he hb heq;have h0:=(mem_ready.1 hir).1;obtain⟨_,o,ho,hall⟩:=mem_ready.1 hjr;rw[hj]at ho;cases ho;have h1:=hall e he hb;rw[heq]at h1;by_cases hlt:i<listed.size;{
 simp[hlt]at h0 h1;rw[h0]at h1;cases h1};{simp[hlt]at h0}};induction fuel with
 |zero=>(
 intro listed a w _ hir hg hS H;refine⟨fun e=>(by rw[e]at hir;cases hir),fun j hjr=>?_⟩;by_cases hji:j=i;{
 subst hji;exact hg.here hi hS ⟨hS,H⟩};{
 have:=ready_mono hjr hji;rw[H.1]at this;cases this})
 |succ fuel ih=>
 intro listed a w hfree hir hg hS H;refine⟨fun e=>(by rw[e]at hir;cases hir),fun j hjr=>?_⟩;by_cases hji:j=i;{
 subst hji;exact hg.here hi hS ⟨hS,H⟩};obtain⟨hun,oj,hj,_⟩:=mem_ready.1 hjr;have hap:=hfree j oj hj hji hun (key listed j oj hj hir hjr);obtain⟨_,_,hq3⟩:=Oper.apart_spec hap;have hyF:YieldsIf P ops (fun _=>False) oi v a:=.inl ⟨hg.1,fun _ hf=>hf.elim⟩;have h2:=wpOp_putIf hj hap (fun cs b=>hsel i oi cs b hi) (fun cs b=>hsel j oj cs b hj) hQ hyF (H.2 j (ready_mono hjr hji));have h3:=wpOp_shape hj (Y:=GivesIf P ops S oi v) (fun b hb u=>by
  unfold GivesIf at *
  rw[execOp_put oi (fun cs b=>hsel i oi cs b hi) b oj.dst u hq3,wanted_put oi b oj.dst u hq3]
  exact hb) (fun b d hb=>hb) hg h2;refine wpOp_mono (fun a' w' h4=>⟨h4.2.2.1,ih (listed.setIfInBounds j true) a' w' (fun k ok hk hki hku hkw=>?_) (ready_mono hir (Ne.symm hji)) h4.1 h4.2.2.1 ?_⟩) h3;{
 refine hfree k ok hk hki ?_ hkw;by_cases hjk:j=k;{
 subst hjk;exact hun};{rwa [getD_set_ne true hjk]at hku}};{
 rw[Array.setIfInBounds_comm _ _ hji];exact h4.2.2.2}
theorem take_call {i:Nat} {oi:Oper} {v:Value} {fuel:Nat} {listed:Array Bool} {a:Act} {w:World} (hi:ops[i]?=some oi)
  (hs:Region.noSelect ops=true) (hf:Region.free md ops listed i=true) (hr:(Region.ready md ops listed).contains i=true)
  (hQ:∀c a w,Q (.panic c) (a.put oi.dst v) w->Q (.panic c) a w) (hg:GivesIf P ops S oi v a) (hS:S w)
  (h:wpAnyH P md ops Q S fuel (listed.setIfInBounds i true) (a.put oi.dst v) w):wpAnyH P md ops Q S (fuel+1) listed a w:=
 call_first hi (Region.noSelect_spec hs) hQ fuel listed a w (Region.free_spec hi hf) (by simpa using hr) hg hS h
end
end
section
open Go.RowKit
theorem mark_any (w:World):Calls prog 172 #[] w fun e w'=>e=.returned (.string markS)/\w=w':=by
 go_enter func172,ntmps172;go_wp2;go_ret;exact⟨rfl,rfl⟩
theorem compare31_any (w:World) (s d:ByteArray) (hs:s.size<=1000000) (hd:d.size<=1000000):Calls prog 229 #[.string s,.string d] w fun e w'=>RetI e/\Below w.heap.size w w':=by
 have HEs:=zY (fun W=>elems_any W s hs);have HEd:=zY (fun W=>elems_any W d hd);have hl1:=(elemsL_size (s:=bs s)).2;have hl2:=(elemsL_size (s:=bs d)).2;rw[bs_len]at hl1 hl2;generalize elemsL (bs s)=L at *;generalize elemsL (bs d)=M at *;go_enter func229,ntmps229;go_wp2_with fail;refine(HEs.out _).mono ?_;rintro e3 w3 ⟨v3,rfl,ho3,hb3⟩;have HO3:=zY ho3;have HB3:=zY hb3;clear ho3 hb3;go_wp2_with fail;refine(HEd.out _).mono ?_;rintro e4 w2 ⟨v4,rfl,ho4,hb4⟩;have HL:=zY (ownV_below HO3.out hb4);have HM:=zY ho4;have HB4:=zYt HB3 hb4;clear ho4 hb4 HB3 HO3;obtain⟨A1,k1,rfl⟩:=ownV_slice HL.out;obtain⟨A2,k2,rfl⟩:=ownV_slice HM.out;go_wp2;go_loopw [7] (fun x wr=>∃i:Nat,i<=L.length/\i<=M.length/\x=.int .i64 (i:Int)/\Below w2.heap.size w2 wr) (fun x _=>M.length-(intOf x).toNat);case atStart=>exact⟨0,by omega,by omega,rfl,Below.refl _ _⟩
 case round=>
 obtain⟨i,hiL1,hi,rfl,hB⟩:=hrel;have HB:=zY hB;clear hB;by_cases h:i<L.length/\i<M.length;{
 have hiI:(i:Int)<M.length:=by omega
 have hiL:(i:Int)<L.length:=by omega
 have hMi:i<M.length:=h.2;have hLi:i<L.length:=h.1;clear h;obtain⟨p,hp⟩:∃p,L[i]?=some p:=⟨_,List.getElem?_eq_getElem hLi⟩;obtain⟨q,hq⟩:∃q,M[i]?=some q:=⟨_,List.getElem?_eq_getElem hMi⟩;obtain⟨g1,k1,e8,_⟩:=ownV_at HL.out (by omega);obtain⟨g2,k2,e9,_⟩:=ownV_at HM.out (by omega);cases e8;cases e9;have c1:w2.cell? ⟨g1,i,none⟩=some (.string (strB p)):=by rw[HL.cellAt i (by omega),strsV,List.getElem?_map,hp];rfl
 have c2:w2.cell? ⟨g2,i,none⟩=some (.string (strB q)):=by rw[HM.cellAt i (by omega),strsV,List.getElem?_map,hq];rfl
 have c1:=cell_below HB.out c1;have c2:=cell_below HB.out c2;clear hp hq hLi hMi;generalize strB p=X at *;generalize strB q=Y at *;cases hB1:Op.bytesLess X.toList Y.toList with
 |true=>go_upto_region 5 with fail;go_quiet (fail);go_wp2;go_ret;exact⟨RetI.of (-1),HB4.trans ((zBd HB.out _).mono HB4.size)⟩
 |false=>
 by_cases hxy:X=Y;{
 subst hxy;go_upto_region 5 with fail;go_quiet (fail);go_upto_region 7 with fail;go_quiet (fail);go_wp2;go_roundw;case rel=>exact⟨i+1,by omega,by omega,by go_num,by first|exact zBd HB.out _|exact zBd (zBd HB.out _) _⟩
 case measure=>simp[intOf];omega};{
 have b3:¬X.toList=Y.toList:=fun e=>hxy (by rw[ByteArray.toList_eq,ByteArray.toList_eq]at e;exact ByteArray.ext (Array.toList_inj.1 e));have b4:(X.toList==Y.toList)=false:=by rw[beq_eq_false_iff_ne];exact b3
 clear hxy;go_upto_region 5 with fail;go_quiet (fail);go_upto_region 7 with fail;go_quiet (fail);go_wp2;go_ret;exact⟨RetI.of 1,HB4.trans (Below.mono (by first|exact zBd HB.out _|exact zBd (zBd HB.out _) _) HB4.size)⟩}};{
 have hz:¬(i:Int)<L.length∨((i:Int)<L.length/\¬(i:Int)<M.length):=by omega
 clear h;rcases hz with f1|⟨f1,f2⟩;all_goals
 by_cases g1:L.length<M.length;{
 have g2:(L.length:Int)<M.length:=by omega
 go_wp2;go_ret;exact⟨RetI.of (-1),HB4.trans (HB.mono HB4.size)⟩};{
 have g2:¬(L.length:Int)<M.length:=by omega
 by_cases g3:M.length<L.length;{
 have g4:(M.length:Int)<L.length:=by omega
 go_wp2;go_ret;exact⟨RetI.of 1,HB4.trans (HB.mono HB4.size)⟩};{
 have g4:¬(M.length:Int)<L.length:=by omega
 go_wp2;go_ret;exact⟨RetI.of 0,HB4.trans (HB.mono HB4.size)⟩}}}
structure Hol where
 p:ByteArray
 u:Int
def holS:Shape Hol where
 n:=2
 R _ cs x:=cs=[.string x.p,.int .i64 x.u]
 len h:=by rw[h];rfl
 one h u hu:=by
  rw[h]at hu
  simp only[List.mem_cons,List.not_mem_nil,or_false]at hu
  rcases hu with rfl|rfl<;>rfl
 keep h _:=h
theorem held_any (w:World) (v:Value) (l:List Hol) (hv:SeqAt holS w v l) (hl:∀h∈l,h.p.size<=1000000) (s:ByteArray) (hs:s.size<=1000000) (date:Int):Calls prog 230 #[v,.string s,.int .i64 date] w fun e w'=>RetB e/\Below w.heap.size w w':=by
 have Hv:=zY hv;have HU:=zY (fun(W:World) (h:Hol) (hm:h∈l)=>under_any W s h.p hs (hl h hm));obtain⟨A,c,rfl,h1,h2⟩:=hv.slice;clear hv hl;go_enter func230,ntmps230;go_wp2;go_loopw [7] (fun x wr=>∃i:Nat,i<=l.length/\x=.int .i64 (i:Int)/\Below w.heap.size w wr) (fun x _=>l.length-(intOf x).toNat);case atStart=>exact⟨0,by omega,rfl,Below.refl _ _⟩
 case round=>
 obtain⟨i,hi,rfl,hB⟩:=hrel;have HB:=zY hB;clear hB;by_cases h:i<l.length;{
 have hiI:(i:Int)<l.length:=by omega
 obtain⟨x,hx⟩:∃x,l[i]?=some x:=⟨_,List.getElem?_eq_getElem h⟩;obtain⟨_,_,e9,_,_,h4⟩:=Hv.below HB.out;cases e9;obtain⟨b,o,cs,rfl,rfl,hc⟩:=h4 i x hx;have HUx:=zY (fun W=>HU.out W x (List.mem_of_getElem? hx));have c0:wr.cell? ⟨b,o+i*2,none⟩=some (.string x.p):=hc 0 _ rfl;have c1:wr.cell? ⟨b,o+i*2+1,none⟩=some (.int .i64 x.u):=hc 1 _ rfl;clear hc h4 hx;obtain⟨p,u⟩:=x;dsimp only at c0 c1 HUx;by_cases hd:date<=u;{
 go_wp2_with fail;refine(HUx.out _).mono ?_;rintro e2 w2 ⟨⟨r,rfl⟩,hb2⟩;have HB2:=zYt HB hb2;clear hb2;cases r with
 |true=>go_wp2;go_ret;exact⟨RetB.of true,HB2.out⟩
 |false=>
 go_wp2;go_roundw;case rel=>exact⟨i+1,by omega,by go_num,HB2.out⟩
 case measure=>simp[intOf];omega};{
 go_wp2_with fail;first|(refine⟨trivial,?_⟩;go_wp2)|skip
 go_roundw;case rel=>exact⟨i+1,by omega,by go_num,HB.out⟩
 case measure=>simp[intOf];omega}};{
 have hiI:¬(i:Int)<l.length:=by omega
 go_wp2;go_ret;exact⟨RetB.of false,HB.out⟩}
theorem date38_any (w:World) (s:ByteArray) (hs:s.size<=1000000):Calls prog 231 #[.string s] w fun e w'=>RetI e/\w=w':=by
 by_cases h1:s.size=0;{
 have i1:s.toList.isEmpty=true:=by rw[show s=⟨#[]⟩ by apply ByteArray.ext;exact Array.eq_empty_of_size_eq_zero h1];rw[ByteArray.toList_eq];rfl
 clear h1;go_enter func231,ntmps231;go_wp2;go_ret;exact⟨RetI.of (-1),rfl⟩};{
 have i1:s.toList.isEmpty=false:=isEmptyV h1;by_cases h2:10<s.size;{
 have i2:(10:Int)<s.size:=by omega
 go_enter func231,ntmps231;go_wp2;go_ret;exact⟨RetI.of (-1),rfl⟩};{
 have i2:¬(10:Int)<s.size:=by omega
 have h0:0<s.size:=by omega
 have i0:(0:Int)<s.size:=by omega
 by_cases h3:1<s.size;{
 have i3:(1:Int)<s.size:=by omega
 by_cases h4:(s[0]'h0).toNat=48;{
 have i4:(((s[0]'h0).toNat:Int)==48)=true:=by rw[h4];rfl
 clear h4;go_enter func231,ntmps231;go_wp2;go_ret;exact⟨RetI.of (-1),rfl⟩};{
 have i4:(((s[0]'h0).toNat:Int)==48)=false:=by rw[beq_eq_false_iff_ne];omega
 clear h4;go_enter func231,ntmps231;go_wp2;go_loop [3,4] (fun y x=>∃k n:Nat,k<=s.size/\x=.int .i64 (k:Int)/\y=.int .i64 (n:Int)/\n<10^k) (fun _ x=>s.size-(intOf x).toNat);case atStart=>exact⟨0,0,by omega,rfl,rfl,by decide⟩
 case round=>
 obtain⟨k,n,hk,rfl,rfl,hn⟩:=hrel;have hn2:10^k<=10^10:=Nat.pow_le_pow_right (by decide) (by omega);have hn3:n<10000000000:=by omega
 by_cases h:k<s.size;{
 have hkI:(k:Int)<s.size:=by omega
 by_cases a1:(s[k]'h).toNat<48;{
 have f0:((s[k]'h).toNat:Int)<48:=by omega
 clear a1 hn hn2;go_wp2;go_ret;exact⟨RetI.of (-1),rfl⟩};{
 by_cases a2:57<(s[k]'h).toNat;{
 have f0:¬((s[k]'h).toNat:Int)<48:=by omega
 have f1:(57:Int)<((s[k]'h).toNat:Int):=by omega
 clear a1 a2 hn hn2;go_wp2;go_ret;exact⟨RetI.of (-1),rfl⟩};{
 have f0:¬((s[k]'h).toNat:Int)<48:=by omega
 have f1:¬(57:Int)<((s[k]'h).toNat:Int):=by omega
 obtain⟨c,hc⟩:∃c,(s[k]'h).toNat=c+48:=⟨(s[k]'h).toNat-48,by omega⟩;have hc9:c<=9:=by omega
 have hcI:((s[k]'h).toNat:Int)-48=(c:Int):=by omega
 have hcM:(((s[k]'h).toNat:Int)-48)%256=(c:Int):=by omega
 have hnn:n*10+c<10^(k+1):=by rw[Nat.pow_succ];omega
 have HN:=zY hnn;clear a1 a2 hn hn2 hnn hc;go_wp2;go_round;case rel=>exact⟨k+1,n*10+c,by omega,by go_num,by go_num,HN.out⟩
 case measure=>simp[intOf];omega}}};{
 have hkI:¬(k:Int)<s.size:=by omega
 clear hn hn2;by_cases hle:1000000000<n;{
 have i9:(1000000000:Int)<n:=by omega
 go_wp2;go_ret;exact⟨RetI.of (-1),rfl⟩};{
 have i9:¬(1000000000:Int)<n:=by omega
 go_wp2;go_ret;exact⟨RetI.of n,rfl⟩}}}};{
 have i3:¬(1:Int)<s.size:=by omega
 go_enter func231,ntmps231;go_wp2;go_loop [3,4] (fun y x=>∃k n:Nat,k<=s.size/\x=.int .i64 (k:Int)/\y=.int .i64 (n:Int)/\n<10^k) (fun _ x=>s.size-(intOf x).toNat);case atStart=>exact⟨0,0,by omega,rfl,rfl,by decide⟩
 case round=>
 obtain⟨k,n,hk,rfl,rfl,hn⟩:=hrel;have hn2:10^k<=10^10:=Nat.pow_le_pow_right (by decide) (by omega);have hn3:n<10000000000:=by omega
 by_cases h:k<s.size;{
 have hkI:(k:Int)<s.size:=by omega
 by_cases a1:(s[k]'h).toNat<48;{
 have f0:((s[k]'h).toNat:Int)<48:=by omega
 clear a1 hn hn2;go_wp2;go_ret;exact⟨RetI.of (-1),rfl⟩};{
 by_cases a2:57<(s[k]'h).toNat;{
 have f0:¬((s[k]'h).toNat:Int)<48:=by omega
 have f1:(57:Int)<((s[k]'h).toNat:Int):=by omega
 clear a1 a2 hn hn2;go_wp2;go_ret;exact⟨RetI.of (-1),rfl⟩};{
 have f0:¬((s[k]'h).toNat:Int)<48:=by omega
 have f1:¬(57:Int)<((s[k]'h).toNat:Int):=by omega
 obtain⟨c,hc⟩:∃c,(s[k]'h).toNat=c+48:=⟨(s[k]'h).toNat-48,by omega⟩;have hc9:c<=9:=by omega
 have hcI:((s[k]'h).toNat:Int)-48=(c:Int):=by omega
 have hcM:(((s[k]'h).toNat:Int)-48)%256=(c:Int):=by omega
 have hnn:n*10+c<10^(k+1):=by rw[Nat.pow_succ];omega
 have HN:=zY hnn;clear a1 a2 hn hn2 hnn hc;go_wp2;go_round;case rel=>exact⟨k+1,n*10+c,by omega,by go_num,by go_num,HN.out⟩
 case measure=>simp[intOf];omega}}};{
 have hkI:¬(k:Int)<s.size:=by omega
 clear hn hn2;by_cases hle:1000000000<n;{
 have i9:(1000000000:Int)<n:=by omega
 go_wp2;go_ret;exact⟨RetI.of (-1),rfl⟩};{
 have i9:¬(1000000000:Int)<n:=by omega
 go_wp2;go_ret;exact⟨RetI.of n,rfl⟩}}}}}
theorem Tryz.infoHolV:(prog.info? 289).map (fun i=>(i.zero,i.size,i.bytes))=some (some (.agg #[.string ⟨#[]⟩,.int .i64 0]),2,24):=by kernel_rfl
def RetHols (w0 W:World) (p:List Hol->Prop) (e:Ending):Prop:=∃v l,e=.returned v/\OwnSeq holS 289 w0 W v l/\p l
theorem active_any (w:World) (v:Value) (l:List Hol) (hv:SeqAt holS w v l) (hl:l.length<=100000) (date:Int):Calls prog 150 #[v,.int .i64 date] w fun e w'=>RetHols w w' (fun m=>m.length<=l.length/\∀h∈m,h∈l) e/\Below w.heap.size w w':=by
 have Hv:=zY hv;obtain⟨iS,hi,hq0,hq1,hq2⟩:=infoV_parts Tryz.infoHolV;have HiS:Hid (prog.info? 289=some iS/\iS.zero=some (.agg #[.string ⟨#[]⟩,.int .i64 0])/\iS.size=2/\iS.bytes=24):=zY ⟨hi,hq0,hq1,hq2⟩;clear hi hq0 hq1 hq2;obtain⟨A,c,rfl,h1,h2⟩:=hv.slice;clear hv;go_enter func150,ntmps150;go_wp2;go_loopw [5,6] (fun y x wr=>∃(i:Nat) (m:List Hol),i<=l.length/\x=.int .i64 (i:Int)/\m.length<=i/\(∀h∈m,h∈l)/\OwnSeq holS 289 w wr y m/\Below w.heap.size w wr) (fun _ x _=>l.length-(intOf x).toNat);case atStart=>exact⟨0,[],by omega,rfl,by simp,(fun h hh=>nomatch hh),⟨[],ownV_new _ _ _,.nil⟩,(Below.refl _ _).alloc (Nat.le_refl _) _⟩
 case round=>
 obtain⟨i,m,hi,rfl,hm,hall,ho,hB⟩:=hrel;have HB:=zY hB;have Hall:=zY hall;obtain⟨css,ho,hbt⟩:=ho;have Ho:=zY ho;have Hbt:=zY hbt;clear hB hall ho hbt;obtain⟨Av,cv,rfl⟩:=ownV_slice Ho.out;by_cases h:i<l.length;{
 have hiI:(i:Int)<l.length:=by omega
 obtain⟨x,hx⟩:∃x,l[i]?=some x:=⟨_,List.getElem?_eq_getElem h⟩;have Hxm:=zY (List.mem_of_getElem? hx);obtain⟨_,_,e9,_,_,h4⟩:=Hv.below HB.out;cases e9;obtain⟨b,o,cs,rfl,rfl,hc⟩:=h4 i x hx;have c0:wr.cell? ⟨b,o+i*2,none⟩=some (.string x.p):=hc 0 _ rfl;have c1:wr.cell? ⟨b,o+i*2+1,none⟩=some (.int .i64 x.u):=hc 1 _ rfl;clear hc h4 hx;obtain⟨p,u⟩:=x;dsimp only at c0 c1;by_cases hd:date<=u;{
 have Hnews:Hid (∀(q:Nat) (x:Value),([.string p,.int .i64 u]:List Value)[q]?=some x->(wr.alloc (.cells #[.string p,.int .i64 u] 289)).cell? ((⟨wr.heap.size,0,none⟩:Addr).add q)=some x):=zY (fun q x hq=>by
  rw[Addr.add_lit,Nat.zero_add]
  exact(Blk.new wr 289 [.string p,.int .i64 u]).cell hq);have Hone:Hid (∀x∈([.string p,.int .i64 u]:List Value),x.oneCell'=true):=zY (by simp[Value.oneCell']);have HU:=zY (Ho.alloc (.cells #[.string p,.int .i64 u] 289));have HB6:=zY (HB.alloc HB.size (.cells #[.string p,.int .i64 u] 289));go_wp2_with (at_builtin;refine append_atV _ rfl _ _ 161 rfl w.heap.size 289 iS (.agg #[.string ⟨#[]⟩,.int .i64 0]) 2 24 underlying161 HiS.1 HiS.2.1 HiS.2.2.1 HiS.2.2.2 rfl (by omega) (.slice Av m.length cv) m.length _ rfl HU.out ⟨wr.heap.size,0,none⟩ 1 1 _ rfl rfl Hnews.out Hone.out (by unfold maxLen;omega) (by omega) HB6.size ?_;intro va wa hob hgb _;have KU:=zY hob;have KB:=zY (HB6.grown hgb HB6.size (ownV_ge HU.out));clear hob hgb);go_roundw;case rel=>exact⟨i+1,m++[⟨p,u⟩],by omega,by go_num,by simp;omega,(fun x hx=>by
  rcases List.mem_append.1 hx with hx|hx
  ·exact Hall.out x hx
  ·rw[List.mem_singleton.1 hx];exact Hxm.out),⟨css++[[.string p,.int .i64 u]],by rw[List.flatten_append,List.length_append];exact KU.out,Hbt.app (.cons (show holS.R w [.string p,.int .i64 u] ⟨p,u⟩ from rfl) .nil)⟩,KB.out⟩
 case measure=>simp[intOf];omega};{
 go_wp2;go_roundw;case rel=>exact⟨i+1,m,by omega,by go_num,by omega,Hall.out,⟨css,Ho.out,Hbt.out⟩,HB.out⟩
 case measure=>simp[intOf];omega}};{
 have hiI:¬(i:Int)<l.length:=by omega
 go_wp2;go_ret;exact⟨⟨_,m,rfl,⟨css,Ho.out,Hbt.out⟩,by omega,Hall.out⟩,HB.out⟩}
def RetHolsI (w0 W:World) (p:List Hol->Prop) (e:Ending):Prop:=∃v l n,e=.returned (.tuple #[v,.int .i64 n])/\OwnSeq holS 289 w0 W v l/\p l
theorem without_any (w:World) (v:Value) (l:List Hol) (hv:SeqAt holS w v l) (hl:l.length<=100000) (s:ByteArray):Calls prog 232 #[v,.string s] w fun e w'=>RetHolsI w w' (fun m=>m.length<=l.length/\∀h∈m,h∈l) e/\Below w.heap.size w w':=by
 have Hv:=zY hv;obtain⟨iS,hi,hq0,hq1,hq2⟩:=infoV_parts Tryz.infoHolV;have HiS:Hid (prog.info? 289=some iS/\iS.zero=some (.agg #[.string ⟨#[]⟩,.int .i64 0])/\iS.size=2/\iS.bytes=24):=zY ⟨hi,hq0,hq1,hq2⟩;clear hi hq0 hq1 hq2;obtain⟨A,c,rfl,h1,h2⟩:=hv.slice;clear hv;go_enter func232,ntmps232;go_wp2;go_loopw [6,7,8] (fun y z x wr=>∃(i:Nat) (m:List Hol) (q:Int),z=.int .i64 q/\i<=l.length/\x=.int .i64 (i:Int)/\m.length<=i/\(∀h∈m,h∈l)/\OwnSeq holS 289 w wr y m/\Below w.heap.size w wr) (fun _ _ x _=>l.length-(intOf x).toNat);case atStart=>exact⟨0,[],-1,rfl,by omega,rfl,by simp,(fun h hh=>nomatch hh),⟨[],ownV_new _ _ _,.nil⟩,(Below.refl _ _).alloc (Nat.le_refl _) _⟩
 case round=>
 obtain⟨i,m,q0,rfl,hi,rfl,hm,hall,ho,hB⟩:=hrel;have HB:=zY hB;have Hall:=zY hall;obtain⟨css,ho,hbt⟩:=ho;have Ho:=zY ho;have Hbt:=zY hbt;clear hB hall ho hbt;obtain⟨Av,cv,rfl⟩:=ownV_slice Ho.out;by_cases h:i<l.length;{
 have hiI:(i:Int)<l.length:=by omega
 obtain⟨x,hx⟩:∃x,l[i]?=some x:=⟨_,List.getElem?_eq_getElem h⟩;have Hxm:=zY (List.mem_of_getElem? hx);obtain⟨_,_,e9,_,_,h4⟩:=Hv.below HB.out;cases e9;obtain⟨b,o,cs,rfl,rfl,hc⟩:=h4 i x hx;have c0:wr.cell? ⟨b,o+i*2,none⟩=some (.string x.p):=hc 0 _ rfl;have c1:wr.cell? ⟨b,o+i*2+1,none⟩=some (.int .i64 x.u):=hc 1 _ rfl;clear hc h4 hx;obtain⟨p,u⟩:=x;dsimp only at c0 c1;by_cases hps:¬p=s;{
 have b3:¬p.toList=s.toList:=fun e=>hps (by rw[ByteArray.toList_eq,ByteArray.toList_eq]at e;exact ByteArray.ext (Array.toList_inj.1 e));have b4:(p.toList==s.toList)=false:=by rw[beq_eq_false_iff_ne];exact b3
 clear hps;have Hnews:Hid (∀(q:Nat) (x:Value),([.string p,.int .i64 u]:List Value)[q]?=some x->(wr.alloc (.cells #[.string p,.int .i64 u] 289)).cell? ((⟨wr.heap.size,0,none⟩:Addr).add q)=some x):=zY (fun q x hq=>by
  rw[Addr.add_lit,Nat.zero_add]
  exact(Blk.new wr 289 [.string p,.int .i64 u]).cell hq);have Hone:Hid (∀x∈([.string p,.int .i64 u]:List Value),x.oneCell'=true):=zY (by simp[Value.oneCell']);have HU:=zY (Ho.alloc (.cells #[.string p,.int .i64 u] 289));have HB6:=zY (HB.alloc HB.size (.cells #[.string p,.int .i64 u] 289));go_wp2_with (at_builtin;refine append_atV _ rfl _ _ 161 rfl w.heap.size 289 iS (.agg #[.string ⟨#[]⟩,.int .i64 0]) 2 24 underlying161 HiS.1 HiS.2.1 HiS.2.2.1 HiS.2.2.2 rfl (by omega) (.slice Av m.length cv) m.length _ rfl HU.out ⟨wr.heap.size,0,none⟩ 1 1 _ rfl rfl Hnews.out Hone.out (by unfold maxLen;omega) (by omega) HB6.size ?_;intro va wa hob hgb _;have KU:=zY hob;have KB:=zY (HB6.grown hgb HB6.size (ownV_ge HU.out));clear hob hgb);go_roundw;case rel=>exact⟨i+1,m++[⟨p,u⟩],q0,rfl,by omega,by go_num,by simp;omega,(fun x hx=>by
  rcases List.mem_append.1 hx with hx|hx
  ·exact Hall.out x hx
  ·rw[List.mem_singleton.1 hx];exact Hxm.out),⟨css++[[.string p,.int .i64 u]],by rw[List.flatten_append,List.length_append];exact KU.out,Hbt.app (.cons (show holS.R w [.string p,.int .i64 u] ⟨p,u⟩ from rfl) .nil)⟩,KB.out⟩
 case measure=>simp[intOf];omega};{
 obtain rfl:p=s:=by simpa using hps
 clear hps;go_wp2;go_roundw;case rel=>exact⟨i+1,m,u,rfl,by omega,by go_num,by omega,Hall.out,⟨css,Ho.out,Hbt.out⟩,HB.out⟩
 case measure=>simp[intOf];omega}};{
 have hiI:¬(i:Int)<l.length:=by omega
 go_wp2;go_ret2;exact⟨⟨_,m,q0,rfl,⟨css,Ho.out,Hbt.out⟩,by omega,Hall.out⟩,HB.out⟩}
theorem results_row_tmp {P:Program} {fn:Func} {p u:Tmp} {ty:TypeId} (h:fn.results= #[.cell p ty,.tmp u]) (tmps:Array Value) (w:World) (g:Nat) (t:TypeId) (cs:Array Value) (fr:Nat×Nat) (d:TypeDesc)
  (hp:tmps.getD p undef=.pointer (some ⟨g,0,none⟩)) (hg:w.heap[g]?=some (.cells cs t fr))
  (hu:P.underlying ty=some d) (hd:(match d with|.struct _|.array _ _=>true|_=>false)=true) (hi:(P.info? ty).map (·.size)=some cs.size):
  (results fn tmps).run P w=.ok (.tuple #[.agg cs,tmps.getD u undef]) w:=by
 have hp':tmps[p]?.getD undef=.pointer (some ⟨g,0,none⟩):=by simpa using hp
 rw[results_cell_tmp h];simp[hp',asAddr,Result.andThen,run_loadVar_row w g t ty cs fr d hg hu hd hi]
end
end Go.Proofs.YthgenkkkapilhaaGreatDoor