/-
  Joined: VoD VitA TakeA CrcAz VoP VoQ VoR ResT.
-/
import Derived.Test.YthgenkkkapilhaaGreatDoorVPn05
import Derived.Deep.RegionHeld3
set_option linter.all false
set_option maxRecDepth 100000
set_option maxHeartbeats 64000000
namespace Go.Proofs.YthgenkkkapilhaaGreatDoor
open Go.Proofs.Tryz
section
open Go.RowKit
def digD (u:Nat):List Nat:=if u<10 then [48+u] else digD (u/10)++digD (u%10)
termination_by u
decreasing_by all_goals omega
theorem digD_small {u:Nat} (h:u<10):digD u=[48+u]:=by rw[digD,if_pos h]
theorem digD_great {u:Nat} (h:¬u<10):digD u=digD (u/10)++digD (u%10):=by rw[digD,if_neg h]
theorem digD_len:∀(n u:Nat),u<10^(n+1)->(digD u).length<=n+1:=by
 intro n;induction n with
 |zero=>intro u h;rw[digD_small (by simpa using h)];simp
 |succ n ih=>
 intro u h;by_cases h1:u<10;{rw[digD_small h1];simp};{
 rw[digD_great h1,List.length_append,digD_small (u:=u%10) (by omega)];have:=ih (u/10) (by rw[Nat.pow_succ]at h;omega);simp;omega}
theorem digD_bytes:∀(u:Nat),∀b∈digD u,48<=b/\b<58:=by
 intro u;induction u using Nat.strongRecOn with
 |_ u ih=>
 intro b hb;by_cases h1:u<10;{
 rw[digD_small h1,List.mem_singleton]at hb;omega};{
 rw[digD_great h1]at hb;rcases List.mem_append.1 hb with hb|hb;{exact ih (u/10) (by omega) b hb};{exact ih (u%10) (by omega) b hb}}
theorem digD_len20 {u:Nat} (h:u<18446744073709551616):(digD u).length<=20:=digD_len 19 u (by omega)
def numL (n:Nat):List Nat:=digD n++[32]
def nstL (s:List Nat):List Nat:=digD s.length++[58]++s++[44]
theorem digits_any:∀(u:Nat),u<18446744073709551616->∀w:World,Calls prog 241 #[.int .u64 (u:Int)] w fun e w'=>e=.returned (.string (strB (digD u)))/\w=w':=by
 intro u;induction u using Nat.strongRecOn with
 |_ u ih=>
 intro hu w;by_cases h:u<10;{
 have hI:(u:Int)<10:=by omega
 have hx:(⟨#[48,49,50,51,52,53,54,55,56,57]⟩:ByteArray).extract u (u+1)=strB (digD u):=by{
 rw[digD_small h];have:u=0∨u=1∨u=2∨u=3∨u=4∨u=5∨u=6∨u=7∨u=8∨u=9:=by omega
 rcases this with rfl|rfl|rfl|rfl|rfl|rfl|rfl|rfl|rfl|rfl<;>rfl};have HX:=zY hx;clear hx ih;go_enter func241,ntmps241;go_wp2;go_ret;exact⟨by rw[<-HX.out];rfl,rfl⟩};{
 have hI:¬(u:Int)<10:=by omega
 obtain⟨q,hq⟩:=zNm (u/10);obtain⟨r,hr⟩:=zNm (u%10);have HD:=zY (digD_great h);rw[hq,hr]at HD;have H1:=zY (ih q (by omega) (by omega));have H2:=zY (ih r (by omega) (by omega));have hqI:Int.tdiv (u:Int) 10=q:=by rw[Int.tdiv_eq_ediv_of_nonneg (by omega)];omega
 have hrI:Int.tmod (u:Int) 10=r:=by rw[Int.tmod_eq_emod_of_nonneg (by omega)];omega
 have hqE:(u:Int)/10=q:=by omega
 have hrE:(u:Int)%10=r:=by omega
 have hs1:(strB (digD q)).size<=20:=by rw[strB_size];exact digD_len20 (by omega)
 have hs2:(strB (digD r)).size<=20:=by rw[strB_size];exact digD_len20 (by omega)
 have Hc:=zY (strB_cat (digD q) (digD r));clear ih hq hr;generalize strB (digD q)=Q at *;generalize strB (digD r)=T at *;have hcc:¬9223372036854775807<Q.size+T.size:=by omega
 go_enter func241,ntmps241;go_wp2_with fail;refine(H1.out _).mono ?_;rintro e1 w1 ⟨rfl,rfl⟩;go_wp2_with fail;refine(H2.out _).mono ?_;rintro e2 w2 ⟨rfl,rfl⟩;go_wp2_with fail;go_ret;exact⟨by rw[HD.out,<-Hc.out]<;>rfl,rfl⟩}
theorem dec_any (w:World) (n:Nat) (hn:n<9223372036854775808):Calls prog 163 #[.int .i64 (n:Int)] w fun e w'=>e=.returned (.string (strB (digD n)))/\w=w':=by
 have hI:¬(n:Int)<0:=by omega
 have hw:IntKind.u64.wrap (n:Int)=n:=IntWalk.u64_in _ (by omega);have H1:=zY (digits_any n (by omega));go_enter func163,ntmps163;go_wp2_with fail;refine(H1.out _).mono ?_;rintro e1 w1 ⟨rfl,rfl⟩;go_wp2_with fail;go_ret;exact⟨rfl,rfl⟩
theorem number_any (w:World) (n:Nat) (hn:n<9223372036854775808):Calls prog 160 #[.int .i64 (n:Int)] w fun e w'=>e=.returned (.string (strB (numL n)))/\w=w':=by
 have H1:=zY (fun W=>dec_any W n hn);have hs1:(strB (digD n)).size<=20:=by rw[strB_size];exact digD_len20 (by omega)
 have Hc:Hid (strB (digD n)++⟨#[32]⟩=strB (numL n)):=zY (strB_cat (digD n) [32]);generalize strB (digD n)=Q at *;have hcc:¬9223372036854775807<Q.size+1:=by omega
 go_enter func160,ntmps160;go_wp2_with fail;refine(H1.out _).mono ?_;rintro e1 w1 ⟨rfl,rfl⟩;go_wp2_with fail;go_ret;exact⟨by rw[<-Hc.out]<;>rfl,rfl⟩
theorem nstring_any (w:World) (s:ByteArray) (hs:s.size<=100000000):Calls prog 89 #[.string s] w fun e w'=>e=.returned (.string (strB (nstL (bs s))))/\w=w':=by
 have H1:=zY (fun W=>dec_any W s.size (by omega));have hs1:(strB (digD s.size)).size<=20:=by rw[strB_size];exact digD_len20 (by omega)
 have hc:strB (digD s.size)++⟨#[58]⟩++s++⟨#[44]⟩=strB (nstL (bs s)):=by have e1:=strB_cat (digD s.size) [58];have e2:=strB_cat (digD s.size++[58]) (bs s);have e3:=strB_cat (digD s.size++[58]++bs s) [44];rw[strB_bs]at e2;rw[<-e1]at e2;rw[<-e2]at e3;rw[nstL,bs_len];exact e3
 have Hc:=zY hc;clear hc;generalize strB (digD s.size)=Q at *;have hcc:¬9223372036854775807<Q.size+1:=by omega
 have hcd:¬9223372036854775807<Q.size+1+s.size:=by omega
 have hce:¬9223372036854775807<Q.size+1+s.size+1:=by omega
 go_enter func89,ntmps89;go_wp2_with fail;refine(H1.out _).mono ?_;rintro e1 w1 ⟨rfl,rfl⟩;go_wp2_with fail;go_ret;exact⟨by rw[<-Hc.out]<;>rfl,rfl⟩
theorem tk {P:Program} {ops:Array Oper} {Q:Exit->Act->World->Prop} {md:Region.Mode} {S:World->Prop} (i:Nat) {oi:Oper} {v:Value} {fuel:Nat} {listed ls:Array Bool} {a a':Act} {w:World}
  (h:wpAnyH P md ops Q S fuel ls a' w) (hi:ops[i]?=some oi:=by rfl) (hs:Region.noSelect ops=true:=by kernel_rfl) (hf:Region.free md ops listed i=true:=by kernel_rfl)
  (hr:(Region.ready md ops listed).contains i=true:=by kernel_rfl) (hQ:∀c a w,Q (.panic c) (a.put oi.dst v) w->Q (.panic c) a w:=by exact fun _ _ _ h=>h)
  (hw:Region.wanted oi (yielded ops a.tmps)=true:=by rfl) (hy:∀w,S w->(execOp a.eval oi).run P w=.ok (.value v) w:=by(intro W hSw;(try dsimp only at hSw);go_simp;try with_reducible rfl)) (hS:S w:=by assumption)
  (e1:listed.setIfInBounds i true=ls:=by(try simp only[List.setIfInBounds_toArray,List.set_cons_zero,List.set_cons_succ]);with_reducible rfl)
  (e2:a.put oi.dst v=a':=by(try simp only[Act.put,List.setIfInBounds_toArray,List.set_cons_zero,List.set_cons_succ,List.getElem_toArray,List.getElem_cons_zero,List.getElem_cons_succ]);with_reducible rfl):
  wpAnyH P md ops Q S (fuel+1) listed a w:=by
 subst e1 e2;exact wpAnyH_take hi hs hf hr hQ (Or.inl ⟨hw,hy⟩) hS h
theorem hko {P:Program} {ops:Array Oper} {Q:Exit->Act->World->Prop} {md:Region.Mode} {S:World->Prop} {i:Nat} {fuel:Nat} {listed ls:Array Bool} {K:Act->World->Prop} (hK:Shut (∀a w,S w->(S w->wpAnyH P md ops Q S fuel (listed.setIfInBounds i true) a w)->K a w)) {a a':Act} {w:World}
  (hS:S w) (h:S w->wpAnyH P md ops Q S fuel ls a' w)
  (e1:listed.setIfInBounds i true=ls:=by(try simp only[List.setIfInBounds_toArray,List.set_cons_zero,List.set_cons_succ]);with_reducible rfl)
  (e2:a=a':=by(try simp only[Act.put,List.setIfInBounds_toArray,List.set_cons_zero,List.set_cons_succ,List.getElem_toArray,List.getElem_cons_zero,List.getElem_cons_succ]);with_reducible rfl):K a w:=by
 subst e1 e2;exact hK.out _ _ hS h
theorem bs_outS (s b:Nat):bs (outS s b)=[co1 s b,co2 s b]:=bs_strB (out_bytes s b)
structure Turned (A B:World) (g:Nat):Prop where
 os:B.os=A.os
 tape:B.tape=A.tape
 output:B.output=A.output
 size:B.heap.size=A.heap.size
 other:∀k,k≠g->B.heap[k]?=A.heap[k]?
theorem Turned.below {A B w:World} {g H:Nat} (h:Turned A B g) (hb:Below H w A) (hg:H<=g):Below H w B:=
 ⟨h.os.trans hb.os,h.tape.trans hb.tape,h.output.trans hb.output,by rw[h.size];exact hb.size,fun k hk=>(h.other k (by omega)).trans (hb.block k hk)⟩
theorem turned_set1 (W:World) (g j:Nat) (y:Value):Turned W (W.setCell ⟨g,j,none⟩ y) g:=
 ⟨rfl,rfl,rfl,by simp,fun k hk=>Below.heap_setCell _ ⟨g,j,none⟩ _ _ hk⟩
end
section
open Go.RowKit
section
variable {P:Program} {ops:Array Oper} {Q:Exit->Act->World->Prop} {md:Region.Mode} {S:World->Prop}
def GivesIf (P:Program) (ops:Array Oper) (S:World->Prop) (o:Oper) (v:Value) (a:Act):Prop:=
 Region.wanted o (yielded ops a.tmps)=true/\∀w,S w->∃f args,(execOp a.eval o).run P w=.ok (.enter f args) w/\Calls P f args w fun e w'=>e=.returned v/\w=w'
theorem GivesIf.here {i:Nat} {o:Oper} {v:Value} {a:Act} (hi:ops[i]?=some o) (hg:GivesIf P ops S o v a) {K:Act->World->Prop} {w:World} (hS:S w) (h:K (a.put o.dst v) w):wpOp P ops Q i K a w:=by
 obtain⟨hw,hv⟩:=hg;obtain⟨f,args,hr,hc⟩:=hv w hS;unfold wpOp;rw[hi];show if _ then _ else _;rw[if_pos hw];refine .inl ?_;unfold Oper.wp;rw[hr,Oper.upon_enter];refine hc.mono ?_;rintro e w' ⟨rfl,rfl⟩;exact h
theorem wpOp_shape {j:Nat} {oj:Oper} (hj:ops[j]?=some oj) {Y:Act->Prop} (hput:∀b,Y b->∀u,Y (b.put oj.dst u)) (hdef:∀b d,Y b->Y { b with defers:=d::b.defers })
  {K:Act->World->Prop} {a:Act} {w:World} (hy:Y a) (h:wpOp P ops Q j K a w):wpOp P ops Q j (fun a' w'=>Y a'/\K a' w') a w:=by
 unfold wpOp at *;rw[hj]at *;dsimp only at *;split;{
 next hw=>
 rw[if_pos hw]at h;rcases h with h|h;{
 left;unfold Oper.wp at *;cases hr:(execOp a.eval oj).run P w with
 |ok n w'=>(
 rw[hr]at h;cases n<;>simp only[Oper.upon]at h⊢;all_goals first
  |exact⟨hput _ hy _,h⟩
  |exact⟨hput _ (hdef _ _ hy) _,h⟩
  |exact Calls.mono h fun e w'' he=>by cases e<;>first|exact⟨hput _ hy _,he⟩|exact he
  |exact Rows.mono h fun u w'' he=>⟨hput _ hy _,he⟩)
 |halt x w'=>
 rw[hr]at h;cases x<;>simp only[Oper.upon]at h⊢;exact h};{exact .inr h}};{
 next hw=>
 rw[if_neg hw]at h;exact⟨hput _ hy _,h⟩}
theorem call_first {i:Nat} {oi:Oper} {v:Value} (hi:ops[i]?=some oi) (hsel:∀(j:Nat) (o:Oper) cs b,ops[j]?=some o->o.op≠.select cs b)
  (hQ:∀c a w,Q (.panic c) (a.put oi.dst v) w->Q (.panic c) a w) (fuel:Nat):∀(listed:Array Bool) (a:Act) (w:World),
   (∀j oj,ops[j]?=some oj->j≠i->listed.getD j true=false->(∀e∈oj.after,Region.binds md e=true->e.on≠i)->oi.apart ops oj=true) ->
   i∈Region.ready md ops listed->GivesIf P ops S oi v a->S w ->
   wpAnyH P md ops Q S fuel (listed.setIfInBounds i true) (a.put oi.dst v) w->wpAnyH P md ops Q S (fuel+1) listed a w:=by
 have key:∀(listed:Array Bool) (j:Nat) (oj:Oper),ops[j]?=some oj->i∈Region.ready md ops listed->j∈Region.ready md ops listed->∀e∈oj.after,Region.binds md e=true->e.on≠i:=by{
 intro listed j oj hj hir hjr e he hb heq;have h0:=(mem_ready.1 hir).1;obtain⟨_,o,ho,hall⟩:=mem_ready.1 hjr;rw[hj]at ho;cases ho;have h1:=hall e he hb;rw[heq]at h1;by_cases hlt:i<listed.size;{
 simp[hlt]at h0 h1;rw[h0]at h1;cases h1};{simp[hlt]at h0}};induction fuel with
 |zero=>(
 intro listed a w _ hir hg hS H;refine⟨fun e=>(by rw[e]at hir;cases hir),fun j hjr=>?_⟩;by_cases hji:j=i;{
 subst hji;exact hg.here hi hS ⟨hS,H⟩};{
 have:=ready_mono hjr hji;rw[H.1]at this;cases this})
 |succ fuel ih=>
 intro listed a w hfree hir hg hS H;refine⟨fun e=>(by rw[e]at hir;cases hir),fun j hjr=>?_⟩;by_cases hji:j=i;{
 subst hji;exact hg.here hi hS ⟨hS,H⟩};obtain⟨hun,oj,hj,_⟩:=mem_ready.1 hjr;have hap:=hfree j oj hj hji hun (key listed j oj hj hir hjr);obtain⟨_,_,hq3⟩:=Oper.apart_spec hap;have hyF:YieldsIf P ops (fun _=>False) oi v a:=.inl ⟨hg.1,fun _ hf=>hf.elim⟩;have h2:=wpOp_putIf hj hap (fun cs b=>hsel i oi cs b hi) (fun cs b=>hsel j oj cs b hj) hQ hyF (H.2 j (ready_mono hjr hji));have h3:=wpOp_shape hj (Y:=GivesIf P ops S oi v) (fun b hb u=>by
  unfold GivesIf at *
  rw[execOp_put oi (fun cs b=>hsel i oi cs b hi) b oj.dst u hq3,wanted_put oi b oj.dst u hq3]
  exact hb) (fun b d hb=>hb) hg h2;refine wpOp_mono (fun a' w' h4=>⟨h4.2.2.1,ih (listed.setIfInBounds j true) a' w' (fun k ok hk hki hku hkw=>?_) (ready_mono hir (Ne.symm hji)) h4.1 h4.2.2.1 ?_⟩) h3;{
 refine hfree k ok hk hki ?_ hkw;by_cases hjk:j=k;{
 subst hjk;exact hun};{rwa [getD_set_ne true hjk]at hku}};{
 rw[Array.setIfInBounds_comm _ _ hji];exact h4.2.2.2}
theorem take_call {i:Nat} {oi:Oper} {v:Value} {fuel:Nat} {listed:Array Bool} {a:Act} {w:World} (hi:ops[i]?=some oi)
  (hs:Region.noSelect ops=true) (hf:Region.free md ops listed i=true) (hr:(Region.ready md ops listed).contains i=true)
  (hQ:∀c a w,Q (.panic c) (a.put oi.dst v) w->Q (.panic c) a w) (hg:GivesIf P ops S oi v a) (hS:S w)
  (h:wpAnyH P md ops Q S fuel (listed.setIfInBounds i true) (a.put oi.dst v) w):wpAnyH P md ops Q S (fuel+1) listed a w:=
 call_first hi (Region.noSelect_spec hs) hQ fuel listed a w (Region.free_spec hi hf) (by simpa using hr) hg hS h
end
end
section
open Go.RowKit
theorem mark_any (w:World):Calls prog 172 #[] w fun e w'=>e=.returned (.string markS)/\w=w':=by
 go_enter func172,ntmps172;go_wp2;go_ret;exact⟨rfl,rfl⟩
def strSize:Value->Nat
 |.string s=>s.size
 |_=>0
theorem strs_read {W w0:World} {B:Nat} {v:Value} {l:List ByteArray} (h:W.ownsRow B 9 1 v l.length (l.map .string)) (_:Below w0.heap.size w0 W):SeqAt strS W v l:=by
 rcases h.2 with⟨rfl,h0⟩|⟨g,cap,cur,rfl,_,_,h1,h2,_⟩;{
 obtain rfl:=List.length_eq_zero_iff.1 h0;exact SeqAt.nil _};{
 refine⟨_,_,rfl,h1,by unfold maxLen at h2;omega,fun i x hx=>⟨g,0,[.string x],rfl,rfl,fun j u hu=>?_⟩⟩;have hi:i<l.length:=(List.getElem?_eq_some_iff.1 hx).1;have hj:j=0:=by have:=(List.getElem?_eq_some_iff.1 hu).1;simp at this;omega
 subst hj;obtain rfl:Value.string x=u:=by simpa using hu
 have e:(0:Nat)+i*strS.n+0=i:=by show 0+i*1+0=i;omega
 rw[e,h.cellAt i (by omega),List.getElem?_map,hx];rfl}
theorem SeqAt.take {α:Type} {ρ:Shape α} {W:World} {A:Option Addr} {n c m:Nat} {xs:List α} (h:SeqAt ρ W (.slice A n c) xs) (hm:m<=xs.length):SeqAt ρ W (.slice A m c) (xs.take m):=by
 obtain⟨A',c',e,h1,h2,h3⟩:=h;cases e;have hl:(xs.take m).length=m:=by rw[List.length_take];omega
 refine⟨_,_,by rw[hl],by rw[hl];omega,h2,fun i x hx=>h3 i x ?_⟩;rw[List.getElem?_take]at hx;split at hx;{exact hx};{
 cases hx}
theorem split31_any (w:World) (s:ByteArray) (hs:s.size<=1000000):Calls prog 295 #[.string s] w fun e w'=>(∃v,e=.returned (.tuple #[v,.int .i64 (pathE (bs s))])/\(pathE (bs s)=0->w'.ownsRow w.heap.size 9 1 v (elemsL (bs s)).length (strsV (elemsL (bs s)))))/\Below w.heap.size w w':=by
 have HC:=zY (fun W=>path_any W s hs);have HE:=zY (fun W=>elems_any W s hs);obtain⟨P,hP⟩:=zNm (pathE (bs s));rw[hP]at HC⊢;clear hP;go_enter func295,ntmps295;go_wp2_with fail;refine(HC.out _).mono ?_;rintro e1 w1 ⟨rfl,hb1⟩;have HB1:=zY hb1;clear hb1;by_cases h0:P=0;{
 subst h0;go_wp2_with fail;refine(HE.out _).mono ?_;rintro e2 w2 ⟨v,rfl,ho,hb2⟩;have HO:=zY ho;have HB2:=zYt HB1 hb2;have hs1:=HB1.size;clear ho hb2;go_wp2_with fail;go_ret2;have hr:w2.ownsRow w.heap.size 9 1 v (elemsL (bs s)).length (strsV (elemsL (bs s))):=⟨HO.1,HO.2.imp id fun⟨g,cap,cur,e,hB,r⟩=>⟨g,cap,cur,e,by omega,r⟩⟩;first|exact⟨⟨v,rfl,hr⟩,HB2.out⟩|exact⟨⟨v,rfl,fun _=>hr⟩,HB2.out⟩};{
 have hne:(P != 0)=true:=by rw[bne_iff_ne];exact h0
 go_wp2_with fail;go_ret2;exact⟨⟨.slice none 0 0,rfl,fun h=>absurd h h0⟩,HB1.out⟩}
def RetSE (p:ByteArray->Int->Prop) (e:Ending):Prop:=∃s n,e=.returned (.tuple #[.string s,.int .i64 n])/\p s n
theorem parent31_any (w:World) (s:ByteArray) (hs:s.size<=1000000):Calls prog 227 #[.string s] w fun e w'=>RetSE (fun u _=>u.size<=10000) e/\Below w.heap.size w w':=by
 have HS:=zY (fun W=>split31_any W s hs);have HL:Hid (pathE (bs s)=0->(elemsL (bs s)).length<=8/\∀x∈elemsL (bs s),x.length<=200):=zY (fun h=>by
  rw[pathE]at h
  split at h
  ·cases h
  ·split at h
   ·cases h
   ·refine⟨by omega,fun x hx=>?_⟩
    have:=(elemsL_size (s:=bs s)).1 x hx
    omega);generalize elemsL (bs s)=L at *;generalize pathE (bs s)=P at *;go_enter func227,ntmps227;go_wp2_with fail;refine(HS.out _).mono ?_;rintro e1 w1 ⟨⟨v,rfl,ho⟩,hb1⟩;have HO:=zY ho;have HB1:=zY hb1;clear ho hb1;by_cases h0:P=0;{
 subst h0;have ho:=HO.out rfl;obtain⟨hl8,hlz⟩:=HL.out rfl;have HV:Hid (SeqAt strS w1 v (L.map strB)):=zY (strs_read (l:=L.map strB) (by rw[List.length_map,List.map_map];exact ho) HB1.out);obtain⟨Av,cv,rfl⟩:=ownV_slice ho;clear HO HL;by_cases hn:L.length=0;{
 have f1:((L.length:Int)==0)=true:=by rw[hn];rfl
 clear hn;go_wp2_with fail;go_ret2;exact⟨⟨⟨#[]⟩,1,rfl,Nat.zero_le _⟩,HB1.out⟩};{
 have f1:((L.length:Int)==0)=false:=by rw[beq_eq_false_iff_ne];omega
 obtain⟨m,hm⟩:∃m,L.length=m+1:=⟨L.length-1,by omega⟩;have hmI:(L.length:Int)-1=m:=by omega
 have hmB:(m:Int)<=L.length:=by omega
 obtain⟨g,cap,e9,_⟩:=ownV_at ho (by omega);cases e9;obtain⟨_,_,e8,hcap,hcap2⟩:=HV.slice;rw[List.length_map]at e8 hcap;cases e8;have hmC:(m:Int)<=cv:=by omega
 have hq:=path31_any w1 (.slice (some ⟨g,0,none⟩) m cv) ((L.map strB).take m) (HV.take (by rw[List.length_map];omega)) (by rw[List.length_take,List.length_map];omega) (fun x hx=>by
  obtain⟨p,hp,rfl⟩:=List.mem_map.1 (List.mem_of_mem_take hx)
  rw[strB_size]
  have:=hlz p hp
  omega);have HP:=zY hq;have hmz:((L.map strB).take m).length<=8:=by rw[List.length_take,List.length_map];omega
 generalize (L.map strB).take m=Q at *;clear hq hm hn HV;go_wp2_with fail;refine HP.mono ?_;rintro e2 w2 ⟨⟨u,rfl,hu⟩,rfl⟩;go_wp2_with fail;go_ret2;exact⟨⟨u,0,rfl,by omega⟩,HB1.out⟩}};{
 have hne:(P != 0)=true:=by rw[bne_iff_ne];exact h0
 go_wp2_with fail;go_ret2;exact⟨⟨⟨#[]⟩,P,rfl,Nat.zero_le _⟩,HB1.out⟩}
def RetB (e:Ending):Prop:=∃b,e=.returned (.bool b)
def RetI (e:Ending):Prop:=∃n:Int,e=.returned (.int .i64 n)
theorem RetB.of (b:Bool):RetB (.returned (.bool b)):=⟨b,rfl⟩
theorem RetI.of (n:Int):RetI (.returned (.int .i64 n)):=⟨n,rfl⟩
theorem under_any (w:World) (s d:ByteArray) (hs:s.size<=1000000) (hd:d.size<=1000000):Calls prog 226 #[.string s,.string d] w fun e w'=>RetB e/\Below w.heap.size w w':=by
 have HCs:=zY (fun W=>path_any W s hs);have HCd:=zY (fun W=>path_any W d hd);have HEs:=zY (fun W=>elems_any W s hs);have HEd:=zY (fun W=>elems_any W d hd);have hl1:=(elemsL_size (s:=bs s)).2;have hl2:=(elemsL_size (s:=bs d)).2;rw[bs_len]at hl1 hl2;generalize pathE (bs s)=P at *;generalize pathE (bs d)=Q at *;generalize elemsL (bs s)=L at *;generalize elemsL (bs d)=M at *;go_enter func226,ntmps226;go_wp2_with fail;refine(HCs.out _).mono ?_;rintro e1 w1 ⟨rfl,hb1⟩;have HB1:=zY hb1;clear hb1;by_cases h0:P=0;{
 subst h0;go_wp2_with fail;refine(HCd.out _).mono ?_;rintro e2 w2 ⟨rfl,hb2⟩;have HB2:=zYt HB1 hb2;clear hb2 HB1;by_cases h1:Q=0;{
 subst h1;go_wp2_with fail;refine(HEs.out _).mono ?_;rintro e3 w3 ⟨v3,rfl,ho3,hb3⟩;have HO3:=zY ho3;have HB3:=zYt HB2 hb3;clear ho3 hb3 HB2;go_wp2_with fail;refine(HEd.out _).mono ?_;rintro e4 w2 ⟨v4,rfl,ho4,hb4⟩;have HL:=zY (ownV_below HO3.out hb4);have HM:=zY ho4;have HB4:=zYt HB3 hb4;clear ho4 hb4 HB3 HO3;obtain⟨A1,k1,rfl⟩:=ownV_slice HL.out;obtain⟨A2,k2,rfl⟩:=ownV_slice HM.out;by_cases hlt:L.length<M.length;{
 have f1:(L.length:Int)<M.length:=by omega
 go_wp2;go_ret;exact⟨RetB.of false,HB4.out⟩};{
 have f1:¬(L.length:Int)<M.length:=by omega
 go_wp2;go_loopw [7] (fun x wr=>∃i:Nat,i<=M.length/\x=.int .i64 (i:Int)/\Below w2.heap.size w2 wr) (fun x _=>M.length-(intOf x).toNat);case atStart=>exact⟨0,by omega,rfl,Below.refl _ _⟩
 case round=>
 obtain⟨i,hi,rfl,hB⟩:=hrel;have HB:=zY hB;clear hB;by_cases h:i<M.length;{
 have hiI:(i:Int)<M.length:=by omega
 have hiL:(i:Int)<L.length:=by omega
 have hMi:i<M.length:=h;have hLi:i<L.length:=by omega
 obtain⟨p,hp⟩:∃p,L[i]?=some p:=⟨_,List.getElem?_eq_getElem hLi⟩;obtain⟨q,hq⟩:∃q,M[i]?=some q:=⟨_,List.getElem?_eq_getElem hMi⟩;obtain⟨g1,k1,e8,_⟩:=ownV_at HL.out (by omega);obtain⟨g2,k2,e9,_⟩:=ownV_at HM.out (by omega);cases e8;cases e9;have c1:w2.cell? ⟨g1,i,none⟩=some (.string (strB p)):=by rw[HL.cellAt i (by omega),strsV,List.getElem?_map,hp];rfl
 have c2:w2.cell? ⟨g2,i,none⟩=some (.string (strB q)):=by rw[HM.cellAt i (by omega),strsV,List.getElem?_map,hq];rfl
 have c1:=cell_below HB.out c1;have c2:=cell_below HB.out c2;clear hp hq hLi hMi;generalize strB p=X at *;generalize strB q=Y at *;by_cases hxy:X=Y;{
 subst hxy;have b1:(X != X)=false:=bneV_false rfl;have b2:(X==X)=true:=beqV_true rfl;go_upto_region 9 with fail;go_quiet (fail);go_wp2;go_roundw;case rel=>exact⟨i+1,by omega,by go_num,zBd HB.out _⟩
 case measure=>simp[intOf];omega};{
 have b1:(X != Y)=true:=bneV_true hxy;have b2:(X==Y)=false:=beqV_false hxy;have b3:¬X.toList=Y.toList:=fun e=>hxy (by rw[ByteArray.toList_eq,ByteArray.toList_eq]at e;exact ByteArray.ext (Array.toList_inj.1 e));have b4:(X.toList==Y.toList)=false:=by rw[beq_eq_false_iff_ne];exact b3
 clear hxy;go_upto_region 9 with fail;go_quiet (fail);go_wp2;go_ret;exact⟨RetB.of false,HB4.trans ((zBd HB.out _).mono HB4.size)⟩}};{
 have hiI:¬(i:Int)<M.length:=by omega
 go_wp2;go_ret;exact⟨RetB.of true,HB4.trans (HB.mono HB4.size)⟩}}};{
 have hne:(Q != 0)=true:=by rw[bne_iff_ne];exact h1
 go_wp2_with fail;go_ret;exact⟨RetB.of false,HB2.out⟩}};{
 have hne:(P != 0)=true:=by rw[bne_iff_ne];exact h0
 go_wp2_with fail;first|(refine⟨trivial,?_⟩;go_wp2_with fail)|skip
 go_ret;exact⟨RetB.of false,HB1.out⟩}
theorem compare31_any (w:World) (s d:ByteArray) (hs:s.size<=1000000) (hd:d.size<=1000000):Calls prog 229 #[.string s,.string d] w fun e w'=>RetI e/\Below w.heap.size w w':=by
 have HEs:=zY (fun W=>elems_any W s hs);have HEd:=zY (fun W=>elems_any W d hd);have hl1:=(elemsL_size (s:=bs s)).2;have hl2:=(elemsL_size (s:=bs d)).2;rw[bs_len]at hl1 hl2;generalize elemsL (bs s)=L at *;generalize elemsL (bs d)=M at *;go_enter func229,ntmps229;go_wp2_with fail;refine(HEs.out _).mono ?_;rintro e3 w3 ⟨v3,rfl,ho3,hb3⟩;have HO3:=zY ho3;have HB3:=zY hb3;clear ho3 hb3;go_wp2_with fail;refine(HEd.out _).mono ?_;rintro e4 w2 ⟨v4,rfl,ho4,hb4⟩;have HL:=zY (ownV_below HO3.out hb4);have HM:=zY ho4;have HB4:=zYt HB3 hb4;clear ho4 hb4 HB3 HO3;obtain⟨A1,k1,rfl⟩:=ownV_slice HL.out;obtain⟨A2,k2,rfl⟩:=ownV_slice HM.out;go_wp2;go_loopw [7] (fun x wr=>∃i:Nat,i<=L.length/\i<=M.length/\x=.int .i64 (i:Int)/\Below w2.heap.size w2 wr) (fun x _=>M.length-(intOf x).toNat);case atStart=>exact⟨0,by omega,by omega,rfl,Below.refl _ _⟩
 case round=>
 obtain⟨i,hiL1,hi,rfl,hB⟩:=hrel;have HB:=zY hB;clear hB;by_cases h:i<L.length/\i<M.length;{
 have hiI:(i:Int)<M.length:=by omega
 have hiL:(i:Int)<L.length:=by omega
 have hMi:i<M.length:=h.2;have hLi:i<L.length:=h.1;clear h;obtain⟨p,hp⟩:∃p,L[i]?=some p:=⟨_,List.getElem?_eq_getElem hLi⟩;obtain⟨q,hq⟩:∃q,M[i]?=some q:=⟨_,List.getElem?_eq_getElem hMi⟩;obtain⟨g1,k1,e8,_⟩:=ownV_at HL.out (by omega);obtain⟨g2,k2,e9,_⟩:=ownV_at HM.out (by omega);cases e8;cases e9;have c1:w2.cell? ⟨g1,i,none⟩=some (.string (strB p)):=by rw[HL.cellAt i (by omega),strsV,List.getElem?_map,hp];rfl
 have c2:w2.cell? ⟨g2,i,none⟩=some (.string (strB q)):=by rw[HM.cellAt i (by omega),strsV,List.getElem?_map,hq];rfl
 have c1:=cell_below HB.out c1;have c2:=cell_below HB.out c2;clear hp hq hLi hMi;generalize strB p=X at *;generalize strB q=Y at *;cases hB1:Op.bytesLess X.toList Y.toList with
 |true=>go_upto_region 5 with fail;go_quiet (fail);go_wp2;go_ret;exact⟨RetI.of (-1),HB4.trans ((zBd HB.out _).mono HB4.size)⟩
 |false=>
 by_cases hxy:X=Y;{
 subst hxy;go_upto_region 5 with fail;go_quiet (fail);go_upto_region 7 with fail;go_quiet (fail);go_wp2;go_roundw;case rel=>exact⟨i+1,by omega,by omega,by go_num,by first|exact zBd HB.out _|exact zBd (zBd HB.out _) _⟩
 case measure=>simp[intOf];omega};{
 have b3:¬X.toList=Y.toList:=fun e=>hxy (by rw[ByteArray.toList_eq,ByteArray.toList_eq]at e;exact ByteArray.ext (Array.toList_inj.1 e));have b4:(X.toList==Y.toList)=false:=by rw[beq_eq_false_iff_ne];exact b3
 clear hxy;go_upto_region 5 with fail;go_quiet (fail);go_upto_region 7 with fail;go_quiet (fail);go_wp2;go_ret;exact⟨RetI.of 1,HB4.trans (Below.mono (by first|exact zBd HB.out _|exact zBd (zBd HB.out _) _) HB4.size)⟩}};{
 have hz:¬(i:Int)<L.length∨((i:Int)<L.length/\¬(i:Int)<M.length):=by omega
 clear h;rcases hz with f1|⟨f1,f2⟩;all_goals
 by_cases g1:L.length<M.length;{
 have g2:(L.length:Int)<M.length:=by omega
 go_wp2;go_ret;exact⟨RetI.of (-1),HB4.trans (HB.mono HB4.size)⟩};{
 have g2:¬(L.length:Int)<M.length:=by omega
 by_cases g3:M.length<L.length;{
 have g4:(M.length:Int)<L.length:=by omega
 go_wp2;go_ret;exact⟨RetI.of 1,HB4.trans (HB.mono HB4.size)⟩};{
 have g4:¬(M.length:Int)<L.length:=by omega
 go_wp2;go_ret;exact⟨RetI.of 0,HB4.trans (HB.mono HB4.size)⟩}}}
theorem results_row_tmp {P:Program} {fn:Func} {p u:Tmp} {ty:TypeId} (h:fn.results= #[.cell p ty,.tmp u]) (tmps:Array Value) (w:World) (g:Nat) (t:TypeId) (cs:Array Value) (fr:Nat×Nat) (d:TypeDesc)
  (hp:tmps.getD p undef=.pointer (some ⟨g,0,none⟩)) (hg:w.heap[g]?=some (.cells cs t fr))
  (hu:P.underlying ty=some d) (hd:(match d with|.struct _|.array _ _=>true|_=>false)=true) (hi:(P.info? ty).map (·.size)=some cs.size):
  (results fn tmps).run P w=.ok (.tuple #[.agg cs,tmps.getD u undef]) w:=by
 have hp':tmps[p]?.getD undef=.pointer (some ⟨g,0,none⟩):=by simpa using hp
 rw[results_cell_tmp h];simp[hp',asAddr,Result.andThen,run_loadVar_row w g t ty cs fr d hg hu hd hi]
end
end Go.Proofs.YthgenkkkapilhaaGreatDoor