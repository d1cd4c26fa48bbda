/-
  Joined: TakeA CrcAz VoR VoU VoV ErA.
-/
import Derived.Test.YthgenkkkapilhaaGreatDoorVCn05
set_option linter.all false
set_option maxRecDepth 100000
set_option maxHeartbeats 64000000
namespace Go.Proofs.YthgenkkkapilhaaGreatDoor
section
open Go.RowKit
section
variable {P:Program} {ops:Array Oper} {Q:Exit->Act->World->Prop} {md:Region.Mode} {S:World->Prop}
def GivesIf (P:Program) (ops:Array Oper) (S:World->Prop) (o:Oper) (v:Value) (a:Act):Prop:=
 Region.wanted o (yielded ops a.tmps)=true/\∀w,S w->∃f args,(execOp a.eval o).run P w=.ok (.enter f args) w/\Calls P f args w fun e w'=>e=.returned v/\w=w'
theorem GivesIf.here {i:Nat} {o:Oper} {v:Value} {a:Act} (hi:ops[i]?=some o) (hg:GivesIf P ops S o v a) {K:Act->World->Prop} {w:World} (hS:S w) (h:K (a.put o.dst v) w):wpOp P ops Q i K a w:=by
 obtain⟨hw,hv⟩:=hg
 obtain⟨f,args,hr,hc⟩:=hv w hS
 unfold wpOp
 rw[hi]
 show if _ then _ else _
 rw[if_pos hw]
 refine .inl ?_
 unfold Oper.wp
 rw[hr,Oper.upon_enter]
 refine hc.mono ?_
 rintro e w' ⟨rfl,rfl⟩
 exact h
theorem wpOp_shape {j:Nat} {oj:Oper} (hj:ops[j]?=some oj) {Y:Act->Prop} (hput:∀b,Y b->∀u,Y (b.put oj.dst u)) (hdef:∀b d,Y b->Y { b with defers:=d::b.defers })
  {K:Act->World->Prop} {a:Act} {w:World} (hy:Y a) (h:wpOp P ops Q j K a w):wpOp P ops Q j (fun a' w'=>Y a'/\K a' w') a w:=by
 unfold wpOp at *
 rw[hj]at *
 dsimp only at *
 split
 {
 next hw=>
 rw[if_pos hw]at h
 rcases h with h|h
 {
 left
 unfold Oper.wp at *
 cases hr:(execOp a.eval oj).run P w with
 |ok n w'=>
  rw[hr]at h
  cases n<;>simp only[Oper.upon]at h⊢
  all_goals first
   |exact⟨hput _ hy _,h⟩
   |exact⟨hput _ (hdef _ _ hy) _,h⟩
   |exact Calls.mono h fun e w'' he=>by cases e<;>first|exact⟨hput _ hy _,he⟩|exact he
   |exact Rows.mono h fun u w'' he=>⟨hput _ hy _,he⟩
 |halt x w'=>
  rw[hr]at h
  cases x<;>simp only[Oper.upon]at h⊢
  exact h}
 ·exact .inr h}
 {
 next hw=>
 rw[if_neg hw]at h
 exact⟨hput _ hy _,h⟩}
theorem call_first {i:Nat} {oi:Oper} {v:Value} (hi:ops[i]?=some oi) (hsel:∀(j:Nat) (o:Oper) cs b,ops[j]?=some o->o.op≠.select cs b)
  (hQ:∀c a w,Q (.panic c) (a.put oi.dst v) w->Q (.panic c) a w) (fuel:Nat):∀(listed:Array Bool) (a:Act) (w:World),
   (∀j oj,ops[j]?=some oj->j≠i->listed.getD j true=false->(∀e∈oj.after,Region.binds md e=true->e.on≠i)->oi.apart ops oj=true) ->
   i∈Region.ready md ops listed->GivesIf P ops S oi v a->S w ->
   wpAnyH P md ops Q S fuel (listed.setIfInBounds i true) (a.put oi.dst v) w->wpAnyH P md ops Q S (fuel+1) listed a w:=by
 have key:∀(listed:Array Bool) (j:Nat) (oj:Oper),ops[j]?=some oj->i∈Region.ready md ops listed->j∈Region.ready md ops listed->∀e∈oj.after,Region.binds md e=true->e.on≠i:=by
  intro listed j oj hj hir hjr e he hb heq
  have h0:=(mem_ready.1 hir).1
  obtain⟨_,o,ho,hall⟩:=mem_ready.1 hjr
  rw[hj]at ho
  cases ho
  have h1:=hall e he hb
  rw[heq]at h1
  by_cases hlt:i<listed.size
  {
  simp[hlt]at h0 h1
  rw[h0]at h1
  cases h1}
  ·simp[hlt]at h0
 induction fuel with
 |zero=>
  intro listed a w _ hir hg hS H
  refine⟨fun e=>(by rw[e]at hir;cases hir),fun j hjr=>?_⟩
  by_cases hji:j=i
  {
  subst hji
  exact hg.here hi hS ⟨hS,H⟩}
  {
  have:=ready_mono hjr hji
  rw[H.1]at this
  cases this}
 |succ fuel ih=>
  intro listed a w hfree hir hg hS H
  refine⟨fun e=>(by rw[e]at hir;cases hir),fun j hjr=>?_⟩
  by_cases hji:j=i
  {
  subst hji
  exact hg.here hi hS ⟨hS,H⟩}
  obtain⟨hun,oj,hj,_⟩:=mem_ready.1 hjr
  have hap:=hfree j oj hj hji hun (key listed j oj hj hir hjr)
  obtain⟨_,_,hq3⟩:=Oper.apart_spec hap
  have hyF:YieldsIf P ops (fun _=>False) oi v a:=.inl ⟨hg.1,fun _ hf=>hf.elim⟩
  have h2:=wpOp_putIf hj hap (fun cs b=>hsel i oi cs b hi) (fun cs b=>hsel j oj cs b hj) hQ hyF (H.2 j (ready_mono hjr hji))
  have h3:=wpOp_shape hj (Y:=GivesIf P ops S oi v) (fun b hb u=>by
   unfold GivesIf at *
   rw[execOp_put oi (fun cs b=>hsel i oi cs b hi) b oj.dst u hq3,wanted_put oi b oj.dst u hq3]
   exact hb) (fun b d hb=>hb) hg h2
  refine wpOp_mono (fun a' w' h4=>⟨h4.2.2.1,ih (listed.setIfInBounds j true) a' w' (fun k ok hk hki hku hkw=>?_) (ready_mono hir (Ne.symm hji)) h4.1 h4.2.2.1 ?_⟩) h3
  {
  refine hfree k ok hk hki ?_ hkw
  by_cases hjk:j=k
  {
  subst hjk
  exact hun}
  ·rwa [getD_set_ne true hjk]at hku}
  {
  rw[Array.setIfInBounds_comm _ _ hji]
  exact h4.2.2.2}
theorem take_call {i:Nat} {oi:Oper} {v:Value} {fuel:Nat} {listed:Array Bool} {a:Act} {w:World} (hi:ops[i]?=some oi)
  (hs:Region.noSelect ops=true) (hf:Region.free md ops listed i=true) (hr:(Region.ready md ops listed).contains i=true)
  (hQ:∀c a w,Q (.panic c) (a.put oi.dst v) w->Q (.panic c) a w) (hg:GivesIf P ops S oi v a) (hS:S w)
  (h:wpAnyH P md ops Q S fuel (listed.setIfInBounds i true) (a.put oi.dst v) w):wpAnyH P md ops Q S (fuel+1) listed a w:=
 call_first hi (Region.noSelect_spec hs) hQ fuel listed a w (Region.free_spec hi hf) (by simpa using hr) hg hS h
end
end
section
open Go.RowKit
theorem mark_any (w:World):Calls Tryz.prog 172 #[] w fun e w'=>e=.returned (.string markS)/\w=w':=by
 go_enter Tryz.func172,Tryz.ntmps172
 go_wp2
 go_ret
 exact⟨rfl,rfl⟩
theorem compare31_any (w:World) (s d:ByteArray) (hs:s.size<=1000000) (hd:d.size<=1000000):Calls Tryz.prog 229 #[.string s,.string d] w fun e w'=>RetI e/\Below w.heap.size w w':=by
 have HEs:=zY (fun W=>elems_any W s hs)
 have HEd:=zY (fun W=>elems_any W d hd)
 have hl1:=(elemsL_size (s:=bs s)).2
 have hl2:=(elemsL_size (s:=bs d)).2
 rw[bs_len]at hl1 hl2
 generalize elemsL (bs s)=L at *
 generalize elemsL (bs d)=M at *
 go_enter Tryz.func229,Tryz.ntmps229
 go_wp2_with fail
 refine(HEs.out _).mono ?_
 rintro e3 w3 ⟨v3,rfl,ho3,hb3⟩
 have HO3:=zY ho3
 have HB3:=zY hb3
 clear ho3 hb3
 go_wp2_with fail
 refine(HEd.out _).mono ?_
 rintro e4 w2 ⟨v4,rfl,ho4,hb4⟩
 have HL:=zY (ownV_below HO3.out hb4)
 have HM:=zY ho4
 have HB4:=zYt HB3 hb4
 clear ho4 hb4 HB3 HO3
 obtain⟨A1,k1,rfl⟩:=ownV_slice HL.out
 obtain⟨A2,k2,rfl⟩:=ownV_slice HM.out
 go_wp2
 go_loopw [7] (fun x wr=>∃i:Nat,i<=L.length/\i<=M.length/\x=.int .i64 (i:Int)/\Below w2.heap.size w2 wr) (fun x _=>M.length-(intOf x).toNat)
 case atStart=>exact⟨0,by omega,by omega,rfl,Below.refl _ _⟩
 case round=>
  obtain⟨i,hiL1,hi,rfl,hB⟩:=hrel
  have HB:=zY hB
  clear hB
  by_cases h:i<L.length/\i<M.length
  {
  have hiI:(i:Int)<M.length:=by omega
  have hiL:(i:Int)<L.length:=by omega
  have hMi:i<M.length:=h.2
  have hLi:i<L.length:=h.1
  clear h
  obtain⟨p,hp⟩:∃p,L[i]?=some p:=⟨_,List.getElem?_eq_getElem hLi⟩
  obtain⟨q,hq⟩:∃q,M[i]?=some q:=⟨_,List.getElem?_eq_getElem hMi⟩
  obtain⟨g1,k1,e8,_⟩:=ownV_at HL.out (by omega)
  obtain⟨g2,k2,e9,_⟩:=ownV_at HM.out (by omega)
  cases e8
  cases e9
  have c1:w2.cell? ⟨g1,i,none⟩=some (.string (strB p)):=by
   rw[HL.out.cellAt i (by omega),strsV,List.getElem?_map,hp]
   rfl
  have c2:w2.cell? ⟨g2,i,none⟩=some (.string (strB q)):=by
   rw[HM.out.cellAt i (by omega),strsV,List.getElem?_map,hq]
   rfl
  have c1:=cell_below HB.out c1
  have c2:=cell_below HB.out c2
  clear hp hq hLi hMi
  generalize strB p=X at *
  generalize strB q=Y at *
  cases hB1:Op.bytesLess X.toList Y.toList with
  |true=>
   go_upto_region 5 with fail
   go_quiet (fail)
   go_wp2
   go_ret
   exact⟨RetI.of (-1),HB4.out.trans ((zBd HB.out _).mono HB4.out.size)⟩
  |false=>
   by_cases hxy:X=Y
   {
   subst hxy
   go_upto_region 5 with fail
   go_quiet (fail)
   go_upto_region 7 with fail
   go_quiet (fail)
   go_wp2
   go_roundw
   case rel=>exact⟨i+1,by omega,by omega,by go_num,by first|exact zBd HB.out _|exact zBd (zBd HB.out _) _⟩
   case measure=>simp[intOf];omega}
   {
   have b3:¬X.toList=Y.toList:=fun e=>hxy (by rw[ByteArray.toList_eq,ByteArray.toList_eq]at e;exact ByteArray.ext (Array.toList_inj.1 e))
   have b4:(X.toList==Y.toList)=false:=by rw[beq_eq_false_iff_ne];exact b3
   clear hxy
   go_upto_region 5 with fail
   go_quiet (fail)
   go_upto_region 7 with fail
   go_quiet (fail)
   go_wp2
   go_ret
   exact⟨RetI.of 1,HB4.out.trans (Below.mono (by first|exact zBd HB.out _|exact zBd (zBd HB.out _) _) HB4.out.size)⟩}}
  {
  have hz:¬(i:Int)<L.length∨((i:Int)<L.length/\¬(i:Int)<M.length):=by omega
  clear h
  rcases hz with f1|⟨f1,f2⟩
  all_goals
   by_cases g1:L.length<M.length
   {
   have g2:(L.length:Int)<M.length:=by omega
   go_wp2
   go_ret
   exact⟨RetI.of (-1),HB4.out.trans (HB.out.mono HB4.out.size)⟩}
   {
   have g2:¬(L.length:Int)<M.length:=by omega
   by_cases g3:M.length<L.length
   {
   have g4:(M.length:Int)<L.length:=by omega
   go_wp2
   go_ret
   exact⟨RetI.of 1,HB4.out.trans (HB.out.mono HB4.out.size)⟩}
   {
   have g4:¬(M.length:Int)<L.length:=by omega
   go_wp2
   go_ret
   exact⟨RetI.of 0,HB4.out.trans (HB.out.mono HB4.out.size)⟩}}}
structure Hol where
 p:ByteArray
 u:Int
def holS:Shape Hol where
 n:=2
 R _ cs x:=cs=[.string x.p,.int .i64 x.u]
 len h:=by rw[h];rfl
 one h u hu:=by
  rw[h]at hu
  simp only[List.mem_cons,List.not_mem_nil,or_false]at hu
  rcases hu with rfl|rfl<;>rfl
 keep h _:=h
theorem held_any (w:World) (v:Value) (l:List Hol) (hv:SeqAt holS w v l) (hl:∀h∈l,h.p.size<=1000000) (s:ByteArray) (hs:s.size<=1000000) (date:Int):Calls Tryz.prog 230 #[v,.string s,.int .i64 date] w fun e w'=>RetB e/\Below w.heap.size w w':=by
 have Hv:=zY hv
 have HU:=zY (fun(W:World) (h:Hol) (hm:h∈l)=>under_any W s h.p hs (hl h hm))
 obtain⟨A,c,rfl,h1,h2⟩:=hv.slice
 clear hv hl
 go_enter Tryz.func230,Tryz.ntmps230
 go_wp2
 go_loopw [7] (fun x wr=>∃i:Nat,i<=l.length/\x=.int .i64 (i:Int)/\Below w.heap.size w wr) (fun x _=>l.length-(intOf x).toNat)
 case atStart=>exact⟨0,by omega,rfl,Below.refl _ _⟩
 case round=>
  obtain⟨i,hi,rfl,hB⟩:=hrel
  have HB:=zY hB
  clear hB
  by_cases h:i<l.length
  {
  have hiI:(i:Int)<l.length:=by omega
  obtain⟨x,hx⟩:∃x,l[i]?=some x:=⟨_,List.getElem?_eq_getElem h⟩
  obtain⟨_,_,e9,_,_,h4⟩:=Hv.out.below HB.out
  cases e9
  obtain⟨b,o,cs,rfl,rfl,hc⟩:=h4 i x hx
  have HUx:=zY (fun W=>HU.out W x (List.mem_of_getElem? hx))
  have c0:wr.cell? ⟨b,o+i*2,none⟩=some (.string x.p):=hc 0 _ rfl
  have c1:wr.cell? ⟨b,o+i*2+1,none⟩=some (.int .i64 x.u):=hc 1 _ rfl
  clear hc h4 hx
  obtain⟨p,u⟩:=x
  dsimp only at c0 c1 HUx
  by_cases hd:date<=u
  {
  go_wp2_with fail
  refine(HUx.out _).mono ?_
  rintro e2 w2 ⟨⟨r,rfl⟩,hb2⟩
  have HB2:=zYt HB hb2
  clear hb2
  cases r with
  |true=>
   go_wp2
   go_ret
   exact⟨RetB.of true,HB2.out⟩
  |false=>
   go_wp2
   go_roundw
   case rel=>exact⟨i+1,by omega,by go_num,HB2.out⟩
   case measure=>simp[intOf];omega}
  {
  go_wp2_with fail
  first|(refine⟨trivial,?_⟩;go_wp2)|skip
  go_roundw
  case rel=>exact⟨i+1,by omega,by go_num,HB.out⟩
  case measure=>simp[intOf];omega}}
  {
  have hiI:¬(i:Int)<l.length:=by omega
  go_wp2
  go_ret
  exact⟨RetB.of false,HB.out⟩}
theorem date38_any (w:World) (s:ByteArray) (hs:s.size<=1000000):Calls Tryz.prog 231 #[.string s] w fun e w'=>RetI e/\w=w':=by
 by_cases h1:s.size=0
 {
 have i1:s.toList.isEmpty=true:=by
  rw[show s=⟨#[]⟩ by apply ByteArray.ext;exact Array.eq_empty_of_size_eq_zero h1]
  rw[ByteArray.toList_eq]
  rfl
 clear h1
 go_enter Tryz.func231,Tryz.ntmps231
 go_wp2
 go_ret
 exact⟨RetI.of (-1),rfl⟩}
 {
 have i1:s.toList.isEmpty=false:=isEmptyV h1
 by_cases h2:10<s.size
 {
 have i2:(10:Int)<s.size:=by omega
 go_enter Tryz.func231,Tryz.ntmps231
 go_wp2
 go_ret
 exact⟨RetI.of (-1),rfl⟩}
 {
 have i2:¬(10:Int)<s.size:=by omega
 have h0:0<s.size:=by omega
 have i0:(0:Int)<s.size:=by omega
 by_cases h3:1<s.size
 {
 have i3:(1:Int)<s.size:=by omega
 by_cases h4:(s[0]'h0).toNat=48
 {
 have i4:(((s[0]'h0).toNat:Int)==48)=true:=by rw[h4];rfl
 clear h4
 go_enter Tryz.func231,Tryz.ntmps231
 go_wp2
 go_ret
 exact⟨RetI.of (-1),rfl⟩}
 {
 have i4:(((s[0]'h0).toNat:Int)==48)=false:=by rw[beq_eq_false_iff_ne];omega
 clear h4
 go_enter Tryz.func231,Tryz.ntmps231
 go_wp2
 go_loop [3,4] (fun y x=>∃k n:Nat,k<=s.size/\x=.int .i64 (k:Int)/\y=.int .i64 (n:Int)/\n<10^k) (fun _ x=>s.size-(intOf x).toNat)
 case atStart=>exact⟨0,0,by omega,rfl,rfl,by decide⟩
 case round=>
  obtain⟨k,n,hk,rfl,rfl,hn⟩:=hrel
  have hn2:10^k<=10^10:=Nat.pow_le_pow_right (by decide) (by omega)
  have hn3:n<10000000000:=by omega
  by_cases h:k<s.size
  {
  have hkI:(k:Int)<s.size:=by omega
  by_cases a1:(s[k]'h).toNat<48
  {
  have f0:((s[k]'h).toNat:Int)<48:=by omega
  clear a1 hn hn2
  go_wp2
  go_ret
  exact⟨RetI.of (-1),rfl⟩}
  {
  by_cases a2:57<(s[k]'h).toNat
  {
  have f0:¬((s[k]'h).toNat:Int)<48:=by omega
  have f1:(57:Int)<((s[k]'h).toNat:Int):=by omega
  clear a1 a2 hn hn2
  go_wp2
  go_ret
  exact⟨RetI.of (-1),rfl⟩}
  {
  have f0:¬((s[k]'h).toNat:Int)<48:=by omega
  have f1:¬(57:Int)<((s[k]'h).toNat:Int):=by omega
  obtain⟨c,hc⟩:∃c,(s[k]'h).toNat=c+48:=⟨(s[k]'h).toNat-48,by omega⟩
  have hc9:c<=9:=by omega
  have hcI:((s[k]'h).toNat:Int)-48=(c:Int):=by omega
  have hcM:(((s[k]'h).toNat:Int)-48)%256=(c:Int):=by omega
  have hnn:n*10+c<10^(k+1):=by rw[Nat.pow_succ];omega
  have HN:=zY hnn
  clear a1 a2 hn hn2 hnn hc
  go_wp2
  go_round
  case rel=>exact⟨k+1,n*10+c,by omega,by go_num,by go_num,HN.out⟩
  case measure=>simp[intOf];omega}}}
  {
  have hkI:¬(k:Int)<s.size:=by omega
  clear hn hn2
  by_cases hle:1000000000<n
  {
  have i9:(1000000000:Int)<n:=by omega
  go_wp2
  go_ret
  exact⟨RetI.of (-1),rfl⟩}
  {
  have i9:¬(1000000000:Int)<n:=by omega
  go_wp2
  go_ret
  exact⟨RetI.of n,rfl⟩}}}}
 {
 have i3:¬(1:Int)<s.size:=by omega
 go_enter Tryz.func231,Tryz.ntmps231
 go_wp2
 go_loop [3,4] (fun y x=>∃k n:Nat,k<=s.size/\x=.int .i64 (k:Int)/\y=.int .i64 (n:Int)/\n<10^k) (fun _ x=>s.size-(intOf x).toNat)
 case atStart=>exact⟨0,0,by omega,rfl,rfl,by decide⟩
 case round=>
  obtain⟨k,n,hk,rfl,rfl,hn⟩:=hrel
  have hn2:10^k<=10^10:=Nat.pow_le_pow_right (by decide) (by omega)
  have hn3:n<10000000000:=by omega
  by_cases h:k<s.size
  {
  have hkI:(k:Int)<s.size:=by omega
  by_cases a1:(s[k]'h).toNat<48
  {
  have f0:((s[k]'h).toNat:Int)<48:=by omega
  clear a1 hn hn2
  go_wp2
  go_ret
  exact⟨RetI.of (-1),rfl⟩}
  {
  by_cases a2:57<(s[k]'h).toNat
  {
  have f0:¬((s[k]'h).toNat:Int)<48:=by omega
  have f1:(57:Int)<((s[k]'h).toNat:Int):=by omega
  clear a1 a2 hn hn2
  go_wp2
  go_ret
  exact⟨RetI.of (-1),rfl⟩}
  {
  have f0:¬((s[k]'h).toNat:Int)<48:=by omega
  have f1:¬(57:Int)<((s[k]'h).toNat:Int):=by omega
  obtain⟨c,hc⟩:∃c,(s[k]'h).toNat=c+48:=⟨(s[k]'h).toNat-48,by omega⟩
  have hc9:c<=9:=by omega
  have hcI:((s[k]'h).toNat:Int)-48=(c:Int):=by omega
  have hcM:(((s[k]'h).toNat:Int)-48)%256=(c:Int):=by omega
  have hnn:n*10+c<10^(k+1):=by rw[Nat.pow_succ];omega
  have HN:=zY hnn
  clear a1 a2 hn hn2 hnn hc
  go_wp2
  go_round
  case rel=>exact⟨k+1,n*10+c,by omega,by go_num,by go_num,HN.out⟩
  case measure=>simp[intOf];omega}}}
  {
  have hkI:¬(k:Int)<s.size:=by omega
  clear hn hn2
  by_cases hle:1000000000<n
  {
  have i9:(1000000000:Int)<n:=by omega
  go_wp2
  go_ret
  exact⟨RetI.of (-1),rfl⟩}
  {
  have i9:¬(1000000000:Int)<n:=by omega
  go_wp2
  go_ret
  exact⟨RetI.of n,rfl⟩}}}}}
end
section
def gdiv (a b:Nat):Nat:=gmul a (ginv b)
theorem xor_ne {a b:Nat} (h:a≠b):a^^^b≠0:=fun e=>h (by
 have:a^^^b^^^b=0^^^b:=by rw[e]
 rwa [Nat.xor_assoc,Nat.xor_self,Nat.xor_zero,Nat.zero_xor]at this)
theorem ginv_mul {a b:Nat} (ha:a<256) (hb:b<256) (h:a≠0) (k:b≠0):ginv (gmul a b)=gmul (ginv a) (ginv b):=by
 refine(inv_unique (gmul_lt _ ha) (gmul_lt _ (ginv_lt ha)) ?_).symm
 rw[gmul_assoc ha hb (gmul_lt _ (ginv_lt ha)),<-gmul_assoc hb (ginv_lt ha) (ginv_lt hb),gmul_comm hb (ginv_lt ha),gmul_assoc (ginv_lt ha) hb (ginv_lt hb),gmul_inv hb k,gmul_one_right,gmul_inv ha h]
def wgtR (xs:List Nat) (k x:Nat):Nat->Nat
 |0=>1
 |i+1=>if i=k then wgtR xs k x i else gmul (wgtR xs k x i) (gdiv (x^^^cf xs i) (cf xs k^^^cf xs i))
def aboR (xs:List Nat) (k x:Nat):Nat->Nat
 |0=>1
 |i+1=>if i=k then aboR xs k x i else gmul (aboR xs k x i) (x^^^cf xs i)
def belR (xs:List Nat) (k:Nat):Nat->Nat
 |0=>1
 |i+1=>if i=k then belR xs k i else gmul (belR xs k i) (cf xs k^^^cf xs i)
theorem aboR_lt {xs:List Nat} {k x:Nat}:∀i,aboR xs k x i<256
 |0=>(by decide:1<256)
 |i+1=>by
  rw[aboR]
  split
  ·exact aboR_lt i
  ·exact gmul_lt _ (aboR_lt i)
theorem belR_lt {xs:List Nat} {k:Nat}:∀i,belR xs k i<256
 |0=>(by decide:1<256)
 |i+1=>by
  rw[belR]
  split
  ·exact belR_lt i
  ·exact gmul_lt _ (belR_lt i)
theorem wgtR_lt {xs:List Nat} {k x:Nat}:∀i,wgtR xs k x i<256
 |0=>(by decide:1<256)
 |i+1=>by
  rw[wgtR]
  split
  ·exact wgtR_lt i
  ·exact gmul_lt _ (wgtR_lt i)
theorem wgt_eq {xs:List Nat} {k x:Nat} (hx:x<256) (hb:∀i,cf xs i<256) (hd:∀i,i<xs.length->i≠k->cf xs k≠cf xs i):∀i,i<=xs.length->wgtR xs k x i=gdiv (aboR xs k x i) (belR xs k i)/\belR xs k i≠0
 |0,_=>⟨(by decide:1=gdiv 1 1),(by decide:1≠0)⟩
 |i+1,hi=>by
  obtain⟨h1,h2⟩:=wgt_eq hx hb hd i (by omega)
  by_cases h:i=k
  {
  rw[wgtR,aboR,belR,if_pos h,if_pos h,if_pos h]
  exact⟨h1,h2⟩}
  {
  rw[wgtR,aboR,belR,if_neg h,if_neg h,if_neg h]
  have hne:cf xs k^^^cf xs i≠0:=xor_ne (hd i (by omega) h)
  have l1:=xor_lt hx (hb i)
  have l2:=xor_lt (hb k) (hb i)
  have l3:=aboR_lt (xs:=xs) (k:=k) (x:=x) i
  have l4:=belR_lt (xs:=xs) (k:=k) i
  refine⟨?_,fun e=>(gmul_eq_zero l4 l2 e).elim h2 hne⟩
  rw[h1,gdiv,gdiv,gdiv,ginv_mul l4 l2 h2 hne]
  rw[gmul_assoc l3 (ginv_lt l4) (gmul_lt _ l1),<-gmul_assoc (ginv_lt l4) l1 (ginv_lt l2),gmul_comm (ginv_lt l4) l1,gmul_assoc l1 (ginv_lt l4) (ginv_lt l2),<-gmul_assoc l3 l1 (gmul_lt _ (ginv_lt l4))]
}
def wgt (xs:List Nat) (x k:Nat):Nat:=wgtR xs k x xs.length
theorem wgt_lt (xs:List Nat) (x k:Nat):wgt xs x k<256:=wgtR_lt _
def sumE (xs:List Nat) (bl:List (List Nat)) (x i:Nat):Nat->Nat
 |0=>0
 |k+1=>sumE xs bl x i k^^^gmul (wgt xs x k) (cf (bl.getD k []) i)
theorem sumE_lt {xs:List Nat} {bl:List (List Nat)} {x i:Nat}:∀k,sumE xs bl x i k<256
 |0=>(by decide:0<256)
 |k+1=>xor_lt (sumE_lt k) (gmul_lt _ (wgt_lt _ _ _))
def atE (xs:List Nat) (bl:List (List Nat)) (n x:Nat):List Nat:=(List.range n).map fun i=>sumE xs bl x i xs.length
def rowE (xs:List Nat) (bl:List (List Nat)) (n x k i:Nat):List Nat:=(List.range n).map fun j=>sumE xs bl x j (if j<i then k+1 else k)
theorem rowE_len {xs:List Nat} {bl:List (List Nat)} {n x k i:Nat}:(rowE xs bl n x k i).length=n:=by simp[rowE]
theorem rowE_cf {xs:List Nat} {bl:List (List Nat)} {n x k i j:Nat} (hj:j<n):cf (rowE xs bl n x k i) j=sumE xs bl x j (if j<i then k+1 else k):=by
 rw[rowE,cf,List.getElem?_map,List.getElem?_range hj]
 rfl
theorem rowE_lt {xs:List Nat} {bl:List (List Nat)} {n x k i:Nat}:∀y∈rowE xs bl n x k i,y<256:=by
 intro y hy
 obtain⟨j,_,rfl⟩:=List.mem_map.1 hy
 exact sumE_lt _
theorem rowE_zero {xs:List Nat} {bl:List (List Nat)} {n x:Nat}:rowE xs bl n x 0 0=List.replicate n 0:=by
 apply List.ext_getElem (by simp[rowE])
 intro j h1 h2
 simp[rowE,sumE]
theorem rowE_next {xs:List Nat} {bl:List (List Nat)} {n x k:Nat}:rowE xs bl n x k n=rowE xs bl n x (k+1) 0:=by
 unfold rowE
 refine List.map_congr_left fun j hj=>?_
 rw[if_pos (List.mem_range.1 hj),if_neg (Nat.not_lt_zero j)]
theorem rowE_step {xs:List Nat} {bl:List (List Nat)} {n x k i:Nat} (hi:i<n):(rowE xs bl n x k i).set i (cf (rowE xs bl n x k i) i^^^gmul (wgt xs x k) (cf (bl.getD k []) i))=rowE xs bl n x k (i+1):=by
 rw[rowE_cf hi,if_neg (Nat.lt_irrefl i)]
 apply List.ext_getElem (by simp[rowE])
 intro j h1 h2
 have hj:j<n:=by simpa [rowE]using h1
 rw[List.getElem_set]
 by_cases h:i=j
 {
 subst h
 simp[rowE,sumE]}
 {
 rw[if_neg h]
 simp only[rowE,List.getElem_map,List.getElem_range]
 by_cases h3:j<i
 ·rw[if_pos h3,if_pos (by omega)]
 ·rw[if_neg h3,if_neg (by omega)]}
theorem rowE_all {xs:List Nat} {bl:List (List Nat)} {n x:Nat}:rowE xs bl n x xs.length 0=atE xs bl n x:=by
 unfold rowE atE
 refine List.map_congr_left fun j hj=>?_
 rw[if_neg (Nat.not_lt_zero j)]
theorem atE_len {xs:List Nat} {bl:List (List Nat)} {n x:Nat}:(atE xs bl n x).length=n:=by simp[atE]
end
end Go.Proofs.YthgenkkkapilhaaGreatDoor
