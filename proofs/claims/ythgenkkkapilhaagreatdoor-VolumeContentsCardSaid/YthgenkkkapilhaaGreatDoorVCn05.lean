/-
  Joined: VoD VitA VoN VoO VoP VoQ ResT PolW.
-/
import Derived.Test.YthgenkkkapilhaaGreatDoorVCn02
import Derived.Deep.RegionHeld3
set_option linter.all false
set_option maxRecDepth 100000
set_option maxHeartbeats 64000000
namespace Go.Proofs.YthgenkkkapilhaaGreatDoor
section
open Go.RowKit
def digD (u:Nat):List Nat:=if u<10 then [48+u] else digD (u/10)++digD (u%10)
termination_by u
decreasing_by all_goals omega
theorem digD_small {u:Nat} (h:u<10):digD u=[48+u]:=by rw[digD,if_pos h]
theorem digD_great {u:Nat} (h:¬u<10):digD u=digD (u/10)++digD (u%10):=by rw[digD,if_neg h]
theorem digD_len:∀(n u:Nat),u<10^(n+1)->(digD u).length<=n+1:=by
 intro n
 induction n with
 |zero=>
  intro u h
  rw[digD_small (by simpa using h)]
  simp
 |succ n ih=>
  intro u h
  by_cases h1:u<10
  ·rw[digD_small h1];simp
  {
  rw[digD_great h1,List.length_append,digD_small (u:=u%10) (by omega)]
  have:=ih (u/10) (by rw[Nat.pow_succ]at h;omega)
  simp
  omega}
theorem digD_bytes:∀(u:Nat),∀b∈digD u,48<=b/\b<58:=by
 intro u
 induction u using Nat.strongRecOn with
 |_ u ih=>
  intro b hb
  by_cases h1:u<10
  {
  rw[digD_small h1,List.mem_singleton]at hb
  omega}
  {
  rw[digD_great h1]at hb
  rcases List.mem_append.1 hb with hb|hb
  ·exact ih (u/10) (by omega) b hb
  ·exact ih (u%10) (by omega) b hb}
theorem digD_len20 {u:Nat} (h:u<18446744073709551616):(digD u).length<=20:=digD_len 19 u (by omega)
def numL (n:Nat):List Nat:=digD n++[32]
def nstL (s:List Nat):List Nat:=digD s.length++[58]++s++[44]
theorem digits_any:∀(u:Nat),u<18446744073709551616->∀w:World,Calls Tryz.prog 241 #[.int .u64 (u:Int)] w fun e w'=>e=.returned (.string (strB (digD u)))/\w=w':=by
 intro u
 induction u using Nat.strongRecOn with
 |_ u ih=>
  intro hu w
  by_cases h:u<10
  {
  have hI:(u:Int)<10:=by omega
  have hx:(⟨#[48,49,50,51,52,53,54,55,56,57]⟩:ByteArray).extract u (u+1)=strB (digD u):=by
   rw[digD_small h]
   have:u=0∨u=1∨u=2∨u=3∨u=4∨u=5∨u=6∨u=7∨u=8∨u=9:=by omega
   rcases this with rfl|rfl|rfl|rfl|rfl|rfl|rfl|rfl|rfl|rfl<;>rfl
  have HX:=zY hx
  clear hx ih
  go_enter Tryz.func241,Tryz.ntmps241
  go_wp2
  go_ret
  exact⟨by rw[<-HX.out];rfl,rfl⟩}
  {
  have hI:¬(u:Int)<10:=by omega
  obtain⟨q,hq⟩:=zNm (u/10)
  obtain⟨r,hr⟩:=zNm (u%10)
  have HD:=zY (digD_great h)
  rw[hq,hr]at HD
  have H1:=zY (ih q (by omega) (by omega))
  have H2:=zY (ih r (by omega) (by omega))
  have hqI:Int.tdiv (u:Int) 10=q:=by rw[Int.tdiv_eq_ediv_of_nonneg (by omega)];omega
  have hrI:Int.tmod (u:Int) 10=r:=by rw[Int.tmod_eq_emod_of_nonneg (by omega)];omega
  have hqE:(u:Int)/10=q:=by omega
  have hrE:(u:Int)%10=r:=by omega
  have hs1:(strB (digD q)).size<=20:=by rw[strB_size];exact digD_len20 (by omega)
  have hs2:(strB (digD r)).size<=20:=by rw[strB_size];exact digD_len20 (by omega)
  have Hc:=zY (strB_cat (digD q) (digD r))
  clear ih hq hr
  generalize strB (digD q)=Q at *
  generalize strB (digD r)=T at *
  have hcc:¬9223372036854775807<Q.size+T.size:=by omega
  go_enter Tryz.func241,Tryz.ntmps241
  go_wp2_with fail
  refine(H1.out _).mono ?_
  rintro e1 w1 ⟨rfl,rfl⟩
  go_wp2_with fail
  refine(H2.out _).mono ?_
  rintro e2 w2 ⟨rfl,rfl⟩
  go_wp2_with fail
  go_ret
  exact⟨by rw[HD.out,<-Hc.out]<;>rfl,rfl⟩
}
theorem dec_any (w:World) (n:Nat) (hn:n<9223372036854775808):Calls Tryz.prog 163 #[.int .i64 (n:Int)] w fun e w'=>e=.returned (.string (strB (digD n)))/\w=w':=by
 have hI:¬(n:Int)<0:=by omega
 have hw:IntKind.u64.wrap (n:Int)=n:=IntWalk.u64_in _ (by omega)
 have H1:=zY (digits_any n (by omega))
 go_enter Tryz.func163,Tryz.ntmps163
 go_wp2_with fail
 refine(H1.out _).mono ?_
 rintro e1 w1 ⟨rfl,rfl⟩
 go_wp2_with fail
 go_ret
 exact⟨rfl,rfl⟩
theorem number_any (w:World) (n:Nat) (hn:n<9223372036854775808):Calls Tryz.prog 160 #[.int .i64 (n:Int)] w fun e w'=>e=.returned (.string (strB (numL n)))/\w=w':=by
 have H1:=zY (fun W=>dec_any W n hn)
 have hs1:(strB (digD n)).size<=20:=by rw[strB_size];exact digD_len20 (by omega)
 have Hc:Hid (strB (digD n)++⟨#[32]⟩=strB (numL n)):=zY (strB_cat (digD n) [32])
 generalize strB (digD n)=Q at *
 have hcc:¬9223372036854775807<Q.size+1:=by omega
 go_enter Tryz.func160,Tryz.ntmps160
 go_wp2_with fail
 refine(H1.out _).mono ?_
 rintro e1 w1 ⟨rfl,rfl⟩
 go_wp2_with fail
 go_ret
 exact⟨by rw[<-Hc.out]<;>rfl,rfl⟩
theorem nstring_any (w:World) (s:ByteArray) (hs:s.size<=100000000):Calls Tryz.prog 89 #[.string s] w fun e w'=>e=.returned (.string (strB (nstL (bs s))))/\w=w':=by
 have H1:=zY (fun W=>dec_any W s.size (by omega))
 have hs1:(strB (digD s.size)).size<=20:=by rw[strB_size];exact digD_len20 (by omega)
 have hc:strB (digD s.size)++⟨#[58]⟩++s++⟨#[44]⟩=strB (nstL (bs s)):=by
  have e1:=strB_cat (digD s.size) [58]
  have e2:=strB_cat (digD s.size++[58]) (bs s)
  have e3:=strB_cat (digD s.size++[58]++bs s) [44]
  rw[strB_bs]at e2
  rw[<-e1]at e2
  rw[<-e2]at e3
  rw[nstL,bs_len]
  exact e3
 have Hc:=zY hc
 clear hc
 generalize strB (digD s.size)=Q at *
 have hcc:¬9223372036854775807<Q.size+1:=by omega
 have hcd:¬9223372036854775807<Q.size+1+s.size:=by omega
 have hce:¬9223372036854775807<Q.size+1+s.size+1:=by omega
 go_enter Tryz.func89,Tryz.ntmps89
 go_wp2_with fail
 refine(H1.out _).mono ?_
 rintro e1 w1 ⟨rfl,rfl⟩
 go_wp2_with fail
 go_ret
 exact⟨by rw[<-Hc.out]<;>rfl,rfl⟩
theorem tk {P:Program} {ops:Array Oper} {Q:Exit->Act->World->Prop} {md:Region.Mode} {S:World->Prop} (i:Nat) {oi:Oper} {v:Value} {fuel:Nat} {listed ls:Array Bool} {a a':Act} {w:World}
  (h:wpAnyH P md ops Q S fuel ls a' w) (hi:ops[i]?=some oi:=by rfl) (hs:Region.noSelect ops=true:=by kernel_rfl) (hf:Region.free md ops listed i=true:=by kernel_rfl)
  (hr:(Region.ready md ops listed).contains i=true:=by kernel_rfl) (hQ:∀c a w,Q (.panic c) (a.put oi.dst v) w->Q (.panic c) a w:=by exact fun _ _ _ h=>h)
  (hw:Region.wanted oi (yielded ops a.tmps)=true:=by rfl) (hy:∀w,S w->(execOp a.eval oi).run P w=.ok (.value v) w:=by(intro W hSw;(try dsimp only at hSw);go_simp;try with_reducible rfl)) (hS:S w:=by assumption)
  (e1:listed.setIfInBounds i true=ls:=by(try simp only[List.setIfInBounds_toArray,List.set_cons_zero,List.set_cons_succ]);with_reducible rfl)
  (e2:a.put oi.dst v=a':=by(try simp only[Act.put,List.setIfInBounds_toArray,List.set_cons_zero,List.set_cons_succ,List.getElem_toArray,List.getElem_cons_zero,List.getElem_cons_succ]);with_reducible rfl):
  wpAnyH P md ops Q S (fuel+1) listed a w:=by
 subst e1 e2
 exact wpAnyH_take hi hs hf hr hQ (Or.inl ⟨hw,hy⟩) hS h
theorem hko {P:Program} {ops:Array Oper} {Q:Exit->Act->World->Prop} {md:Region.Mode} {S:World->Prop} {i:Nat} {fuel:Nat} {listed ls:Array Bool} {K:Act->World->Prop} (hK:Shut (∀a w,S w->(S w->wpAnyH P md ops Q S fuel (listed.setIfInBounds i true) a w)->K a w)) {a a':Act} {w:World}
  (hS:S w) (h:S w->wpAnyH P md ops Q S fuel ls a' w)
  (e1:listed.setIfInBounds i true=ls:=by(try simp only[List.setIfInBounds_toArray,List.set_cons_zero,List.set_cons_succ]);with_reducible rfl)
  (e2:a=a':=by(try simp only[Act.put,List.setIfInBounds_toArray,List.set_cons_zero,List.set_cons_succ,List.getElem_toArray,List.getElem_cons_zero,List.getElem_cons_succ]);with_reducible rfl):K a w:=by
 subst e1 e2
 exact hK.out _ _ hS h
theorem bs_outS (s b:Nat):bs (outS s b)=[co1 s b,co2 s b]:=bs_strB (out_bytes s b)
structure Turned (A B:World) (g:Nat):Prop where
 os:B.os=A.os
 tape:B.tape=A.tape
 output:B.output=A.output
 size:B.heap.size=A.heap.size
 other:∀k,k≠g->B.heap[k]?=A.heap[k]?
theorem Turned.below {A B w:World} {g H:Nat} (h:Turned A B g) (hb:Below H w A) (hg:H<=g):Below H w B:=
 ⟨h.os.trans hb.os,h.tape.trans hb.tape,h.output.trans hb.output,by rw[h.size];exact hb.size,fun k hk=>(h.other k (by omega)).trans (hb.block k hk)⟩
theorem turned_set1 (W:World) (g j:Nat) (y:Value):Turned W (W.setCell ⟨g,j,none⟩ y) g:=
 ⟨rfl,rfl,rfl,by simp,fun k hk=>Below.heap_setCell _ ⟨g,j,none⟩ _ _ hk⟩
def RetN (p:Nat->Prop) (e:Ending):Prop:=∃n:Nat,e=.returned (.int .i64 (n:Int))/\p n
theorem RetN.of {p:Nat->Prop} {n:Nat} (h:p n):RetN p (.returned (.int .i64 (n:Int))):=⟨n,rfl,h⟩
theorem zeros_any (w:World) (s:ByteArray) (i:Nat) (hi:i<=s.size) (hs:s.size<=1000000):Calls Tryz.prog 289 #[.string s,.int .i64 (i:Int)] w fun e w'=>RetN (fun n=>i+n<=s.size) e/\w=w':=by
 go_enter Tryz.func289,Tryz.ntmps289
 go_wp2
 go_loop [5] (fun x=>∃n:Nat,i+n<=s.size/\x=.int .i64 (n:Int)) (fun x=>s.size-(intOf x).toNat)
 case atStart=>exact⟨0,by omega,rfl⟩
 case round=>
  obtain⟨n,hn,rfl⟩:=hrel
  obtain⟨j,hj⟩:=zNm (i+n)
  have hjI:(i:Int)+n=j:=by omega
  have hj1:j<=1000000:=by omega
  by_cases h:j<s.size
  {
  have hI:(j:Int)<s.size:=by omega
  by_cases h0:(s[j]'h).toNat=0
  {
  have e0:(((s[j]'h).toNat:Int)==0)=true:=by rw[h0];rfl
  clear hj
  go_wp2
  go_round
  case rel=>exact⟨n+1,by omega,by go_num⟩
  case measure=>simp[intOf];omega}
  {
  have e0:(((s[j]'h).toNat:Int)==0)=false:=by rw[beq_eq_false_iff_ne];omega
  clear hj
  go_wp2
  go_ret
  exact⟨RetN.of hn,rfl⟩}}
  {
  have hI:¬(j:Int)<s.size:=by omega
  clear hj
  go_wp2
  go_ret
  exact⟨RetN.of hn,rfl⟩
}
theorem first33_any (w:World) (s:ByteArray) (hs:s.size<=1000000) (h0:0<s.size):Calls Tryz.prog 290 #[.string s] w fun e w'=>RetN (fun n=>0<n/\n<=s.size) e/\w=w':=by
 go_enter Tryz.func290,Tryz.ntmps290
 go_wp2
 go_loop [3,4] (fun y x=>∃k h:Nat,k<=s.size/\x=.int .i64 (k:Int)/\y=.int .i64 (h:Int)/\h<65536) (fun _ x=>s.size-(intOf x).toNat)
 case atStart=>exact⟨0,0,by omega,rfl,rfl,by omega⟩
 case round=>
  obtain⟨k,v,hk,rfl,rfl,hv⟩:=hrel
  by_cases h:k<s.size
  {
  have hkI:(k:Int)<s.size:=by omega
  have hc:=bs_lt s (s[k]'h).toNat (by rw[<-bsc s k h];exact List.mem_of_getElem? (by rw[cf_get (List.getElem?_eq_getElem (by rw[bs_len];exact h))];exact List.getElem?_eq_getElem _))
  obtain⟨v',hv'⟩:∃v',(2*v+40503*((s[k]'h).toNat+1))%65536=v':=⟨_,rfl⟩
  have hvb:v'<65536:=by omega
  have hvE:(2*(v:Int)+40503*(((s[k]'h).toNat:Int)+1))%65536=v':=by omega
  have hvT:Int.tmod (2*(v:Int)+40503*(((s[k]'h).toNat:Int)+1)) 65536=v':=by rw[Int.tmod_eq_emod_of_nonneg (by omega)];exact hvE
  clear hv'
  obtain⟨j,hj⟩:=zNm (k+1)
  have hjI:(k:Int)+1=j:=by omega
  by_cases h96:j=96
  {
  have f1:((j:Int)==96)=true:=by rw[h96];rfl
  clear h96 hj
  go_wp2
  go_ret
  exact⟨RetN.of ⟨by omega,by omega⟩,rfl⟩}
  {
  have f1:((j:Int)==96)=false:=by rw[beq_eq_false_iff_ne];omega
  by_cases h16:16<=j
  {
  have f2:(16:Int)<=j:=by omega
  by_cases hvs:v'<2048
  {
  have f3:(v':Int)<2048:=by omega
  clear hj
  go_wp2
  go_ret
  exact⟨RetN.of ⟨by omega,by omega⟩,rfl⟩}
  {
  have f3:¬(v':Int)<2048:=by omega
  clear hj
  go_wp2
  go_round
  case rel=>exact⟨j,v',by omega,rfl,rfl,hvb⟩
  case measure=>simp[intOf];omega}}
  {
  have f2:¬(16:Int)<=j:=by omega
  clear hj
  go_wp2
  go_round
  case rel=>exact⟨j,v',by omega,rfl,rfl,hvb⟩
  case measure=>simp[intOf];omega}}}
  {
  have hkI:¬(k:Int)<s.size:=by omega
  go_wp2
  go_ret
  exact⟨RetN.of ⟨h0,Nat.le_refl _⟩,rfl⟩}
def RetStrs (B:Nat) (W:World) (p:List ByteArray->Prop) (e:Ending):Prop:=∃v l,e=.returned v/\W.ownsRow B 9 1 v l.length (l.map .string)/\p l
def sizes:List ByteArray->Nat
 |[]=>0
 |x::r=>x.size+sizes r
theorem sizes_app (l m:List ByteArray):sizes (l++m)=sizes l+sizes m:=by
 induction l with
 |nil=>simp[sizes]
 |cons x r ih=>rw[List.cons_append,sizes,sizes,ih];omega
theorem split33_any (w:World) (s:ByteArray) (hs:s.size<=1000000):Calls Tryz.prog 220 #[.string s] w fun e w'=>RetStrs w.heap.size w' (fun l=>(∀x∈l,0<x.size/\x.size<=s.size)/\l.length<=s.size/\sizes l=s.size) e/\Below w.heap.size w w':=by
 obtain⟨iS,hi,hq0,hq1,hq2⟩:=infoV_parts Tryz.infoStrV
 have HiS:Hid (Tryz.prog.info? 9=some iS/\iS.zero=some (.string ⟨#[]⟩)/\iS.size=1/\iS.bytes=16):=zY ⟨hi,hq0,hq1,hq2⟩
 have HFi:=zY (fun(W:World) (d:ByteArray) (h1:d.size<=1000000) (h2:0<d.size)=>first33_any W d h1 h2)
 clear hi hq0 hq1 hq2
 go_enter Tryz.func220,Tryz.ntmps220
 go_wp2
 go_loopw [0,3,4] (fun y v _ wr=>∃(d:ByteArray) (l:List ByteArray),y=.string d/\(∀x∈l,0<x.size/\x.size<=s.size)/\l.length+d.size<=s.size/\sizes l+d.size=s.size/\wr.ownsRow w.heap.size 9 1 v l.length (l.map .string)/\Below w.heap.size w wr) (fun y _ _ _=>match y with|.string d=>d.size|_=>0)
 case atStart=>exact⟨s,[],rfl,(fun x hx=>nomatch hx),by simp,by simp[sizes],ownV_new _ _ _,(Below.refl _ _).alloc (Nat.le_refl _) _⟩
 case round=>
  obtain⟨d,l,rfl,hx,hn,hsum,ho,hB⟩:=hrel
  have Hx:=zY hx
  have Hsum:=zY hsum
  have Ho:=zY ho
  have HB:=zY hB
  clear hx ho hB hsum
  obtain⟨Av,cv,rfl⟩:=ownV_slice Ho.out
  have hds:d.size<=1000000:=by omega
  by_cases h:0<d.size
  {
  have hI:(0:Int)<d.size:=by omega
  have HF:=zY (HFi.out wr d hds h)
  go_wp2_with fail
  refine HF.out.mono ?_
  rintro e1 w1 ⟨⟨n,rfl,hn0,hn1⟩,rfl⟩
  have hnI:(n:Int)<=d.size:=by omega
  obtain⟨S,hS⟩:=zNm (d.extract 0 n)
  have hSz:S.size=n:=by rw[<-hS,ByteArray.size_extract];omega
  obtain⟨D,hD⟩:=zNm (d.extract n d.size)
  have hDz:D.size=d.size-n:=by rw[<-hD,ByteArray.size_extract];omega
  have HDz:=zY hDz
  have HSz:=zY hSz
  clear hSz hDz
  have Hnews:Hid (∀(q:Nat) (x:Value),([.string S]:List Value)[q]?=some x->(wr.alloc (.cells #[.string S] 9)).cell? ((⟨wr.heap.size,0,none⟩:Addr).add q)=some x):=zY (fun q x hq=>by
   rw[Addr.add_lit,Nat.zero_add]
   exact(Blk.new wr 9 [.string S]).cell hq)
  have Hone:Hid (∀x∈([.string S]:List Value),x.oneCell'=true):=zY (by simp[Value.oneCell'])
  have HU:=zY (Ho.out.alloc (.cells #[.string S] 9))
  have HB6:=zY (HB.out.alloc HB.out.size (.cells #[.string S] 9))
  go_wp2_with (at_builtin;refine append_atV _ rfl _ _ 51 rfl w.heap.size 9 iS (.string ⟨#[]⟩) 1 16 Tryz.underlying51 HiS.out.1 HiS.out.2.1 HiS.out.2.2.1 HiS.out.2.2.2 rfl (by omega) (.slice Av l.length cv) l.length _ rfl HU.out ⟨wr.heap.size,0,none⟩ 1 1 _ rfl rfl Hnews.out Hone.out (by unfold maxLen;omega) (by omega) HB6.out.size ?_;intro va wa hob hgb _;have KU:=zY hob;have KB:=zY (HB6.out.grown hgb HB6.out.size (ownV_ge HU.out));clear hob hgb)
  go_roundw
  case rel=>exact⟨D,l++[S],rfl,fun x hx=>by
   rcases List.mem_append.1 hx with hx|hx
   ·exact Hx.out x hx
   ·rw[List.mem_singleton.1 hx,HSz.out];omega,by rw[List.length_append,HDz.out];simp;omega,by rw[sizes_app,HDz.out,<-Hsum.out];simp only[sizes];rw[HSz.out];omega,by rw[List.length_append,List.map_append];exact KU.out,KB.out⟩
  case measure=>have h3:=HDz.out;simp;omega}
  {
  have hI:¬(0:Int)<d.size:=by omega
  go_wp2
  go_ret
  exact⟨⟨_,l,rfl,Ho.out,Hx.out,by omega,by have:=Hsum.out;omega⟩,HB.out⟩
}
def RetS (p:ByteArray->Prop) (e:Ending):Prop:=∃s,e=.returned (.string s)/\p s
theorem path31_any (w:World) (v:Value) (l:List ByteArray) (hv:SeqAt strS w v l) (hl:l.length<=1000) (hz:∀x∈l,x.size<=1000):Calls Tryz.prog 296 #[v] w fun e w'=>RetS (fun s=>s.size<=l.length*1001) e/\w=w':=by
 have Hv:=zY hv
 have Hz:=zY hz
 obtain⟨A,c,rfl,h1,h2⟩:=hv.slice
 clear hv hz
 go_enter Tryz.func296,Tryz.ntmps296
 go_wp2
 go_loop [3,4] (fun y x=>∃(k:Nat) (s:ByteArray),k<=l.length/\x=.int .i64 (k:Int)/\y=.string s/\s.size<=k*1001) (fun _ x=>l.length-(intOf x).toNat)
 case atStart=>exact⟨0,⟨#[]⟩,by omega,rfl,rfl,Nat.zero_le _⟩
 case round=>
  obtain⟨k,s,hk,rfl,rfl,hs⟩:=hrel
  by_cases h:k<l.length
  {
  have hkI:(k:Int)<l.length:=by omega
  obtain⟨x,hx⟩:∃x,l[k]?=some x:=⟨_,List.getElem?_eq_getElem h⟩
  have hxz:=Hz.out x (List.mem_of_getElem? hx)
  obtain⟨_,_,e9,_,_,h4⟩:=Hv.out
  cases e9
  obtain⟨b,o,cs,rfl,rfl,hc⟩:=h4 k x hx
  have c0:w.cell? ⟨b,o+k,none⟩=some (.string x):=by simpa [strS]using hc 0 _ rfl
  clear hc h4 hx
  have hcc:¬9223372036854775807<s.size+x.size:=by omega
  by_cases h0:k=0
  {
  subst h0
  rw[Nat.add_zero]at c0
  rw[show ((0:Nat):Int)=0 from rfl]
  go_wp2
  go_round
  case rel=>exact⟨1,_,by omega,by go_num,rfl,by rw[ByteArray.size_append];omega⟩
  case measure=>simp[intOf];omega}
  {
  have f1:(0:Int)<k:=by omega
  have n0:0<k:=by omega
  have hcd:¬9223372036854775807<s.size+1:=by omega
  have hce:¬9223372036854775807<s.size+1+x.size:=by omega
  go_wp2
  go_round
  case rel=>exact⟨k+1,_,by omega,by go_num,rfl,by rw[ByteArray.size_append,ByteArray.size_append];show s.size+1+x.size<=_;omega⟩
  case measure=>simp[intOf];omega}}
  {
  obtain rfl:k=l.length:=by omega
  have hkI:¬((l.length:Nat):Int)<(l.length:Int):=by omega
  go_wp2
  go_ret
  exact⟨⟨s,rfl,hs⟩,rfl⟩}
theorem strs_read {W w0:World} {B:Nat} {v:Value} {l:List ByteArray} (h:W.ownsRow B 9 1 v l.length (l.map .string)) (_:Below w0.heap.size w0 W):SeqAt strS W v l:=by
 rcases h.2 with⟨rfl,h0⟩|⟨g,cap,cur,rfl,_,_,h1,h2,_⟩
 {
 obtain rfl:=List.length_eq_zero_iff.1 h0
 exact SeqAt.nil _}
 {
 refine⟨_,_,rfl,h1,by unfold maxLen at h2;omega,fun i x hx=>⟨g,0,[.string x],rfl,rfl,fun j u hu=>?_⟩⟩
 have hi:i<l.length:=(List.getElem?_eq_some_iff.1 hx).1
 have hj:j=0:=by
  have:=(List.getElem?_eq_some_iff.1 hu).1
  simp at this
  omega
 subst hj
 obtain rfl:Value.string x=u:=by simpa using hu
 have e:(0:Nat)+i*strS.n+0=i:=by show 0+i*1+0=i;omega
 rw[e,h.cellAt i (by omega),List.getElem?_map,hx]
 rfl
}
theorem SeqAt.take {α:Type} {ρ:Shape α} {W:World} {A:Option Addr} {n c m:Nat} {xs:List α} (h:SeqAt ρ W (.slice A n c) xs) (hm:m<=xs.length):SeqAt ρ W (.slice A m c) (xs.take m):=by
 obtain⟨A',c',e,h1,h2,h3⟩:=h
 cases e
 have hl:(xs.take m).length=m:=by rw[List.length_take];omega
 refine⟨_,_,by rw[hl],by rw[hl];omega,h2,fun i x hx=>h3 i x ?_⟩
 rw[List.getElem?_take]at hx
 split at hx
 ·exact hx
 {
 cases hx
}
theorem split31_any (w:World) (s:ByteArray) (hs:s.size<=1000000):Calls Tryz.prog 295 #[.string s] w fun e w'=>(∃v,e=.returned (.tuple #[v,.int .i64 (pathE (bs s))])/\(pathE (bs s)=0->w'.ownsRow w.heap.size 9 1 v (elemsL (bs s)).length (strsV (elemsL (bs s)))))/\Below w.heap.size w w':=by
 have HC:=zY (fun W=>path_any W s hs)
 have HE:=zY (fun W=>elems_any W s hs)
 obtain⟨P,hP⟩:=zNm (pathE (bs s))
 rw[hP]at HC⊢
 clear hP
 go_enter Tryz.func295,Tryz.ntmps295
 go_wp2_with fail
 refine(HC.out _).mono ?_
 rintro e1 w1 ⟨rfl,hb1⟩
 have HB1:=zY hb1
 clear hb1
 by_cases h0:P=0
 {
 subst h0
 go_wp2_with fail
 refine(HE.out _).mono ?_
 rintro e2 w2 ⟨v,rfl,ho,hb2⟩
 have HO:=zY ho
 have HB2:=zYt HB1 hb2
 have hs1:=HB1.out.size
 clear ho hb2
 go_wp2_with fail
 go_ret2
 have hr:w2.ownsRow w.heap.size 9 1 v (elemsL (bs s)).length (strsV (elemsL (bs s))):=⟨HO.out.1,HO.out.2.imp id fun⟨g,cap,cur,e,hB,r⟩=>⟨g,cap,cur,e,by omega,r⟩⟩
 first|exact⟨⟨v,rfl,hr⟩,HB2.out⟩|exact⟨⟨v,rfl,fun _=>hr⟩,HB2.out⟩}
 {
 have hne:(P != 0)=true:=by rw[bne_iff_ne];exact h0
 go_wp2_with fail
 go_ret2
 exact⟨⟨.slice none 0 0,rfl,fun h=>absurd h h0⟩,HB1.out⟩
}
def RetSE (p:ByteArray->Int->Prop) (e:Ending):Prop:=∃s n,e=.returned (.tuple #[.string s,.int .i64 n])/\p s n
theorem parent31_any (w:World) (s:ByteArray) (hs:s.size<=1000000):Calls Tryz.prog 227 #[.string s] w fun e w'=>RetSE (fun u _=>u.size<=10000) e/\Below w.heap.size w w':=by
 have HS:=zY (fun W=>split31_any W s hs)
 have HL:Hid (pathE (bs s)=0->(elemsL (bs s)).length<=8/\∀x∈elemsL (bs s),x.length<=200):=zY (fun h=>by
  rw[pathE]at h
  split at h
  ·cases h
  ·split at h
   ·cases h
   ·refine⟨by omega,fun x hx=>?_⟩
    have:=(elemsL_size (s:=bs s)).1 x hx
    omega)
 generalize elemsL (bs s)=L at *
 generalize pathE (bs s)=P at *
 go_enter Tryz.func227,Tryz.ntmps227
 go_wp2_with fail
 refine(HS.out _).mono ?_
 rintro e1 w1 ⟨⟨v,rfl,ho⟩,hb1⟩
 have HO:=zY ho
 have HB1:=zY hb1
 clear ho hb1
 by_cases h0:P=0
 {
 subst h0
 have ho:=HO.out rfl
 obtain⟨hl8,hlz⟩:=HL.out rfl
 have HV:Hid (SeqAt strS w1 v (L.map strB)):=zY (strs_read (l:=L.map strB) (by rw[List.length_map,List.map_map];exact ho) HB1.out)
 obtain⟨Av,cv,rfl⟩:=ownV_slice ho
 clear HO HL
 by_cases hn:L.length=0
 {
 have f1:((L.length:Int)==0)=true:=by rw[hn];rfl
 clear hn
 go_wp2_with fail
 go_ret2
 exact⟨⟨⟨#[]⟩,1,rfl,Nat.zero_le _⟩,HB1.out⟩}
 {
 have f1:((L.length:Int)==0)=false:=by rw[beq_eq_false_iff_ne];omega
 obtain⟨m,hm⟩:∃m,L.length=m+1:=⟨L.length-1,by omega⟩
 have hmI:(L.length:Int)-1=m:=by omega
 have hmB:(m:Int)<=L.length:=by omega
 obtain⟨g,cap,e9,_⟩:=ownV_at ho (by omega)
 cases e9
 obtain⟨_,_,e8,hcap,hcap2⟩:=HV.out.slice
 rw[List.length_map]at e8 hcap
 cases e8
 have hmC:(m:Int)<=cv:=by omega
 have hq:=path31_any w1 (.slice (some ⟨g,0,none⟩) m cv) ((L.map strB).take m) (HV.out.take (by rw[List.length_map];omega)) (by rw[List.length_take,List.length_map];omega) (fun x hx=>by
  obtain⟨p,hp,rfl⟩:=List.mem_map.1 (List.mem_of_mem_take hx)
  rw[strB_size]
  have:=hlz p hp
  omega)
 have HP:=zY hq
 have hmz:((L.map strB).take m).length<=8:=by rw[List.length_take,List.length_map];omega
 generalize (L.map strB).take m=Q at *
 clear hq hm hn HV
 go_wp2_with fail
 refine HP.out.mono ?_
 rintro e2 w2 ⟨⟨u,rfl,hu⟩,rfl⟩
 go_wp2_with fail
 go_ret2
 exact⟨⟨u,0,rfl,by omega⟩,HB1.out⟩}}
 {
 have hne:(P != 0)=true:=by rw[bne_iff_ne];exact h0
 go_wp2_with fail
 go_ret2
 exact⟨⟨⟨#[]⟩,P,rfl,Nat.zero_le _⟩,HB1.out⟩}
def RetB (e:Ending):Prop:=∃b,e=.returned (.bool b)
def RetI (e:Ending):Prop:=∃n:Int,e=.returned (.int .i64 n)
theorem RetB.of (b:Bool):RetB (.returned (.bool b)):=⟨b,rfl⟩
theorem RetI.of (n:Int):RetI (.returned (.int .i64 n)):=⟨n,rfl⟩
theorem under_any (w:World) (s d:ByteArray) (hs:s.size<=1000000) (hd:d.size<=1000000):Calls Tryz.prog 226 #[.string s,.string d] w fun e w'=>RetB e/\Below w.heap.size w w':=by
 have HCs:=zY (fun W=>path_any W s hs)
 have HCd:=zY (fun W=>path_any W d hd)
 have HEs:=zY (fun W=>elems_any W s hs)
 have HEd:=zY (fun W=>elems_any W d hd)
 have hl1:=(elemsL_size (s:=bs s)).2
 have hl2:=(elemsL_size (s:=bs d)).2
 rw[bs_len]at hl1 hl2
 generalize pathE (bs s)=P at *
 generalize pathE (bs d)=Q at *
 generalize elemsL (bs s)=L at *
 generalize elemsL (bs d)=M at *
 go_enter Tryz.func226,Tryz.ntmps226
 go_wp2_with fail
 refine(HCs.out _).mono ?_
 rintro e1 w1 ⟨rfl,hb1⟩
 have HB1:=zY hb1
 clear hb1
 by_cases h0:P=0
 {
 subst h0
 go_wp2_with fail
 refine(HCd.out _).mono ?_
 rintro e2 w2 ⟨rfl,hb2⟩
 have HB2:=zYt HB1 hb2
 clear hb2 HB1
 by_cases h1:Q=0
 {
 subst h1
 go_wp2_with fail
 refine(HEs.out _).mono ?_
 rintro e3 w3 ⟨v3,rfl,ho3,hb3⟩
 have HO3:=zY ho3
 have HB3:=zYt HB2 hb3
 clear ho3 hb3 HB2
 go_wp2_with fail
 refine(HEd.out _).mono ?_
 rintro e4 w2 ⟨v4,rfl,ho4,hb4⟩
 have HL:=zY (ownV_below HO3.out hb4)
 have HM:=zY ho4
 have HB4:=zYt HB3 hb4
 clear ho4 hb4 HB3 HO3
 obtain⟨A1,k1,rfl⟩:=ownV_slice HL.out
 obtain⟨A2,k2,rfl⟩:=ownV_slice HM.out
 by_cases hlt:L.length<M.length
 {
 have f1:(L.length:Int)<M.length:=by omega
 go_wp2
 go_ret
 exact⟨RetB.of false,HB4.out⟩}
 {
 have f1:¬(L.length:Int)<M.length:=by omega
 go_wp2
 go_loopw [7] (fun x wr=>∃i:Nat,i<=M.length/\x=.int .i64 (i:Int)/\Below w2.heap.size w2 wr) (fun x _=>M.length-(intOf x).toNat)
 case atStart=>exact⟨0,by omega,rfl,Below.refl _ _⟩
 case round=>
  obtain⟨i,hi,rfl,hB⟩:=hrel
  have HB:=zY hB
  clear hB
  by_cases h:i<M.length
  {
  have hiI:(i:Int)<M.length:=by omega
  have hiL:(i:Int)<L.length:=by omega
  have hMi:i<M.length:=h
  have hLi:i<L.length:=by omega
  obtain⟨p,hp⟩:∃p,L[i]?=some p:=⟨_,List.getElem?_eq_getElem hLi⟩
  obtain⟨q,hq⟩:∃q,M[i]?=some q:=⟨_,List.getElem?_eq_getElem hMi⟩
  obtain⟨g1,k1,e8,_⟩:=ownV_at HL.out (by omega)
  obtain⟨g2,k2,e9,_⟩:=ownV_at HM.out (by omega)
  cases e8
  cases e9
  have c1:w2.cell? ⟨g1,i,none⟩=some (.string (strB p)):=by
   rw[HL.out.cellAt i (by omega),strsV,List.getElem?_map,hp]
   rfl
  have c2:w2.cell? ⟨g2,i,none⟩=some (.string (strB q)):=by
   rw[HM.out.cellAt i (by omega),strsV,List.getElem?_map,hq]
   rfl
  have c1:=cell_below HB.out c1
  have c2:=cell_below HB.out c2
  clear hp hq hLi hMi
  generalize strB p=X at *
  generalize strB q=Y at *
  by_cases hxy:X=Y
  {
  subst hxy
  have b1:(X != X)=false:=bneV_false rfl
  have b2:(X==X)=true:=beqV_true rfl
  go_upto_region 9 with fail
  go_quiet (fail)
  go_wp2
  go_roundw
  case rel=>exact⟨i+1,by omega,by go_num,zBd HB.out _⟩
  case measure=>simp[intOf];omega}
  {
  have b1:(X != Y)=true:=bneV_true hxy
  have b2:(X==Y)=false:=beqV_false hxy
  have b3:¬X.toList=Y.toList:=fun e=>hxy (by rw[ByteArray.toList_eq,ByteArray.toList_eq]at e;exact ByteArray.ext (Array.toList_inj.1 e))
  have b4:(X.toList==Y.toList)=false:=by rw[beq_eq_false_iff_ne];exact b3
  clear hxy
  go_upto_region 9 with fail
  go_quiet (fail)
  go_wp2
  go_ret
  exact⟨RetB.of false,HB4.out.trans ((zBd HB.out _).mono HB4.out.size)⟩}}
  {
  have hiI:¬(i:Int)<M.length:=by omega
  go_wp2
  go_ret
  exact⟨RetB.of true,HB4.out.trans (HB.out.mono HB4.out.size)⟩}}}
 {
 have hne:(Q != 0)=true:=by rw[bne_iff_ne];exact h1
 go_wp2_with fail
 go_ret
 exact⟨RetB.of false,HB2.out⟩}}
 {
 have hne:(P != 0)=true:=by rw[bne_iff_ne];exact h0
 go_wp2_with fail
 first|(refine⟨trivial,?_⟩;go_wp2_with fail)|skip
 go_ret
 exact⟨RetB.of false,HB1.out⟩}
theorem results_row_tmp {P:Program} {fn:Func} {p u:Tmp} {ty:TypeId} (h:fn.results= #[.cell p ty,.tmp u]) (tmps:Array Value) (w:World) (g:Nat) (t:TypeId) (cs:Array Value) (fr:Nat×Nat) (d:TypeDesc)
  (hp:tmps.getD p undef=.pointer (some ⟨g,0,none⟩)) (hg:w.heap[g]?=some (.cells cs t fr))
  (hu:P.underlying ty=some d) (hd:(match d with|.struct _|.array _ _=>true|_=>false)=true) (hi:(P.info? ty).map (·.size)=some cs.size):
  (results fn tmps).run P w=.ok (.tuple #[.agg cs,tmps.getD u undef]) w:=by
 have hp':tmps[p]?.getD undef=.pointer (some ⟨g,0,none⟩):=by simpa using hp
 rw[results_cell_tmp h]
 simp[hp',asAddr,Result.andThen,run_loadVar_row w g t ty cs fr d hg hu hd hi]
theorem cloneb_any (w:World) (v:Value) (p:List Nat) (hp:BytesAt w v p) (hl:p.length<=1000000):Calls Tryz.prog 378 #[v] w fun e w'=>∃v',e=.returned v'/\BytesAt w' v' p/\Below w.heap.size w w':=by
 have hp0:=hp
 obtain⟨A,c,rfl,h1,h2,h3⟩:=hp
 cases A with
 |none=>
  have hn:p=[]:=by
   cases p with
   |nil=>rfl
   |cons x r=>
    obtain⟨b,o,u,hA,_⟩:=h3 0 x rfl
    cases hA
  subst hn
  have heq:=Lib.run_eql_slice_nil (P:=Tryz.prog) w 117 5 none 0 c 0 0 Tryz.underlying117
  clear h3 hp0
  go_enter Tryz.func378,Tryz.ntmps378
  go_wp2
  go_ret
  exact⟨_,rfl,SlAt.nil w,Below.refl _ _⟩
 |some ad=>
  have heq:=Lib.run_eql_slice_nil (P:=Tryz.prog) w 117 5 (some ad) p.length c 0 0 Tryz.underlying117
  have hown:=own_empty w 5 1
  have hva:VAt (w.alloc (.cells #[] 5)) (.slice (some ad) p.length c) (p.map u8V):=(hp0.below ((Below.refl _ _).alloc (Nat.le_refl _) _)).vAt
  have Hva:=zY hva
  have H3:=zY h3
  clear h3 hva hp0
  go_enter Tryz.func378,Tryz.ntmps378
  go_wp2_with (at_builtin;refine wpList_appendV _ Tryz.underlying117 Tryz.infoU8 rfl (by omega) (by rfl) _ _ rfl w.heap.size _ 0 [] rfl _ rfl hown (p.map u8V) Hva.out (one_u8s p) (by simpa using hl) (by simp) ?_;intro v' w1 hown1 hg1 hat1 hb1)
  go_ret
  simp only[Nat.zero_add,List.nil_append]at hown1
  exact⟨v',rfl,BytesAt.of_own hown1,((Below.refl _ _).alloc (Nat.le_refl _) _).trans hb1⟩
theorem ptrim_any (w:World) (v:Value) (p:List Nat) (hp:BytesAt w v p) (hl:p.length<=1000000):Calls Tryz.prog 376 #[v] w fun e w'=>∃v',e=.returned v'/\BytesAt w' v' (ptrim p)/\Below w.heap.size w w':=by
 have Hp0:=zY hp
 obtain⟨A,c,rfl,h1,h2,h3⟩:=hp
 clear h3
 go_enter Tryz.func376,Tryz.ntmps376
 go_wp2
 go_loop [3] (fun x=>∃k:Nat,k<=p.length/\x=.int .i64 k/\ptrim (p.take k)=ptrim p) (fun x=>(intOf x).toNat)
 case atStart=>exact⟨p.length,Nat.le_refl _,rfl,by rw[List.take_length]⟩
 case round=>
  obtain⟨k,hk,rfl,ht⟩:=hrel
  have Ht:=zY ht
  clear ht
  have hsl:=(Hp0.out).take hk
  have hlk:(p.take k).length<=1000000:=by rw[List.length_take];omega
  have hck:=cloneb_any w (.slice A k c) (p.take k) hsl hlk
  have Hck:=zY hck
  clear hsl hck hlk
  by_cases h0:k=0
  {
  subst h0
  have e:ptrim p=p.take 0:=by rw[<-Ht.out];rfl
  have He:=zY e
  clear e
  go_wp2_with (go_at_call 378;refine Hck.out.mono ?_;rintro e w1 ⟨v1,rfl,hv1,hb1⟩)
  go_ret
  exact⟨v1,rfl,by rw[He.out];exact hv1,hb1⟩}
  {
  have hkp:k-1<p.length:=by omega
  have hp1:p[k-1]?=some (p[k-1]'hkp):=List.getElem?_eq_getElem hkp
  obtain⟨b,o,rfl,hc⟩:=Hp0.out.cell hp1
  have hs1:IntKind.i64.wrap ((k:Int)-1)=((k-1:Nat):Int):=by rw[zIw (by omega)];omega
  have htk:p.take k=p.take (k-1)++[p[k-1]'hkp]:=by
   have:=List.take_add_one (l:=p) (i:=k-1)
   rw[hp1,show k-1+1=k by omega]at this
   exact this
  have hkI:(0:Int)<k:=by omega
  have hkJ:((k-1:Nat):Int)<p.length:=by omega
  generalize p[k-1]'hkp=x at *
  clear hp1
  by_cases hx:x=0
  {
  subst hx
  have hst:ptrim (p.take (k-1))=ptrim p:=by rw[<-Ht.out,htk,ptrim_snoc_zero]
  have Hst:=zY hst
  clear hst htk
  go_wp2
  go_round
  case rel=>exact⟨k-1,by omega,rfl,Hst.out⟩
  case measure=>simp[intOf];omega}
  {
  have e:ptrim p=p.take k:=by rw[<-Ht.out,htk,ptrim_snoc_other _ hx]
  have He:=zY e
  have hxI:((x:Int)==0)=false:=by rw[beq_eq_false_iff_ne];omega
  clear e htk
  go_wp2_with (go_at_call 378;refine Hck.out.mono ?_;rintro e w1 ⟨v1,rfl,hv1,hb1⟩)
  go_ret
  exact⟨v1,rfl,by rw[He.out];exact hv1,hb1⟩
}}
theorem make_u8_sum (a b:Nat) (ha:a<=100000) (hb:b<=100000) (w:World):(Instr.makeSlice 117 (.int .i64 ((a:Int)+b)) (.int .i64 ((a:Int)+b))).run Tryz.prog w=.ok (.slice (some ⟨w.heap.size,0,none⟩) (a+b) (a+b)) (w.alloc (.cells (arrB (List.replicate (a+b) 0)) 5)):=by
 have e:(a:Int)+b=((a+b:Nat):Int):=by omega
 rw[e]
 exact make_u8 _ _ (Nat.le_refl _) (by omega) w
def mulL (p q:List Nat) (n i k:Nat):List Nat:=(List.range n).map fun m=>cv p q i m^^^(if i<=m/\m<i+k then gmul (cf p i) (cf q (m-i)) else 0)
theorem mulL_len (p q:List Nat) (n i k:Nat):(mulL p q n i k).length=n:=by unfold mulL;simp
theorem mulL_get {p q:List Nat} {n i k:Nat} (h:i+k<n):(mulL p q n i k)[i+k]?=some (cv p q i (i+k)):=by
 unfold mulL
 rw[List.getElem?_map,List.getElem?_range h]
 simp
theorem mulL_set {p q:List Nat} {n i k:Nat} (h:i+k<n):(mulL p q n i k).set (i+k) (cv p q i (i+k)^^^gmul (cf p i) (cf q k))=mulL p q n i (k+1):=by
 refine List.ext_getElem? fun j=>?_
 rw[List.getElem?_set,mulL_len]
 unfold mulL
 rw[List.getElem?_map,List.getElem?_map]
 by_cases hj:j<n
 {
 rw[List.getElem?_range hj]
 by_cases hjk:i+k=j
 {
 subst hjk
 have e:i+k-i=k:=by omega
 simp[hj,e]}
 {
 rw[if_neg hjk]
 by_cases h1:i<=j/\j<i+k
 {
 have h2:i<=j/\j<i+(k+1):=by omega
 simp only[Option.map_some,if_pos h1,if_pos h2]}
 {
 have h2:¬(i<=j/\j<i+(k+1)):=by omega
 simp only[Option.map_some,if_neg h1,if_neg h2]}}}
 {
 rw[List.getElem?_eq_none (by simpa using hj),if_neg (by omega)]
 rfl}
theorem mulL_row (p q:List Nat) (n i:Nat):mulL p q n i q.length=mulL p q n (i+1) 0:=by
 unfold mulL
 refine List.map_congr_left fun m _=>?_
 have e:¬(i+1<=m/\m<i+1+0):=by omega
 rw[if_neg e]
 show _=(cv p q i m^^^(if i<=m then gmul (cf p i) (cf q (m-i)) else 0))^^^0
 rw[Nat.xor_zero]
 by_cases h1:i<=m
 {
 by_cases h2:m<i+q.length
 ·rw[if_pos ⟨h1,h2⟩,if_pos h1]
 ·rw[if_neg (by omega),if_pos h1,cf_big (p:=q) (by omega),gmul_zero_right]}
 ·rw[if_neg (by omega),if_neg h1]
theorem mulL_zero (p q:List Nat) (n:Nat):List.replicate n 0=mulL p q n 0 0:=by
 unfold mulL
 refine List.ext_getElem? fun j=>?_
 rw[List.getElem?_map,List.getElem?_replicate]
 by_cases hj:j<n
 {
 rw[if_pos hj,List.getElem?_range hj]
 have e:¬(0<=j/\j<0+0):=by omega
 simp[cv]}
 {
 rw[if_neg hj,List.getElem?_eq_none (by simpa using hj)]
 rfl}
theorem mulL_end (p q:List Nat):mulL p q (p.length+q.length) p.length 0=pmulR p q:=by
 unfold mulL pmulR
 refine List.map_congr_left fun m _=>?_
 rw[if_neg (by omega),Nat.xor_zero]
theorem pmul_any (w:World) (v u:Value) (p q:List Nat) (hp:BytesAt w v p) (hq:BytesAt w u q) (bp:Bytes p) (bq:Bytes q) (hl:p.length<=100000) (hm:q.length<=100000):Calls Tryz.prog 343 #[v,u] w fun e w'=>∃v',e=.returned v'/\BytesAt w' v' (pmul p q)/\Below w.heap.size w w':=by
 have Hp0:=zY hp
 have Hq0:=zY hq
 obtain⟨A,c,rfl,h1,h2,h3⟩:=hp
 obtain⟨A',c',rfl,h1',h2',h3'⟩:=hq
 clear h3 h3'
 have hmk:=make_u8_sum p.length q.length hl hm
 obtain⟨n,hn⟩:=zNm (p.length+q.length)
 rw[hn]at hmk
 have hnl:n<=200000:=by omega
 have HB0:=zY (zBl w (.cells (arrB (List.replicate n 0)) 5))
 have hK0:U8B (w.alloc (.cells (arrB (List.replicate n 0)) 5)) w.heap.size (mulL p q n 0 0):=by
  have:=U8B.new w (List.replicate n 0)
  rw[<-mulL_zero]
  exact this
 have HK0:=zY hK0
 clear hK0
 have hn1:p.length+q.length<=n:=by omega
 have Hn:=zY hn
 clear hn
 go_enter Tryz.func343,Tryz.ntmps343
 go_wp2
 go_loopw [16] (fun x wr=>∃i:Nat,i<=p.length/\x=.int .i64 i/\U8B wr w.heap.size (mulL p q n i 0)/\Below w.heap.size w wr) (fun x _=>p.length-(intOf x).toNat)
 case atStart=>exact⟨0,by omega,rfl,HK0.out,HB0.out⟩
 case round=>
  obtain⟨i,hi,rfl,hb,hB⟩:=hrel
  have Hb:=zY hb
  have HBr:=zY hB
  clear hb hB
  by_cases h:i<p.length
  {
  have hiI:(i:Int)<p.length:=by omega
  obtain⟨wo,hwo⟩:∃wo:World,wo=wr:=⟨_,rfl⟩
  have Hwo:=zY hwo
  clear hwo
  go_wp2
  go_loopw [21] (fun x wr=>∃k:Nat,k<=q.length/\x=.int .i64 k/\U8B wr w.heap.size (mulL p q n i k)/\Below w.heap.size w wr) (fun x _=>q.length-(intOf x).toNat)
  case atStart=>exact⟨0,by omega,rfl,Hb.out,HBr.out⟩
  case round=>
   obtain⟨k,hk,rfl,hb,hB⟩:=hrel
   clear Hb HBr Hwo
   have Hb:=zY hb
   have HBr:=zY hB
   clear hb hB
   by_cases h':k<q.length
   {
   have hkI:(k:Int)<q.length:=by omega
   have hpi:p[i]?=some (cf p i):=by unfold cf;rw[List.getElem?_eq_getElem h];rfl
   have hqk:q[k]?=some (cf q k):=by unfold cf;rw[List.getElem?_eq_getElem h'];rfl
   obtain⟨b,o,rfl,hc⟩:=(Hq0.out.below HBr.out).cell hqk
   obtain⟨b',o',rfl,hc'⟩:=(Hp0.out.below HBr.out).cell hpi
   have hik:i+k<n:=by omega
   have hc1:=Hb.out.cell (mulL_get (p:=p) (q:=q) hik)
   have hf1:=Blk.frozen Hb.out (i+k)
   have Hmul:=zY (fun W=>gmul_any W (cf p i) (cf q k) (cf_lt bp i) (cf_lt bq k))
   have Hadd:=zY (fun W=>gadd_any W (cv p q i (i+k)) (gmul (cf p i) (cf q k)) (cv_lt bp _ _) (gmul_lt _ (cf_lt bp i)))
   have Hset:=zY (mulL_set (p:=p) (q:=q) hik▸U8B.set Hb.out (i+k) (cv p q i (i+k)^^^gmul (cf p i) (cf q k)))
   clear hpi hqk
   generalize gmul (cf p i) (cf q k)=z at *
   generalize cf p i=x at *
   generalize cf q k=y at *
   generalize cv p q i (i+k)=s at *
   have hs1:IntKind.i64.wrap ((i:Int)+k)=(i:Int)+k:=zIw (by omega)
   have hs2:((i:Int)+k).toNat=i+k:=by omega
   have hs3:(0:Int)<=(i:Int)+k:=by omega
   have hs4:(i:Int)+k<n:=by omega
   go_wp2
   go_still_tail 21,(by kernel_rfl)
   still_call (still_of (Hmul.out _))
   repeat still_step
   still_call (still_of (Hadd.out _))
   repeat still_step
   refine wpStill_nil ?_
   go_wp2
   clear hs1 hs2 hs3 hs4
   go_roundw
   case rel=>exact⟨k+1,by omega,by go_num,Hset.out,(HBr.out.setCell (p:=⟨w.heap.size,i+k,none⟩) (Nat.le_refl _) _).drew⟩
   case measure=>simp[intOf];omega}
   {
   have hkn:k=q.length:=by omega
   subst hkn
   have Hb2:=zY (mulL_row p q n i▸Hb.out)
   clear Hb
   go_wp2
   go_roundw
   case rel=>exact⟨i+1,by omega,by go_num,Hb2.out,HBr.out⟩
   case measure=>simp[intOf];omega}}
  {
  have hin:i=p.length:=by omega
  subst hin
  have hl2:(pmulR p q).length=n:=by rw[pmulR_len,Hn.out]
  have hv:BytesAt wr (.slice (some ⟨w.heap.size,0,none⟩) n n) (pmulR p q):=by
   rw[<-mulL_end,Hn.out]
   exact U8B.bytes Hb.out (by rw[mulL_len]) (Nat.le_refl _) (by omega)
  have Ht:=zY (ptrim_any wr _ (pmulR p q) hv (by omega))
  clear hl2 hv
  go_wp2_with (go_at_call 376;refine Ht.out.mono ?_;rintro e w1 ⟨v1,rfl,hv1,hb1⟩)
  go_ret
  exact⟨v1,rfl,hv1,HBr.out.trans (hb1.mono HBr.out.size)⟩
}
theorem make_u8_8 (w:World):(Instr.makeSlice 117 (.int .i64 8) (.int .i64 8)).run Tryz.prog w=.ok (.slice (some ⟨w.heap.size,0,none⟩) 8 8) (w.alloc (.cells (arrB (List.replicate 8 0)) 5)):=make_u8 8 8 (Nat.le_refl _) (by omega) w
end
end Go.Proofs.YthgenkkkapilhaaGreatDoor
