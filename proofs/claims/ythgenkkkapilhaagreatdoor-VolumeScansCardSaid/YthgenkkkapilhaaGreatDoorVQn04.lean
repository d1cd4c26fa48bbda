/-
  Joined: VoN VoO VoP RangeOwn ErA.
-/
import Derived.Test.YthgenkkkapilhaaGreatDoorVQn01
import Derived.RangeFuncNested
import Derived.RangeFuncBound
import Derived.Shelf.RegionOpen
import Derived.OwnWalkIn
import Derived.LoopNIn
import Derived.LoopIn
set_option linter.all false
set_option maxRecDepth 100000
set_option maxHeartbeats 64000000
namespace Go.Proofs.YthgenkkkapilhaaGreatDoor
open Go.Proofs.Tryz
section
open Go.RowKit
def RetN (p:Nat->Prop) (e:Ending):Prop:=∃n:Nat,e=.returned (.int .i64 (n:Int))/\p n
theorem RetN.of {p:Nat->Prop} {n:Nat} (h:p n):RetN p (.returned (.int .i64 (n:Int))):=⟨n,rfl,h⟩
theorem zeros_any (w:World) (s:ByteArray) (i:Nat) (hi:i<=s.size) (hs:s.size<=1000000):Calls prog 289 #[.string s,.int .i64 (i:Int)] w fun e w'=>RetN (fun n=>i+n<=s.size) e/\w=w':=by
 go_enter func289,ntmps289;go_wp2;go_loop [5] (fun x=>∃n:Nat,i+n<=s.size/\x=.int .i64 (n:Int)) (fun x=>s.size-(intOf x).toNat);case atStart=>exact⟨0,by omega,rfl⟩
 case round=>
 obtain⟨n,hn,rfl⟩:=hrel;obtain⟨j,hj⟩:=zNm (i+n);have hjI:(i:Int)+n=j:=by omega
 have hj1:j<=1000000:=by omega
 by_cases h:j<s.size;{
 have hI:(j:Int)<s.size:=by omega
 by_cases h0:(s[j]'h).toNat=0;{
 have e0:(((s[j]'h).toNat:Int)==0)=true:=by rw[h0];rfl
 clear hj;go_wp2;go_round;case rel=>exact⟨n+1,by omega,by go_num⟩
 case measure=>simp[intOf];omega};{
 have e0:(((s[j]'h).toNat:Int)==0)=false:=by rw[beq_eq_false_iff_ne];omega
 clear hj;go_wp2;go_ret;exact⟨RetN.of hn,rfl⟩}};{
 have hI:¬(j:Int)<s.size:=by omega
 clear hj;go_wp2;go_ret;exact⟨RetN.of hn,rfl⟩}
theorem first33_any (w:World) (s:ByteArray) (hs:s.size<=1000000) (h0:0<s.size):Calls prog 290 #[.string s] w fun e w'=>RetN (fun n=>0<n/\n<=s.size) e/\w=w':=by
 go_enter func290,ntmps290;go_wp2;go_loop [3,4] (fun y x=>∃k h:Nat,k<=s.size/\x=.int .i64 (k:Int)/\y=.int .i64 (h:Int)/\h<65536) (fun _ x=>s.size-(intOf x).toNat);case atStart=>exact⟨0,0,by omega,rfl,rfl,by omega⟩
 case round=>
 obtain⟨k,v,hk,rfl,rfl,hv⟩:=hrel;by_cases h:k<s.size;{
 have hkI:(k:Int)<s.size:=by omega
 have hc:=bs_lt s (s[k]'h).toNat (by rw[<-bsc s k h];exact List.mem_of_getElem? (by rw[cf_get (List.getElem?_eq_getElem (by rw[bs_len];exact h))];exact List.getElem?_eq_getElem _));obtain⟨v',hv'⟩:∃v',(2*v+40503*((s[k]'h).toNat+1))%65536=v':=⟨_,rfl⟩;have hvb:v'<65536:=by omega
 have hvE:(2*(v:Int)+40503*(((s[k]'h).toNat:Int)+1))%65536=v':=by omega
 have hvT:Int.tmod (2*(v:Int)+40503*(((s[k]'h).toNat:Int)+1)) 65536=v':=by rw[Int.tmod_eq_emod_of_nonneg (by omega)];exact hvE
 clear hv';obtain⟨j,hj⟩:=zNm (k+1);have hjI:(k:Int)+1=j:=by omega
 by_cases h96:j=96;{
 have f1:((j:Int)==96)=true:=by rw[h96];rfl
 clear h96 hj;go_wp2;go_ret;exact⟨RetN.of ⟨by omega,by omega⟩,rfl⟩};{
 have f1:((j:Int)==96)=false:=by rw[beq_eq_false_iff_ne];omega
 by_cases h16:16<=j;{
 have f2:(16:Int)<=j:=by omega
 by_cases hvs:v'<2048;{
 have f3:(v':Int)<2048:=by omega
 clear hj;go_wp2;go_ret;exact⟨RetN.of ⟨by omega,by omega⟩,rfl⟩};{
 have f3:¬(v':Int)<2048:=by omega
 clear hj;go_wp2;go_round;case rel=>exact⟨j,v',by omega,rfl,rfl,hvb⟩
 case measure=>simp[intOf];omega}};{
 have f2:¬(16:Int)<=j:=by omega
 clear hj;go_wp2;go_round;case rel=>exact⟨j,v',by omega,rfl,rfl,hvb⟩
 case measure=>simp[intOf];omega}}};{
 have hkI:¬(k:Int)<s.size:=by omega
 go_wp2;go_ret;exact⟨RetN.of ⟨h0,Nat.le_refl _⟩,rfl⟩}
def RetStrs (B:Nat) (W:World) (p:List ByteArray->Prop) (e:Ending):Prop:=∃v l,e=.returned v/\W.ownsRow B 9 1 v l.length (l.map .string)/\p l
def sizes:List ByteArray->Nat
 |[]=>0
 |x::r=>x.size+sizes r
theorem sizes_app (l m:List ByteArray):sizes (l++m)=sizes l+sizes m:=by
 induction l with
 |nil=>simp[sizes]
 |cons x r ih=>rw[List.cons_append,sizes,sizes,ih];omega
theorem split33_any (w:World) (s:ByteArray) (hs:s.size<=1000000):Calls prog 220 #[.string s] w fun e w'=>RetStrs w.heap.size w' (fun l=>(∀x∈l,0<x.size/\x.size<=s.size)/\l.length<=s.size/\sizes l=s.size) e/\Below w.heap.size w w':=by
 obtain⟨iS,hi,hq0,hq1,hq2⟩:=infoV_parts Tryz.infoStrV;have HiS:Hid (prog.info? 9=some iS/\iS.zero=some (.string ⟨#[]⟩)/\iS.size=1/\iS.bytes=16):=zY ⟨hi,hq0,hq1,hq2⟩;have HFi:=zY (fun(W:World) (d:ByteArray) (h1:d.size<=1000000) (h2:0<d.size)=>first33_any W d h1 h2);clear hi hq0 hq1 hq2;go_enter func220,ntmps220;go_wp2;go_loopw [0,3,4] (fun y v _ wr=>∃(d:ByteArray) (l:List ByteArray),y=.string d/\(∀x∈l,0<x.size/\x.size<=s.size)/\l.length+d.size<=s.size/\sizes l+d.size=s.size/\wr.ownsRow w.heap.size 9 1 v l.length (l.map .string)/\Below w.heap.size w wr) (fun y _ _ _=>match y with|.string d=>d.size|_=>0);case atStart=>exact⟨s,[],rfl,(fun x hx=>nomatch hx),by simp,by simp[sizes],ownV_new _ _ _,(Below.refl _ _).alloc (Nat.le_refl _) _⟩
 case round=>
 obtain⟨d,l,rfl,hx,hn,hsum,ho,hB⟩:=hrel;have Hx:=zY hx;have Hsum:=zY hsum;have Ho:=zY ho;have HB:=zY hB;clear hx ho hB hsum;obtain⟨Av,cv,rfl⟩:=ownV_slice Ho.out;have hds:d.size<=1000000:=by omega
 by_cases h:0<d.size;{
 have hI:(0:Int)<d.size:=by omega
 have HF:=zY (HFi.out wr d hds h);go_wp2_with fail;refine HF.mono ?_;rintro e1 w1 ⟨⟨n,rfl,hn0,hn1⟩,rfl⟩;have hnI:(n:Int)<=d.size:=by omega
 obtain⟨S,hS⟩:=zNm (d.extract 0 n);have hSz:S.size=n:=by rw[<-hS,ByteArray.size_extract];omega
 obtain⟨D,hD⟩:=zNm (d.extract n d.size);have hDz:D.size=d.size-n:=by rw[<-hD,ByteArray.size_extract];omega
 have HDz:=zY hDz;have HSz:=zY hSz;clear hSz hDz;have Hnews:Hid (∀(q:Nat) (x:Value),([.string S]:List Value)[q]?=some x->(wr.alloc (.cells #[.string S] 9)).cell? ((⟨wr.heap.size,0,none⟩:Addr).add q)=some x):=zY (fun q x hq=>by
  rw[Addr.add_lit,Nat.zero_add]
  exact(Blk.new wr 9 [.string S]).cell hq);have Hone:Hid (∀x∈([.string S]:List Value),x.oneCell'=true):=zY (by simp[Value.oneCell']);have HU:=zY (Ho.alloc (.cells #[.string S] 9));have HB6:=zY (HB.alloc HB.size (.cells #[.string S] 9));go_wp2_with (at_builtin;refine append_atV _ rfl _ _ 51 rfl w.heap.size 9 iS (.string ⟨#[]⟩) 1 16 underlying51 HiS.1 HiS.2.1 HiS.2.2.1 HiS.2.2.2 rfl (by omega) (.slice Av l.length cv) l.length _ rfl HU.out ⟨wr.heap.size,0,none⟩ 1 1 _ rfl rfl Hnews.out Hone.out (by unfold maxLen;omega) (by omega) HB6.size ?_;intro va wa hob hgb _;have KU:=zY hob;have KB:=zY (HB6.grown hgb HB6.size (ownV_ge HU.out));clear hob hgb);go_roundw;case rel=>exact⟨D,l++[S],rfl,fun x hx=>by
  rcases List.mem_append.1 hx with hx|hx
  ·exact Hx.out x hx
  ·rw[List.mem_singleton.1 hx,HSz.out];omega,by rw[List.length_append,HDz.out];simp;omega,by rw[sizes_app,HDz.out,<-Hsum.out];simp only[sizes];rw[HSz.out];omega,by rw[List.length_append,List.map_append];exact KU.out,KB.out⟩
 case measure=>have h3:=HDz.out;simp;omega};{
 have hI:¬(0:Int)<d.size:=by omega
 go_wp2;go_ret;exact⟨⟨_,l,rfl,Ho.out,Hx.out,by omega,by have:=Hsum.out;omega⟩,HB.out⟩}
def RetS (p:ByteArray->Prop) (e:Ending):Prop:=∃s,e=.returned (.string s)/\p s
theorem path31_any (w:World) (v:Value) (l:List ByteArray) (hv:SeqAt strS w v l) (hl:l.length<=1000) (hz:∀x∈l,x.size<=1000):Calls prog 296 #[v] w fun e w'=>RetS (fun s=>s.size<=l.length*1001) e/\w=w':=by
 have Hv:=zY hv;have Hz:=zY hz;obtain⟨A,c,rfl,h1,h2⟩:=hv.slice;clear hv hz;go_enter func296,ntmps296;go_wp2;go_loop [3,4] (fun y x=>∃(k:Nat) (s:ByteArray),k<=l.length/\x=.int .i64 (k:Int)/\y=.string s/\s.size<=k*1001) (fun _ x=>l.length-(intOf x).toNat);case atStart=>exact⟨0,⟨#[]⟩,by omega,rfl,rfl,Nat.zero_le _⟩
 case round=>
 obtain⟨k,s,hk,rfl,rfl,hs⟩:=hrel;by_cases h:k<l.length;{
 have hkI:(k:Int)<l.length:=by omega
 obtain⟨x,hx⟩:∃x,l[k]?=some x:=⟨_,List.getElem?_eq_getElem h⟩;have hxz:=Hz.out x (List.mem_of_getElem? hx);obtain⟨_,_,e9,_,_,h4⟩:=Hv.out;cases e9;obtain⟨b,o,cs,rfl,rfl,hc⟩:=h4 k x hx;have c0:w.cell? ⟨b,o+k,none⟩=some (.string x):=by simpa [strS]using hc 0 _ rfl
 clear hc h4 hx;have hcc:¬9223372036854775807<s.size+x.size:=by omega
 by_cases h0:k=0;{
 subst h0;rw[Nat.add_zero]at c0;rw[show ((0:Nat):Int)=0 from rfl];go_wp2;go_round;case rel=>exact⟨1,_,by omega,by go_num,rfl,by rw[ByteArray.size_append];omega⟩
 case measure=>simp[intOf];omega};{
 have f1:(0:Int)<k:=by omega
 have n0:0<k:=by omega
 have hcd:¬9223372036854775807<s.size+1:=by omega
 have hce:¬9223372036854775807<s.size+1+x.size:=by omega
 go_wp2;go_round;case rel=>exact⟨k+1,_,by omega,by go_num,rfl,by rw[ByteArray.size_append,ByteArray.size_append];show s.size+1+x.size<=_;omega⟩
 case measure=>simp[intOf];omega}};{
 obtain rfl:k=l.length:=by omega
 have hkI:¬((l.length:Nat):Int)<(l.length:Int):=by omega
 go_wp2;go_ret;exact⟨⟨s,rfl,hs⟩,rfl⟩}
theorem strs_read {W w0:World} {B:Nat} {v:Value} {l:List ByteArray} (h:W.ownsRow B 9 1 v l.length (l.map .string)) (_:Below w0.heap.size w0 W):SeqAt strS W v l:=by
 rcases h.2 with⟨rfl,h0⟩|⟨g,cap,cur,rfl,_,_,h1,h2,_⟩;{
 obtain rfl:=List.length_eq_zero_iff.1 h0;exact SeqAt.nil _};{
 refine⟨_,_,rfl,h1,by unfold maxLen at h2;omega,fun i x hx=>⟨g,0,[.string x],rfl,rfl,fun j u hu=>?_⟩⟩;have hi:i<l.length:=(List.getElem?_eq_some_iff.1 hx).1;have hj:j=0:=by have:=(List.getElem?_eq_some_iff.1 hu).1;simp at this;omega
 subst hj;obtain rfl:Value.string x=u:=by simpa using hu
 have e:(0:Nat)+i*strS.n+0=i:=by show 0+i*1+0=i;omega
 rw[e,h.cellAt i (by omega),List.getElem?_map,hx];rfl}
theorem SeqAt.take {α:Type} {ρ:Shape α} {W:World} {A:Option Addr} {n c m:Nat} {xs:List α} (h:SeqAt ρ W (.slice A n c) xs) (hm:m<=xs.length):SeqAt ρ W (.slice A m c) (xs.take m):=by
 obtain⟨A',c',e,h1,h2,h3⟩:=h;cases e;have hl:(xs.take m).length=m:=by rw[List.length_take];omega
 refine⟨_,_,by rw[hl],by rw[hl];omega,h2,fun i x hx=>h3 i x ?_⟩;rw[List.getElem?_take]at hx;split at hx;{exact hx};{
 cases hx}
theorem split31_any (w:World) (s:ByteArray) (hs:s.size<=1000000):Calls prog 295 #[.string s] w fun e w'=>(∃v,e=.returned (.tuple #[v,.int .i64 (pathE (bs s))])/\(pathE (bs s)=0->w'.ownsRow w.heap.size 9 1 v (elemsL (bs s)).length (strsV (elemsL (bs s)))))/\Below w.heap.size w w':=by
 have HC:=zY (fun W=>path_any W s hs);have HE:=zY (fun W=>elems_any W s hs);obtain⟨P,hP⟩:=zNm (pathE (bs s));rw[hP]at HC⊢;clear hP;go_enter func295,ntmps295;go_wp2_with fail;refine(HC.out _).mono ?_;rintro e1 w1 ⟨rfl,hb1⟩;have HB1:=zY hb1;clear hb1;by_cases h0:P=0;{
 subst h0;go_wp2_with fail;refine(HE.out _).mono ?_;rintro e2 w2 ⟨v,rfl,ho,hb2⟩;have HO:=zY ho;have HB2:=zYt HB1 hb2;have hs1:=HB1.size;clear ho hb2;go_wp2_with fail;go_ret2;have hr:w2.ownsRow w.heap.size 9 1 v (elemsL (bs s)).length (strsV (elemsL (bs s))):=⟨HO.1,HO.2.imp id fun⟨g,cap,cur,e,hB,r⟩=>⟨g,cap,cur,e,by omega,r⟩⟩;first|exact⟨⟨v,rfl,hr⟩,HB2.out⟩|exact⟨⟨v,rfl,fun _=>hr⟩,HB2.out⟩};{
 have hne:(P != 0)=true:=by rw[bne_iff_ne];exact h0
 go_wp2_with fail;go_ret2;exact⟨⟨.slice none 0 0,rfl,fun h=>absurd h h0⟩,HB1.out⟩}
def RetSE (p:ByteArray->Int->Prop) (e:Ending):Prop:=∃s n,e=.returned (.tuple #[.string s,.int .i64 n])/\p s n
theorem parent31_any (w:World) (s:ByteArray) (hs:s.size<=1000000):Calls prog 227 #[.string s] w fun e w'=>RetSE (fun u _=>u.size<=10000) e/\Below w.heap.size w w':=by
 have HS:=zY (fun W=>split31_any W s hs);have HL:Hid (pathE (bs s)=0->(elemsL (bs s)).length<=8/\∀x∈elemsL (bs s),x.length<=200):=zY (fun h=>by
  rw[pathE]at h
  split at h
  ·cases h
  ·split at h
   ·cases h
   ·refine⟨by omega,fun x hx=>?_⟩
    have:=(elemsL_size (s:=bs s)).1 x hx
    omega);generalize elemsL (bs s)=L at *;generalize pathE (bs s)=P at *;go_enter func227,ntmps227;go_wp2_with fail;refine(HS.out _).mono ?_;rintro e1 w1 ⟨⟨v,rfl,ho⟩,hb1⟩;have HO:=zY ho;have HB1:=zY hb1;clear ho hb1;by_cases h0:P=0;{
 subst h0;have ho:=HO.out rfl;obtain⟨hl8,hlz⟩:=HL.out rfl;have HV:Hid (SeqAt strS w1 v (L.map strB)):=zY (strs_read (l:=L.map strB) (by rw[List.length_map,List.map_map];exact ho) HB1.out);obtain⟨Av,cv,rfl⟩:=ownV_slice ho;clear HO HL;by_cases hn:L.length=0;{
 have f1:((L.length:Int)==0)=true:=by rw[hn];rfl
 clear hn;go_wp2_with fail;go_ret2;exact⟨⟨⟨#[]⟩,1,rfl,Nat.zero_le _⟩,HB1.out⟩};{
 have f1:((L.length:Int)==0)=false:=by rw[beq_eq_false_iff_ne];omega
 obtain⟨m,hm⟩:∃m,L.length=m+1:=⟨L.length-1,by omega⟩;have hmI:(L.length:Int)-1=m:=by omega
 have hmB:(m:Int)<=L.length:=by omega
 obtain⟨g,cap,e9,_⟩:=ownV_at ho (by omega);cases e9;obtain⟨_,_,e8,hcap,hcap2⟩:=HV.slice;rw[List.length_map]at e8 hcap;cases e8;have hmC:(m:Int)<=cv:=by omega
 have hq:=path31_any w1 (.slice (some ⟨g,0,none⟩) m cv) ((L.map strB).take m) (HV.take (by rw[List.length_map];omega)) (by rw[List.length_take,List.length_map];omega) (fun x hx=>by
  obtain⟨p,hp,rfl⟩:=List.mem_map.1 (List.mem_of_mem_take hx)
  rw[strB_size]
  have:=hlz p hp
  omega);have HP:=zY hq;have hmz:((L.map strB).take m).length<=8:=by rw[List.length_take,List.length_map];omega
 generalize (L.map strB).take m=Q at *;clear hq hm hn HV;go_wp2_with fail;refine HP.mono ?_;rintro e2 w2 ⟨⟨u,rfl,hu⟩,rfl⟩;go_wp2_with fail;go_ret2;exact⟨⟨u,0,rfl,by omega⟩,HB1.out⟩}};{
 have hne:(P != 0)=true:=by rw[bne_iff_ne];exact h0
 go_wp2_with fail;go_ret2;exact⟨⟨⟨#[]⟩,P,rfl,Nat.zero_le _⟩,HB1.out⟩}
end
end Go.Proofs.YthgenkkkapilhaaGreatDoor
namespace Go.Proofs.YthgenkkkapilhaaGreatDoor.rangeOwn
open Go.Proofs.Tryz
section
open Go.RowKit
structure Aside (X:Nat->Prop) (n:Nat) (A B:World):Prop where
 os:B.os=A.os
 tape:B.tape=A.tape
 output:B.output=A.output
 size:A.heap.size<=B.heap.size
 low:∀k,k<n->¬X k->B.heap[k]?=A.heap[k]?
 cells:∀(k:Nat) (o:Obj),¬X k->A.heap[k]?=some o->o.isCells=true->B.heap[k]?=some o
theorem Aside.of_below {X:Nat->Prop} {n:Nat} {A B:World} (h:Below A.heap.size A B) (hn:n<=A.heap.size):Aside X n A B:=
 ⟨h.os,h.tape,h.output,h.size,fun k hk _=>h.block k (by omega),fun k o _ hk _=>(h.block k (Array.getElem?_eq_some_iff.1 hk).1).trans hk⟩
theorem Aside.putObj {X:Nat->Prop} {n:Nat} {A:World} {l:Nat} {o:Obj} (o':Obj) (hn:n<=l) (hl:A.heap[l]?=some o) (ho:o.isCells=false):Aside X n A (A.putObj l o'):=
 ⟨rfl,rfl,rfl,by simp,fun k hk _=>World.putObj_heap_other (by omega),fun k o2 _ hk hc=>(World.putObj_heap_other (fun e=>by subst e;rw[hl]at hk;cases hk;rw[ho]at hc;cases hc)).trans hk⟩
theorem Aside.trans {X:Nat->Prop} {n:Nat} {A B C:World} (h:Aside X n A B) (k:Aside X n B C):Aside X n A C:=
 ⟨k.os.trans h.os,k.tape.trans h.tape,k.output.trans h.output,Nat.le_trans h.size k.size,fun i hi hx=>(k.low i hi hx).trans (h.low i hi hx),fun i o hx ho hc=>k.cells i o hx (h.cells i o hx ho hc) hc⟩
theorem Aside.mono {X:Nat->Prop} {n n':Nat} {A B:World} (h:Aside X n A B) (hn:n'<=n):Aside X n' A B:=
 ⟨h.os,h.tape,h.output,h.size,fun k hk hx=>h.low k (by omega) hx,h.cells⟩
theorem Aside.setX {X:Nat->Prop} {n:Nat} {A:World} {p:Addr} (hp:X p.block) (u:Value):Aside X n A (A.setCell p u):=
 ⟨rfl,rfl,rfl,by simp,fun k _ hx=>Below.heap_setCell _ _ _ _ (fun e=>hx (by rw[e];exact hp)),fun k o hx ho _=>(Below.heap_setCell _ _ _ _ (fun e=>hx (by rw[e];exact hp))).trans ho⟩
def KeepsOn (S:Nat->Prop) (A B:World):Prop:=A.heap.size<=B.heap.size/\∀k,S k->k<A.heap.size->B.heap[k]?=A.heap[k]?
theorem KeepsOn.trans {S:Nat->Prop} {A B C:World} (h:KeepsOn S A B) (k:KeepsOn S B C):KeepsOn S A C:=
 ⟨Nat.le_trans h.1 k.1,fun i hs hi=>(k.2 i hs (Nat.lt_of_lt_of_le hi h.1)).trans (h.2 i hs hi)⟩
def IterAll {α:Type} (P:Program) (g:Nat) (lb:Array Value) (Rd:α->Array Value->World->Prop) (old X:Nat->Prop) (xs:List α) (W0:World):Prop:=
 ∀(l:Nat) (J:List α->World->Prop) (W:World),Below W0.heap.size W0 W ->
  (∀s A B,J s A->Aside X A.heap.size A B->J s B) ->
  (∀pre x args W1,J pre W1->Rd x args W1->(pre++[x]) <+: xs->YieldAt Fence.wide 0 P l args W1 fun e W'=>e=.returned (.bool true)/\J (pre++[x]) W'/\KeepsOn (fun k=>old k∨W.heap.size<=k) W1 W') ->
  J [] W ->
  CallsIn Fence.wide 0 P g (#[.func (.yield l) #[] #[]]++lb) W fun e W'=>(∃v,e=.returned v)/\J xs W'
def goesOn {α:Type} (S:Nat->Prop) (I:List α->World->Prop) (xs:List α) (W:World):Exit->Act->World->Prop
 |.normal,_,W'=>KeepsOn S W W'/\I xs W'
 |_,_,_=>False
theorem wpIn_rangeFunc_all {α:Type} {P:Program} {g:Operand} {ps:Array Tmp} {assign body:Code} {Q:Exit->Act->World->Prop} {a:Act} {w:World}
  {gf:Nat} {lb:Array Value} (hg:a.eval g=.func (.func gf) #[] lb) (eg:∀args w,(callFunc gf args).run P w=.ok (.enter gf args) w)
  {Rd:α->Array Value->World->Prop} {old X:Nat->Prop} {xs:List α} (hseq:IterAll P gf lb Rd old X xs w) (hold:∀k,old k->k<w.heap.size) (hX:∀k,X k->k<w.heap.size)
  (hps:∀x args W,Rd x args W->args.size=ps.size) (hRd:∀x args A B,Rd x args A->Aside X w.heap.size A B->Rd x args B)
  (I:List α->World->Prop) (hI:∀s A B,I s A->w.heap.size<=A.heap.size->Aside X w.heap.size A B->I s B) (h0:I [] w) (a₁:Array Value->Act)
  (hassign:∀(l:Nat) (x:α) (args:Array Value) (W:World) (K:Act->World->Prop),Rd x args W->K (a₁ args) W ->
   assign.wpIn (Fence.wide.inRound l) 0 P (Exit.then K (fun _ _ _=>False)) { tmps:=(ps.zip args).foldl (fun t (p,v)=>t.setIfInBounds p v) a.tmps,defers:=[] } W)
  (hbody:∀(l:Nat) (pre:List α) (x:α) (args:Array Value) (W:World),w.heap.size+2<=W.heap.size->I pre W->Rd x args W->(pre++[x]) <+: xs ->
   body.wpIn (Fence.wide.inRound l) 0 P (goesOn (fun k=>old k∨w.heap.size<=k) I (pre++[x]) W) (a₁ args) W)
  (hdone:∀(D:Nat) (W:World),w.heap.size<=D->I xs W->W.heap[D]?=some (.deferred (some []))->Q .normal { a with defers:={ target:=.collected D,args:= #[] }::a.defers } W):
  (Code.rangeFunc g ps assign body).wpIn Fence.wide 0 P Q a w:=by
 refine wpIn_rangeFunc ?_;intro fn _;obtain⟨rec,hrec⟩:∃rec:LoopState->Option Code->Loop,rec=fun st pe=>{ state:=st,pending:=pe,fn,tmps:=a.tmps,params:=ps,assign,body,defers:=w.heap.size }:=⟨_,rfl⟩;obtain⟨W1,hW1⟩:=zNm ((w.alloc (.deferred (some []))).alloc (.loop (rec .ready none)));have hs1:W1.heap.size=w.heap.size+2:=by rw[<-hW1];simp
 have hL1:W1.heap[w.heap.size+1]?=some (.loop (rec .ready none)):=by rw[<-hW1];have:=World.alloc_heap_new (w.alloc (.deferred (some []))) (.loop (rec .ready none));rwa [World.size_alloc]at this
 have hK1:W1.heap[w.heap.size]?=some (.deferred (some [])):=by rw[<-hW1];exact(Below.heap_alloc _ _ _ (by simp)).trans (World.alloc_heap_new w _)
 have hb1:Below w.heap.size w W1:=by rw[<-hW1];exact((Below.refl _ w).alloc (Nat.le_refl _) _).alloc (by simp) _
 have hI1:I [] W1:=hI _ _ _ h0 (Nat.le_refl _) (Aside.of_below hb1 (Nat.le_refl _));refine⟨w.heap.size+1,[{ target:=.collected w.heap.size,args:= #[] }],W1,{ target:=.fn (.func gf) lb,args:= #[.func (.yield (w.heap.size+1)) #[] #[]] },W1,gf,
  #[.func (.yield (w.heap.size + 1)) #[] #[]] ++ lb, W1, ?_, ?_, fun _ _ => trivial, ?_, (fun h => by cases h), ?_⟩;{rw[<-hW1,hrec];exact run_enterLoop_outer _ _ _ _ _};{
 simp only[resolve,hg];simp[go_sem]};{simp[invoke,go_sem,eg]};{
 refine(hseq (w.heap.size+1)
  (fun pre W=>w.heap.size+2<=W.heap.size/\I pre W/\W.heap[w.heap.size+1]?=some (.loop (rec .ready none))/\W.heap[w.heap.size]?=some (.deferred (some [])))
  W1 hb1 (fun s A B hs hAB=>⟨Nat.le_trans hs.1 hAB.size,hI _ _ _ hs.2.1 (by have:=hs.1;omega) (hAB.mono (by have:=hs.1;omega)),(hAB.low _ (by have:=hs.1;omega) (fun h=>by have:=hX _ h;omega)).trans hs.2.2.1,(hAB.low _ (by have:=hs.1;omega) (fun h=>by have:=hX _ h;omega)).trans hs.2.2.2⟩)
  ?_ ⟨by omega,hI1,hL1,hK1⟩).mono ?_;{
 rintro pre x args W ⟨hsz,hi,hl,hk⟩ hrd hpre;have hy:=run_yield (P:=P) (args:=args) hl (by rw[hrec];exact hps x args W hrd);rw[hrec]at hy;refine⟨fn,_,assign,body,hy,roundIn_of_wpIn trivial (hassign _ x args W _ hrd ⟨_,run_beginRound hl (by rw[hrec]),?_⟩)⟩;obtain⟨W2,hW2⟩:=zNm (W.putObj (w.heap.size+1) (.loop { rec .ready none with state:=.busy }));have hA2:Aside X w.heap.size W W2:=by rw[<-hW2];exact Aside.putObj _ (by omega) hl rfl
 have hl2:W2.heap[w.heap.size+1]?=some (.loop { rec .ready none with state:=.busy }):=by rw[<-hW2];exact World.putObj_heap_same (by omega)
 have hk2:W2.heap[w.heap.size]?=some (.deferred (some [])):=by rw[<-hW2];exact(World.putObj_heap_other (by omega)).trans hk
 have hs2:W2.heap.size=W.heap.size:=by rw[<-hW2];simp
 rw[hW2];refine wpIn_mono (hbody _ pre x args W2 (by omega) (hI _ _ _ hi (by omega) hA2) (hRd _ _ _ _ hrd hA2) hpre) ?_;rintro e a3 W3 hp;cases e with
 |normal=>(
 obtain⟨hk3,hi3⟩:=hp;have hl3:W3.heap[w.heap.size+1]?=some (.loop { rec .ready none with state:=.busy }):=(hk3.2 _ (.inr (by omega)) (by omega)).trans hl2;have hd3:W3.heap[w.heap.size]?=some (.deferred (some [])):=(hk3.2 _ (.inr (Nat.le_refl _)) (by omega)).trans hk2;have hs3:=hk3.1;have hr:=run_endRound (P:=P) none hl3;rw[hrec]at hr;have hA4:Aside X w.heap.size W3 (W3.putObj (w.heap.size+1) (.loop (rec .ready none))):=Aside.putObj _ (by omega) hl3 rfl;rw[hrec]at hA4;refine⟨_,_,hr,rfl,⟨by simp;omega,hI _ _ _ hi3 (by omega) hA4,?_,?_⟩,by simp;omega,fun k hkS hkl=>?_⟩;{rw[hrec];exact World.putObj_heap_same (by omega)};{exact(World.putObj_heap_other (by omega)).trans hd3};{
 have hkne:k≠w.heap.size+1:=by rcases hkS with h|h;{have:=hold k h;omega};{omega}
 refine(World.putObj_heap_other hkne).trans ((hk3.2 k ?_ (by omega)).trans ?_);{
 rcases hkS with h|h;{exact .inl h};{exact .inr (by omega)}};{rw[<-hW2];exact World.putObj_heap_other hkne}})
 |_=>exact hp.elim};{
 rintro e W2 ⟨⟨v,rfl⟩,hsz,hi,hl,hk⟩;refine⟨none,_,by have:=run_endLoop (P:=P) hl (by rw[hrec];simp);rw[hrec]at this;exact this,hdone _ _ (Nat.le_refl _) (hI _ _ _ hi (by omega) (Aside.putObj _ (by omega) hl rfl)) ((World.putObj_heap_other (by omega)).trans hk)⟩}}
end
end Go.Proofs.YthgenkkkapilhaaGreatDoor.rangeOwn
namespace Go.Proofs.YthgenkkkapilhaaGreatDoor
open Go.Proofs.Tryz
section
open Go.RowKit Go.Shelf
attribute [local go_sem] Oper.semAt_some
def bitsOf:Nat->Nat->List Bool
 |0,_=>[]
 |k+1,n=>if n=0 then [] else (n%2==1)::bitsOf k (n/2)
def RdBool (x:Bool) (args:Array Value) (_:World):Prop:=args= #[.bool x]
theorem i64_and1 {a:Nat} (ha:a<9223372036854775808):bits .and .i64 (a:Int) 1=((a%2:Nat):Int):=by
 show IntKind.i64.wrap ((BitVec.ofInt 64 (a:Int)&&&BitVec.ofInt 64 1).toNat:Int)=_;have e:(BitVec.ofInt 64 (a:Int)&&&BitVec.ofInt 64 1).toNat=a%2:=by rw[BitVec.toNat_and,BitVec.ofInt_natCast,BitVec.toNat_ofNat,Nat.mod_eq_of_lt (by omega)];exact Nat.and_one_is_mod a
 rw[e];exact zIw (by omega)
theorem Boxed.keeps' {A B:World} {k:Nat} {t:TypeId} {v:Value} {S:Nat->Prop} (h:Boxed A k t v) (hk:rangeOwn.KeepsOn S A B) (hS:S k):Boxed B k t v:=(hk.2 k hS h.lt).trans h
theorem binary_all (n nb:Nat) (W0:World) (hn:n<256) (hb0:Boxed W0 nb 3 (.int .i64 n)):
  rangeOwn.IterAll prog 391 #[.pointer (some ⟨nb,0,none⟩)] RdBool (fun k=>k=nb) (fun k=>k=nb) (bitsOf 8 n) W0:=by
 intro l J W hb hJ hY h0;have hbx:Boxed W nb 3 (.int .i64 n):=(hb.block nb hb0.lt).trans hb0;have Hbx:=zY hbx;have HJ:=zY hJ;have HY:=zY hY;clear hbx hJ hY;refine callsIn_of_wp func391 rfl trivial ?_ rfl;simp only[ntmps391,List.size_toArray,List.length_cons,List.length_nil,Nat.reduceAdd,Nat.reduceSub,Array.replicate_succ,Array.replicate_zero,List.push_toArray,List.append_toArray,List.nil_append,List.cons_append];gi_wp2;gi_loopw [3] (fun _ wr=>∃(k m:Nat) (pre:List Bool),k<=8/\m<2^k/\Boxed wr nb 3 (.int .i64 m)/\pre++bitsOf k m=bitsOf 8 n/\J pre wr)
  (fun _ wr=>(intOf ((wr.cell? ⟨nb,0,none⟩).getD undef)).toNat);case atStart=>exact⟨8,n,[],Nat.le_refl _,hn,Hbx.out,rfl,h0⟩
 case round=>
 obtain⟨k,m,pre,hk,hm,hbm,hpre,hj⟩:=hrel;have hcm:=hbm.cell;have hm8:m<256:=Nat.lt_of_lt_of_le hm (Nat.pow_le_pow_right (i:=k) (j:=8) (by omega) hk);by_cases hz:m=0;{
 subst hz;have e:pre=bitsOf 8 n:=by rw[<-hpre];cases k<;>simp[bitsOf]
 have He:=zY e;have Hj:=zY hj;clear hpre hj e;gi_wp2;go_end0;exact⟨⟨_,rfl⟩,He.out▸Hj.out⟩};{
 obtain⟨k,rfl⟩:∃j,k=j+1:=by{
 cases k with
 |zero=>exact absurd (by simpa using hm) hz
 |succ j=>exact⟨j,rfl⟩};have hbits:bitsOf (k+1) m=(m%2==1)::bitsOf k (m/2):=by rw[bitsOf,if_neg hz]
 rw[hbits]at hpre;have hpos:(0:Int)<m:=by omega
 have hpN:0<m:=by omega
 have hbt:(bits .and .i64 (m:Int) 1==1)=(m%2==1):=by rw[i64_and1 (by omega),Bool.eq_iff_iff,beq_iff_eq,beq_iff_eq];omega
 obtain⟨fn,tmps,assign,body,hy,hR⟩:=HY.out pre (m%2==1) #[.bool (m%2==1)] wr hj rfl ⟨bitsOf k (m/2),by rw[<-hpre];simp⟩;have HR:=zY hR;have Hpre:=zY hpre;have Hbm:=zY hbm;have hh:m/2<2^k:=by rw[Nat.pow_succ]at hm;omega
 have Hh:=zY hh;clear hR hpre hbm hj hbits hh hm;gi_wp2;refine⟨rfl,HR.mono ?_⟩;rintro e W1 ⟨rfl,hj1,hk1⟩;have hb1:=Boxed.keeps' Hbm.out hk1 (.inl rfl);have hc1:=hb1.cell;have hf1:=hb1.frozen;have Hb1:=zY hb1;clear hb1;gi_wp2;go_roundw;case rel=>refine⟨k,m/2,pre++[m%2==1],by omega,Hh.out,?_,by rw[<-Hpre.out];simp,HJ.out _ _ _ hj1 (rangeOwn.Aside.setX (X:=fun k=>k=nb) (p:=⟨nb,0,none⟩) rfl _)⟩;exact Boxed.set _ Hb1.out
 case measure=>
 rw[(Boxed.set _ Hb1.out).cell,Hbm.cell];simp[intOf];omega}
theorem binary_any (w:World) (n:Int):
  Calls prog 368 #[.int .i64 n] w fun e w'=>e=.returned (.func (.func 391) #[] #[.pointer (some ⟨w.heap.size,0,none⟩)])/\w.alloc (.cells #[.int .i64 n] 3)=w':=by
 go_enter func368,ntmps368;go_wp2;go_ret;exact⟨rfl,rfl⟩
def powStep (s:Nat×Nat) (b:Bool):Nat×Nat:=(if b then gmul s.1 s.2 else s.1,gmul s.2 s.2)
theorem powStep_all:∀(k p a n:Nat),((bitsOf k n).foldl powStep (p,a)).1=gpowL k p a n
 |0,_,_,_=>rfl
 |k+1,p,a,n=>by
  rw[bitsOf,gpowL]
  split
  ·rfl
  {
  rw[List.foldl_cons,<-powStep_all k]
  congr 2
  simp only[powStep]
  congr 1
  by_cases h:n%2=1<;>simp[h]}
theorem powStep_lt (l:List Bool):∀(s:Nat×Nat),s.1<256->s.2<256->(l.foldl powStep s).1<256/\(l.foldl powStep s).2<256:=by
 induction l with
 |nil=>exact fun s h1 h2=>⟨h1,h2⟩
 |cons b l ih=>
 intro s h1 h2;refine ih _ ?_ (gmul_lt _ h2);simp only[powStep];split;{exact gmul_lt _ h1};{exact h1}
theorem keeps_set {S:Nat->Prop} {A:World} {p:Addr} (hp:¬S p.block) (u:Value):rangeOwn.KeepsOn S A (A.setCell p u):=
 ⟨by simp,fun k hk _=>Below.heap_setCell _ _ _ _ fun e=>hp (by rw[<-e];exact hk)⟩
structure PowI (w:World) (H a:Nat) (pre:List Bool) (W:World):Prop where
 below:Below H w W
 ba:Boxed W H 5 (.int .u8 ((pre.foldl powStep (1,a)).2:Nat))
 bp:Boxed W (H+1) 5 (.int .u8 ((pre.foldl powStep (1,a)).1:Nat))
theorem power_any (w:World) (a n:Nat) (ha:a<256) (hn:n<256):Calls prog 321 #[.int .u8 a,.int .i64 n] w fun e w'=>e=.returned (.int .u8 (gpow a n:Nat))/\Below w.heap.size w w':=by
 refine(callsIn_wide (n:=0)).1 ?_;refine callsIn_of_wp_marks func321 rfl trivial ?_ rfl;simp only[ntmps321,List.size_toArray,List.length_cons,List.length_nil,Nat.reduceAdd,Nat.reduceSub,Array.replicate_succ,Array.replicate_zero,List.push_toArray,List.append_toArray,List.nil_append,List.cons_append];gi_wp2_with (refine⟨trivial,rfl,?_⟩;gi_at_call 368;refine(callsIn_wide.2 (binary_any _ _)).mono ?_;rintro e w' ⟨rfl,rfl⟩);obtain⟨W0,hW0⟩:=zNm (((w.alloc (.cells #[.int .u8 a] 5)).alloc (.cells #[.int .u8 1] 5)).alloc (.cells #[.int .i64 n] 3));have hsz0:W0.heap.size=w.heap.size+1+1+1:=by rw[<-hW0];simp
 have hb0:Below w.heap.size w W0:=by rw[<-hW0];exact(((Below.refl _ _).alloc (Nat.le_refl _) _).alloc (by simp) _).alloc (by simp;omega) _
 have hba:Boxed W0 w.heap.size 5 (.int .u8 a):=by rw[<-hW0];exact((Boxed.new _ _ _).alloc _).alloc _
 have hbp:Boxed W0 (w.heap.size+1) 5 (.int .u8 1):=by rw[<-hW0];have:=(Boxed.new (w.alloc (.cells #[.int .u8 a] 5)) 5 (.int .u8 1)).alloc (.cells #[.int .i64 n] 3);simpa using this
 have hbn:Boxed W0 (w.heap.size+1+1) 3 (.int .i64 n):=by rw[<-hW0];have:=Boxed.new ((w.alloc (.cells #[.int .u8 a] 5)).alloc (.cells #[.int .u8 1] 5)) 3 (.int .i64 n);simpa using this
 have hI0:PowI w w.heap.size a [] W0:=⟨hb0,hba,hbp⟩;rw[hW0];clear hW0 hba hbp;have hold:∀k,k=w.heap.size+1+1->k<W0.heap.size:=fun k hk=>by omega
 refine rangeOwn.wpIn_rangeFunc_all (gf:=391) (lb:= #[.pointer (some ⟨w.heap.size+1+1,0,none⟩)]) rfl (enters_of func391 (by kernel_rfl) rfl) (binary_all n (w.heap.size+1+1) W0 hn hbn)
  hold hold (fun x args W hr=>by rw[show args= #[.bool x] from hr];rfl) (fun x args X Y hr _=>hr)
  (PowI w w.heap.size a) (fun s X Y hs _ ha=>?_) hI0
  (fun args=>{ tmps:= #[.int .u8 a,.int .i64 n,.pointer (some ⟨w.heap.size,0,none⟩),undef,.int .u8 0,.pointer (some ⟨w.heap.size+1,0,none⟩),args.getD 0 undef,.int .i64 n,
   .func (.func 391) #[] #[.pointer (some ⟨w.heap.size+1+1,0,none⟩)],args.getD 0 undef,undef,undef,undef,undef,undef,undef,undef,undef],defers:=[] })
  ?assign ?body ?done;{
 refine⟨⟨ha.os.trans hs.below.os,ha.tape.trans hs.below.tape,ha.output.trans hs.below.output,Nat.le_trans hs.below.size ha.size,fun k hk=>(ha.low k (by omega) (by omega)).trans (hs.below.block k hk)⟩,?_,?_⟩;{exact ha.cells _ _ (by omega) hs.ba rfl};{exact ha.cells _ _ (by omega) hs.bp rfl}};case assign=>intro l x args W K hr hK;obtain rfl:args= #[.bool x]:=hr;simp only[Array.getD,List.size_toArray,List.length_cons,List.length_nil,Nat.zero_add,Nat.lt_add_one,dite_true,List.getElem_toArray,List.getElem_cons_zero,Array.getInternal_eq_getElem]at hK;gi_wp2;exact hK
 case body=>(
 intro l pre x args W hsz hI hr hpre;obtain rfl:args= #[.bool x]:=hr;obtain⟨hB,h1,h2⟩:=hI;have hlt:=powStep_lt pre (1,a) (by omega) ha;have hst:(pre++[x]).foldl powStep (1,a)=powStep (pre.foldl powStep (1,a)) x:=by rw[List.foldl_append];rfl
 have Hst:=zY hst;generalize (pre.foldl powStep (1,a))=st at *;obtain⟨p',a'⟩:=st;obtain⟨hp',ha'⟩:=hlt;have hc1:=h1.cell;have hc2:=h2.cell;have hf1:=h1.frozen;have hf2:=h2.frozen;have H1:=zY h1;have H2:=zY h2;have HB:=zY hB;clear h1 h2 hB hst hpre hI0 hbn hb0 hold;simp only[Array.getD,List.size_toArray,List.length_cons,List.length_nil,Nat.zero_add,Nat.lt_add_one,dite_true,List.getElem_toArray,List.getElem_cons_zero,Array.getInternal_eq_getElem];cases x with
 |false=>gi_wp2_with fail;refine⟨trivial,rfl,(CallsIn.inRound l (callsIn_wide.2 (gmul_any W a' a' ha' ha'))).mono ?_⟩;rintro e w1 ⟨rfl,rfl⟩;gi_wp2;refine⟨keeps_set (p:=⟨w.heap.size,0,none⟩) (by show ¬(w.heap.size=_∨_<=w.heap.size);omega) _,HB.setCell (p:=⟨w.heap.size,0,none⟩) (Nat.le_refl _) _,?_,?_⟩;{rw[Hst.out];exact Boxed.set _ H1.out};{rw[Hst.out];exact H2.other (by omega) _}
 |true=>
 have H1':=zY (H1.other (B':=w.heap.size+1) (by omega) (.int .u8 (gmul p' a':Nat)));have hc3:=H1'.out.cell;have hf3:=H1'.out.frozen;gi_wp2_with fail;refine⟨trivial,rfl,(CallsIn.inRound l (callsIn_wide.2 (gmul_any W p' a' hp' ha'))).mono ?_⟩;rintro e w1 ⟨rfl,rfl⟩;gi_wp2_with fail;refine⟨trivial,rfl,(CallsIn.inRound l (callsIn_wide.2 (gmul_any _ a' a' ha' ha'))).mono ?_⟩;rintro e w1 ⟨rfl,rfl⟩;gi_wp2;refine⟨(keeps_set (p:=⟨w.heap.size+1,0,none⟩) (by show ¬(w.heap.size+1=_∨_<=w.heap.size+1);omega) _).trans (keeps_set (p:=⟨w.heap.size,0,none⟩) (by show ¬(w.heap.size=_∨_<=w.heap.size);omega) _),
  (HB.setCell (p:=⟨w.heap.size+1,0,none⟩) (by show w.heap.size<=w.heap.size+1;omega) _).setCell (p:=⟨w.heap.size,0,none⟩) (Nat.le_refl _) _,?_,?_⟩;{rw[Hst.out];exact Boxed.set _ H1'.out};{rw[Hst.out];exact(Boxed.set _ H2.out).other (by omega) _})
 case done=>
 intro D W hD hI hk;obtain⟨hB,h1,h2⟩:=hI;have hc2:=h2.cell;have hps:=powStep_all 8 1 a n;rw[hps]at hc2;have HB:=zY hB;clear hB h1 h2 hps hI0 hbn hb0 hold;gi_wp2;refine⟨by simp,.inl ⟨_,_,rfl,run_takeDeferred hk,_,results_tmp rfl _ _ _,rfl,?_⟩⟩;exact⟨HB.os,HB.tape,HB.output,Nat.le_trans HB.size (by simp),fun k hk2=>(World.putObj_heap_other (by omega)).trans (HB.block k hk2)⟩
end
section
open Go.RowKit
def ginvR (a:Nat):Value:=if a=0 then .tuple #[.int .u8 0,.bool false] else .tuple #[.int .u8 (ginv a:Nat),.bool true]
theorem ginv_any (w:World) (a:Nat) (ha:a<256):Calls prog 272 #[.int .u8 a] w fun e w'=>e=.returned (ginvR a)/\Below w.heap.size w w':=by
 by_cases h:a=0;{
 subst h;go_enter func272,ntmps272;go_wp2;go_ret2;exact⟨rfl,Below.refl _ _⟩};{
 have hz:((a:Int)==0)=false:=by simpa using h
 have H:=zY (power_any w a 254 ha (by omega));have Hn:=zY h;clear h;go_enter func272,ntmps272;go_wp2_with fail;refine H.mono ?_;rintro e w1 ⟨rfl,hb⟩;go_wp2;go_ret2;refine⟨?_,hb⟩;unfold ginvR;rw[if_neg Hn.out];rfl}
def gdivR (a b:Nat):Value:=if b=0 then .tuple #[.int .u8 0,.bool false] else .tuple #[.int .u8 (gmul a (ginv b):Nat),.bool true]
theorem gdiv_any (w:World) (a b:Nat) (ha:a<256) (hb:b<256):Calls prog 190 #[.int .u8 a,.int .u8 b] w fun e w'=>e=.returned (gdivR a b)/\Below w.heap.size w w':=by
 have H:=ginv_any w b hb;unfold ginvR at H;by_cases h:b=0;{
 rw[if_pos h]at H;have Hi:=zY H;have Hz:=zY h;clear H h;go_enter func190,ntmps190;go_wp2_with fail;refine Hi.mono ?_;rintro e w1 ⟨rfl,hb1⟩;have H2:=zY (gmul_any w1 a 0 ha (by omega));go_wp2_with fail;refine H2.mono ?_;rintro e w2 ⟨rfl,rfl⟩;go_wp2;go_ret2;refine⟨?_,hb1⟩;unfold gdivR;rw[if_pos Hz.out,gmul_zero_right];rfl};{
 rw[if_neg h]at H;have Hi:=zY H;have Hz:=zY h;clear H h;go_enter func190,ntmps190;go_wp2_with fail;refine Hi.mono ?_;rintro e w1 ⟨rfl,hb1⟩;have H2:=zY (gmul_any w1 a (ginv b) ha (ginv_lt hb));go_wp2_with fail;refine H2.mono ?_;rintro e w2 ⟨rfl,rfl⟩;go_wp2;go_ret2;refine⟨?_,hb1⟩;unfold gdivR;rw[if_neg Hz.out];rfl}
def gexpN (n:Int):Nat:=(n%255).toNat
theorem gexpN_lt (n:Int):gexpN n<255:=by unfold gexpN;omega
theorem reduce_any (w:World) (n:Int) (hn: -1000000<=n/\n<=1000000):Calls prog 377 #[.int .i64 n] w fun e w'=>e=.returned (.int .i64 (gexpN n:Nat))/\w=w':=by
 obtain⟨h1,h2⟩:=hn;have h3: -254<=Int.tmod n 255/\Int.tmod n 255<=254:=by{
 by_cases h:0<=n;{
 rw[Int.tmod_eq_emod_of_nonneg h];omega};{
 have e:Int.tmod n 255= -((-n)%255):=by rw[<-Int.tmod_eq_emod_of_nonneg (by omega),Int.neg_tmod,Int.neg_neg]
 rw[e];omega}};obtain⟨h4,h5⟩:=h3;have h6:(Int.tmod n 255+255)%255=n%255:=by have:=Int.tmod_add_mul_tdiv n 255;omega
 have h7:Int.tmod (Int.tmod n 255+255) 255=(gexpN n:Int):=by rw[Int.tmod_eq_emod_of_nonneg (by omega),h6];unfold gexpN;omega
 have H:=zY h7;go_enter func377,ntmps377;go_wp2;go_ret;exact⟨rfl,rfl⟩
def gexp (n:Int):Nat:=pw (gexpN n)
theorem gexp_any (w:World) (n:Int) (hn: -1000000<=n/\n<=1000000):Calls prog 344 #[.int .i64 n] w fun e w'=>e=.returned (.int .u8 (gexp n:Nat))/\Below w.heap.size w w':=by
 have hl:=gexpN_lt n;have H:=zY (reduce_any w n hn);have H2:=zY (power_any w 2 (gexpN n) (by omega) (by omega));have He:=zY (gpow_pw hl);go_enter func344,ntmps344;go_wp2_with fail;refine H.mono ?_;rintro e w1 ⟨rfl,rfl⟩;go_wp2_with fail;refine H2.mono ?_;rintro e w1 ⟨rfl,hb⟩;go_wp2;go_ret;refine⟨ret_num ?_,hb⟩;rw[He.out];rfl
end
end Go.Proofs.YthgenkkkapilhaaGreatDoor
namespace Go.Proofs.YthgenkkkapilhaaGreatDoor.rangeStr
open Go.Proofs.Tryz
section
open Go.RowKit Go.Proofs.YthgenkkkapilhaaGreatDoor.rangeOwn
abbrev No:Nat->Prop:=fun _=>False
def Kept (old:Nat->Prop) (A B:World):Prop:=A.heap.size<=B.heap.size/\∀k o,A.heap[k]?=some o->(o.isCells=false∨old k)->B.heap[k]?=some o
theorem Kept.trans {S:Nat->Prop} {A B C:World} (h:Kept S A B) (k:Kept S B C):Kept S A C:=⟨Nat.le_trans h.1 k.1,fun i o hi hs=>k.2 i o (h.2 i o hi hs) hs⟩
def IterStr {α:Type} (P:Program) (g:Nat) (lb:Array Value) (Rd:α->Array Value->World->Prop) (old:Nat->Prop) (xs:List α) (W0:World):Prop:=
 ∀(l:Nat) (J:List α->World->Prop) (W:World),Below W0.heap.size W0 W ->
  (∀s A B,J s A->W.heap.size<=A.heap.size->rangeOwn.Aside No W.heap.size A B->J s B) ->
  (∀pre x args W1,J pre W1->Rd x args W1->(pre++[x]) <+: xs->YieldAt Fence.wide 0 P l args W1 fun e W'=>e=.returned (.bool true)/\J (pre++[x]) W'/\Kept old W1 W') ->
  J [] W ->
  CallsIn Fence.wide 0 P g (#[.func (.yield l) #[] #[]]++lb) W fun e W'=>(∃v,e=.returned v)/\J xs W'
def goesOn {α:Type} (S:Nat->Prop) (I:List α->World->Prop) (xs:List α) (W:World):Exit->Act->World->Prop
 |.normal,_,W'=>Kept S W W'/\I xs W'
 |_,_,_=>False
end
end Go.Proofs.YthgenkkkapilhaaGreatDoor.rangeStr
namespace Go.Proofs.YthgenkkkapilhaaGreatDoor
open Go.Proofs.Tryz
section
def gdiv (a b:Nat):Nat:=gmul a (ginv b)
theorem xor_ne {a b:Nat} (h:a≠b):a^^^b≠0:=fun e=>h (by
 have:a^^^b^^^b=0^^^b:=by rw[e]
 rwa [Nat.xor_assoc,Nat.xor_self,Nat.xor_zero,Nat.zero_xor]at this)
theorem ginv_mul {a b:Nat} (ha:a<256) (hb:b<256) (h:a≠0) (k:b≠0):ginv (gmul a b)=gmul (ginv a) (ginv b):=by
 refine(inv_unique (gmul_lt _ ha) (gmul_lt _ (ginv_lt ha)) ?_).symm;rw[gmul_assoc ha hb (gmul_lt _ (ginv_lt ha)),<-gmul_assoc hb (ginv_lt ha) (ginv_lt hb),gmul_comm hb (ginv_lt ha),gmul_assoc (ginv_lt ha) hb (ginv_lt hb),gmul_inv hb k,gmul_one_right,gmul_inv ha h]
def wgtR (xs:List Nat) (k x:Nat):Nat->Nat
 |0=>1
 |i+1=>if i=k then wgtR xs k x i else gmul (wgtR xs k x i) (gdiv (x^^^cf xs i) (cf xs k^^^cf xs i))
def aboR (xs:List Nat) (k x:Nat):Nat->Nat
 |0=>1
 |i+1=>if i=k then aboR xs k x i else gmul (aboR xs k x i) (x^^^cf xs i)
def belR (xs:List Nat) (k:Nat):Nat->Nat
 |0=>1
 |i+1=>if i=k then belR xs k i else gmul (belR xs k i) (cf xs k^^^cf xs i)
theorem aboR_lt {xs:List Nat} {k x:Nat}:∀i,aboR xs k x i<256
 |0=>(by decide:1<256)
 |i+1=>by
  rw[aboR]
  split
  ·exact aboR_lt i
  ·exact gmul_lt _ (aboR_lt i)
theorem belR_lt {xs:List Nat} {k:Nat}:∀i,belR xs k i<256
 |0=>(by decide:1<256)
 |i+1=>by
  rw[belR]
  split
  ·exact belR_lt i
  ·exact gmul_lt _ (belR_lt i)
theorem wgtR_lt {xs:List Nat} {k x:Nat}:∀i,wgtR xs k x i<256
 |0=>(by decide:1<256)
 |i+1=>by
  rw[wgtR]
  split
  ·exact wgtR_lt i
  ·exact gmul_lt _ (wgtR_lt i)
theorem wgt_eq {xs:List Nat} {k x:Nat} (hx:x<256) (hb:∀i,cf xs i<256) (hd:∀i,i<xs.length->i≠k->cf xs k≠cf xs i):∀i,i<=xs.length->wgtR xs k x i=gdiv (aboR xs k x i) (belR xs k i)/\belR xs k i≠0
 |0,_=>⟨(by decide:1=gdiv 1 1),(by decide:1≠0)⟩
 |i+1,hi=>by
  obtain⟨h1,h2⟩:=wgt_eq hx hb hd i (by omega)
  by_cases h:i=k
  {
  rw[wgtR,aboR,belR,if_pos h,if_pos h,if_pos h]
  exact⟨h1,h2⟩}
  {
  rw[wgtR,aboR,belR,if_neg h,if_neg h,if_neg h]
  have hne:cf xs k^^^cf xs i≠0:=xor_ne (hd i (by omega) h)
  have l1:=xor_lt hx (hb i)
  have l2:=xor_lt (hb k) (hb i)
  have l3:=aboR_lt (xs:=xs) (k:=k) (x:=x) i
  have l4:=belR_lt (xs:=xs) (k:=k) i
  refine⟨?_,fun e=>(gmul_eq_zero l4 l2 e).elim h2 hne⟩
  rw[h1,gdiv,gdiv,gdiv,ginv_mul l4 l2 h2 hne]
  rw[gmul_assoc l3 (ginv_lt l4) (gmul_lt _ l1),<-gmul_assoc (ginv_lt l4) l1 (ginv_lt l2),gmul_comm (ginv_lt l4) l1,gmul_assoc l1 (ginv_lt l4) (ginv_lt l2),<-gmul_assoc l3 l1 (gmul_lt _ (ginv_lt l4))]}
def wgt (xs:List Nat) (x k:Nat):Nat:=wgtR xs k x xs.length
theorem wgt_lt (xs:List Nat) (x k:Nat):wgt xs x k<256:=wgtR_lt _
def sumE (xs:List Nat) (bl:List (List Nat)) (x i:Nat):Nat->Nat
 |0=>0
 |k+1=>sumE xs bl x i k^^^gmul (wgt xs x k) (cf (bl.getD k []) i)
theorem sumE_lt {xs:List Nat} {bl:List (List Nat)} {x i:Nat}:∀k,sumE xs bl x i k<256
 |0=>(by decide:0<256)
 |k+1=>xor_lt (sumE_lt k) (gmul_lt _ (wgt_lt _ _ _))
def atE (xs:List Nat) (bl:List (List Nat)) (n x:Nat):List Nat:=(List.range n).map fun i=>sumE xs bl x i xs.length
def rowE (xs:List Nat) (bl:List (List Nat)) (n x k i:Nat):List Nat:=(List.range n).map fun j=>sumE xs bl x j (if j<i then k+1 else k)
theorem rowE_len {xs:List Nat} {bl:List (List Nat)} {n x k i:Nat}:(rowE xs bl n x k i).length=n:=by simp[rowE]
theorem rowE_cf {xs:List Nat} {bl:List (List Nat)} {n x k i j:Nat} (hj:j<n):cf (rowE xs bl n x k i) j=sumE xs bl x j (if j<i then k+1 else k):=by
 rw[rowE,cf,List.getElem?_map,List.getElem?_range hj];rfl
theorem rowE_lt {xs:List Nat} {bl:List (List Nat)} {n x k i:Nat}:∀y∈rowE xs bl n x k i,y<256:=by
 intro y hy;obtain⟨j,_,rfl⟩:=List.mem_map.1 hy;exact sumE_lt _
theorem rowE_zero {xs:List Nat} {bl:List (List Nat)} {n x:Nat}:rowE xs bl n x 0 0=List.replicate n 0:=by
 apply List.ext_getElem (by simp[rowE]);intro j h1 h2;simp[rowE,sumE]
theorem rowE_next {xs:List Nat} {bl:List (List Nat)} {n x k:Nat}:rowE xs bl n x k n=rowE xs bl n x (k+1) 0:=by
 unfold rowE;refine List.map_congr_left fun j hj=>?_;rw[if_pos (List.mem_range.1 hj),if_neg (Nat.not_lt_zero j)]
theorem rowE_step {xs:List Nat} {bl:List (List Nat)} {n x k i:Nat} (hi:i<n):(rowE xs bl n x k i).set i (cf (rowE xs bl n x k i) i^^^gmul (wgt xs x k) (cf (bl.getD k []) i))=rowE xs bl n x k (i+1):=by
 rw[rowE_cf hi,if_neg (Nat.lt_irrefl i)];apply List.ext_getElem (by simp[rowE]);intro j h1 h2;have hj:j<n:=by simpa [rowE]using h1
 rw[List.getElem_set];by_cases h:i=j;{
 subst h;simp[rowE,sumE]};{
 rw[if_neg h];simp only[rowE,List.getElem_map,List.getElem_range];by_cases h3:j<i;{rw[if_pos h3,if_pos (by omega)]};{rw[if_neg h3,if_neg (by omega)]}}
theorem rowE_all {xs:List Nat} {bl:List (List Nat)} {n x:Nat}:rowE xs bl n x xs.length 0=atE xs bl n x:=by
 unfold rowE atE;refine List.map_congr_left fun j hj=>?_;rw[if_neg (Nat.not_lt_zero j)]
theorem atE_len {xs:List Nat} {bl:List (List Nat)} {n x:Nat}:(atE xs bl n x).length=n:=by simp[atE]
end
end Go.Proofs.YthgenkkkapilhaaGreatDoor