/-
  Joined: PgD.
-/
import Derived.Test.YthgenkkkapilhaaGreatDoorVPn41
set_option linter.all false
set_option maxRecDepth 100000
set_option maxHeartbeats 64000000
namespace Go.Proofs.YthgenkkkapilhaaGreatDoor
open Go.Proofs.Tryz
section
open Go.RowKit
theorem b01_of {l:List Nat} (h:chkE l=0) (h2:l.count 63=0):B01 l:=by
 intro c hc;have h3:cellsOK l=true:=by{
 cases e:cellsOK l with
 |true=>rfl
 |false=>rw[chkE,e]at h;cases h};unfold cellsOK allIn at h3;have h4:=(List.all_eq_true.1 h3) c hc;have h5:c∈cellSet:=List.contains_iff_mem.1 h4;simp only[cellSet,List.mem_cons,List.not_mem_nil,or_false]at h5;rcases h5 with h5|h5|h5;{exact .inl h5};{exact .inr h5};{
 subst h5;exact absurd hc (List.count_eq_zero.1 h2)}
theorem toListP {X T:ByteArray} (h:X.toList=T.toList):X=T:=by
 rw[ByteArray.toList_eq,ByteArray.toList_eq]at h;have h2:X.data=T.data:=Array.toList_inj.1 h;cases X;cases T;exact congrArg ByteArray.mk h2
theorem toB_byte (l:List Nat):∀b∈toB l,b<256:=by
 intro b hb;obtain⟨i,_,rfl⟩:=List.mem_map.1 hb;exact pk_lt _ 8
theorem toBq_len (l:List Nat):(toB l).length=l.length/8:=by unfold toB;rw[List.length_map,List.length_range]
theorem chk_01 {l:List Nat} (h:B01 l):chkE l=0:=by unfold chkE;rw[cells_01 h];rfl
theorem cnt_01 {l:List Nat} (h:B01 l):l.count 63=0:=List.count_eq_zero.2 fun h2=>by rcases h 63 h2 with h3|h3<;>cases h3
def PlRes (c:List Nat) (e:Ending):Prop:=∃(p:Pln) (n:Int),e=.returned (.tuple #[.agg p.cells.toArray,.int .i64 n])/\(n=0->PlDec c p)/\(n≠0->∀q,¬PlDec c q)
theorem pldec_any (w:World) (c:ByteArray) (hs:c.size<=100000) (hT:Tab w):Calls prog 126 #[.string c] w fun e w'=>PlRes (bs c) e/\Below w.heap.size w w':=by
 have HZ:Hid (Blk (w.alloc (.cells #[.int .u32 0,.int .i64 0,.int .i64 0,.string ⟨#[]⟩] 124)) w.heap.size 124 [.int .u32 0,.int .i64 0,.int .i64 0,.string ⟨#[]⟩]):=zY (Blk.new w 124 [.int .u32 0,.int .i64 0,.int .i64 0,.string ⟨#[]⟩]);have HB0:=zY (zBl w (.cells #[.int .u32 0,.int .i64 0,.int .i64 0,.string ⟨#[]⟩] 124));have HCk:=zY (fun W=>ccheck_any W c (by omega));have HT:=zY hT;have Hs:=zY hs;clear hT hs;go_enter func126,ntmps126;go_upto_region 1 with fail;generalize w.alloc (.cells #[.int .u32 0,.int .i64 0,.int .i64 0,.string ⟨#[]⟩] 124)=wa at *;go_wp2_with fail;refine(HCk.out wa).mono ?_;rintro e1 w1 ⟨rfl,hb1⟩;have HZ1:=zY (HZ.kept hb1);have HB1:=zYt HB0 hb1;clear hb1 HZ HB0 HCk;by_cases hok:chkE (bs c)=0;case neg=>(
 have hn3:chkE (bs c)=3:=by unfold chkE at hok⊢;split at hok;{exact absurd rfl hok};{rw[if_neg (by assumption)]}
 rw[hn3];clear hok;have z0:=HZ1.c 0;have z1:=HZ1.c 1;have z2:=HZ1.c 2;have z3:=HZ1.c 3;have y0:=HZ1.frozen 0;have y1:=HZ1.frozen 1;have y2:=HZ1.frozen 2;have y3:=HZ1.frozen 3;have HW:=zY (HZ1.setAll (i:=0) [.int .u32 0,.int .i64 0,.int .i64 0,.string ⟨#[]⟩]);have HBw:=zY (below_setAll (g:=w.heap.size) (Nat.le_refl _) [.int .u32 0,.int .i64 0,.int .i64 0,.string ⟨#[]⟩] w1 0 HB1.out);go_wp2_with fail;refine bodyPost_ret (results_row_tmp rfl _ _ w.heap.size 124 _ (0,0) _ rfl HW.out underlying124 rfl (by kernel_rfl)) rfl ?_;exact⟨⟨⟨0,0,0,⟨#[]⟩⟩,3,rfl,fun h=>absurd h (by decide),fun _ q hq=>by rw[chk_01 hq.b01]at hn3;cases hn3⟩,HBw.out⟩)
 case pos=>
 have Hok:=zY hok;rw[hok];clear hok;by_cases h752:c.size=752;case neg=>(
 have hI:¬(c.size:Int)=752:=by omega
 have z0:=HZ1.c 0;have z1:=HZ1.c 1;have z2:=HZ1.c 2;have z3:=HZ1.c 3;have y0:=HZ1.frozen 0;have y1:=HZ1.frozen 1;have y2:=HZ1.frozen 2;have y3:=HZ1.frozen 3;have HW:=zY (HZ1.setAll (i:=0) [.int .u32 0,.int .i64 0,.int .i64 0,.string ⟨#[]⟩]);have HBw:=zY (below_setAll (g:=w.heap.size) (Nat.le_refl _) [.int .u32 0,.int .i64 0,.int .i64 0,.string ⟨#[]⟩] w1 0 HB1.out);go_wp2_with fail;refine bodyPost_ret (results_row_tmp rfl _ _ w.heap.size 124 _ (0,0) _ rfl HW.out underlying124 rfl (by kernel_rfl)) rfl ?_;exact⟨⟨⟨0,0,0,⟨#[]⟩⟩,4,rfl,fun h=>absurd h (by decide),fun _ q hq=>h752 (by rw[<-bs_len];exact hq.len)⟩,HBw.out⟩)
 case pos=>
 have hI:(c.size:Int)=752:=by omega
 have HCu:=zY (fun W=>cunr_any W c);have Hz:=zY h752;clear h752;go_wp2_with fail;refine(HCu.out _).mono ?_;rintro e2 w2 ⟨rfl,rfl⟩;clear hI HCu;by_cases h63:(bs c).count 63=0;case neg=>(
 have hI:(0:Int)<((bs c).count 63:Nat):=by omega
 have H63:=zY (fun(h:B01 (bs c))=>h63 (cnt_01 h));generalize (bs c).count 63=m at *;clear h63;have z0:=HZ1.c 0;have z1:=HZ1.c 1;have z2:=HZ1.c 2;have z3:=HZ1.c 3;have y0:=HZ1.frozen 0;have y1:=HZ1.frozen 1;have y2:=HZ1.frozen 2;have y3:=HZ1.frozen 3;have HW:=zY (HZ1.setAll (i:=0) [.int .u32 0,.int .i64 0,.int .i64 0,.string ⟨#[]⟩]);have HBw:=zY (below_setAll (g:=w.heap.size) (Nat.le_refl _) [.int .u32 0,.int .i64 0,.int .i64 0,.string ⟨#[]⟩] w1 0 HB1.out);go_wp2_with fail;refine bodyPost_ret (results_row_tmp rfl _ _ w.heap.size 124 _ (0,0) _ rfl HW.out underlying124 rfl (by kernel_rfl)) rfl ?_;exact⟨⟨⟨0,0,0,⟨#[]⟩⟩,11,rfl,fun h=>absurd h (by decide),fun _ q hq=>H63.out hq.b01⟩,HBw.out⟩)
 case pos=>
 rw[h63];have h01:=b01_of Hok.out h63;have HTo:=zY (fun W=>cto_any W c (by have:=Hs.out;omega) (by rw[Hz.out]) h01);have H01:=zY h01;obtain⟨T,hT⟩:=zNm (strB (toB (bs c)));have hTb:bs T=toB (bs c):=by rw[<-hT,bs_strB (toB_byte _)]
 have hTz:T.size=94:=by rw[<-bs_len,hTb,toBq_len,bs_len,Hz.out]
 rw[hT]at HTo;have HTb:=zY hTb;clear hT h01 h63 hTb;have hS84:T.extract 0 84=strB ((bs T).take 84):=bs_inj (by
  rw[bs_extract,List.drop_zero,bs_strB]
  intro b hb
  exact toB_byte _ b (by rw[<-HTb.out];exact List.mem_of_mem_take hb));obtain⟨X,hX⟩:=zNm (strB (sealL ((bs T).take 84)));have hbT:∀b∈(bs T).take 84,b<256:=fun b hb=>toB_byte _ b (by rw[<-HTb.out];exact List.mem_of_mem_take hb);have hlT:((bs T).take 84).length<=1000:=by rw[List.length_take];omega
 have HSl:=zY (fun W (hW:Below w.heap.size w W)=>plseal_any W ((bs T).take 84) hbT hlT (HT.below hW));rw[hX,<-hS84]at HSl;have HX:Hid (X=T↔sealL ((toB (bs c)).take 84)=toB (bs c)):=zY (by
  rw[<-hX,<-HTb.out]
  constructor
  {
  intro h
  have h2:=congrArg bs h
  rwa [bs_strB (sealL_byte hbT)]at h2}
  ·intro h
   rw[h,strB_bs]);clear hX hS84 hbT hlT;have i1:(84:Int)<=(T.size:Int):=by omega
 have i2:84<=T.size:=by omega
 go_wp2_with fail;refine(HTo.out _).mono ?_;rintro e3 w3 ⟨rfl,hb3⟩;have HZ3:=zY (HZ1.kept hb3);have HB3:=zYt HB1 hb3;clear hb3 HZ1 HB1 HTo;go_wp2_with fail;refine(HSl.out _ HB3.out).mono ?_;rintro e4 w4 ⟨rfl,hb4⟩;have HZ4:=zY (HZ3.kept hb4);have HB4:=zYt HB3 hb4;clear hb4 HZ3 HB3 HSl;by_cases hXT:X=T;case neg=>have q1:¬X.toList=T.toList:=fun h=>hXT (toListP h);have q2:(X.toList==T.toList)=false:=beq_eq_false_iff_ne.2 q1;have HXn:=zY hXT;have z0:=HZ4.c 0;have z1:=HZ4.c 1;have z2:=HZ4.c 2;have z3:=HZ4.c 3;have y0:=HZ4.frozen 0;have y1:=HZ4.frozen 1;have y2:=HZ4.frozen 2;have y3:=HZ4.frozen 3;have HW:=zY (HZ4.setAll (i:=0) [.int .u32 0,.int .i64 0,.int .i64 0,.string ⟨#[]⟩]);have HBw:=zY (below_setAll (g:=w.heap.size) (Nat.le_refl _) [.int .u32 0,.int .i64 0,.int .i64 0,.string ⟨#[]⟩] w4 0 HB4.out);go_wp2_with fail;refine bodyPost_ret (results_row_tmp rfl _ _ w.heap.size 124 _ (0,0) _ rfl HW.out underlying124 rfl (by kernel_rfl)) rfl ?_;exact⟨⟨⟨0,0,0,⟨#[]⟩⟩,5,rfl,fun h=>absurd h (by decide),fun _ q hq=>HXn.out (HX.2 hq.sl)⟩,HBw.out⟩
 case pos=>
 have HSl:=zY (HX.1 hXT);have hTX:T=X:=hXT.symm;subst hTX;clear HX hXT;have k10:(10:Int)<=(T.size:Int):=by omega
 have k15:(15:Int)<=(T.size:Int):=by omega
 have k20:(20:Int)<=(T.size:Int):=by omega
 have n10:10<=T.size:=by omega
 have n15:15<=T.size:=by omega
 have n20:20<=T.size:=by omega
 obtain⟨A,hA⟩:=zNm (T.extract 0 10);obtain⟨I,hI⟩:=zNm (T.extract 10 15);obtain⟨D,hD⟩:=zNm (T.extract 15 20);obtain⟨Y,hY⟩:=zNm (T.extract 20 84);have eA:bs A=(toB (bs c)).take 10:=by rw[<-hA,bs_extract,List.drop_zero,HTb.out]
 have eI:bs I=((toB (bs c)).drop 10).take 5:=by rw[<-hI,bs_extract,HTb.out,List.drop_take]
 have eD:bs D=((toB (bs c)).drop 15).take 5:=by rw[<-hD,bs_extract,HTb.out,List.drop_take]
 have eY:bs Y=((toB (bs c)).drop 20).take 64:=by rw[<-hY,bs_extract,HTb.out,List.drop_take]
 have zA:A.size=10:=by rw[<-hA,ByteArray.size_extract];omega
 have zI:I.size=5:=by rw[<-hI,ByteArray.size_extract];omega
 have zD:D.size=5:=by rw[<-hD,ByteArray.size_extract];omega
 have zYy:Y.size=64:=by rw[<-hY,ByteArray.size_extract];omega
 have lA:=valD_lt (p:=bs A);have lI:=valD_lt (p:=bs I);have lD:=valD_lt (p:=bs D);rw[bs_len,zA]at lA;rw[bs_len,zI]at lI;rw[bs_len,zD]at lD;have HA:=zY (fun W=>pdig2_any W A (by omega) (by omega));have HI:=zY (fun W=>pdig2_any W I (by omega) (by omega));have HD:=zY (fun W=>pdig2_any W D (by omega) (by omega));have QA:Hid (∀q,PlDec (bs c) q->(bs A).all digB=true/\valD (bs A)=q.a):=zY (fun q hq=>by rw[eA];exact⟨hq.da,hq.va⟩);have QI:Hid (∀q,PlDec (bs c) q->(bs I).all digB=true/\valD (bs I)=q.i):=zY (fun q hq=>by rw[eI];exact⟨hq.di,hq.vi⟩);have QD:Hid (∀q,PlDec (bs c) q->(bs D).all digB=true/\valD (bs D)=q.t):=zY (fun q hq=>by rw[eD];exact⟨hq.dt,hq.vt⟩);have QY:Hid (∀q,PlDec (bs c) q->Y=q.x):=zY (fun q hq=>by rw[<-hq.vx,<-eY,strB_bs]);have QE:Hid (∀a i t:Nat,(bs A).all digB=true->(bs I).all digB=true->(bs D).all digB=true->valD (bs A)=a->valD (bs I)=i->valD (bs D)=t->PlnOk a i t Y->PlDec (bs c) ⟨a,i,t,Y⟩):=zY (fun a i t h1 h2 h3 h4 h5 h6 h7=>⟨by rw[bs_len];exact Hz.out,H01.out,HSl.out,by rw[<-eA];exact h1,by rw[<-eI];exact h2,by rw[<-eD];exact h3,by rw[<-eA];exact h4,by rw[<-eI];exact h5,by rw[<-eD];exact h6,by rw[<-eY,strB_bs],h7⟩);have ZY:=zY zYy;clear eA eI eD eY zA zI zD zYy;obtain⟨ba,hba⟩:=zNm ((bs A).all digB);obtain⟨bi,hbi⟩:=zNm ((bs I).all digB);obtain⟨bt,hbt⟩:=zNm ((bs D).all digB);rw[hba]at HA QA QE lA;rw[hbi]at HI QI QE lI;rw[hbt]at HD QD QE lD;generalize valD (bs A)=va at *;generalize valD (bs I)=vi at *;generalize valD (bs D)=vt at *;have LA:=zY lA;have LI:=zY lI;have LD:=zY lD;obtain⟨ua,hua⟩:=zNm ((if ba=true then va else 0))
 obtain⟨ui,hui⟩:=zNm ((if bi=true then vi else 0));obtain⟨ut,hut⟩:=zNm ((if bt=true then vt else 0));rw[hua]at HA;rw[hui]at HI;rw[hut]at HD;have UA:Hid (ba=true->va=ua):=zY (fun h=>by rw[<-hua,if_pos h]);have UI:Hid (bi=true->vi=ui):=zY (fun h=>by rw[<-hui,if_pos h]);have UT:Hid (bt=true->vt=ut):=zY (fun h=>by rw[<-hut,if_pos h]);clear hba hbi hbt lA lI lD hua hui hut;go_wp2_with fail;refine(pdigits_any _ 10).mono ?_;rintro e5 w5 ⟨rfl,e5⟩;have hb5:Below w4.heap.size w4 w5:=e5▸zBl w4 _;have HZ5:=zY (HZ4.kept hb5);have HB5:=zYt HB4 hb5;clear hb5 e5 HZ4 HB4;unfold digF;go_wp2_with fail;refine(pdigits_any _ 5).mono ?_;rintro e6 w6 ⟨rfl,e6⟩;have hb6:Below w5.heap.size w5 w6:=e6▸zBl w5 _;have HZ6:=zY (HZ5.kept hb6);have HB6:=zYt HB5 hb6;clear hb6 e6 HZ5 HB5;unfold digF;go_wp2_with fail;refine(HA.out _).mono ?_;rintro e7 w7 ⟨rfl,hb7⟩;have HZ7:=zY (HZ6.kept hb7);have HB7:=zYt HB6 hb7;clear hb7 HZ6 HB6 HA;go_wp2_with fail;refine(HI.out _).mono ?_;rintro e8 w8 ⟨rfl,hb8⟩;have HZ8:=zY (HZ7.kept hb8);have HB8:=zYt HB7 hb8;clear hb8 HZ7 HB7 HI;go_wp2_with fail;refine(HD.out _).mono ?_;rintro e9 w9 ⟨rfl,hb9⟩;have HZ9:=zY (HZ8.kept hb9);have HB9:=zYt HB8 hb9;clear hb9 HZ8 HB8 HD;cases ba with
 |false=>have z0:=HZ9.c 0;have z1:=HZ9.c 1;have z2:=HZ9.c 2;have z3:=HZ9.c 3;have y0:=HZ9.frozen 0;have y1:=HZ9.frozen 1;have y2:=HZ9.frozen 2;have y3:=HZ9.frozen 3;have HW:=zY (HZ9.setAll (i:=0) [.int .u32 0,.int .i64 0,.int .i64 0,.string ⟨#[]⟩]);have HBw:=zY (below_setAll (g:=w.heap.size) (Nat.le_refl _) [.int .u32 0,.int .i64 0,.int .i64 0,.string ⟨#[]⟩] w9 0 HB9.out);go_wp2_with fail;refine bodyPost_ret (results_row_tmp rfl _ _ w.heap.size 124 _ (0,0) _ rfl HW.out underlying124 rfl (by kernel_rfl)) rfl ?_;exact⟨⟨⟨0,0,0,⟨#[]⟩⟩,3,rfl,fun h=>absurd h (by decide),fun _ q hq=>by have:=(QA.out q hq).1;cases this⟩,HBw.out⟩
 |true=>
 cases bi with
 |false=>have z0:=HZ9.c 0;have z1:=HZ9.c 1;have z2:=HZ9.c 2;have z3:=HZ9.c 3;have y0:=HZ9.frozen 0;have y1:=HZ9.frozen 1;have y2:=HZ9.frozen 2;have y3:=HZ9.frozen 3;have HW:=zY (HZ9.setAll (i:=0) [.int .u32 0,.int .i64 0,.int .i64 0,.string ⟨#[]⟩]);have HBw:=zY (below_setAll (g:=w.heap.size) (Nat.le_refl _) [.int .u32 0,.int .i64 0,.int .i64 0,.string ⟨#[]⟩] w9 0 HB9.out);go_wp2_with fail;refine bodyPost_ret (results_row_tmp rfl _ _ w.heap.size 124 _ (0,0) _ rfl HW.out underlying124 rfl (by kernel_rfl)) rfl ?_;exact⟨⟨⟨0,0,0,⟨#[]⟩⟩,3,rfl,fun h=>absurd h (by decide),fun _ q hq=>by have:=(QI.out q hq).1;cases this⟩,HBw.out⟩
 |true=>
 cases bt with
 |false=>have z0:=HZ9.c 0;have z1:=HZ9.c 1;have z2:=HZ9.c 2;have z3:=HZ9.c 3;have y0:=HZ9.frozen 0;have y1:=HZ9.frozen 1;have y2:=HZ9.frozen 2;have y3:=HZ9.frozen 3;have HW:=zY (HZ9.setAll (i:=0) [.int .u32 0,.int .i64 0,.int .i64 0,.string ⟨#[]⟩]);have HBw:=zY (below_setAll (g:=w.heap.size) (Nat.le_refl _) [.int .u32 0,.int .i64 0,.int .i64 0,.string ⟨#[]⟩] w9 0 HB9.out);go_wp2_with fail;refine bodyPost_ret (results_row_tmp rfl _ _ w.heap.size 124 _ (0,0) _ rfl HW.out underlying124 rfl (by kernel_rfl)) rfl ?_;exact⟨⟨⟨0,0,0,⟨#[]⟩⟩,3,rfl,fun h=>absurd h (by decide),fun _ q hq=>by have:=(QD.out q hq).1;cases this⟩,HBw.out⟩
 |true=>
 have e1:=UA.out rfl;have e2:=UI.out rfl;have e3:=UT.out rfl;subst e1;subst e2;subst e3;clear UA UI UT;have LA:=zY (LA.out rfl);have LI:=zY (LI.out rfl);have LD:=zY (LD.out rfl);by_cases hbig:4294967295<va;case pos=>(
 have q1:(4294967295:Int)<(va:Int):=by omega
 have z0:=HZ9.c 0;have z1:=HZ9.c 1;have z2:=HZ9.c 2;have z3:=HZ9.c 3;have y0:=HZ9.frozen 0;have y1:=HZ9.frozen 1;have y2:=HZ9.frozen 2;have y3:=HZ9.frozen 3;have HW:=zY (HZ9.setAll (i:=0) [.int .u32 0,.int .i64 0,.int .i64 0,.string ⟨#[]⟩]);have HBw:=zY (below_setAll (g:=w.heap.size) (Nat.le_refl _) [.int .u32 0,.int .i64 0,.int .i64 0,.string ⟨#[]⟩] w9 0 HB9.out);go_wp2_with fail;refine bodyPost_ret (results_row_tmp rfl _ _ w.heap.size 124 _ (0,0) _ rfl HW.out underlying124 rfl (by kernel_rfl)) rfl ?_;exact⟨⟨⟨0,0,0,⟨#[]⟩⟩,2,rfl,fun h=>absurd h (by decide),fun _ q hq=>by have h1:=(QA.out q hq).2;have h2:=hq.ok.ha;omega⟩,HBw.out⟩)
 case neg=>
 have q1:¬(4294967295:Int)<(va:Int):=by omega
 have q2:IntKind.u32.wrap (va:Int)=va:=IntWalk.u32_in _ (by omega);have q3:IntKind.i64.wrap (vi:Int)=vi:=IntWalk.i64_in _ (by have:=LI.out;omega);have q4:IntKind.i64.wrap (vt:Int)=vt:=IntWalk.i64_in _ (by have:=LD.out;omega);have HCc:=zY (fun W=>plcheck_any W va vi vt Y (by omega) (by have:=LD.out;omega) (by have:=LI.out;omega) ZY.out);have HK:Hid (Blk (w9.alloc (.cells #[.int .u32 (va:Int),.int .i64 (vi:Int),.int .i64 (vt:Int),.string Y] 124)) w9.heap.size 124 [.int .u32 (va:Int),.int .i64 (vi:Int),.int .i64 (vt:Int),.string Y]):=zY (Blk.new w9 124 [.int .u32 (va:Int),.int .i64 (vi:Int),.int .i64 (vt:Int),.string Y]);have hba:=zBl w9 (.cells #[.int .u32 (va:Int),.int .i64 (vi:Int),.int .i64 (vt:Int),.string Y] 124);have HZa:=zY (HZ9.kept hba);have HBa:=zYt HB9 hba;clear hba HZ9 HB9;go_upto_region 20 with fail;generalize w9.alloc (.cells #[.int .u32 (va:Int),.int .i64 (vi:Int),.int .i64 (vt:Int),.string Y] 124)=wv at *;clear q1 q2 q3 q4;have c0:=HK.c 0;have c1:=HK.c 1;have c2:=HK.c 2;have c3:=HK.c 3;go_wp2_with fail;refine(HCc.out _).mono ?_;rintro ea wc ⟨⟨n,rfl,hn⟩,hbc⟩;have HZc:=zY (HZa.kept hbc);have HBc:=zYt HBa hbc;have HKc:=zY (HK.kept hbc);have HN:=zY hn;clear hbc hn HZa HBa HK c0 c1 c2 c3;by_cases h0:n=0;case neg=>(
 have f0:(n != 0)=true:=by rw[bne_iff_ne];exact h0
 have z0:=HZc.c 0;have z1:=HZc.c 1;have z2:=HZc.c 2;have z3:=HZc.c 3;have y0:=HZc.frozen 0;have y1:=HZc.frozen 1;have y2:=HZc.frozen 2;have y3:=HZc.frozen 3;have HW:=zY (HZc.setAll (i:=0) [.int .u32 0,.int .i64 0,.int .i64 0,.string ⟨#[]⟩]);have HBw:=zY (below_setAll (g:=w.heap.size) (Nat.le_refl _) [.int .u32 0,.int .i64 0,.int .i64 0,.string ⟨#[]⟩] wc 0 HBc.out);go_wp2_with fail;refine bodyPost_ret (results_row_tmp rfl _ _ w.heap.size 124 _ (0,0) _ rfl HW.out underlying124 rfl (by kernel_rfl)) rfl ?_;exact⟨⟨⟨0,0,0,⟨#[]⟩⟩,n,rfl,fun h=>absurd h (h0),fun _ q hq=>h0 (HN.2 (by have h1:=(QA.out q hq).2;have h2:=(QI.out q hq).2;have h3:=(QD.out q hq).2;have h4:=QY.out q hq;rw[h1,h2,h3,h4];exact hq.ok))⟩,HBw.out⟩)
 case pos=>
 have HE:=zY (QE.out va vi vt (by simp) (by simp) (by simp) (by simp) (by simp) (by simp) (HN.1 h0));subst h0;have c0:=HKc.c 0;have c1:=HKc.c 1;have c2:=HKc.c 2;have c3:=HKc.c 3;have z0:=HZc.c 0;have z1:=HZc.c 1;have z2:=HZc.c 2;have z3:=HZc.c 3;have y0:=HZc.frozen 0;have y1:=HZc.frozen 1;have y2:=HZc.frozen 2;have y3:=HZc.frozen 3;have HW:=zY (HZc.setAll (i:=0) [.int .u32 (va:Int),.int .i64 (vi:Int),.int .i64 (vt:Int),.string Y]);have HBw:=zY (below_setAll (g:=w.heap.size) (Nat.le_refl _) [.int .u32 (va:Int),.int .i64 (vi:Int),.int .i64 (vt:Int),.string Y] wc 0 HBc.out);go_wp2_with fail;refine bodyPost_ret (results_row_tmp rfl _ _ w.heap.size 124 _ (0,0) _ rfl HW.out underlying124 rfl (by kernel_rfl)) rfl ?_;exact⟨⟨⟨va,vi,vt,Y⟩,0,rfl,fun _=>HE.out,fun h=>absurd rfl h⟩,HBw.out⟩
end
end Go.Proofs.YthgenkkkapilhaaGreatDoor