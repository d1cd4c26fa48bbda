/-
  Joined: PgF.
-/
import Derived.Test.YthgenkkkapilhaaGreatDoorVPn43
set_option linter.all false
set_option maxRecDepth 100000
set_option maxHeartbeats 64000000
namespace Go.Proofs.YthgenkkkapilhaaGreatDoor
section
open Go.RowKit
theorem rcheck26_any (w:World) (a i t:Nat) (x:ByteArray) (ha:a<4294967296) (ht:t<=99999) (hi:i<=99999) (hx:x.size=64):Calls Tryz.prog 123 #[.agg #[.int .u32 (a:Int),.int .i64 (i:Int),.int .i64 (t:Int),.string x]] w fun e w'=>(∃n:Int,e=.returned (.int .i64 n)/\(n=0↔PlnOk a i t x))/\Below w.heap.size w w':=by
 by_cases h:PlnOk a i t x;{
 refine(rcheck26_ok w a i t x h).mono ?_;rintro e w' ⟨rfl,hb⟩;exact⟨⟨0,rfl,by simp[h]⟩,hb⟩};have HP:=zY (fun W=>rprintable_any W x (by omega));have HN:=zY h;have HK:Hid (Blk (w.alloc (.cells #[.int .u32 (a:Int),.int .i64 (i:Int),.int .i64 (t:Int),.string x] 124)) w.heap.size 124 [.int .u32 (a:Int),.int .i64 (i:Int),.int .i64 (t:Int),.string x]):=zY (Blk.new w 124 [.int .u32 (a:Int),.int .i64 (i:Int),.int .i64 (t:Int),.string x]);have HB:=zY (zBl w (.cells #[.int .u32 (a:Int),.int .i64 (i:Int),.int .i64 (t:Int),.string x] 124));have h5:¬(99999:Int)<t:=by omega
 have h6:¬(i:Int)<0:=by omega
 have h8:(x.size:Int)=64:=by omega
 have h9:((x.size:Int) != 64)=false:=by rw[h8];rfl
 by_cases hit:i<t;{
 have hpr:prtL (bs x)=false:=by{
 cases e:prtL (bs x)with
 |false=>rfl
 |true=>exact absurd ⟨ha,hit,ht,hx,e⟩ h};rw[hpr]at HP;have h4:¬(t:Int)<1:=by omega
 have h7:¬(t:Int)<=i:=by omega
 clear hpr ha ht hi hx hit h;go_enter Tryz.func123,Tryz.ntmps123;go_upto_region 1 with fail;generalize w.alloc (.cells #[.int .u32 (a:Int),.int .i64 (i:Int),.int .i64 (t:Int),.string x] 124)=wa at *;have c1:=HK.c 1;have c2:=HK.c 2;have c3:=HK.c 3;go_wp2_with fail;refine(HP.out _).mono ?_;rintro e1 w1 ⟨rfl,rfl⟩;go_wp2;go_ret;exact⟨⟨_,rfl,by simp[HN.out]⟩,HB.out⟩};{
 have h7:(t:Int)<=i:=by omega
 clear ha ht hi hx hit h;go_enter Tryz.func123,Tryz.ntmps123;go_upto_region 1 with fail;generalize w.alloc (.cells #[.int .u32 (a:Int),.int .i64 (i:Int),.int .i64 (t:Int),.string x] 124)=wa at *;have c1:=HK.c 1;have c2:=HK.c 2;have c3:=HK.c 3;by_cases h4:(t:Int)<1;{
 go_wp2;go_ret;exact⟨⟨_,rfl,by simp[HN.out]⟩,HB.out⟩};{
 go_wp2;go_ret;exact⟨⟨_,rfl,by simp[HN.out]⟩,HB.out⟩}}
def PlRef (c:List Nat) (e:Ending):Prop:=∃(p:Pln) (n:Int),e=.returned (.tuple #[.agg p.cells.toArray,.int .i64 n])/\∀q,PlDec c q->n=0/\p=q
theorem sl_iff {l:List Nat} (h:84<=l.length):sealL (l.take 84)=l↔padL 10 (sumL [strB (l.take 84)])=l.drop 84:=by
 have e:l.take 84++l.drop 84=l:=List.take_append_drop 84 l;constructor;{
 intro h2;have h3:l.take 84++padL 10 (sumL [strB (l.take 84)])=l.take 84++l.drop 84:=by rw[e];exact h2
 exact List.append_cancel_left h3};{
 intro h2;rw[sealL,h2,e]}
theorem rdec26_any (w:World) (c:ByteArray) (hs:c.size<=100000):Calls Tryz.prog 62 #[.string c] w fun e w'=>PlRef (bs c) e/\Below w.heap.size w w':=by
 have HZ:Hid (Blk (w.alloc (.cells #[.int .u32 0,.int .i64 0,.int .i64 0,.string ⟨#[]⟩] 124)) w.heap.size 124 [.int .u32 0,.int .i64 0,.int .i64 0,.string ⟨#[]⟩]):=zY (Blk.new w 124 [.int .u32 0,.int .i64 0,.int .i64 0,.string ⟨#[]⟩]);have HB0:=zY (zBl w (.cells #[.int .u32 0,.int .i64 0,.int .i64 0,.string ⟨#[]⟩] 124));have HCk:=zY (fun W=>rck1_any W c (by omega));have Hs:=zY hs;clear hs;go_enter Tryz.func62,Tryz.ntmps62;go_upto_region 1 with fail;generalize w.alloc (.cells #[.int .u32 0,.int .i64 0,.int .i64 0,.string ⟨#[]⟩] 124)=wa at *;go_wp2_with fail;refine(HCk.out wa).mono ?_;rintro e1 w1 ⟨rfl,rfl⟩;clear HCk;by_cases hok:chkE (bs c)=0;case neg=>(
 have hn3:chkE (bs c)=3:=by unfold chkE at hok⊢;split at hok;{exact absurd rfl hok};{rw[if_neg (by assumption)]}
 rw[hn3];clear hok;have z0:=HZ.c 0;have z1:=HZ.c 1;have z2:=HZ.c 2;have z3:=HZ.c 3;have y0:=HZ.frozen 0;have y1:=HZ.frozen 1;have y2:=HZ.frozen 2;have y3:=HZ.frozen 3;have HW:=zY (HZ.setAll (i:=0) [.int .u32 0,.int .i64 0,.int .i64 0,.string ⟨#[]⟩]);have HBw:=zY (below_setAll (g:=w.heap.size) (Nat.le_refl _) [.int .u32 0,.int .i64 0,.int .i64 0,.string ⟨#[]⟩] wa 0 HB0.out);go_wp2_with fail;refine bodyPost_ret (results_row_tmp rfl _ _ w.heap.size 124 _ (0,0) _ rfl HW.out Tryz.underlying124 rfl (by kernel_rfl)) rfl ?_;exact⟨⟨⟨0,0,0,⟨#[]⟩⟩,3,rfl,fun q hq=>absurd hq (fun hq=>by rw[chk_01 hq.b01]at hn3;cases hn3)⟩,HBw.out⟩)
 case pos=>
 have Hok:=zY hok;rw[hok];clear hok;by_cases h752:c.size=752;case neg=>(
 have hI:¬(c.size:Int)=752:=by omega
 have H7:=zY h752;clear h752;have z0:=HZ.c 0;have z1:=HZ.c 1;have z2:=HZ.c 2;have z3:=HZ.c 3;have y0:=HZ.frozen 0;have y1:=HZ.frozen 1;have y2:=HZ.frozen 2;have y3:=HZ.frozen 3;have HW:=zY (HZ.setAll (i:=0) [.int .u32 0,.int .i64 0,.int .i64 0,.string ⟨#[]⟩]);have HBw:=zY (below_setAll (g:=w.heap.size) (Nat.le_refl _) [.int .u32 0,.int .i64 0,.int .i64 0,.string ⟨#[]⟩] wa 0 HB0.out);go_wp2_with fail;refine bodyPost_ret (results_row_tmp rfl _ _ w.heap.size 124 _ (0,0) _ rfl HW.out Tryz.underlying124 rfl (by kernel_rfl)) rfl ?_;exact⟨⟨⟨0,0,0,⟨#[]⟩⟩,4,rfl,fun q hq=>absurd hq (fun hq=>H7.out (by rw[<-bs_len];exact hq.len))⟩,HBw.out⟩)
 case pos=>
 have hI:(c.size:Int)=752:=by omega
 have HCu:=zY (fun W=>runr1_any W c (by omega));have Hz:=zY h752;clear h752;go_wp2_with fail;refine(HCu.out _).mono ?_;rintro e2 w2 ⟨rfl,rfl⟩;clear hI HCu;by_cases h63:(bs c).count 63=0;case neg=>(
 have hI:(0:Int)<((bs c).count 63:Nat):=by omega
 have H63:=zY (fun(h:B01 (bs c))=>h63 (cnt_01 h));generalize (bs c).count 63=m at *;clear h63;have z0:=HZ.c 0;have z1:=HZ.c 1;have z2:=HZ.c 2;have z3:=HZ.c 3;have y0:=HZ.frozen 0;have y1:=HZ.frozen 1;have y2:=HZ.frozen 2;have y3:=HZ.frozen 3;have HW:=zY (HZ.setAll (i:=0) [.int .u32 0,.int .i64 0,.int .i64 0,.string ⟨#[]⟩]);have HBw:=zY (below_setAll (g:=w.heap.size) (Nat.le_refl _) [.int .u32 0,.int .i64 0,.int .i64 0,.string ⟨#[]⟩] wa 0 HB0.out);go_wp2_with fail;refine bodyPost_ret (results_row_tmp rfl _ _ w.heap.size 124 _ (0,0) _ rfl HW.out Tryz.underlying124 rfl (by kernel_rfl)) rfl ?_;exact⟨⟨⟨0,0,0,⟨#[]⟩⟩,11,rfl,fun q hq=>absurd hq (fun hq=>H63.out hq.b01)⟩,HBw.out⟩)
 case pos=>
 rw[h63];have h01:=b01_of Hok.out h63;have HTo:=zY (fun W=>rto94_any W c Hz.out h01);obtain⟨T,hT⟩:=zNm (strB (toB (bs c)));have hTb:bs T=toB (bs c):=by rw[<-hT,bs_strB (toB_byte _)]
 have hTz:T.size=94:=by rw[<-bs_len,hTb,toBq_len,bs_len,Hz.out]
 rw[hT]at HTo;have HTb:=zY hTb;clear hT h01 h63 hTb;have hS84:T.extract 0 84=strB ((bs T).take 84):=bs_inj (by
  rw[bs_extract,List.drop_zero,bs_strB]
  intro b hb
  exact toB_byte _ b (by rw[<-HTb.out];exact List.mem_of_mem_take hb));obtain⟨X,hX⟩:=zNm (strB (padL 10 (sumL [strB ((bs T).take 84)])));obtain⟨U,hU⟩:=zNm (T.extract 84 94);have hlT:((bs T).take 84).length<=1000:=by rw[List.length_take];omega
 have HSl:=zY (fun W (hW:Below w.heap.size w W)=>rseal_any W ((bs T).take 84) hlT);obtain⟨K84,hK84⟩:=zNm (T.extract 0 84);rw[hX,<-hS84,hK84]at HSl;have HX:Hid (X=U↔sealL ((toB (bs c)).take 84)=toB (bs c)):=zY (by
  have hbU:bs U=(toB (bs c)).drop 84:=by
   rw[<-hU,bs_extract,HTb.out,List.take_of_length_le]
   rw[<-HTb.out,bs_len]
   omega
  rw[sl_iff (by rw[<-HTb.out,bs_len];omega),<-hX,<-hbU,HTb.out]
  constructor
  {
  intro h
  rw[<-h,bs_strB (padL_byte _ _)]}
  ·intro h
   rw[h,strB_bs]);obtain⟨B,hB⟩:=zNm ((X.toList==U.toList));have HX:Hid (B=true↔sealL ((toB (bs c)).take 84)=toB (bs c)):=zY (by
  rw[<-HX.out,<-hB]
  exact⟨fun h=>toListP (eq_of_beq h),fun h=>by rw[h];exact beq_self_eq_true _⟩);clear hX hS84 hlT;have i1:(84:Int)<=(T.size:Int):=by omega
 have i2:84<=T.size:=by omega
 go_wp2_with fail;refine(HTo.out _).mono ?_;rintro e3 w3 ⟨⟨v3,rfl⟩,hb3⟩;have HZ3:=zY (HZ.kept hb3);have HB3:=zYt HB0 hb3;clear hb3 HZ HB0 HTo;go_upto_region 8 with fail;have HZc:=zY (HZ3.kept ((Below.refl w3.heap.size w3).drew));have HBc:=zY HB3.drew;refine wp_region_held_drew (S:=(fun _=>True)) (by kernel_rfl) ?_ (fun hHeld=>?_);{exact trivial};refine tk 0 ?_;refine tk 1 ?_;refine tk 3 ?_;refine tk 4 ?_;refine zE1 2 fun K hK=>?_;go_simp;refine(HSl.out _ HBc.out).mono ?_;rintro e5 w5 ⟨rfl,hb5⟩;(try go_wp2_with fail);have HZc:=zY (HZc.kept hb5);have HBc:=zYt HBc hb5;clear hb5;refine hko hK (by exact trivial) (fun _=>?_);clear hK K;refine tk 5 ?_;refine wpAnyH_done (by kernel_rfl) ?_ _;(try clear hHeld);cases B with
 |false=>have HXn:Hid (¬sealL ((toB (bs c)).take 84)=toB (bs c)):=zY (fun h=>by have:=HX.2 h;cases this);have z0:=HZc.c 0;have z1:=HZc.c 1;have z2:=HZc.c 2;have z3:=HZc.c 3;have y0:=HZc.frozen 0;have y1:=HZc.frozen 1;have y2:=HZc.frozen 2;have y3:=HZc.frozen 3;have HW:=zY (HZc.setAll (i:=0) [.int .u32 0,.int .i64 0,.int .i64 0,.string ⟨#[]⟩]);have HBw:=zY (below_setAll (g:=w.heap.size) (Nat.le_refl _) [.int .u32 0,.int .i64 0,.int .i64 0,.string ⟨#[]⟩] w5 0 HBc.out);go_wp2_with fail;refine bodyPost_ret (results_row_tmp rfl _ _ w.heap.size 124 _ (0,0) _ rfl HW.out Tryz.underlying124 rfl (by kernel_rfl)) rfl ?_;exact⟨⟨⟨0,0,0,⟨#[]⟩⟩,5,rfl,fun q hq=>absurd hq (fun hq=>HXn.out hq.sl)⟩,HBw.out⟩
 |true=>
 clear HX;have k10:(10:Int)<=(T.size:Int):=by omega
 have k15:(15:Int)<=(T.size:Int):=by omega
 have k20:(20:Int)<=(T.size:Int):=by omega
 have n10:10<=T.size:=by omega
 have n15:15<=T.size:=by omega
 have n20:20<=T.size:=by omega
 obtain⟨A,hA⟩:=zNm (T.extract 0 10);obtain⟨I,hI⟩:=zNm (T.extract 10 15);obtain⟨D,hD⟩:=zNm (T.extract 15 20);obtain⟨Y,hY⟩:=zNm (T.extract 20 84);have eA:bs A=(toB (bs c)).take 10:=by rw[<-hA,bs_extract,List.drop_zero,HTb.out]
 have eI:bs I=((toB (bs c)).drop 10).take 5:=by rw[<-hI,bs_extract,HTb.out,List.drop_take]
 have eD:bs D=((toB (bs c)).drop 15).take 5:=by rw[<-hD,bs_extract,HTb.out,List.drop_take]
 have eY:bs Y=((toB (bs c)).drop 20).take 64:=by rw[<-hY,bs_extract,HTb.out,List.drop_take]
 have zA:A.size=10:=by rw[<-hA,ByteArray.size_extract];omega
 have zI:I.size=5:=by rw[<-hI,ByteArray.size_extract];omega
 have zD:D.size=5:=by rw[<-hD,ByteArray.size_extract];omega
 have zYy:Y.size=64:=by rw[<-hY,ByteArray.size_extract];omega
 have lA:=valD_lt (p:=bs A);have lI:=valD_lt (p:=bs I);have lD:=valD_lt (p:=bs D);rw[bs_len,zA]at lA;rw[bs_len,zI]at lI;rw[bs_len,zD]at lD;have HA:=zY (fun W=>rnum_any W A (by omega));have HI:=zY (fun W=>rnum_any W I (by omega));have HD:=zY (fun W=>rnum_any W D (by omega));have QA:Hid (∀q,PlDec (bs c) q->(bs A).all digB=true/\valD (bs A)=q.a):=zY (fun q hq=>by rw[eA];exact⟨hq.da,hq.va⟩);have QI:Hid (∀q,PlDec (bs c) q->(bs I).all digB=true/\valD (bs I)=q.i):=zY (fun q hq=>by rw[eI];exact⟨hq.di,hq.vi⟩);have QD:Hid (∀q,PlDec (bs c) q->(bs D).all digB=true/\valD (bs D)=q.t):=zY (fun q hq=>by rw[eD];exact⟨hq.dt,hq.vt⟩);have QY:Hid (∀q,PlDec (bs c) q->Y=q.x):=zY (fun q hq=>by rw[<-hq.vx,<-eY,strB_bs]);have ZY:=zY zYy;clear eA eI eD eY zA zI zD zYy;obtain⟨ba,hba⟩:=zNm ((bs A).all digB);obtain⟨bi,hbi⟩:=zNm ((bs I).all digB);obtain⟨bt,hbt⟩:=zNm ((bs D).all digB);rw[hba]at HA QA lA;rw[hbi]at HI QI lI;rw[hbt]at HD QD lD;generalize valD (bs A)=va at *;generalize valD (bs I)=vi at *;generalize valD (bs D)=vt at *;have LA:=zY lA;have LI:=zY lI;have LD:=zY lD;obtain⟨ua,hua⟩:=zNm ((if ba=true then (va:Int) else -1));obtain⟨ui,hui⟩:=zNm ((if bi=true then (vi:Int) else -1));obtain⟨ut,hut⟩:=zNm ((if bt=true then (vt:Int) else -1));rw[hua]at HA;rw[hui]at HI;rw[hut]at HD;have UA:Hid ((if ba=true then (va:Int) else -1)=ua):=zY hua;have UI:Hid ((if bi=true then (vi:Int) else -1)=ui):=zY hui;have UT:Hid ((if bt=true then (vt:Int) else -1)=ut):=zY hut;clear hba hbi hbt lA lI lD hua hui hut;go_upto_region 10 with fail;have HZn:=zY (HZc.kept ((Below.refl w5.heap.size w5).drew));have HBn:=zY HBc.drew
 clear HZc HBc;go_cut [7,8,9] (fun x y z wx=>x=.int .i64 ua/\y=.int .i64 ui/\z=.int .i64 ut/\Blk wx w.heap.size 124 [.int .u32 0,.int .i64 0,.int .i64 0,.string ⟨#[]⟩]/\Below w.heap.size w wx);case first=>(
 refine wp_region_held_drew (S:=(fun _=>True)) (by kernel_rfl) ?_ (fun hHeld=>?_);{exact trivial};refine tk 0 ?_;refine tk 1 ?_;refine tk 3 ?_;refine tk 4 ?_;refine tk 6 ?_;refine tk 7 ?_;repeat' first
  |((have ck:= @hko (i:=2) (hK:=hK));(clear ck);(go_simp);(refine(HA.out _).mono ?_);(rintro e6 w6 ⟨rfl,rfl⟩);((try go_wp2_with fail));(refine hko hK (by exact trivial) (fun _=>?_));(clear hK K);(have d2:=True.intro);(first|(have c:=d5;clear c;have c:=d8;clear c;refine tk 9 ?_)|skip);(first|(have c:=d5;clear c;have c:=d8;clear c;refine tk 10 ?_)|skip);(first|(have c:=d5;clear c;have c:=d8;clear c;refine tk 11 ?_)|skip))
  |((have ck:= @hko (i:=5) (hK:=hK));(clear ck);(go_simp);(refine(HI.out _).mono ?_);(rintro e6 w6 ⟨rfl,rfl⟩);((try go_wp2_with fail));(refine hko hK (by exact trivial) (fun _=>?_));(clear hK K);(have d5:=True.intro);(first|(have c:=d2;clear c;have c:=d8;clear c;refine tk 9 ?_)|skip);(first|(have c:=d2;clear c;have c:=d8;clear c;refine tk 10 ?_)|skip);(first|(have c:=d2;clear c;have c:=d8;clear c;refine tk 11 ?_)|skip))
  |((have ck:= @hko (i:=8) (hK:=hK));(clear ck);(go_simp);(refine(HD.out _).mono ?_);(rintro e6 w6 ⟨rfl,rfl⟩);((try go_wp2_with fail));(refine hko hK (by exact trivial) (fun _=>?_));(clear hK K);(have d8:=True.intro);(first|(have c:=d2;clear c;have c:=d5;clear c;refine tk 9 ?_)|skip);(first|(have c:=d2;clear c;have c:=d5;clear c;refine tk 10 ?_)|skip);(first|(have c:=d2;clear c;have c:=d5;clear c;refine tk 11 ?_)|skip))
  |((have c:=d2;clear c);(have c:=d5;clear c);(have c:=d8;clear c);(refine wpAnyH_done (by kernel_rfl) ?_ _);(clear d2 d5 d8);(go_wp2_with fail);(go_meet);(exact⟨rfl,rfl,rfl,HZn.out,HBn.out⟩))
  |((have c:=d2;clear c);(have c:=d5;clear c);(refine wpAnyH_ready (rs:=[8]) (by kernel_rfl) (by simp) (AllReadyH.cons (o:=_) rfl (fun K hK=>?_) AllReadyH.nil)))
  |((have c:=d2;clear c);(refine wpAnyH_ready (rs:=[5]) (by kernel_rfl) (by simp) (AllReadyH.cons (o:=_) rfl (fun K hK=>?_) AllReadyH.nil)))
  |((refine wpAnyH_ready (rs:=[2]) (by kernel_rfl) (by simp) (AllReadyH.cons (o:=_) rfl (fun K hK=>?_) AllReadyH.nil))))
 case rest=>
 obtain⟨rfl,rfl,rfl,hz9,hb9⟩:=hcut;obtain⟨w9,hw9⟩:∃x,x=wc:=⟨_,rfl⟩;subst hw9;have HZ9:=zY hz9;have HB9:=zY hb9;clear hz9 hb9 HZn HBn HA HI HD;cases ba with
 |false=>have e1:=UA.out;rw[if_neg (by decide)]at e1;subst e1;have z0:=HZ9.c 0;have z1:=HZ9.c 1;have z2:=HZ9.c 2;have z3:=HZ9.c 3;have y0:=HZ9.frozen 0;have y1:=HZ9.frozen 1;have y2:=HZ9.frozen 2;have y3:=HZ9.frozen 3;have HW:=zY (HZ9.setAll (i:=0) [.int .u32 0,.int .i64 0,.int .i64 0,.string ⟨#[]⟩]);have HBw:=zY (below_setAll (g:=w.heap.size) (Nat.le_refl _) [.int .u32 0,.int .i64 0,.int .i64 0,.string ⟨#[]⟩] w9 0 HB9.out);go_wp2_with fail;refine bodyPost_ret (results_row_tmp rfl _ _ w.heap.size 124 _ (0,0) _ rfl HW.out Tryz.underlying124 rfl (by kernel_rfl)) rfl ?_;exact⟨⟨⟨0,0,0,⟨#[]⟩⟩,3,rfl,fun q hq=>absurd hq (fun hq=>by have:=(QA.out q hq).1;cases this)⟩,HBw.out⟩
 |true=>
 cases bi with
 |false=>(
 have e1:=UI.out;rw[if_neg (by decide)]at e1;subst e1;have e2:=UA.out;rw[if_pos rfl]at e2;subst e2;have m1:¬(va:Int)<0:=by omega
 have z0:=HZ9.c 0;have z1:=HZ9.c 1;have z2:=HZ9.c 2;have z3:=HZ9.c 3;have y0:=HZ9.frozen 0;have y1:=HZ9.frozen 1;have y2:=HZ9.frozen 2;have y3:=HZ9.frozen 3;have HW:=zY (HZ9.setAll (i:=0) [.int .u32 0,.int .i64 0,.int .i64 0,.string ⟨#[]⟩]);have HBw:=zY (below_setAll (g:=w.heap.size) (Nat.le_refl _) [.int .u32 0,.int .i64 0,.int .i64 0,.string ⟨#[]⟩] w9 0 HB9.out);go_wp2_with fail;refine bodyPost_ret (results_row_tmp rfl _ _ w.heap.size 124 _ (0,0) _ rfl HW.out Tryz.underlying124 rfl (by kernel_rfl)) rfl ?_;exact⟨⟨⟨0,0,0,⟨#[]⟩⟩,3,rfl,fun q hq=>absurd hq (fun hq=>by have:=(QI.out q hq).1;cases this)⟩,HBw.out⟩)
 |true=>
 cases bt with
 |false=>(
 have e1:=UT.out;rw[if_neg (by decide)]at e1;subst e1;have e2:=UA.out;rw[if_pos rfl]at e2;subst e2;have e2:=UI.out;rw[if_pos rfl]at e2;subst e2;have m1:¬(va:Int)<0:=by omega
 have m2:¬(vi:Int)<0:=by omega
 have z0:=HZ9.c 0;have z1:=HZ9.c 1;have z2:=HZ9.c 2;have z3:=HZ9.c 3;have y0:=HZ9.frozen 0;have y1:=HZ9.frozen 1;have y2:=HZ9.frozen 2;have y3:=HZ9.frozen 3;have HW:=zY (HZ9.setAll (i:=0) [.int .u32 0,.int .i64 0,.int .i64 0,.string ⟨#[]⟩]);have HBw:=zY (below_setAll (g:=w.heap.size) (Nat.le_refl _) [.int .u32 0,.int .i64 0,.int .i64 0,.string ⟨#[]⟩] w9 0 HB9.out);go_wp2_with fail;refine bodyPost_ret (results_row_tmp rfl _ _ w.heap.size 124 _ (0,0) _ rfl HW.out Tryz.underlying124 rfl (by kernel_rfl)) rfl ?_;exact⟨⟨⟨0,0,0,⟨#[]⟩⟩,3,rfl,fun q hq=>absurd hq (fun hq=>by have:=(QD.out q hq).1;cases this)⟩,HBw.out⟩)
 |true=>
 have e1:=UA.out;have e2:=UI.out;have e3:=UT.out;rw[if_pos rfl]at e1 e2 e3;subst e1;subst e2;subst e3;clear UA UI UT;have m1:¬(va:Int)<0:=by omega
 have m2:¬(vi:Int)<0:=by omega
 have m3:¬(vt:Int)<0:=by omega
 have LA:=zY (LA.out rfl);have LI:=zY (LI.out rfl);have LD:=zY (LD.out rfl);by_cases hbig:4294967295<va;case pos=>(
 have q1:(4294967295:Int)<(va:Int):=by omega
 have z0:=HZ9.c 0;have z1:=HZ9.c 1;have z2:=HZ9.c 2;have z3:=HZ9.c 3;have y0:=HZ9.frozen 0;have y1:=HZ9.frozen 1;have y2:=HZ9.frozen 2;have y3:=HZ9.frozen 3;have HW:=zY (HZ9.setAll (i:=0) [.int .u32 0,.int .i64 0,.int .i64 0,.string ⟨#[]⟩]);have HBw:=zY (below_setAll (g:=w.heap.size) (Nat.le_refl _) [.int .u32 0,.int .i64 0,.int .i64 0,.string ⟨#[]⟩] w9 0 HB9.out);go_wp2_with fail;refine bodyPost_ret (results_row_tmp rfl _ _ w.heap.size 124 _ (0,0) _ rfl HW.out Tryz.underlying124 rfl (by kernel_rfl)) rfl ?_;exact⟨⟨⟨0,0,0,⟨#[]⟩⟩,2,rfl,fun q hq=>absurd hq (fun hq=>by have h1:=(QA.out q hq).2;have h2:=hq.ok.ha;omega)⟩,HBw.out⟩)
 case neg=>
 have q1:¬(4294967295:Int)<(va:Int):=by omega
 have q2:IntKind.u32.wrap (va:Int)=va:=IntWalk.u32_in _ (by omega);have HCc:=zY (fun W=>rcheck26_any W va vi vt Y (by omega) (by have:=LD.out;omega) (by have:=LI.out;omega) ZY.out);have HK:Hid (Blk (w9.alloc (.cells #[.int .u32 (va:Int),.int .i64 (vi:Int),.int .i64 (vt:Int),.string Y] 124)) w9.heap.size 124 [.int .u32 (va:Int),.int .i64 (vi:Int),.int .i64 (vt:Int),.string Y]):=zY (Blk.new w9 124 [.int .u32 (va:Int),.int .i64 (vi:Int),.int .i64 (vt:Int),.string Y]);have hba:=zBl w9 (.cells #[.int .u32 (va:Int),.int .i64 (vi:Int),.int .i64 (vt:Int),.string Y] 124);have HZa:=zY (HZ9.kept hba);have HBa:=zYt HB9 hba;clear hba HZ9 HB9;go_upto_region 16 with fail;generalize w9.alloc (.cells #[.int .u32 (va:Int),.int .i64 (vi:Int),.int .i64 (vt:Int),.string Y] 124)=wv at *;clear q1 q2 m1 m2 m3;have c0:=HK.c 0;have c1:=HK.c 1;have c2:=HK.c 2;have c3:=HK.c 3;go_wp2_with fail;refine(HCc.out _).mono ?_;rintro ea wc ⟨⟨n,rfl,hn⟩,hbc⟩;have HZc:=zY (HZa.kept hbc);have HBc:=zYt HBa hbc;have HKc:=zY (HK.kept hbc);have HN:=zY hn;clear hbc hn HZa HBa HK c0 c1 c2 c3;by_cases h0:n=0;case neg=>(
 have f0:(n != 0)=true:=by rw[bne_iff_ne];exact h0
 have z0:=HZc.c 0;have z1:=HZc.c 1;have z2:=HZc.c 2;have z3:=HZc.c 3;have y0:=HZc.frozen 0;have y1:=HZc.frozen 1;have y2:=HZc.frozen 2;have y3:=HZc.frozen 3;have HW:=zY (HZc.setAll (i:=0) [.int .u32 0,.int .i64 0,.int .i64 0,.string ⟨#[]⟩]);have HBw:=zY (below_setAll (g:=w.heap.size) (Nat.le_refl _) [.int .u32 0,.int .i64 0,.int .i64 0,.string ⟨#[]⟩] wc 0 HBc.out);go_wp2_with fail;refine bodyPost_ret (results_row_tmp rfl _ _ w.heap.size 124 _ (0,0) _ rfl HW.out Tryz.underlying124 rfl (by kernel_rfl)) rfl ?_;exact⟨⟨⟨0,0,0,⟨#[]⟩⟩,n,rfl,fun q hq=>absurd hq (fun hq=>h0 (HN.2 (by have h1:=(QA.out q hq).2;have h2:=(QI.out q hq).2;have h3:=(QD.out q hq).2;have h4:=QY.out q hq;rw[h1,h2,h3,h4];exact hq.ok)))⟩,HBw.out⟩)
 case pos=>
 subst h0;have c0:=HKc.c 0;have c1:=HKc.c 1;have c2:=HKc.c 2;have c3:=HKc.c 3;have z0:=HZc.c 0;have z1:=HZc.c 1;have z2:=HZc.c 2;have z3:=HZc.c 3;have y0:=HZc.frozen 0;have y1:=HZc.frozen 1;have y2:=HZc.frozen 2;have y3:=HZc.frozen 3;have HW:=zY (HZc.setAll (i:=0) [.int .u32 (va:Int),.int .i64 (vi:Int),.int .i64 (vt:Int),.string Y]);have HBw:=zY (below_setAll (g:=w.heap.size) (Nat.le_refl _) [.int .u32 (va:Int),.int .i64 (vi:Int),.int .i64 (vt:Int),.string Y] wc 0 HBc.out);go_wp2_with fail;refine bodyPost_ret (results_row_tmp rfl _ _ w.heap.size 124 _ (0,0) _ rfl HW.out Tryz.underlying124 rfl (by kernel_rfl)) rfl ?_;exact⟨⟨⟨va,vi,vt,Y⟩,0,rfl,fun q hq=>⟨rfl,by cases q;rw[Pln.mk.injEq];exact⟨(QA.out _ hq).2,(QI.out _ hq).2,(QD.out _ hq).2,QY.out _ hq⟩⟩⟩,HBw.out⟩
end
end Go.Proofs.YthgenkkkapilhaaGreatDoor