/-
  Joined: VpH.
-/
import Derived.Test.YthgenkkkapilhaaGreatDoorVQn10
set_option linter.all false
set_option maxRecDepth 100000
set_option maxHeartbeats 64000000
namespace Go.Proofs.YthgenkkkapilhaaGreatDoor
open Go.Proofs.Tryz
section
open Go.RowKit
def RetSt (v:Value) (m:Nat) (e:Ending):Prop:=∃(sn:Int) (st:ByteArray) (n:Int),e=.returned (.tuple #[.agg #[v,.int .i64 sn,.string st],.int .i64 n])/\st.size<=m
theorem begin35_any (w:World) (A:Option Addr) (n c:Nat) (sn:Int) (st:ByteArray) (k:Int):Calls prog 149 #[.agg #[.slice A n c,.int .i64 sn,.string st],.int .i64 k] w fun e w'=>RetSt (.slice A n c) st.size e/\Below w.heap.size w w':=by
 have hK:=Blk.new w 160 [.slice A n c,.int .i64 sn,.string st];change Blk (w.alloc (.cells #[.slice A n c,.int .i64 sn,.string st] 160)) _ _ _ at hK;have hZ:=Blk.new (w.alloc (.cells #[.slice A n c,.int .i64 sn,.string st] 160)) 160 [.slice none 0 0,.int .i64 0,.string ⟨#[]⟩];change Blk ((w.alloc (.cells #[.slice A n c,.int .i64 sn,.string st] 160)).alloc (.cells #[.slice none 0 0,.int .i64 0,.string ⟨#[]⟩] 160)) _ _ _ at hZ;rw[World.size_alloc]at hZ;have HZ0:=zY hZ;have HK0:=zY (hK.alloc (.cells #[.slice none 0 0,.int .i64 0,.string ⟨#[]⟩] 160));have HB0:=zY ((zBl w (.cells #[.slice A n c,.int .i64 sn,.string st] 160)).alloc (by simp) (.cells #[.slice none 0 0,.int .i64 0,.string ⟨#[]⟩] 160));clear hZ hK;go_enter func149,ntmps149;go_upto_region 1 with fail;generalize (w.alloc (.cells #[.slice A n c,.int .i64 sn,.string st] 160)).alloc (.cells #[.slice none 0 0,.int .i64 0,.string ⟨#[]⟩] 160)=wa at *;have c0:=HK0.c 0;have c1:=HK0.c 1;have c2:=HK0.c 2;have z0:=HZ0.c 0;have z1:=HZ0.c 1;have z2:=HZ0.c 2;have y0:=HZ0.frozen 0;have y1:=HZ0.frozen 1;have y2:=HZ0.frozen 2;have HW:=zY (fun(N:Int) (S:ByteArray)=>((HZ0.set 0 (.slice A n c)).set 1 (.int .i64 N)).set 2 (.string S));have HB:=zY (fun(N:Int) (S:ByteArray)=>((HB0.setCell (p:=⟨w.heap.size+1,0,none⟩) (by show w.heap.size<=w.heap.size+1;omega) (.slice A n c)).setCell (p:=⟨w.heap.size+1,1,none⟩) (by show w.heap.size<=w.heap.size+1;omega) (.int .i64 N)).setCell (p:=⟨w.heap.size+1,2,none⟩) (by show w.heap.size<=w.heap.size+1;omega) (.string S));by_cases h1:k<1;{
 go_wp2_with fail;refine bodyPost_ret (results_row_tmp rfl _ _ (w.heap.size+1) 160 _ (0,0) _ rfl (HW.out sn st) underlying160 rfl (by kernel_rfl)) rfl ?_;exact⟨⟨sn,st,2,rfl,Nat.le_refl _⟩,HB.out sn st⟩};{
 by_cases h2:255<k;{
 go_wp2_with fail;refine bodyPost_ret (results_row_tmp rfl _ _ (w.heap.size+1) 160 _ (0,0) _ rfl (HW.out sn st) underlying160 rfl (by kernel_rfl)) rfl ?_;exact⟨⟨sn,st,2,rfl,Nat.le_refl _⟩,HB.out sn st⟩};{
 by_cases h3:k<=sn;{
 go_wp2_with fail;refine bodyPost_ret (results_row_tmp rfl _ _ (w.heap.size+1) 160 _ (0,0) _ rfl (HW.out sn st) underlying160 rfl (by kernel_rfl)) rfl ?_;exact⟨⟨sn,st,14,rfl,Nat.le_refl _⟩,HB.out sn st⟩};{
 go_wp2_with fail;refine bodyPost_ret (results_row_tmp rfl _ _ (w.heap.size+1) 160 _ (0,0) _ rfl (HW.out k ⟨#[]⟩) underlying160 rfl (by kernel_rfl)) rfl ?_;exact⟨⟨k,⟨#[]⟩,0,rfl,Nat.zero_le _⟩,HB.out k ⟨#[]⟩⟩}}}
def RetStr (m:Nat) (e:Ending):Prop:=∃(s:ByteArray) (n:Int),e=.returned (.tuple #[.string s,.int .i64 n])/\s.size<=m
theorem get35_any (w:World) (v u:Value) (L:List ByteArray) (l:List Ext) (hv:SeqAt strS w v L) (hu:SeqAt extS w u l) (hL:∀s∈L,s.size<=1000000000):Calls prog 216 #[v,u] w fun e w'=>RetStr 65536 e/\Below w.heap.size w w':=by
 have Hv:=zY hv;have Hu:=zY hu;have HL:=zY hL;obtain⟨A,c,rfl,h1,h2⟩:=hv.slice;obtain⟨B,d,rfl,h3,h4⟩:=hu.slice;clear hv hu hL;go_enter func216,ntmps216;go_wp2;go_loopw [6,7,8] (fun y x _ wr=>∃(i:Nat) (s:ByteArray),i<=l.length/\x=.int .i64 (i:Int)/\y=.string s/\s.size<=65536/\Below w.heap.size w wr) (fun _ x _ _=>l.length-(intOf x).toNat);case atStart=>exact⟨0,⟨#[]⟩,by omega,rfl,rfl,Nat.zero_le _,Below.refl _ _⟩
 case round=>
 obtain⟨i,s,hi,rfl,rfl,hs,hB⟩:=hrel;have HB:=zY hB;clear hB;by_cases h:i<l.length;{
 have hiI:(i:Int)<l.length:=by omega
 obtain⟨x,hx⟩:∃x,l[i]?=some x:=⟨_,List.getElem?_eq_getElem h⟩;obtain⟨_,_,e9,_,_,h4⟩:=Hu.below HB.out;cases e9;obtain⟨b,o,cs,rfl,rfl,hc⟩:=h4 i x hx;obtain⟨xs,xo,xl⟩:=x;have e0:wr.cell? ⟨b,o+i*3,none⟩=some (.int .i64 xs):=hc 0 _ rfl;have e1:wr.cell? ⟨b,o+i*3+1,none⟩=some (.int .i64 xo):=hc 1 _ rfl;have e2:wr.cell? ⟨b,o+i*3+2,none⟩=some (.int .i64 xl):=hc 2 _ rfl;clear hc h4 hx;have hF:=Blk.new wr 252 [.int .i64 xs,.int .i64 xo,.int .i64 xl];change Blk (wr.alloc (.cells #[.int .i64 xs,.int .i64 xo,.int .i64 xl] 252)) _ _ _ at hF;have HF:=zY hF;have HBz:=zY (HB.alloc HB.size (.cells #[.int .i64 xs,.int .i64 xo,.int .i64 xl] 252));clear hF;go_upto_region 6 with fail;generalize wr.alloc (.cells #[.int .i64 xs,.int .i64 xo,.int .i64 xl] 252)=wz at *;generalize wr.heap.size=fb at *;clear e0 e1 e2;have g0:=HF.c 0;have g1:=HF.c 1;have g2:=HF.c 2;by_cases a1:xl<0;{
 go_wp2;go_ret2;exact⟨⟨⟨#[]⟩,2,rfl,Nat.zero_le _⟩,HBz.out⟩};{
 by_cases a2:xo<0;{
 go_wp2;go_ret2;exact⟨⟨⟨#[]⟩,2,rfl,Nat.zero_le _⟩,HBz.out⟩};{
 by_cases a3:xs<0;{
 go_wp2;go_ret2;exact⟨⟨⟨#[]⟩,2,rfl,Nat.zero_le _⟩,HBz.out⟩};{
 by_cases a4:(L.length:Int)<xs;{
 go_wp2;go_ret2;exact⟨⟨⟨#[]⟩,2,rfl,Nat.zero_le _⟩,HBz.out⟩};{
 obtain⟨m,rfl⟩:∃m:Nat,xl=(m:Int):=⟨xl.toNat,by omega⟩;obtain⟨p,rfl⟩:∃p:Nat,xo=(p:Int):=⟨xo.toNat,by omega⟩;obtain⟨k,hk⟩:∃k:Nat,65536-s.size=k:=⟨_,rfl⟩;have hkI:(65536:Int)-s.size=(k:Int):=by omega
 have hkb:k<=65536:=by omega
 by_cases a5:xs=0;{
 subst a5;by_cases a6:p=0;{
 subst a6;rw[show ((0:Nat):Int)=0 from rfl]at *;have hsk:s.size+k=65536:=by omega
 clear hk;by_cases a7:k<m;{
 have f7:(k:Int)<m:=by omega
 go_upto_region 8 with fail;go_quiet (fail);go_wp2;go_ret2;exact⟨⟨⟨#[]⟩,6,rfl,Nat.zero_le _⟩,zBd HBz.out _⟩};{
 have f7:¬(k:Int)<m:=by omega
 have hmk:=make_u8 m m (Nat.le_refl _) (by omega);have hcv:∀W:World,(convert 117 9 (.slice (some ⟨W.heap.size,0,none⟩) m m)).run prog (W.alloc (.cells (arrB (List.replicate m 0)) 5))=.ok (.string (strB (List.replicate m 0))) (W.alloc (.cells (arrB (List.replicate m 0)) 5)):=fun W=>
  run_toStr ((U8B.new W (List.replicate m 0)).bytes (n:=m) (c:=m) (by simp) (by simp) (by omega)) (by simp);have hcv2:∀n:Nat,(convert 117 9 (.slice (some ⟨wz.heap.size,0,none⟩) m m)).run prog ((wz.drewN n).alloc (.cells (arrB (List.replicate m 0)) 5))=.ok (.string (strB (List.replicate m 0))) ((wz.drewN n).alloc (.cells (arrB (List.replicate m 0)) 5)):=fun n=>by simpa using hcv (wz.drewN n)
 clear hcv;have HZ:Hid ((strB (List.replicate m 0)).size=m):=zY (by rw[strB_size];simp);have hcc:¬9223372036854775807<s.size+(strB (List.replicate m 0)).size:=by rw[HZ.out];omega
 generalize strB (List.replicate m 0)=Z at *;go_upto_region 8 with fail;go_quiet (fail);go_wp2;go_roundw;case rel=>exact⟨i+1,_,by omega,by go_num,rfl,by rw[ByteArray.size_append,HZ.out];omega,(zBd HBz.out _).alloc (zBd HBz.out _).size _⟩
 case measure=>simp[intOf];omega}};{
 have f6:((p:Int) != 0)=true:=by rw[bne_iff_ne];omega
 go_wp2;go_ret2;exact⟨⟨⟨#[]⟩,2,rfl,Nat.zero_le _⟩,HBz.out⟩}};{
 have f5:(xs==0)=false:=by rw[beq_eq_false_iff_ne];exact a5
 have f6:(0:Int)<xs:=by omega
 have f6d:decide ((0:Int)<xs)=true:=decide_eq_true f6;obtain⟨j,hj⟩:∃j:Nat,xs-1=(j:Int):=⟨(xs-1).toNat,by omega⟩;have hjL:j<L.length:=by omega
 have hjI:(j:Int)<L.length:=by omega
 obtain⟨t,ht⟩:∃t,L[j]?=some t:=⟨_,List.getElem?_eq_getElem hjL⟩;have htz:=HL.out t (List.mem_of_getElem? ht);obtain⟨_,_,e9,_,_,h4⟩:=Hv.below HBz.out;cases e9;obtain⟨bL,oL,cs,rfl,rfl,hc⟩:=h4 j t ht;have d0:wz.cell? ⟨bL,oL+j,none⟩=some (.string t):=by simpa [strS]using hc 0 _ rfl
 have hjw:IntKind.i64.wrap (xs-1)=(j:Int):=by rw[hj];exact zIw (by omega)
 clear hc h4 ht a5 hk;by_cases b1:t.size<p;{
 have f7:decide ((t.size:Int)<p)=true:=decide_eq_true (by omega);have f8:decide (t.size<p)=true:=decide_eq_true b1;go_upto_region 8 with fail;go_quiet (fail);go_wp2;go_ret2;exact⟨⟨⟨#[]⟩,2,rfl,Nat.zero_le _⟩,zBd HBz.out _⟩};{
 have f7:decide ((t.size:Int)<p)=false:=decide_eq_false (by omega);have f8:decide (t.size<p)=false:=decide_eq_false b1;obtain⟨q,hq⟩:∃q:Nat,t.size-p=q:=⟨_,rfl⟩;have hqI:(t.size:Int)-p=(q:Int):=by omega
 have hqw:IntKind.i64.wrap ((t.size:Int)-p)=(q:Int):=by rw[hqI];exact zIw (by omega)
 by_cases b2:q<m;{
 have f9:decide ((q:Int)<m)=true:=decide_eq_true (by omega);have f10:decide (q<m)=true:=decide_eq_true b2;clear hq;go_upto_region 8 with fail;go_quiet (fail);go_wp2;go_ret2;exact⟨⟨⟨#[]⟩,2,rfl,Nat.zero_le _⟩,zBd HBz.out _⟩};{
 have f9:decide ((q:Int)<m)=false:=decide_eq_false (by omega);have f10:decide (q<m)=false:=decide_eq_false b2;obtain⟨r,hr⟩:∃r:Nat,p+m=r:=⟨_,rfl⟩;have hrI:(p:Int)+m=(r:Int):=by omega
 have hrw:IntKind.i64.wrap ((p:Int)+m)=(r:Int):=by rw[hrI];exact zIw (by omega)
 have hpr:p<=r:=by omega
 have hrt:r<=t.size:=by omega
 have hprI:(p:Int)<=r:=by omega
 have hrtI:(r:Int)<=t.size:=by omega
 obtain⟨X,hX⟩:=zNm (t.extract p r);have HXz:Hid (X.size=m):=zY (by rw[<-hX,ByteArray.size_extract];omega);clear hq hr;by_cases a7:k<m;{
 have f11:(k:Int)<m:=by omega
 go_upto_region 8 with fail;go_quiet (fail);go_wp2;go_ret2;exact⟨⟨⟨#[]⟩,6,rfl,Nat.zero_le _⟩,zBd HBz.out _⟩};{
 have f11:¬(k:Int)<m:=by omega
 have hcc:¬9223372036854775807<s.size+X.size:=by rw[HXz.out];omega
 have hsk:s.size+m<=65536:=by omega
 go_upto_region 8 with fail;go_quiet (fail);go_upto_region 14 with fail;go_quiet (fail);go_wp2;go_roundw;case rel=>exact⟨i+1,_,by omega,by go_num,rfl,by rw[ByteArray.size_append,HXz.out];omega,by first|exact zBd HBz.out _|exact zBd (zBd HBz.out _) _⟩
 case measure=>simp[intOf];omega}}}}}}}}};{
 obtain rfl:i=l.length:=by omega
 have hiI:¬((l.length:Nat):Int)<(l.length:Int):=by omega
 go_wp2;go_ret2;exact⟨⟨s,0,rfl,hs⟩,HB.out⟩}
end
end Go.Proofs.YthgenkkkapilhaaGreatDoor