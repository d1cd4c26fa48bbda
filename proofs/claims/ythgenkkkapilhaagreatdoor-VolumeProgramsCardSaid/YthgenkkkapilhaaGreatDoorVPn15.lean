/-
  Joined: VpN.
-/
import Derived.Test.YthgenkkkapilhaaGreatDoorVPn12
set_option linter.all false
set_option maxRecDepth 100000
set_option maxHeartbeats 64000000
namespace Go.Proofs.YthgenkkkapilhaaGreatDoor
open Go.Proofs.Tryz
section
open Go.RowKit
def chaOk (c:Cha):Prop:=c.path.size<=250/\c.tgt.size<=250/\c.attrs.length<=20/\c.cont.size<=600/\∀a∈c.attrs,a.k.size<=80/\a.v.size<=80
def cntB:List Bat->Nat
 |[]=>0
 |b::r=>b.l.length+cntB r
theorem cntB_app (l m:List Bat):cntB (l++m)=cntB l+cntB m:=by
 induction l with
 |nil=>simp[cntB]
 |cons x r ih=>rw[List.cons_append,cntB,cntB,ih];omega
def GreatOk (l:List Bat):Prop:=cntB l<=10/\(∀b∈l,∀c∈b.l,chaOk c)/\l.length<=4
def RetGr (l:List Bat) (e:Ending):Prop:=∃n:Int,e=.returned (.int .i64 n)/\(n=1∨(n=0/\GreatOk l))
theorem RetGr.one (l:List Bat):RetGr l (.returned (.int .i64 1)):=⟨1,rfl,.inl rfl⟩
theorem take_mem {α:Type} {l:List α} {i:Nat} {x:α} {p:α->Prop} (hx:l[i]?=some x) (h:∀y∈l.take i,p y) (hp:p x):∀y∈l.take (i+1),p y:=by
 intro y hy;rw[List.take_add_one,hx]at hy;rcases List.mem_append.1 hy with hy|hy;{exact h y hy};{
 rw[Option.toList_some,List.mem_singleton]at hy;rw[hy];exact hp}
theorem great39_any (w:World) (v:Value) (l:List Bat) (hv:SeqAt batS w v l):Calls prog 36 #[v] w fun e w'=>RetGr l e/\Below w.heap.size w w':=by
 have Hv:=zY hv;obtain⟨A,c,rfl,h1,h2⟩:=hv.slice;clear hv;go_enter func36,ntmps36;go_wp2;go_loopw [3,4,5,6,7] (fun n x _ _ _ wr=>∃i N:Nat,i<=l.length/\x=.int .i64 (i:Int)/\n=.int .i64 (N:Int)/\N=30*cntB (l.take i)/\N<=300/\(∀b∈l.take i,∀c∈b.l,chaOk c)/\Below w.heap.size w wr) (fun _ x _ _ _ _=>l.length-(intOf x).toNat);case atStart=>exact⟨0,0,by omega,rfl,rfl,by simp[cntB],by omega,(fun b hb=>by simp at hb),Below.refl _ _⟩
 case round=>
 obtain⟨i,N,hi,rfl,rfl,hN,hN3,hall,hB⟩:=hrel;have HN:=zY hN;have Hall:=zY hall;have HB:=zY hB;clear hN hall hB;by_cases h:i<l.length;{
 have hiI:(i:Int)<l.length:=by omega
 obtain⟨b,hb⟩:∃b,l[i]?=some b:=⟨_,List.getElem?_eq_getElem h⟩;have Hb:=zY hb;obtain⟨_,_,e9,_,_,h4⟩:=Hv.below HB.out;cases e9;obtain⟨g,o,cs,rfl,⟨vb,rfl,rb⟩,hc⟩:=h4 i b hb;have HL1:Hid (wr.cell? ⟨g,o+i*2+1,none⟩=some vb):=zY (hc 1 _ rfl);have HRb:=zY rb;have HNx:Hid (30*cntB (l.take (i+1))=N+30*b.l.length):=zY (by rw[HN.out,List.take_add_one,hb,cntB_app];simp only[Option.toList_some,cntB];omega);obtain⟨Ab,cb,rfl,_,_⟩:=rb.slice;clear hc h4 hb rb;obtain⟨wx,rfl⟩:∃x,x=wr:=⟨_,rfl⟩;go_wp2;go_loopw [3,5,6,7] (fun n x _ _ wr=>∃k M:Nat,k<=b.l.length/\x=.int .i64 (k:Int)/\n=.int .i64 (M:Int)/\M=N+30*k/\M<=300/\(∀c∈b.l.take k,chaOk c)/\Below wx.heap.size wx wr) (fun _ x _ _ _=>b.l.length-(intOf x).toNat);case atStart=>exact⟨0,N,by omega,rfl,rfl,by omega,hN3,(fun c hc=>by simp at hc),Below.refl _ _⟩
 case round=>
 obtain⟨k,M,hk,rfl,rfl,hM,hM3,hcs,hB2⟩:=hrel;have HM:=zY hM;have Hcs:=zY hcs;have HB2:=zY hB2;clear hM hcs hB2;have c1:=cell_below HB2.out HL1.out;by_cases hk2:k<b.l.length;{
 have hkI:(k:Int)<b.l.length:=by omega
 obtain⟨x,hx⟩:∃x,b.l[k]?=some x:=⟨_,List.getElem?_eq_getElem hk2⟩;have Hx:=zY hx;obtain⟨_,_,e9,_,_,h4⟩:=HRb.below HB2.out;cases e9;obtain⟨g2,o2,cs,rfl,⟨va,rfl,ra⟩,hc⟩:=h4 k x hx;have HRa:=zY ra;obtain⟨Aa,ca,rfl,_,_⟩:=ra.slice;obtain⟨xk,xp,xa,xt,xc⟩:=x;dsimp only at hc HRa Hx;have Hna:Hid (xa.length=xa.length):=zY rfl;generalize hna:xa.length=na at *;have Hn:=zY hna;have e0:wr.cell? ⟨g2,o2+k*5,none⟩=some (.int .i64 xk):=hc 0 _ rfl;have e1:wr.cell? ⟨g2,o2+k*5+1,none⟩=some (.string xp):=hc 1 _ rfl;have e2:wr.cell? ⟨g2,o2+k*5+2,none⟩=some (.slice Aa na ca):=hc 2 _ rfl;have e3:wr.cell? ⟨g2,o2+k*5+3,none⟩=some (.string xt):=hc 3 _ rfl;have e4:wr.cell? ⟨g2,o2+k*5+4,none⟩=some (.string xc):=hc 4 _ rfl;clear hc h4 hx ra hna Hna;have HF:Hid (Blk (wr.alloc (.cells #[.int .i64 xk,.string xp,.slice Aa na ca,.string xt,.string xc] 91)) wr.heap.size 91 [.int .i64 xk,.string xp,.slice Aa na ca,.string xt,.string xc]):=zY (Blk.new _ _ _);have HBz:=zY (HB2.alloc HB2.size (.cells #[.int .i64 xk,.string xp,.slice Aa na ca,.string xt,.string xc] 91));have HRz:=zY (HRa.below ((Below.refl _ wr).alloc (Nat.le_refl _) (.cells #[.int .i64 xk,.string xp,.slice Aa na ca,.string xt,.string xc] 91)));go_upto_region 9 with fail;clear e0 e1 e2 e3 e4 c1;generalize wr.alloc (.cells #[.int .i64 xk,.string xp,.slice Aa na ca,.string xt,.string xc] 91)=wz at *;generalize wr.heap.size=gx at *;have f1:=HF.c 1;have f2:=HF.c 2;have f3:=HF.c 3;have f4:=HF.c 4;have HBw:=zY (HB.trans (HBz.mono HB.size));obtain⟨M2,hM2⟩:=zNm (M+30);have hM2I:(M:Int)+30=M2:=by omega
 have HM2:Hid (M2=N+30*(k+1)):=zY (by have:=HM.out;omega);clear hM2;by_cases a1:250<xp.size;{
 have a1I:(250:Int)<xp.size:=by omega
 go_wp2;go_ret;exact⟨RetGr.one l,HBw.out⟩};{
 have a1I:¬(250:Int)<xp.size:=by omega
 by_cases a2:250<xt.size;{
 have a2I:(250:Int)<xt.size:=by omega
 go_wp2;go_ret;exact⟨RetGr.one l,HBw.out⟩};{
 have a2I:¬(250:Int)<xt.size:=by omega
 by_cases a3:20<na;{
 have a3I:(20:Int)<na:=by omega
 go_wp2;go_ret;exact⟨RetGr.one l,HBw.out⟩};{
 have a3I:¬(20:Int)<na:=by omega
 by_cases a4:600<xc.size;{
 have a4I:(600:Int)<xc.size:=by omega
 go_wp2;go_ret;exact⟨RetGr.one l,HBw.out⟩};{
 have a4I:¬(600:Int)<xc.size:=by omega
 by_cases a5:300<M2;{
 have a5I:(300:Int)<M2:=by omega
 go_wp2;go_ret;exact⟨RetGr.one l,HBw.out⟩};{
 have a5I:¬(300:Int)<M2:=by omega
 go_wp2;go_loop [7] (fun x=>∃j:Nat,j<=na/\x=.int .i64 (j:Int)/\∀a∈xa.take j,a.k.size<=80/\a.v.size<=80) (fun x=>na-(intOf x).toNat);case atStart=>exact⟨0,by omega,rfl,fun a ha=>by simp at ha⟩
 case round=>
 obtain⟨j,hj,rfl,hat⟩:=hrel;have Hat:=zY hat;clear hat;by_cases hj2:j<na;{
 have hjI:(j:Int)<na:=by omega
 obtain⟨y,hy⟩:∃y,xa[j]?=some y:=⟨_,List.getElem?_eq_getElem (by rw[Hn.out];exact hj2)⟩;have Hy:=zY hy;have hrz:=HRz.out;obtain⟨_,_,e9,_,_,h4⟩:=hrz;cases e9;obtain⟨g3,o3,cs,rfl,rfl,hc⟩:=h4 j y hy;obtain⟨yk,yv⟩:=y;dsimp only at hc Hy;have q0:wz.cell? ⟨g3,o3+j*2,none⟩=some (.string yk):=hc 0 _ rfl;have q1:wz.cell? ⟨g3,o3+j*2+1,none⟩=some (.string yv):=hc 1 _ rfl;clear hc h4 hy;by_cases b1:80<yk.size;{
 have b1I:(80:Int)<yk.size:=by omega
 go_wp2;go_ret;exact⟨RetGr.one l,HBw.out⟩};{
 have b1I:¬(80:Int)<yk.size:=by omega
 by_cases b2:80<yv.size;{
 have b2I:(80:Int)<yv.size:=by omega
 go_wp2;go_ret;exact⟨RetGr.one l,HBw.out⟩};{
 have b2I:¬(80:Int)<yv.size:=by omega
 go_wp2;go_round;case rel=>exact⟨j+1,by omega,by go_num,take_mem Hy.out Hat.out ⟨by show yk.size<=80;omega,by show yv.size<=80;omega⟩⟩
 case measure=>simp[intOf];omega}}};{
 obtain rfl:j=na:=by omega
 have hjI:¬((j:Nat):Int)<(j:Int):=by omega
 have HOk:Hid (chaOk ⟨xk,xp,xa,xt,xc⟩):=zY ⟨by show xp.size<=250;omega,by show xt.size<=250;omega,by show xa.length<=20;rw[Hn.out];omega,by show xc.size<=600;omega,fun a ha=>Hat.out a (by rw[List.take_of_length_le (by rw[Hn.out];exact Nat.le_refl _)];exact ha)⟩;go_wp2;go_roundw;case rel=>exact⟨k+1,M2,by omega,by go_num,rfl,HM2.out,by omega,take_mem Hx.out Hcs.out HOk.out,HBz.out⟩
 case measure=>simp[intOf];omega}}}}}}};{
 obtain rfl:k=b.l.length:=by omega
 have hkI:¬((b.l.length:Nat):Int)<(b.l.length:Int):=by omega
 go_wp2;go_roundw;case rel=>exact⟨i+1,M,by omega,by go_num,rfl,by rw[HNx.out];exact HM.out,hM3,take_mem Hb.out Hall.out (fun c hc=>Hcs.out c (by rw[List.take_length];exact hc)),HB.trans (HB2.mono HB.size)⟩
 case measure=>simp[intOf];omega}};{
 obtain rfl:i=l.length:=by omega
 have hiI:¬((l.length:Nat):Int)<(l.length:Int):=by omega
 by_cases h5:4<l.length;{
 have h5I:(4:Int)<l.length:=by omega
 go_wp2;go_ret;exact⟨RetGr.one l,HB.out⟩};{
 have h5I:¬(4:Int)<l.length:=by omega
 have HG:Hid (GreatOk l):=zY ⟨by have:=HN.out;rw[List.take_length]at this;omega,fun b hb=>Hall.out b (by rw[List.take_length];exact hb),by omega⟩;go_wp2;go_ret;exact⟨⟨0,rfl,.inr ⟨rfl,HG.out⟩⟩,HB.out⟩}}
end
end Go.Proofs.YthgenkkkapilhaaGreatDoor