/-
  Joined: VoE VoF VoG.
-/
import Derived.Test.YthgenkkkapilhaaGreatDoorVQn01
set_option linter.all false
set_option maxRecDepth 100000
set_option maxHeartbeats 64000000
namespace Go.Proofs.YthgenkkkapilhaaGreatDoor
open Go.Proofs.Tryz
section
open Go.RowKit
def keyB (p:List Nat):Bool:=decide (1<=p.length/\p.length<=32)&&p.all okC
theorem key_any (w:World) (s:ByteArray) (hs:s.size<=1000000):Calls prog 293 #[.string s] w fun e w'=>e=.returned (.bool (keyB (bs s)))/\w=w':=by
 obtain⟨R,hR⟩:=zNm (keyB (bs s));rw[hR];rw[keyB,bs_len]at hR;by_cases h1:s.size<1;{
 have i1:(s.size:Int)<1:=by omega
 rw[decide_eq_false (by omega),Bool.false_and]at hR;have HR:=zY hR;clear hR;go_enter func293,ntmps293;go_wp2;go_ret;exact⟨by rw[<-HR.out]<;>rfl,rfl⟩};{
 by_cases h2:32<s.size;{
 have i1:¬(s.size:Int)<1:=by omega
 have i2:(32:Int)<s.size:=by omega
 rw[decide_eq_false (by omega),Bool.false_and]at hR;have HR:=zY hR;clear hR;go_enter func293,ntmps293;go_wp2;go_ret;exact⟨by rw[<-HR.out]<;>rfl,rfl⟩};{
 have i1:¬(s.size:Int)<1:=by omega
 have i2:¬(32:Int)<s.size:=by omega
 rw[decide_eq_true ⟨by omega,by omega⟩,Bool.true_and]at hR;have HR:=zY hR;clear hR;go_enter func293,ntmps293;go_wp2;go_loop [3,4] (fun x _=>∃k:Nat,k<=s.size/\x=.int .i64 (k:Int)/\((bs s).take k).all okC=true) (fun x _=>s.size-(intOf x).toNat);case atStart=>exact⟨0,by omega,rfl,rfl⟩
 case round=>
 obtain⟨k,hk,rfl,hok⟩:=hrel;have Hok:=zY hok;clear hok;by_cases h:k<s.size;{
 have hkI:(k:Int)<s.size:=by omega
 have HA:=zY (all_take h);have HF:Hid (((bs s).take (k+1)).all okC=false->R=false):=zY (fun e=>by
  rw[<-HR.out,<-List.take_append_drop (k+1) (bs s),List.all_append,e,Bool.false_and]);by_cases a1:(s[k]'h).toNat<97;{
 by_cases b1:(s[k]'h).toNat<48;{
 by_cases c1:(s[k]'h).toNat=46;{
 have f0:((s[k]'h).toNat:Int)<97:=by omega
 have f1:((s[k]'h).toNat:Int)<48:=by omega
 have f2:(((s[k]'h).toNat:Int) != 46)=false:=by rw[bne_eq_false_iff_eq];omega
 have HV:Hid (((bs s).take (k+1)).all okC=true):=zY (by rw[HA.out,Hok.out,Bool.true_and,okC];exact decide_eq_true (by omega));clear a1 b1 c1;go_wp2;go_round;case rel=>exact⟨k+1,by omega,by go_num,HV.out⟩
 case measure=>simp[intOf];omega};{
 by_cases c2:(s[k]'h).toNat=45;{
 have f0:((s[k]'h).toNat:Int)<97:=by omega
 have f1:((s[k]'h).toNat:Int)<48:=by omega
 have f2:(((s[k]'h).toNat:Int) != 46)=true:=by rw[bne_iff_ne];omega
 have f3:(((s[k]'h).toNat:Int) != 95)=true:=by rw[bne_iff_ne];omega
 have f4:(((s[k]'h).toNat:Int) != 45)=false:=by rw[bne_eq_false_iff_eq];omega
 have HV:Hid (((bs s).take (k+1)).all okC=true):=zY (by rw[HA.out,Hok.out,Bool.true_and,okC];exact decide_eq_true (by omega));clear a1 b1 c1 c2;go_wp2;go_round;case rel=>exact⟨k+1,by omega,by go_num,HV.out⟩
 case measure=>simp[intOf];omega};{
 have f0:((s[k]'h).toNat:Int)<97:=by omega
 have f1:((s[k]'h).toNat:Int)<48:=by omega
 have f2:(((s[k]'h).toNat:Int) != 46)=true:=by rw[bne_iff_ne];omega
 have f3:(((s[k]'h).toNat:Int) != 95)=true:=by rw[bne_iff_ne];omega
 have f4:(((s[k]'h).toNat:Int) != 45)=true:=by rw[bne_iff_ne];omega
 have HV:Hid (((bs s).take (k+1)).all okC=false):=zY (by rw[HA.out,Hok.out,Bool.true_and,okC];exact decide_eq_false (by omega));have HZ:=zY (HF.out HV.out);clear a1 b1 c1 c2;go_wp2;go_ret;exact⟨by rw[HZ.out]<;>rfl,rfl⟩}}};{
 by_cases b2:57<(s[k]'h).toNat;{
 by_cases c2:(s[k]'h).toNat=95;{
 have f0:((s[k]'h).toNat:Int)<97:=by omega
 have f1:¬((s[k]'h).toNat:Int)<48:=by omega
 have f2:(57:Int)<((s[k]'h).toNat:Int):=by omega
 have f3:(((s[k]'h).toNat:Int) != 46)=true:=by rw[bne_iff_ne];omega
 have f4:(((s[k]'h).toNat:Int) != 95)=false:=by rw[bne_eq_false_iff_eq];omega
 have HV:Hid (((bs s).take (k+1)).all okC=true):=zY (by rw[HA.out,Hok.out,Bool.true_and,okC];exact decide_eq_true (by omega));clear a1 b1 b2 c2;go_wp2;go_round;case rel=>exact⟨k+1,by omega,by go_num,HV.out⟩
 case measure=>simp[intOf];omega};{
 have f0:((s[k]'h).toNat:Int)<97:=by omega
 have f1:¬((s[k]'h).toNat:Int)<48:=by omega
 have f2:(57:Int)<((s[k]'h).toNat:Int):=by omega
 have f3:(((s[k]'h).toNat:Int) != 46)=true:=by rw[bne_iff_ne];omega
 have f4:(((s[k]'h).toNat:Int) != 95)=true:=by rw[bne_iff_ne];omega
 have f5:(((s[k]'h).toNat:Int) != 45)=true:=by rw[bne_iff_ne];omega
 have HV:Hid (((bs s).take (k+1)).all okC=false):=zY (by rw[HA.out,Hok.out,Bool.true_and,okC];exact decide_eq_false (by omega));have HZ:=zY (HF.out HV.out);clear a1 b1 b2 c2;go_wp2;go_ret;exact⟨by rw[HZ.out]<;>rfl,rfl⟩}};{
 have f0:((s[k]'h).toNat:Int)<97:=by omega
 have f1:¬((s[k]'h).toNat:Int)<48:=by omega
 have f2:¬(57:Int)<((s[k]'h).toNat:Int):=by omega
 have HV:Hid (((bs s).take (k+1)).all okC=true):=zY (by rw[HA.out,Hok.out,Bool.true_and,okC];exact decide_eq_true (by omega));clear a1 b1 b2;go_wp2;go_round;case rel=>exact⟨k+1,by omega,by go_num,HV.out⟩
 case measure=>simp[intOf];omega}}};{
 by_cases b1:122<(s[k]'h).toNat;{
 have f0:¬((s[k]'h).toNat:Int)<97:=by omega
 have f1:(122:Int)<((s[k]'h).toNat:Int):=by omega
 have f2:¬((s[k]'h).toNat:Int)<48:=by omega
 have f3:(57:Int)<((s[k]'h).toNat:Int):=by omega
 have f4:(((s[k]'h).toNat:Int) != 46)=true:=by rw[bne_iff_ne];omega
 have f5:(((s[k]'h).toNat:Int) != 95)=true:=by rw[bne_iff_ne];omega
 have f6:(((s[k]'h).toNat:Int) != 45)=true:=by rw[bne_iff_ne];omega
 have HV:Hid (((bs s).take (k+1)).all okC=false):=zY (by rw[HA.out,Hok.out,Bool.true_and,okC];exact decide_eq_false (by omega));have HZ:=zY (HF.out HV.out);clear a1 b1;go_wp2;go_ret;exact⟨by rw[HZ.out]<;>rfl,rfl⟩};{
 have f0:¬((s[k]'h).toNat:Int)<97:=by omega
 have f1:¬(122:Int)<((s[k]'h).toNat:Int):=by omega
 have HV:Hid (((bs s).take (k+1)).all okC=true):=zY (by rw[HA.out,Hok.out,Bool.true_and,okC];exact decide_eq_true (by omega));clear a1 b1;go_wp2;go_round;case rel=>exact⟨k+1,by omega,by go_num,HV.out⟩
 case measure=>simp[intOf];omega}}};{
 obtain rfl:k=s.size:=by omega
 have hkI:¬((s.size:Nat):Int)<(s.size:Int):=by omega
 have HT:Hid (R=true):=zY (by rw[<-HR.out,<-Hok.out,<-bs_len s,List.take_length]);go_wp2;go_ret;exact⟨by rw[HT.out]<;>rfl,rfl⟩}}}
def nameK (k:Int):ByteArray:=
 if k=1 then ⟨#[102,105,108,101]⟩ else if k=2 then ⟨#[100,105,114]⟩ else if k=3 then ⟨#[108,105,110,107]⟩ else if k=4 then ⟨#[114,101,109,111,118,101]⟩ else if k=5 then ⟨#[104,111,108,100]⟩ else if k=6 then ⟨#[114,101,108,101,97,115,101]⟩ else ⟨#[]⟩
theorem name_any (w:World) (k:Int):Calls prog 222 #[.int .i64 k] w fun e w'=>e=.returned (.string (nameK k))/\w=w':=by
 by_cases h:k=1∨k=2∨k=3∨k=4∨k=5∨k=6;{
 rcases h with rfl|rfl|rfl|rfl|rfl|rfl<;>
 {
 go_enter func222,ntmps222;go_wp2;go_ret;exact⟨rfl,rfl⟩}};{
 have e:∀j:Int,1<=j->j<=6->(k==j)=false:=fun j h1 h2=>by rw[beq_eq_false_iff_ne];omega
 have e1:=e 1 (by omega) (by omega);have e2:=e 2 (by omega) (by omega);have e3:=e 3 (by omega) (by omega);have e4:=e 4 (by omega) (by omega);have e5:=e 5 (by omega) (by omega);have e6:=e 6 (by omega) (by omega);have HN:Hid (nameK k=⟨#[]⟩):=zY (by
  unfold nameK
  rw[if_neg (by omega),if_neg (by omega),if_neg (by omega),if_neg (by omega),if_neg (by omega),if_neg (by omega)]);clear e h;go_enter func222,ntmps222;go_wp2;go_ret;exact⟨by rw[HN.out]<;>rfl,rfl⟩}
def digB (c:Nat):Bool:=decide (48<=c/\c<=57)
def valD (p:List Nat):Nat:=p.foldl (fun n c=>10*n+(c-48)) 0
def dateB (p:List Nat):Bool:=decide (1<=p.length/\p.length<=10/\¬(1<p.length/\cf p 0=48))&&(p.all digB&&decide (valD p<=1000000000))
theorem valD_lt {p:List Nat} (h:p.all digB=true):valD p<10^p.length:=by
 have g:∀(p:List Nat) (n m:Nat),p.all digB=true->n<10^m->p.foldl (fun n c=>10*n+(c-48)) n<10^(m+p.length):=by{
 intro p;induction p with
 |nil=>intro n m _ hn;simpa using hn
 |cons c r ih=>
 intro n m hc hn;rw[List.all_cons,Bool.and_eq_true]at hc;have h1:=of_decide_eq_true hc.1;have h2:10*n+(c-48)<10^(m+1):=by rw[Nat.pow_succ];omega
 have:=ih (10*n+(c-48)) (m+1) hc.2 h2;rw[List.foldl_cons,List.length_cons];rwa [show m+(r.length+1)=m+1+r.length by omega]};have:=g p 0 0 h (by decide);rwa [Nat.zero_add]at this
theorem date36_any (w:World) (s:ByteArray) (hs:s.size<=1000000):Calls prog 294 #[.string s] w fun e w'=>∃n:Int,e=.returned (.tuple #[.int .i64 n,.bool (dateB (bs s))])/\w=w':=by
 obtain⟨R,hR⟩:=zNm (dateB (bs s));rw[hR];rw[dateB,bs_len]at hR;by_cases h1:s.size<1;{
 have i1:(s.size:Int)<1:=by omega
 rw[decide_eq_false (by omega),Bool.false_and]at hR;have HR:=zY hR;clear hR;go_enter func294,ntmps294;go_wp2;go_ret2;first|exact⟨0,by rw[<-HR.out]<;>rfl,rfl⟩|exact⟨⟨0,by rw[<-HR.out]<;>rfl⟩,rfl⟩|exact⟨0,by rw[<-HR.out]<;>rfl⟩};{
 by_cases h2:10<s.size;{
 have i1:¬(s.size:Int)<1:=by omega
 have i2:(10:Int)<s.size:=by omega
 rw[decide_eq_false (by omega),Bool.false_and]at hR;have HR:=zY hR;clear hR;go_enter func294,ntmps294;go_wp2;go_ret2;first|exact⟨0,by rw[<-HR.out]<;>rfl,rfl⟩|exact⟨⟨0,by rw[<-HR.out]<;>rfl⟩,rfl⟩|exact⟨0,by rw[<-HR.out]<;>rfl⟩};{
 have i1:¬(s.size:Int)<1:=by omega
 have i2:¬(10:Int)<s.size:=by omega
 have h0:0<s.size:=by omega
 have hb0:=bsc s 0 h0;by_cases h3:1<s.size;{
 have i3:(1:Int)<s.size:=by omega
 have i0:(0:Int)<s.size:=by omega
 by_cases h4:(s[0]'h0).toNat=48;{
 have i4:(((s[0]'h0).toNat:Int)==48)=true:=by rw[h4];rfl
 rw[decide_eq_false (fun e=>e.2.2 ⟨h3,by rw[hb0,h4]⟩),Bool.false_and]at hR;have HR:=zY hR;clear hR hb0 h4;go_enter func294,ntmps294;go_wp2;go_ret2;first|exact⟨0,by rw[<-HR.out]<;>rfl,rfl⟩|exact⟨⟨0,by rw[<-HR.out]<;>rfl⟩,rfl⟩|exact⟨0,by rw[<-HR.out]<;>rfl⟩};{
 have i4:(((s[0]'h0).toNat:Int)==48)=false:=by rw[beq_eq_false_iff_ne];omega
 rw[decide_eq_true ⟨by omega,by omega,fun e=>h4 (by rw[<-hb0];exact e.2)⟩,Bool.true_and]at hR;have HR:=zY hR;clear hR hb0 h4;go_enter func294,ntmps294;go_wp2;go_loop [4,5] (fun y x=>∃k:Nat,k<=s.size/\x=.int .i64 (k:Int)/\y=.int .i64 ((valD ((bs s).take k):Nat):Int)/\((bs s).take k).all digB=true) (fun _ x=>s.size-(intOf x).toNat);case atStart=>exact⟨0,by omega,rfl,rfl,rfl⟩
 case round=>
 obtain⟨k,hk,rfl,rfl,hok⟩:=hrel;have Hok:=zY hok;have hv:=valD_lt hok;rw[List.length_take,bs_len,Nat.min_eq_left hk]at hv;have hv2:10^k<=10^10:=Nat.pow_le_pow_right (by decide) (by omega);have hv3:valD ((bs s).take k)<10000000000:=by omega
 clear hok hv hv2;by_cases h:k<s.size;{
 have hkI:(k:Int)<s.size:=by omega
 have hj:k<(bs s).length:=by rw[bs_len];exact h
 have ht:(bs s).take (k+1)=(bs s).take k++[(s[k]'h).toNat]:=by rw[List.take_succ_eq_append_getElem hj,<-cf_get (List.getElem?_eq_getElem hj),bsc s k h]
 have HA:Hid (((bs s).take (k+1)).all digB=digB (s[k]'h).toNat):=zY (by rw[ht,List.all_append,Hok.out,Bool.true_and];simp);have HF:Hid (digB (s[k]'h).toNat=false->R=false):=zY (fun e=>by
  rw[<-HR.out,<-List.take_append_drop (k+1) (bs s),List.all_append,HA.out,e,Bool.false_and,Bool.false_and]);by_cases a1:(s[k]'h).toNat<48;{
 have f0:((s[k]'h).toNat:Int)<48:=by omega
 have HZ:Hid (R=false):=zY (HF.out (decide_eq_false (by omega)));clear a1 ht hj;go_wp2;go_ret2;first|exact⟨0,by rw[HZ.out]<;>rfl,rfl⟩|exact⟨⟨0,by rw[HZ.out]<;>rfl⟩,rfl⟩|exact⟨0,by rw[HZ.out]<;>rfl⟩};{
 by_cases a2:57<(s[k]'h).toNat;{
 have f0:¬((s[k]'h).toNat:Int)<48:=by omega
 have f1:(57:Int)<((s[k]'h).toNat:Int):=by omega
 have HZ:Hid (R=false):=zY (HF.out (decide_eq_false (by omega)));clear a1 a2 ht hj;go_wp2;go_ret2;first|exact⟨0,by rw[HZ.out]<;>rfl,rfl⟩|exact⟨⟨0,by rw[HZ.out]<;>rfl⟩,rfl⟩|exact⟨0,by rw[HZ.out]<;>rfl⟩};{
 have f0:¬((s[k]'h).toNat:Int)<48:=by omega
 have f1:¬(57:Int)<((s[k]'h).toNat:Int):=by omega
 have HG:Hid (((bs s).take (k+1)).all digB=true):=zY (by rw[HA.out];exact decide_eq_true (by omega));have HN:Hid (valD ((bs s).take (k+1))=10*valD ((bs s).take k)+((s[k]'h).toNat-48)):=zY (by rw[ht,valD,List.foldl_append];rfl);clear ht hj;generalize valD ((bs s).take k)=v at *;go_wp2;go_round;case rel=>exact⟨k+1,by omega,by go_num,by rw[HN.out];go_num,HG.out⟩
 case measure=>simp[intOf];omega}}};{
 obtain rfl:k=s.size:=by omega
 have hkI:¬((s.size:Nat):Int)<(s.size:Int):=by omega
 have ht:(bs s).take s.size=bs s:=by rw[<-bs_len s,List.take_length]
 have HT:Hid (decide (valD ((bs s).take s.size)<=1000000000)=R):=zY (by
  have e:=Hok.out
  rw[ht]at e⊢
  rw[<-HR.out,e,Bool.true_and]);clear ht;generalize valD ((bs s).take s.size)=v at *;by_cases hle:v<=1000000000;{
 have i9:(v:Int)<=1000000000:=by omega
 have HZ:Hid (R=true):=zY (by rw[<-HT.out];exact decide_eq_true hle);go_wp2;go_ret2;first|exact⟨v,by rw[HZ.out]<;>rfl,rfl⟩|exact⟨⟨v,by rw[HZ.out]<;>rfl⟩,rfl⟩|exact⟨v,by rw[HZ.out]<;>rfl⟩};{
 have i9:¬(v:Int)<=1000000000:=by omega
 have HZ:Hid (R=false):=zY (by rw[<-HT.out];exact decide_eq_false hle);go_wp2;go_ret2;first|exact⟨v,by rw[HZ.out]<;>rfl,rfl⟩|exact⟨⟨v,by rw[HZ.out]<;>rfl⟩,rfl⟩|exact⟨v,by rw[HZ.out]<;>rfl⟩}}}};{
 have i3:¬(1:Int)<s.size:=by omega
 rw[decide_eq_true ⟨by omega,by omega,fun e=>h3 e.1⟩,Bool.true_and]at hR;have HR:=zY hR;clear hR hb0;go_enter func294,ntmps294;go_wp2;go_loop [4,5] (fun y x=>∃k:Nat,k<=s.size/\x=.int .i64 (k:Int)/\y=.int .i64 ((valD ((bs s).take k):Nat):Int)/\((bs s).take k).all digB=true) (fun _ x=>s.size-(intOf x).toNat);case atStart=>exact⟨0,by omega,rfl,rfl,rfl⟩
 case round=>
 obtain⟨k,hk,rfl,rfl,hok⟩:=hrel;have Hok:=zY hok;have hv:=valD_lt hok;rw[List.length_take,bs_len,Nat.min_eq_left hk]at hv;have hv2:10^k<=10^10:=Nat.pow_le_pow_right (by decide) (by omega);have hv3:valD ((bs s).take k)<10000000000:=by omega
 clear hok hv hv2;by_cases h:k<s.size;{
 have hkI:(k:Int)<s.size:=by omega
 have hj:k<(bs s).length:=by rw[bs_len];exact h
 have ht:(bs s).take (k+1)=(bs s).take k++[(s[k]'h).toNat]:=by rw[List.take_succ_eq_append_getElem hj,<-cf_get (List.getElem?_eq_getElem hj),bsc s k h]
 have HA:Hid (((bs s).take (k+1)).all digB=digB (s[k]'h).toNat):=zY (by rw[ht,List.all_append,Hok.out,Bool.true_and];simp);have HF:Hid (digB (s[k]'h).toNat=false->R=false):=zY (fun e=>by
  rw[<-HR.out,<-List.take_append_drop (k+1) (bs s),List.all_append,HA.out,e,Bool.false_and,Bool.false_and]);by_cases a1:(s[k]'h).toNat<48;{
 have f0:((s[k]'h).toNat:Int)<48:=by omega
 have HZ:Hid (R=false):=zY (HF.out (decide_eq_false (by omega)));clear a1 ht hj;go_wp2;go_ret2;first|exact⟨0,by rw[HZ.out]<;>rfl,rfl⟩|exact⟨⟨0,by rw[HZ.out]<;>rfl⟩,rfl⟩|exact⟨0,by rw[HZ.out]<;>rfl⟩};{
 by_cases a2:57<(s[k]'h).toNat;{
 have f0:¬((s[k]'h).toNat:Int)<48:=by omega
 have f1:(57:Int)<((s[k]'h).toNat:Int):=by omega
 have HZ:Hid (R=false):=zY (HF.out (decide_eq_false (by omega)));clear a1 a2 ht hj;go_wp2;go_ret2;first|exact⟨0,by rw[HZ.out]<;>rfl,rfl⟩|exact⟨⟨0,by rw[HZ.out]<;>rfl⟩,rfl⟩|exact⟨0,by rw[HZ.out]<;>rfl⟩};{
 have f0:¬((s[k]'h).toNat:Int)<48:=by omega
 have f1:¬(57:Int)<((s[k]'h).toNat:Int):=by omega
 have HG:Hid (((bs s).take (k+1)).all digB=true):=zY (by rw[HA.out];exact decide_eq_true (by omega));have HN:Hid (valD ((bs s).take (k+1))=10*valD ((bs s).take k)+((s[k]'h).toNat-48)):=zY (by rw[ht,valD,List.foldl_append];rfl);clear ht hj;generalize valD ((bs s).take k)=v at *;go_wp2;go_round;case rel=>exact⟨k+1,by omega,by go_num,by rw[HN.out];go_num,HG.out⟩
 case measure=>simp[intOf];omega}}};{
 obtain rfl:k=s.size:=by omega
 have hkI:¬((s.size:Nat):Int)<(s.size:Int):=by omega
 have ht:(bs s).take s.size=bs s:=by rw[<-bs_len s,List.take_length]
 have HT:Hid (decide (valD ((bs s).take s.size)<=1000000000)=R):=zY (by
  have e:=Hok.out
  rw[ht]at e⊢
  rw[<-HR.out,e,Bool.true_and]);clear ht;generalize valD ((bs s).take s.size)=v at *;by_cases hle:v<=1000000000;{
 have i9:(v:Int)<=1000000000:=by omega
 have HZ:Hid (R=true):=zY (by rw[<-HT.out];exact decide_eq_true hle);go_wp2;go_ret2;first|exact⟨v,by rw[HZ.out]<;>rfl,rfl⟩|exact⟨⟨v,by rw[HZ.out]<;>rfl⟩,rfl⟩|exact⟨v,by rw[HZ.out]<;>rfl⟩};{
 have i9:¬(v:Int)<=1000000000:=by omega
 have HZ:Hid (R=false):=zY (by rw[<-HT.out];exact decide_eq_false hle);go_wp2;go_ret2;first|exact⟨v,by rw[HZ.out]<;>rfl,rfl⟩|exact⟨⟨v,by rw[HZ.out]<;>rfl⟩,rfl⟩|exact⟨v,by rw[HZ.out]<;>rfl⟩}}}}}
def entV (e:Ent) (va vx:Value):Value:=.agg #[.int .i64 e.k,.string e.path,va,.string e.tgt,.int .i64 e.size,.string e.dig,vx]
def tgtB (e:Ent):Bool:=if e.k=3 then decide (1<=e.tgt.size/\e.tgt.size<=200) else if e.k=5 then dateB (bs e.tgt) else decide (e.tgt.size=0)
theorem target36_any (w:World) (e:Ent) (va vx:Value) (hs:e.tgt.size<=1000000):Calls prog 225 #[entV e va vx] w fun r w'=>r=.returned (.bool (tgtB e))/\Below w.heap.size w w':=by
 obtain⟨k,path,attrs,t,size,dig,exts⟩:=e;dsimp only at hs;obtain⟨R,hR⟩:=zNm (tgtB ⟨k,path,attrs,t,size,dig,exts⟩);rw[hR];rw[tgtB]at hR;dsimp only at hR;rw[entV];dsimp only;have hK:=Blk.new w 182 [.int .i64 k,.string path,va,.string t,.int .i64 size,.string dig,vx];change Blk (w.alloc (.cells #[.int .i64 k,.string path,va,.string t,.int .i64 size,.string dig,vx] 182)) _ _ _ at hK;have c0:=hK.c 0;have c3:=hK.c 3;have HB:=zY (zBl w (.cells #[.int .i64 k,.string path,va,.string t,.int .i64 size,.string dig,vx] 182));clear hK;have HD:=zY (fun W=>date36_any W t hs);by_cases h3:k=3;{
 have i1:(k==3)=true:=by rw[h3];rfl
 rw[if_pos h3]at hR;clear h3;by_cases h1:1<=t.size;{
 have i2:(1:Int)<=t.size:=by omega
 by_cases h2:t.size<=200;{
 have i3:(t.size:Int)<=200:=by omega
 rw[decide_eq_true ⟨h1,h2⟩]at hR;have HR:=zY hR;clear hR;go_enter func225,ntmps225;go_wp2;go_ret;exact⟨by rw[<-HR.out]<;>rfl,HB.out⟩};{
 have i3:¬(t.size:Int)<=200:=by omega
 rw[decide_eq_false fun e=>h2 e.2]at hR;have HR:=zY hR;clear hR;go_enter func225,ntmps225;go_wp2;go_ret;exact⟨by rw[<-HR.out]<;>rfl,HB.out⟩}};{
 have i2:¬(1:Int)<=t.size:=by omega
 rw[decide_eq_false fun e=>h1 e.1]at hR;have HR:=zY hR;clear hR;go_enter func225,ntmps225;go_wp2;go_ret;exact⟨by rw[<-HR.out]<;>rfl,HB.out⟩}};{
 have i1:(k==3)=false:=by rw[beq_eq_false_iff_ne];exact h3
 rw[if_neg h3]at hR;clear h3;by_cases h5:k=5;{
 have i2:(k==5)=true:=by rw[h5];rfl
 rw[if_pos h5]at hR;clear h5;have HR:=zY hR;clear hR;go_enter func225,ntmps225;go_wp2_with fail;refine(HD.out _).mono ?_;rintro e1 w1 ⟨n,rfl,rfl⟩;go_wp2_with fail;go_ret;exact⟨by rw[HR.out]<;>rfl,HB.out⟩};{
 have i2:(k==5)=false:=by rw[beq_eq_false_iff_ne];exact h5
 rw[if_neg h5]at hR;clear h5;by_cases h0:t.size=0;{
 rw[decide_eq_true h0]at hR;have e0:t=⟨#[]⟩:=by apply ByteArray.ext;exact Array.eq_empty_of_size_eq_zero h0
 subst e0;have HR:=zY hR;clear hR h0;go_enter func225,ntmps225;go_wp2;go_ret;exact⟨by rw[<-HR.out]<;>rfl,HB.out⟩};{
 have i3:t.toList.isEmpty=false:=isEmptyV h0;rw[decide_eq_false h0]at hR;have HR:=zY hR;clear hR h0;go_enter func225,ntmps225;go_wp2;go_ret;exact⟨by rw[<-HR.out]<;>rfl,HB.out⟩}}}
def attrsG:Option ByteArray->List Atr->Int
 |_,[]=>0
 |p,a::r=>
  if keyB (bs a.k)=false then 7 else if 64<a.v.size then 6 else
  match p with
  |none=>attrsG (some a.k) r
  |some q=>if a.k=q then 8 else if Op.bytesLess a.k.toList q.toList=true then 14 else attrsG (some a.k) r
theorem attrsG_key {p:Option ByteArray} {a:Atr} {r:List Atr} (h:keyB (bs a.k)=false):attrsG p (a::r)=7:=by
 cases p<;>rw[attrsG,if_pos h]
theorem attrsG_val {p:Option ByteArray} {a:Atr} {r:List Atr} (h:keyB (bs a.k)=true) (h64:64<a.v.size):attrsG p (a::r)=6:=by
 have hk:¬keyB (bs a.k)=false:=by rw[h];decide
 cases p<;>rw[attrsG,if_neg hk,if_pos h64]
theorem attrsG_first {a:Atr} {r:List Atr} (h:keyB (bs a.k)=true) (h64:¬64<a.v.size):attrsG none (a::r)=attrsG (some a.k) r:=by
 have hk:¬keyB (bs a.k)=false:=by rw[h];decide
 rw[attrsG,if_neg hk,if_neg h64]
theorem attrsG_next {a:Atr} {q:ByteArray} {r:List Atr} (h:keyB (bs a.k)=true) (h64:¬64<a.v.size):attrsG (some q) (a::r)=if a.k=q then 8 else if Op.bytesLess a.k.toList q.toList=true then 14 else attrsG (some a.k) r:=by
 have hk:¬keyB (bs a.k)=false:=by rw[h];decide
 rw[attrsG,if_neg hk,if_neg h64]
def attrsE (l:List Atr):Int:=if 16<l.length then 6 else attrsG none l
def prevK (l:List Atr):Nat->Option ByteArray
 |0=>none
 |j+1=>(l[j]?).map Atr.k
theorem attrs_any (w:World) (v:Value) (l:List Atr) (hv:SeqAt atrS w v l) (hs:∀a∈l,a.k.size<=1000000):Calls prog 224 #[v] w fun e w'=>e=.returned (.int .i64 (attrsE l))/\Below w.heap.size w w':=by
 have Hv:=zY hv;obtain⟨A,c,rfl,h1,h2⟩:=hv.slice;clear hv;obtain⟨R,hR⟩:=zNm (attrsE l);rw[hR];rw[attrsE]at hR;by_cases h16:16<l.length;{
 have i1:(16:Int)<l.length:=by omega
 rw[if_pos h16]at hR;have HR:=zY hR;clear hR;go_enter func224,ntmps224;go_wp2;go_ret;exact⟨by rw[<-HR.out]<;>rfl,Below.refl _ _⟩};{
 have i1:¬(16:Int)<l.length:=by omega
 rw[if_neg h16]at hR;have HR:=zY hR;have HKy:=zY (fun(W:World) (a:Atr) (ha:a∈l)=>key_any W a.k (hs a ha));clear hR hs;go_enter func224,ntmps224;go_wp2;go_loopw [3] (fun x wr=>∃i:Nat,i<=l.length/\x=.int .i64 (i:Int)/\attrsG (prevK l i) (l.drop i)=R/\Below w.heap.size w wr) (fun x _=>l.length-(intOf x).toNat);case atStart=>exact⟨0,by omega,rfl,by rw[List.drop_zero];exact HR.out,Below.refl _ _⟩
 case round=>
 obtain⟨i,hi,rfl,hE,hB⟩:=hrel;have HE:=zY hE;have HB:=zY hB;clear hE hB HR;by_cases h:i<l.length;{
 have hiI:(i:Int)<l.length:=by omega
 obtain⟨a,ha⟩:∃a,l[i]?=some a:=⟨_,List.getElem?_eq_getElem h⟩;obtain⟨_,_,e9,_,_,h4⟩:=Hv.below HB.out;cases e9;obtain⟨b,o,cs,rfl,rfl,hc⟩:=h4 i a ha;have c0:wr.cell? ⟨b,o+i*2,none⟩=some (.string a.k):=hc 0 _ rfl;have c1:wr.cell? ⟨b,o+i*2+1,none⟩=some (.string a.v):=hc 1 _ rfl;have hd:l.drop i=a::l.drop (i+1):=by obtain⟨h1,h2⟩:=List.getElem?_eq_some_iff.1 ha;rw[List.drop_eq_getElem_cons h1,h2]
 have HG:Hid (attrsG (prevK l i) (a::l.drop (i+1))=R):=zY (by rw[<-hd];exact HE.out);have HN:Hid (prevK l (i+1)=some a.k):=zY (by rw[prevK,ha];rfl);have HKa:=zY (fun W=>HKy.out W a (List.mem_of_getElem? ha));clear hc hd HE;obtain⟨K,hK⟩:=zNm (keyB (bs a.k));rw[hK]at HKa;cases K with
 |false=>have HV:Hid (R=7):=zY (by rw[<-HG.out,attrsG_key hK]);clear hK h4 HG;go_wp2_with fail;refine(HKa.out _).mono ?_;rintro e2 w2 ⟨rfl,rfl⟩;go_wp2_with fail;go_ret;exact⟨by rw[HV.out]<;>rfl,HB.out⟩
 |true=>
 by_cases h64:64<a.v.size;{
 have i2:(64:Int)<a.v.size:=by omega
 have HV:Hid (R=6):=zY (by rw[<-HG.out,attrsG_val hK h64]);clear hK h4 HG h64;go_wp2_with fail;refine(HKa.out _).mono ?_;rintro e2 w2 ⟨rfl,rfl⟩;go_wp2_with fail;go_ret;exact⟨by rw[HV.out]<;>rfl,HB.out⟩};{
 have i2:¬(64:Int)<a.v.size:=by omega
 by_cases h0:i=0;{
 subst h0;have HG2:Hid (attrsG (some a.k) (l.drop 1)=R):=zY (by rw[<-HG.out];exact(attrsG_first hK h64).symm);clear hK h4 HG h64;rw[show ((0:Nat):Int)=0 from rfl];rw[Nat.zero_mul,Nat.add_zero]at c0 c1;go_wp2_with fail;refine(HKa.out _).mono ?_;rintro e2 w2 ⟨rfl,rfl⟩;go_upto_region 10 with fail;go_quiet (fail);go_upto_region 12 with fail;go_quiet (fail);go_wp2;go_roundw;case rel=>exact⟨1,by omega,by go_num,by rw[HN.out];exact HG2.out,zBd HB.out _⟩
 case measure=>simp[intOf];omega};{
 obtain⟨j,hj⟩:∃j,i=j+1:=⟨i-1,by omega⟩;have hjl:j<l.length:=by omega
 have hjI:(j:Int)<l.length:=by omega
 have i0:(0:Int)<i:=by omega
 have n0:0<i:=by omega
 have dn:decide (0<i)=true:=decide_eq_true n0;obtain⟨p,hp⟩:∃p,l[j]?=some p:=⟨_,List.getElem?_eq_getElem hjl⟩;have hwr:IntKind.i64.wrap ((i:Int)-1)=(j:Int):=by rw[zIw (by omega)];omega
 have hwr2:(i:Int)-1=j:=by omega
 have HP:Hid (prevK l i=some p.k):=zY (by rw[hj,prevK,hp];rfl);obtain⟨b',o',cs,e8,rfl,hd⟩:=h4 j p hp;cases e8;have d0:wr.cell? ⟨b,o+j*2,none⟩=some (.string p.k):=hd 0 _ rfl;clear hd h4 hp hj hjl h0;have Hv2:=zY (attrsG_next (q:=p.k) (r:=l.drop (i+1)) hK (by omega:¬64<a.v.size));have HG2:Hid ((if a.k=p.k then (8:Int) else if Op.bytesLess a.k.toList p.k.toList=true then 14 else attrsG (some a.k) (l.drop (i+1)))=R):=zY (by rw[<-HG.out,HP.out];exact Hv2.symm);clear hK HG HP Hv2 h64;obtain⟨ak,av⟩:=a;obtain⟨pk,pv⟩:=p;dsimp only at c0 c1 d0 HG2 HN HKa i2;by_cases heq:ak=pk;{
 subst heq;have HV:Hid (R=8):=zY (by rw[<-HG2.out,if_pos rfl]);clear HG2;go_wp2_with fail;refine(HKa.out _).mono ?_;rintro e2 w2 ⟨rfl,rfl⟩;go_upto_region 10 with fail;go_quiet (fail);go_wp2;go_ret;exact⟨by rw[HV.out]<;>rfl,zBd HB.out _⟩};{
 have hb0:(ak==pk)=false:=beqV_false heq;have hl0:¬ak.toList=pk.toList:=fun e=>heq (by rw[ByteArray.toList_eq,ByteArray.toList_eq]at e;exact ByteArray.ext (Array.toList_inj.1 e));have hlb:(ak.toList==pk.toList)=false:=by rw[beq_eq_false_iff_ne];exact hl0
 obtain⟨B,hB⟩:=zNm (Op.bytesLess ak.toList pk.toList);have HG3:Hid ((if B=true then (14:Int) else attrsG (some ak) (l.drop (i+1)))=R):=zY (by rw[<-HG2.out,if_neg heq,hB]);clear HG2 heq;cases B with
 |true=>have HV:Hid (R=14):=zY (by rw[<-HG3.out,if_pos rfl]);clear HG3;go_wp2_with fail;refine(HKa.out _).mono ?_;rintro e2 w2 ⟨rfl,rfl⟩;go_upto_region 10 with fail;go_quiet (fail);go_upto_region 12 with fail;go_quiet (fail);go_wp2;go_ret;exact⟨by rw[HV.out]<;>rfl,by first|exact zBd HB.out _|exact zBd (zBd HB.out _) _⟩
 |false=>
 have HV:Hid (attrsG (some ak) (l.drop (i+1))=R):=zY (by rw[<-HG3.out,if_neg (by decide)]);clear HG3;go_wp2_with fail;refine(HKa.out _).mono ?_;rintro e2 w2 ⟨rfl,rfl⟩;go_upto_region 10 with fail;go_quiet (fail);go_upto_region 12 with fail;go_quiet (fail);go_wp2;go_roundw;case rel=>exact⟨i+1,by omega,by go_num,by rw[HN.out];exact HV.out,zBd HB.out _⟩
 case measure=>simp[intOf];omega}}}};{
 obtain rfl:i=l.length:=by omega
 have hiI:¬((l.length:Nat):Int)<(l.length:Int):=by omega
 have HV:Hid (R=0):=zY (by rw[<-HE.out,List.drop_length,attrsG]);go_wp2;go_ret;exact⟨by rw[HV.out]<;>rfl,HB.out⟩}}
end
end Go.Proofs.YthgenkkkapilhaaGreatDoor