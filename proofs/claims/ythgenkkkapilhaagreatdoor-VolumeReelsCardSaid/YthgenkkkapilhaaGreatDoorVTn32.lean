/- Texts, joined. -/
import Derived.Test.YthgenkkkapilhaaGreatDoorVTn31
set_option linter.all false
set_option maxRecDepth 100000
set_option maxHeartbeats 64000000
namespace Go.Proofs.YthgenkkkapilhaaGreatDoor
open Go.Proofs.Tryz
section
open Go.RowKit
theorem check40_ok (w:World) (x:Ses) (ve:Value) (hve:SeqAt entS w ve x.ents) (h:SesV x):Calls prog 87 #[.agg #[.int .i64 x.num,.int .i64 x.date,.string x.prev,ve,.string x.str,.string x.sig]] w fun r w'=>r=.returned (.int .i64 0)/\Below w.heap.size w w':=by
 have hnum:=h.num;have hdate:=h.date;have hprev:=h.prev;have hstr:=h.str;have hen:=h.ents;have Hok:=zY h.ok;have hsig:=h.sig;clear h;obtain⟨num,date,prev,l,st,sg⟩:=x;dsimp only at hve hnum hdate hprev hstr hen Hok hsig⊢;have Hve:=zY hve;obtain⟨Ae,ce,rfl,he1,he2⟩:=hve.slice;generalize hne:l.length=ne at *;have Hne:=zY hne;clear hve hne;have hK:=Blk.new w 45 [.int .i64 num,.int .i64 date,.string prev,.slice Ae ne ce,.string st,.string sg];change Blk (w.alloc (.cells #[.int .i64 num,.int .i64 date,.string prev,.slice Ae ne ce,.string st,.string sg] 45)) _ _ _ at hK;have HB1:=zY (zBl w (.cells #[.int .i64 num,.int .i64 date,.string prev,.slice Ae ne ce,.string st,.string sg] 45));have HK1:=zY hK;clear hK;have i1:¬num<1:=by omega
 have i2:¬255<num:=by omega
 have i3:¬date<0:=by omega
 have i4:¬1000000000<date:=by omega
 have i5:¬(14680064:Int)<st.size:=by omega
 have i6:¬(400:Int)<ne:=by omega
 have i7:¬(2000:Int)<sg.size:=by omega
 have hp2:(((prev.size:Int) != 0)=false)∨(((prev.size:Int) != 0)=true/\((prev.size:Int) != 32)=false):=by rcases hprev with hp|hp;{exact .inl (by rw[hp];rfl)};{exact .inr ⟨by rw[hp];rfl,by rw[hp];rfl⟩}
 clear hprev;go_enter func87,ntmps87;go_upto_region 1 with fail;generalize w.alloc (.cells #[.int .i64 num,.int .i64 date,.string prev,.slice Ae ne ce,.string st,.string sg] 45)=wb at *;have c0:=HK1.c 0;have c1:=HK1.c 1;have c2:=HK1.c 2;have c3:=HK1.c 3;have c4:=HK1.c 4;go_upto_region 3 with fail;go_cut [32] (fun s wx=>s=.bool false/\wb=wx);case first=>(
 rcases hp2 with f1|⟨f1,f2⟩;{
 go_wp2_with fail;go_meet;exact⟨rfl,rfl⟩};{
 go_wp2_with fail;go_meet;exact⟨rfl,rfl⟩})
 case rest=>
 obtain⟨rfl,rfl⟩:=hcut;go_wp2;go_loopw [3,4] (fun x _ wr=>∃i:Nat,i<=ne/\x=.int .i64 (i:Int)/\Below wb.heap.size wb wr) (fun x _ _=>ne-(intOf x).toNat);case atStart=>exact⟨0,by omega,rfl,Below.refl _ _⟩
 case round=>
 obtain⟨i,hi,rfl,hB⟩:=hrel;have HB:=zY hB;clear hB c0 c1 c2 c3 c4;by_cases h:i<ne;{
 have hiI:(i:Int)<ne:=by omega
 have hlt:i<l.length:=by have:=Hne.out;omega
 obtain⟨x,hx'⟩:∃x,l[i]?=some x:=⟨_,List.getElem?_eq_getElem hlt⟩;have Hxo:=zY (Hok.out x (List.mem_of_getElem? hx'));have Hx':=zY hx';obtain⟨_,_,e9,_,_,h4⟩:=Hve.below (HB1.trans (HB.mono HB1.size));rw[Hne.out]at e9;cases e9;obtain⟨b,o,cs,rfl,hR9,hc⟩:=h4 i x hx';obtain⟨va,vx,rfl,hva,hvx⟩:=hR9;obtain⟨Aa,ca,rfl,_,_⟩:=hva.slice;obtain⟨Ax,cx,rfl,_,_⟩:=hvx.slice;have e0:wr.cell? ⟨b,o+i*7,none⟩=some (.int .i64 x.k):=hc 0 _ rfl;have e1:wr.cell? ⟨b,o+i*7+1,none⟩=some (.string x.path):=hc 1 _ rfl;have e2:wr.cell? ⟨b,o+i*7+2,none⟩=some (.slice Aa x.attrs.length ca):=hc 2 _ rfl;have e3:wr.cell? ⟨b,o+i*7+3,none⟩=some (.string x.tgt):=hc 3 _ rfl;have e4:wr.cell? ⟨b,o+i*7+4,none⟩=some (.int .i64 x.size):=hc 4 _ rfl;have e5:wr.cell? ⟨b,o+i*7+5,none⟩=some (.string x.dig):=hc 5 _ rfl;have e6:wr.cell? ⟨b,o+i*7+6,none⟩=some (.slice Ax x.exts.length cx):=hc 6 _ rfl;have HKr:=zY (HK1.kept HB.out);have c3:=HKr.c 3;have Hva:=zY hva;have Hvx:=zY hvx;have HZx:=zY Hxo.z;clear hc h4 hx' hva hvx;have HCk:=zY (check36_any wr x _ _ Hva.out Hvx.out (by have:=HZx.path;omega) (by have:=HZx.tgt;omega) (fun a ha=>by have:=HZx.kv a ha;omega) (by have:=HZx.exn;omega));rw[entV]at HCk;go_wp2_with fail;refine HCk.mono ?_;rintro e2 w2 ⟨⟨n,rfl,hn⟩,hb2⟩;obtain rfl:=hn.2 Hxo.out;have HB2:=zYt HB hb2;clear hb2 hn;go_wp2_with fail;go_roundw;case rel=>exact⟨i+1,by omega,by go_num,HB2.out⟩
 case measure=>simp[intOf];omega};{
 obtain rfl:i=ne:=by omega
 have hiI:¬((i:Nat):Int)<(i:Int):=by omega
 have HKr:=zY (HK1.kept HB.out);have c3:=HKr.c 3;have c5:=HKr.c 5;go_wp2;go_ret;exact⟨rfl,HB1.trans (HB.mono HB1.size)⟩}
theorem digits40_any (w:World) (n:Nat) (hn:n<9223372036854775808):Calls prog 90 #[.int .i64 (n:Int)] w fun e w'=>e=.returned (.string (strB (dig8 n)))/\w=w':=by
 obtain⟨R,hR⟩:=zNm (strB (dig8 n));rw[hR];have HR:=zY hR;clear hR;go_enter func90,ntmps90;go_wp2;go_loopw [0,3,4] (fun a y x wr=>∃(k m:Nat) (Y:ByteArray),k<=8/\x=.int .i64 (k:Int)/\m=n/10^k/\a=.int .i64 (m:Int)/\y=.string Y/\Y=strB (digK k (n%10^k))/\w=wr) (fun _ _ x _=>8-(intOf x).toNat);case atStart=>exact⟨0,n,⟨#[]⟩,by omega,rfl,by simp,rfl,rfl,rfl,rfl⟩
 case round=>
 obtain⟨k,m,Y,hk,rfl,hm,rfl,rfl,hY,rfl⟩:=hrel;have hYz:Y.size=k:=by rw[hY,strB_size];simp[digK]
 have Hm:=zY hm;have HY:=zY hY;have hml:m<9223372036854775808:=by rw[hm];exact Nat.lt_of_le_of_lt (Nat.div_le_self _ _) hn
 clear hm hY;by_cases h:k<8;{
 have hkI:(k:Int)<8:=by omega
 obtain⟨r,hr⟩:=zNm (m%10);obtain⟨q,hq⟩:=zNm (m/10);have hrI:Int.tmod (m:Int) 10=r:=by rw[Int.tmod_eq_emod_of_nonneg (by omega)];omega
 have hqI:Int.tdiv (m:Int) 10=q:=by rw[Int.tdiv_eq_ediv_of_nonneg (by omega)];omega
 have hrE:(m:Int)%10=r:=by omega
 have hqE:(m:Int)/10=q:=by omega
 have hr10:r<10:=by omega
 obtain⟨T,hT⟩:=zNm ((⟨#[48,49,50,51,52,53,54,55,56,57]⟩:ByteArray).extract r (r+1));have hTs:T=strB [48+r]:=by{
 rw[<-hT];have:r=0∨r=1∨r=2∨r=3∨r=4∨r=5∨r=6∨r=7∨r=8∨r=9:=by omega
 rcases this with rfl|rfl|rfl|rfl|rfl|rfl|rfl|rfl|rfl|rfl<;>rfl};have hTz:T.size=1:=by rw[hTs,strB_size];rfl
 have hcc:¬9223372036854775807<T.size+Y.size:=by omega
 have HQ:Hid (q=n/10^(k+1)):=zY (by rw[<-hq,Hm.out,Nat.div_div_eq_div_mul,<-Nat.pow_succ]);have HN:Hid (T++Y=strB (digK (k+1) (n%10^(k+1)))):=zY (by
  have e1:n%10^(k+1)/10^k=r:=by
   rw[Nat.pow_succ,Nat.mod_mul_right_div_self,<-Hm.out,hr]
  have e2:n%10^(k+1)%10^k=n%10^k:=Nat.mod_mod_of_dvd _ (Nat.pow_dvd_pow 10 (Nat.le_succ k))
  have key:∀(k m:Nat),digK (k+1) m=[48+m/10^k%10]++digK k (m%10^k):=fun k m=>by
   unfold digK
   rw[List.range_succ_eq_map,List.map_cons,List.map_map,List.singleton_append]
   congr 1
   refine List.map_congr_left fun i hi=>?_
   have hi:=List.mem_range.1 hi
   show 48+m/10^(k+1-1-(i+1))%10=_
   rw[show k+1-1-(i+1)=k-1-i by omega]
   congr 1
   have e:10^k=10^(k-1-i)*(10*10^i):=by
    rw[show 10*10^i=10^(i+1) by rw[Nat.pow_succ,Nat.mul_comm],<-Nat.pow_add]
    congr 1
    omega
   rw[e,Nat.mod_mul_right_div_self,Nat.mod_mul_right_mod]
  rw[hTs,HY.out,strB_cat,key k,e1,e2,Nat.mod_eq_of_lt hr10]);clear hTs hr hq;go_wp2;go_roundw;case rel=>exact⟨k+1,q,_,by omega,by go_num,HQ.out,rfl,rfl,HN.out,by first|rfl|trivial⟩
 case measure=>simp[intOf];omega};{
 obtain rfl:k=8:=by omega
 have hkI:¬((8:Nat):Int)<8:=by omega
 have HE:Hid (Y=R):=zY (by
  rw[HY.out,<-HR.out,dig8]
  congr 1
  unfold digK
  refine List.map_congr_left fun i hi=>?_
  have hi:=List.mem_range.1 hi
  congr 1
  have e:10^8=10^(8-1-i)*(10*10^i):=by
   rw[show 10*10^i=10^(i+1) by rw[Nat.pow_succ,Nat.mul_comm],<-Nat.pow_add]
   congr 1
   omega
  rw[e,Nat.mod_mul_right_div_self,Nat.mod_mul_right_mod]);go_wp2;go_ret;exact⟨by rw[HE.out]<;>rfl,rfl⟩}
theorem signed40_ok (w:World) (x:Ses) (ve:Value) (hve:SeqAt entS w ve x.ents) (h:SesV x):Calls prog 88 #[.agg #[.int .i64 x.num,.int .i64 x.date,.string x.prev,ve,.string x.str,.string x.sig]] w fun r w'=>r=.returned (.string (strB (signL x)))/\Below w.heap.size w w':=by
 have HSt:Hid (∀(W:World) (s:ByteArray),s.size<=100000000->Calls prog 89 #[.string s] W fun e w'=>e=.returned (.string (strB (nstL (bs s))))/\W=w'):=zY (fun W s hs=>nstring_any W s (by omega));have HNu:Hid (∀(W:World) (n:Nat),n<9223372036854775808->Calls prog 160 #[.int .i64 (n:Int)] W fun e w'=>e=.returned (.string (strB (numL n)))/\W=w'):=zY (fun W n hn=>number_any W n hn);obtain⟨R,hR⟩:=zNm (signL x);rw[hR];rw[signL]at hR;have hnum:=h.num;have hdate:=h.date;have hprev:=h.prev;have hstr:=h.str;have hen:=h.ents;have Hok:=zY h.ok;clear h;obtain⟨num,date,prev,l,st,sg⟩:=x;dsimp only at hve hnum hdate hprev hstr hen Hok hR⊢;obtain⟨num,rfl⟩:∃z:Nat,num=(z:Int):=⟨num.toNat,by omega⟩;obtain⟨date,rfl⟩:∃z:Nat,date=(z:Int):=⟨date.toNat,by omega⟩;rw[Int.toNat_natCast,Int.toNat_natCast]at hR;obtain⟨D,hD⟩:=zNm (strB (digL (bs st)));have hDz:D.size=32:=by rw[<-hD,strB_size,digL_len]
 have hDz2:D.size<=32:=by omega
 rw[hD]at hR;have HSm:Hid (∀W:World,Calls prog 161 #[.string st] W fun e w'=>e=.returned (.string D)/\Below W.heap.size W w'):=zY (fun W=>by rw[<-hD];exact digest_any comp_spec W st (by omega));have Hve:=zY hve;obtain⟨Ae,ce,rfl,he1,he2⟩:=hve.slice;generalize hne:l.length=ne at *;have Hne:=zY hne;have HR:=zY hR;have hpz:prev.size<=32:=by omega
 clear hve hne hD hDz hR hprev;have hK:=Blk.new w 45 [.int .i64 (num:Int),.int .i64 (date:Int),.string prev,.slice Ae ne ce,.string st,.string sg];change Blk (w.alloc (.cells #[.int .i64 (num:Int),.int .i64 (date:Int),.string prev,.slice Ae ne ce,.string st,.string sg] 45)) _ _ _ at hK;have HKc:=zY hK.drewV;have HB0:=zBl w (.cells #[.int .i64 (num:Int),.int .i64 (date:Int),.string prev,.slice Ae ne ce,.string st,.string sg] 45);have HBc:=zY HB0.drew;have q1:=numL_len num (by omega);have q2:=numL_len date (by omega);have q3:=nstL_len prev (by omega);have q4:=numL_len st.size (by omega);have q5:=nstL_len D (by omega);have q6:=numL_len ne (by omega);have hc1:¬9223372036854775807<(strB (numL num)).size+(strB (numL date)).size:=by omega
 have hc2:¬9223372036854775807<(strB (numL num)).size+(strB (numL date)).size+(strB (nstL (bs prev))).size:=by omega
 have hc3:¬9223372036854775807<(strB (numL num)).size+(strB (numL date)).size+(strB (nstL (bs prev))).size+(strB (numL st.size)).size:=by omega
 have hc4:¬9223372036854775807<(strB (numL num)).size+(strB (numL date)).size+(strB (nstL (bs prev))).size+(strB (numL st.size)).size+(strB (nstL (bs D))).size:=by omega
 have hc5:¬9223372036854775807<(strB (numL num)).size+(strB (numL date)).size+(strB (nstL (bs prev))).size+(strB (numL st.size)).size+(strB (nstL (bs D))).size+(strB (numL ne)).size:=by omega
 have HX:Hid (strB (numL num)++strB (numL date)++strB (nstL (bs prev))++strB (numL st.size)++strB (nstL (bs D))++strB (numL ne)=strB (numL num++numL date++nstL (bs prev)++(numL st.size++nstL (bs D)++numL ne))):=zY (by
  rw[strB_cat,strB_cat,strB_cat,strB_cat,strB_cat]
  congr 1
  simp only[List.append_assoc]);have HXz:Hid ((strB (numL num++numL date++nstL (bs prev)++(numL st.size++nstL (bs D)++numL ne))).size<=1000):=zY (by rw[<-HX.out];simp only[ByteArray.size_append];omega);clear hK HB0;go_enter func88,ntmps88;go_upto_region 1 with fail;generalize w.alloc (.cells #[.int .i64 (num:Int),.int .i64 (date:Int),.string prev,.slice Ae ne ce,.string st,.string sg] 45)=wa at *;go_cut [3] (fun s wx=>s=.string (strB (numL num)++strB (numL date)++strB (nstL (bs prev))++strB (numL st.size)++strB (nstL (bs D))++strB (numL ne))/\Blk wx w.heap.size 45 [.int .i64 (num:Int),.int .i64 (date:Int),.string prev,.slice Ae ne ce,.string st,.string sg]/\Below w.heap.size w wx);case first=>(
 refine wp_region_held_drew (S:=(fun W=>W.cell? ⟨w.heap.size,0,none⟩=some (.int .i64 (num:Int))/\W.cell? ⟨w.heap.size,1,none⟩=some (.int .i64 (date:Int))/\W.cell? ⟨w.heap.size,2,none⟩=some (.string prev)/\W.cell? ⟨w.heap.size,3,none⟩=some (.slice Ae ne ce)/\W.cell? ⟨w.heap.size,4,none⟩=some (.string st)/\W.cell? ⟨w.heap.size,5,none⟩=some (.string sg))) (by kernel_rfl) ?_ (fun hHeld=>?_);{exact⟨HKc.c 0,HKc.c 1,HKc.c 2,HKc.c 3,HKc.c 4,HKc.c 5⟩};refine tk 0 ?_;refine tk 1 ?_;refine take_call (i:=2) (oi:=_) (v:=(.string (strB (numL num)))) rfl (by kernel_rfl) (by kernel_rfl) (by kernel_rfl) (fun _ _ _ h=>h) (And.intro (by rfl) ?hy3) (by assumption) ?rest3;case hy3=>intro W hSw;exact⟨160,#[.int .i64 (num:Int)],by go_simp,HNu.out W num (by omega)⟩
 try simp only[Act.put,List.setIfInBounds_toArray,List.set_cons_zero,List.set_cons_succ]
 try simp only[List.getElem_toArray,List.getElem_cons_zero,List.getElem_cons_succ]
 refine tk 3 ?_;refine tk 4 ?_;refine take_call (i:=5) (oi:=_) (v:=(.string (strB (numL date)))) rfl (by kernel_rfl) (by kernel_rfl) (by kernel_rfl) (fun _ _ _ h=>h) (And.intro (by rfl) ?hy6) (by assumption) ?rest6;case hy6=>intro W hSw;exact⟨160,#[.int .i64 (date:Int)],by go_simp,HNu.out W date (by omega)⟩
 try simp only[Act.put,List.setIfInBounds_toArray,List.set_cons_zero,List.set_cons_succ]
 try simp only[List.getElem_toArray,List.getElem_cons_zero,List.getElem_cons_succ]
 refine tk 6 ?_;refine tk 7 ?_;refine tk 8 ?_;refine take_call (i:=9) (oi:=_) (v:=(.string (strB (nstL (bs prev))))) rfl (by kernel_rfl) (by kernel_rfl) (by kernel_rfl) (fun _ _ _ h=>h) (And.intro (by rfl) ?hy10) (by assumption) ?rest10;case hy10=>intro W hSw;exact⟨89,#[.string prev],by go_simp,HSt.out W prev (by omega)⟩
 try simp only[Act.put,List.setIfInBounds_toArray,List.set_cons_zero,List.set_cons_succ]
 try simp only[List.getElem_toArray,List.getElem_cons_zero,List.getElem_cons_succ]
 refine tk 10 ?_;refine tk 11 ?_;refine tk 12 ?_;refine tk 13 ?_;refine take_call (i:=14) (oi:=_) (v:=(.string (strB (numL st.size)))) rfl (by kernel_rfl) (by kernel_rfl) (by kernel_rfl) (fun _ _ _ h=>h) (And.intro (by rfl) ?hy15) (by assumption) ?rest15;case hy15=>intro W hSw;exact⟨160,#[.int .i64 (st.size:Int)],by go_simp,HNu.out W st.size (by omega)⟩
 try simp only[Act.put,List.setIfInBounds_toArray,List.set_cons_zero,List.set_cons_succ]
 try simp only[List.getElem_toArray,List.getElem_cons_zero,List.getElem_cons_succ]
 refine tk 15 ?_;refine tk 16 ?_;refine tk 17 ?_;refine tk 21 ?_;refine tk 22 ?_;refine tk 23 ?_;refine zE1 18 fun K hK=>?_;go_simp;refine(HSm.out _).mono ?_;rintro e2 w2 ⟨rfl,hb2⟩;(try go_wp2_with fail);have HKc:=zY (HKc.kept hb2);have HBc:=zYt HBc hb2;clear hb2;refine hko hK (by exact⟨HKc.c 0,HKc.c 1,HKc.c 2,HKc.c 3,HKc.c 4,HKc.c 5⟩) (fun _=>?_);clear hK K;refine take_call (i:=19) (oi:=_) (v:=(.string (strB (nstL (bs D))))) rfl (by kernel_rfl) (by kernel_rfl) (by kernel_rfl) (fun _ _ _ h=>h) (And.intro (by rfl) ?hy22) (by assumption) ?rest22;case hy22=>intro W hSw;exact⟨89,#[.string D],by go_simp,HSt.out W D (by omega)⟩
 try simp only[Act.put,List.setIfInBounds_toArray,List.set_cons_zero,List.set_cons_succ]
 try simp only[List.getElem_toArray,List.getElem_cons_zero,List.getElem_cons_succ]
 refine tk 20 ?_;refine take_call (i:=24) (oi:=_) (v:=(.string (strB (numL ne)))) rfl (by kernel_rfl) (by kernel_rfl) (by kernel_rfl) (fun _ _ _ h=>h) (And.intro (by rfl) ?hy24) (by assumption) ?rest24;case hy24=>intro W hSw;exact⟨160,#[.int .i64 (ne:Int)],by go_simp,HNu.out W ne (by omega)⟩
 try simp only[Act.put,List.setIfInBounds_toArray,List.set_cons_zero,List.set_cons_succ]
 try simp only[List.getElem_toArray,List.getElem_cons_zero,List.getElem_cons_succ]
 refine tk 25 ?_;refine tk 26 ?_;refine wpAnyH_done (by kernel_rfl) ?_ _;go_wp2_with fail;go_meet;exact⟨rfl,HKc.out,HBc.out⟩)
 case rest=>
 obtain⟨rfl,hK,hB⟩:=hcut;rw[HX.out];have HK1:=zY hK;have HB1:=zY hB;clear hK hB q1 q2 q3 q4 q5 q6 hc1 hc2 hc3 hc4 hc5 HX HKc HBc;obtain⟨wx,hwx⟩:∃x,x=wc:=⟨_,rfl⟩;subst hwx;have HAl:Hid (∀i,(entsL (l.take i)).length<=42000000):=zY (fun i=>by
  have h1:=entsL_len (l:=l.take i) (fun e he=>Hok.out e (List.mem_of_mem_take he))
  have h2:=Nat.mul_le_mul (show (l.take i).length<=10 by rw[List.length_take];have:=Hne.out;omega) (Nat.le_refl 4200000)
  omega);obtain⟨A0,hA0⟩:=zNm (numL num++numL date++nstL (bs prev)++(numL st.size++nstL (bs D)++numL ne));rw[hA0]at HXz HR⊢;clear hA0;go_wp2;go_loopw [3,4,5,6] (fun y x _ _ wr=>∃i:Nat,i<=ne/\x=.int .i64 (i:Int)/\y=.string (strB (A0++entsL (l.take i)))/\Below wx.heap.size wx wr) (fun _ x _ _ _=>ne-(intOf x).toNat);case atStart=>exact⟨0,by omega,rfl,by rw[List.take_zero,show entsL []=[] from rfl,List.append_nil],Below.refl _ _⟩
 case round=>
 obtain⟨i,hi,rfl,rfl,hB⟩:=hrel;have HB:=zY hB;clear hB;obtain⟨Y,hY⟩:=zNm (strB (A0++entsL (l.take i)));have HYz:Hid (Y.size<=42001000):=zY (by rw[<-hY,strB_size,List.length_append];have:=HXz.out;rw[strB_size]at this;have:=HAl.out i;omega);rw[hY];by_cases h:i<ne;{
 have hiI:(i:Int)<ne:=by omega
 have hlt:i<l.length:=by have:=Hne.out;omega
 obtain⟨x,hx'⟩:∃x,l[i]?=some x:=⟨_,List.getElem?_eq_getElem hlt⟩;have Hxo:=zY (Hok.out x (List.mem_of_getElem? hx'));have Hx':=zY hx';obtain⟨_,_,e9,_,_,h4⟩:=Hve.below (HB1.trans (HB.mono HB1.size));rw[Hne.out]at e9;cases e9;obtain⟨b,o,cs,rfl,hR9,hc⟩:=h4 i x hx';obtain⟨va,vx,rfl,hva,hvx⟩:=hR9;obtain⟨Aa,ca,rfl,_,_⟩:=hva.slice;obtain⟨Ax,cx,rfl,_,_⟩:=hvx.slice;have e0:wr.cell? ⟨b,o+i*7,none⟩=some (.int .i64 x.k):=hc 0 _ rfl;have e1:wr.cell? ⟨b,o+i*7+1,none⟩=some (.string x.path):=hc 1 _ rfl;have e2:wr.cell? ⟨b,o+i*7+2,none⟩=some (.slice Aa x.attrs.length ca):=hc 2 _ rfl;have e3:wr.cell? ⟨b,o+i*7+3,none⟩=some (.string x.tgt):=hc 3 _ rfl;have e4:wr.cell? ⟨b,o+i*7+4,none⟩=some (.int .i64 x.size):=hc 4 _ rfl;have e5:wr.cell? ⟨b,o+i*7+5,none⟩=some (.string x.dig):=hc 5 _ rfl;have e6:wr.cell? ⟨b,o+i*7+6,none⟩=some (.slice Ax x.exts.length cx):=hc 6 _ rfl;have HKr:=zY (HK1.kept HB.out);have c3:=HKr.c 3;have Hva:=zY hva;have Hvx:=zY hvx;have HZx:=zY Hxo.z;clear hc h4 hx' hva hvx;obtain⟨X,hX⟩:=zNm (strB (encL x));have hXz:X.size<=4200000:=by rw[<-hX,strB_size];have:=encL_len Hxo.out;have:=HZx.exn;omega
 have HEn:=zY (encode36_any wr x _ _ Hva.out Hvx.out Hxo.out (by have:=HZx.path;omega) (by have:=HZx.tgt;omega) (fun a ha=>by have:=HZx.kv a ha;omega) (by have:=HZx.atn;omega) (by have:=HZx.exn;omega) (by have:=headL_len Hxo.out;omega) (by have:=HZx.dig;omega));rw[entV,hX]at HEn;have HN:Hid (Y++X=strB (A0++entsL (l.take (i+1)))):=zY (by rw[entsL_take Hx'.out,<-hY,<-hX,strB_cat,List.append_assoc]);have hYz:=HYz.out;have hcc:¬9223372036854775807<Y.size+X.size:=by omega
 clear hX hY;go_wp2_with fail;refine HEn.mono ?_;rintro e2 w2 ⟨rfl,hb2⟩;have HB2:=zYt HB hb2;clear hb2;go_wp2_with fail;go_roundw;case rel=>exact⟨i+1,by omega,by go_num,by rw[HN.out],HB2.out⟩
 case measure=>simp[intOf];omega};{
 obtain rfl:i=ne:=by omega
 have hiI:¬((i:Nat):Int)<(i:Int):=by omega
 have HKr:=zY (HK1.kept HB.out);have c3:=HKr.c 3;have HE:Hid (Y=strB R):=zY (by rw[<-hY,<-HR.out,List.take_of_length_le (by have:=Hne.out;omega)]);clear hY;go_wp2;go_ret;exact⟨by rw[HE.out]<;>rfl,HB1.trans (HB.mono HB1.size)⟩}
theorem encode40_ok (w:World) (x:Ses) (ve:Value) (hve:SeqAt entS w ve x.ents) (h:SesV x):Calls prog 41 #[.agg #[.int .i64 x.num,.int .i64 x.date,.string x.prev,ve,.string x.str,.string x.sig]] w fun r w'=>r=.returned (.tuple #[.string (strB (dirL x)),.int .i64 0])/\Below w.heap.size w w':=by
 have HCk:=zY (fun W (hW:Below w.heap.size w W)=>check40_ok W x ve (hve.below hW) h);have HSi:=zY (fun W (hW:Below w.heap.size w W)=>signed40_ok W x ve (hve.below hW) h);obtain⟨A,c,rfl,_,_⟩:=hve.slice;have hsl:=signL_len h;have hsig:=h.sig;obtain⟨X,hX⟩:=zNm (strB (signL x));have hXz:X.size<=42001000:=by rw[<-hX,strB_size];exact hsl
 rw[hX]at HSi;obtain⟨Y,hY⟩:=zNm (strB (nstL (bs x.sig)));have hYz:Y.size<=2100:=by rw[<-hY];have:=nstL_len x.sig (by omega);omega
 obtain⟨Z,hZ⟩:=zNm (X++Y);have hZr:strB (restL x)=Z:=by rw[<-hZ,<-hX,<-hY,strB_cat];rfl
 have hZz:Z.size=(restL x).length:=by rw[<-hZr,strB_size]
 have hZz2:Z.size<=42004000:=by rw[<-hZ,ByteArray.size_append];omega
 obtain⟨N,hN⟩:=zNm (strB (dig8 Z.size));have hNz:N.size=8:=by rw[<-hN,strB_size,dig8_len]
 have HQ:Hid (N++Z=strB (dirL x)):=zY (by rw[dirL,<-hZz,<-strB_cat,hZr,hN]);have HSt:Hid (∀W,Calls prog 89 #[.string x.sig] W fun e w'=>e=.returned (.string Y)/\W=w'):=zY (fun W=>by rw[<-hY];exact nstring_any W x.sig (by omega));have HDg:Hid (∀W,Calls prog 90 #[.int .i64 (Z.size:Int)] W fun e w'=>e=.returned (.string N)/\W=w'):=zY (fun W=>by rw[<-hN];exact digits40_any W Z.size (by omega));have hc1:¬9223372036854775807<X.size+Y.size:=by omega
 have hc2:¬9223372036854775807<N.size+Z.size:=by omega
 have hx90:¬(90000000:Int)<X.size:=by omega
 have HZ:=zY hZ;obtain⟨R,hR⟩:=zNm (strB (dirL x));rw[hR]at HQ⊢;clear hve h hsl hsig hX hY hZ hZr hZz hN hNz hR;generalize hgl:x.ents.length=nl at *;have Hgl:=zY hgl;clear hgl;obtain⟨num,date,prev,l,st,sg⟩:=x;dsimp only at HCk HSi HSt⊢;have hK:=Blk.new w 45 [.int .i64 num,.int .i64 date,.string prev,.slice A nl c,.string st,.string sg];change Blk (w.alloc (.cells #[.int .i64 num,.int .i64 date,.string prev,.slice A nl c,.string st,.string sg] 45)) _ _ _ at hK;have HB0:=zY (zBl w (.cells #[.int .i64 num,.int .i64 date,.string prev,.slice A nl c,.string st,.string sg] 45));have HK:=zY hK;clear hK;go_enter func41,ntmps41;go_upto_region 1 with fail;generalize w.alloc (.cells #[.int .i64 num,.int .i64 date,.string prev,.slice A nl c,.string st,.string sg] 45)=wb at *;have c0:=HK.c 0;have c1:=HK.c 1;have c2:=HK.c 2;have c3:=HK.c 3;have c4:=HK.c 4;have c5:=HK.c 5;go_wp2_with fail;refine(HCk.out _ HB0.out).mono ?_;rintro e1 w1 ⟨rfl,hb1⟩;have HK1:=zY (HK.kept hb1);have HB1:=zYt HB0 hb1;clear hb1 c0 c1 c2 c3 c4 c5 HK HB0;have c0:=HK1.c 0;have c1:=HK1.c 1;have c2:=HK1.c 2;have c3:=HK1.c 3;have c4:=HK1.c 4;have c5:=HK1.c 5;go_wp2_with fail;refine(HSi.out _ HB1.out).mono ?_;rintro e2 w2 ⟨rfl,hb2⟩;have HK2:=zY (HK1.kept hb2);have HB2:=zYt HB1 hb2;clear hb2 c0 c1 c2 c3 c4 c5 HK1 HB1;have c5:=HK2.c 5;go_wp2_with fail;refine(HSt.out _).mono ?_;rintro e3 w3 ⟨rfl,rfl⟩;go_upto_region 8 with fail;rw[HZ.out];go_wp2_with fail;refine(HDg.out _).mono ?_;rintro e4 w4 ⟨rfl,rfl⟩;go_wp2_with fail;go_ret2;exact⟨by rw[<-HQ.out]<;>rfl,HB2.out⟩
end
end Go.Proofs.YthgenkkkapilhaaGreatDoor