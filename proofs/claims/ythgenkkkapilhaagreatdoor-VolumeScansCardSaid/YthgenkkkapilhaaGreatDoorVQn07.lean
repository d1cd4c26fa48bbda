/-
  Joined: VoI VoJ VoK.
-/
import Derived.Test.YthgenkkkapilhaaGreatDoorVQn03
import Derived.Test.YthgenkkkapilhaaGreatDoorVQn06
set_option linter.all false
set_option maxRecDepth 100000
set_option maxHeartbeats 64000000
namespace Go.Proofs.YthgenkkkapilhaaGreatDoor
open Go.Proofs.Tryz
section
open Go.RowKit
theorem nstL_len (s:ByteArray) (h:s.size<18446744073709551616):(strB (nstL (bs s))).size<=s.size+22:=by
 rw[strB_size,nstL,List.length_append,List.length_append,List.length_append,bs_len];have:=digD_len20 h;simp;omega
theorem numL_len (n:Nat) (h:n<18446744073709551616):(strB (numL n)).size<=21:=by
 rw[strB_size,numL,List.length_append];have:=digD_len20 h;simp;omega
def atrL (l:List Atr):List Nat:=l.flatMap fun a=>nstL (bs a.k)++nstL (bs a.v)
def headL (e:Ent):List Nat:=nstL (bs (nameK e.k))++nstL (bs e.path)++numL e.attrs.length++atrL e.attrs++nstL (bs e.tgt)
theorem atrL_take {l:List Atr} {i:Nat} {a:Atr} (h:l[i]?=some a):atrL (l.take (i+1))=atrL (l.take i)++(nstL (bs a.k)++nstL (bs a.v)):=by
 unfold atrL;rw[List.take_add_one,h,Option.toList_some,List.flatMap_append];simp
theorem atrL_len {l:List Atr} {m:Nat} (hm:m<1000000000) (h:∀a∈l,a.k.size<=m/\a.v.size<=m):(atrL l).length<=l.length*(2*m+44):=by
 induction l with
 |nil=>simp[atrL]
 |cons a r ih=>
 have h1:=ih fun x hx=>h x (List.mem_cons_of_mem _ hx);obtain⟨h2,h3⟩:=h a List.mem_cons_self;have h4:=nstL_len a.k (by omega);have h5:=nstL_len a.v (by omega);rw[strB_size]at h4 h5;have e:atrL (a::r)=(nstL (bs a.k)++nstL (bs a.v))++atrL r:=by unfold atrL;rw[List.flatMap_cons]
 rw[e,List.length_append,List.length_append,List.length_cons,Nat.add_mul,Nat.one_mul];omega
theorem head_any (w:World) (e:Ent) (va vx:Value) (hva:SeqAt atrS w va e.attrs) (hp:e.path.size<=1000000) (ht:e.tgt.size<=1000000) (ha:∀a∈e.attrs,a.k.size<=1000000/\a.v.size<=1000000) (hl:e.attrs.length<=1000):
  Calls prog 240 #[entV e va vx] w fun r w'=>r=.returned (.string (strB (headL e)))/\Below w.heap.size w w':=by
 have HSt:Hid (∀(W:World) (s:ByteArray),s.size<=1000000->Calls prog 89 #[.string s] W fun e w'=>e=.returned (.string (strB (nstL (bs s))))/\w'=W):=zY (fun W s hs=>(nstring_any W s (by omega)).mono fun _ _ ⟨h1,h2⟩=>⟨h1,h2.symm⟩);have HNu:Hid (∀(W:World) (n:Nat),n<9223372036854775808->Calls prog 160 #[.int .i64 (n:Int)] W fun e w'=>e=.returned (.string (strB (numL n)))/\w'=W):=zY (fun W n hn=>(number_any W n hn).mono fun _ _ ⟨h1,h2⟩=>⟨h1,h2.symm⟩);obtain⟨k,path,attrs,t,size,dig,exts⟩:=e;obtain⟨R,hR⟩:=zNm (headL ⟨k,path,attrs,t,size,dig,exts⟩);rw[hR];rw[headL]at hR;dsimp only at hva hp ht ha hl hR;obtain⟨N,hN⟩:=zNm (nameK k);have hNs:N.size<=7:=by rw[<-hN];by_cases h:1<=k/\k<=6;{exact(nameK_some h).2};{rw[nameK_none h];decide}
 have HNm:Hid (∀W:World,Calls prog 222 #[.int .i64 k] W fun e w'=>e=.returned (.string N)/\w'=W):=zY (fun W=>by
  rw[<-hN]
  exact(name_any W k).mono fun _ _ ⟨h1,h2⟩=>⟨h1,h2.symm⟩);rw[hN]at hR;have HR:=zY hR;have Hva:=zY hva;obtain⟨Aa,ca,rfl,ha1,ha2⟩:=hva.slice;have Hal:Hid (∀i,(strB (nstL (bs N)++nstL (bs path)++numL attrs.length++atrL (attrs.take i))).size<=3000000000):=zY (fun i=>by
  have h1:=atrL_len (l:=attrs.take i) (m:=1000000) (by omega) (fun a h=>ha a (List.mem_of_mem_take h))
  have h2:=nstL_len N (by omega)
  have h3:=nstL_len path (by omega)
  have h4:=numL_len attrs.length (by omega)
  have h5:=Nat.mul_le_mul (show (attrs.take i).length<=1000 by rw[List.length_take];omega) (Nat.le_refl (2*1000000+44))
  rw[strB_size]at h2 h3 h4⊢
  rw[List.length_append,List.length_append,List.length_append]
  omega);have Ha:=zY ha;clear hva ha hN hR;rw[entV];dsimp only;have hK:=Blk.new w 182 [.int .i64 k,.string path,.slice Aa attrs.length ca,.string t,.int .i64 size,.string dig,vx];change Blk (w.alloc (.cells #[.int .i64 k,.string path,.slice Aa attrs.length ca,.string t,.int .i64 size,.string dig,vx] 182)) _ _ _ at hK;have HB0:=zY (zBl w (.cells #[.int .i64 k,.string path,.slice Aa attrs.length ca,.string t,.int .i64 size,.string dig,vx] 182));have hq1:=nstL_len N (by omega);have hq2:=nstL_len path (by omega);have hq3:=numL_len attrs.length (by omega);have hc1:¬9223372036854775807<(strB (nstL (bs N))).size+(strB (nstL (bs path))).size:=by omega
 have hc2:¬9223372036854775807<(strB (nstL (bs N))).size+(strB (nstL (bs path))).size+(strB (numL attrs.length)).size:=by omega
 have HE0:Hid (strB (nstL (bs N))++strB (nstL (bs path))++strB (numL attrs.length)=strB (nstL (bs N)++nstL (bs path)++numL attrs.length++atrL (attrs.take 0))):=zY (by
  rw[strB_cat,strB_cat,List.take_zero,show atrL []=[] from rfl,List.append_nil]);go_enter func240,ntmps240;go_upto_region 1 with fail;generalize w.alloc (.cells #[.int .i64 k,.string path,.slice Aa attrs.length ca,.string t,.int .i64 size,.string dig,vx] 182)=wb at *;have HK:=zY hK;have c0:=hK.c 0;have c1:=hK.c 1;have c2:=hK.c 2;clear hK;go_quiet (first|(go_at_call 222;refine Calls.quiet_of_same (HNm.out _))|(go_at_call 89;refine Calls.quiet_of_same (HSt.out _ _ (by omega)))|(go_at_call 160;refine Calls.quiet_of_same (HNu.out _ _ (by omega))));have HBd:Hid (Below wb.heap.size wb (wb.drewN nq)):=zY (zBd (Below.refl _ _) nq);generalize wb.drewN nq=wd at *;have HKd:=zY (HK.kept HBd.out);have HBb:=zY (HB0.trans (HBd.mono HB0.size));clear c0 c1 c2 HK HB0 HBd hc1 hc2 hq1 hq2 hq3;go_wp2;go_loopw [3,4] (fun y x wr=>∃i:Nat,i<=attrs.length/\x=.int .i64 (i:Int)/\y=.string (strB (nstL (bs N)++nstL (bs path)++numL attrs.length++atrL (attrs.take i)))/\Below wd.heap.size wd wr) (fun _ x _=>attrs.length-(intOf x).toNat);case atStart=>exact⟨0,by omega,rfl,by rw[<-HE0.out],Below.refl _ _⟩
 case round=>
 obtain⟨i,hi,rfl,rfl,hB⟩:=hrel;have HB:=zY hB;have HKr:=zY (HKd.kept hB);clear hB;have hys:=Hal.out i;by_cases h:i<attrs.length;{
 have hiI:(i:Int)<attrs.length:=by omega
 obtain⟨a,ha⟩:∃a,attrs[i]?=some a:=⟨_,List.getElem?_eq_getElem h⟩;obtain⟨hak,hav⟩:=Ha.out a (List.mem_of_getElem? ha);have HN2:Hid (strB (nstL (bs N)++nstL (bs path)++numL attrs.length++atrL (attrs.take i))++strB (nstL (bs a.k))++strB (nstL (bs a.v))=strB (nstL (bs N)++nstL (bs path)++numL attrs.length++atrL (attrs.take (i+1)))):=zY (by
  rw[atrL_take ha,strB_cat,strB_cat]
  simp only[List.append_assoc]);obtain⟨_,_,e9,_,_,h4⟩:=Hva.below (HBb.trans (HB.mono HBb.size));cases e9;obtain⟨b,o,cs,rfl,rfl,hc⟩:=h4 i a ha;have c0:wr.cell? ⟨b,o+i*2,none⟩=some (.string a.k):=hc 0 _ rfl;have c1:wr.cell? ⟨b,o+i*2+1,none⟩=some (.string a.v):=hc 1 _ rfl;have c2:=HKr.c 2;obtain⟨ak,av⟩:=a;dsimp only at hak hav HN2 c0 c1;generalize strB (nstL (bs N)++nstL (bs path)++numL attrs.length++atrL (attrs.take i))=Y at *;have h5:=nstL_len ak (by omega);have h6:=nstL_len av (by omega);have hc1:¬9223372036854775807<Y.size+(strB (nstL (bs ak))).size:=by omega
 have hc2:¬9223372036854775807<Y.size+(strB (nstL (bs ak))).size+(strB (nstL (bs av))).size:=by omega
 clear hc h4 ha h5 h6;go_upto_region 5 with fail;go_quiet (first|(go_at_call 89;refine Calls.quiet_of_same (HSt.out _ _ (by omega))));go_wp2;go_roundw;case rel=>exact⟨i+1,by omega,by go_num,by rw[HN2.out],zBd HB.out _⟩
 case measure=>simp[intOf];omega};{
 obtain rfl:i=attrs.length:=by omega
 have hiI:¬((attrs.length:Nat):Int)<(attrs.length:Int):=by omega
 have c3:=HKr.c 3;have HN2:Hid (strB (nstL (bs N)++nstL (bs path)++numL attrs.length++atrL (attrs.take attrs.length))++strB (nstL (bs t))=strB R):=zY (by
  rw[List.take_length,strB_cat,<-HR.out]);have h5:=nstL_len t (by omega);have c2:=HKr.c 2;generalize strB (nstL (bs N)++nstL (bs path)++numL attrs.length++atrL (attrs.take attrs.length))=Y at *;have hc1:¬9223372036854775807<Y.size+(strB (nstL (bs t))).size:=by omega
 clear h5;go_wp2_with fail;refine(HSt.out _ t ht).mono ?_;rintro e6 w6 ⟨rfl,rfl⟩;go_wp2_with fail;go_ret;exact⟨by rw[<-HN2.out]<;>rfl,HBb.trans (HB.mono HBb.size)⟩}
def extL (l:List Ext):List Nat:=l.flatMap fun x=>numL x.s.toNat++numL x.o.toNat++numL x.l.toNat
def encL (e:Ent):List Nat:=nstL (bs (strB (headL e)))++numL e.size.toNat++nstL (bs e.dig)++numL e.exts.length++extL e.exts
theorem extL_take {l:List Ext} {i:Nat} {x:Ext} (h:l[i]?=some x):extL (l.take (i+1))=extL (l.take i)++(numL x.s.toNat++numL x.o.toNat++numL x.l.toNat):=by
 unfold extL;rw[List.take_add_one,h,Option.toList_some,List.flatMap_append];simp
theorem extL_len {l:List Ext} (h:∀x∈l,extB x=true):(extL l).length<=l.length*63:=by
 induction l with
 |nil=>simp[extL]
 |cons a r ih=>
 have h1:=ih fun x hx=>h x (List.mem_cons_of_mem _ hx);have h2:=of_decide_eq_true (h a List.mem_cons_self);have h3:=numL_len a.s.toNat (by omega);have h4:=numL_len a.o.toNat (by omega);have h5:=numL_len a.l.toNat (by omega);rw[strB_size]at h3 h4 h5;have e:extL (a::r)=(numL a.s.toNat++numL a.o.toNat++numL a.l.toNat)++extL r:=by unfold extL;rw[List.flatMap_cons]
 rw[e,List.length_append,List.length_append,List.length_append,List.length_cons,Nat.add_mul,Nat.one_mul];omega
theorem encode36_any (w:World) (e:Ent) (va vx:Value) (hva:SeqAt atrS w va e.attrs) (hvx:SeqAt extS w vx e.exts) (hok:EntOk e) (hp:e.path.size<=1000000) (ht:e.tgt.size<=1000000) (ha:∀a∈e.attrs,a.k.size<=1000000/\a.v.size<=1000000) (hl:e.attrs.length<=1000) (hx:e.exts.length<=100000) (hh:(headL e).length<=1000000) (hd:e.dig.size<=1000000):
  Calls prog 162 #[entV e va vx] w fun r w'=>r=.returned (.tuple #[.string (strB (encL e)),.int .i64 0])/\Below w.heap.size w w':=by
 have HSt:Hid (∀(W:World) (s:ByteArray),s.size<=1000000->Calls prog 89 #[.string s] W fun e w'=>e=.returned (.string (strB (nstL (bs s))))/\W=w'):=zY (fun W s hs=>nstring_any W s (by omega));have HNu:Hid (∀(W:World) (n:Nat),n<9223372036854775808->Calls prog 160 #[.int .i64 (n:Int)] W fun e w'=>e=.returned (.string (strB (numL n)))/\W=w'):=zY (fun W n hn=>number_any W n hn);have HCk:Hid (∀W:World,Below w.heap.size w W->Calls prog 153 #[entV e va vx] W fun r w'=>r=.returned (.int .i64 0)/\Below W.heap.size W w'):=zY (fun W hb=>
  (check36_any W e va vx (hva.below hb) (hvx.below hb) hp ht (fun a h=>(ha a h).1) hx).mono fun _ _ ⟨⟨n,h1,h2⟩,h3⟩=>⟨by rw[h1,h2.2 hok],h3⟩);have HHd:Hid (∀W:World,Below w.heap.size w W->Calls prog 240 #[entV e va vx] W fun r w'=>r=.returned (.string (strB (headL e)))/\Below W.heap.size W w'):=zY (fun W hb=>head_any W e va vx (hva.below hb) hp ht ha hl);have hsz:=hok.size;have Hxs:=zY hok.exts.2.1;clear hok hp ht ha hl;obtain⟨k,path,attrs,t,size,dig,exts⟩:=e;obtain⟨R,hR⟩:=zNm (encL ⟨k,path,attrs,t,size,dig,exts⟩);rw[hR];rw[encL]at hR;generalize headL ⟨k,path,attrs,t,size,dig,exts⟩=H at *;dsimp only at hva hvx hx hh hd hR hsz;obtain⟨z,hz⟩:∃z:Nat,size=(z:Int):=⟨size.toNat,by omega⟩;subst hz;rw[Int.toNat_natCast]at hR;obtain⟨Aa,ca,rfl,ha1,ha2⟩:=hva.slice;have Hvx:=zY hvx;obtain⟨Ax,cx,rfl,hx1,hx2⟩:=hvx.slice;have HR:=zY hR;clear hva hvx hR;rw[entV]at HCk HHd⊢;dsimp only at HCk HHd⊢Hxs;have hK:=Blk.new w 182 [.int .i64 k,.string path,.slice Aa attrs.length ca,.string t,.int .i64 (z:Int),.string dig,.slice Ax exts.length cx];change Blk (w.alloc (.cells #[.int .i64 k,.string path,.slice Aa attrs.length ca,.string t,.int .i64 (z:Int),.string dig,.slice Ax exts.length cx] 182)) _ _ _ at hK;have HB0:=zY (zBl w (.cells #[.int .i64 k,.string path,.slice Aa attrs.length ca,.string t,.int .i64 (z:Int),.string dig,.slice Ax exts.length cx] 182));have HK:=zY hK;have c0:=hK.c 0;have c1:=hK.c 1;have c2:=hK.c 2;have c3:=hK.c 3;have c4:=hK.c 4;have c5:=hK.c 5;have c6:=hK.c 6;clear hK;go_enter func162,ntmps162;go_wp2_with fail
 generalize w.alloc (.cells #[.int .i64 k,.string path,.slice Aa attrs.length ca,.string t,.int .i64 (z:Int),.string dig,.slice Ax exts.length cx] 182)=wb at *;refine(HCk.out _ HB0.out).mono ?_;rintro e2 w2 ⟨rfl,hb2⟩;have HK2:=zY (HK.kept hb2);have HB2:=zYt HB0 hb2;clear hb2 HK HB0 c0 c1 c2 c3 c4 c5 c6 HCk;go_upto_region 4 with fail;have hT:(strB H).size<=1000000:=by rw[strB_size];exact hh
 generalize strB H=T at *;have hS0:(fun W:World=>W.cell? ⟨w.heap.size,0,none⟩=some (.int .i64 k)/\W.cell? ⟨w.heap.size,1,none⟩=some (.string path)/\W.cell? ⟨w.heap.size,2,none⟩=some (.slice Aa attrs.length ca)/\W.cell? ⟨w.heap.size,3,none⟩=some (.string t)/\W.cell? ⟨w.heap.size,4,none⟩=some (.int .i64 (z:Int))/\W.cell? ⟨w.heap.size,5,none⟩=some (.string dig)/\W.cell? ⟨w.heap.size,6,none⟩=some (.slice Ax exts.length cx)) w2:=⟨HK2.c 0,HK2.c 1,HK2.c 2,HK2.c 3,HK2.c 4,HK2.c 5,HK2.c 6⟩;have HS0:=zY hS0;clear hS0;have hq1:=nstL_len T (by omega);have hq2:=numL_len z (by omega);have hq3:=nstL_len dig (by omega);have hq4:=numL_len exts.length (by omega);have hc1:¬9223372036854775807<(strB (nstL (bs T))).size+(strB (numL z)).size:=by omega
 have hc2:¬9223372036854775807<(strB (nstL (bs T))).size+(strB (numL z)).size+(strB (nstL (bs dig))).size:=by omega
 have hc3:¬9223372036854775807<(strB (nstL (bs T))).size+(strB (numL z)).size+(strB (nstL (bs dig))).size+(strB (numL exts.length)).size:=by omega
 go_cut [5] (fun s wx=>∃W,s=.string (strB (nstL (bs T))++strB (numL z)++strB (nstL (bs dig))++strB (numL exts.length))/\W=wx/\Below w2.heap.size w2 W);case first=>(
 refine wp_region_held_drew (S:=(fun W=>W.cell? ⟨w.heap.size,0,none⟩=some (.int .i64 k)/\W.cell? ⟨w.heap.size,1,none⟩=some (.string path)/\W.cell? ⟨w.heap.size,2,none⟩=some (.slice Aa attrs.length ca)/\W.cell? ⟨w.heap.size,3,none⟩=some (.string t)/\W.cell? ⟨w.heap.size,4,none⟩=some (.int .i64 (z:Int))/\W.cell? ⟨w.heap.size,5,none⟩=some (.string dig)/\W.cell? ⟨w.heap.size,6,none⟩=some (.slice Ax exts.length cx))) (by kernel_rfl) ?_ (fun hHeld=>?_);{exact HS0.out};refine tk 0 ?_;refine tk 3 ?_;refine tk 4 ?_;refine tk 7 ?_;refine tk 8 ?_;refine tk 11 ?_;refine tk 12 ?_;refine tk 13 ?_;refine zEs [1] ?_;refine zEc (fun K hK=>?_) ?_;{
 go_simp;refine(HHd.out _ HB2.drew).mono ?_;rintro e w6 ⟨rfl,hb6⟩;(try go_wp2_with fail);have hbw:Below w2.heap.size w2 w6:=(Below.refl _ w2).drew.trans hb6;have HK6:=zY (HK2.kept hbw);refine hko hK (by exact⟨HK6.c 0,HK6.c 1,HK6.c 2,HK6.c 3,HK6.c 4,HK6.c 5,HK6.c 6⟩) (fun _=>?_);clear hK K;refine take_call (i:=2) (oi:=_) (v:=(.string (strB (nstL (bs T))))) rfl (by kernel_rfl) (by kernel_rfl) (by kernel_rfl) (fun _ _ _ h=>h) (And.intro (by rfl) ?hyb2) (by assumption) ?rest2;case hyb2=>intro W hSw;exact⟨89,#[.string T],by go_simp,HSt.out W T (by omega)⟩
 try simp only[Act.put,List.setIfInBounds_toArray]
 try simp only[List.getElem_toArray,List.getElem_cons_zero,List.getElem_cons_succ]
 refine take_call (i:=5) (oi:=_) (v:=(.string (strB (numL z)))) rfl (by kernel_rfl) (by kernel_rfl) (by kernel_rfl) (fun _ _ _ h=>h) (And.intro (by rfl) ?hyb5) (by assumption) ?rest5;case hyb5=>intro W hSw;exact⟨160,#[.int .i64 (z:Int)],by go_simp,HNu.out W z (by omega)⟩
 try simp only[Act.put,List.setIfInBounds_toArray]
 try simp only[List.getElem_toArray,List.getElem_cons_zero,List.getElem_cons_succ]
 refine tk 6 ?_;refine take_call (i:=9) (oi:=_) (v:=(.string (strB (nstL (bs dig))))) rfl (by kernel_rfl) (by kernel_rfl) (by kernel_rfl) (fun _ _ _ h=>h) (And.intro (by rfl) ?hyb9) (by assumption) ?rest9;case hyb9=>intro W hSw;exact⟨89,#[.string dig],by go_simp,HSt.out W dig (by omega)⟩
 try simp only[Act.put,List.setIfInBounds_toArray]
 try simp only[List.getElem_toArray,List.getElem_cons_zero,List.getElem_cons_succ]
 refine tk 10 ?_;refine take_call (i:=14) (oi:=_) (v:=(.string (strB (numL exts.length)))) rfl (by kernel_rfl) (by kernel_rfl) (by kernel_rfl) (fun _ _ _ h=>h) (And.intro (by rfl) ?hyb14) (by assumption) ?rest14;case hyb14=>intro W hSw;exact⟨160,#[.int .i64 (exts.length:Int)],by go_simp,HNu.out W exts.length (by omega)⟩
 try simp only[Act.put,List.setIfInBounds_toArray]
 try simp only[List.getElem_toArray,List.getElem_cons_zero,List.getElem_cons_succ]
 refine tk 15 ?_;refine tk 16 ?_;refine wpAnyH_done (by kernel_rfl) ?_ _;go_wp2_with fail;go_meet;exact⟨_,rfl,rfl,hbw⟩};{exact AllReadyH.nil})
 case rest=>
 obtain⟨w4,rfl,rfl,hb4⟩:=hcut;have HK4:=zY (HK2.kept hb4);have HB4:=zYt HB2 hb4;have Hxl:=zY (fun i=>extL_len (l:=exts.take i) (fun x hx=>Hxs.out x (List.mem_of_mem_take hx)));have HE0:Hid (strB (nstL (bs T))++strB (numL z)++strB (nstL (bs dig))++strB (numL exts.length)=strB (nstL (bs T)++numL z++nstL (bs dig)++numL exts.length++extL (exts.take 0))):=zY (by
  rw[strB_cat,strB_cat,strB_cat,List.take_zero,show extL []=[] from rfl,List.append_nil]);have Hal:Hid (∀i,(strB (nstL (bs T)++numL z++nstL (bs dig)++numL exts.length++extL (exts.take i))).size<=100000000):=zY (fun i=>by
  have h1:=Hxl.out i
  have h2:=Nat.mul_le_mul (show (exts.take i).length<=100000 by rw[List.length_take];omega) (Nat.le_refl 63)
  rw[strB_size]at hq1 hq2 hq3 hq4⊢
  rw[List.length_append,List.length_append,List.length_append,List.length_append]
  omega);clear hb4 HK2 HB2 hc1 hc2 hc3 hq1 hq2 hq3 hq4 HHd HS0;have c6:=HK4.c 6;go_wp2;go_loopw [5,6,7] (fun y x _ wr=>∃i:Nat,i<=exts.length/\x=.int .i64 (i:Int)/\y=.string (strB (nstL (bs T)++numL z++nstL (bs dig)++numL exts.length++extL (exts.take i)))/\Below w4.heap.size w4 wr) (fun _ x _ _=>exts.length-(intOf x).toNat);case atStart=>exact⟨0,by omega,rfl,by rw[<-HE0.out],Below.refl _ _⟩
 case round=>
 obtain⟨i,hi,rfl,rfl,hB⟩:=hrel;have HB:=zY hB;have HKr:=zY (HK4.kept hB);clear hB c6;have hys:=Hal.out i;have c6:=HKr.c 6;by_cases h:i<exts.length;{
 have hiI:(i:Int)<exts.length:=by omega
 obtain⟨x,hx'⟩:∃x,exts[i]?=some x:=⟨_,List.getElem?_eq_getElem h⟩;have hxb:=of_decide_eq_true (Hxs.out x (List.mem_of_getElem? hx'));have HN2:=zY (extL_take hx');obtain⟨_,_,e9,_,_,h4⟩:=Hvx.below (HB4.trans (HB.mono HB4.size));cases e9;obtain⟨b,o,cs,rfl,rfl,hc⟩:=h4 i x hx';obtain⟨x0,x1,x2⟩:=x;dsimp only at hxb HN2;obtain⟨n0,hn0⟩:∃n:Nat,x0=(n:Int):=⟨x0.toNat,by omega⟩;obtain⟨n1,hn1⟩:∃n:Nat,x1=(n:Int):=⟨x1.toNat,by omega⟩;obtain⟨n2,hn2⟩:∃n:Nat,x2=(n:Int):=⟨x2.toNat,by omega⟩;subst hn0 hn1 hn2;have e0:wr.cell? ⟨b,o+i*3,none⟩=some (.int .i64 (n0:Int)):=hc 0 _ rfl;have e1:wr.cell? ⟨b,o+i*3+1,none⟩=some (.int .i64 (n1:Int)):=hc 1 _ rfl;have e2:wr.cell? ⟨b,o+i*3+2,none⟩=some (.int .i64 (n2:Int)):=hc 2 _ rfl;have HN3:Hid (strB (nstL (bs T)++numL z++nstL (bs dig)++numL exts.length++extL (exts.take i))++strB (numL n0)++strB (numL n1)++strB (numL n2)=strB (nstL (bs T)++numL z++nstL (bs dig)++numL exts.length++extL (exts.take (i+1)))):=zY (by
  rw[HN2.out,strB_cat,strB_cat,strB_cat,Int.toNat_natCast,Int.toNat_natCast,Int.toNat_natCast]
  simp only[List.append_assoc]);have h5:=numL_len n0 (by omega);have h6:=numL_len n1 (by omega);have h7:=numL_len n2 (by omega);generalize strB (nstL (bs T)++numL z++nstL (bs dig)++numL exts.length++extL (exts.take i))=Y at *;have hc1:¬9223372036854775807<Y.size+(strB (numL n0)).size:=by omega
 have hc2:¬9223372036854775807<Y.size+(strB (numL n0)).size+(strB (numL n1)).size:=by omega
 have hc3:¬9223372036854775807<Y.size+(strB (numL n0)).size+(strB (numL n1)).size+(strB (numL n2)).size:=by omega
 have hm0:n0<9223372036854775808:=by omega
 have hm1:n1<9223372036854775808:=by omega
 have hm2:n2<9223372036854775808:=by omega
 have hF:=Blk.new wr 252 [.int .i64 (n0:Int),.int .i64 (n1:Int),.int .i64 (n2:Int)];change Blk (wr.alloc (.cells #[.int .i64 (n0:Int),.int .i64 (n1:Int),.int .i64 (n2:Int)] 252)) _ _ _ at hF;have HBz:=zY (HB.alloc HB.size (.cells #[.int .i64 (n0:Int),.int .i64 (n1:Int),.int .i64 (n2:Int)] 252));have HNq:Hid (∀(W:World) (n:Nat),n<9223372036854775808->Calls prog 160 #[.int .i64 (n:Int)] W fun e w'=>e=.returned (.string (strB (numL n)))/\w'=W):=zY (fun W n hn=>(HNu.out W n hn).mono fun _ _ ⟨h1,h2⟩=>⟨h1,h2.symm⟩);clear hc h4 hx' h5 h6 h7 hxb HN2;go_upto_region 9 with fail;clear e0 e1 e2 c6;generalize wr.alloc (.cells #[.int .i64 (n0:Int),.int .i64 (n1:Int),.int .i64 (n2:Int)] 252)=wz at *;generalize wr.heap.size=fb at *;have g0:=hF.c 0;have g1:=hF.c 1;have g2:=hF.c 2;clear hF;go_quiet (first|(go_at_call 160;refine Calls.quiet_of_same (HNq.out _ _ (by assumption))));go_wp2;go_roundw;case rel=>exact⟨i+1,by omega,by go_num,by rw[HN3.out],zBd HBz.out _⟩
 case measure=>simp[intOf];omega};{
 obtain rfl:i=exts.length:=by omega
 have hiI:¬((exts.length:Nat):Int)<(exts.length:Int):=by omega
 have HN2:Hid (strB (nstL (bs T)++numL z++nstL (bs dig)++numL exts.length++extL (exts.take exts.length))=strB R):=zY (by
  rw[List.take_length,<-HR.out]);generalize strB (nstL (bs T)++numL z++nstL (bs dig)++numL exts.length++extL (exts.take exts.length))=Y at *;go_wp2;go_ret2;first|exact⟨by rw[<-HN2.out]<;>rfl,HB4.trans (HB.mono HB4.size)⟩|exact⟨by rw[<-HN2.out];rfl,HB4.trans (HB.mono HB4.size)⟩}
def rotI (x a b:Int):Int:=bits .or .u32 (x/a) (x*b%4294967296)
theorem rot_any (w:World) (x:Int) {r a b:Int} (h:(r,a,b)=(16,65536,65536)∨(r,a,b)=(12,4096,1048576)∨(r,a,b)=(8,256,16777216)∨(r,a,b)=(7,128,33554432)):Calls prog 353 #[.int .u32 x,.int .u64 r] w fun e w'=>e=.returned (.int .u32 (rotI x a b))/\w=w':=by
 simp only[Prod.mk.injEq]at h;rcases h with⟨rfl,rfl,rfl⟩|⟨rfl,rfl,rfl⟩|⟨rfl,rfl,rfl⟩|⟨rfl,rfl,rfl⟩;all_goals
 go_enter func353,ntmps353;go_wp2;go_ret;exact⟨rfl,rfl⟩
theorem digit_any (w:World) (c:Nat) (h:48<=c/\c<=57∨97<=c/\c<=102):Calls prog 301 #[.int .u8 (c:Int)] w fun e w'=>e=.returned (.int .i64 (((if 97<=c then c-87 else c-48:Nat)):Int))/\w=w':=by
 by_cases h9:97<=c;{
 rw[if_pos h9];have f1:(97:Int)<=c:=by omega
 obtain⟨j,hj⟩:=zNm (c-87);have f2:(c:Int)-87=j:=by omega
 rw[hj];go_enter func301,ntmps301;go_wp2;go_ret;exact⟨rfl,rfl⟩};{
 rw[if_neg h9];have f1:¬(97:Int)<=c:=by omega
 obtain⟨j,hj⟩:=zNm (c-48);have f2:(c:Int)-48=j:=by omega
 rw[hj];go_enter func301,ntmps301;go_wp2;go_ret;exact⟨rfl,rfl⟩}
end
end Go.Proofs.YthgenkkkapilhaaGreatDoor