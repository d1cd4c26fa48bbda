/- Texts, joined. -/
import Derived.Test.YthgenkkkapilhaaGreatDoorVTn04
import Derived.Test.YthgenkkkapilhaaGreatDoorVTn07
set_option linter.all false
set_option maxRecDepth 100000
set_option maxHeartbeats 64000000
namespace Go.Proofs.YthgenkkkapilhaaGreatDoor
open Go.Proofs.Tryz
section
open Go.RowKit
theorem nstL_len (s:ByteArray) (h:s.size<18446744073709551616):(strB (nstL (bs s))).size<=s.size+22:=by
 rw[strB_size,nstL,List.length_append,List.length_append,List.length_append,bs_len];have:=digD_len20 h;simp;omega
theorem numL_len (n:Nat) (h:n<18446744073709551616):(strB (numL n)).size<=21:=by
 rw[strB_size,numL,List.length_append];have:=digD_len20 h;simp;omega
def atrL (l:List Atr):List Nat:=l.flatMap fun a=>nstL (bs a.k)++nstL (bs a.v)
def headL (e:Ent):List Nat:=nstL (bs (nameK e.k))++nstL (bs e.path)++numL e.attrs.length++atrL e.attrs++nstL (bs e.tgt)
theorem atrL_take {l:List Atr} {i:Nat} {a:Atr} (h:l[i]?=some a):atrL (l.take (i+1))=atrL (l.take i)++(nstL (bs a.k)++nstL (bs a.v)):=by
 unfold atrL;rw[List.take_add_one,h,Option.toList_some,List.flatMap_append];simp
theorem atrL_len {l:List Atr} {m:Nat} (hm:m<1000000000) (h:∀a∈l,a.k.size<=m/\a.v.size<=m):(atrL l).length<=l.length*(2*m+44):=by
 induction l with
 |nil=>simp[atrL]
 |cons a r ih=>
 have h1:=ih fun x hx=>h x (List.mem_cons_of_mem _ hx);obtain⟨h2,h3⟩:=h a List.mem_cons_self;have h4:=nstL_len a.k (by omega);have h5:=nstL_len a.v (by omega);rw[strB_size]at h4 h5;have e:atrL (a::r)=(nstL (bs a.k)++nstL (bs a.v))++atrL r:=by unfold atrL;rw[List.flatMap_cons]
 rw[e,List.length_append,List.length_append,List.length_cons,Nat.add_mul,Nat.one_mul];omega
theorem head_any (w:World) (e:Ent) (va vx:Value) (hva:SeqAt atrS w va e.attrs) (hp:e.path.size<=1000000) (ht:e.tgt.size<=1000000) (ha:∀a∈e.attrs,a.k.size<=1000000/\a.v.size<=1000000) (hl:e.attrs.length<=1000):
  Calls prog 240 #[entV e va vx] w fun r w'=>r=.returned (.string (strB (headL e)))/\Below w.heap.size w w':=by
 have HSt:Hid (∀(W:World) (s:ByteArray),s.size<=1000000->Calls prog 89 #[.string s] W fun e w'=>e=.returned (.string (strB (nstL (bs s))))/\w'=W):=zY (fun W s hs=>(nstring_any W s (by omega)).mono fun _ _ ⟨h1,h2⟩=>⟨h1,h2.symm⟩);have HNu:Hid (∀(W:World) (n:Nat),n<9223372036854775808->Calls prog 160 #[.int .i64 (n:Int)] W fun e w'=>e=.returned (.string (strB (numL n)))/\w'=W):=zY (fun W n hn=>(number_any W n hn).mono fun _ _ ⟨h1,h2⟩=>⟨h1,h2.symm⟩);obtain⟨k,path,attrs,t,size,dig,exts⟩:=e;obtain⟨R,hR⟩:=zNm (headL ⟨k,path,attrs,t,size,dig,exts⟩);rw[hR];rw[headL]at hR;dsimp only at hva hp ht ha hl hR;obtain⟨N,hN⟩:=zNm (nameK k);have hNs:N.size<=7:=by rw[<-hN];by_cases h:1<=k/\k<=6;{exact(nameK_some h).2};{rw[nameK_none h];decide}
 have HNm:Hid (∀W:World,Calls prog 222 #[.int .i64 k] W fun e w'=>e=.returned (.string N)/\w'=W):=zY (fun W=>by
  rw[<-hN]
  exact(name_any W k).mono fun _ _ ⟨h1,h2⟩=>⟨h1,h2.symm⟩);rw[hN]at hR;have HR:=zY hR;have Hva:=zY hva;obtain⟨Aa,ca,rfl,ha1,ha2⟩:=hva.slice;have Hal:Hid (∀i,(strB (nstL (bs N)++nstL (bs path)++numL attrs.length++atrL (attrs.take i))).size<=3000000000):=zY (fun i=>by
  have h1:=atrL_len (l:=attrs.take i) (m:=1000000) (by omega) (fun a h=>ha a (List.mem_of_mem_take h))
  have h2:=nstL_len N (by omega)
  have h3:=nstL_len path (by omega)
  have h4:=numL_len attrs.length (by omega)
  have h5:=Nat.mul_le_mul (show (attrs.take i).length<=1000 by rw[List.length_take];omega) (Nat.le_refl (2*1000000+44))
  rw[strB_size]at h2 h3 h4⊢
  rw[List.length_append,List.length_append,List.length_append]
  omega);have Ha:=zY ha;clear hva ha hN hR;rw[entV];dsimp only;have hK:=Blk.new w 182 [.int .i64 k,.string path,.slice Aa attrs.length ca,.string t,.int .i64 size,.string dig,vx];change Blk (w.alloc (.cells #[.int .i64 k,.string path,.slice Aa attrs.length ca,.string t,.int .i64 size,.string dig,vx] 182)) _ _ _ at hK;have HB0:=zY (zBl w (.cells #[.int .i64 k,.string path,.slice Aa attrs.length ca,.string t,.int .i64 size,.string dig,vx] 182));have hq1:=nstL_len N (by omega);have hq2:=nstL_len path (by omega);have hq3:=numL_len attrs.length (by omega);have hc1:¬9223372036854775807<(strB (nstL (bs N))).size+(strB (nstL (bs path))).size:=by omega
 have hc2:¬9223372036854775807<(strB (nstL (bs N))).size+(strB (nstL (bs path))).size+(strB (numL attrs.length)).size:=by omega
 have HE0:Hid (strB (nstL (bs N))++strB (nstL (bs path))++strB (numL attrs.length)=strB (nstL (bs N)++nstL (bs path)++numL attrs.length++atrL (attrs.take 0))):=zY (by
  rw[strB_cat,strB_cat,List.take_zero,show atrL []=[] from rfl,List.append_nil]);go_enter func240,ntmps240;go_upto_region 1 with fail;generalize w.alloc (.cells #[.int .i64 k,.string path,.slice Aa attrs.length ca,.string t,.int .i64 size,.string dig,vx] 182)=wb at *;have HK:=zY hK;have c0:=hK.c 0;have c1:=hK.c 1;have c2:=hK.c 2;clear hK;go_quiet (first|(go_at_call 222;refine Calls.quiet_of_same (HNm.out _))|(go_at_call 89;refine Calls.quiet_of_same (HSt.out _ _ (by omega)))|(go_at_call 160;refine Calls.quiet_of_same (HNu.out _ _ (by omega))));have HBd:Hid (Below wb.heap.size wb (wb.drewN nq)):=zY (zBd (Below.refl _ _) nq);generalize wb.drewN nq=wd at *;have HKd:=zY (HK.kept HBd.out);have HBb:=zY (HB0.trans (HBd.mono HB0.size));clear c0 c1 c2 HK HB0 HBd hc1 hc2 hq1 hq2 hq3;go_wp2;go_loopw [3,4] (fun y x wr=>∃i:Nat,i<=attrs.length/\x=.int .i64 (i:Int)/\y=.string (strB (nstL (bs N)++nstL (bs path)++numL attrs.length++atrL (attrs.take i)))/\Below wd.heap.size wd wr) (fun _ x _=>attrs.length-(intOf x).toNat);case atStart=>exact⟨0,by omega,rfl,by rw[<-HE0.out],Below.refl _ _⟩
 case round=>
 obtain⟨i,hi,rfl,rfl,hB⟩:=hrel;have HB:=zY hB;have HKr:=zY (HKd.kept hB);clear hB;have hys:=Hal.out i;by_cases h:i<attrs.length;{
 have hiI:(i:Int)<attrs.length:=by omega
 obtain⟨a,ha⟩:∃a,attrs[i]?=some a:=⟨_,List.getElem?_eq_getElem h⟩;obtain⟨hak,hav⟩:=Ha.out a (List.mem_of_getElem? ha);have HN2:Hid (strB (nstL (bs N)++nstL (bs path)++numL attrs.length++atrL (attrs.take i))++strB (nstL (bs a.k))++strB (nstL (bs a.v))=strB (nstL (bs N)++nstL (bs path)++numL attrs.length++atrL (attrs.take (i+1)))):=zY (by
  rw[atrL_take ha,strB_cat,strB_cat]
  simp only[List.append_assoc]);obtain⟨_,_,e9,_,_,h4⟩:=Hva.below (HBb.trans (HB.mono HBb.size));cases e9;obtain⟨b,o,cs,rfl,rfl,hc⟩:=h4 i a ha;have c0:wr.cell? ⟨b,o+i*2,none⟩=some (.string a.k):=hc 0 _ rfl;have c1:wr.cell? ⟨b,o+i*2+1,none⟩=some (.string a.v):=hc 1 _ rfl;have c2:=HKr.c 2;obtain⟨ak,av⟩:=a;dsimp only at hak hav HN2 c0 c1;generalize strB (nstL (bs N)++nstL (bs path)++numL attrs.length++atrL (attrs.take i))=Y at *;have h5:=nstL_len ak (by omega);have h6:=nstL_len av (by omega);have hc1:¬9223372036854775807<Y.size+(strB (nstL (bs ak))).size:=by omega
 have hc2:¬9223372036854775807<Y.size+(strB (nstL (bs ak))).size+(strB (nstL (bs av))).size:=by omega
 clear hc h4 ha h5 h6;go_upto_region 5 with fail;go_quiet (first|(go_at_call 89;refine Calls.quiet_of_same (HSt.out _ _ (by omega))));go_wp2;go_roundw;case rel=>exact⟨i+1,by omega,by go_num,by rw[HN2.out],zBd HB.out _⟩
 case measure=>simp[intOf];omega};{
 obtain rfl:i=attrs.length:=by omega
 have hiI:¬((attrs.length:Nat):Int)<(attrs.length:Int):=by omega
 have c3:=HKr.c 3;have HN2:Hid (strB (nstL (bs N)++nstL (bs path)++numL attrs.length++atrL (attrs.take attrs.length))++strB (nstL (bs t))=strB R):=zY (by
  rw[List.take_length,strB_cat,<-HR.out]);have h5:=nstL_len t (by omega);have c2:=HKr.c 2;generalize strB (nstL (bs N)++nstL (bs path)++numL attrs.length++atrL (attrs.take attrs.length))=Y at *;have hc1:¬9223372036854775807<Y.size+(strB (nstL (bs t))).size:=by omega
 clear h5;go_wp2_with fail;refine(HSt.out _ t ht).mono ?_;rintro e6 w6 ⟨rfl,rfl⟩;go_wp2_with fail;go_ret;exact⟨by rw[<-HN2.out]<;>rfl,HBb.trans (HB.mono HBb.size)⟩}
def extL (l:List Ext):List Nat:=l.flatMap fun x=>numL x.s.toNat++numL x.o.toNat++numL x.l.toNat
def encL (e:Ent):List Nat:=nstL (bs (strB (headL e)))++numL e.size.toNat++nstL (bs e.dig)++numL e.exts.length++extL e.exts
theorem extL_take {l:List Ext} {i:Nat} {x:Ext} (h:l[i]?=some x):extL (l.take (i+1))=extL (l.take i)++(numL x.s.toNat++numL x.o.toNat++numL x.l.toNat):=by
 unfold extL;rw[List.take_add_one,h,Option.toList_some,List.flatMap_append];simp
theorem extL_len {l:List Ext} (h:∀x∈l,extB x=true):(extL l).length<=l.length*63:=by
 induction l with
 |nil=>simp[extL]
 |cons a r ih=>
 have h1:=ih fun x hx=>h x (List.mem_cons_of_mem _ hx);have h2:=of_decide_eq_true (h a List.mem_cons_self);have h3:=numL_len a.s.toNat (by omega);have h4:=numL_len a.o.toNat (by omega);have h5:=numL_len a.l.toNat (by omega);rw[strB_size]at h3 h4 h5;have e:extL (a::r)=(numL a.s.toNat++numL a.o.toNat++numL a.l.toNat)++extL r:=by unfold extL;rw[List.flatMap_cons]
 rw[e,List.length_append,List.length_append,List.length_append,List.length_cons,Nat.add_mul,Nat.one_mul];omega
theorem encode36_any (w:World) (e:Ent) (va vx:Value) (hva:SeqAt atrS w va e.attrs) (hvx:SeqAt extS w vx e.exts) (hok:EntOk e) (hp:e.path.size<=1000000) (ht:e.tgt.size<=1000000) (ha:∀a∈e.attrs,a.k.size<=1000000/\a.v.size<=1000000) (hl:e.attrs.length<=1000) (hx:e.exts.length<=100000) (hh:(headL e).length<=1000000) (hd:e.dig.size<=1000000):
  Calls prog 162 #[entV e va vx] w fun r w'=>r=.returned (.tuple #[.string (strB (encL e)),.int .i64 0])/\Below w.heap.size w w':=by
 have HSt:Hid (∀(W:World) (s:ByteArray),s.size<=1000000->Calls prog 89 #[.string s] W fun e w'=>e=.returned (.string (strB (nstL (bs s))))/\W=w'):=zY (fun W s hs=>nstring_any W s (by omega));have HNu:Hid (∀(W:World) (n:Nat),n<9223372036854775808->Calls prog 160 #[.int .i64 (n:Int)] W fun e w'=>e=.returned (.string (strB (numL n)))/\W=w'):=zY (fun W n hn=>number_any W n hn);have HCk:Hid (∀W:World,Below w.heap.size w W->Calls prog 153 #[entV e va vx] W fun r w'=>r=.returned (.int .i64 0)/\Below W.heap.size W w'):=zY (fun W hb=>
  (check36_any W e va vx (hva.below hb) (hvx.below hb) hp ht (fun a h=>(ha a h).1) hx).mono fun _ _ ⟨⟨n,h1,h2⟩,h3⟩=>⟨by rw[h1,h2.2 hok],h3⟩);have HHd:Hid (∀W:World,Below w.heap.size w W->Calls prog 240 #[entV e va vx] W fun r w'=>r=.returned (.string (strB (headL e)))/\Below W.heap.size W w'):=zY (fun W hb=>head_any W e va vx (hva.below hb) hp ht ha hl);have hsz:=hok.size;have Hxs:=zY hok.exts.2.1;clear hok hp ht ha hl;obtain⟨k,path,attrs,t,size,dig,exts⟩:=e;obtain⟨R,hR⟩:=zNm (encL ⟨k,path,attrs,t,size,dig,exts⟩);rw[hR];rw[encL]at hR;generalize headL ⟨k,path,attrs,t,size,dig,exts⟩=H at *;dsimp only at hva hvx hx hh hd hR hsz;obtain⟨z,hz⟩:∃z:Nat,size=(z:Int):=⟨size.toNat,by omega⟩;subst hz;rw[Int.toNat_natCast]at hR;obtain⟨Aa,ca,rfl,ha1,ha2⟩:=hva.slice;have Hvx:=zY hvx;obtain⟨Ax,cx,rfl,hx1,hx2⟩:=hvx.slice;have HR:=zY hR;clear hva hvx hR;rw[entV]at HCk HHd⊢;dsimp only at HCk HHd⊢Hxs;have hK:=Blk.new w 182 [.int .i64 k,.string path,.slice Aa attrs.length ca,.string t,.int .i64 (z:Int),.string dig,.slice Ax exts.length cx];change Blk (w.alloc (.cells #[.int .i64 k,.string path,.slice Aa attrs.length ca,.string t,.int .i64 (z:Int),.string dig,.slice Ax exts.length cx] 182)) _ _ _ at hK;have HB0:=zY (zBl w (.cells #[.int .i64 k,.string path,.slice Aa attrs.length ca,.string t,.int .i64 (z:Int),.string dig,.slice Ax exts.length cx] 182));have HK:=zY hK;have c0:=hK.c 0;have c1:=hK.c 1;have c2:=hK.c 2;have c3:=hK.c 3;have c4:=hK.c 4;have c5:=hK.c 5;have c6:=hK.c 6;clear hK;go_enter func162,ntmps162;go_wp2_with fail
 generalize w.alloc (.cells #[.int .i64 k,.string path,.slice Aa attrs.length ca,.string t,.int .i64 (z:Int),.string dig,.slice Ax exts.length cx] 182)=wb at *;refine(HCk.out _ HB0.out).mono ?_;rintro e2 w2 ⟨rfl,hb2⟩;have HK2:=zY (HK.kept hb2);have HB2:=zYt HB0 hb2;clear hb2 HK HB0 c0 c1 c2 c3 c4 c5 c6 HCk;go_upto_region 4 with fail;have hT:(strB H).size<=1000000:=by rw[strB_size];exact hh
 generalize strB H=T at *;have hS0:(fun W:World=>W.cell? ⟨w.heap.size,0,none⟩=some (.int .i64 k)/\W.cell? ⟨w.heap.size,1,none⟩=some (.string path)/\W.cell? ⟨w.heap.size,2,none⟩=some (.slice Aa attrs.length ca)/\W.cell? ⟨w.heap.size,3,none⟩=some (.string t)/\W.cell? ⟨w.heap.size,4,none⟩=some (.int .i64 (z:Int))/\W.cell? ⟨w.heap.size,5,none⟩=some (.string dig)/\W.cell? ⟨w.heap.size,6,none⟩=some (.slice Ax exts.length cx)) w2:=⟨HK2.c 0,HK2.c 1,HK2.c 2,HK2.c 3,HK2.c 4,HK2.c 5,HK2.c 6⟩;have HS0:=zY hS0;clear hS0;have hq1:=nstL_len T (by omega);have hq2:=numL_len z (by omega);have hq3:=nstL_len dig (by omega);have hq4:=numL_len exts.length (by omega);have hc1:¬9223372036854775807<(strB (nstL (bs T))).size+(strB (numL z)).size:=by omega
 have hc2:¬9223372036854775807<(strB (nstL (bs T))).size+(strB (numL z)).size+(strB (nstL (bs dig))).size:=by omega
 have hc3:¬9223372036854775807<(strB (nstL (bs T))).size+(strB (numL z)).size+(strB (nstL (bs dig))).size+(strB (numL exts.length)).size:=by omega
 go_cut [5] (fun s wx=>∃W,s=.string (strB (nstL (bs T))++strB (numL z)++strB (nstL (bs dig))++strB (numL exts.length))/\W=wx/\Below w2.heap.size w2 W);case first=>(
 refine wp_region_held_drew (S:=(fun W=>W.cell? ⟨w.heap.size,0,none⟩=some (.int .i64 k)/\W.cell? ⟨w.heap.size,1,none⟩=some (.string path)/\W.cell? ⟨w.heap.size,2,none⟩=some (.slice Aa attrs.length ca)/\W.cell? ⟨w.heap.size,3,none⟩=some (.string t)/\W.cell? ⟨w.heap.size,4,none⟩=some (.int .i64 (z:Int))/\W.cell? ⟨w.heap.size,5,none⟩=some (.string dig)/\W.cell? ⟨w.heap.size,6,none⟩=some (.slice Ax exts.length cx))) (by kernel_rfl) ?_ (fun hHeld=>?_);{exact HS0.out};refine tk 0 ?_;refine tk 3 ?_;refine tk 4 ?_;refine tk 7 ?_;refine tk 8 ?_;refine tk 11 ?_;refine tk 12 ?_;refine tk 13 ?_;refine zEs [1] ?_;refine zEc (fun K hK=>?_) ?_;{
 go_simp;refine(HHd.out _ HB2.drew).mono ?_;rintro e w6 ⟨rfl,hb6⟩;(try go_wp2_with fail);have hbw:Below w2.heap.size w2 w6:=(Below.refl _ w2).drew.trans hb6;have HK6:=zY (HK2.kept hbw);refine hko hK (by exact⟨HK6.c 0,HK6.c 1,HK6.c 2,HK6.c 3,HK6.c 4,HK6.c 5,HK6.c 6⟩) (fun _=>?_);clear hK K;refine take_call (i:=2) (oi:=_) (v:=(.string (strB (nstL (bs T))))) rfl (by kernel_rfl) (by kernel_rfl) (by kernel_rfl) (fun _ _ _ h=>h) (And.intro (by rfl) ?hyb2) (by assumption) ?rest2;case hyb2=>intro W hSw;exact⟨89,#[.string T],by go_simp,HSt.out W T (by omega)⟩
 try simp only[Act.put,List.setIfInBounds_toArray]
 try simp only[List.getElem_toArray,List.getElem_cons_zero,List.getElem_cons_succ]
 refine take_call (i:=5) (oi:=_) (v:=(.string (strB (numL z)))) rfl (by kernel_rfl) (by kernel_rfl) (by kernel_rfl) (fun _ _ _ h=>h) (And.intro (by rfl) ?hyb5) (by assumption) ?rest5;case hyb5=>intro W hSw;exact⟨160,#[.int .i64 (z:Int)],by go_simp,HNu.out W z (by omega)⟩
 try simp only[Act.put,List.setIfInBounds_toArray]
 try simp only[List.getElem_toArray,List.getElem_cons_zero,List.getElem_cons_succ]
 refine tk 6 ?_;refine take_call (i:=9) (oi:=_) (v:=(.string (strB (nstL (bs dig))))) rfl (by kernel_rfl) (by kernel_rfl) (by kernel_rfl) (fun _ _ _ h=>h) (And.intro (by rfl) ?hyb9) (by assumption) ?rest9;case hyb9=>intro W hSw;exact⟨89,#[.string dig],by go_simp,HSt.out W dig (by omega)⟩
 try simp only[Act.put,List.setIfInBounds_toArray]
 try simp only[List.getElem_toArray,List.getElem_cons_zero,List.getElem_cons_succ]
 refine tk 10 ?_;refine take_call (i:=14) (oi:=_) (v:=(.string (strB (numL exts.length)))) rfl (by kernel_rfl) (by kernel_rfl) (by kernel_rfl) (fun _ _ _ h=>h) (And.intro (by rfl) ?hyb14) (by assumption) ?rest14;case hyb14=>intro W hSw;exact⟨160,#[.int .i64 (exts.length:Int)],by go_simp,HNu.out W exts.length (by omega)⟩
 try simp only[Act.put,List.setIfInBounds_toArray]
 try simp only[List.getElem_toArray,List.getElem_cons_zero,List.getElem_cons_succ]
 refine tk 15 ?_;refine tk 16 ?_;refine wpAnyH_done (by kernel_rfl) ?_ _;go_wp2_with fail;go_meet;exact⟨_,rfl,rfl,hbw⟩};{exact AllReadyH.nil})
 case rest=>
 obtain⟨w4,rfl,rfl,hb4⟩:=hcut;have HK4:=zY (HK2.kept hb4);have HB4:=zYt HB2 hb4;have Hxl:=zY (fun i=>extL_len (l:=exts.take i) (fun x hx=>Hxs.out x (List.mem_of_mem_take hx)));have HE0:Hid (strB (nstL (bs T))++strB (numL z)++strB (nstL (bs dig))++strB (numL exts.length)=strB (nstL (bs T)++numL z++nstL (bs dig)++numL exts.length++extL (exts.take 0))):=zY (by
  rw[strB_cat,strB_cat,strB_cat,List.take_zero,show extL []=[] from rfl,List.append_nil]);have Hal:Hid (∀i,(strB (nstL (bs T)++numL z++nstL (bs dig)++numL exts.length++extL (exts.take i))).size<=100000000):=zY (fun i=>by
  have h1:=Hxl.out i
  have h2:=Nat.mul_le_mul (show (exts.take i).length<=100000 by rw[List.length_take];omega) (Nat.le_refl 63)
  rw[strB_size]at hq1 hq2 hq3 hq4⊢
  rw[List.length_append,List.length_append,List.length_append,List.length_append]
  omega);clear hb4 HK2 HB2 hc1 hc2 hc3 hq1 hq2 hq3 hq4 HHd HS0;have c6:=HK4.c 6;go_wp2;go_loopw [5,6,7] (fun y x _ wr=>∃i:Nat,i<=exts.length/\x=.int .i64 (i:Int)/\y=.string (strB (nstL (bs T)++numL z++nstL (bs dig)++numL exts.length++extL (exts.take i)))/\Below w4.heap.size w4 wr) (fun _ x _ _=>exts.length-(intOf x).toNat);case atStart=>exact⟨0,by omega,rfl,by rw[<-HE0.out],Below.refl _ _⟩
 case round=>
 obtain⟨i,hi,rfl,rfl,hB⟩:=hrel;have HB:=zY hB;have HKr:=zY (HK4.kept hB);clear hB c6;have hys:=Hal.out i;have c6:=HKr.c 6;by_cases h:i<exts.length;{
 have hiI:(i:Int)<exts.length:=by omega
 obtain⟨x,hx'⟩:∃x,exts[i]?=some x:=⟨_,List.getElem?_eq_getElem h⟩;have hxb:=of_decide_eq_true (Hxs.out x (List.mem_of_getElem? hx'));have HN2:=zY (extL_take hx');obtain⟨_,_,e9,_,_,h4⟩:=Hvx.below (HB4.trans (HB.mono HB4.size));cases e9;obtain⟨b,o,cs,rfl,rfl,hc⟩:=h4 i x hx';obtain⟨x0,x1,x2⟩:=x;dsimp only at hxb HN2;obtain⟨n0,hn0⟩:∃n:Nat,x0=(n:Int):=⟨x0.toNat,by omega⟩;obtain⟨n1,hn1⟩:∃n:Nat,x1=(n:Int):=⟨x1.toNat,by omega⟩;obtain⟨n2,hn2⟩:∃n:Nat,x2=(n:Int):=⟨x2.toNat,by omega⟩;subst hn0 hn1 hn2;have e0:wr.cell? ⟨b,o+i*3,none⟩=some (.int .i64 (n0:Int)):=hc 0 _ rfl;have e1:wr.cell? ⟨b,o+i*3+1,none⟩=some (.int .i64 (n1:Int)):=hc 1 _ rfl;have e2:wr.cell? ⟨b,o+i*3+2,none⟩=some (.int .i64 (n2:Int)):=hc 2 _ rfl;have HN3:Hid (strB (nstL (bs T)++numL z++nstL (bs dig)++numL exts.length++extL (exts.take i))++strB (numL n0)++strB (numL n1)++strB (numL n2)=strB (nstL (bs T)++numL z++nstL (bs dig)++numL exts.length++extL (exts.take (i+1)))):=zY (by
  rw[HN2.out,strB_cat,strB_cat,strB_cat,Int.toNat_natCast,Int.toNat_natCast,Int.toNat_natCast]
  simp only[List.append_assoc]);have h5:=numL_len n0 (by omega);have h6:=numL_len n1 (by omega);have h7:=numL_len n2 (by omega);generalize strB (nstL (bs T)++numL z++nstL (bs dig)++numL exts.length++extL (exts.take i))=Y at *;have hc1:¬9223372036854775807<Y.size+(strB (numL n0)).size:=by omega
 have hc2:¬9223372036854775807<Y.size+(strB (numL n0)).size+(strB (numL n1)).size:=by omega
 have hc3:¬9223372036854775807<Y.size+(strB (numL n0)).size+(strB (numL n1)).size+(strB (numL n2)).size:=by omega
 have hm0:n0<9223372036854775808:=by omega
 have hm1:n1<9223372036854775808:=by omega
 have hm2:n2<9223372036854775808:=by omega
 have hF:=Blk.new wr 252 [.int .i64 (n0:Int),.int .i64 (n1:Int),.int .i64 (n2:Int)];change Blk (wr.alloc (.cells #[.int .i64 (n0:Int),.int .i64 (n1:Int),.int .i64 (n2:Int)] 252)) _ _ _ at hF;have HBz:=zY (HB.alloc HB.size (.cells #[.int .i64 (n0:Int),.int .i64 (n1:Int),.int .i64 (n2:Int)] 252));have HNq:Hid (∀(W:World) (n:Nat),n<9223372036854775808->Calls prog 160 #[.int .i64 (n:Int)] W fun e w'=>e=.returned (.string (strB (numL n)))/\w'=W):=zY (fun W n hn=>(HNu.out W n hn).mono fun _ _ ⟨h1,h2⟩=>⟨h1,h2.symm⟩);clear hc h4 hx' h5 h6 h7 hxb HN2;go_upto_region 9 with fail;clear e0 e1 e2 c6;generalize wr.alloc (.cells #[.int .i64 (n0:Int),.int .i64 (n1:Int),.int .i64 (n2:Int)] 252)=wz at *;generalize wr.heap.size=fb at *;have g0:=hF.c 0;have g1:=hF.c 1;have g2:=hF.c 2;clear hF;go_quiet (first|(go_at_call 160;refine Calls.quiet_of_same (HNq.out _ _ (by assumption))));go_wp2;go_roundw;case rel=>exact⟨i+1,by omega,by go_num,by rw[HN3.out],zBd HBz.out _⟩
 case measure=>simp[intOf];omega};{
 obtain rfl:i=exts.length:=by omega
 have hiI:¬((exts.length:Nat):Int)<(exts.length:Int):=by omega
 have HN2:Hid (strB (nstL (bs T)++numL z++nstL (bs dig)++numL exts.length++extL (exts.take exts.length))=strB R):=zY (by
  rw[List.take_length,<-HR.out]);generalize strB (nstL (bs T)++numL z++nstL (bs dig)++numL exts.length++extL (exts.take exts.length))=Y at *;go_wp2;go_ret2;first|exact⟨by rw[<-HN2.out]<;>rfl,HB4.trans (HB.mono HB4.size)⟩|exact⟨by rw[<-HN2.out];rfl,HB4.trans (HB.mono HB4.size)⟩}
theorem decD:∀u:Nat,(Lib.decDigits u).map (·.toNat)=digD u:=by
 intro u;induction u using Nat.strongRecOn with
 |_ u ih=>
 by_cases h:u<10;{
 rw[Lib.decDigits_one h,digD_small h];show [(UInt8.ofNat (48+u)).toNat]=_;rw[UInt8.toNat_ofNat',Nat.mod_eq_of_lt (by omega)]};{
 rw[Lib.decDigits,dif_neg h,digD_great h,List.map_append,ih (u/10) (by omega),digD_small (u:=u%10) (by omega)];show _++[(UInt8.ofNat (48+u%10)).toNat]=_;rw[UInt8.toNat_ofNat',Nat.mod_eq_of_lt (by omega)]}
theorem itoaB (n:Nat):(⟨(Lib.itoa (n:Int)).toArray⟩:ByteArray)=strB (digD n):=by
 rw[<-strB_bs ⟨(Lib.itoa (n:Int)).toArray⟩,Lib.itoa_nonneg,<-decD];rfl
def natL (l:List UInt8):List Nat:=l.map (·.toNat)
theorem index_cons (b:UInt8) (l:List UInt8):Lib.index (b::l) [47]=if b=47 then 0 else if Lib.index l [47]= -1 then -1 else Lib.index l [47]+1:=by
 rw[Lib.index];by_cases h:b=47;{
 subst h;simp[List.isPrefixOf]};{
 have hp:([47]:List UInt8).isPrefixOf (b::l)=false:=by simp[List.isPrefixOf,Ne.symm h]
 rw[hp,if_neg h];by_cases hm:Lib.index l [47]= -1;{rw[if_pos hm,hm];rfl};{
 rw[if_neg hm];simp[hm]}}
theorem splits_key:∀l:List UInt8,∃h r,Lib.splitK [47] 0 (Lib.count l [47]) l=h::r/\∀p,splitG p (natL l)=(p++natL h)::r.map natL
 |[]=>⟨[],[],by rw[Lib.count_miss (by simp[Lib.index])];rfl,fun p=>by simp[natL,splitG]⟩
 |b::t=>by
  obtain⟨h,r,h1,h2⟩:=splits_key t
  by_cases hb:b=47
  {
  subst hb
  refine⟨[],h::r,?_,fun p=>?_⟩
  {
  rw[Lib.count_cons_eq,Nat.add_comm,Lib.splitK,index_cons,if_pos rfl,if_neg (by decide)]
  simp only[Int.toNat_zero,Nat.add_zero,List.take_zero,List.length_cons,List.length_nil,Nat.zero_add,List.drop_succ_cons,List.drop_zero]
  rw[h1]}
  {
  show splitG p (47::natL t)=_
  rw[splitG,if_pos rfl,h2 []]
  simp[natL]}}
  {
  have hn:¬b.toNat=47:=fun e=>hb (by rw[<-UInt8.toNat_inj,e];rfl)
  have hg:∀p,splitG p (natL (b::t))=(p++natL (b::h))::r.map natL:=fun p=>by
   show splitG p (b.toNat::natL t)=_
   rw[splitG,if_neg hn,h2 (p++[b.toNat])]
   simp[natL]
  rw[Lib.count_cons_ne b 47 t hb]
  refine⟨b::h,r,?_,hg⟩
  cases hk:Lib.count t [47]with
  |zero=>
   rw[hk]at h1
   rw[Lib.splitK]at h1
   obtain⟨rfl,rfl⟩:=List.cons.inj h1
   rfl
  |succ k=>
   rw[hk]at h1
   have hm:Lib.index t [47]≠ -1:=fun e=>by rw[Lib.count_miss e]at hk;cases hk
   have hge:=Lib.index_ge t [47]
   obtain⟨j,hj⟩:∃j:Nat,Lib.index t [47]=j:=⟨(Lib.index t [47]).toNat,by omega⟩
   have ej:¬((j:Int)== -1)=true:=fun e=>by have:=beq_iff_eq.1 e;omega
   have ej1:¬(((j:Int)+1)== -1)=true:=fun e=>by have:=beq_iff_eq.1 e;omega
   have ej2:¬(j:Int)= -1:=by omega
   rw[Lib.splitK,hj,if_neg ej]at h1
   rw[Lib.splitK,index_cons,if_neg hb,hj,if_neg ej2,if_neg ej1]
   obtain⟨e1,e2⟩:=List.cons.inj h1
   rw[<-e1,<-e2,show ((j:Int)+1).toNat=j+1 by omega,Int.toNat_natCast]
   rfl}
theorem splits_elems (s:ByteArray):Lib.splitB ⟨#[47]⟩ 0 (Lib.countB s ⟨#[47]⟩) s=(splitG [] (bs s)).map strB:=by
 obtain⟨h,r,h1,h2⟩:=splits_key s.data.toList;have e1:=Lib.splitB_data ⟨#[47]⟩ 0 (Lib.countB s ⟨#[47]⟩) s;have e2:(Lib.splitB ⟨#[47]⟩ 0 (Lib.countB s ⟨#[47]⟩) s).map (·.data.toList)=h::r:=e1.trans h1;have e3:splitG [] (bs s)=(h::r).map natL:=by rw[show bs s=natL s.data.toList from rfl,h2 []];rfl
 rw[e3,<-e2,List.map_map,List.map_map];have:∀L:List ByteArray,L.map ((strB∘natL)∘fun x=>x.data.toList)=L:=fun L=>by
  induction L with
  |nil=>rfl
  |cons x r ih=>rw[List.map_cons,ih];exact congrArg (· :: r) (strB_bs x)
 exact(this _).symm
theorem idx_none {s:ByteArray} {p:Nat->Bool} (h:∀b∈bs s,b<128/\p b=false):∀(f pos:Nat),Lib.idxFuncFrom p true s f pos= -1
 |0,_=>rfl
 |f+1,pos=>by
  unfold Lib.idxFuncFrom
  by_cases hp:pos<s.size
  {
  have hb:=h _ (List.mem_of_getElem? (bs_get s pos hp))
  rw[if_pos hp,decode_ascii s pos hp hb.1]
  dsimp only
  rw[hb.2,if_neg (by decide)]
  exact idx_none h f (pos+1)}
  ·rw[if_neg hp]
structure Tab (w:World):Prop where
 pow : Lib.TabIs prog w "internal/strconv.uint64pow10" .u64 Lib.pow10Tab
 most:∃m:Int,w.cell? ⟨1,0,none⟩=some (.int .i64 m)
theorem var_below {w w':World} {n:String} {cs:Array Value} (h:w.var? prog n=some cs) (hb:Below w.heap.size w w'):w'.var? prog n=some cs:=by
 unfold World.var? at h⊢;cases hg:prog.globalNamed n with
 |none=>rw[hg]at h;cases h
 |some g=>
 rw[hg]at h;simp only[Option.bind_some]at h⊢;have hlt:g<w.heap.size:=by rcases Nat.lt_or_ge g w.heap.size with h'|h';{exact h'};{rw[Array.getElem?_eq_none h']at h;cases h}
 rw[hb.block g hlt];exact h
theorem Tab.below {w w':World} (h:Tab w) (hb:Below w.heap.size w w'):Tab w':=⟨var_below h.pow hb,h.most.imp fun _ hm=>cell_below hb hm⟩
theorem blwN {B:Nat} {a w:World} (h:Below B a w) (n:Nat):Below B a (w.drewN n):=h.trans ⟨rfl,rfl,rfl,Nat.le_refl _,fun _ _=>rfl⟩
theorem itoa_any (w:World) (n:Nat) (hn:n<9223372036854775808) (hT:Tab w):Calls prog 54 #[.int .i64 (n:Int)] w fun e w'=>e=.returned (.string (strB (digD n)))/\Below w.heap.size w w':=by
 refine(Tryz.strconv_Itoa (n:Int) (by omega) (by omega) w hT.pow).mono ?_;rintro e w' ⟨rfl,k,os,rfl⟩;refine⟨by rw[itoaB],rfl,rfl,rfl,?_,fun j hj=>?_⟩;{
 show w.heap.size<=(w.heap++os).size;rw[Array.size_append];omega};{
 show (w.heap++os)[j]?=_;rw[Array.getElem?_append_left hj]}
theorem nnumber_any (w:World) (n:Nat) (hn:n<9223372036854775808) (hT:Tab w):Calls prog 72 #[.int .i64 (n:Int)] w fun e w'=>e=.returned (.string (strB (numL n)))/\Below w.heap.size w w':=by
 have H1:=zY (itoa_any w n hn hT);have hs1:(strB (digD n)).size<=20:=by rw[strB_size];exact digD_len20 (by omega)
 have Hc:Hid (strB (digD n)++⟨#[32]⟩=strB (numL n)):=zY (strB_cat (digD n) [32]);generalize strB (digD n)=Q at *;have hcc:¬9223372036854775807<Q.size+1:=by omega
 go_enter func72,ntmps72;go_wp2_with fail;refine H1.mono ?_;rintro e1 w1 ⟨rfl,hb1⟩;have HB1:=zY hb1;clear hb1;go_wp2_with fail;go_ret;exact⟨by rw[<-Hc.out]<;>rfl,HB1.out⟩
theorem nnstring_any (w:World) (s:ByteArray) (hs:s.size<=100000000) (hT:Tab w):Calls prog 53 #[.string s] w fun e w'=>e=.returned (.string (strB (nstL (bs s))))/\Below w.heap.size w w':=by
 have H1:=zY (itoa_any w s.size (by omega) hT);have hs1:(strB (digD s.size)).size<=20:=by rw[strB_size];exact digD_len20 (by omega)
 have hc:strB (digD s.size)++⟨#[58]⟩++s++⟨#[44]⟩=strB (nstL (bs s)):=by have e1:=strB_cat (digD s.size) [58];have e2:=strB_cat (digD s.size++[58]) (bs s);have e3:=strB_cat (digD s.size++[58]++bs s) [44];rw[strB_bs]at e2;rw[<-e1]at e2;rw[<-e2]at e3;rw[nstL,bs_len];exact e3
 have Hc:=zY hc;clear hc;generalize strB (digD s.size)=Q at *;have hcc:¬9223372036854775807<Q.size+1:=by omega
 have hcd:¬9223372036854775807<Q.size+1+s.size:=by omega
 have hce:¬9223372036854775807<Q.size+1+s.size+1:=by omega
 go_enter func53,ntmps53;go_wp2_with fail;refine H1.mono ?_;rintro e1 w1 ⟨rfl,hb1⟩;have HB1:=zY hb1;clear hb1;go_wp2_with fail;go_ret;exact⟨by rw[<-Hc.out]<;>rfl,HB1.out⟩
def rotI (x a b:Int):Int:=bits .or .u32 (x/a) (x*b%4294967296)
theorem rot_any (w:World) (x:Int) {r a b:Int} (h:(r,a,b)=(16,65536,65536)∨(r,a,b)=(12,4096,1048576)∨(r,a,b)=(8,256,16777216)∨(r,a,b)=(7,128,33554432)):Calls prog 353 #[.int .u32 x,.int .u64 r] w fun e w'=>e=.returned (.int .u32 (rotI x a b))/\w=w':=by
 simp only[Prod.mk.injEq]at h;rcases h with⟨rfl,rfl,rfl⟩|⟨rfl,rfl,rfl⟩|⟨rfl,rfl,rfl⟩|⟨rfl,rfl,rfl⟩;all_goals
 go_enter func353,ntmps353;go_wp2;go_ret;exact⟨rfl,rfl⟩
theorem digit_any (w:World) (c:Nat) (h:48<=c/\c<=57∨97<=c/\c<=102):Calls prog 301 #[.int .u8 (c:Int)] w fun e w'=>e=.returned (.int .i64 (((if 97<=c then c-87 else c-48:Nat)):Int))/\w=w':=by
 by_cases h9:97<=c;{
 rw[if_pos h9];have f1:(97:Int)<=c:=by omega
 obtain⟨j,hj⟩:=zNm (c-87);have f2:(c:Int)-87=j:=by omega
 rw[hj];go_enter func301,ntmps301;go_wp2;go_ret;exact⟨rfl,rfl⟩};{
 rw[if_neg h9];have f1:¬(97:Int)<=c:=by omega
 obtain⟨j,hj⟩:=zNm (c-48);have f2:(c:Int)-48=j:=by omega
 rw[hj];go_enter func301,ntmps301;go_wp2;go_ret;exact⟨rfl,rfl⟩}
end
end Go.Proofs.YthgenkkkapilhaaGreatDoor
namespace Go.Proofs.YthgenkkkapilhaaGreatDoor.rangeStr
open Go.Proofs.Tryz
section
open Go.RowKit Go.Proofs.YthgenkkkapilhaaGreatDoor.rangeOwn
theorem wpIn_rangeFunc_str {α:Type} {P:Program} {g:Operand} {ps:Array Tmp} {assign body:Code} {Q:Exit->Act->World->Prop} {a:Act} {w:World}
  {gf:Nat} {lb:Array Value} (hg:a.eval g=.func (.func gf) #[] lb) (eg:∀args w,(callFunc gf args).run P w=.ok (.enter gf args) w)
  {Rd:α->Array Value->World->Prop} {old:Nat->Prop} {xs:List α} (hseq:IterStr P gf lb Rd old xs w)
  (hps:∀x args W,Rd x args W->args.size=ps.size) (hRd:∀x args A B,Rd x args A->rangeOwn.Aside No w.heap.size A B->Rd x args B)
  (I:List α->World->Prop) (hI:∀s A B,I s A->w.heap.size<=A.heap.size->rangeOwn.Aside No w.heap.size A B->I s B) (h0:I [] w) (a₁:Array Value->Act)
  (hassign:∀(l:Nat) (x:α) (args:Array Value) (W:World) (K:Act->World->Prop),Rd x args W->K (a₁ args) W ->
   assign.wpIn (Fence.wide.inRound l) 0 P (Exit.then K (fun _ _ _=>False)) { tmps:=(ps.zip args).foldl (fun t (p,v)=>t.setIfInBounds p v) a.tmps,defers:=[] } W)
  (hbody:∀(l:Nat) (pre:List α) (x:α) (args:Array Value) (W:World),w.heap.size+2<=W.heap.size->I pre W->Rd x args W->(pre++[x]) <+: xs ->
   body.wpIn (Fence.wide.inRound l) 0 P (goesOn old I (pre++[x]) W) (a₁ args) W)
  (hdone:∀(D:Nat) (W:World),w.heap.size<=D->I xs W->W.heap[D]?=some (.deferred (some []))->Q .normal { a with defers:={ target:=.collected D,args:= #[] }::a.defers } W):
  (Code.rangeFunc g ps assign body).wpIn Fence.wide 0 P Q a w:=by
 refine wpIn_rangeFunc ?_;intro fn _;obtain⟨rec,hrec⟩:∃rec:LoopState->Option Code->Loop,rec=fun st pe=>{ state:=st,pending:=pe,fn,tmps:=a.tmps,params:=ps,assign,body,defers:=w.heap.size }:=⟨_,rfl⟩;obtain⟨W1,hW1⟩:=zNm ((w.alloc (.deferred (some []))).alloc (.loop (rec .ready none)));have hs1:W1.heap.size=w.heap.size+2:=by rw[<-hW1];simp
 have hL1:W1.heap[w.heap.size+1]?=some (.loop (rec .ready none)):=by rw[<-hW1];have:=World.alloc_heap_new (w.alloc (.deferred (some []))) (.loop (rec .ready none));rwa [World.size_alloc]at this
 have hK1:W1.heap[w.heap.size]?=some (.deferred (some [])):=by rw[<-hW1];exact(Below.heap_alloc _ _ _ (by simp)).trans (World.alloc_heap_new w _)
 have hb1:Below w.heap.size w W1:=by rw[<-hW1];exact((Below.refl _ w).alloc (Nat.le_refl _) _).alloc (by simp) _
 have hI1:I [] W1:=hI _ _ _ h0 (Nat.le_refl _) (rangeOwn.Aside.of_below hb1 (Nat.le_refl _));refine⟨w.heap.size+1,[{ target:=.collected w.heap.size,args:= #[] }],W1,{ target:=.fn (.func gf) lb,args:= #[.func (.yield (w.heap.size+1)) #[] #[]] },W1,gf,
  #[.func (.yield (w.heap.size + 1)) #[] #[]] ++ lb, W1, ?_, ?_, fun _ _ => trivial, ?_, (fun h => by cases h), ?_⟩;{rw[<-hW1,hrec];exact run_enterLoop_outer _ _ _ _ _};{
 simp only[resolve,hg];simp[go_sem]};{simp[invoke,go_sem,eg]};{
 refine(hseq (w.heap.size+1)
  (fun pre W=>w.heap.size+2<=W.heap.size/\I pre W/\W.heap[w.heap.size+1]?=some (.loop (rec .ready none))/\W.heap[w.heap.size]?=some (.deferred (some [])))
  W1 hb1 (fun s A B hs hsz hAB=>⟨Nat.le_trans hs.1 hAB.size,hI _ _ _ hs.2.1 (by omega) (hAB.mono (by omega)),(hAB.low _ (by omega) (fun h=>h)).trans hs.2.2.1,(hAB.low _ (by omega) (fun h=>h)).trans hs.2.2.2⟩)
  ?_ ⟨by omega,hI1,hL1,hK1⟩).mono ?_;{
 rintro pre x args W ⟨hsz,hi,hl,hk⟩ hrd hpre;have hy:=run_yield (P:=P) (args:=args) hl (by rw[hrec];exact hps x args W hrd);rw[hrec]at hy;refine⟨fn,_,assign,body,hy,roundIn_of_wpIn trivial (hassign _ x args W _ hrd ⟨_,run_beginRound hl (by rw[hrec]),?_⟩)⟩;obtain⟨W2,hW2⟩:=zNm (W.putObj (w.heap.size+1) (.loop { rec .ready none with state:=.busy }));have hA2:rangeOwn.Aside No w.heap.size W W2:=by rw[<-hW2];exact rangeOwn.Aside.putObj _ (by omega) hl rfl
 have hl2:W2.heap[w.heap.size+1]?=some (.loop { rec .ready none with state:=.busy }):=by rw[<-hW2];exact World.putObj_heap_same (by omega)
 have hk2:W2.heap[w.heap.size]?=some (.deferred (some [])):=by rw[<-hW2];exact(World.putObj_heap_other (by omega)).trans hk
 have hs2:W2.heap.size=W.heap.size:=by rw[<-hW2];simp
 rw[hW2];refine wpIn_mono (hbody _ pre x args W2 (by omega) (hI _ _ _ hi (by omega) hA2) (hRd _ _ _ _ hrd hA2) hpre) ?_;rintro e a3 W3 hp;cases e with
 |normal=>(
 obtain⟨hk3,hi3⟩:=hp;have hl3:W3.heap[w.heap.size+1]?=some (.loop { rec .ready none with state:=.busy }):=hk3.2 _ _ hl2 (.inl rfl);have hd3:W3.heap[w.heap.size]?=some (.deferred (some [])):=hk3.2 _ _ hk2 (.inl rfl);have hs3:=hk3.1;have hr:=run_endRound (P:=P) none hl3;rw[hrec]at hr;have hA4:rangeOwn.Aside No w.heap.size W3 (W3.putObj (w.heap.size+1) (.loop (rec .ready none))):=rangeOwn.Aside.putObj _ (by omega) hl3 rfl;rw[hrec]at hA4;refine⟨_,_,hr,rfl,⟨by simp;omega,hI _ _ _ hi3 (by omega) hA4,?_,?_⟩,by simp;omega,fun k o hko hkS=>?_⟩;{rw[hrec];exact World.putObj_heap_same (by omega)};{exact(World.putObj_heap_other (by omega)).trans hd3};{
 by_cases hkne:k=w.heap.size+1;{
 subst hkne;rw[hl]at hko;rw[<-hko,hrec];exact World.putObj_heap_same (by omega)};{
 refine(World.putObj_heap_other hkne).trans (hk3.2 k o ?_ hkS);rw[<-hW2];exact(World.putObj_heap_other hkne).trans hko}})
 |_=>exact hp.elim};{
 rintro e W2 ⟨⟨v,rfl⟩,hsz,hi,hl,hk⟩;refine⟨none,_,by have:=run_endLoop (P:=P) hl (by rw[hrec];simp);rw[hrec]at this;exact this,hdone _ _ (Nat.le_refl _) (hI _ _ _ hi (by omega) (rangeOwn.Aside.putObj _ (by omega) hl rfl)) ((World.putObj_heap_other (by omega)).trans hk)⟩}}
end
end Go.Proofs.YthgenkkkapilhaaGreatDoor.rangeStr
namespace Go.Proofs.YthgenkkkapilhaaGreatDoor
open Go.Proofs.Tryz
section
open Go.RowKit
theorem vint {k:IntKind} {a b:Int} (h:a=b):Value.int k a=Value.int k b:=by rw[h]
theorem byC_quo (b:Nat):∀j,j<8->byC b j=48+b/(128/2^j)%2:=by
 intro j hj;unfold byC;rcases (by omega:j=0∨j=1∨j=2∨j=3∨j=4∨j=5∨j=6∨j=7)with rfl|rfl|rfl|rfl|rfl|rfl|rfl|rfl<;>rfl
theorem half_pow (j:Nat):128/2^j/2=128/2^(j+1):=by rw[Nat.div_div_eq_div_mul,Nat.pow_succ]
theorem half_pos {j:Nat} (hj:j<8):0<128/2^j/\128/2^j<=128:=by
 rcases (by omega:j=0∨j=1∨j=2∨j=3∨j=4∨j=5∨j=6∨j=7)with rfl|rfl|rfl|rfl|rfl|rfl|rfl|rfl<;>decide
theorem byCs_take {b j:Nat} (hj:j<8):(byCs b).take j++[byC b j]=(byCs b).take (j+1):=by
 rw[List.take_succ_eq_append_getElem (by rw[byCs_len];exact hj)];congr 2;unfold byCs;simp
theorem bs_take_snoc (s:ByteArray) {i:Nat} (h:i<s.size):(bs s).take (i+1)=(bs s).take i++[(s[i]'h).toNat]:=by
 rw[List.take_succ_eq_append_getElem (by rw[bs_len];exact h)];congr 2;exact Option.some.inj ((List.getElem?_eq_getElem _).symm.trans (bs_get s i h))
theorem rfrom_any (w:World) (s:ByteArray) (hs:s.size<=1000):Calls prog 173 #[.string s] w fun e w'=>e=.returned (.string (strB (frmB (bs s))))/\Below w.heap.size w w':=by
 have HK0:Hid ((w.alloc (.cells #[] 5)).ownsRow w.heap.size 5 1 (.slice (some ⟨w.heap.size,0,none⟩) 0 0) 0 (([]:List Nat).map u8V)):=zY (own_empty w 5 1);have HB0:=zY (zBl w (.cells #[] 5));go_enter func173,ntmps173;go_wp2;go_loopw [3,4] (fun v x wr=>∃i:Nat,i<=s.size/\x=.int .i64 i/\wr.ownsRow w.heap.size 5 1 v (8*i) ((frmB ((bs s).take i)).map u8V)/\Below w.heap.size w wr) (fun _ x _=>s.size-(intOf x).toNat);case atStart=>exact⟨0,by omega,rfl,HK0.out,HB0.out⟩
 case round=>
 obtain⟨i,hi,rfl,ho,hB⟩:=hrel;have Ho:=zY ho;have HBr:=zY hB;clear ho hB HK0 HB0;by_cases h:i<s.size;{
 have hiI:(i:Int)<s.size:=by omega
 have Hsn:=zY (bs_take_snoc s h);obtain⟨b,hb⟩:=zNm ((s[i]'h).toNat);have hb2:b<256:=by rw[<-hb];exact(s[i]'h).toNat_lt
 rw[hb]at Hsn;go_wp2;go_loopw [3,5] (fun v y wr=>∃j:Nat,j<=8/\y=.int .i64 ((128/2^j:Nat):Int)/\wr.ownsRow w.heap.size 5 1 v (8*i+j) ((frmB ((bs s).take i)++(byCs b).take j).map u8V)/\Below w.heap.size w wr) (fun _ y _=>(intOf y).toNat);case atStart=>exact⟨0,by omega,rfl,by simpa using Ho.out,HBr.out⟩
 case round=>
 obtain⟨j,hj,rfl,ho,hB⟩:=hrel;clear Ho HBr;have Ho:=zY ho;have HBr:=zY hB;clear ho hB;have Hp:=zY (half_pow j);by_cases h':j<8;{
 obtain⟨hK0,hK1⟩:=half_pos h';have hq0:=byC_quo b j h';have Ht:=zY (byCs_take (b:=b) h');obtain⟨K,hK⟩:=zNm (128/2^j);rw[hK]at hK0 hK1 hq0 Hp⊢;clear hK;have hKI:(0:Int)<K:=by omega
 have hdv:(0:Int)<=(b:Int)/K:=Int.ediv_nonneg (by omega) (by omega);have hdl:(b:Int)/K<=255:=Int.le_trans (Int.ediv_le_self _ (by omega)) (by omega);have hn9:8*i+j<=900000:=by omega
 have hBz:=HBr.size;have hcast:(b:Int)/K%2=((b/K%2:Nat):Int):=rfl;rcases (by omega:b/K%2=0∨b/K%2=1)with e|e;{
 rw[e]at hcast hq0;have Hq0:=zY hq0;clear e hq0;have hcast:(b:Int)/K%2=0:=hcast;go_wp2_with (at_builtin;refine wpList_app1 (x:=48) rfl _ _ rfl rfl rfl Ho.out hn9 hBz ?_;intro v1 w1 ho1 hb1);go_roundw;case rel=>refine⟨j+1,by omega,vint (by rw[<-Hp.out];rfl),?_,HBr.trans hb1⟩;rw[<-Ht.out,Hq0.out,<-List.append_assoc];exact ho1
 case measure=>simp[intOf];omega};{
 rw[e]at hcast hq0;have Hq0:=zY hq0;clear e hq0;have hcast:(b:Int)/K%2=1:=hcast;go_wp2_with (at_builtin;refine wpList_app1 (x:=49) rfl _ _ rfl rfl rfl Ho.out hn9 hBz ?_;intro v1 w1 ho1 hb1);go_roundw;case rel=>refine⟨j+1,by omega,vint (by rw[<-Hp.out];rfl),?_,HBr.trans hb1⟩;rw[<-Ht.out,Hq0.out,<-List.append_assoc];exact ho1
 case measure=>simp[intOf];omega}};{
 obtain rfl:j=8:=by omega
 have Hf:=zY (frmB_snoc ((bs s).take i) b);go_wp2;go_roundw;case rel=>refine⟨i+1,by omega,by go_num,?_,HBr.out⟩;rw[Hsn.out,Hf.out];have h8:=Ho.out;rw[List.take_of_length_le (l:=byCs b) (by rw[byCs_len];exact Nat.le_refl _)]at h8;exact h8
 case measure=>simp[intOf];omega}};{
 obtain rfl:i=s.size:=by omega
 have ho:=Ho.out;rw[List.take_of_length_le (by rw[bs_len];exact Nat.le_refl _)]at ho;obtain⟨A,c,rfl⟩:∃A c,_=Value.slice A _ c:=by obtain⟨A,c,e,_⟩:=BytesAt.of_own ho;exact⟨A,c,e⟩
 have hcv:=run_toStr (BytesAt.of_own ho) rfl;go_wp2;go_ret;exact⟨rfl,HBr.out⟩}
def ordL (n:Nat):List Nat:=(List.range n).map uil
theorem ordL_succ (n:Nat):ordL (n+1)=ordL n++[uil n]:=by unfold ordL;rw[List.range_succ,List.map_append];rfl
theorem ordL_len (n:Nat):(ordL n).length=n:=by unfold ordL;rw[List.length_map,List.length_range]
def rowAt (r:Nat):Nat:=r*104+min r 4
theorem min4 (r:Nat):min r 4=r/\r<=4∨min r 4=4/\4<=r:=by
 rcases Nat.le_total r 4 with h|h;{exact .inl ⟨Nat.min_eq_left h,h⟩};{exact .inr ⟨Nat.min_eq_right h,h⟩}
theorem uil_row {r q:Nat} (hr:r<8) (h:r+8*q<836):uil (rowAt r+q)=r+8*q:=by
 have e:rowAt r+q=ilv (r+8*q):=by unfold rowAt ilv;rw[show (r+8*q)%8=r by omega,show (r+8*q)/8=q by omega]
 rw[e,uil_ilv h]
theorem rowAt_end {r q:Nat} (hr:r<8) (h:r+8*q=836):rowAt r+q=rowAt (r+1):=by
 have h1:=min4 r;have h2:=min4 (r+1);unfold rowAt;omega
theorem rowAt_last {r q:Nat} (hr:r<8) (h:828<r+8*q) (h':r+8*q<836):rowAt r+(q+1)=rowAt (r+1):=by
 have h1:=min4 r;have h2:=min4 (r+1);unfold rowAt;omega
theorem rowAt_le {r q:Nat} (hr:r<8) (h:r+8*q<=836):rowAt r+q<=836:=by
 have h1:=min4 r;unfold rowAt;omega
theorem rorder_any (w:World):Calls prog 262 #[.int .i64 836,.int .i64 8] w fun e w'=>∃v,e=.returned v/\SlAt (PlainR natV) w' v (ordL 836)/\Below w.heap.size w w':=by
 have HK0:Hid ((w.alloc (.cells #[] 3)).ownsRow w.heap.size 3 1 (.slice (some ⟨w.heap.size,0,none⟩) 0 0) (rowAt 0) ((ordL (rowAt 0)).map natV)):=zY (own_empty w 3 1);have HB0:=zY (zBl w (.cells #[] 3));go_enter func262,ntmps262;go_wp2;go_loopw [5,6] (fun v x wr=>∃r:Nat,r<=8/\x=.int .i64 (r:Int)/\wr.ownsRow w.heap.size 3 1 v (rowAt r) ((ordL (rowAt r)).map natV)/\Below w.heap.size w wr) (fun _ x _=>8-(intOf x).toNat);case atStart=>exact⟨0,by omega,rfl,HK0.out,HB0.out⟩
 case round=>
 obtain⟨r,hr,rfl,ho,hB⟩:=hrel;have Ho:=zY ho;have HBr:=zY hB;clear ho hB HK0 HB0;by_cases h:r<8;{
 have hrI:(r:Int)<8:=by omega
 have hrJ:(r:Int)<836:=by omega
 go_wp2;go_loopw [5,7] (fun v y wr=>∃q i:Nat,i<=836/\i=r+8*q/\y=.int .i64 (i:Int)/\wr.ownsRow w.heap.size 3 1 v (rowAt r+q) ((ordL (rowAt r+q)).map natV)/\Below w.heap.size w wr) (fun _ y _=>836-(intOf y).toNat);case atStart=>exact⟨0,r,by omega,by omega,rfl,Ho.out,HBr.out⟩
 case round=>
 obtain⟨q,i,hi,hq,rfl,ho,hB⟩:=hrel;clear Ho HBr;have Ho:=zY ho;have HBr:=zY hB;have Hq:=zY hq;have hBz:=HBr.size;have hle:rowAt r+q<=900000:=by have:=rowAt_le (r:=r) (q:=q) h (by omega);omega
 clear ho hB;by_cases h':i<836;{
 have hiI:(i:Int)<836:=by omega
 have Hu:Hid (ordL (rowAt r+(q+1))=ordL (rowAt r+q)++[i]):=zY (by rw[<-Nat.add_assoc,ordL_succ,uil_row h (by omega),<-hq]);by_cases hb:828<i;{
 have hbI:(828:Int)<i:=by omega
 have Hl:=zY (rowAt_last (q:=q) h (by omega) (by omega));clear hq;go_wp2_with (at_builtin;refine wpList_appOne underlying65 Tryz.infoInt rfl (by omega) rfl _ _ rfl rfl rfl rfl Ho.out hle hBz ?_;intro v1 w1 ho1 hb1);go_roundw;case rel=>refine⟨r+1,by omega,by go_num,?_,HBr.trans hb1⟩;rw[<-Hl.out,Hu.out,List.map_append];exact ho1
 case measure=>simp[intOf];omega};{
 have hbI:¬(828:Int)<i:=by omega
 clear hq;go_wp2_with (at_builtin;refine wpList_appOne underlying65 Tryz.infoInt rfl (by omega) rfl _ _ rfl rfl rfl rfl Ho.out hle hBz ?_;intro v1 w1 ho1 hb1);go_roundw;case rel=>refine⟨q+1,i+8,by omega,by have:=Hq.out;omega,by go_num,?_,HBr.trans hb1⟩;rw[Hu.out,List.map_append];exact ho1
 case measure=>simp[intOf];omega}};{
 have hiI:¬(i:Int)<836:=by omega
 have Hl:=zY (rowAt_end (q:=q) h (by omega));clear hq;go_wp2;go_roundw;case rel=>exact⟨r+1,by omega,by go_num,by rw[<-Hl.out];exact Ho.out,HBr.out⟩
 case measure=>simp[intOf];omega}};{
 obtain rfl:r=8:=by omega
 have Hv:=zY (SlAt.of_own Ho.out);go_wp2;go_ret;exact⟨_,rfl,Hv.out,HBr.out⟩}
theorem interL_take (l:List Nat) (k:Nat) (h:k<836):(interL l).take (k+1)=(interL l).take k++[cf l (uil k)]:=by
 have hk:k<(interL l).length:=by rw[interL_len];exact h
 have h2:cf (interL l) k=(interL l)[k]:=cf_get (List.getElem?_eq_getElem hk);have h3:cf (interL l) k=cf l (uil k):=by unfold interL;rw[cf_map,if_pos h]
 rw[List.take_succ_eq_append_getElem hk,<-h2,h3]
theorem rinter_any (w:World) (s:ByteArray) (hs:s.size=836):Calls prog 178 #[.string s,.int .i64 8] w fun e w'=>e=.returned (.tuple #[.string (strB (interL (bs s))),.int .i64 0])/\Below w.heap.size w w':=by
 go_enter func178,ntmps178;go_upto_region 4 with(go_at_call 262;refine(rorder_any _).mono ?_;rintro e w1 ⟨v1,rfl,hv1,hb1⟩)
 have Hv:=zY hv1;obtain⟨A1,c1,rfl,k1,k2,k3⟩:=hv1;rw[ordL_len]at k1;have HK0:Hid ((w1.alloc (.cells #[] 5)).ownsRow w1.heap.size 5 1 (.slice (some ⟨w1.heap.size,0,none⟩) 0 0) 0 (([]:List Nat).map u8V)):=zY (own_empty w1 5 1);have HB0:=zY (zBl w1 (.cells #[] 5));have HB1:=zY hb1;clear k3 hb1;rw[ordL_len];go_wp2;go_loopw [7,8] (fun v x wr=>∃k:Nat,k<=836/\x=.int .i64 (k:Int)/\wr.ownsRow w1.heap.size 5 1 v k (((interL (bs s)).take k).map u8V)/\Below w1.heap.size w1 wr) (fun _ x _=>836-(intOf x).toNat);case atStart=>exact⟨0,by omega,rfl,HK0.out,HB0.out⟩
 case round=>
 obtain⟨k,hk,rfl,ho,hB⟩:=hrel;clear HK0 HB0;have Ho:=zY ho;have HBr:=zY hB;have hBz:=HBr.size;clear ho hB;by_cases h:k<836;{
 have hkI:(k:Int)<836:=by omega
 have hu:=(ilv_uil h).2;obtain⟨b,o,rfl,hc⟩:=SlAt.cell (SlAt.keep Hv.out (fun _ _=>cell_below HBr.out) plainR_keep) (i:=k) (x:=uil k) (by unfold ordL;rw[List.getElem?_map,List.getElem?_range h];rfl);have Ht:=zY (interL_take (bs s) k h);have hle:k<=900000:=by omega
 generalize uil k=u at *;have huI:(u:Int)<s.size:=by omega
 have hus:u<s.size:=by omega
 have Hx:=zY (bs_cf s u hus);go_wp2_with (at_builtin;refine wpList_app1 rfl _ _ rfl rfl rfl Ho.out hle hBz ?_;intro v1 w2 ho1 hb1);go_roundw;case rel=>refine⟨k+1,by omega,by go_num,?_,HBr.trans hb1⟩;rw[Ht.out,Hx.out];exact ho1
 case measure=>simp[intOf];omega};{
 obtain rfl:k=836:=by omega
 have ho:=Ho.out;rw[List.take_of_length_le (by rw[interL_len];exact Nat.le_refl _)]at ho;have hv:=BytesAt.of_own ho;obtain⟨A,c,rfl,j1,j2,j3⟩:=BytesAt.of_own ho;have hcs:=run_toStr hv rfl;clear j3;rw[interL_len]at hcs⊢;clear hv ho;go_wp2;go_ret2;exact⟨rfl,HB1.trans (HBr.mono HB1.size)⟩}
theorem run_app2 {W:World} {B n:Nat} {v:Value} {xs:List Nat} (ty:TypeId) (x y:Nat) (hown:W.ownsRow B 5 1 v n (xs.map u8V)) (hn:n<=900000) (hB:B<=W.heap.size):
  ∃v' w',(Builtin.append_ #[117,117] ty #[v,.slice (some ⟨W.heap.size,0,none⟩) 2 2]).run prog (W.alloc (.cells #[.int .u8 (x:Int),.int .u8 (y:Int)] 5))=.ok v' w'/\w'.ownsRow B 5 1 v' (n+2) ((xs++[x,y]).map u8V)/\Below B W w':=by
 have hb:BytesAt (W.alloc (.cells #[.int .u8 (x:Int),.int .u8 (y:Int)] 5)) (.slice (some ⟨W.heap.size,0,none⟩) 2 2) [x,y]:=U8B.bytes (U8B.new W [x,y]) rfl (Nat.le_refl _) (by omega);obtain⟨v',w',hr,h1,h2,_⟩:=run_appendV (W.alloc (.cells #[.int .u8 (x:Int),.int .u8 (y:Int)] 5)) underlying117 Tryz.infoU8 rfl (by omega) B ty v n _ (hown.alloc _) _ [u8V x,u8V y] hb.vAt (one_u8s [x,y]) (by simp;omega) (by simp;omega);refine⟨v',w',hr,by simpa using h1,?_⟩;exact((Below.refl _ _).alloc hB _).grown h2 (by simp;omega) (own_ge hown)
theorem wpList_app2 {ops:Array Oper} {rest:List Oper} {o:Oper} {a:Act} {Q:Exit->Act->World->Prop} {W:World} {B n:Nat} {v:Value} {xs:List Nat} {x y:Nat} (hw:Region.wanted o (yielded ops a.tmps)=true) (s z:Operand) (ho:o.op=.call { callee:=.builtin .append,args:= #[s,z],argTypes:= #[117,117] })
  (hs:a.eval s=v) (hy:a.eval z=.slice (some ⟨W.heap.size,0,none⟩) 2 2) (hown:W.ownsRow B 5 1 v n (xs.map u8V)) (hn:n<=900000) (hB:B<=W.heap.size)
  (h:∀v' w',w'.ownsRow B 5 1 v' (n+2) ((xs++[x,y]).map u8V)->Below B W w'->wpList prog ops Q rest (a.put o.dst v') w'):wpList prog ops Q (o::rest) a (W.alloc (.cells #[.int .u8 (x:Int),.int .u8 (y:Int)] 5)):=
 wpList_step fun K hK=>by
  simp only[hw,if_true]
  obtain⟨v',w',hr,g1,g2⟩:=run_app2 o.type x y hown hn hB
  unfold Oper.wp execOp
  simp only[ho,resolve,invoke,builtin,Sem.run_bind,Sem.run_pure,Result.andThen_ok,List.map_toArray,List.map_cons,List.map_nil,hs,hy,hr]
  exact hK _ _ (h v' w' g1 g2)
theorem own_room (w:World) (c:Nat) (hc:c<=1000000):(w.alloc (.cells (arrB (List.replicate c 0)) 5)).ownsRow w.heap.size 5 1 (.slice (some ⟨w.heap.size,0,none⟩) 0 c) 0 []:=
 ⟨by simp,.inr ⟨w.heap.size,c,arrB (List.replicate c 0),rfl,Nat.le_refl _,by show (w.heap.push _)[w.heap.size]?=_;simp,Nat.zero_le _,Nat.le_trans hc (by decide),by simp[arrB],by simp⟩⟩
theorem own_kept {w w':World} {B n:Nat} {t:TypeId} {v:Value} {xs:List Value} (h:w.ownsRow B t 1 v n xs) (hb:Below w.heap.size w w'):w'.ownsRow B t 1 v n xs:=by
 obtain⟨hl,h⟩:=h;refine⟨hl,h.imp id ?_⟩;rintro⟨g,cap,cur,e,hB,hg,r⟩;exact⟨g,cap,cur,e,hB,(hb.block g (Array.getElem?_eq_some_iff.1 hg).1).trans hg,r⟩
theorem bitsS_48 {u:List Nat} (h:Bits u):B01 (bitsS u):=fun c hc=>by
 obtain⟨x,hx,rfl⟩:=List.mem_map.1 hc
 have:=h x hx
 omega
def preB (f:List Nat) (j:Nat):Nat:=cf (0::0::f) j
theorem preB_lt {f:List Nat} (h:Bits f) (j:Nat):preB f j<2:=by
 unfold preB cf;match j with
 |0=>exact(by omega:(0:Nat)<2)
 |1=>exact(by omega:(0:Nat)<2)
 |j+2=>
 show ((f[j]?).getD 0)<2;cases e:f[j]? with
 |none=>exact(by omega:(0:Nat)<2)
 |some x=>exact h x (List.mem_of_getElem? e)
theorem take_snoc_cf {f:List Nat} {j:Nat} (hj:j<f.length):f.take (j+1)=f.take j++[cf f j]:=by
 rw[List.take_succ_eq_append_getElem hj,cf_get (List.getElem?_eq_getElem hj)]
theorem cst_pre {f:List Nat} (h:Bits f):∀j,j<=f.length->cst 0 (f.take j)=2*preB f (j+1)+preB f j
 |0,_=>rfl
 |j+1,hj=>by
  have ih:=cst_pre h j (by omega)
  have hb:=preB_lt h j
  rw[take_snoc_cf (by omega),cst_append,ih]
  show cnx _ (cf f j)=_
  unfold cnx
  have e:preB f (j+1+1)=cf f j:=rfl
  omega
theorem cenc_pre {f:List Nat} (h:Bits f) {j:Nat} (hj:j<f.length):
  cenc 0 (f.take (j+1))=cenc 0 (f.take j)++[48+(preB f (j+2)+preB f (j+1)+preB f j)%2,48+(preB f (j+2)+preB f j)%2]:=by
 have h1:=preB_lt h j;have h2:=preB_lt h (j+1);rw[take_snoc_cf hj,cenc_append,cst_pre h j (by omega)];have e:preB f (j+2)=cf f j:=rfl;congr 1;show [co1 _ _,co2 _ _]=_;unfold co1 co2;rw[e,show (2*preB f (j+1)+preB f j)/2=preB f (j+1) by omega,show (2*preB f (j+1)+preB f j)%2=preB f j by omega]
theorem rcenc_any (w:World) (s:ByteArray) (u:List Nat) (hs:bs s=bitsS u) (hu:Bits u) (hl:u.length<=1000):
  Calls prog 177 #[.string s] w fun e w'=>e=.returned (.tuple #[.string (strB (cenc 0 (u++[0,0]))),.int .i64 0])/\Below w.heap.size w w':=by
 have hsz:s.size=u.length:=by rw[<-bs_len,hs,bitsS_len]
 have hf:Bits (u++[0,0]):=fun x hx=>by
  rcases List.mem_append.1 hx with hx|hx
  ·exact hu x hx
  ·simp at hx;omega
 have hch:∀i (h:i<s.size),(s[i]'h).toNat=48∨(s[i]'h).toNat=49:=fun i h=>by
  rw[<-bs_cf s i h,hs]
  have h1:i<(bitsS u).length:=by rw[bitsS_len];omega
  rw[cf_get (List.getElem?_eq_getElem h1)]
  exact bitsS_48 hu _ (List.getElem_mem h1)
 obtain⟨L,hL⟩:=zNm ((⟨#[48,48]⟩:ByteArray)++s++⟨#[48,48]⟩);have hLz:L.size=s.size+4:=by rw[<-hL,ByteArray.size_append,ByteArray.size_append];show 2+s.size+2=_;omega
 have hLb:bs L=48::48::bitsS (u++[0,0]):=by{
 rw[<-hL,<-strB_bs s,hs];rw[show (⟨#[48,48]⟩:ByteArray)=strB [48,48] from rfl,strB_cat,strB_cat,bs_strB];{
 unfold bitsS;rw[List.map_append];rfl};{
 intro b hb;rcases List.mem_append.1 hb with hb|hb;{
 rcases List.mem_append.1 hb with hb|hb;{simp at hb;omega};{have:=bitsS_48 hu b hb;omega}};{simp at hb;omega}}};have hpb:∀i (h:i<L.size),(L[i]'h).toNat=48+preB (u++[0,0]) i:=fun i h=>by
  rw[<-bs_cf L i h,hLb]
  have e:(48::48::bitsS (u++[0,0]))=(0::0::(u++[0,0])).map (48+·):=rfl
  have h1:i<(0::0::(u++[0,0])).length:=by simp;omega
  rw[e]
  unfold cf preB cf
  rw[List.getElem?_map,List.getElem?_eq_getElem h1]
  rfl
 obtain⟨n,hn⟩:=zNm (s.size);have Hch:=zY hch;have Hpb:=zY hpb;have Hf:=zY hf;obtain⟨f,hfe⟩:=zNm (u++[0,0]);have hfl:f.length=n+2:=by rw[<-hfe,List.length_append,<-hn,hsz];rfl
 rw[hfe]at Hf Hpb⊢;have Hfl:=zY hfl;have hn9:s.size<=1000:=by omega
 have Hn:=zY hn;have hmk:∀W:World,(Instr.makeSlice 117 (.int .i64 0) (.int .i64 (2*(s.size:Int)+4))).run prog W=.ok (.slice (some ⟨W.heap.size,0,none⟩) 0 (2*s.size+4)) (W.alloc (.cells (arrB (List.replicate (2*s.size+4) 0)) 5)):=make_u8 0 (2*s.size+4) (by omega) (by omega);have x00:bits .xor .u8 0 0=0:=by decide
 have x01:bits .xor .u8 0 1=1:=by decide
 have x10:bits .xor .u8 1 0=1:=by decide
 have x11:bits .xor .u8 1 1=0:=by decide
 have HLz:=zY hLz;clear hs hu hl hsz hf hch hLb hpb hfe hfl hn hLz;go_enter func177,ntmps177;go_wp2;go_loop [4] (fun x=>∃k:Nat,k<=s.size/\x=.int .i64 (k:Int)) (fun x=>s.size-(intOf x).toNat);case atStart=>exact⟨0,by omega,rfl⟩
 case round=>
 obtain⟨k,hk,rfl⟩:=hrel;by_cases h:k<s.size;{
 have hkI:(k:Int)<s.size:=by omega
 rcases Hch.out k h with hx|hx;all_goals
 clear hL;go_wp2;go_round;case rel=>exact⟨k+1,by omega,by go_num⟩
 case measure=>simp[intOf];omega};{
 have hkI:¬(k:Int)<s.size:=by omega
 have hLz:=HLz.out;go_wp2;clear hL hLz hmk;go_loopw [6,7] (fun v x wr=>∃i j:Nat,i=j+2/\j<=s.size+2/\x=.int .i64 (i:Int)/\wr.ownsRow w.heap.size 5 1 v (2*j) ((cenc 0 (f.take j)).map u8V)/\Below w.heap.size w wr) (fun _ x _=>s.size+4-(intOf x).toNat);case atStart=>exact⟨2,0,rfl,by omega,rfl,own_room w _ (by omega),(Below.refl _ _).alloc (Nat.le_refl _) _⟩
 case round=>
 obtain⟨i,j,hij,hj,rfl,ho,hB⟩:=hrel;have Ho:=zY ho;have HBr:=zY hB;have hBz:=HBr.size;have Hij:=zY hij;have hi2:2<=i:=by omega
 have hi9:i<=1004:=by omega
 have hn8:2*j<=900000:=by omega
 clear ho hB hij;by_cases h:i<L.size;{
 have hiI:(i:Int)<L.size:=by omega
 have hs1:IntKind.i64.wrap ((i:Int)-1)=(i:Int)-1:=zIw (by omega);have hs2:((i:Int)-1).toNat=i-1:=by omega
 have hs3:(0:Int)<=(i:Int)-1:=by omega
 have hs4:(i:Int)-1<L.size:=by omega
 have ht1:IntKind.i64.wrap ((i:Int)-2)=(i:Int)-2:=zIw (by omega);have ht2:((i:Int)-2).toNat=i-2:=by omega
 have ht3:(0:Int)<=(i:Int)-2:=by omega
 have ht4:(i:Int)-2<L.size:=by omega
 have ht5:i-2<L.size:=by omega
 have hs5:i-1<L.size:=by omega
 have hX:=Hpb.out i h;have hY:=Hpb.out (i-1) hs5;have hZ:=Hpb.out (i-2) ht5;have hij:=Hij.out;have hb0:=preB_lt Hf.out i;have hb1:=preB_lt Hf.out (i-1);have hb2:=preB_lt Hf.out (i-2);have hce:=cenc_pre Hf.out (j:=j) (by have:=Hfl.out;have:=HLz.out;have:=Hn.out;omega);rw[show j+2=i by omega,show j+1=i-1 by omega,show preB f j=preB f (i-2) by congr 1;omega]at hce;have hj2:j+1<=s.size+2:=by have:=HLz.out;omega
 generalize preB f i=b0 at *;generalize preB f (i-1)=b1 at *;generalize preB f (i-2)=b2 at *;rw[<-show j+1=i-1 by omega]at hce;have Hce:=zY hce;clear hce hij;rcases (by omega:b0=0∨b0=1)with rfl|rfl;all_goals rcases (by omega:b1=0∨b1=1)with rfl|rfl
 all_goals rcases (by omega:b2=0∨b2=1)with rfl|rfl
 all_goals
 clear hb0 hb1 hb2;go_wp2;go_quiet (fail);have Ho2:=zY (own_kept Ho.out (zBd (Below.refl _ _) nq));have HB2:=zY (zBd HBr.out nq);have hBz2:=HB2.size;clear Ho HBr hBz hs1 hs2 hs3 hs4 hs5 ht1 ht2 ht3 ht4 ht5 hX hY hZ;generalize wr.drewN nq=wd at *;go_wp2_with (at_builtin;refine wpList_app2 rfl _ _ rfl rfl rfl Ho2.out hn8 hBz2 ?_;intro v1 w1 ho1 hb1);go_roundw;case rel=>refine⟨i+1,j+1,by have:=Hij.out;omega,hj2,by go_num,?_,HB2.trans hb1⟩;rw[Hce.out];exact ho1
 case measure=>simp[intOf];have:=HLz.out;omega};{
 have hiI:¬(i:Int)<L.size:=by omega
 have ho:=Ho.out;have hj9:j=f.length:=by have:=Hfl.out;have:=HLz.out;have:=Hn.out;have:=Hij.out;omega
 rw[hj9,List.take_length]at ho;have hv:=BytesAt.of_own ho;obtain⟨A,c,rfl,j1,j2,j3⟩:=BytesAt.of_own ho;have hcs:=run_toStr hv rfl;clear j3 hv ho;go_wp2;go_ret2;exact⟨rfl,HBr.out⟩}}
theorem run_toBytesX (W:World) (s:ByteArray) (hs:s.size<=1000000):
  ∃c w1,(convert 9 117 (.string s)).run prog W=.ok (.slice (some ⟨W.heap.size,0,none⟩) s.size c) w1/\s.size<=c/\c<=9223372036854775807/\RowB w1 W.heap.size (bs s)/\Below W.heap.size W w1 /\
   ∀i,s.size<=i->i<c->w1.cell? ⟨W.heap.size,i,none⟩=some (.int .u8 0)/\w1.frozen? ⟨W.heap.size,i,none⟩=false:=by
 have hr:=run_bytes_of_string (P:=prog) W 9 117 5 s underlying9 underlying117 underlying5;obtain⟨c0,w0,hr0,h1,h2,h3,h4,_⟩:=run_toBytes W s hs;rw[hr]at hr0;injection hr0 with e1 e2;injection e1 with _ _ e3;subst e2;refine⟨_,_,hr,by rw[e3];exact h1,by rw[e3];exact h2,h3,h4,fun i hi hc=>?_⟩;generalize grownCap W s.size 0 5=c at *;have hh:(W.drew.alloc (.cells (bytesRow s c) 5 ((bytesRow s c).size,(bytesRow s c).size+1))).heap[W.heap.size]?=some (.cells (bytesRow s c) 5 ((bytesRow s c).size,(bytesRow s c).size+1)):=by show (W.heap.push _)[W.heap.size]?=_;simp
 have hsz:(bytesRow s c).size=c:=by unfold bytesRow;simp;omega
 refine⟨?_,?_⟩;{
 simp only[World.cell?,hh];unfold bytesRow;have hz:(s.data.map (fun b=>Value.int .u8 (b.toNat:Int))).size=s.size:=by simp
 rw[Array.getElem?_append_right (by rw[hz];exact hi),hz,Array.getElem?_replicate];exact if_pos (Nat.sub_lt_sub_right hi hc)};{
 simp only[World.frozen?,hh];simp;omega}
theorem setCells_low {w W:World} {H g:Nat} (h:Below H w W) (hg:H<=g):∀(vs:List Value) (o:Nat),Below H w (W.setCells g o vs):=by
 intro vs;induction vs generalizing W with
 |nil=>intro o;exact h
 |cons v r ih=>
 intro o;rw[World.setCells];exact ih (h.setCell (p:=⟨g,o,none⟩) hg v) (o+1)
theorem setCells_size (g:Nat):∀(vs:List Value) (o:Nat) (W:World),(W.setCells g o vs).heap.size=W.heap.size
 |[],_,_=>rfl
 |v::r,o,W=>by
  rw[World.setCells,setCells_size g r]
  simp
theorem zero8_cells:∀(n:Nat),Builtin.zeroCells (Value.int .u8 0).cells n=(List.replicate n (Value.int .u8 0)).toArray:=by
 intro n;unfold Builtin.zeroCells;refine Array.ext (by simp[Value.cells]) fun i h1 h2=>?_;simp[Value.cells,Nat.mod_one]
theorem cellsZ (xs:List Nat) (j x:Nat) (C:Array Value) (hj:(xs++List.replicate 8 0)[j]?=some x):((xs.map u8V).toArray++(List.replicate 8 (Value.int .u8 0)).toArray++C)[j]?=some (u8V x):=by
 have e:(xs.map u8V).toArray++(List.replicate 8 (Value.int .u8 0)).toArray=((xs++List.replicate 8 0).map u8V).toArray:=by rw[List.append_toArray,List.map_append,List.map_replicate];rfl
 have hl:=(List.getElem?_eq_some_iff.1 hj).1;rw[e,Array.getElem?_append_left (by rw[List.size_toArray,List.length_map];exact hl),List.getElem?_toArray,List.getElem?_map,hj];rfl
theorem run_appZ {W:World} {B g n c:Nat} {xs:List Nat} (ty:TypeId) (hrow:RowB W g xs) (hn:xs.length=n) (hn9:n<=1000) (hc:n<=c) (hc2:c<=9223372036854775807)
  (hfree:∀i,n<=i->i<c->W.cell? ⟨g,i,none⟩=some (.int .u8 0)/\W.frozen? ⟨g,i,none⟩=false) (hB:B<=g) (hB2:B<=W.heap.size):
  ∃g' c' w',(Builtin.append_ #[117,3] ty #[.slice (some ⟨g,0,none⟩) n c,.int .i64 8]).run prog W=.ok (.slice (some ⟨g',0,none⟩) (n+8) c') w' /\
   RowB w' g' (xs++List.replicate 8 0)/\n+8<=c'/\c'<=9223372036854775807/\B<=g'/\Below B W w':=by
 obtain⟨i,hi,hz0,hz1,hz2⟩:=info_parts Tryz.infoU8;have hw8:IntKind.i64.wrap 8=8:=by decide
 by_cases hroom:n+8<=c;{
 have hst:=run_storeCells_cells (P:=prog) g n (List.replicate 8 (Value.int .u8 0)) 0 W (fun j hj=>by
  rw[List.length_replicate]at hj
  rw[(hfree (n+0+j) (by omega) (by omega)).1]
  rfl) (fun j hj=>by
  rw[List.length_replicate]at hj
  exact(hfree (n+0+j) (by omega) (by omega)).2) (fun v hv=>by rw[List.eq_of_mem_replicate hv];rfl);refine⟨g,c,W.setCells g (n+0) (List.replicate 8 (Value.int .u8 0)),?_,?_,hroom,hc2,hB,setCells_low (Below.refl B W) hB _ _⟩;{
 have hadd:(⟨g,0,none⟩:Addr).add (n*1)=⟨g,n,none⟩:=by rw[Nat.mul_one,Addr.add_lit,Nat.zero_add]
 simp[Builtin.append_,run_underlying underlying117,run_underlying underlying3,sizeOf,typeInfo,zeroValue,hi,hz0,hz1,hz2,hw8,asInt,asIntOf,hroom,zero8_cells,Addr.add_lit,Nat.zero_add]at hst⊢;rw[hst];rfl};{
 refine⟨by rw[setCells_size];exact hrow.lt,fun j x hj=>?_,fun j hj=>?_⟩;{
 by_cases hjn:j<n;{
 rw[World.cell?_setCells_out _ _ _ _ _ (fun _ _=>.inl (by show j<n+0;omega))];rw[List.getElem?_append_left (by omega)]at hj;exact hrow.cell j x hj};{
 rw[List.getElem?_append_right (by omega),List.getElem?_replicate]at hj;split at hj;{
 cases hj;have h1:=World.cell?_setCells_in g (List.replicate 8 (Value.int .u8 0)) (n+0) W (fun k hk=>by
  rw[List.length_replicate]at hk
  rw[(hfree (n+0+k) (by omega) (by omega)).1]
  rfl) (j-n) (by rw[List.length_replicate];omega);rw[show n+0+(j-n)=j by omega]at h1;rw[h1,List.getElem_replicate];rfl};{cases hj}}};{
 rw[World.frozen?_setCells];rw[List.length_append,List.length_replicate]at hj;by_cases hjn:j<n;{exact hrow.free j (by omega)};{exact(hfree j (by omega) (by omega)).2}}}};{
 have hold:∀j v,(xs.map u8V)[j]?=some v->W.cell? ((⟨g,0,none⟩:Addr).add j)=some v:=fun j v hv=>by
  rw[List.getElem?_map]at hv
  obtain⟨x,hx,rfl⟩:=Option.map_eq_some_iff.1 hv
  rw[Addr.add_lit,Nat.zero_add]
  exact hrow.cell j x hx
 have hfo:=run_firstCells_some (P:=prog) W.drew 1 n ⟨g,0,none⟩ n c (xs.map u8V) (by simpa using hn) (by simpa using hold);have hge:=grownCap_ge W (n+8) c 5;have hle:=grownCap_le_maxLen W (n+8) c 5 (by unfold maxLen;omega);have h48:¬(281474976710656<Builtin.nextslicecap (n+8) c):=by have:=nextslicecap_le (need:=n+8) (old:=c) (by omega);omega
 refine⟨W.heap.size,grownCap W (n+8) c 5,W.drew.alloc (.cells ((xs.map u8V).toArray++(List.replicate 8 (Value.int .u8 0)).toArray++(List.replicate (grownCap W (n+8) c 5-(n+8)) (Value.int .u8 0)).toArray) 5),?_,?_,hge,hle,hB2,(Below.refl B W).drew.alloc hB2 _⟩;{
 have h63:¬(9223372036854775807<(n:Int)+8):=by omega
 simp[Builtin.append_,run_underlying underlying117,run_underlying underlying3,sizeOf,typeInfo,zeroValue,hi,hz0,hz1,hz2,hw8,asInt,asIntOf,hroom,zero8_cells,Question.forced,newRow,grownCap,hfo,h48];rw[if_neg (by omega),<-Array.append_assoc];simp only[List.append_toArray]};{
 have hh:∀C:Array Value,(W.drew.alloc (.cells C 5)).heap[W.heap.size]?=some (.cells C 5 (0,0)):=fun C=>by
  show (W.heap.push _)[W.heap.size]?=_
  simp
 refine⟨by simp,fun j x hj=>?_,fun j hj=>?_⟩;{
 simp only[World.cell?];rw[hh];exact cellsZ xs j x _ hj};{
 simp only[World.frozen?,hh];simp}}}
def gst1 (g:List Nat) (k:Nat) (l:List Nat):List Nat:=l.set (k+1) (cf l (k+1)^^^cf g k)
def gst2 (g:List Nat) (c k:Nat) (l:List Nat):List Nat:=l.set k (cf l k^^^gmul (cf g k) c)
def gnx (g:List Nat) (c:Nat):Nat->List Nat
 |0=>List.replicate (g.length+1) 0
 |k+1=>gst2 g c k (gst1 g k (gnx g c k))
def genR:Nat->List Nat
 |0=>[1]
 |i+1=>gnx (genR i) (pw i) (genR i).length
theorem gnx_len (g:List Nat) (c:Nat):∀k,(gnx g c k).length=g.length+1
 |0=>by unfold gnx;rw[List.length_replicate]
 |k+1=>by unfold gnx gst2 gst1;rw[List.length_set,List.length_set,gnx_len g c k]
theorem set_bytes {l:List Nat} (h:Bytes l) (i:Nat) {x:Nat} (hx:x<256):Bytes (l.set i x):=fun b hb=>by
 rcases List.mem_or_eq_of_mem_set hb with hb|rfl
 ·exact h b hb
 ·exact hx
theorem gst1_bytes {g l:List Nat} (hg:Bytes g) (h:Bytes l) (k:Nat):Bytes (gst1 g k l):=set_bytes h _ (xor_lt (cf_lt h _) (cf_lt hg _))
theorem gnx_bytes {g:List Nat} (hg:Bytes g) (c:Nat):∀k,Bytes (gnx g c k)
 |0=>fun b hb=>by
  have:=List.eq_of_mem_replicate hb
  omega
 |k+1=>by
  have h1:=gst1_bytes hg (gnx_bytes hg c k) k
  exact set_bytes h1 _ (xor_lt (cf_lt h1 _) (gmul_lt _ (cf_lt hg _)))
theorem genR_len:∀i,(genR i).length=i+1
 |0=>rfl
 |i+1=>by unfold genR;rw[gnx_len,genR_len i]
theorem genR_bytes:∀i,Bytes (genR i)
 |0=>by decide
 |i+1=>gnx_bytes (genR_bytes i) _ _
theorem genR_8:genR 8=G8:=by decide +kernel
theorem rgen_any (w:World):Calls prog 261 #[.int .i64 8] w fun e w'=>∃v,e=.returned (.tuple #[v,.int .i64 0])/\BytesAt w' v G8/\Below w.heap.size w w':=by
 have HK0:Hid (BytesAt (w.alloc (.cells #[.int .u8 1] 5)) (.slice (some ⟨w.heap.size,0,none⟩) 1 1) (genR 0)):=zY (BytesAt.one w 1);have HB0:=zY (zBl w (.cells #[.int .u8 1] 5));go_enter func261,ntmps261;go_wp2;go_loopw [4,5] (fun v x wr=>∃i:Nat,i<=8/\x=.int .i64 (i:Int)/\BytesAt wr v (genR i)/\Below w.heap.size w wr) (fun _ x _=>8-(intOf x).toNat);case atStart=>exact⟨0,by omega,rfl,HK0.out,HB0.out⟩
 case round=>
 obtain⟨i,hi,rfl,hv,hB⟩:=hrel;obtain⟨wo,rfl⟩:∃x,x=wr:=⟨_,rfl⟩;clear HK0 HB0;have HBr:=zY hB;clear hB;by_cases h:i<8;{
 have hiI:(i:Int)<8:=by omega
 have Hgl:=zY (genR_len i);have Hgb:=zY (genR_bytes i);have Hnx:Hid (gnx (genR i) (pw i) (genR i).length=genR (i+1)):=zY rfl;obtain⟨g,hg⟩:=zNm (genR i);rw[hg]at hv Hgl Hgb Hnx;clear hg;have Hv:=zY hv;obtain⟨A,c,rfl,h1,h2,h3⟩:=hv;clear h3;have hgl9:g.length<=9:=by have:=Hgl.out;omega
 have hmk:∀W:World,(Instr.makeSlice 117 (.int .i64 ((g.length:Int)+1)) (.int .i64 ((g.length:Int)+1))).run prog W=.ok (.slice (some ⟨W.heap.size,0,none⟩) (g.length+1) (g.length+1)) (W.alloc (.cells (arrB (List.replicate (g.length+1) 0)) 5)):=make_u8 (g.length+1) (g.length+1) (Nat.le_refl _) (by omega);have HN0:Hid (U8B (wo.alloc (.cells (arrB (List.replicate (g.length+1) 0)) 5)) wo.heap.size (gnx g (pw i) 0)):=zY (U8B.new wo _);have HA0:=zY (zBl wo (.cells (arrB (List.replicate (g.length+1) 0)) 5));go_wp2;clear hmk;go_loopw [7] (fun x wx=>∃k:Nat,k<=g.length/\x=.int .i64 (k:Int)/\U8B wx wo.heap.size (gnx g (pw i) k)/\Below wo.heap.size wo wx) (fun x _=>g.length-(intOf x).toNat);case atStart=>exact⟨0,by omega,rfl,HN0.out,HA0.out⟩
 case round=>
 obtain⟨k,hk,rfl,hn,hb⟩:=hrel;clear HN0 HA0;have Hn:=zY hn;have Hb:=zY hb;clear hn hb;by_cases h':k<g.length;{
 have hkI:(k:Int)<g.length:=by omega
 have hgk:g[k]?=some (cf g k):=by unfold cf;rw[List.getElem?_eq_getElem h'];rfl
 obtain⟨gb,go,rfl,hcg⟩:=(Hv.below Hb.out).cell hgk;have hlen:=gnx_len g (pw i) k;have hbn:=gnx_bytes Hgb.out (pw i) k;have Hst:Hid (gst2 g (pw i) k (gst1 g k (gnx g (pw i) k))=gnx g (pw i) (k+1)):=zY rfl;obtain⟨l,hl⟩:=zNm (gnx g (pw i) k);rw[hl]at Hn hlen hbn Hst;clear hl;have hc1:=Hn.cell (i:=k+1) (x:=cf l (k+1)) (by unfold cf;rw[List.getElem?_eq_getElem (by omega)];rfl);have hf1:=Blk.frozen Hn.out (k+1);have hgl2:cf g k<256:=cf_lt Hgb.out k;have hx1:=u8_xor (cf_lt hbn (k+1)) hgl2;have Hs1:=zY (U8B.set Hn.out (k+1) (cf l (k+1)^^^cf g k));have hs1:IntKind.i64.wrap ((k:Int)+1)=(k:Int)+1:=zIw (by omega);have hs2:((k:Int)+1).toNat=k+1:=by omega
 have hs3:(0:Int)<=(k:Int)+1:=by omega
 have hs4:(k:Int)+1<(g.length:Int)+1:=by omega
 have Hgk:=zY hgk;have Hlen:=zY hlen;have Hbn:=zY hbn;have HX1:=zY ((Hb.setCell (p:=⟨wo.heap.size,k+1,none⟩) (Nat.le_refl _) (.int .u8 ((cf l (k+1)^^^cf g k:Nat):Int))).drew);clear hgk hlen hbn;go_wp2;go_still_tail 14,(by kernel_rfl);go_upto_region 12 with fail;have HN1:Hid (U8B (wr.setCell ⟨wo.heap.size,k+1,none⟩ (.int .u8 ((cf l (k+1)^^^cf g k:Nat):Int))).drew wo.heap.size (gst1 g k l)):=zY (U8B.drew Hs1.out);have hcg1:=(Hv.below HX1.out).cell Hgk.out;obtain⟨gb',go',e9,hcg1⟩:=hcg1;cases e9;have hg1b:=gst1_bytes Hgb.out Hbn.out k;have hg1l:(gst1 g k l).length=g.length+1:=by unfold gst1;rw[List.length_set];exact Hlen.out
 clear hc1 hf1 hx1 hs1 hs2 hs3 hs4 Hs1 Hn Hb hcg;generalize (wr.setCell ⟨wo.heap.size,k+1,none⟩ (.int .u8 ((cf l (k+1)^^^cf g k:Nat):Int))).drew=wx at *;generalize gst1 g k l=l1 at *;have hc2:=HN1.cell (i:=k) (x:=cf l1 k) (by unfold cf;rw[List.getElem?_eq_getElem (by omega)];rfl);have hf2:=Blk.frozen HN1.out k;have Hpw:=zY (fun W=>r7power_any W i (by omega));have hpl:=pw_lt i;have Htm:=zY (fun W=>r7times_any W (cf g k) (pw i) hgl2 hpl);have hx2:=u8_xor (cf_lt hg1b k) (gmul_lt (pw i) hgl2);have Hs2:=zY (U8B.set HN1.out k (cf l1 k^^^gmul (cf g k) (pw i)));have hkN:(k:Int)<(g.length:Int)+1:=by omega
 have HX2:=zY ((HX1.setCell (p:=⟨wo.heap.size,k,none⟩) (Nat.le_refl _) (.int .u8 ((cf l1 k^^^gmul (cf g k) (pw i):Nat):Int))).drew);have Hst2:Hid (l1.set k (cf l1 k^^^gmul (cf g k) (pw i))=gnx g (pw i) (k+1)):=Hst;rw[Hst2.out]at Hs2;clear hg1b hg1l Hst Hst2;generalize gmul (cf g k) (pw i)=z at *;generalize cf g k=y at *;generalize cf l1 k=x1 at *;go_still_tail 15,(by kernel_rfl);still_call (still_of (Hpw.out _));repeat still_step
 still_call (still_of (Htm.out _));repeat still_step
 refine wpStill_nil ?_;go_wp2;clear hx2;go_roundw;case rel=>exact⟨k+1,by omega,by go_num,U8B.drew Hs2.out,HX2.out⟩
 case measure=>simp[intOf];omega};{
 obtain rfl:k=g.length:=by omega
 have hn:=Hn.out;rw[Hnx.out]at hn;have hv2:=U8B.bytes hn (n:=g.length+1) (c:=g.length+1) (by rw[genR_len,Hgl.out]) (Nat.le_refl _) (by omega);have Hv2:=zY hv2;clear hn hv2;go_wp2;go_roundw;case rel=>exact⟨i+1,by omega,by go_num,Hv2.out,HBr.trans (Hb.mono HBr.size)⟩
 case measure=>simp[intOf];omega}};{
 obtain rfl:i=8:=by omega
 rw[genR_8]at hv;have Hv:=zY hv;obtain⟨A,c,rfl,h1,h2,h3⟩:=hv;clear h3;go_wp2;go_ret2;exact⟨_,rfl,Hv.out,HBr.out⟩}
def encK (R:List Nat) (i lead:Nat):Nat->List Nat
 |0=>R
 |k+1=>(encK R i lead k).set (i+k) (cf (encK R i lead k) (i+k)^^^gmul lead (cf G8 (8-k)))
theorem encK_len (R:List Nat) (i lead:Nat):∀k,(encK R i lead k).length=R.length
 |0=>rfl
 |k+1=>by unfold encK;rw[List.length_set,encK_len R i lead k]
theorem encK_bytes {R:List Nat} (h:Bytes R) (i:Nat) {lead:Nat} (hl:lead<256):∀k,Bytes (encK R i lead k)
 |0=>h
 |k+1=>by
  have h1:=encK_bytes h i hl k
  exact set_bytes h1 _ (xor_lt (cf_lt h1 _) (gmul_lt _ hl))
theorem encK_cf (R:List Nat) (i lead:Nat):∀k,i+k<=R.length->∀j,cf (encK R i lead k) j=if i<=j/\j<i+k then cf R j^^^gmul lead (cf G8 (8-(j-i))) else cf R j
 |0,_,j=>by rw[if_neg (by omega)];rfl
 |k+1,h,j=>by
  have ih:=encK_cf R i lead k (by omega)
  unfold encK
  rw[cf_set _ _ _ _ (by rw[encK_len];omega),ih,ih]
  by_cases e:i+k=j
  {
  subst e
  rw[if_pos rfl,if_neg (by omega),if_pos (by omega),show i+k-i=k by omega]}
  {
  rw[if_neg e]
  by_cases h1:i<=j/\j<i+k
  ·rw[if_pos h1,if_pos (by omega)]
  ·rw[if_neg h1,if_neg (by omega)]}
def encT (D:List Nat) (i:Nat):List Nat:=(D.take i).foldl (lfsr G8) (List.replicate 8 0)
structure EncS (D:List Nat) (i:Nat) (R:List Nat):Prop where
 len:R.length=D.length+8
 bytes:Bytes R
 at_:∀j,cf R (i+j)=cf (D++List.replicate 8 0) (i+j)^^^cf (encT D i) j
theorem encT_zero_cf (D:List Nat) (j:Nat):cf (encT D 0) j=0:=by
 show cf (List.replicate 8 0) j=0;unfold cf;rw[List.getElem?_replicate];split<;>rfl
theorem encS_zero {D:List Nat} (h:Bytes D):EncS D 0 (D++List.replicate 8 0):=by
 refine⟨by rw[List.length_append,List.length_replicate],fun b hb=>?_,fun j=>by rw[encT_zero_cf,Nat.zero_add,Nat.xor_zero]⟩;rcases List.mem_append.1 hb with hb|hb;{exact h b hb};{
 have:=List.eq_of_mem_replicate hb;omega}
theorem encT_succ {D:List Nat} {i:Nat} (h:i<D.length):encT D (i+1)=lfsr G8 (encT D i) (cf D i):=by
 unfold encT;rw[take_snoc_cf h,List.foldl_append];rfl
theorem encT_len (D:List Nat):∀i,i<=D.length->(encT D i).length=8
 |0,_=>rfl
 |i+1,h=>by rw[encT_succ (by omega),lfsr_len]
theorem encS_step {D R:List Nat} {i:Nat} (h:EncS D i R) (hi:i<D.length):EncS D (i+1) (encK R i (cf R i) 9):=by
 obtain⟨h1,h2,h3⟩:=h;have hlead:cf R i=cf D i^^^cf (encT D i) 0:=by have:=h3 0;rw[Nat.add_zero]at this;rw[this];congr 1;unfold cf;rw[List.getElem?_append_left hi]
 refine⟨by rw[encK_len];exact h1,encK_bytes h2 i (cf_lt h2 i) 9,fun j=>?_⟩;rw[encK_cf R i (cf R i) 9 (by omega),show i+1+j=i+(1+j) by omega,h3 (1+j),encT_succ hi];have hl8:=encT_len D i (by omega);by_cases hj:j<8;{
 rw[if_pos (by omega),show i+(1+j)-i=1+j by omega,show 8-(1+j)=7-j by omega,hlead];unfold lfsr;rw[cf_map,if_pos hj,Nat.xor_assoc,Nat.add_comm 1 j]};{rw[if_neg (by omega),cf_big (p:=encT D i) (by omega),cf_big (p:=lfsr G8 _ _) (by rw[lfsr_len];omega)]}
theorem encS_end {D R:List Nat} (h:EncS D D.length R):R.drop D.length=rsPar D:=by
 obtain⟨h1,h2,h3⟩:=h;have e:rsPar D=encT D D.length:=by unfold rsPar encT;rw[List.take_length,genP_8]
 have hl:=encT_len D D.length (Nat.le_refl _);rw[e];refine List.ext_getElem? fun j=>?_;rw[List.getElem?_drop];have hz:∀k,cf (D++List.replicate 8 0) (D.length+k)=0:=fun k=>by
  unfold cf
  rw[List.getElem?_append_right (by omega),List.getElem?_replicate]
  split<;>rfl
 by_cases hj:j<8;{
 have h4:=h3 j;rw[hz,Nat.zero_xor]at h4;unfold cf at h4;rw[List.getElem?_eq_getElem (by omega),List.getElem?_eq_getElem (by omega)]at h4⊢;simpa using h4};{
 rw[List.getElem?_eq_none (by omega),List.getElem?_eq_none (by omega)]}
theorem wpList_appZ {ops:Array Oper} {rest:List Oper} {o:Oper} {a:Act} {Q:Exit->Act->World->Prop} {W:World} {B g n c:Nat} {xs:List Nat} (hw:Region.wanted o (yielded ops a.tmps)=true) (s y:Operand) (ho:o.op=.call { callee:=.builtin .append,args:= #[s,y],argTypes:= #[117,3] })
  (hs:a.eval s=.slice (some ⟨g,0,none⟩) n c) (hy:a.eval y=.int .i64 8) (hrow:RowB W g xs) (hn:xs.length=n) (hn9:n<=1000) (hc:n<=c) (hc2:c<=9223372036854775807)
  (hfree:∀i,n<=i->i<c->W.cell? ⟨g,i,none⟩=some (.int .u8 0)/\W.frozen? ⟨g,i,none⟩=false) (hB:B<=g) (hB2:B<=W.heap.size)
  (h:∀g' c' w',RowB w' g' (xs++List.replicate 8 0)->n+8<=c'->c'<=9223372036854775807->B<=g'->Below B W w'->wpList prog ops Q rest (a.put o.dst (.slice (some ⟨g',0,none⟩) (n+8) c')) w'):wpList prog ops Q (o::rest) a W:=
 wpList_step fun K hK=>by
  simp only[hw,if_true]
  obtain⟨g',c',w',hr,k1,k2,k3,k4,k5⟩:=run_appZ o.type hrow hn hn9 hc hc2 hfree hB hB2
  unfold Oper.wp execOp
  simp only[ho,resolve,invoke,builtin,Sem.run_bind,Sem.run_pure,Result.andThen_ok,List.map_toArray,List.map_cons,List.map_nil,hs,hy,hr]
  exact hK _ _ (h g' c' w' k1 k2 k3 k4 k5)
theorem RowB.tail {w:World} {g:Nat} {xs:List Nat} (h:RowB w g xs) {k m c:Nat} (_hk:k<=xs.length) (hm:m=xs.length-k) (hc:m<=c) (hc2:c<=9223372036854775807):BytesAt w (.slice (some ⟨g,k,none⟩) m c) (xs.drop k):=by
 subst hm;refine⟨_,c,by rw[List.length_drop],by rw[List.length_drop];exact hc,hc2,fun i x hi=>⟨g,k,u8V x,rfl,?_,rfl⟩⟩;rw[List.getElem?_drop]at hi;exact h.cell _ _ hi
theorem rsenc7_any (w:World) (s:ByteArray) (hs:s.size=44):Calls prog 176 #[.string s,.int .i64 8] w fun e w'=>e=.returned (.tuple #[.string (strB (rsEnc (bs s))),.int .i64 0])/\Below w.heap.size w w':=by
 have hDl:(bs s).length=44:=by rw[bs_len,hs]
 have hDb:Bytes (bs s):=fun b hb=>bs_lt s b hb;have HE:Hid (s=strB (bs s)):=zY (strB_bs s).symm;have HDl:=zY hDl;have HDb:=zY hDb;clear hDl hDb;go_enter func176,ntmps176;go_upto_region 2 with(go_at_call 261;refine(rgen_any _).mono ?_;rintro e w1 ⟨v1,rfl,hv1,hb1⟩)
 have Hv:=zY hv1;obtain⟨A,cg,rfl,h1,h2,h3⟩:=hv1;have hG9:G8.length=9:=rfl;rw[hG9]at h1⊢;have HB1:=zY hb1;clear h3 hb1 hG9;go_upto_region 6 with fail;obtain⟨c,w2,hcv,hc1,hc2,hrow,hbb,hfree⟩:=run_toBytesX w1 s (by omega);rw[hs]at hcv hc1 hfree;have Hrow:=zY hrow;have HB2:=zY hbb;have Hfree:=zY hfree;have Hc1:=zY hc1;have Hc2:=zY hc2;have hz2:=hbb.size;clear hrow hbb hfree hc1 hc2;go_wp2_with (at_builtin;refine wpList_appZ rfl _ _ rfl rfl rfl Hrow.out HDl.out (by omega) Hc1.out Hc2.out Hfree.out (Nat.le_refl _) hz2 ?_;intro g' c' w3 hr3 hc3 hc4 hg3 hb3);have HB3:=zY (HB2.trans hb3);have Hr3:=zY hr3;have HS0:=zY (encS_zero HDb.out);clear hr3 hb3 Hrow HB2 Hfree Hc1 Hc2 hcv;go_loopw [9] (fun x wr=>∃(i:Nat) (R:List Nat),i<=44/\x=.int .i64 (i:Int)/\EncS (bs s) i R/\RowB wr g' R/\Below w1.heap.size w1 wr) (fun x _=>44-(intOf x).toNat);case atStart=>exact⟨0,_,by omega,rfl,HS0.out,Hr3.out,HB3.out⟩
 case round=>
 obtain⟨i,R,hi,rfl,hS,hr,hB⟩:=hrel;obtain⟨wo,rfl⟩:∃x,x=wr:=⟨_,rfl⟩;clear HS0 Hr3 HB3;have HS:=zY hS;have Hr:=zY hr;have HBr:=zY hB;clear hS hr hB;by_cases h:i<44;{
 have hiI:(i:Int)<44:=by omega
 have hlen:R.length=52:=by rw[HS.len,HDl.out]
 have hRi:R[i]?=some (cf R i):=by unfold cf;rw[List.getElem?_eq_getElem (by omega)];rfl
 have hci:=Hr.cell i _ hRi;have hi52:(i:Int)<52:=by omega
 have hld:cf R i<256:=cf_lt HS.bytes i;have Hstep:=zY (encS_step HS.out (by rw[HDl.out];exact h));have Hrb:=zY HS.bytes;have HRl:=zY hlen;obtain⟨ld,hle⟩:=zNm (cf R i);rw[hle]at hci hld Hstep;clear hRi hle hlen;go_wp2;clear hci;go_loopw [11] (fun x wx=>∃k:Nat,k<=9/\x=.int .i64 (k:Int)/\RowB wx g' (encK R i ld k)/\Below w1.heap.size w1 wx) (fun x _=>9-(intOf x).toNat);case atStart=>exact⟨0,by omega,rfl,Hr.out,HBr.out⟩
 case round=>
 obtain⟨k,hk,rfl,hr,hB⟩:=hrel;clear Hr HBr;have Hr:=zY hr;have HBr:=zY hB;clear hr hB;by_cases h':k<9;{
 have hkI:(k:Int)<=8:=by omega
 have hKl:=encK_len R i ld k;rw[HRl.out]at hKl;have hRk:(encK R i ld k)[i+k]?=some (cf (encK R i ld k) (i+k)):=by unfold cf;rw[List.getElem?_eq_getElem (by omega)];rfl
 have hc1:=Hr.cell (i+k) _ hRk;have hf1:=Hr.free (i+k) (by omega);obtain⟨gb,go,e9,hcg⟩:=(Hv.below HBr.out).cell (i:=8-k) (x:=cf G8 (8-k)) (by unfold cf;rw[List.getElem?_eq_getElem (by show 8-k<9;omega)];rfl);have hgb:cf G8 (8-k)<256:=cf_lt G8_bytes _;have Htm:=zY (fun W=>r7times_any W ld (cf G8 (8-k)) hld hgb);have hx1:=u8_xor (cf_lt (encK_bytes Hrb.out i hld k) (i+k)) (gmul_lt (cf G8 (8-k)) hld);have Hs1:=zY (Hr.set (i+k) (cf (encK R i ld k) (i+k)^^^gmul ld (cf G8 (8-k))));have Hst:Hid ((encK R i ld k).set (i+k) (cf (encK R i ld k) (i+k)^^^gmul ld (cf G8 (8-k)))=encK R i ld (k+1)):=zY rfl;rw[Hst.out]at Hs1;have HX1:=zY ((HBr.setCell (p:=⟨g',i+k,none⟩) hg3 (.int .u8 ((cf (encK R i ld k) (i+k)^^^gmul ld (cf G8 (8-k)):Nat):Int))).drew);have hs1:IntKind.i64.wrap ((i:Int)+k)=(i:Int)+k:=zIw (by omega);have hs2:((i:Int)+k).toNat=i+k:=by omega
 have hs3:(0:Int)<=(i:Int)+k:=by omega
 have hs4:(i:Int)+k<52:=by omega
 have ht1:IntKind.i64.wrap (8-(k:Int))=8-(k:Int):=zIw (by omega);have ht2:(8-(k:Int)).toNat=8-k:=by omega
 have ht3:(0:Int)<=8-(k:Int):=by omega
 have ht4:8-(k:Int)<9:=by omega
 cases e9;clear hKl hRk Hst;generalize gmul ld (cf G8 (8-k))=z at *;generalize cf G8 (8-k)=y at *;generalize cf (encK R i ld k) (i+k)=x1 at *;go_wp2;go_still_tail 20,(by kernel_rfl);still_call (still_of (Htm.out _));repeat still_step
 refine wpStill_nil ?_;go_wp2;clear hx1 hs1 hs2 hs3 hs4 ht1 ht2 ht3 ht4;go_roundw;case rel=>exact⟨k+1,by omega,by go_num,Hs1.of_heap rfl,HX1.out⟩
 case measure=>simp[intOf];omega};{
 obtain rfl:k=9:=by omega
 go_wp2;go_roundw;case rel=>exact⟨i+1,_,by omega,by go_num,Hstep.out,Hr.out,HBr.out⟩
 case measure=>simp[intOf];omega}};{
 obtain rfl:i=44:=by omega
 have hlen:R.length=52:=by rw[HS.len,HDl.out]
 have hS:=HS.out;rw[<-HDl.out]at hS;have he:=encS_end hS;rw[HDl.out]at he;have ht:=Hr.tail (k:=44) (m:=8) (c:=c'-44) (by omega) (by omega) (by omega) (by omega);rw[he]at ht;have hcs:=run_toStr ht (by rw[<-he,List.length_drop,hlen]);have hcap:¬c'=44:=by omega
 have hcapI:¬((c':Int)=44):=by omega
 have hR:s++strB (rsPar (bs s))=strB (rsEnc (bs s)):=by{
 conv=>lhs;rw[HE.out,strB_cat]
 rw[bs_strB HDb.out];rfl};have h8:(strB (rsPar (bs s))).size=8:=by rw[strB_size,<-he,List.length_drop,hlen]
 have HR:=zY hR;have hsz44:s.size=44:=hs;clear hS he ht hR hlen;generalize strB (rsPar (bs s))=P at *;go_wp2;go_ret2;exact⟨by rw[<-HR.out];rfl,HB1.trans (HBr.mono HB1.size)⟩}
end
end Go.Proofs.YthgenkkkapilhaaGreatDoor