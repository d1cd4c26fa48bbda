/-
  Joined: VoI VoJ VqH VqI VoK Shelk RfA.
-/
import Derived.Test.YthgenkkkapilhaaGreatDoorVPn04
import Derived.Test.YthgenkkkapilhaaGreatDoorVPn07
set_option linter.all false
set_option maxRecDepth 100000
set_option maxHeartbeats 64000000
namespace Go.Proofs.YthgenkkkapilhaaGreatDoor
open Go.Proofs.Tryz
section
open Go.RowKit
theorem nstL_len (s:ByteArray) (h:s.size<18446744073709551616):(strB (nstL (bs s))).size<=s.size+22:=by
 rw[strB_size,nstL,List.length_append,List.length_append,List.length_append,bs_len];have:=digD_len20 h;simp;omega
theorem numL_len (n:Nat) (h:n<18446744073709551616):(strB (numL n)).size<=21:=by
 rw[strB_size,numL,List.length_append];have:=digD_len20 h;simp;omega
def atrL (l:List Atr):List Nat:=l.flatMap fun a=>nstL (bs a.k)++nstL (bs a.v)
def headL (e:Ent):List Nat:=nstL (bs (nameK e.k))++nstL (bs e.path)++numL e.attrs.length++atrL e.attrs++nstL (bs e.tgt)
theorem atrL_take {l:List Atr} {i:Nat} {a:Atr} (h:l[i]?=some a):atrL (l.take (i+1))=atrL (l.take i)++(nstL (bs a.k)++nstL (bs a.v)):=by
 unfold atrL;rw[List.take_add_one,h,Option.toList_some,List.flatMap_append];simp
theorem atrL_len {l:List Atr} {m:Nat} (hm:m<1000000000) (h:∀a∈l,a.k.size<=m/\a.v.size<=m):(atrL l).length<=l.length*(2*m+44):=by
 induction l with
 |nil=>simp[atrL]
 |cons a r ih=>
 have h1:=ih fun x hx=>h x (List.mem_cons_of_mem _ hx);obtain⟨h2,h3⟩:=h a List.mem_cons_self;have h4:=nstL_len a.k (by omega);have h5:=nstL_len a.v (by omega);rw[strB_size]at h4 h5;have e:atrL (a::r)=(nstL (bs a.k)++nstL (bs a.v))++atrL r:=by unfold atrL;rw[List.flatMap_cons]
 rw[e,List.length_append,List.length_append,List.length_cons,Nat.add_mul,Nat.one_mul];omega
theorem head_any (w:World) (e:Ent) (va vx:Value) (hva:SeqAt atrS w va e.attrs) (hp:e.path.size<=1000000) (ht:e.tgt.size<=1000000) (ha:∀a∈e.attrs,a.k.size<=1000000/\a.v.size<=1000000) (hl:e.attrs.length<=1000):
  Calls prog 240 #[entV e va vx] w fun r w'=>r=.returned (.string (strB (headL e)))/\Below w.heap.size w w':=by
 have HSt:Hid (∀(W:World) (s:ByteArray),s.size<=1000000->Calls prog 89 #[.string s] W fun e w'=>e=.returned (.string (strB (nstL (bs s))))/\w'=W):=zY (fun W s hs=>(nstring_any W s (by omega)).mono fun _ _ ⟨h1,h2⟩=>⟨h1,h2.symm⟩);have HNu:Hid (∀(W:World) (n:Nat),n<9223372036854775808->Calls prog 160 #[.int .i64 (n:Int)] W fun e w'=>e=.returned (.string (strB (numL n)))/\w'=W):=zY (fun W n hn=>(number_any W n hn).mono fun _ _ ⟨h1,h2⟩=>⟨h1,h2.symm⟩);obtain⟨k,path,attrs,t,size,dig,exts⟩:=e;obtain⟨R,hR⟩:=zNm (headL ⟨k,path,attrs,t,size,dig,exts⟩);rw[hR];rw[headL]at hR;dsimp only at hva hp ht ha hl hR;obtain⟨N,hN⟩:=zNm (nameK k);have hNs:N.size<=7:=by rw[<-hN];by_cases h:1<=k/\k<=6;{exact(nameK_some h).2};{rw[nameK_none h];decide}
 have HNm:Hid (∀W:World,Calls prog 222 #[.int .i64 k] W fun e w'=>e=.returned (.string N)/\w'=W):=zY (fun W=>by
  rw[<-hN]
  exact(name_any W k).mono fun _ _ ⟨h1,h2⟩=>⟨h1,h2.symm⟩);rw[hN]at hR;have HR:=zY hR;have Hva:=zY hva;obtain⟨Aa,ca,rfl,ha1,ha2⟩:=hva.slice;have Hal:Hid (∀i,(strB (nstL (bs N)++nstL (bs path)++numL attrs.length++atrL (attrs.take i))).size<=3000000000):=zY (fun i=>by
  have h1:=atrL_len (l:=attrs.take i) (m:=1000000) (by omega) (fun a h=>ha a (List.mem_of_mem_take h))
  have h2:=nstL_len N (by omega)
  have h3:=nstL_len path (by omega)
  have h4:=numL_len attrs.length (by omega)
  have h5:=Nat.mul_le_mul (show (attrs.take i).length<=1000 by rw[List.length_take];omega) (Nat.le_refl (2*1000000+44))
  rw[strB_size]at h2 h3 h4⊢
  rw[List.length_append,List.length_append,List.length_append]
  omega);have Ha:=zY ha;clear hva ha hN hR;rw[entV];dsimp only;have hK:=Blk.new w 182 [.int .i64 k,.string path,.slice Aa attrs.length ca,.string t,.int .i64 size,.string dig,vx];change Blk (w.alloc (.cells #[.int .i64 k,.string path,.slice Aa attrs.length ca,.string t,.int .i64 size,.string dig,vx] 182)) _ _ _ at hK;have HB0:=zY (zBl w (.cells #[.int .i64 k,.string path,.slice Aa attrs.length ca,.string t,.int .i64 size,.string dig,vx] 182));have hq1:=nstL_len N (by omega);have hq2:=nstL_len path (by omega);have hq3:=numL_len attrs.length (by omega);have hc1:¬9223372036854775807<(strB (nstL (bs N))).size+(strB (nstL (bs path))).size:=by omega
 have hc2:¬9223372036854775807<(strB (nstL (bs N))).size+(strB (nstL (bs path))).size+(strB (numL attrs.length)).size:=by omega
 have HE0:Hid (strB (nstL (bs N))++strB (nstL (bs path))++strB (numL attrs.length)=strB (nstL (bs N)++nstL (bs path)++numL attrs.length++atrL (attrs.take 0))):=zY (by
  rw[strB_cat,strB_cat,List.take_zero,show atrL []=[] from rfl,List.append_nil]);go_enter func240,ntmps240;go_upto_region 1 with fail;generalize w.alloc (.cells #[.int .i64 k,.string path,.slice Aa attrs.length ca,.string t,.int .i64 size,.string dig,vx] 182)=wb at *;have HK:=zY hK;have c0:=hK.c 0;have c1:=hK.c 1;have c2:=hK.c 2;clear hK;go_quiet (first|(go_at_call 222;refine Calls.quiet_of_same (HNm.out _))|(go_at_call 89;refine Calls.quiet_of_same (HSt.out _ _ (by omega)))|(go_at_call 160;refine Calls.quiet_of_same (HNu.out _ _ (by omega))));have HBd:Hid (Below wb.heap.size wb (wb.drewN nq)):=zY (zBd (Below.refl _ _) nq);generalize wb.drewN nq=wd at *;have HKd:=zY (HK.kept HBd.out);have HBb:=zY (HB0.trans (HBd.mono HB0.size));clear c0 c1 c2 HK HB0 HBd hc1 hc2 hq1 hq2 hq3;go_wp2;go_loopw [3,4] (fun y x wr=>∃i:Nat,i<=attrs.length/\x=.int .i64 (i:Int)/\y=.string (strB (nstL (bs N)++nstL (bs path)++numL attrs.length++atrL (attrs.take i)))/\Below wd.heap.size wd wr) (fun _ x _=>attrs.length-(intOf x).toNat);case atStart=>exact⟨0,by omega,rfl,by rw[<-HE0.out],Below.refl _ _⟩
 case round=>
 obtain⟨i,hi,rfl,rfl,hB⟩:=hrel;have HB:=zY hB;have HKr:=zY (HKd.kept hB);clear hB;have hys:=Hal.out i;by_cases h:i<attrs.length;{
 have hiI:(i:Int)<attrs.length:=by omega
 obtain⟨a,ha⟩:∃a,attrs[i]?=some a:=⟨_,List.getElem?_eq_getElem h⟩;obtain⟨hak,hav⟩:=Ha.out a (List.mem_of_getElem? ha);have HN2:Hid (strB (nstL (bs N)++nstL (bs path)++numL attrs.length++atrL (attrs.take i))++strB (nstL (bs a.k))++strB (nstL (bs a.v))=strB (nstL (bs N)++nstL (bs path)++numL attrs.length++atrL (attrs.take (i+1)))):=zY (by
  rw[atrL_take ha,strB_cat,strB_cat]
  simp only[List.append_assoc]);obtain⟨_,_,e9,_,_,h4⟩:=Hva.below (HBb.trans (HB.mono HBb.size));cases e9;obtain⟨b,o,cs,rfl,rfl,hc⟩:=h4 i a ha;have c0:wr.cell? ⟨b,o+i*2,none⟩=some (.string a.k):=hc 0 _ rfl;have c1:wr.cell? ⟨b,o+i*2+1,none⟩=some (.string a.v):=hc 1 _ rfl;have c2:=HKr.c 2;obtain⟨ak,av⟩:=a;dsimp only at hak hav HN2 c0 c1;generalize strB (nstL (bs N)++nstL (bs path)++numL attrs.length++atrL (attrs.take i))=Y at *;have h5:=nstL_len ak (by omega);have h6:=nstL_len av (by omega);have hc1:¬9223372036854775807<Y.size+(strB (nstL (bs ak))).size:=by omega
 have hc2:¬9223372036854775807<Y.size+(strB (nstL (bs ak))).size+(strB (nstL (bs av))).size:=by omega
 clear hc h4 ha h5 h6;go_upto_region 5 with fail;go_quiet (first|(go_at_call 89;refine Calls.quiet_of_same (HSt.out _ _ (by omega))));go_wp2;go_roundw;case rel=>exact⟨i+1,by omega,by go_num,by rw[HN2.out],zBd HB.out _⟩
 case measure=>simp[intOf];omega};{
 obtain rfl:i=attrs.length:=by omega
 have hiI:¬((attrs.length:Nat):Int)<(attrs.length:Int):=by omega
 have c3:=HKr.c 3;have HN2:Hid (strB (nstL (bs N)++nstL (bs path)++numL attrs.length++atrL (attrs.take attrs.length))++strB (nstL (bs t))=strB R):=zY (by
  rw[List.take_length,strB_cat,<-HR.out]);have h5:=nstL_len t (by omega);have c2:=HKr.c 2;generalize strB (nstL (bs N)++nstL (bs path)++numL attrs.length++atrL (attrs.take attrs.length))=Y at *;have hc1:¬9223372036854775807<Y.size+(strB (nstL (bs t))).size:=by omega
 clear h5;go_wp2_with fail;refine(HSt.out _ t ht).mono ?_;rintro e6 w6 ⟨rfl,rfl⟩;go_wp2_with fail;go_ret;exact⟨by rw[<-HN2.out]<;>rfl,HBb.trans (HB.mono HBb.size)⟩}
def extL (l:List Ext):List Nat:=l.flatMap fun x=>numL x.s.toNat++numL x.o.toNat++numL x.l.toNat
def encL (e:Ent):List Nat:=nstL (bs (strB (headL e)))++numL e.size.toNat++nstL (bs e.dig)++numL e.exts.length++extL e.exts
theorem extL_take {l:List Ext} {i:Nat} {x:Ext} (h:l[i]?=some x):extL (l.take (i+1))=extL (l.take i)++(numL x.s.toNat++numL x.o.toNat++numL x.l.toNat):=by
 unfold extL;rw[List.take_add_one,h,Option.toList_some,List.flatMap_append];simp
theorem extL_len {l:List Ext} (h:∀x∈l,extB x=true):(extL l).length<=l.length*63:=by
 induction l with
 |nil=>simp[extL]
 |cons a r ih=>
 have h1:=ih fun x hx=>h x (List.mem_cons_of_mem _ hx);have h2:=of_decide_eq_true (h a List.mem_cons_self);have h3:=numL_len a.s.toNat (by omega);have h4:=numL_len a.o.toNat (by omega);have h5:=numL_len a.l.toNat (by omega);rw[strB_size]at h3 h4 h5;have e:extL (a::r)=(numL a.s.toNat++numL a.o.toNat++numL a.l.toNat)++extL r:=by unfold extL;rw[List.flatMap_cons]
 rw[e,List.length_append,List.length_append,List.length_append,List.length_cons,Nat.add_mul,Nat.one_mul];omega
theorem encode36_any (w:World) (e:Ent) (va vx:Value) (hva:SeqAt atrS w va e.attrs) (hvx:SeqAt extS w vx e.exts) (hok:EntOk e) (hp:e.path.size<=1000000) (ht:e.tgt.size<=1000000) (ha:∀a∈e.attrs,a.k.size<=1000000/\a.v.size<=1000000) (hl:e.attrs.length<=1000) (hx:e.exts.length<=100000) (hh:(headL e).length<=1000000) (hd:e.dig.size<=1000000):
  Calls prog 162 #[entV e va vx] w fun r w'=>r=.returned (.tuple #[.string (strB (encL e)),.int .i64 0])/\Below w.heap.size w w':=by
 have HSt:Hid (∀(W:World) (s:ByteArray),s.size<=1000000->Calls prog 89 #[.string s] W fun e w'=>e=.returned (.string (strB (nstL (bs s))))/\W=w'):=zY (fun W s hs=>nstring_any W s (by omega));have HNu:Hid (∀(W:World) (n:Nat),n<9223372036854775808->Calls prog 160 #[.int .i64 (n:Int)] W fun e w'=>e=.returned (.string (strB (numL n)))/\W=w'):=zY (fun W n hn=>number_any W n hn);have HCk:Hid (∀W:World,Below w.heap.size w W->Calls prog 153 #[entV e va vx] W fun r w'=>r=.returned (.int .i64 0)/\Below W.heap.size W w'):=zY (fun W hb=>
  (check36_any W e va vx (hva.below hb) (hvx.below hb) hp ht (fun a h=>(ha a h).1) hx).mono fun _ _ ⟨⟨n,h1,h2⟩,h3⟩=>⟨by rw[h1,h2.2 hok],h3⟩);have HHd:Hid (∀W:World,Below w.heap.size w W->Calls prog 240 #[entV e va vx] W fun r w'=>r=.returned (.string (strB (headL e)))/\Below W.heap.size W w'):=zY (fun W hb=>head_any W e va vx (hva.below hb) hp ht ha hl);have hsz:=hok.size;have Hxs:=zY hok.exts.2.1;clear hok hp ht ha hl;obtain⟨k,path,attrs,t,size,dig,exts⟩:=e;obtain⟨R,hR⟩:=zNm (encL ⟨k,path,attrs,t,size,dig,exts⟩);rw[hR];rw[encL]at hR;generalize headL ⟨k,path,attrs,t,size,dig,exts⟩=H at *;dsimp only at hva hvx hx hh hd hR hsz;obtain⟨z,hz⟩:∃z:Nat,size=(z:Int):=⟨size.toNat,by omega⟩;subst hz;rw[Int.toNat_natCast]at hR;obtain⟨Aa,ca,rfl,ha1,ha2⟩:=hva.slice;have Hvx:=zY hvx;obtain⟨Ax,cx,rfl,hx1,hx2⟩:=hvx.slice;have HR:=zY hR;clear hva hvx hR;rw[entV]at HCk HHd⊢;dsimp only at HCk HHd⊢Hxs;have hK:=Blk.new w 182 [.int .i64 k,.string path,.slice Aa attrs.length ca,.string t,.int .i64 (z:Int),.string dig,.slice Ax exts.length cx];change Blk (w.alloc (.cells #[.int .i64 k,.string path,.slice Aa attrs.length ca,.string t,.int .i64 (z:Int),.string dig,.slice Ax exts.length cx] 182)) _ _ _ at hK;have HB0:=zY (zBl w (.cells #[.int .i64 k,.string path,.slice Aa attrs.length ca,.string t,.int .i64 (z:Int),.string dig,.slice Ax exts.length cx] 182));have HK:=zY hK;have c0:=hK.c 0;have c1:=hK.c 1;have c2:=hK.c 2;have c3:=hK.c 3;have c4:=hK.c 4;have c5:=hK.c 5;have c6:=hK.c 6;clear hK;go_enter func162,ntmps162;go_wp2_with fail
 generalize w.alloc (.cells #[.int .i64 k,.string path,.slice Aa attrs.length ca,.string t,.int .i64 (z:Int),.string dig,.slice Ax exts.length cx] 182)=wb at *;refine(HCk.out _ HB0.out).mono ?_;rintro e2 w2 ⟨rfl,hb2⟩;have HK2:=zY (HK.kept hb2);have HB2:=zYt HB0 hb2;clear hb2 HK HB0 c0 c1 c2 c3 c4 c5 c6 HCk;go_upto_region 4 with fail;have hT:(strB H).size<=1000000:=by rw[strB_size];exact hh
 generalize strB H=T at *;have hS0:(fun W:World=>W.cell? ⟨w.heap.size,0,none⟩=some (.int .i64 k)/\W.cell? ⟨w.heap.size,1,none⟩=some (.string path)/\W.cell? ⟨w.heap.size,2,none⟩=some (.slice Aa attrs.length ca)/\W.cell? ⟨w.heap.size,3,none⟩=some (.string t)/\W.cell? ⟨w.heap.size,4,none⟩=some (.int .i64 (z:Int))/\W.cell? ⟨w.heap.size,5,none⟩=some (.string dig)/\W.cell? ⟨w.heap.size,6,none⟩=some (.slice Ax exts.length cx)) w2:=⟨HK2.c 0,HK2.c 1,HK2.c 2,HK2.c 3,HK2.c 4,HK2.c 5,HK2.c 6⟩;have HS0:=zY hS0;clear hS0;have hq1:=nstL_len T (by omega);have hq2:=numL_len z (by omega);have hq3:=nstL_len dig (by omega);have hq4:=numL_len exts.length (by omega);have hc1:¬9223372036854775807<(strB (nstL (bs T))).size+(strB (numL z)).size:=by omega
 have hc2:¬9223372036854775807<(strB (nstL (bs T))).size+(strB (numL z)).size+(strB (nstL (bs dig))).size:=by omega
 have hc3:¬9223372036854775807<(strB (nstL (bs T))).size+(strB (numL z)).size+(strB (nstL (bs dig))).size+(strB (numL exts.length)).size:=by omega
 go_cut [5] (fun s wx=>∃W,s=.string (strB (nstL (bs T))++strB (numL z)++strB (nstL (bs dig))++strB (numL exts.length))/\W=wx/\Below w2.heap.size w2 W);case first=>(
 refine wp_region_held_drew (S:=(fun W=>W.cell? ⟨w.heap.size,0,none⟩=some (.int .i64 k)/\W.cell? ⟨w.heap.size,1,none⟩=some (.string path)/\W.cell? ⟨w.heap.size,2,none⟩=some (.slice Aa attrs.length ca)/\W.cell? ⟨w.heap.size,3,none⟩=some (.string t)/\W.cell? ⟨w.heap.size,4,none⟩=some (.int .i64 (z:Int))/\W.cell? ⟨w.heap.size,5,none⟩=some (.string dig)/\W.cell? ⟨w.heap.size,6,none⟩=some (.slice Ax exts.length cx))) (by kernel_rfl) ?_ (fun hHeld=>?_);{exact HS0.out};refine tk 0 ?_;refine tk 3 ?_;refine tk 4 ?_;refine tk 7 ?_;refine tk 8 ?_;refine tk 11 ?_;refine tk 12 ?_;refine tk 13 ?_;refine zEs [1] ?_;refine zEc (fun K hK=>?_) ?_;{
 go_simp;refine(HHd.out _ HB2.drew).mono ?_;rintro e w6 ⟨rfl,hb6⟩;(try go_wp2_with fail);have hbw:Below w2.heap.size w2 w6:=(Below.refl _ w2).drew.trans hb6;have HK6:=zY (HK2.kept hbw);refine hko hK (by exact⟨HK6.c 0,HK6.c 1,HK6.c 2,HK6.c 3,HK6.c 4,HK6.c 5,HK6.c 6⟩) (fun _=>?_);clear hK K;refine take_call (i:=2) (oi:=_) (v:=(.string (strB (nstL (bs T))))) rfl (by kernel_rfl) (by kernel_rfl) (by kernel_rfl) (fun _ _ _ h=>h) (And.intro (by rfl) ?hyb2) (by assumption) ?rest2;case hyb2=>intro W hSw;exact⟨89,#[.string T],by go_simp,HSt.out W T (by omega)⟩
 try simp only[Act.put,List.setIfInBounds_toArray]
 try simp only[List.getElem_toArray,List.getElem_cons_zero,List.getElem_cons_succ]
 refine take_call (i:=5) (oi:=_) (v:=(.string (strB (numL z)))) rfl (by kernel_rfl) (by kernel_rfl) (by kernel_rfl) (fun _ _ _ h=>h) (And.intro (by rfl) ?hyb5) (by assumption) ?rest5;case hyb5=>intro W hSw;exact⟨160,#[.int .i64 (z:Int)],by go_simp,HNu.out W z (by omega)⟩
 try simp only[Act.put,List.setIfInBounds_toArray]
 try simp only[List.getElem_toArray,List.getElem_cons_zero,List.getElem_cons_succ]
 refine tk 6 ?_;refine take_call (i:=9) (oi:=_) (v:=(.string (strB (nstL (bs dig))))) rfl (by kernel_rfl) (by kernel_rfl) (by kernel_rfl) (fun _ _ _ h=>h) (And.intro (by rfl) ?hyb9) (by assumption) ?rest9;case hyb9=>intro W hSw;exact⟨89,#[.string dig],by go_simp,HSt.out W dig (by omega)⟩
 try simp only[Act.put,List.setIfInBounds_toArray]
 try simp only[List.getElem_toArray,List.getElem_cons_zero,List.getElem_cons_succ]
 refine tk 10 ?_;refine take_call (i:=14) (oi:=_) (v:=(.string (strB (numL exts.length)))) rfl (by kernel_rfl) (by kernel_rfl) (by kernel_rfl) (fun _ _ _ h=>h) (And.intro (by rfl) ?hyb14) (by assumption) ?rest14;case hyb14=>intro W hSw;exact⟨160,#[.int .i64 (exts.length:Int)],by go_simp,HNu.out W exts.length (by omega)⟩
 try simp only[Act.put,List.setIfInBounds_toArray]
 try simp only[List.getElem_toArray,List.getElem_cons_zero,List.getElem_cons_succ]
 refine tk 15 ?_;refine tk 16 ?_;refine wpAnyH_done (by kernel_rfl) ?_ _;go_wp2_with fail;go_meet;exact⟨_,rfl,rfl,hbw⟩};{exact AllReadyH.nil})
 case rest=>
 obtain⟨w4,rfl,rfl,hb4⟩:=hcut;have HK4:=zY (HK2.kept hb4);have HB4:=zYt HB2 hb4;have Hxl:=zY (fun i=>extL_len (l:=exts.take i) (fun x hx=>Hxs.out x (List.mem_of_mem_take hx)));have HE0:Hid (strB (nstL (bs T))++strB (numL z)++strB (nstL (bs dig))++strB (numL exts.length)=strB (nstL (bs T)++numL z++nstL (bs dig)++numL exts.length++extL (exts.take 0))):=zY (by
  rw[strB_cat,strB_cat,strB_cat,List.take_zero,show extL []=[] from rfl,List.append_nil]);have Hal:Hid (∀i,(strB (nstL (bs T)++numL z++nstL (bs dig)++numL exts.length++extL (exts.take i))).size<=100000000):=zY (fun i=>by
  have h1:=Hxl.out i
  have h2:=Nat.mul_le_mul (show (exts.take i).length<=100000 by rw[List.length_take];omega) (Nat.le_refl 63)
  rw[strB_size]at hq1 hq2 hq3 hq4⊢
  rw[List.length_append,List.length_append,List.length_append,List.length_append]
  omega);clear hb4 HK2 HB2 hc1 hc2 hc3 hq1 hq2 hq3 hq4 HHd HS0;have c6:=HK4.c 6;go_wp2;go_loopw [5,6,7] (fun y x _ wr=>∃i:Nat,i<=exts.length/\x=.int .i64 (i:Int)/\y=.string (strB (nstL (bs T)++numL z++nstL (bs dig)++numL exts.length++extL (exts.take i)))/\Below w4.heap.size w4 wr) (fun _ x _ _=>exts.length-(intOf x).toNat);case atStart=>exact⟨0,by omega,rfl,by rw[<-HE0.out],Below.refl _ _⟩
 case round=>
 obtain⟨i,hi,rfl,rfl,hB⟩:=hrel;have HB:=zY hB;have HKr:=zY (HK4.kept hB);clear hB c6;have hys:=Hal.out i;have c6:=HKr.c 6;by_cases h:i<exts.length;{
 have hiI:(i:Int)<exts.length:=by omega
 obtain⟨x,hx'⟩:∃x,exts[i]?=some x:=⟨_,List.getElem?_eq_getElem h⟩;have hxb:=of_decide_eq_true (Hxs.out x (List.mem_of_getElem? hx'));have HN2:=zY (extL_take hx');obtain⟨_,_,e9,_,_,h4⟩:=Hvx.below (HB4.trans (HB.mono HB4.size));cases e9;obtain⟨b,o,cs,rfl,rfl,hc⟩:=h4 i x hx';obtain⟨x0,x1,x2⟩:=x;dsimp only at hxb HN2;obtain⟨n0,hn0⟩:∃n:Nat,x0=(n:Int):=⟨x0.toNat,by omega⟩;obtain⟨n1,hn1⟩:∃n:Nat,x1=(n:Int):=⟨x1.toNat,by omega⟩;obtain⟨n2,hn2⟩:∃n:Nat,x2=(n:Int):=⟨x2.toNat,by omega⟩;subst hn0 hn1 hn2;have e0:wr.cell? ⟨b,o+i*3,none⟩=some (.int .i64 (n0:Int)):=hc 0 _ rfl;have e1:wr.cell? ⟨b,o+i*3+1,none⟩=some (.int .i64 (n1:Int)):=hc 1 _ rfl;have e2:wr.cell? ⟨b,o+i*3+2,none⟩=some (.int .i64 (n2:Int)):=hc 2 _ rfl;have HN3:Hid (strB (nstL (bs T)++numL z++nstL (bs dig)++numL exts.length++extL (exts.take i))++strB (numL n0)++strB (numL n1)++strB (numL n2)=strB (nstL (bs T)++numL z++nstL (bs dig)++numL exts.length++extL (exts.take (i+1)))):=zY (by
  rw[HN2.out,strB_cat,strB_cat,strB_cat,Int.toNat_natCast,Int.toNat_natCast,Int.toNat_natCast]
  simp only[List.append_assoc]);have h5:=numL_len n0 (by omega);have h6:=numL_len n1 (by omega);have h7:=numL_len n2 (by omega);generalize strB (nstL (bs T)++numL z++nstL (bs dig)++numL exts.length++extL (exts.take i))=Y at *;have hc1:¬9223372036854775807<Y.size+(strB (numL n0)).size:=by omega
 have hc2:¬9223372036854775807<Y.size+(strB (numL n0)).size+(strB (numL n1)).size:=by omega
 have hc3:¬9223372036854775807<Y.size+(strB (numL n0)).size+(strB (numL n1)).size+(strB (numL n2)).size:=by omega
 have hm0:n0<9223372036854775808:=by omega
 have hm1:n1<9223372036854775808:=by omega
 have hm2:n2<9223372036854775808:=by omega
 have hF:=Blk.new wr 252 [.int .i64 (n0:Int),.int .i64 (n1:Int),.int .i64 (n2:Int)];change Blk (wr.alloc (.cells #[.int .i64 (n0:Int),.int .i64 (n1:Int),.int .i64 (n2:Int)] 252)) _ _ _ at hF;have HBz:=zY (HB.alloc HB.size (.cells #[.int .i64 (n0:Int),.int .i64 (n1:Int),.int .i64 (n2:Int)] 252));have HNq:Hid (∀(W:World) (n:Nat),n<9223372036854775808->Calls prog 160 #[.int .i64 (n:Int)] W fun e w'=>e=.returned (.string (strB (numL n)))/\w'=W):=zY (fun W n hn=>(HNu.out W n hn).mono fun _ _ ⟨h1,h2⟩=>⟨h1,h2.symm⟩);clear hc h4 hx' h5 h6 h7 hxb HN2;go_upto_region 9 with fail;clear e0 e1 e2 c6;generalize wr.alloc (.cells #[.int .i64 (n0:Int),.int .i64 (n1:Int),.int .i64 (n2:Int)] 252)=wz at *;generalize wr.heap.size=fb at *;have g0:=hF.c 0;have g1:=hF.c 1;have g2:=hF.c 2;clear hF;go_quiet (first|(go_at_call 160;refine Calls.quiet_of_same (HNq.out _ _ (by assumption))));go_wp2;go_roundw;case rel=>exact⟨i+1,by omega,by go_num,by rw[HN3.out],zBd HBz.out _⟩
 case measure=>simp[intOf];omega};{
 obtain rfl:i=exts.length:=by omega
 have hiI:¬((exts.length:Nat):Int)<(exts.length:Int):=by omega
 have HN2:Hid (strB (nstL (bs T)++numL z++nstL (bs dig)++numL exts.length++extL (exts.take exts.length))=strB R):=zY (by
  rw[List.take_length,<-HR.out]);generalize strB (nstL (bs T)++numL z++nstL (bs dig)++numL exts.length++extL (exts.take exts.length))=Y at *;go_wp2;go_ret2;first|exact⟨by rw[<-HN2.out]<;>rfl,HB4.trans (HB.mono HB4.size)⟩|exact⟨by rw[<-HN2.out];rfl,HB4.trans (HB.mono HB4.size)⟩}
theorem decD:∀u:Nat,(Lib.decDigits u).map (·.toNat)=digD u:=by
 intro u;induction u using Nat.strongRecOn with
 |_ u ih=>
 by_cases h:u<10;{
 rw[Lib.decDigits_one h,digD_small h];show [(UInt8.ofNat (48+u)).toNat]=_;rw[UInt8.toNat_ofNat',Nat.mod_eq_of_lt (by omega)]};{
 rw[Lib.decDigits,dif_neg h,digD_great h,List.map_append,ih (u/10) (by omega),digD_small (u:=u%10) (by omega)];show _++[(UInt8.ofNat (48+u%10)).toNat]=_;rw[UInt8.toNat_ofNat',Nat.mod_eq_of_lt (by omega)]}
theorem itoaB (n:Nat):(⟨(Lib.itoa (n:Int)).toArray⟩:ByteArray)=strB (digD n):=by
 rw[<-strB_bs ⟨(Lib.itoa (n:Int)).toArray⟩,Lib.itoa_nonneg,<-decD];rfl
def natL (l:List UInt8):List Nat:=l.map (·.toNat)
theorem index_cons (b:UInt8) (l:List UInt8):Lib.index (b::l) [47]=if b=47 then 0 else if Lib.index l [47]= -1 then -1 else Lib.index l [47]+1:=by
 rw[Lib.index];by_cases h:b=47;{
 subst h;simp[List.isPrefixOf]};{
 have hp:([47]:List UInt8).isPrefixOf (b::l)=false:=by simp[List.isPrefixOf,Ne.symm h]
 rw[hp,if_neg h];by_cases hm:Lib.index l [47]= -1;{rw[if_pos hm,hm];rfl};{
 rw[if_neg hm];simp[hm]}}
theorem splits_key:∀l:List UInt8,∃h r,Lib.splitK [47] 0 (Lib.count l [47]) l=h::r/\∀p,splitG p (natL l)=(p++natL h)::r.map natL
 |[]=>⟨[],[],by rw[Lib.count_miss (by simp[Lib.index])];rfl,fun p=>by simp[natL,splitG]⟩
 |b::t=>by
  obtain⟨h,r,h1,h2⟩:=splits_key t
  by_cases hb:b=47
  {
  subst hb
  refine⟨[],h::r,?_,fun p=>?_⟩
  {
  rw[Lib.count_cons_eq,Nat.add_comm,Lib.splitK,index_cons,if_pos rfl,if_neg (by decide)]
  simp only[Int.toNat_zero,Nat.add_zero,List.take_zero,List.length_cons,List.length_nil,Nat.zero_add,List.drop_succ_cons,List.drop_zero]
  rw[h1]}
  {
  show splitG p (47::natL t)=_
  rw[splitG,if_pos rfl,h2 []]
  simp[natL]}}
  {
  have hn:¬b.toNat=47:=fun e=>hb (by rw[<-UInt8.toNat_inj,e];rfl)
  have hg:∀p,splitG p (natL (b::t))=(p++natL (b::h))::r.map natL:=fun p=>by
   show splitG p (b.toNat::natL t)=_
   rw[splitG,if_neg hn,h2 (p++[b.toNat])]
   simp[natL]
  rw[Lib.count_cons_ne b 47 t hb]
  refine⟨b::h,r,?_,hg⟩
  cases hk:Lib.count t [47]with
  |zero=>
   rw[hk]at h1
   rw[Lib.splitK]at h1
   obtain⟨rfl,rfl⟩:=List.cons.inj h1
   rfl
  |succ k=>
   rw[hk]at h1
   have hm:Lib.index t [47]≠ -1:=fun e=>by rw[Lib.count_miss e]at hk;cases hk
   have hge:=Lib.index_ge t [47]
   obtain⟨j,hj⟩:∃j:Nat,Lib.index t [47]=j:=⟨(Lib.index t [47]).toNat,by omega⟩
   have ej:¬((j:Int)== -1)=true:=fun e=>by have:=beq_iff_eq.1 e;omega
   have ej1:¬(((j:Int)+1)== -1)=true:=fun e=>by have:=beq_iff_eq.1 e;omega
   have ej2:¬(j:Int)= -1:=by omega
   rw[Lib.splitK,hj,if_neg ej]at h1
   rw[Lib.splitK,index_cons,if_neg hb,hj,if_neg ej2,if_neg ej1]
   obtain⟨e1,e2⟩:=List.cons.inj h1
   rw[<-e1,<-e2,show ((j:Int)+1).toNat=j+1 by omega,Int.toNat_natCast]
   rfl}
theorem splits_elems (s:ByteArray):Lib.splitB ⟨#[47]⟩ 0 (Lib.countB s ⟨#[47]⟩) s=(splitG [] (bs s)).map strB:=by
 obtain⟨h,r,h1,h2⟩:=splits_key s.data.toList;have e1:=Lib.splitB_data ⟨#[47]⟩ 0 (Lib.countB s ⟨#[47]⟩) s;have e2:(Lib.splitB ⟨#[47]⟩ 0 (Lib.countB s ⟨#[47]⟩) s).map (·.data.toList)=h::r:=e1.trans h1;have e3:splitG [] (bs s)=(h::r).map natL:=by rw[show bs s=natL s.data.toList from rfl,h2 []];rfl
 rw[e3,<-e2,List.map_map,List.map_map];have:∀L:List ByteArray,L.map ((strB∘natL)∘fun x=>x.data.toList)=L:=fun L=>by
  induction L with
  |nil=>rfl
  |cons x r ih=>rw[List.map_cons,ih];exact congrArg (· :: r) (strB_bs x)
 exact(this _).symm
theorem idx_none {s:ByteArray} {p:Nat->Bool} (h:∀b∈bs s,b<128/\p b=false):∀(f pos:Nat),Lib.idxFuncFrom p true s f pos= -1
 |0,_=>rfl
 |f+1,pos=>by
  unfold Lib.idxFuncFrom
  by_cases hp:pos<s.size
  {
  have hb:=h _ (List.mem_of_getElem? (bs_get s pos hp))
  rw[if_pos hp,decode_ascii s pos hp hb.1]
  dsimp only
  rw[hb.2,if_neg (by decide)]
  exact idx_none h f (pos+1)}
  ·rw[if_neg hp]
structure Tab (w:World):Prop where
 pow : Lib.TabIs prog w "internal/strconv.uint64pow10" .u64 Lib.pow10Tab
 most:∃m:Int,w.cell? ⟨1,0,none⟩=some (.int .i64 m)
theorem var_below {w w':World} {n:String} {cs:Array Value} (h:w.var? prog n=some cs) (hb:Below w.heap.size w w'):w'.var? prog n=some cs:=by
 unfold World.var? at h⊢;cases hg:prog.globalNamed n with
 |none=>rw[hg]at h;cases h
 |some g=>
 rw[hg]at h;simp only[Option.bind_some]at h⊢;have hlt:g<w.heap.size:=by rcases Nat.lt_or_ge g w.heap.size with h'|h';{exact h'};{rw[Array.getElem?_eq_none h']at h;cases h}
 rw[hb.block g hlt];exact h
theorem Tab.below {w w':World} (h:Tab w) (hb:Below w.heap.size w w'):Tab w':=⟨var_below h.pow hb,h.most.imp fun _ hm=>cell_below hb hm⟩
theorem blwN {B:Nat} {a w:World} (h:Below B a w) (n:Nat):Below B a (w.drewN n):=h.trans ⟨rfl,rfl,rfl,Nat.le_refl _,fun _ _=>rfl⟩
theorem itoa_any (w:World) (n:Nat) (hn:n<9223372036854775808) (hT:Tab w):Calls prog 54 #[.int .i64 (n:Int)] w fun e w'=>e=.returned (.string (strB (digD n)))/\Below w.heap.size w w':=by
 refine(Tryz.strconv_Itoa (n:Int) (by omega) (by omega) w hT.pow).mono ?_;rintro e w' ⟨rfl,k,os,rfl⟩;refine⟨by rw[itoaB],rfl,rfl,rfl,?_,fun j hj=>?_⟩;{
 show w.heap.size<=(w.heap++os).size;rw[Array.size_append];omega};{
 show (w.heap++os)[j]?=_;rw[Array.getElem?_append_left hj]}
theorem nnumber_any (w:World) (n:Nat) (hn:n<9223372036854775808) (hT:Tab w):Calls prog 72 #[.int .i64 (n:Int)] w fun e w'=>e=.returned (.string (strB (numL n)))/\Below w.heap.size w w':=by
 have H1:=zY (itoa_any w n hn hT);have hs1:(strB (digD n)).size<=20:=by rw[strB_size];exact digD_len20 (by omega)
 have Hc:Hid (strB (digD n)++⟨#[32]⟩=strB (numL n)):=zY (strB_cat (digD n) [32]);generalize strB (digD n)=Q at *;have hcc:¬9223372036854775807<Q.size+1:=by omega
 go_enter func72,ntmps72;go_wp2_with fail;refine H1.mono ?_;rintro e1 w1 ⟨rfl,hb1⟩;have HB1:=zY hb1;clear hb1;go_wp2_with fail;go_ret;exact⟨by rw[<-Hc.out]<;>rfl,HB1.out⟩
theorem nnstring_any (w:World) (s:ByteArray) (hs:s.size<=100000000) (hT:Tab w):Calls prog 53 #[.string s] w fun e w'=>e=.returned (.string (strB (nstL (bs s))))/\Below w.heap.size w w':=by
 have H1:=zY (itoa_any w s.size (by omega) hT);have hs1:(strB (digD s.size)).size<=20:=by rw[strB_size];exact digD_len20 (by omega)
 have hc:strB (digD s.size)++⟨#[58]⟩++s++⟨#[44]⟩=strB (nstL (bs s)):=by have e1:=strB_cat (digD s.size) [58];have e2:=strB_cat (digD s.size++[58]) (bs s);have e3:=strB_cat (digD s.size++[58]++bs s) [44];rw[strB_bs]at e2;rw[<-e1]at e2;rw[<-e2]at e3;rw[nstL,bs_len];exact e3
 have Hc:=zY hc;clear hc;generalize strB (digD s.size)=Q at *;have hcc:¬9223372036854775807<Q.size+1:=by omega
 have hcd:¬9223372036854775807<Q.size+1+s.size:=by omega
 have hce:¬9223372036854775807<Q.size+1+s.size+1:=by omega
 go_enter func53,ntmps53;go_wp2_with fail;refine H1.mono ?_;rintro e1 w1 ⟨rfl,hb1⟩;have HB1:=zY hb1;clear hb1;go_wp2_with fail;go_ret;exact⟨by rw[<-Hc.out]<;>rfl,HB1.out⟩
def rotI (x a b:Int):Int:=bits .or .u32 (x/a) (x*b%4294967296)
theorem rot_any (w:World) (x:Int) {r a b:Int} (h:(r,a,b)=(16,65536,65536)∨(r,a,b)=(12,4096,1048576)∨(r,a,b)=(8,256,16777216)∨(r,a,b)=(7,128,33554432)):Calls prog 353 #[.int .u32 x,.int .u64 r] w fun e w'=>e=.returned (.int .u32 (rotI x a b))/\w=w':=by
 simp only[Prod.mk.injEq]at h;rcases h with⟨rfl,rfl,rfl⟩|⟨rfl,rfl,rfl⟩|⟨rfl,rfl,rfl⟩|⟨rfl,rfl,rfl⟩;all_goals
 go_enter func353,ntmps353;go_wp2;go_ret;exact⟨rfl,rfl⟩
theorem digit_any (w:World) (c:Nat) (h:48<=c/\c<=57∨97<=c/\c<=102):Calls prog 301 #[.int .u8 (c:Int)] w fun e w'=>e=.returned (.int .i64 (((if 97<=c then c-87 else c-48:Nat)):Int))/\w=w':=by
 by_cases h9:97<=c;{
 rw[if_pos h9];have f1:(97:Int)<=c:=by omega
 obtain⟨j,hj⟩:=zNm (c-87);have f2:(c:Int)-87=j:=by omega
 rw[hj];go_enter func301,ntmps301;go_wp2;go_ret;exact⟨rfl,rfl⟩};{
 rw[if_neg h9];have f1:¬(97:Int)<=c:=by omega
 obtain⟨j,hj⟩:=zNm (c-48);have f2:(c:Int)-48=j:=by omega
 rw[hj];go_enter func301,ntmps301;go_wp2;go_ret;exact⟨rfl,rfl⟩}
end
end Go.Proofs.YthgenkkkapilhaaGreatDoor
namespace Go.Proofs
section
open Go.Shelf
def Tryz.lays162_ren:Go.Shelf.Ren:=⟨fun|162=>27|232=>67|227=>68|234=>69|236=>70|228=>128|271=>129|151=>130|120=>199|197=>185|152=>200|260=>270|137=>276|119=>277|224=>278|225=>279|217=>326|266=>370|n=>n,fun|9=>9|4=>4|3=>3|5=>5|117=>144|116=>143|0=>0|124=>147|21=>21|105=>203|46=>185|119=>359|139=>362|138=>361|n=>n,fun|3=>2|4=>3|n=>n⟩
theorem Tryz.lays162:Go.Proofs.Lays.n162 prog Tryz.lays162_ren:={
  mixed:=by kernel_rfl
  f119:=func277.trans (congrArg some (by kernel_rfl))
  f120:=func199.trans (congrArg some (by kernel_rfl))
  f137:=func276.trans (congrArg some (by kernel_rfl))
  f151:=func130.trans (congrArg some (by kernel_rfl))
  f152:=func200.trans (congrArg some (by kernel_rfl))
  f162:=func27.trans (congrArg some (by kernel_rfl))
  f197:=func185.trans (congrArg some (by kernel_rfl))
  f217:=func326.trans (congrArg some (by kernel_rfl))
  f224:=func278.trans (congrArg some (by kernel_rfl))
  f225:=func279.trans (congrArg some (by kernel_rfl))
  f227:=func68.trans (congrArg some (by kernel_rfl))
  f228:=func128.trans (congrArg some (by kernel_rfl))
  f232:=func67.trans (congrArg some (by kernel_rfl))
  f234:=func69.trans (congrArg some (by kernel_rfl))
  f236:=func70.trans (congrArg some (by kernel_rfl))
  f260:=func270.trans (congrArg some (by kernel_rfl))
  f266:=func370.trans (congrArg some (by kernel_rfl))
  f271:=func129.trans (congrArg some (by kernel_rfl))
  t0:=underlying0
  a0:=isAgg0
  z0:=sizeOf0
  v0:=zeroValue0
  t3:=underlying3
  a3:=isAgg3
  z3:=sizeOf3
  v3:=zeroValue3
  t4:=underlying4
  a4:=isAgg4
  z4:=sizeOf4
  v4:=zeroValue4
  t5:=underlying5
  a5:=isAgg5
  z5:=sizeOf5
  v5:=zeroValue5
  t9:=underlying9
  a9:=isAgg9
  z9:=sizeOf9
  v9:=zeroValue9
  t21:=underlying21
  a21:=isAgg21
  z21:=sizeOf21
  v21:=zeroValue21
  t46:=underlying185
  a46:=isAgg185
  z46:=sizeOf185
  v46:=zeroValue185
  t105:=underlying203
  a105:=isAgg203
  z105:=sizeOf203
  v105:=zeroValue203
  t116:=underlying143
  a116:=isAgg143
  z116:=sizeOf143
  t117:=underlying144
  a117:=isAgg144
  z117:=sizeOf144
  v117:=zeroValue144
  t119:=underlying359
  a119:=isAgg359
  z119:=sizeOf359
  t124:=underlying147
  a124:=isAgg147
  z124:=sizeOf147
  v124:=zeroValue147
  t138:=underlying361
  a138:=isAgg361
  z138:=sizeOf361
  v138:=zeroValue361
  t139:=underlying362
  a139:=isAgg362
  z139:=sizeOf362
  v139:=zeroValue362
  g3:=by kernel_rfl
  g4:=by kernel_rfl }
open Go.RowKit in
theorem Tryz.strings_TrimRight_one (s:ByteArray) (c:UInt8) (hc:c.toNat<128) (w:World) (hs:s.size<=9223372036854775807):
    Calls prog 27 #[.string s,.string ⟨#[c]⟩] w fun e w'=>e=.returned (.string ⟨(Lib.trimRightB s.data.toList c).toArray⟩)/\w'=w:=Any.strings_TrimRight_one Tryz.lays162 s c hc w hs
def Tryz.laysPu14_ren:Go.Shelf.Ren:=⟨fun|14=>247|16=>304|17=>283|19=>354|20=>355|21=>329|22=>330|23=>331|24=>332|25=>371|27=>54|26=>372|28=>103|29=>181|30=>265|31=>266|32=>267|33=>268|35=>317|34=>316|36=>318|37=>319|38=>320|39=>366|40=>367|n=>n,fun|9=>9|3=>3|22=>211|24=>137|25=>312|4=>4|34=>365|5=>5|36=>185|37=>117|0=>0|39=>368|21=>21|44=>399|47=>201|50=>414|48=>412|2=>2|52=>323|55=>326|59=>356|60=>25|20=>20|61=>357|65=>409|66=>410|67=>140|n=>n,fun|0=>4|1=>5|2=>0|3=>6|4=>7|n=>n⟩
theorem Tryz.laysPu14:Go.Proofs.LaysPu.n14 prog Tryz.laysPu14_ren:={
  mixed:=by kernel_rfl
  f14:=func247.trans (congrArg some (by kernel_rfl))
  f16:=func304.trans (congrArg some (by kernel_rfl))
  f17:=func283.trans (congrArg some (by kernel_rfl))
  f19:=func354.trans (congrArg some (by kernel_rfl))
  f20:=func355.trans (congrArg some (by kernel_rfl))
  f21:=func329.trans (congrArg some (by kernel_rfl))
  f22:=func330.trans (congrArg some (by kernel_rfl))
  f23:=func331.trans (congrArg some (by kernel_rfl))
  f24:=func332.trans (congrArg some (by kernel_rfl))
  f25:=func371.trans (congrArg some (by kernel_rfl))
  f26:=func372.trans (congrArg some (by kernel_rfl))
  f27:=func54.trans (congrArg some (by kernel_rfl))
  f28:=func103.trans (congrArg some (by kernel_rfl))
  f29:=func181.trans (congrArg some (by kernel_rfl))
  f30:=func265.trans (congrArg some (by kernel_rfl))
  f31:=func266.trans (congrArg some (by kernel_rfl))
  f32:=func267.trans (congrArg some (by kernel_rfl))
  f33:=func268.trans (congrArg some (by kernel_rfl))
  f34:=func316.trans (congrArg some (by kernel_rfl))
  f35:=func317.trans (congrArg some (by kernel_rfl))
  f36:=func318.trans (congrArg some (by kernel_rfl))
  f37:=func319.trans (congrArg some (by kernel_rfl))
  f38:=func320.trans (congrArg some (by kernel_rfl))
  f39:=func366.trans (congrArg some (by kernel_rfl))
  f40:=func367.trans (congrArg some (by kernel_rfl))
  t0:=underlying0
  a0:=isAgg0
  z0:=sizeOf0
  v0:=zeroValue0
  i0:=by kernel_rfl
  t2:=underlying2
  a2:=isAgg2
  z2:=sizeOf2
  v2:=zeroValue2
  i2:=by kernel_rfl
  t3:=underlying3
  a3:=isAgg3
  z3:=sizeOf3
  v3:=zeroValue3
  i3:=by kernel_rfl
  t4:=underlying4
  a4:=isAgg4
  z4:=sizeOf4
  v4:=zeroValue4
  i4:=by kernel_rfl
  t5:=underlying5
  a5:=isAgg5
  z5:=sizeOf5
  v5:=zeroValue5
  i5:=by kernel_rfl
  t9:=underlying9
  a9:=isAgg9
  z9:=sizeOf9
  v9:=zeroValue9
  i9:=by kernel_rfl
  t20:=underlying20
  a20:=isAgg20
  z20:=sizeOf20
  v20:=zeroValue20
  i20:=by kernel_rfl
  t21:=underlying21
  a21:=isAgg21
  z21:=sizeOf21
  v21:=zeroValue21
  i21:=by kernel_rfl
  t22:=underlying211
  a22:=isAgg211
  z22:=sizeOf211
  v22:=zeroValue211
  i22:=by kernel_rfl
  t24:=underlying137
  a24:=isAgg137
  z24:=sizeOf137
  v24:=zeroValue137
  i24:=by kernel_rfl
  t25:=underlying312
  a25:=isAgg312
  z25:=sizeOf312
  v25:=zeroValue312
  i25:=by kernel_rfl
  t34:=underlying365
  a34:=isAgg365
  z34:=sizeOf365
  v34:=zeroValue365
  i34:=by kernel_rfl
  c34:=by kernel_rfl
  t36:=underlying185
  a36:=isAgg185
  z36:=sizeOf185
  v36:=zeroValue185
  i36:=by kernel_rfl
  t37:=underlying117
  a37:=isAgg117
  z37:=sizeOf117
  v37:=zeroValue117
  i37:=by kernel_rfl
  t39:=underlying368
  a39:=isAgg368
  z39:=sizeOf368
  v39:=zeroValue368
  i39:=by kernel_rfl
  t44:=underlying399
  a44:=isAgg399
  z44:=sizeOf399
  v44:=zeroValue399
  i44:=by kernel_rfl
  t47:=underlying201
  a47:=isAgg201
  z47:=sizeOf201
  v47:=zeroValue201
  i47:=by kernel_rfl
  t48:=underlying412
  a48:=isAgg412
  z48:=sizeOf412
  v48:=zeroValue412
  i48:=by kernel_rfl
  t50:=underlying414
  a50:=isAgg414
  z50:=sizeOf414
  v50:=zeroValue414
  i50:=by kernel_rfl
  t52:=underlying323
  a52:=isAgg323
  z52:=sizeOf323
  v52:=zeroValue323
  i52:=by kernel_rfl
  t55:=underlying326
  a55:=isAgg326
  z55:=sizeOf326
  v55:=zeroValue326
  i55:=by kernel_rfl
  t59:=underlying356
  a59:=isAgg356
  z59:=sizeOf356
  v59:=zeroValue356
  i59:=by kernel_rfl
  t60:=underlying25
  a60:=isAgg25
  z60:=sizeOf25
  v60:=zeroValue25
  i60:=by kernel_rfl
  t61:=underlying357
  a61:=isAgg357
  z61:=sizeOf357
  t65:=underlying409
  a65:=isAgg409
  z65:=sizeOf409
  v65:=zeroValue409
  i65:=by kernel_rfl
  t66:=underlying410
  a66:=isAgg410
  z66:=sizeOf410
  v66:=zeroValue410
  i66:=by kernel_rfl
  t67:=underlying140
  a67:=isAgg140
  z67:=sizeOf140
  v67:=zeroValue140
  i67:=by kernel_rfl
  g0:=by kernel_rfl
  m0:=by kernel_rfl
  g1:=by kernel_rfl
  m1:=by kernel_rfl
  g2:=by kernel_rfl
  m2:=by kernel_rfl
  g3:=by kernel_rfl
  m3:=by kernel_rfl
  g4:=by kernel_rfl
  m4:=by kernel_rfl }
open Go.RowKit in
theorem Tryz.strconv_ParseUint_10_at64_ok (s:ByteArray) (hmax:s.size<=9223372036854775806) (u:Nat) (h:Lib.parseUintB 64 s.data.toList=.ok u) (w:World):
    Calls prog 247 #[.string s,.int .i64 10,.int .i64 64] w fun e w'=>e=.returned (.tuple #[.int .u64 u,.nilIface])/\(w'=w∨w'=Lib.bytesWorld w 5 s):=Any.strconv_ParseUint_10_at64_ok Tryz.laysPu14 s hmax u h w
end
end Go.Proofs
namespace Go.Proofs.YthgenkkkapilhaaGreatDoor
open Go.Proofs.Tryz
section
open Go.RowKit
theorem take_snoc_cf {f:List Nat} {j:Nat} (hj:j<f.length):f.take (j+1)=f.take j++[cf f j]:=by
 rw[List.take_succ_eq_append_getElem hj,cf_get (List.getElem?_eq_getElem hj)]
end
end Go.Proofs.YthgenkkkapilhaaGreatDoor