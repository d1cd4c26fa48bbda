/-
  Joined: VqS VqT VqU.
-/
import Derived.Test.YthgenkkkapilhaaGreatDoorVPn22
import Derived.Test.YthgenkkkapilhaaGreatDoorVPn31
set_option linter.all false
set_option maxRecDepth 100000
set_option maxHeartbeats 64000000
namespace Go.Proofs.YthgenkkkapilhaaGreatDoor
open Go.Proofs.Tryz
section
open Go.RowKit
structure SesV (x:Ses):Prop where
 num:1<=x.num/\x.num<=255
 date:0<=x.date/\x.date<=1000000000
 prev:x.prev.size=0∨x.prev.size=32
 str:x.str.size<=14680064
 ents:x.ents.length<=10
 ok:∀e∈x.ents,EntOk e
 sig:x.sig.size<=2000
def entsL (l:List Ent):List Nat:=l.flatMap encL
def signL (x:Ses):List Nat:=numL x.num.toNat++numL x.date.toNat++nstL (bs x.prev)++(numL x.str.size++nstL (bs (strB (digL (bs x.str))))++numL x.ents.length)++entsL x.ents
theorem entsL_take {l:List Ent} {i:Nat} {x:Ent} (h:l[i]?=some x):entsL (l.take (i+1))=entsL (l.take i)++encL x:=by
 unfold entsL;rw[List.take_add_one,h,List.flatMap_append];simp
theorem entsL_len {l:List Ent} (h:∀e∈l,EntOk e):(entsL l).length<=l.length*4200000:=by
 induction l with
 |nil=>simp[entsL]
 |cons x r ih=>
 have h1:=encL_len (h x List.mem_cons_self);have h2:=(h x List.mem_cons_self).z.exn;have h3:=ih fun y hy=>h y (List.mem_cons_of_mem _ hy);have e:entsL (x::r)=encL x++entsL r:=by unfold entsL;rw[List.flatMap_cons]
 rw[e,List.length_append,List.length_cons,Nat.add_mul,Nat.one_mul];omega
theorem entsL_lt (l:List Ent):∀b∈entsL l,b<256:=by
 intro b hb;obtain⟨x,_,hx⟩:=List.mem_flatMap.1 hb;exact encL_lt x b hx
theorem signL_lt (x:Ses):∀b∈signL x,b<256:=by
 intro b hb;unfold signL at hb;simp only[List.mem_append]at hb;rcases hb with(((hb|hb)|hb)|((hb|hb)|hb))|hb;{exact numL_lt _ b hb};{exact numL_lt _ b hb};{exact nstL_lt _ b hb};{exact numL_lt _ b hb};{exact nstL_lt _ b hb};{exact numL_lt _ b hb};{
 exact entsL_lt _ b hb}
theorem dirfields_ok (w:World) (num date:Nat) (prev st sg:ByteArray) (ve:Value) (hn:1<=num/\num<=255) (hd:date<=1000000000) (hp:prev.size=0∨prev.size=32) (h1:ve.oneCell'=true):Calls prog 100 #[.agg #[.int .i64 (num:Int),.int .i64 (date:Int),.string prev,ve,.string st,.string sg]] w fun r w'=>r=.returned (.int .i64 0)/\Below w.heap.size w w':=by
 have hK:=Blk.new w 45 [.int .i64 (num:Int),.int .i64 (date:Int),.string prev,ve,.string st,.string sg];change Blk (w.alloc (.cells #[.int .i64 (num:Int),.int .i64 (date:Int),.string prev,ve,.string st,.string sg] 45)) _ _ _ at hK;have HB0:=zY (zBl w (.cells #[.int .i64 (num:Int),.int .i64 (date:Int),.string prev,ve,.string st,.string sg] 45));have HK:=zY hK;clear hK;have i1:¬(num:Int)<1:=by omega
 have i2:¬(255:Int)<num:=by omega
 have i3:¬(date:Int)<0:=by omega
 have i4:¬(1000000000:Int)<date:=by omega
 rcases hp with hp|hp;{
 have e0:prev=⟨#[]⟩:=by apply ByteArray.ext;exact Array.eq_empty_of_size_eq_zero hp
 subst e0;clear hp;go_enter func100,ntmps100;go_upto_region 1 with fail;generalize w.alloc (.cells #[.int .i64 (num:Int),.int .i64 (date:Int),.string ⟨#[]⟩,ve,.string st,.string sg] 45)=wb at *;have c0:=HK.c 0;have c1:=HK.c 1;have c2:=HK.c 2;go_wp2_with fail;go_ret;exact⟨rfl,HB0.out⟩};{
 have hb0:prev.toList.isEmpty=false:=isEmptyV (by omega);have i5:((prev.size:Int) != 32)=false:=by rw[hp];rfl
 clear hp;go_enter func100,ntmps100;go_upto_region 1 with fail;generalize w.alloc (.cells #[.int .i64 (num:Int),.int .i64 (date:Int),.string prev,ve,.string st,.string sg] 45)=wb at *;have c0:=HK.c 0;have c1:=HK.c 1;have c2:=HK.c 2;go_wp2_with fail;go_ret;exact⟨rfl,HB0.out⟩}
theorem dirsigned_ok (w:World) (x:Ses) (ve:Value) (hve:SeqAt entS w ve x.ents) (h:SesV x) (hT:Tab w):Calls prog 52 #[.agg #[.int .i64 x.num,.int .i64 x.date,.string x.prev,ve,.string x.str,.string x.sig]] w fun r w'=>r=.returned (.tuple #[.string (strB (signL x)),.int .i64 0])/\Below w.heap.size w w':=by
 have HT:=zY hT;have HLt:=zY (signL_lt x);obtain⟨R,hR⟩:=zNm (signL x);rw[hR]at HLt⊢;rw[signL]at hR;have hnum:=h.num;have hdate:=h.date;have hprev:=h.prev;have hstr:=h.str;have hen:=h.ents;have Hok:=zY h.ok;have hsig:=h.sig;clear h hT;obtain⟨num,date,prev,l,st,sg⟩:=x;dsimp only at hve hnum hdate hprev hstr hen Hok hsig hR⊢;obtain⟨num,rfl⟩:∃z:Nat,num=(z:Int):=⟨num.toNat,by omega⟩;obtain⟨date,rfl⟩:∃z:Nat,date=(z:Int):=⟨date.toNat,by omega⟩;rw[Int.toNat_natCast,Int.toNat_natCast]at hR;obtain⟨D,hD⟩:=zNm (strB (digL (bs st)));have hDz:D.size=32:=by rw[<-hD,strB_size,digL_len]
 rw[hD]at hR;have HD:=zY hD;have HR:=zY hR;have Hve:=zY hve;have hone:=hve.one;have HFi:=zY (fun W=>dirfields_ok W num date prev st sg ve (by omega) (by omega) hprev hone);obtain⟨Ae,ce,rfl,he1,he2⟩:=hve.slice;generalize hne:l.length=ne at *;have Hne:=zY hne;have hpz:prev.size<=32:=by omega
 clear hve hR hD hone hne hprev;have hK:=Blk.new w 45 [.int .i64 (num:Int),.int .i64 (date:Int),.string prev,.slice Ae ne ce,.string st,.string sg];change Blk (w.alloc (.cells #[.int .i64 (num:Int),.int .i64 (date:Int),.string prev,.slice Ae ne ce,.string st,.string sg] 45)) _ _ _ at hK;have HB0:=zY (zBl w (.cells #[.int .i64 (num:Int),.int .i64 (date:Int),.string prev,.slice Ae ne ce,.string st,.string sg] 45));have HK:=zY hK;clear hK;have i1:¬(14680064:Int)<st.size:=by omega
 have i2:¬(400:Int)<ne:=by omega
 have i3:¬(2000:Int)<sg.size:=by omega
 go_enter func52,ntmps52;go_upto_region 1 with fail;generalize w.alloc (.cells #[.int .i64 (num:Int),.int .i64 (date:Int),.string prev,.slice Ae ne ce,.string st,.string sg] 45)=wb at *;have c0:=HK.c 0;have c1:=HK.c 1;have c2:=HK.c 2;have c3:=HK.c 3;have c4:=HK.c 4;have c5:=HK.c 5;go_wp2_with fail;refine(HFi.out _).mono ?_;rintro e1 w1 ⟨rfl,hb1⟩;have HK1:=zY (HK.kept hb1);have HB1:=zYt HB0 hb1;clear hb1 c0 c1 c2 c3 c4 c5 HK HB0;have c3:=HK1.c 3;have c4:=HK1.c 4;obtain⟨T1,hT1⟩:=zNm (strB (numL num));obtain⟨T2,hT2⟩:=zNm (strB (numL date));obtain⟨T3,hT3⟩:=zNm (strB (nstL (bs prev)));obtain⟨T4,hT4⟩:=zNm (strB (numL st.size));obtain⟨T5,hT5⟩:=zNm (strB (nstL (bs D)));obtain⟨T6,hT6⟩:=zNm (strB (numL ne));have q1:T1.size<=21:=by rw[<-hT1];exact numL_len num (by omega)
 have q2:T2.size<=21:=by rw[<-hT2];exact numL_len date (by omega)
 have q3:T3.size<=100:=by rw[<-hT3];have:=nstL_len prev (by omega);omega
 have q4:T4.size<=21:=by rw[<-hT4];exact numL_len st.size (by omega)
 have q5:T5.size<=100:=by rw[<-hT5];have:=nstL_len D (by omega);omega
 have q6:T6.size<=21:=by rw[<-hT6];exact numL_len ne (by omega)
 have HTa:Hid ((T1++T2++T3).size<=1000000000):=zY (by simp only[ByteArray.size_append];omega);have HTb:Hid ((T4++T5++T6).size<=1000000000):=zY (by simp only[ByteArray.size_append];omega);have HTab:Hid (bs (T1++T2++T3)=numL num++numL date++nstL (bs prev)):=zY (by
  rw[<-hT1,<-hT2,<-hT3,strB_cat,strB_cat,bs_strB]
  intro b hb
  simp only[List.mem_append]at hb
  rcases hb with(hb|hb)|hb
  ·exact numL_lt _ b hb
  ·exact numL_lt _ b hb
  ·exact nstL_lt _ b hb);have HTbb:Hid (bs (T4++T5++T6)=numL st.size++nstL (bs D)++numL ne):=zY (by
  rw[<-hT4,<-hT5,<-hT6,strB_cat,strB_cat,bs_strB]
  intro b hb
  simp only[List.mem_append]at hb
  rcases hb with(hb|hb)|hb
  ·exact numL_lt _ b hb
  ·exact nstL_lt _ b hb
  ·exact numL_lt _ b hb);have HLa:Hid (([]++bs (T1++T2++T3)).length<=1000000000):=zY (by rw[List.nil_append,bs_len];exact HTa.out);have HLb:Hid (([]++bs (T1++T2++T3)++bs (T4++T5++T6)).length<=1000):=zY (by rw[List.nil_append,List.length_append,bs_len,bs_len];simp only[ByteArray.size_append];omega);have hc1:¬9223372036854775807<T1.size+T2.size:=by omega
 have hc2:¬9223372036854775807<T1.size+T2.size+T3.size:=by omega
 have hc3:¬9223372036854775807<T4.size+T5.size:=by omega
 have hc4:¬9223372036854775807<T4.size+T5.size+T6.size:=by omega
 have HSt:Hid (∀(W:World) (s:ByteArray),Below w1.heap.size w1 W->s.size<=100000000->Calls prog 53 #[.string s] W fun e w'=>e=.returned (.string (strB (nstL (bs s))))/\Below W.heap.size W w'):=zY (fun W s hW hs=>nnstring_any W s (by omega) (HT.below (HB1.trans (hW.mono HB1.size))));have HNu:Hid (∀(W:World) (n:Nat),Below w1.heap.size w1 W->n<9223372036854775808->Calls prog 72 #[.int .i64 (n:Int)] W fun e w'=>e=.returned (.string (strB (numL n)))/\Below W.heap.size W w'):=zY (fun W n hW hn=>nnumber_any W n hn (HT.below (HB1.trans (hW.mono HB1.size))));have HSm:Hid (∀(W:World) (v:Value),SeqAt strS W v [st]->Calls prog 71 #[v] W fun e w'=>e=.returned (.string (strB (digL (bs st))))/\Below W.heap.size W w'):=zY (fun W v h=>bsum_any W v st h (by omega));have HZ1:Hid (num<9223372036854775808):=zY (by omega);have HZ2:Hid (date<9223372036854775808):=zY (by omega);have HZ3:Hid (prev.size<=100000000):=zY (by omega);have HZ4:Hid (st.size<9223372036854775808):=zY (by omega);have HZ5:Hid (D.size<=100000000):=zY (by omega);have HZ6:Hid (ne<9223372036854775808):=zY (by omega);have H1:=zY hT1;have H2:=zY hT2;have H3:=zY hT3;have H4:=zY hT4;have H5:=zY hT5;have H6:=zY hT6;clear hT1 hT2 hT3 hT4 hT5 hT6 q1 q2 q3 q4 q5 q6 hDz hpz;have HBl0:=zY (Bld.new w1);have HBc0:=zY (zBl w1 (.cells #[.pointer none,.slice none 0 0] 135));go_upto_region 7 with fail;generalize w1.alloc (.cells #[.pointer none,.slice none 0 0] 135)=wz at *;clear c3 c4;have HBl:=zY HBl0.drew;have HBc:=zY HBc0.drew;go_cut [] (fun wx=>Bld wx w1.heap.size w1.heap.size ([]++bs (T1++T2++T3))/\Below w1.heap.size w1 wx);case first=>(
 refine wp_region_held_drew (S:=(fun W=>W.cell? ⟨w.heap.size,0,none⟩=some (.int .i64 (num:Int))/\W.cell? ⟨w.heap.size,1,none⟩=some (.int .i64 (date:Int))/\W.cell? ⟨w.heap.size,2,none⟩=some (.string prev)/\W.cell? ⟨w.heap.size,3,none⟩=some (.slice Ae ne ce)/\W.cell? ⟨w.heap.size,4,none⟩=some (.string st)/\W.cell? ⟨w.heap.size,5,none⟩=some (.string sg))) (by kernel_rfl) ?_ (fun hHeld=>?_);{exact⟨(HK1.kept HBc.out).c 0,(HK1.kept HBc.out).c 1,(HK1.kept HBc.out).c 2,(HK1.kept HBc.out).c 3,(HK1.kept HBc.out).c 4,(HK1.kept HBc.out).c 5⟩};refine tk 0 ?_;refine tk 1 ?_;refine tk 3 ?_;refine tk 4 ?_;refine tk 7 ?_;refine tk 8 ?_;refine zE1 2 fun K hK=>?_;go_simp;refine(show Calls _ _ _ _ fun e w'=>e=.returned (.string T1)/\_ by rw[<-H1.out];exact HNu.out _ num HBc.out HZ1.out).mono ?_;rintro e5 w5 ⟨rfl,hb5⟩;(try go_wp2_with fail);have HBl:=zY (HBl.below hb5);have HBc:=zYt HBc hb5;first|(have HV:=zY (HV.below hb5))|skip
 clear hb5;refine hko hK (by exact⟨(HK1.kept HBc.out).c 0,(HK1.kept HBc.out).c 1,(HK1.kept HBc.out).c 2,(HK1.kept HBc.out).c 3,(HK1.kept HBc.out).c 4,(HK1.kept HBc.out).c 5⟩) (fun _=>?_);clear hK K;refine zE1 5 fun K hK=>?_;go_simp;refine(show Calls _ _ _ _ fun e w'=>e=.returned (.string T2)/\_ by rw[<-H2.out];exact HNu.out _ date HBc.out HZ2.out).mono ?_;rintro e6 w6 ⟨rfl,hb6⟩;(try go_wp2_with fail);have HBl:=zY (HBl.below hb6);have HBc:=zYt HBc hb6;first|(have HV:=zY (HV.below hb6))|skip
 clear hb6;refine hko hK (by exact⟨(HK1.kept HBc.out).c 0,(HK1.kept HBc.out).c 1,(HK1.kept HBc.out).c 2,(HK1.kept HBc.out).c 3,(HK1.kept HBc.out).c 4,(HK1.kept HBc.out).c 5⟩) (fun _=>?_);clear hK K;refine tk 6 ?_;refine zE1 9 fun K hK=>?_;go_simp;refine(show Calls _ _ _ _ fun e w'=>e=.returned (.string T3)/\_ by rw[<-H3.out];exact HSt.out _ prev HBc.out HZ3.out).mono ?_;rintro e7 w7 ⟨rfl,hb7⟩;(try go_wp2_with fail);have HBl:=zY (HBl.below hb7);have HBc:=zYt HBc hb7;first|(have HV:=zY (HV.below hb7))|skip
 clear hb7;refine hko hK (by exact⟨(HK1.kept HBc.out).c 0,(HK1.kept HBc.out).c 1,(HK1.kept HBc.out).c 2,(HK1.kept HBc.out).c 3,(HK1.kept HBc.out).c 4,(HK1.kept HBc.out).c 5⟩) (fun _=>?_);clear hK K;refine tk 10 ?_;refine zE1 11 fun K hK=>?_;go_simp;refine(wsB _ _ _ _ (T1++T2++T3) HBl.out (by decide) HTa.out HBc.size).mono ?_;rintro e8 w8 ⟨rfl,hbl8,hb8⟩;(try go_wp2_with fail);have HBl:=zY hbl8;have HBc:=zY (HBc.trans hb8);clear hb8 hbl8;refine hko hK (by exact⟨(HK1.kept HBc.out).c 0,(HK1.kept HBc.out).c 1,(HK1.kept HBc.out).c 2,(HK1.kept HBc.out).c 3,(HK1.kept HBc.out).c 4,(HK1.kept HBc.out).c 5⟩) (fun _=>?_);clear hK K;refine wpAnyH_done (by kernel_rfl) ?_ _;go_wp2_with fail;go_meet;exact⟨HBl.out,HBc.out⟩)
 case rest=>
 obtain⟨hbl,hbc⟩:=hcut;have HBl:=zY hbl.drew;have HBc:=zY hbc.drew;clear hbl hbc HBl0 HBc0;obtain⟨wq,rfl⟩:∃x,x=wc:=⟨_,rfl⟩;go_upto_region 8 with fail;go_cut [] (fun wx=>Bld wx w1.heap.size w1.heap.size ([]++bs (T1++T2++T3)++bs (T4++T5++T6))/\Below w1.heap.size w1 wx);case first=>(
 refine wp_region_held_drew (S:=(fun W=>W.cell? ⟨w.heap.size,0,none⟩=some (.int .i64 (num:Int))/\W.cell? ⟨w.heap.size,1,none⟩=some (.int .i64 (date:Int))/\W.cell? ⟨w.heap.size,2,none⟩=some (.string prev)/\W.cell? ⟨w.heap.size,3,none⟩=some (.slice Ae ne ce)/\W.cell? ⟨w.heap.size,4,none⟩=some (.string st)/\W.cell? ⟨w.heap.size,5,none⟩=some (.string sg))) (by kernel_rfl) ?_ (fun hHeld=>?_);{exact⟨(HK1.kept HBc.out).c 0,(HK1.kept HBc.out).c 1,(HK1.kept HBc.out).c 2,(HK1.kept HBc.out).c 3,(HK1.kept HBc.out).c 4,(HK1.kept HBc.out).c 5⟩};refine tk 0 ?_;refine tk 1 ?_;refine tk 2 ?_;refine tk 4 ?_;refine tk 5 ?_;refine tk 10 ?_;refine tk 11 ?_;refine tk 12 ?_;refine zEs [3,6] (zEc (fun K hK=>?_) (zEc (fun K hK=>?_) AllReadyH.nil));go_simp;refine(show Calls _ _ _ _ fun e w'=>e=.returned (.string T4)/\_ by rw[<-H4.out];exact HNu.out _ st.size HBc.out HZ4.out).mono ?_;rintro e5 w5 ⟨rfl,hb5⟩;(try go_wp2_with fail);have HBl:=zY (HBl.below hb5);have HBc:=zYt HBc hb5;first|(have HV:=zY (HV.below hb5))|skip
 clear hb5;refine hko hK (by exact⟨(HK1.kept HBc.out).c 0,(HK1.kept HBc.out).c 1,(HK1.kept HBc.out).c 2,(HK1.kept HBc.out).c 3,(HK1.kept HBc.out).c 4,(HK1.kept HBc.out).c 5⟩) (fun _=>?_);clear hK K;refine zE1 6 fun K hK=>?_;go_simp;have HV:=zY (str1 HBc.out st);have HBl:=zY (HBl.alloc (.cells #[.string st] 9));have HBc:=zY (HBc.alloc HBc.size (.cells #[.string st] 9));rotate_left;go_simp;have HV:=zY (str1 HBc.out st);have HBl:=zY (HBl.alloc (.cells #[.string st] 9));have HBc:=zY (HBc.alloc HBc.size (.cells #[.string st] 9));refine hko hK (by exact⟨(HK1.kept HBc.out).c 0,(HK1.kept HBc.out).c 1,(HK1.kept HBc.out).c 2,(HK1.kept HBc.out).c 3,(HK1.kept HBc.out).c 4,(HK1.kept HBc.out).c 5⟩) (fun _=>?_);clear hK K;refine zE1 3 fun K hK=>?_;go_simp;refine(show Calls _ _ _ _ fun e w'=>e=.returned (.string T4)/\_ by rw[<-H4.out];exact HNu.out _ st.size HBc.out HZ4.out).mono ?_;rintro e5 w5 ⟨rfl,hb5⟩;(try go_wp2_with fail);have HBl:=zY (HBl.below hb5);have HBc:=zYt HBc hb5;first|(have HV:=zY (HV.below hb5))|skip
 clear hb5;rotate_left;all_goals
 refine hko hK (by exact⟨(HK1.kept HBc.out).c 0,(HK1.kept HBc.out).c 1,(HK1.kept HBc.out).c 2,(HK1.kept HBc.out).c 3,(HK1.kept HBc.out).c 4,(HK1.kept HBc.out).c 5⟩) (fun _=>?_);clear hK K;refine zE1 7 fun K hK=>?_;go_simp;refine(show Calls _ _ _ _ fun e w'=>e=.returned (.string D)/\_ by rw[<-HD.out];exact HSm.out _ _ HV.out).mono ?_;rintro e6 w6 ⟨rfl,hb6⟩;(try go_wp2_with fail);have HBl:=zY (HBl.below hb6);have HBc:=zYt HBc hb6;clear hb6;refine hko hK (by exact⟨(HK1.kept HBc.out).c 0,(HK1.kept HBc.out).c 1,(HK1.kept HBc.out).c 2,(HK1.kept HBc.out).c 3,(HK1.kept HBc.out).c 4,(HK1.kept HBc.out).c 5⟩) (fun _=>?_);clear hK K;refine zE1 8 fun K hK=>?_;go_simp;refine(show Calls _ _ _ _ fun e w'=>e=.returned (.string T5)/\_ by rw[<-H5.out];exact HSt.out _ D HBc.out HZ5.out).mono ?_;rintro e7 w7 ⟨rfl,hb7⟩;(try go_wp2_with fail);have HBl:=zY (HBl.below hb7);have HBc:=zYt HBc hb7;first|(have HV:=zY (HV.below hb7))|skip
 clear hb7;refine hko hK (by exact⟨(HK1.kept HBc.out).c 0,(HK1.kept HBc.out).c 1,(HK1.kept HBc.out).c 2,(HK1.kept HBc.out).c 3,(HK1.kept HBc.out).c 4,(HK1.kept HBc.out).c 5⟩) (fun _=>?_);clear hK K;refine tk 9 ?_;refine zE1 13 fun K hK=>?_;go_simp;refine(show Calls _ _ _ _ fun e w'=>e=.returned (.string T6)/\_ by rw[<-H6.out];exact HNu.out _ ne HBc.out HZ6.out).mono ?_;rintro e8 w8 ⟨rfl,hb8⟩;(try go_wp2_with fail);have HBl:=zY (HBl.below hb8);have HBc:=zYt HBc hb8;first|(have HV:=zY (HV.below hb8))|skip
 clear hb8;refine hko hK (by exact⟨(HK1.kept HBc.out).c 0,(HK1.kept HBc.out).c 1,(HK1.kept HBc.out).c 2,(HK1.kept HBc.out).c 3,(HK1.kept HBc.out).c 4,(HK1.kept HBc.out).c 5⟩) (fun _=>?_);clear hK K;refine tk 14 ?_;refine zE1 15 fun K hK=>?_;go_simp;refine(wsB _ _ _ _ (T4++T5++T6) HBl.out HLa.out HTb.out HBc.size).mono ?_;rintro e9 w9 ⟨rfl,hbl9,hb9⟩;(try go_wp2_with fail);have HBl:=zY hbl9;have HBc:=zY (HBc.trans hb9);clear hb9 hbl9;refine hko hK (by exact⟨(HK1.kept HBc.out).c 0,(HK1.kept HBc.out).c 1,(HK1.kept HBc.out).c 2,(HK1.kept HBc.out).c 3,(HK1.kept HBc.out).c 4,(HK1.kept HBc.out).c 5⟩) (fun _=>?_);clear hK K;refine wpAnyH_done (by kernel_rfl) ?_ _;go_wp2_with fail;go_meet;exact⟨HBl.out,HBc.out⟩)
 case rest=>
 obtain⟨hbl,hbc⟩:=hcut;obtain⟨A0,hA0⟩:=zNm ([]++bs (T1++T2++T3)++bs (T4++T5++T6));rw[hA0]at hbl HLb;have HA0:Hid (A0=numL num++numL date++nstL (bs prev)++(numL st.size++nstL (bs D)++numL ne)):=zY (by rw[<-hA0,List.nil_append,HTab.out,HTbb.out]);have HBl3:=zY hbl;have HBc3:=zY hbc;have HK3:=zY (HK1.kept hbc);clear hbl hbc HBl HBc hA0 hc1 hc2 hc3 hc4 HTa HTb HTab HTbb HLa H1 H2 H3 H4 H5 H6 HZ1 HZ2 HZ3 HZ4 HZ5 HZ6;have c3:=HK3.c 3;have HAl:Hid (∀i,(entsL (l.take i)).length<=42000000):=zY (fun i=>by
  have h1:=entsL_len (l:=l.take i) (fun e he=>Hok.out e (List.mem_of_mem_take he))
  have h2:=Nat.mul_le_mul (show (l.take i).length<=10 by rw[List.length_take];have:=Hne.out;omega) (Nat.le_refl 4200000)
  omega);obtain⟨wk,rfl⟩:∃x,x=wc:=⟨_,rfl⟩;go_wp2;go_loopw [8,9,56] (fun _ _ x wr=>∃i:Nat,i<=ne/\x=.int .i64 (i:Int)/\Bld wr w1.heap.size w1.heap.size (A0++entsL (l.take i))/\Below w1.heap.size w1 wr) (fun _ _ x _=>ne-(intOf x).toNat);case atStart=>exact⟨0,by omega,rfl,by rw[List.take_zero,show entsL []=[] from rfl,List.append_nil];exact HBl3.out,HBc3.out⟩
 case round=>
 obtain⟨i,hi,rfl,hbl,hB⟩:=hrel;have HBl:=zY hbl;have HB:=zY hB;clear hbl hB c3;by_cases h:i<ne;{
 have hiI:(i:Int)<ne:=by omega
 have hlt:i<l.length:=by have:=Hne.out;omega
 obtain⟨x,hx'⟩:∃x,l[i]?=some x:=⟨_,List.getElem?_eq_getElem hlt⟩;have Hxo:=zY (Hok.out x (List.mem_of_getElem? hx'));have HNx:=zY (entsL_take hx');obtain⟨_,_,e9,_,_,h4⟩:=Hve.below (HB1.trans (HB.mono HB1.size));rw[Hne.out]at e9;cases e9;obtain⟨b,o,cs,rfl,hR9,hc⟩:=h4 i x hx';obtain⟨va,vx,rfl,hva,hvx⟩:=hR9;obtain⟨Aa,ca,rfl,_,_⟩:=hva.slice;obtain⟨Ax,cx,rfl,_,_⟩:=hvx.slice;have e0:wr.cell? ⟨b,o+i*7,none⟩=some (.int .i64 x.k):=hc 0 _ rfl;have e1:wr.cell? ⟨b,o+i*7+1,none⟩=some (.string x.path):=hc 1 _ rfl;have e2:wr.cell? ⟨b,o+i*7+2,none⟩=some (.slice Aa x.attrs.length ca):=hc 2 _ rfl;have e3:wr.cell? ⟨b,o+i*7+3,none⟩=some (.string x.tgt):=hc 3 _ rfl;have e4:wr.cell? ⟨b,o+i*7+4,none⟩=some (.int .i64 x.size):=hc 4 _ rfl;have e5:wr.cell? ⟨b,o+i*7+5,none⟩=some (.string x.dig):=hc 5 _ rfl;have e6:wr.cell? ⟨b,o+i*7+6,none⟩=some (.slice Ax x.exts.length cx):=hc 6 _ rfl;have hTm:=Blk.new wr 182 [.int .i64 x.k,.string x.path,.slice Aa x.attrs.length ca,.string x.tgt,.int .i64 x.size,.string x.dig,.slice Ax x.exts.length cx];change Blk (wr.alloc (.cells #[.int .i64 x.k,.string x.path,.slice Aa x.attrs.length ca,.string x.tgt,.int .i64 x.size,.string x.dig,.slice Ax x.exts.length cx] 182)) _ _ _ at hTm;have HTm:=zY hTm;have HBw:=zY (zBl wr (.cells #[.int .i64 x.k,.string x.path,.slice Aa x.attrs.length ca,.string x.tgt,.int .i64 x.size,.string x.dig,.slice Ax x.exts.length cx] 182));have HBt:=zY (HB.alloc HB.size (.cells #[.int .i64 x.k,.string x.path,.slice Aa x.attrs.length ca,.string x.tgt,.int .i64 x.size,.string x.dig,.slice Ax x.exts.length cx] 182))
 have HBlt:=zY (HBl.alloc (.cells #[.int .i64 x.k,.string x.path,.slice Aa x.attrs.length ca,.string x.tgt,.int .i64 x.size,.string x.dig,.slice Ax x.exts.length cx] 182));have Hva:=zY (hva.below HBw.out);have Hvx:=zY (hvx.below HBw.out);clear hc h4 hx' hTm hva hvx;obtain⟨X,hX⟩:=zNm (strB (encL x));have HXb:Hid (bs X=encL x):=zY (by rw[<-hX,bs_strB (encL_lt x)]);have HXz:Hid (X.size<=4200000):=zY (by rw[<-hX,strB_size];have:=encL_len Hxo.out;have:=Hxo.z.exn;omega);go_upto_region 12 with fail;generalize wr.alloc (.cells #[.int .i64 x.k,.string x.path,.slice Aa x.attrs.length ca,.string x.tgt,.int .i64 x.size,.string x.dig,.slice Ax x.exts.length cx] 182)=wt at *;clear e0 e1 e2 e3 e4 e5 e6;have t0:=HTm.c 0;have t1:=HTm.c 1;have t2:=HTm.c 2;have t3:=HTm.c 3;have t4:=HTm.c 4;have t5:=HTm.c 5;have t6:=HTm.c 6;have HEn:=zY (enencode_ok wt x _ _ Hva.out Hvx.out Hxo.out (HT.below (HB1.trans (HBt.mono HB1.size))));rw[entV,hX]at HEn;clear hX;go_wp2_with fail;refine HEn.mono ?_;rintro e4 w4 ⟨rfl,hb4⟩;have HW:=zY (wsB w4 w1.heap.size w1.heap.size _ X (HBlt.below hb4) (by rw[List.length_append];have:=HLb.out;have:=HAl.out i;omega) (by have:=HXz.out;omega) (HBt.trans (hb4.mono HBt.size)).size);have HB4:=zYt HBt hb4;clear hb4 t0 t1 t2 t3 t4 t5 t6;go_wp2_with fail;refine HW.mono ?_;rintro e5 w5 ⟨rfl,hbl5,hb5⟩;have HBl5:=zY hbl5;have HB5:=zY (HB4.trans hb5);clear hbl5 hb5;go_wp2_with fail;go_roundw;case rel=>exact⟨i+1,by omega,by go_num,by rw[HNx.out,<-HXb.out,<-List.append_assoc];exact HBl5.out,HB5.out⟩
 case measure=>simp[intOf];omega};{
 obtain rfl:i=ne:=by omega
 have hiI:¬((i:Nat):Int)<(i:Int):=by omega
 have HRl:Hid (A0++entsL (l.take i)=R):=zY (by rw[<-HR.out,HA0.out,List.take_of_length_le (by have:=Hne.out;omega)]);have HRz:Hid (R.length<=43000000):=zY (by rw[<-HRl.out,List.length_append];have:=HLb.out;have:=HAl.out i;omega);rw[HRl.out]at HBl;have HKr:=zY (HK1.kept HB.out);have c5:=HKr.c 5;have HLe:=zY (lenB wr w1.heap.size w1.heap.size R HBl.out);have i4:¬(90000000:Int)<R.length:=by have:=HRz.out;omega
 go_wp2_with fail;refine HLe.mono ?_;rintro e4 w4 ⟨rfl,rfl⟩;have HS:=zY (str_any w4 w1.heap.size w1.heap.size R HLt.out HBl.out HB.size);go_wp2_with fail;refine HS.mono ?_;rintro e6 w6 ⟨rfl,_,hb6⟩;have HB6:=zY (HB1.trans ((HB.trans hb6).mono HB1.size));clear hb6;go_wp2_with fail;go_ret2;exact⟨rfl,HB6.out⟩}
def digK (k n:Nat):List Nat:=(List.range k).map fun i=>48+n/10^(k-1-i)%10
theorem pad_eq:∀(k n:Nat),n<10^(k+1)->List.replicate (k+1-(digD n).length) 48++digD n=digK (k+1) n
 |0,n,h=>by
  have h:n<10:=by simpa using h
  rw[digD_small h]
  show List.replicate (1-1) 48++[48+n]=[48+n/10^0%10]
  rw[Nat.pow_zero,Nat.div_one,Nat.mod_eq_of_lt h]
  rfl
 |k+1,n,h=>by
  have e:digK (k+1+1) n=digK (k+1) (n/10)++[48+n%10]:=by
   unfold digK
   rw[List.range_succ,List.map_append]
   congr 1
   {
   refine List.map_congr_left fun i hi=>?_
   have hi:=List.mem_range.1 hi
   rw[show k+1+1-1-i=(k+1-1-i)+1 by omega,Nat.pow_succ,Nat.mul_comm,<-Nat.div_div_eq_div_mul]}
   ·simp
  rw[e]
  by_cases h10:n<10
  {
  have e2:digK (k+1) (n/10)=List.replicate (k+1) 48:=by
   rw[Nat.div_eq_of_lt h10]
   unfold digK
   apply List.ext_getElem (by simp)
   intro j h1 h2
   simp
  rw[digD_small h10,e2,Nat.mod_eq_of_lt h10]
  rfl}
  {
  have hl:(digD n).length=(digD (n/10)).length+1:=by rw[digD_great h10,digD_small (u:=n%10) (by omega),List.length_append];rfl
  have:=pad_eq k (n/10) (by rw[Nat.pow_succ]at h;omega)
  rw[<-this,hl,digD_great h10,digD_small (u:=n%10) (by omega),<-List.append_assoc,show k+1+1-((digD (n/10)).length+1)=k+1-(digD (n/10)).length by omega]}
def dig8 (n:Nat):List Nat:=digK 8 n
theorem dig8_len (n:Nat):(dig8 n).length=8:=by simp[dig8,digK]
def restL (x:Ses):List Nat:=signL x++nstL (bs x.sig)
def dirL (x:Ses):List Nat:=dig8 (restL x).length++restL x
theorem signL_len {x:Ses} (h:SesV x):(signL x).length<=42001000:=by
 have h1:=numL_len x.num.toNat (by have:=h.num;omega);have h2:=numL_len x.date.toNat (by have:=h.date;omega);have h3:=nstL_len x.prev (by have:=h.prev;omega);have h4:=numL_len x.str.size (by have:=h.str;omega);have h5:=nstL_len (strB (digL (bs x.str))) (by rw[strB_size,digL_len];decide);have h6:=numL_len x.ents.length (by have:=h.ents;omega);have h7:=entsL_len h.ok;have h8:=Nat.mul_le_mul h.ents (Nat.le_refl 4200000);have h9:=h.prev;rw[strB_size]at h1 h2 h3 h4 h5 h6;rw[strB_size,digL_len]at h5;rw[signL];simp only[List.length_append];omega
theorem restL_len {x:Ses} (h:SesV x):(restL x).length<=42004000:=by
 have h1:=signL_len h;have h2:=nstL_len x.sig (by have:=h.sig;omega);have h3:=h.sig;rw[strB_size]at h2;rw[restL,List.length_append];omega
theorem direncode_ok (w:World) (x:Ses) (ve:Value) (hve:SeqAt entS w ve x.ents) (h:SesV x) (hT:Tab w):Calls prog 19 #[.agg #[.int .i64 x.num,.int .i64 x.date,.string x.prev,ve,.string x.str,.string x.sig]] w fun r w'=>r=.returned (.tuple #[.string (strB (dirL x)),.int .i64 0])/\Below w.heap.size w w':=by
 have HSi:=zY (fun W (hW:Below w.heap.size w W)=>dirsigned_ok W x ve (hve.below hW) h (hT.below hW));have HT:=zY hT;have hone:=hve.one;obtain⟨A,c,rfl,_,_⟩:=hve.slice;have hsl:=signL_len h;have hsig:=h.sig;obtain⟨X,hX⟩:=zNm (strB (signL x));have hXz:X.size<=42001000:=by rw[<-hX,strB_size];exact hsl
 rw[hX]at HSi;obtain⟨Y,hY⟩:=zNm (strB (nstL (bs x.sig)));have hYz:Y.size<=2100:=by rw[<-hY];have:=nstL_len x.sig (by omega);omega
 obtain⟨Z,hZ⟩:=zNm (X++Y);have hZr:strB (restL x)=Z:=by rw[<-hZ,<-hX,<-hY,strB_cat];rfl
 have hZz:Z.size=(restL x).length:=by rw[<-hZr,strB_size]
 have hZz2:Z.size<=42004000:=by rw[<-hZ,ByteArray.size_append];omega
 obtain⟨N,hN⟩:=zNm (strB (digD Z.size));have hNl:N.size=(digD Z.size).length:=by rw[<-hN,strB_size]
 have hNz:N.size<=8:=by rw[hNl];exact digD_len 7 _ (by omega)
 obtain⟨j,hj⟩:=zNm (8-N.size);obtain⟨P,hP⟩:=zNm (strB (List.replicate j 48));have hPz:P.size=j:=by rw[<-hP,strB_size,List.length_replicate]
 have HQ:Hid (P++N++Z=strB (dirL x)):=zY (by
  rw[dirL,dig8,<-hZz,<-pad_eq 7 Z.size (by omega),<-strB_cat,<-strB_cat,hZr,hN,<-hNl,hj,hP]);have HRp:Hid (∀W:World,Calls prog 55 #[.string ⟨#[48]⟩,.int .i64 (j:Int)] W fun e w'=>e=.returned (.string P)/\Below W.heap.size W w'):=zY (fun W=>by rw[<-hP];exact repeat_any W 48 j (by omega));have HSt:Hid (∀W,Below w.heap.size w W->Calls prog 53 #[.string x.sig] W fun e w'=>e=.returned (.string Y)/\Below W.heap.size W w'):=zY (fun W hW=>by rw[<-hY];exact nnstring_any W x.sig (by omega) (HT.below hW));have HIt:Hid (∀W,Below w.heap.size w W->Calls prog 54 #[.int .i64 (Z.size:Int)] W fun e w'=>e=.returned (.string N)/\Below W.heap.size W w'):=zY (fun W hW=>by rw[<-hN];exact itoa_any W Z.size (by omega) (HT.below hW));have hc1:¬9223372036854775807<X.size+Y.size:=by omega
 have hc2:¬9223372036854775807<P.size+N.size:=by omega
 have hc3:¬9223372036854775807<P.size+N.size+Z.size:=by omega
 have hjI:(8:Int)-N.size=j:=by omega
 have HZ:=zY hZ;obtain⟨R,hR⟩:=zNm (strB (dirL x));rw[hR]at HQ⊢;clear hve h hT hsl hsig hX hY hZ hZr hZz hN hNl hj hP hR;generalize hgl:x.ents.length=nl at *;have Hgl:=zY hgl;clear hgl;obtain⟨num,date,prev,l,st,sg⟩:=x;dsimp only at HSi HSt⊢;have hK:=Blk.new w 45 [.int .i64 num,.int .i64 date,.string prev,.slice A nl c,.string st,.string sg];change Blk (w.alloc (.cells #[.int .i64 num,.int .i64 date,.string prev,.slice A nl c,.string st,.string sg] 45)) _ _ _ at hK;have HB0:=zY (zBl w (.cells #[.int .i64 num,.int .i64 date,.string prev,.slice A nl c,.string st,.string sg] 45));have HK:=zY hK;clear hK;go_enter func19,ntmps19;go_upto_region 1 with fail;generalize w.alloc (.cells #[.int .i64 num,.int .i64 date,.string prev,.slice A nl c,.string st,.string sg] 45)=wb at *;have c0:=HK.c 0;have c1:=HK.c 1;have c2:=HK.c 2;have c3:=HK.c 3;have c4:=HK.c 4;have c5:=HK.c 5;go_wp2_with fail;refine(HSi.out _ HB0.out).mono ?_;rintro e1 w1 ⟨rfl,hb1⟩;have HK1:=zY (HK.kept hb1);have HB1:=zYt HB0 hb1;clear hb1 c0 c1 c2 c3 c4 c5 HK HB0;have c5:=HK1.c 5;go_wp2_with fail;refine(HSt.out _ HB1.out).mono ?_;rintro e2 w2 ⟨rfl,hb2⟩;have HB2:=zYt HB1 hb2;clear hb2;go_upto_region 5 with fail;rw[HZ.out];go_wp2_with fail;refine(HIt.out _ HB2.out).mono ?_;rintro e3 w3 ⟨rfl,hb3⟩;have HB3:=zYt HB2 hb3;clear hb3;go_wp2_with fail;refine(HRp.out _).mono ?_;rintro e4 w4 ⟨rfl,hb4⟩;have HB4:=zYt HB3 hb4;clear hb4;go_wp2_with fail;go_ret2;exact⟨by rw[<-HQ.out]<;>rfl,HB4.out⟩
theorem cut_at (s:ByteArray) (i n:Nat) (h:i+n<=s.size):(s.extract i s.size).extract 0 n=s.extract i (i+n):=by
 apply bs_inj;rw[bs_extract,bs_extract,bs_extract,List.drop_zero,List.take_of_length_le (l:=bs s) (i:=s.size) (by rw[bs_len];omega),List.take_drop]
theorem cut_rest (s:ByteArray) (i n:Nat) (h:i+n<=s.size):(s.extract i s.size).extract n (s.size-i)=s.extract (i+n) s.size:=by
 apply bs_inj;rw[bs_extract,bs_extract,bs_extract,List.take_of_length_le (l:=bs s) (i:=s.size) (by rw[bs_len];omega),List.take_of_length_le (by rw[List.length_drop,bs_len];omega),List.drop_drop]
theorem cut_all (s:ByteArray):s.extract 0 s.size=s:=by
 apply bs_inj;rw[bs_extract,List.drop_zero,List.take_of_length_le (by rw[bs_len];omega)]
def sizeOf' (v:Value):Nat:=match v with
 |.string s=>s.size
 |_=>0
theorem dirparts_any (w:World) (s:ByteArray) (hs:s.size<=1000000000):Calls prog 20 #[.string s] w fun e w'=>RetSeq strS 9 w w' (partsB s) e/\Below w.heap.size w w':=by
 go_enter func20,ntmps20;go_wp2;go_loopw [0,3,4] (fun t y _ wr=>∃k:Nat,k<=(s.size+27)/28/\t=.string (s.extract (min (28*k) s.size) s.size)/\OwnSeq strS 9 w wr y ((List.range k).map (partB s))/\Below w.heap.size w wr) (fun t _ _ _=>sizeOf' t);case atStart=>exact⟨0,by omega,by rw[Nat.mul_zero,Nat.zero_min,cut_all],OwnSeq.nil _,Below.refl _ _⟩
 case round=>
 obtain⟨k,hk,rfl,ho,hB⟩:=hrel;have HB:=zY hB;have HO:=zY ho;clear ho hB;by_cases h:28*k<s.size;{
 rw[Nat.min_eq_left (by omega)];obtain⟨i,hi⟩:=zNm (28*k);rw[hi]at h⊢;obtain⟨n,hn⟩:=zNm (min 28 (s.size-i));obtain⟨T,hT⟩:=zNm (s.extract i s.size);have hTz:T.size=s.size-i:=by rw[<-hT,ByteArray.size_extract];omega
 have hT0:(0:Int)<T.size:=by omega
 obtain⟨X,hX⟩:=zNm (T.extract 0 n);obtain⟨U,hU⟩:=zNm (T.extract n T.size);have HX:Hid ((List.range (k+1)).map (partB s)=(List.range k).map (partB s)++[X]):=zY (by
  rw[List.range_succ,List.map_append,<-hX,<-hT,cut_at s i n (by omega)]
  simp only[List.map_cons,List.map_nil,partB]
  rw[hi,show min (i+28) s.size=i+n by omega]);have HU:Hid (U=s.extract (min (28*(k+1)) s.size) s.size):=zY (by
  rw[<-hU,hTz,<-hT,cut_rest s i n (by omega)]
  congr 1
  omega);have HUz:Hid (sizeOf' (.string U)<sizeOf' (.string T)):=zY (by
  show U.size<T.size
  rw[<-hU,ByteArray.size_extract]
  omega);have Hkn:Hid (k+1<=(s.size+27)/28):=zY (by omega);have Hl1:Hid (((List.range k).map (partB s)).length+1<=100000000):=zY (by simp;omega);have hmin:min (28:Int) (T.size:Int)=n:=by omega
 have hn0:(0:Int)<=n:=by omega
 have hnT:(n:Int)<=T.size:=by omega
 have hnTn:n<=T.size:=by omega
 rw[hT];clear hi hk hn hT hTz h;obtain⟨Av,cv,e9⟩:=HO.slice;subst e9;go_wp2_with (at_builtin;refine append_seq (ρ:=strS) (w0:=w) Tryz.elemStr rfl _ _ rfl rfl (HO.alloc _) rfl (src1 (ρ:=strS) [.string X] X rfl rfl) Hl1.out (HB.alloc HB.size _) ?_;intro va1 wa1 hob _ hbb;have KU:=zY hob;have KB:=zY hbb;clear hob hbb);go_roundw;case rel=>exact⟨k+1,Hkn.out,by rw[<-HU.out],by rw[HX.out];exact KU.out,KB.out⟩
 case measure=>exact HUz.out};{
 have hks:min (28*k) s.size=s.size:=Nat.min_eq_right (by omega);rw[hks];have hz:(s.extract s.size s.size).size=0:=by rw[ByteArray.size_extract];omega
 obtain⟨T,hT⟩:=zNm (s.extract s.size s.size);rw[hT]at hz⊢;have hT0:¬(0:Int)<T.size:=by omega
 have HK:Hid ((List.range k).map (partB s)=partsB s):=zY (by unfold partsB;rw[show (s.size+27)/28=k by omega]);clear hT hz hks hk h;go_wp2;go_ret;exact⟨⟨_,rfl,by rw[<-HK.out];exact HO.out⟩,HB.out⟩}
end
end Go.Proofs.YthgenkkkapilhaaGreatDoor