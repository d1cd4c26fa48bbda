/-
  Joined: VpO.
-/
import Derived.Test.YthgenkkkapilhaaGreatDoorVQn13
import Derived.Test.YthgenkkkapilhaaGreatDoorVQn14
set_option linter.all false
set_option maxRecDepth 100000
set_option maxHeartbeats 64000000
namespace Go.Proofs.YthgenkkkapilhaaGreatDoor
open Go.Proofs.Tryz
section
open Go.RowKit
theorem str1 {w0 W:World} (_:Below w0.heap.size w0 W) (s:ByteArray):SeqAt strS (W.alloc (.cells #[.string s] 9)) (.slice (some ⟨W.heap.size,0,none⟩) 1 1) [s]:=by
 refine⟨_,_,rfl,Nat.le_refl _,by decide,fun i x hx=>?_⟩;cases i with
 |zero=>(
 obtain rfl:s=x:=by simpa using hx
 refine⟨_,_,[.string s],rfl,rfl,fun j u hu=>?_⟩;have:=(Blk.new W 9 [.string s]).cell hu;simpa using this)
 |succ i=>simp at hx
structure EntB (e:Ent):Prop where
 ok:EntOk e
 path:e.path.size<=1000000
 tgt:e.tgt.size<=1000000
 kv:∀a∈e.attrs,a.k.size<=1000000/\a.v.size<=1000000
 atn:e.attrs.length<=1000
 exs:e.exts.length<=2000
 head:(headL e).length<=1000000
 dig:e.dig.size<=1000000
theorem EntB.exn {e:Ent} (h:EntB e):e.exts.length<=100000:=Nat.le_trans h.exs (by decide)
theorem EntB.len {e:Ent} (h:EntB e):(strB (encL e)).size<=9000000:=by
 have h1:=nstL_len (strB (headL e)) (by rw[strB_size];have:=h.head;omega);have h2:=numL_len e.size.toNat (by have:=h.ok.size;omega);have h3:=nstL_len e.dig (by have:=h.dig;omega);have h4:=numL_len e.exts.length (by have:=h.exn;omega);have h5:=extL_len h.ok.exts.2.1;have h6:=h.head;have h7:=h.dig;have h8:=h.exn;rw[strB_size]at h1 h2 h3 h4;rw[strB_size]at h1;rw[strB_size,encL,List.length_append,List.length_append,List.length_append,List.length_append];omega
theorem digest39_any (w:World) (num date:Nat) (prev st sg:ByteArray) (ve:Value) (l:List Ent) (hv:SeqAt entS w ve l) (hn:num<=1000000000) (hd:date<=1000000000) (hp:prev.size<=1000000) (hst:st.size<=100000000) (hl:l.length<=100) (he:∀e∈l,EntB e):
  Calls prog 217 #[.agg #[.int .i64 (num:Int),.int .i64 (date:Int),.string prev,ve,.string st,.string sg]] w fun e w'=>(∃d:ByteArray,e=.returned (.string d)/\d.size=32)/\Below w.heap.size w w':=by
 have HSt:Hid (∀(W:World) (s:ByteArray),s.size<=100000000->Calls prog 89 #[.string s] W fun e w'=>e=.returned (.string (strB (nstL (bs s))))/\W=w'):=zY (fun W s hs=>nstring_any W s (by omega));have HNu:Hid (∀(W:World) (n:Nat),n<9223372036854775808->Calls prog 160 #[.int .i64 (n:Int)] W fun e w'=>e=.returned (.string (strB (numL n)))/\W=w'):=zY (fun W n hn=>number_any W n hn);obtain⟨D,hD⟩:=zNm (strB (digL (bs st)));have hDz:D.size=32:=by rw[<-hD,strB_size,digL_len]
 have hDz2:D.size<=32:=by omega
 have HSm:Hid (∀(W:World) (v:Value),SeqAt strS W v [st]->Calls prog 151 #[v] W fun e w'=>e=.returned (.string D)/\Below W.heap.size W w'):=zY (fun W v h=>by rw[<-hD];exact sum1_any comp_spec W v st h (by omega));clear hD hDz;obtain⟨Ae,ce,rfl,_,_⟩:=hv.slice;generalize hne:l.length=ne at *;have Hne:=zY hne;have He:=zY he;have hK:=Blk.new w 45 [.int .i64 (num:Int),.int .i64 (date:Int),.string prev,.slice Ae ne ce,.string st,.string sg];change Blk (w.alloc (.cells #[.int .i64 (num:Int),.int .i64 (date:Int),.string prev,.slice Ae ne ce,.string st,.string sg] 45)) _ _ _ at hK;have HKc:=zY hK.drewW;have HB0:=zBl w (.cells #[.int .i64 (num:Int),.int .i64 (date:Int),.string prev,.slice Ae ne ce,.string st,.string sg] 45);have HBc:=zY HB0.drew;have Hv:=zY hv;have q1:=numL_len num (by omega);have q2:=numL_len date (by omega);have q3:=nstL_len prev (by omega);have q4:=numL_len st.size (by omega);have q5:=nstL_len D (by omega);have q6:=numL_len ne (by omega);have hc1:¬9223372036854775807<(strB (numL num)).size+(strB (numL date)).size:=by omega
 have hc2:¬9223372036854775807<(strB (numL num)).size+(strB (numL date)).size+(strB (nstL (bs prev))).size:=by omega
 have hc3:¬9223372036854775807<(strB (numL num)).size+(strB (numL date)).size+(strB (nstL (bs prev))).size+(strB (numL st.size)).size:=by omega
 have hc4:¬9223372036854775807<(strB (numL num)).size+(strB (numL date)).size+(strB (nstL (bs prev))).size+(strB (numL st.size)).size+(strB (nstL (bs D))).size:=by omega
 have hc5:¬9223372036854775807<(strB (numL num)).size+(strB (numL date)).size+(strB (nstL (bs prev))).size+(strB (numL st.size)).size+(strB (nstL (bs D))).size+(strB (numL ne)).size:=by omega
 have HX:Hid ((strB (numL num)++strB (numL date)++strB (nstL (bs prev))++strB (numL st.size)++strB (nstL (bs D))++strB (numL ne)).size<=2000000):=zY (by simp only[ByteArray.size_append];omega);clear hK HB0 hv he hne;go_enter func217,ntmps217;go_upto_region 1 with fail;generalize w.alloc (.cells #[.int .i64 (num:Int),.int .i64 (date:Int),.string prev,.slice Ae ne ce,.string st,.string sg] 45)=wa at *;go_cut [3] (fun s wx=>∃X,s=.string X/\X.size<=2000000/\Blk wx w.heap.size 45 [.int .i64 (num:Int),.int .i64 (date:Int),.string prev,.slice Ae ne ce,.string st,.string sg]/\Below w.heap.size w wx);case first=>(
 refine wp_region_held_drew (S:=(fun W=>W.cell? ⟨w.heap.size,0,none⟩=some (.int .i64 (num:Int))/\W.cell? ⟨w.heap.size,1,none⟩=some (.int .i64 (date:Int))/\W.cell? ⟨w.heap.size,2,none⟩=some (.string prev)/\W.cell? ⟨w.heap.size,3,none⟩=some (.slice Ae ne ce)/\W.cell? ⟨w.heap.size,4,none⟩=some (.string st)/\W.cell? ⟨w.heap.size,5,none⟩=some (.string sg))) (by kernel_rfl) ?_ (fun hHeld=>?_);{exact⟨HKc.c 0,HKc.c 1,HKc.c 2,HKc.c 3,HKc.c 4,HKc.c 5⟩};refine tk 0 ?_;refine tk 1 ?_;refine take_call (i:=2) (oi:=_) (v:=(.string (strB (numL num)))) rfl (by kernel_rfl) (by kernel_rfl) (by kernel_rfl) (fun _ _ _ h=>h) (And.intro (by rfl) ?hy3) (by assumption) ?rest3;case hy3=>intro W hSw;exact⟨160,#[.int .i64 (num:Int)],by go_simp,HNu.out W num (by omega)⟩
 try simp only[Act.put,List.setIfInBounds_toArray,List.set_cons_zero,List.set_cons_succ]
 try simp only[List.getElem_toArray,List.getElem_cons_zero,List.getElem_cons_succ]
 refine tk 3 ?_;refine tk 4 ?_;refine take_call (i:=5) (oi:=_) (v:=(.string (strB (numL date)))) rfl (by kernel_rfl) (by kernel_rfl) (by kernel_rfl) (fun _ _ _ h=>h) (And.intro (by rfl) ?hy6) (by assumption) ?rest6;case hy6=>intro W hSw;exact⟨160,#[.int .i64 (date:Int)],by go_simp,HNu.out W date (by omega)⟩
 try simp only[Act.put,List.setIfInBounds_toArray,List.set_cons_zero,List.set_cons_succ]
 try simp only[List.getElem_toArray,List.getElem_cons_zero,List.getElem_cons_succ]
 refine tk 6 ?_;refine tk 7 ?_;refine tk 8 ?_;refine take_call (i:=9) (oi:=_) (v:=(.string (strB (nstL (bs prev))))) rfl (by kernel_rfl) (by kernel_rfl) (by kernel_rfl) (fun _ _ _ h=>h) (And.intro (by rfl) ?hy10) (by assumption) ?rest10;case hy10=>intro W hSw;exact⟨89,#[.string prev],by go_simp,HSt.out W prev (by omega)⟩
 try simp only[Act.put,List.setIfInBounds_toArray,List.set_cons_zero,List.set_cons_succ]
 try simp only[List.getElem_toArray,List.getElem_cons_zero,List.getElem_cons_succ]
 refine tk 10 ?_;refine tk 11 ?_;refine tk 12 ?_;refine tk 13 ?_;refine take_call (i:=14) (oi:=_) (v:=(.string (strB (numL st.size)))) rfl (by kernel_rfl) (by kernel_rfl) (by kernel_rfl) (fun _ _ _ h=>h) (And.intro (by rfl) ?hy15) (by assumption) ?rest15;case hy15=>intro W hSw;exact⟨160,#[.int .i64 (st.size:Int)],by go_simp,HNu.out W st.size (by omega)⟩
 try simp only[Act.put,List.setIfInBounds_toArray,List.set_cons_zero,List.set_cons_succ]
 try simp only[List.getElem_toArray,List.getElem_cons_zero,List.getElem_cons_succ]
 refine tk 15 ?_;refine tk 16 ?_;refine tk 17 ?_;refine tk 22 ?_;refine tk 23 ?_;refine tk 24 ?_;refine zE1 18 fun K hK=>?_;go_simp;have HV:=zY (str1 HBc.out st);have HKc:=zY (HKc.alloc (.cells #[.string st] 9));have HBc:=zY (HBc.alloc HBc.size (.cells #[.string st] 9));refine hko hK (by exact⟨HKc.c 0,HKc.c 1,HKc.c 2,HKc.c 3,HKc.c 4,HKc.c 5⟩) (fun _=>?_);clear hK K;refine zE1 19 fun K hK=>?_;go_simp;refine(HSm.out _ _ HV.out).mono ?_;rintro e2 w2 ⟨rfl,hb2⟩;(try go_wp2_with fail);have HKc:=zY (HKc.kept hb2);have HBc:=zYt HBc hb2;clear hb2;refine hko hK (by exact⟨HKc.c 0,HKc.c 1,HKc.c 2,HKc.c 3,HKc.c 4,HKc.c 5⟩) (fun _=>?_);clear hK K;refine take_call (i:=20) (oi:=_) (v:=(.string (strB (nstL (bs D))))) rfl (by kernel_rfl) (by kernel_rfl) (by kernel_rfl) (fun _ _ _ h=>h) (And.intro (by rfl) ?hy22) (by assumption) ?rest22;case hy22=>intro W hSw;exact⟨89,#[.string D],by go_simp,HSt.out W D (by omega)⟩
 try simp only[Act.put,List.setIfInBounds_toArray,List.set_cons_zero,List.set_cons_succ]
 try simp only[List.getElem_toArray,List.getElem_cons_zero,List.getElem_cons_succ]
 refine tk 21 ?_;refine take_call (i:=25) (oi:=_) (v:=(.string (strB (numL ne)))) rfl (by kernel_rfl) (by kernel_rfl) (by kernel_rfl) (fun _ _ _ h=>h) (And.intro (by rfl) ?hy24) (by assumption) ?rest24;case hy24=>intro W hSw;exact⟨160,#[.int .i64 (ne:Int)],by go_simp,HNu.out W ne (by omega)⟩
 try simp only[Act.put,List.setIfInBounds_toArray,List.set_cons_zero,List.set_cons_succ]
 try simp only[List.getElem_toArray,List.getElem_cons_zero,List.getElem_cons_succ]
 refine tk 26 ?_;refine tk 27 ?_;refine wpAnyH_done (by kernel_rfl) ?_ _;go_wp2_with fail;go_meet;exact⟨_,rfl,HX.out,HKc.out,HBc.out⟩)
 case rest=>
 obtain⟨X,rfl,hX,hK,hB⟩:=hcut;have HKx:=zY hK;have HBx:=zY hB;have HXx:=zY hX;have Hvx:=zY (Hv.below hB);clear hK hB hX q1 q2 q3 q4 q5 q6 hc1 hc2 hc3 hc4 hc5 HX HKc HBc;obtain⟨wx,hwx⟩:∃x,x=wc:=⟨_,rfl⟩;subst hwx;go_wp2;go_loopw [3,4,5,6] (fun y x _ _ wr=>∃(i:Nat) (Y:ByteArray),i<=ne/\x=.int .i64 (i:Int)/\y=.string Y/\Y.size<=2000000+i*9000000/\Below wx.heap.size wx wr) (fun _ x _ _ _=>ne-(intOf x).toNat);case atStart=>exact⟨0,X,by omega,rfl,rfl,by have:=HXx.out;omega,Below.refl _ _⟩
 case round=>
 obtain⟨i,Y,hi,rfl,rfl,hY,hBr⟩:=hrel;have HBr:=zY hBr;have HKr:=zY (HKx.kept hBr);clear hBr;have c3:=HKr.c 3;by_cases h:i<ne;{
 have hiI:(i:Int)<ne:=by omega
 obtain⟨x,hx⟩:∃x,l[i]?=some x:=⟨_,List.getElem?_eq_getElem (by rw[Hne.out];exact h)⟩;have hb:=He.out x (List.mem_of_getElem? hx);obtain⟨_,_,e9,_,_,h4⟩:=Hvx.below HBr.out;rw[Hne.out]at e9;cases e9;obtain⟨b,o,cs,rfl,⟨va,vx,rfl,ra,rx⟩,hc⟩:=h4 i x hx;have HEn:=zY (encode36_any wr x va vx ra rx hb.ok hb.path hb.tgt hb.kv hb.atn hb.exn hb.head hb.dig);have HEl:=zY hb.len;obtain⟨Aa,ca,rfl,_,_⟩:=ra.slice;obtain⟨Ax,cx,rfl,_,_⟩:=rx.slice;generalize strB (encL x)=T at *;obtain⟨k,path,attrs,tgt,size,dig,exts⟩:=x;rw[entV]at HEn;dsimp only at hc HEn;generalize attrs.length=na at *;generalize exts.length=nx at *;have e0:wr.cell? ⟨b,o+i*7,none⟩=some (.int .i64 k):=hc 0 _ rfl;have e1:wr.cell? ⟨b,o+i*7+1,none⟩=some (.string path):=hc 1 _ rfl;have e2:wr.cell? ⟨b,o+i*7+2,none⟩=some (.slice Aa na ca):=hc 2 _ rfl;have e3:wr.cell? ⟨b,o+i*7+3,none⟩=some (.string tgt):=hc 3 _ rfl;have e4:wr.cell? ⟨b,o+i*7+4,none⟩=some (.int .i64 size):=hc 4 _ rfl;have e5:wr.cell? ⟨b,o+i*7+5,none⟩=some (.string dig):=hc 5 _ rfl;have e6:wr.cell? ⟨b,o+i*7+6,none⟩=some (.slice Ax nx cx):=hc 6 _ rfl;have hTz:T.size<=9000000:=HEl.out;have hcc:¬9223372036854775807<Y.size+T.size:=by omega
 clear hc h4 hx hb ra rx;go_wp2_with fail;refine HEn.mono ?_;rintro e5 w5 ⟨rfl,hb5⟩;go_wp2_with fail;go_roundw;case rel=>exact⟨i+1,_,by omega,by go_num,rfl,by rw[ByteArray.size_append];omega,HBr.trans (hb5.mono HBr.size)⟩
 case measure=>simp[intOf];omega};{
 have hiI:¬(i:Int)<ne:=by omega
 have hYb:Y.size<=1000000000:=by omega
 have HSy:=zY (fun(W:World) (v:Value) (h:SeqAt strS W v [Y])=>sum1_any comp_spec W v Y h hYb);have HV:=zY (str1 HBr.out Y);have HBy:=zY ((HBx.trans (HBr.mono HBx.size)).alloc (HBx.trans (HBr.mono HBx.size)).size (.cells #[.string Y] 9));go_wp2_with fail;refine(HSy.out _ _ HV.out).mono ?_;rintro e6 w6 ⟨rfl,hb6⟩;go_wp2_with fail;go_ret;exact⟨⟨_,rfl,by rw[strB_size,digL_len]⟩,HBy.trans (hb6.mono HBy.size)⟩}
end
end Go.Proofs.YthgenkkkapilhaaGreatDoor