/-
  Joined: VrW VrX VsA VsC VsE VsF VsH VsG LvrA.
-/
import Derived.Test.YthgenkkkapilhaaGreatDoorVRn42
import Derived.Test.YthgenkkkapilhaaGreatDoorVRn46
set_option linter.all false
set_option maxRecDepth 100000
set_option maxHeartbeats 64000000
namespace Go.Proofs.YthgenkkkapilhaaGreatDoor
section
open Go.RowKit
theorem padL_ten {n v k:Nat} (h:v<10^(k+1)) (hk:k+1<=n):(padL n v).length=n:=by
 rw[padL,List.length_append,List.length_replicate]
 have:=digD_len k v h
 omega
theorem plnL_size {a i t:Nat} {x:ByteArray} (h:PlnOk a i t x):(plnL a i t x).length=768:=by
 have h1:(textL a i t x).length=84:=by
  simp only[textL,List.length_append,bs_len]
  have q1:=h.ha
  have q2:=h.it
  have q3:=h.ht
  have p1:=padL_ten (n:=10) (v:=a) (k:=9) (by omega) (by omega)
  have p2:=padL_ten (n:=5) (v:=i) (k:=4) (by omega) (by omega)
  have p3:=padL_ten (n:=5) (v:=t) (k:=4) (by omega) (by omega)
  have p4:=h.hx
  omega
 have h2:(sealL (textL a i t x)).length=94:=by
  rw[sealL,List.length_append,h1,padL_ten (k:=9) (by have:=sumL_lt [strB (textL a i t x)];omega) (by omega)]
 rw[plnL,List.length_append,frmB_len,h2]
 rfl
theorem chks_one {α:Type} {k:Nat} {l:List α} (h:0<l.length) (h2:l.length<=k):chks k l=[l]:=by
 have e:(l.length+k-1)/k=1:=by
  rw[Nat.div_eq_iff (by omega)]
  omega
 rw[chks,e,chkF]
 show [(l.drop (k*0)).take k]=[l]
 rw[Nat.mul_zero,List.drop_zero,List.take_of_length_le h2]
def ses0:Ses:=⟨1,0,⟨#[]⟩,[],⟨#[]⟩,⟨#[]⟩⟩
theorem ses0_dir:(dirL ses0).length=58:=by
 have h1:(digL (bs (⟨#[]⟩:ByteArray))).length=32:=digL_len _
 have h2:∀l:List Nat,l.length=32->(nstL l).length=36:=fun l h=>by
  have d:(digD 32).length=2:=by simp[digD_great,digD_small]
  simp only[nstL,List.length_append,h,d]
  rfl
 have h3:(nstL (bs (strB (digL (bs (⟨#[]⟩:ByteArray)))))).length=36:=h2 _ (by rw[bs_len,strB_size,h1])
 have h4:(restL ses0).length=50:=by
  show (numL 1++numL 0++nstL []++(numL 0++nstL (bs (strB (digL (bs (⟨#[]⟩:ByteArray)))))++numL 0)++[]++nstL []).length=50
  have e1:(nstL ([]:List Nat)).length=3:=by simp[nstL,digD_small]
  have e2:(numL 0).length=2:=by simp[numL,digD_small]
  have e3:(numL 1).length=2:=by simp[numL,digD_small]
  simp only[List.length_append,h3,e1,e2,e3,List.length_nil]
 rw[dirL,List.length_append,dig8_len,h4]
theorem ses0_parts:(partsB (strB (dirL ses0))).length=3:=by
 rw[partsB,List.length_map,List.length_range,strB_size,ses0_dir]
theorem ses0_cont:contE 1 0 [ses0] 1=0:=by
 unfold contE
 rw[if_neg (by decide),if_neg (by decide)]
 show (if 65536<(partsB (strB (dirL ses0))).length then (6:Int) else 0)=0
 rw[ses0_parts]
 rfl
theorem ses0_all:SesAll [ses0]:=by
 intro i x h
 match i,h with
 |0,h=>
  cases h
  exact⟨rfl,⟨by decide,by decide,.inl rfl,by decide,by decide,fun e he=>(by cases he),by decide⟩,by decide⟩
theorem ses0_frames:(framesF 7 1 0 [ses0] 1).length=3:=by
 rw[framesF_ok ses0_cont (x:=ses0) rfl]
 show ([reelL 7 1 0 1 0 (partsB (strB (dirL ses0))) (rowsL 1 0 ⟨#[]⟩) ⟨#[]⟩].flatten).length=3
 rw[List.flatten_cons,List.flatten_nil,List.append_nil,reelL_len,ses0_parts]
 rfl
theorem dollar_ok:splitE ⟨#[36]⟩=0:=by decide
theorem ses0_reelsE:reelsE 1 0 [ses0] ⟨#[36]⟩=0:=by
 rw[reelsE,if_neg (by decide),dollar_ok,if_neg (by decide)]
 show firstN _ 1=0
 exact firstN_zero fun m hm=>by
  obtain rfl:m=0:=by omega
  exact ses0_cont
theorem ses0_reels:∃p1 p2:ByteArray,reelsR 7 1 0 [ses0] ⟨#[36]⟩=[(0,[p1,p2])]/\p1.size=768/\p2.size=2556:=by
 rw[reelsR,if_pos ses0_reelsE]
 have hp:stripsT 7 ⟨#[36]⟩=[strB (plnL 7 0 1 (plnAt 7 ⟨#[36]⟩ 0).x)]:=by
  have e:plnsL 7 ⟨#[36]⟩=[plnAt 7 ⟨#[36]⟩ 0]:=rfl
  rw[stripsT,e,chks_one (by decide) (by decide)]
  show [strB (plCells [plnAt 7 ⟨#[36]⟩ 0])]=_
  rw[plCells,List.flatMap_cons,List.flatMap_nil,List.append_nil]
  rfl
 have hz:(plnL 7 0 1 (plnAt 7 ⟨#[36]⟩ 0).x).length=768:=plnL_size (plnAt_ok (by decide) dollar_ok (by decide))
 obtain⟨F,hF⟩:=zNm (reelL 7 1 0 1 0 (partsB (strB (dirL ses0))) (rowsL 1 0 ⟨#[]⟩) ⟨#[]⟩)
 have hFl:F.length=3:=by
  rw[<-hF,reelL_len,ses0_parts]
  rfl
 have hs:sesPs 7 1 0 [ses0] 0 1=[strB (celsL F)]:=by
  show [sesP 7 1 0 [ses0] 0 0].flatten=_
  have e:sesP 7 1 0 [ses0] 0 0=(chks 8 (reelL 7 1 0 1 0 (partsB (strB (dirL ses0))) (rowsL 1 0 ⟨#[]⟩) ⟨#[]⟩)).map fun g=>strB (celsL g):=rfl
  rw[e,hF,chks_one (by omega) (by omega)]
  rfl
 refine⟨strB (plnL 7 0 1 (plnAt 7 ⟨#[36]⟩ 0).x),strB (celsL F),?_,by rw[strB_size,hz],by rw[strB_size,celsL_len,hFl]⟩
 show [(0,stripsT 7 ⟨#[36]⟩++sesPs 7 1 0 [ses0] 0 1)]=_
 rw[hp,hs]
 rfl
theorem seq_two {W:World} {v:Value} {p1 p2:ByteArray} (h:SeqAt strS W v [p1,p2]):∃b o c,v=.slice (some ⟨b,o,none⟩) 2 c/\W.cell? ⟨b,o,none⟩=some (.string p1)/\W.cell? ⟨b,o+1,none⟩=some (.string p2):=by
 obtain⟨A,c,rfl,_,_,h3⟩:=h
 obtain⟨b,o,cs,rfl,rfl,h4⟩:=h3 0 p1 rfl
 obtain⟨b',o',cs',e,rfl,h5⟩:=h3 1 p2 rfl
 cases e
 have c0:=h4 0 _ rfl
 have c1:=h5 0 _ rfl
 exact⟨b,o,c,rfl,by rwa [show o+0*strS.n+0=o by omega]at c0,by rwa [show o+1*strS.n+0=o+1 from rfl]at c1⟩
theorem reel_one {W:World} {v:Value} {r:Nat} {ps:List ByteArray} (h:SeqAt reelS W v [(r,ps)]):∃b o c u,v=.slice (some ⟨b,o,none⟩) 1 c/\W.cell? ⟨b,o+1,none⟩=some u/\SeqAt strS W u ps:=by
 obtain⟨A,c,rfl,_,_,h3⟩:=h
 obtain⟨b,o,cs,rfl,⟨u,rfl,hu⟩,h4⟩:=h3 0 _ rfl
 have c1:=h4 1 _ rfl
 exact⟨b,o,c,u,rfl,by rwa [show o+0*reelS.n+1=o+1 by omega]at c1,hu⟩
theorem awake43_any (w:World) (hT:Tab w):Calls Tryz.prog 12 #[] w fun e w'=>e=.returned (.bool true)/\Below w.heap.size w w':=by
 have HT:=zY hT
 have hS:=Blk.new w 45 [.int .i64 1,.int .i64 0,.string ⟨#[]⟩,.slice none 0 0,.string ⟨#[]⟩,.string ⟨#[]⟩]
 have HB1:=zBl w (.cells #[.int .i64 1,.int .i64 0,.string ⟨#[]⟩,.slice none 0 0,.string ⟨#[]⟩,.string ⟨#[]⟩] 45)
 obtain⟨w1,hw1⟩:=zNm (w.alloc (.cells #[.int .i64 1,.int .i64 0,.string ⟨#[]⟩,.slice none 0 0,.string ⟨#[]⟩,.string ⟨#[]⟩] 45))
 change Blk (w.alloc (.cells #[.int .i64 1,.int .i64 0,.string ⟨#[]⟩,.slice none 0 0,.string ⟨#[]⟩,.string ⟨#[]⟩] 45)) _ _ _ at hS
 rw[hw1]at hS HB1
 have hq:SeqAt sesS w1 (.slice (some ⟨w.heap.size,0,none⟩) 1 1) [ses0]:=by
  refine⟨_,1,rfl,Nat.le_refl _,by omega,fun i x hx=>?_⟩
  match i,hx with
  |0,hx=>
   cases hx
   exact⟨w.heap.size,0,_,rfl,⟨.slice none 0 0,rfl,SeqAt.nil _⟩,fun j u hu=>by rw[show 0+0*sesS.n+j=j by omega];exact hS.cell hu⟩
 have hK:=Blk.new w1 28 [.int .u32 7,.int .i64 1,.int .i64 0,.slice (some ⟨w.heap.size,0,none⟩) 1 1]
 have HK:Hid (Blk (w1.alloc (.cells #[.int .u32 7,.int .i64 1,.int .i64 0,.slice (some ⟨w.heap.size,0,none⟩) 1 1] 28)) w1.heap.size 28 [.int .u32 7,.int .i64 1,.int .i64 0,.slice (some ⟨w.heap.size,0,none⟩) 1 1]):=zY hK
 have HB2:=zY (HB1.alloc HB1.size (.cells #[.int .u32 7,.int .i64 1,.int .i64 0,.slice (some ⟨w.heap.size,0,none⟩) 1 1] 28))
 have HQ:=zY (hq.below (zBl w1 (.cells #[.int .u32 7,.int .i64 1,.int .i64 0,.slice (some ⟨w.heap.size,0,none⟩) 1 1] 28)))
 have hs1:w1.heap.size=w.heap.size+1:=by rw[<-hw1,World.size_alloc]
 clear hT hS HB1 hq hK
 go_enter Tryz.func12,Tryz.ntmps12
 go_upto_region 2 with fail
 (try rw[hw1])
 rw[hs1]at HK
 generalize w1.alloc (.cells #[.int .u32 7,.int .i64 1,.int .i64 0,.slice (some ⟨w.heap.size,0,none⟩) 1 1] 28)=w2 at *
 have HT2:=zY (HT.out.below HB2.out)
 have HRl:=zY (volreels_any w2 7 1 0 _ [ses0] ⟨#[36]⟩ (by decide) HQ.out (by decide) ses0_all (by decide) HT2.out)
 obtain⟨p1,p2,hR,hp1,hp2⟩:=ses0_reels
 rw[ses0_reelsE,hR]at HRl
 clear hR hw1
 have c0:=HK.out.c 0
 have c1:=HK.out.c 1
 have c2:=HK.out.c 2
 have c3:=HK.out.c 3
 go_wp2_with fail
 refine HRl.out.mono ?_
 rintro e3 w3 ⟨⟨vl,rfl,hl⟩,hb3⟩
 have HK3:=zY (HK.out.kept hb3)
 have HB3:=zYt HB2 hb3
 have HFr:=zY (frames_any w3 7 1 0 _ [ses0] 1 (HQ.out.below hb3) (by decide) ses0_all (HT.out.below HB3.out))
 rw[ses0_cont]at HFr
 have HL:=zY hl
 obtain⟨b,o,c,u,rfl,_,_⟩:=reel_one hl
 clear hl hb3 HK HB2 HT2 HRl c0 c1 c2 c3
 have c0:=HK3.out.c 0
 have c1:=HK3.out.c 1
 have c2:=HK3.out.c 2
 have c3:=HK3.out.c 3
 go_upto_region 3 with fail
 go_wp2_with fail
 refine HFr.out.mono ?_
 rintro e4 w4 ⟨⟨vf,rfl,hf⟩,hb4⟩
 obtain⟨Af,cf',rfl⟩:=hf.slice
 rw[ses0_frames]
 obtain⟨b',o',c',u',e,hu,hus⟩:=reel_one (HL.out.below hb4)
 cases e
 obtain⟨b2,o2,c2',rfl,hq1,hq2⟩:=seq_two hus
 have hp1I:(p1.size:Int)=768:=by omega
 have hp2I:(p2.size:Int)=2556:=by omega
 have HB4:=zYt HB3 hb4
 clear hf hb4 hus hp1 hp2 c0 c1 c2 c3 HFr HL
 go_upto_region 4 with fail
 go_wp2
 go_ret
 exact⟨rfl,HB4.out⟩
theorem entN_mem {L:List Ses} {i:Nat} {x:Ses} (h:L[i]?=some x):x.ents.length<=entN L:=by
 have h1:=entN_take L h
 have h2:=entN_le L (i+1)
 omega
theorem MadeOk.all {L:List Ses} (h:MadeOk L):SesAll L:=fun i x hx=>by
 have hm:=List.mem_of_getElem? hx
 have ho:=h.ok x hm
 have hn:=h.num i x hx
 have hi:=(List.getElem?_eq_some_iff.1 hx).1
 have hl:=h.len
 have h1:=entN_mem hx
 have h2:=h.ents
 have h3:=h.str x hm
 exact⟨hn,⟨by omega,ho.date,ho.prev,ho.str,by omega,fun e he=>(ho.ok e he).ok,by rw[ho.sig];decide⟩,by omega⟩
theorem entsL_small {l:List Ent} (h:∀e∈l,EntB e):(entsL l).length<=l.length*131000:=by
 induction l with
 |nil=>simp[entsL]
 |cons a l ih=>
  have h1:=encL_len (h a List.mem_cons_self).ok
  have h2:=(h a List.mem_cons_self).exs
  have h3:=ih fun e he=>h e (List.mem_cons_of_mem _ he)
  have e:entsL (a::l)=encL a++entsL l:=rfl
  rw[e,List.length_append,List.length_cons,Nat.succ_mul]
  omega
theorem dir_small {L:List Ses} (h:MadeOk L) {j:Nat} {x:Ses} (hx:L[j]?=some x):(dirL x).length<=1400000:=by
 have hm:=List.mem_of_getElem? hx
 have ho:=h.ok x hm
 have hv:=(h.all j x hx).2.1
 have hn:=entN_mem hx
 have he:=h.ents
 have h1:=numL_len x.num.toNat (by have:=hv.num;omega)
 have h2:=numL_len x.date.toNat (by have:=hv.date;omega)
 have h3:=nstL_len x.prev (by have:=ho.prev;omega)
 have h4:=numL_len x.str.size (by have:=hv.str;omega)
 have h5:=nstL_len (strB (digL (bs x.str))) (by rw[strB_size,digL_len];decide)
 have h6:=numL_len x.ents.length (by omega)
 have h7:=entsL_small ho.ok
 have h8:=nstL_len x.sig (by rw[ho.sig];decide)
 have h9:=ho.prev
 have ha:x.sig.size=0:=by rw[ho.sig];rfl
 rw[strB_size]at h1 h2 h3 h4 h5 h6 h8
 rw[strB_size,digL_len]at h5
 have e:x.ents.length*131000<=10*131000:=Nat.mul_le_mul_right _ (by omega)
 simp only[dirL,restL,signL,List.length_append,dig8_len]
 omega
theorem partsB_len (s:ByteArray):(partsB s).length=(s.size+27)/28:=by rw[partsB,List.length_map,List.length_range]
theorem parts_small {L:List Ses} (h:MadeOk L) {j:Nat} {x:Ses} (hx:L[j]?=some x):(partsB (strB (dirL x))).length<=65536:=by
 have:=dir_small h hx
 rw[partsB_len,strB_size]
 omega
theorem contE_made {L:List Ses} (h:MadeOk L) {j:Nat} {x:Ses} (hx:L[j]?=some x) {d s:Nat} (hd:1<=d/\d<=3) (hs:s<=2):contE d s L x.num=0/\L[(x.num-1).toNat]?=some x:=by
 have hn:=h.num j x hx
 have hj:=(List.getElem?_eq_some_iff.1 hx).1
 have e:(x.num-1).toNat=j:=by omega
 have hp:=parts_small h hx
 refine⟨?_,by rw[e];exact hx⟩
 unfold contE layE
 rw[if_neg (by rw[if_neg (by omega)];simp),if_neg (by omega),e,hx]
 dsimp only
 rw[if_neg (by omega)]
theorem flat_gets {α:Type} {m:Nat}:∀{ls:List (List α)} (_:∀l∈ls,l.length=m) {i:Nat} {x:α} (_:ls.flatten[i]?=some x),∃l,ls[i/m]?=some l/\x∈l
 |[],_,i,x,hx=>by simp at hx
 |a::t,h,i,x,hx=>by
  have ha:=h a List.mem_cons_self
  rw[List.flatten_cons]at hx
  by_cases hi:i<m
  {
  rw[List.getElem?_append_left (by omega)]at hx
  exact⟨a,by rw[Nat.div_eq_of_lt hi];rfl,List.mem_of_getElem? hx⟩}
  {
  rw[List.getElem?_append_right (by omega),ha]at hx
  obtain⟨l,h1,h2⟩:=flat_gets (fun l hl=>h l (List.mem_cons_of_mem _ hl)) hx
  refine⟨l,?_,h2⟩
  rcases Nat.eq_zero_or_pos m with rfl|hm
  {
  rw[Nat.div_zero]at h1⊢
  cases t with
  |nil=>simp at h1
  |cons b t=>
   have e1:a=[]:=List.eq_nil_of_length_eq_zero ha
   have e2:b=[]:=List.eq_nil_of_length_eq_zero (h b (by simp))
   have:l=b:=by simpa using h1.symm
   rw[this,e2]at h2
   simp at h2}
  {
  rw[show i/m=(i-m)/m+1 by rw[Nat.div_eq_sub_div hm (by omega)]]
  simpa using h1}}
theorem flat_lens {α:Type} {m:Nat}:∀{ls:List (List α)} (_:∀l∈ls,l.length=m),ls.flatten.length=m*ls.length
 |[],_=>by simp
 |a::t,h=>by
  rw[List.flatten_cons,List.length_append,h a List.mem_cons_self,flat_lens fun l hl=>h l (List.mem_cons_of_mem _ hl),List.length_cons,Nat.mul_succ]
  omega
def eachN (d:Nat) (x:Ses):Nat:=(partsB (strB (dirL x))).length+strN d x.str.size
theorem rowsL_strN (d s:Nat) (st:ByteArray):(rowsL d s st).length=strN d st.size:=by
 rw[rowsL,List.length_map,stripL,List.length_map,List.length_range]
theorem reelsL_len {id n:Int} {d s:Nat} {x:Ses}:∀l∈reelsL id d s n x,l.length=eachN d x:=by
 intro l hl
 obtain⟨r,_,rfl⟩:=List.mem_map.1 hl
 rw[reelL_len,rowsL_strN]
 rfl
theorem reelL_on {id d s n:Int} {r:Nat} {P:List ByteArray} {S:List (List ByteArray)} {st:ByteArray}:∀f∈reelL id d s n r P S st,f.r=(r:Int):=by
 intro f hf
 rcases List.mem_append.1 hf with h|h
 {
 obtain⟨i,_,rfl⟩:=List.mem_map.1 h
 rfl}
 {
 obtain⟨i,_,rfl⟩:=List.mem_map.1 h
 rfl}
theorem made_frames {L:List Ses} (h:MadeOk L) {j:Nat} {x:Ses} (hx:L[j]?=some x) {d s:Nat} (hd:1<=d/\d<=3) (hs:s<=2):
  (framesF 7 d s L x.num).length=eachN d x*(d+s)/\∀(i:Nat) (f:Frm),(framesF 7 d s L x.num)[i]?=some f->FrmOk f/\f.r=((i/eachN d x:Nat):Int):=by
 obtain⟨h1,h2⟩:=contE_made h hx hd hs
 have hp:=parts_small h hx
 have hst:=(h.all j x hx).2.2
 have hn:=h.num j x hx
 have hj:=(List.getElem?_eq_some_iff.1 hx).1
 have hl:=h.len
 rw[framesF_ok h1 h2]
 refine⟨?_,fun i f hf=>?_⟩
 {
 rw[flat_lens reelsL_len,reelsL,List.length_map,List.length_range]
 rfl}
 {
 obtain⟨l,g1,g2⟩:=flat_gets reelsL_len hf
 rw[reelsL,List.getElem?_map]at g1
 have hr:i/eachN d x<(d:Int).toNat+(s:Int).toNat:=by
  by_cases c:i/eachN d x<(d:Int).toNat+(s:Int).toNat
  ·exact c
  {
  rw[List.getElem?_eq_none (by rw[List.length_range];omega)]at g1
  simp at g1}
 rw[List.getElem?_range hr]at g1
 cases g1
 exact⟨reel_ok (by omega) (by omega) (by omega) hr (by omega) hp hst f g2,reelL_on f g2⟩}
theorem range_one {α:Type} {N r:Nat} (h:r<N) (g:Nat->List α) (hz:∀j,j≠r->g j=[]):(List.range N).flatMap g=g r:=by
 induction N with
 |zero=>omega
 |succ N ih=>
  rw[List.range_succ,List.flatMap_append]
  by_cases e:r=N
  {
  subst e
  rw[show (List.range r).flatMap g=[] by rw[List.flatMap_eq_nil_iff];intro j hj;exact hz j (by have:=List.mem_range.1 hj;omega)]
  simp}
  {
  rw[ih (by omega)]
  simp[hz N (by omega)]}
theorem range_none {α:Type} {N:Nat} (g:Nat->List α) (hz:∀j,j<N->g j=[]):(List.range N).flatMap g=[]:=by
 rw[List.flatMap_eq_nil_iff]
 intro j hj
 exact hz j (List.mem_range.1 hj)
def rowX (bl:List ByteArray) (n s r:Nat):ByteArray:=(bl++sparL bl n s).getD r ⟨#[]⟩
theorem rowX_data {bl:List ByteArray} {n s r:Nat} (h:r<bl.length):rowX bl n s r=bl[r]:=by
 rw[rowX,List.getD_eq_getElem?_getD,List.getElem?_append_left h,List.getElem?_eq_getElem h]
 rfl
theorem rowX_spare {bl:List ByteArray} {n s j:Nat} (h:j<s):rowX bl n s (bl.length+j)=strB (atE (List.range bl.length) (bl.map bs) n (bl.length+j)):=by
 rw[rowX,List.getD_eq_getElem?_getD,List.getElem?_append_right (by omega),show bl.length+j-bl.length=j by omega,sparL,List.getElem?_map,List.getElem?_range h]
 rfl
theorem rowX_size {bl:List ByteArray} {n s r:Nat} (hn:∀b∈bl,b.size=n) (h:r<bl.length+s):(rowX bl n s r).size=n:=by
 by_cases c:r<bl.length
 {
 rw[rowX_data c]
 exact hn _ (List.getElem_mem c)}
 {
 obtain⟨j,rfl⟩:∃j,r=bl.length+j:=⟨r-bl.length,by omega⟩
 rw[rowX_spare (by omega),strB_size,atE_len]}
theorem bs_getD_lt (l:List ByteArray) (k i:Nat):cf ((l.map bs).getD k []) i<256:=by
 rw[List.getD_eq_getElem?_getD,List.getElem?_map]
 cases l[k]? with
 |none=>exact(by decide:(0:Nat)<256)
 |some b=>exact cf_lt (bs_lt b) i
theorem rowX_cf {bl:List ByteArray} {n s r i:Nat} (h:r<bl.length+s) (hi:i<n) (h256:bl.length<=256):cf (bs (rowX bl n s r)) i=sumE (List.range bl.length) (bl.map bs) r i bl.length:=by
 by_cases c:r<bl.length
 {
 have e:=sumE_at (xs:=List.range bl.length) (bl:=bl.map bs) (i:=i) (j:=r) (cf_range_lt h256) (fun a b ha hb hne=>by
  rw[List.length_range]at ha hb
  rw[cf_range ha,cf_range hb]
  exact hne) (fun k=>bs_getD_lt bl k i) (by rw[List.length_range];exact c) bl.length (by rw[List.length_range];exact Nat.le_refl _)
 rw[cf_range c,if_pos c,List.getD_eq_getElem?_getD,List.getElem?_map,List.getElem?_eq_getElem c]at e
 rw[e,rowX_data c]
 rfl}
 {
 obtain⟨j,rfl⟩:∃j,r=bl.length+j:=⟨r-bl.length,by omega⟩
 rw[rowX_spare (by omega),bs_strB atE_lt,atE,cf_map,if_pos hi,List.length_range]}
theorem nodup_at {α:Type} {l:List α} (h:l.Nodup) {i j:Nat} (hi:i<l.length) (hj:j<l.length) (e:l[i]=l[j]):i=j:=by
 have hp:=List.pairwise_iff_getElem.1 (List.nodup_iff_pairwise_ne.1 h)
 rcases Nat.lt_trichotomy i j with c|c|c
 ·exact absurd e (hp i j hi hj c)
 ·exact c
 ·exact absurd e.symm (hp j i hj hi c)
theorem restore {bl:List ByteArray} {n s:Nat} (hn:∀b∈bl,b.size=n) (h15:bl.length+s<=15) {ys:List Nat} (hl:ys.length=bl.length) (hy:∀y∈ys,y<bl.length+s) (hd:ys.Nodup) {x:Nat} (hx:x<bl.length+s):strB (atE ys ((ys.map (rowX bl n s)).map bs) n x)=rowX bl n s x:=by
 have hb:∀i,cf ys i<256:=fun i=>by
  rw[cf]
  cases e:ys[i]? with
  |none=>exact(by decide:(0:Nat)<256)
  |some y=>
   have:=hy y (List.mem_of_getElem? e)
   show y<256
   omega
 have hget:∀k,k<ys.length->ys[k]?=some (cf ys k):=fun k h=>by rw[cf,List.getElem?_eq_getElem h];rfl
 have hD:∀i j,i<ys.length->j<ys.length->i≠j->cf ys i≠cf ys j:=fun i j hi hj hne e=>by
  have h1:=hget i hi
  have h2:=hget j hj
  rw[<-e]at h2
  rw[List.getElem?_eq_getElem hi]at h1
  rw[List.getElem?_eq_getElem hj]at h2
  have h3:ys[i]=ys[j]:=by rw[Option.some.inj h1,Option.some.inj h2]
  exact hne (nodup_at hd hi hj h3)
 have hlr:(List.range bl.length).length=bl.length:=List.length_range
 have e:atE ys ((ys.map (rowX bl n s)).map bs) n x=(List.range n).map fun i=>cf (bs (rowX bl n s x)) i:=by
  unfold atE
  refine List.map_congr_left fun i hi=>?_
  have hi:=List.mem_range.1 hi
  rw[rowX_cf hx hi (by omega)]
  have hP:=sumE_pol (xs:=List.range bl.length) (bl:=bl.map bs) (i:=i) (cf_range_lt (by omega)) (fun k=>bs_getD_lt bl k i) bl.length (by omega)
  have hP2:PolF ys.length (fun r=>sumE (List.range bl.length) (bl.map bs) r i bl.length):=by rw[hl];rw[hlr]at hP;exact hP
  refine sumE_same (F:=fun r=>sumE (List.range bl.length) (bl.map bs) r i bl.length) hb hD hP2 (fun k hk=>?_) (fun k=>bs_getD_lt _ k i) (by omega)
  have hm:cf ys k<bl.length+s:=hy _ (List.mem_of_getElem? (hget k hk))
  rw[List.getD_eq_getElem?_getD,List.getElem?_map,List.getElem?_map,hget k hk]
  show cf (bs (rowX bl n s (cf ys k))) i=_
  rw[rowX_cf hm hi (by omega)]
 rw[e]
 have hz:(bs (rowX bl n s x)).length=n:=by rw[bs_len,rowX_size hn hx]
 have e2:((List.range n).map fun i=>cf (bs (rowX bl n s x)) i)=bs (rowX bl n s x):=by
  apply List.ext_getElem (by rw[List.length_map,List.length_range,hz])
  intro j h1 h2
  rw[List.getElem_map,List.getElem_range]
  exact cf_get (List.getElem?_eq_getElem h2)
 rw[e2,strB_bs]
structure Shr where
 i:Nat
 t:ByteArray
def shrF (i:Nat) (l:List Frm):List Shr:=(l.filter fun f=>f.k==66&&f.i==(i:Int)).map fun f=>⟨f.r.toNat,f.t⟩
theorem shrF_step {i:Nat} {l:List Frm} {k:Nat} {f:Frm} (h:l[k]?=some f):shrF i (l.take (k+1))=shrF i (l.take k)++(if f.k=66/\f.i=(i:Int) then [⟨f.r.toNat,f.t⟩] else []):=by
 rw[shrF,List.take_add_one,h,List.filter_append,List.map_append]
 congr 1
 by_cases c:f.k=66/\f.i=(i:Int)
 {
 rw[if_pos c]
 simp[c.1,c.2]}
 {
 rw[if_neg c]
 rw[List.map_eq_nil_iff,List.filter_eq_nil_iff]
 intro g hg
 have:g=f:=by simpa using hg
 subst this
 simpa using c}
theorem shrF_le (i:Nat) (l:List Frm) (k:Nat):(shrF i (l.take k)).length<=k:=by
 rw[shrF,List.length_map]
 exact Nat.le_trans (List.length_filter_le _ _) (by rw[List.length_take];exact Nat.min_le_left _ _)
theorem shrF_flat (i:Nat) (ls:List (List Frm)):shrF i ls.flatten=ls.flatMap (shrF i):=by
 induction ls with
 |nil=>rfl
 |cons a t ih=>rw[List.flatten_cons,List.flatMap_cons,<-ih,shrF,List.filter_append,List.map_append];rfl
def shrL (d s:Nat) (st:ByteArray) (i:Nat):List Shr:=(List.range (d+s)).map fun r=>⟨r,rowX (datL d st i) 28 s r⟩
theorem shr_reels {id n:Int} {d s i:Nat} {x:Ses}:shrF i (reelsL id d s n x).flatten=if i<strN d x.str.size then shrL d s x.str i else []:=by
 rw[shrF_flat,reelsL,List.flatMap_map]
 have hone:∀r:Nat,shrF i (reelL id d s n r (partsB (strB (dirL x))) (rowsL (d:Int).toNat (s:Int).toNat x.str) x.str)=if i<strN d x.str.size then [⟨r,rowX (datL d x.str i) 28 s r⟩] else []:=fun r=>by
  have hp:shrF i (partsF id d s n r (partsB (strB (dirL x))))=[]:=by
   rw[shrF,List.map_eq_nil_iff,List.filter_eq_nil_iff]
   intro f hf
   obtain⟨j,_,rfl⟩:=List.mem_map.1 hf
   simp[partF]
  have e:shrF i (reelL id d s n r (partsB (strB (dirL x))) (rowsL (d:Int).toNat (s:Int).toNat x.str) x.str)=shrF i (partsF id d s n r (partsB (strB (dirL x))))++shrF i (stripsF id d s n r x.str (rowsL (d:Int).toNat (s:Int).toNat x.str)):=by
   rw[reelL,shrF,List.filter_append,List.map_append]
   rfl
  rw[e,hp,List.nil_append,Int.toNat_natCast,Int.toNat_natCast]
  have hF:∀f:Frm,∀g:Nat->Frm,∀N,(shrF i ((List.range N).map g))=(List.range N).flatMap fun j=>shrF i [g j]:=fun _ g N=>by
   induction N with
   |zero=>rfl
   |succ N ih=>
    rw[List.range_succ,List.map_append,List.flatMap_append,<-ih,shrF,List.filter_append,List.map_append]
    simp[shrF]
  rw[stripsF,rowsL_strN,hF (partF id d s n r i ⟨#[]⟩)]
  have hj:∀j,j≠i->shrF i [stripF id d s n r x.str j ((rowsL d s x.str).getD j [])]=[]:=fun j hj=>by
   rw[shrF,List.map_eq_nil_iff,List.filter_eq_nil_iff]
   intro f hf
   have:f=stripF id d s n r x.str j ((rowsL d s x.str).getD j []):=by simpa using hf
   subst this
   simp[stripF]
   omega
  by_cases c:i<strN d x.str.size
  {
  rw[if_pos c,range_one c _ hj,rowsL_get (by rw[rowsL_strN];exact c)]
  simp[shrF,stripF,rowX]}
  {
  rw[if_neg c]
  exact range_none _ fun j h=>hj j (by omega)}
 by_cases c:i<strN d x.str.size
 {
 simp only[hone,if_pos c]
 rw[shrL,show (d:Int).toNat+(s:Int).toNat=d+s by simp]
 generalize d+s=m
 induction m with
 |zero=>rfl
 |succ m ih=>rw[List.range_succ,List.flatMap_append,ih,List.map_append];rfl}
 {
 simp only[hone,if_neg c]
 exact range_none _ fun _ _=>rfl}
def shrT (l:List Shr) (b k:Nat):List Shr:=(List.range k).map fun j=>(l.getD ((j+b)%l.length) ⟨0,⟨#[]⟩⟩)
theorem shrL_len {d s:Nat} {st:ByteArray} {i:Nat}:(shrL d s st i).length=d+s:=by simp[shrL]
theorem shrL_get {d s:Nat} {st:ByteArray} {i r:Nat} (h:r<d+s):(shrL d s st i)[r]?=some ⟨r,rowX (datL d st i) 28 s r⟩:=by
 rw[shrL,List.getElem?_map,List.getElem?_range h]
 rfl
theorem shrT_eq {d s b:Nat} {st:ByteArray} {i k:Nat} (h:0<d+s):shrT (shrL d s st i) b k=(List.range k).map fun j=>⟨(j+b)%(d+s),rowX (datL d st i) 28 s ((j+b)%(d+s))⟩:=by
 unfold shrT
 refine List.map_congr_left fun j _=>?_
 rw[shrL_len,List.getD_eq_getElem?_getD,shrL_get (Nat.mod_lt _ h)]
 rfl
theorem turn_nodup {n b k:Nat} (hk:k<=n):((List.range k).map fun j=>(j+b)%n).Nodup:=by
 rw[List.nodup_iff_pairwise_ne,List.pairwise_map,List.pairwise_iff_getElem]
 intro i j hi hj hij e
 rw[List.getElem_range,List.getElem_range]at e
 rw[List.length_range]at hi hj
 have h1:=Nat.div_add_mod (i+b) n
 have h2:=Nat.div_add_mod (j+b) n
 have h3:n*((i+b)/n)=n*((j+b)/n)+i-j:=by omega
 have h4:(i+b)/n<=(j+b)/n:=Nat.div_le_div_right (by omega)
 obtain⟨q,hq⟩:=Nat.exists_eq_add_of_le h4
 rw[hq,Nat.mul_add]at h2
 have h5:n*q=j-i:=by omega
 have h6:0<n*q:=by omega
 have h7:0<q:=Nat.pos_of_mul_pos_left h6
 have h8:n*1<=n*q:=Nat.mul_le_mul_left n h7
 omega
def shrS:Shape Shr where
 n:=2
 R _ cs x:=cs=[.int .i64 (x.i:Int),.string x.t]
 len h:=by rw[h];rfl
 one h u hu:=by
  rw[h]at hu
  simp only[List.mem_cons,List.not_mem_nil,or_false]at hu
  rcases hu with rfl|rfl<;>rfl
 keep h _:=h
def JudgeH (g:Nat) (lb:Array Value) (l:List Shr) (w:World):Prop:=
 ∀(W:World) (x:Shr),Below w.heap.size w W->x∈l->Calls Tryz.prog g (#[.agg #[.int .i64 (x.i:Int),.string x.t]]++lb) W fun e w'=>e=.returned (.bool false)/\Below W.heap.size W w'
theorem idxShr_any (w:World) (v:Value) (l:List Shr) (hl:SeqAt shrS w v l) (g:Nat) (lb:Array Value) (eg:∀args w,(callFunc g args).run Tryz.prog w=.ok (.enter g args) w) (hp:JudgeH g lb l w):
  Calls Tryz.prog 186 #[v,.func (.func g) #[] lb] w fun e w'=>e=.returned (.int .i64 (-1))/\Below w.heap.size w w':=by
 have HL:=zY hl
 obtain⟨A,c,rfl,h1,h2⟩:=hl.slice
 have HP:=zY hp
 clear hl hp
 go_enter Tryz.func186,Tryz.ntmps186
 go_wp2
 go_loopw [8] (fun i wr=>∃k:Nat,k<=l.length/\i=.int .i64 k/\Below w.heap.size w wr) (fun i _=>l.length-(intOf i).toNat)
 case atStart=>exact⟨0,Nat.zero_le _,rfl,Below.refl _ _⟩
 case round=>
  obtain⟨k,hk,rfl,hB⟩:=hrel
  have HB:=zY hB
  clear hB
  by_cases hlt:k<l.length
  {
  have hkI:(k:Int)<l.length:=by omega
  obtain⟨x,hx⟩:∃x,l[k]?=some x:=⟨_,List.getElem?_eq_getElem hlt⟩
  obtain⟨_,_,e9,_,_,h4⟩:=HL.out.below HB.out
  cases e9
  obtain⟨b,o,cs,rfl,rfl,hc⟩:=h4 k x hx
  have e0:wr.cell? ⟨b,o+k*2,none⟩=some (.int .i64 (x.i:Int)):=hc 0 _ rfl
  have e1:wr.cell? ⟨b,o+k*2+1,none⟩=some (.string x.t):=hc 1 _ rfl
  have HC:=zY (HP.out wr x HB.out (List.mem_of_getElem? hx))
  have HPx:Hid (Below w.heap.size w wr):=zY HB.out
  clear hc h4 hx
  go_wp2_with fail
  refine HC.out.mono ?_
  rintro e w2 ⟨rfl,hb2⟩
  have HB2:=zYt HPx hb2
  clear hb2
  go_wp2
  go_roundw
  case rel=>exact⟨k+1,by omega,by go_num,HB2.out⟩
  case measure=>simp[intOf];omega}
  {
  have hkI:¬(k:Int)<l.length:=by omega
  go_wp2
  go_ret
  exact⟨rfl,HB.out⟩
}
theorem contShr_any (w:World) (v:Value) (l:List Shr) (hl:SeqAt shrS w v l) (g:Nat) (lb:Array Value) (eg:∀args w,(callFunc g args).run Tryz.prog w=.ok (.enter g args) w) (hp:JudgeH g lb l w):
  Calls Tryz.prog 109 #[v,.func (.func g) #[] lb] w fun e w'=>e=.returned (.bool false)/\Below w.heap.size w w':=by
 have H:=zY (idxShr_any w v l hl g lb eg hp)
 obtain⟨A,c,rfl,h1,h2⟩:=hl.slice
 clear hl hp
 go_enter Tryz.func109,Tryz.ntmps109
 go_wp2_with (go_at_call 186;refine H.out.mono ?_;rintro e w' ⟨rfl,hb⟩;have HB:=zY hb;clear hb)
 go_ret
 exact⟨rfl,HB.out⟩
theorem idxU8_no (w:World) (v:Value) (l:List Nat) (hl:BytesAt w v l) (z:Nat) (hz:z∉l):
  Calls Tryz.prog 187 #[v,.int .u8 (z:Int)] w fun e w'=>e=.returned (.int .i64 (-1))/\w=w':=by
 have HL:=zY hl
 obtain⟨A,c,rfl,h1,h2⟩:=hl.sliceV
 have HZ:=zY hz
 clear hl hz
 go_enter Tryz.func187,Tryz.ntmps187
 go_wp2
 go_loop [8] (fun i=>∃k:Nat,k<=l.length/\i=.int .i64 k) (fun i=>l.length-(intOf i).toNat)
 case atStart=>exact⟨0,Nat.zero_le _,rfl⟩
 case round=>
  obtain⟨k,hk,rfl⟩:=hrel
  by_cases hlt:k<l.length
  {
  have hkI:(k:Int)<l.length:=by omega
  obtain⟨x,hx⟩:∃x,l[k]?=some x:=⟨_,List.getElem?_eq_getElem hlt⟩
  obtain⟨b,o,rfl,e0⟩:=HL.out.cell hx
  have hne:((z:Int)==(x:Int))=false:=by
   rw[beq_eq_false_iff_ne]
   intro e
   obtain rfl:z=x:=by omega
   exact HZ.out (List.mem_of_getElem? hx)
  clear hx
  go_wp2
  go_round
  case rel=>exact⟨k+1,by omega,by go_num⟩
  case measure=>simp[intOf];omega}
  {
  have hkI:¬(k:Int)<l.length:=by omega
  go_wp2
  go_ret
  exact⟨rfl,rfl⟩}
theorem contU8_no (w:World) (v:Value) (l:List Nat) (hl:BytesAt w v l) (z:Nat) (hz:z∉l):
  Calls Tryz.prog 112 #[v,.int .u8 (z:Int)] w fun e w'=>e=.returned (.bool false)/\w=w':=by
 have H:=zY (idxU8_no w v l hl z hz)
 obtain⟨A,c,rfl,h1,h2⟩:=hl.sliceV
 clear hl hz
 go_enter Tryz.func112,Tryz.ntmps112
 go_wp2_with (go_at_call 187;refine H.out.mono ?_;rintro e w' ⟨rfl,rfl⟩)
 go_ret
 exact⟨rfl,rfl⟩
theorem erach1_any (w:World) (x:Shr) (h:x.i<15):Calls Tryz.prog 110 #[.agg #[.int .i64 (x.i:Int),.string x.t]] w fun e w'=>e=.returned (.bool false)/\Below w.heap.size w w':=by
 obtain⟨i,t⟩:=x
 dsimp only at h⊢
 have i1:¬(i:Int)<0:=by omega
 have i2:¬(15:Int)<=i:=by omega
 have HB:=zY (zBl w (.cells #[.int .i64 (i:Int),.string t] 56))
 have c0:=(Blk.new w 56 [.int .i64 (i:Int),.string t]).c 0
 change (w.alloc (.cells #[.int .i64 (i:Int),.string t] 56)).cell? _=_ at c0
 go_enter Tryz.func110,Tryz.ntmps110
 go_wp2
 go_ret
 exact⟨rfl,HB.out⟩
theorem erach2_any (w:World) (x:Shr) (v:Value) (l:List Shr) (hv:SeqAt shrS w v l) (hx:x∈l) (n:Nat) (hn:∀x∈l,x.t.size=n) (g:Nat) (hg:w.cell? ⟨g,0,none⟩=some v):Calls Tryz.prog 111 #[.agg #[.int .i64 (x.i:Int),.string x.t],.pointer (some ⟨g,0,none⟩)] w fun e w'=>e=.returned (.bool false)/\Below w.heap.size w w':=by
 have hsz:=hn x hx
 have h0:0<l.length:=List.length_pos_of_mem hx
 have HB:=zY (zBl w (.cells #[.int .i64 (x.i:Int),.string x.t] 56))
 have hv':=hv.below HB.out
 have g0:=cell_below HB.out hg
 obtain⟨A,c,rfl,h1,h2,h3⟩:=hv'
 obtain⟨b,o,cs,rfl,rfl,hc⟩:=h3 0 l[0] (List.getElem?_eq_getElem h0)
 have q1:(w.alloc (.cells #[.int .i64 (x.i:Int),.string x.t] 56)).cell? ⟨b,o+0*2+1,none⟩=some (.string l[0].t):=hc 1 _ rfl
 simp only[Nat.zero_mul,Nat.add_zero]at q1
 obtain⟨B0,hB0⟩:=zNm (l[0].t)
 have hBz:B0.size=n:=by rw[<-hB0];exact hn _ (List.getElem_mem h0)
 rw[hB0]at q1
 have h0I:(0:Int)<l.length:=by omega
 obtain⟨i,t⟩:=x
 dsimp only at hsz q1 g0 HB⊢
 have e:((t.size:Int) != (B0.size:Int))=false:=by rw[hsz,hBz];simp
 have c1:=(Blk.new w 56 [.int .i64 (i:Int),.string t]).c 1
 change (w.alloc (.cells #[.int .i64 (i:Int),.string t] 56)).cell? _=_ at c1
 clear hn hx hc h3 hB0 hsz hBz hg hv
 have hlI:=h0I
 go_enter Tryz.func111,Tryz.ntmps111
 go_upto_region 1 with fail
 have HS:Hid (∀W,Below (w.alloc (.cells #[.int .i64 (i:Int),.string t] 56)).heap.size (w.alloc (.cells #[.int .i64 (i:Int),.string t] 56)) W->W.cell? ⟨w.heap.size,1,none⟩=some (.string t)/\W.cell? ⟨g,0,none⟩=some (.slice (some ⟨b,o,none⟩) l.length c)/\W.cell? ⟨b,o+1,none⟩=some (.string B0)):=zY (fun W hW=>⟨cell_below hW c1,cell_below hW g0,cell_below hW q1⟩)
 have HBd:=zY (Below.refl (w.alloc (.cells #[.int .i64 (i:Int),.string t] 56)).heap.size (w.alloc (.cells #[.int .i64 (i:Int),.string t] 56))).drew
 clear c1 g0 q1
 refine wp_region_held_drew (S:=(fun W=>W.cell? ⟨w.heap.size,1,none⟩=some (.string t)/\W.cell? ⟨g,0,none⟩=some (.slice (some ⟨b,o,none⟩) l.length c)/\W.cell? ⟨b,o+1,none⟩=some (.string B0))) (by kernel_rfl) ?_ (fun hHeld=>?_)
 ·exact HS.out _ HBd.out
 refine tk 0 ?_
 refine tk 1 ?_
 refine tk 2 ?_
 refine tk 3 ?_
 refine tk 4 ?_
 refine tk 5 ?_
 refine tk 6 ?_
 refine tk 7 ?_
 refine tk 8 ?_
 refine tk 9 ?_
 refine wpAnyH_done (by kernel_rfl) ?_ _
 go_wp2_with fail
 go_ret
 exact⟨rfl,HB.out.trans (HBd.out.mono HB.out.size)⟩
theorem erasel_any (w:World) (vx vb:Value) (ys:List Nat) (bl:List ByteArray) (hx:BytesAt w vx ys) (hb:SeqAt strS w vb bl) (n x:Nat) (hxx:x<256) (hl:bl.length=ys.length) (h0:1<=ys.length) (h15:ys.length<=15) (hn:∀b∈bl,b.size=n) (hn2:n<=1000) (hy:∀i,cf ys i<256) (hd:∀i j,i<ys.length->j<ys.length->i≠j->cf ys i≠cf ys j):
  Calls Tryz.prog 59 #[.agg #[vx,vb],.int .i64 (x:Int)] w fun e w'=>e=.returned (.string (strB (atE ys (bl.map bs) n x)))/\Below w.heap.size w w':=by
 have Hv:=zY hx
 have Hb:=zY hb
 obtain⟨Ax,cx,rfl,_,_⟩:=hx.sliceV
 obtain⟨Ab,cb,rfl,_,_⟩:=hb.slice
 have HB0:=zY (zBl w (.cells #[.slice Ax ys.length cx,.slice Ab bl.length cb] 119))
 have HK:Hid (Blk (w.alloc (.cells #[.slice Ax ys.length cx,.slice Ab bl.length cb] 119)) w.heap.size 119 [.slice Ax ys.length cx,.slice Ab bl.length cb]):=zY (Blk.new w _ _)
 have HVx:=zY (Hv.out.belowV HB0.out)
 have HVb:=zY (Hb.out.below HB0.out)
 have Hn:=zY hn
 have Hl:=zY hl
 have H0:=zY h0
 have H15:=zY h15
 have Hn2:=zY hn2
 have HIn0:=zY (fun(W:World) (hW:BytesAt W (.slice Ax ys.length cx) ys)=>eraint_any W _ ys hW x hxx h15 hy hd)
 have hwu:IntKind.u8.wrap (x:Int)=(x:Int):=by rw[IntKind.wrap_u8];omega
 have hw2:(x:Int)%256=(x:Int):=by omega
 obtain⟨R,hR⟩:=zNm (strB (atE ys (bl.map bs) n x))
 clear hx hb hn hl h0 h15 hn2 hy hd Hv Hb
 go_enter Tryz.func59,Tryz.ntmps59
 go_upto_region 1 with fail
 generalize w.alloc (.cells #[.slice Ax ys.length cx,.slice Ab bl.length cb] 119)=wa at *
 obtain⟨gs,hgs⟩:=zNm (w.heap.size)
 rw[hgs]at HK
 (try rw[hgs])
 have HIn:Hid (∀W,Below wa.heap.size wa W->Calls Tryz.prog 114 #[.slice Ax ys.length cx,.int .u8 (x:Int)] W fun e w'=>IntF w' ys x e/\Below W.heap.size W w'):=zY (fun W hW=>HIn0.out W (HVx.out.belowV hW))
 have HK:=zY HK.out.drewV
 have HBc:=zY (Below.refl wa.heap.size wa).drew
 clear HIn0 hR R
 refine wp_region_held_drew (S:=(fun W=>W.cell? ⟨gs,0,none⟩=some (.slice Ax ys.length cx)/\W.cell? ⟨gs,1,none⟩=some (.slice Ab bl.length cb))) (by kernel_rfl) ?_ (fun hHeld=>?_)
 ·exact⟨HK.out.c 0,HK.out.c 1⟩
 refine tk 0 ?_
 refine tk 1 ?_
 refine tk 2 ?_
 refine tk 3 ?_
 refine tk 5 ?_
 refine tk 6 ?_
 refine zE1 4 fun K hK=>?_
 go_simp
 refine(HIn.out _ HBc.out).mono ?_
 rintro e5 w5 ⟨⟨g,vw,rfl,hg,hvw⟩,hb5⟩
 (try go_wp2_with fail)
 have HG:=zY hg
 have HVw:=zY hvw
 have HK:=zY (HK.out.kept hb5)
 have HBc:=zYt HBc hb5
 clear hb5 hg hvw
 refine hko hK (by exact⟨HK.out.c 0,HK.out.c 1⟩) (fun _=>?_)
 clear hK K
 refine zE1 7 fun K hK=>?_
 go_simp
 refine(eraint1_any _ _ bl (HVb.out.below HBc.out) ys x n g vw HG.out HVw.out Hn.out Hl.out H0.out H15.out Hn2.out).mono ?_
 rintro e6 w6 ⟨rfl,hb6⟩
 (try go_wp2_with fail)
 have HK:=zY (HK.out.kept hb6)
 have HBc:=zYt HBc hb6
 clear hb6
 refine hko hK (by exact⟨HK.out.c 0,HK.out.c 1⟩) (fun _=>?_)
 clear hK K
 refine tk 8 ?_
 refine wpAnyH_done (by kernel_rfl) ?_ _
 go_wp2_with fail
 go_ret
 exact⟨rfl,HB0.out.trans (HBc.out.mono HB0.out.size)⟩
theorem erach3_any (w:World) (i:Nat) (t:ByteArray) (vx vb:Value) (ys:List Nat) (bl:List ByteArray) (hx:BytesAt w vx ys) (hb:SeqAt strS w vb bl) (gs:Nat) (hg:Blk w gs 119 [vx,vb]) (n:Nat) (hi:i<256) (hl:bl.length=ys.length) (h0:1<=ys.length) (h15:ys.length<=15) (hn:∀b∈bl,b.size=n) (hn2:n<=1000) (hy:∀i,cf ys i<256) (hd:∀i j,i<ys.length->j<ys.length->i≠j->cf ys i≠cf ys j) (ht:strB (atE ys (bl.map bs) n i)=t):
  Calls Tryz.prog 113 #[.agg #[.int .i64 (i:Int),.string t],.pointer (some ⟨gs,0,none⟩)] w fun e w'=>e=.returned (.bool false)/\Below w.heap.size w w':=by
 have HB0:=zY (zBl w (.cells #[.int .i64 (i:Int),.string t] 56))
 have HSe0:=zY (fun(W:World) (hW:Below w.heap.size w W)=>erasel_any W vx vb ys bl (hx.belowV hW) (hb.below hW) n i hi hl h0 h15 hn hn2 hy hd)
 rw[ht]at HSe0
 obtain⟨Ax,cx,rfl,_,_⟩:=hx.sliceV
 obtain⟨Ab,cb,rfl,_,_⟩:=hb.slice
 have HKg0:=zY (fun(W:World) (hW:Below w.heap.size w W)=>And.intro ((hg.kept hW).c 0) ((hg.kept hW).c 1))
 have HX:Hid (Blk (w.alloc (.cells #[.int .i64 (i:Int),.string t] 56)) w.heap.size 56 [.int .i64 (i:Int),.string t]):=zY (Blk.new w _ _)
 have hn1:(t != t)=false:=bneV_false rfl
 have hn3:(t.toList != t.toList)=false:=by simp
 clear hx hb hg hl h0 h15 hn hn2 hy hd ht
 go_enter Tryz.func113,Tryz.ntmps113
 go_upto_region 1 with fail
 obtain⟨wa,hwa⟩:=zNm (w.alloc (.cells #[.int .i64 (i:Int),.string t] 56))
 rw[hwa]at HB0 HX⊢
 obtain⟨gx,hgx⟩:=zNm (w.heap.size)
 have HSe:=zY (fun(W:World) (hW:Below wa.heap.size wa W)=>HSe0.out W (HB0.out.trans (hW.mono HB0.out.size)))
 have HKg:=zY (fun(W:World) (hW:Below wa.heap.size wa W)=>HKg0.out W (HB0.out.trans (hW.mono HB0.out.size)))
 rw[hgx]at HX⊢
 have HX:=zY HX.out.drewV
 have HBc:=zY (Below.refl wa.heap.size wa).drew
 clear hwa hgx HSe0 HKg0
 refine wp_region_held_drew (S:=(fun W=>(W.cell? ⟨gs,0,none⟩=some (.slice Ax ys.length cx)/\W.cell? ⟨gs,1,none⟩=some (.slice Ab bl.length cb))/\W.cell? ⟨gx,0,none⟩=some (.int .i64 (i:Int))/\W.cell? ⟨gx,1,none⟩=some (.string t))) (by kernel_rfl) ?_ (fun hHeld=>?_)
 ·exact⟨HKg.out _ HBc.out,HX.out.c 0,HX.out.c 1⟩
 refine tk 0 ?_
 refine tk 1 ?_
 refine tk 2 ?_
 refine tk 4 ?_
 refine tk 5 ?_
 refine zE1 3 fun K hK=>?_
 go_simp
 refine(HSe.out _ HBc.out).mono ?_
 rintro e5 w5 ⟨rfl,hb5⟩
 (try go_wp2_with fail)
 have HX:=zY (HX.out.kept hb5)
 have HBc:=zYt HBc hb5
 clear hb5
 refine hko hK (by exact⟨HKg.out _ HBc.out,HX.out.c 0,HX.out.c 1⟩) (fun _=>?_)
 clear hK K
 refine tk 6 ?_
 refine tk 7 ?_
 refine wpAnyH_done (by kernel_rfl) ?_ _
 go_wp2_with fail
 go_ret
 exact⟨rfl,HB0.out.trans (HBc.out.mono HB0.out.size)⟩
structure ShrOk (l:List Shr) (n:Nat):Prop where
 len:1<=l.length/\l.length<=15
 idx:∀x∈l,x.i<15
 nd:(l.map (·.i)).Nodup
 size:∀x∈l,x.t.size=n
 n1000:n<=1000
 res:∀x∈l,strB (atE (l.map (·.i)) ((l.map (·.t)).map bs) n x.i)=x.t
section
variable {l:List Shr} {n:Nat}
theorem ShrOk.cfl (h:ShrOk l n) (i:Nat):cf (l.map (·.i)) i<256:=by
 rw[cf]
 cases e:(l.map (·.i))[i]? with
 |none=>exact(by decide:(0:Nat)<256)
 |some y=>
  obtain⟨x,hx,rfl⟩:=List.mem_map.1 (List.mem_of_getElem? e)
  have:=h.idx x hx
  show x.i<256
  omega
theorem ShrOk.ne (h:ShrOk l n) (i j:Nat) (hi:i<(l.map (·.i)).length) (hj:j<(l.map (·.i)).length) (hne:i≠j):cf (l.map (·.i)) i≠cf (l.map (·.i)) j:=fun e=>by
 have h1:=cf_get (List.getElem?_eq_getElem hi)
 have h2:=cf_get (List.getElem?_eq_getElem hj)
 rw[h1,h2]at e
 exact hne (nodup_at h.nd hi hj e)
theorem ShrOk.new (h:ShrOk l n) {k:Nat} {x:Shr} (hx:l[k]?=some x):x.i∉(l.take k).map (·.i):=fun hm=>by
 obtain⟨y,hy,e⟩:=List.mem_map.1 hm
 obtain⟨j,hj⟩:=List.mem_iff_getElem?.1 hy
 have hk:=List.getElem?_eq_some_iff.1 hx
 rw[List.getElem?_take]at hj
 by_cases hjk:j<k
 {
 rw[if_pos hjk]at hj
 have hj2:=List.getElem?_eq_some_iff.1 hj
 have h3:=nodup_at h.nd (i:=j) (j:=k) (by rw[List.length_map];exact hj2.1) (by rw[List.length_map];exact hk.1) (by rw[List.getElem_map,List.getElem_map,hj2.2,hk.2];exact e)
 omega}
 {
 rw[if_neg hjk]at hj
 cases hj}
end
theorem erachoose_ok (w:World) (v:Value) (l:List Shr) (hv:SeqAt shrS w v l) (n:Nat) (hok:ShrOk l n):
  Calls Tryz.prog 58 #[v,.int .i64 (l.length:Int)] w fun e w'=>(∃vx vb,e=.returned (.tuple #[.agg #[vx,vb],.int .i64 0])/\BytesAt w' vx (l.map (·.i))/\SeqAt strS w' vb (l.map (·.t)))/\Below w.heap.size w w':=by
 have HOk:=zY hok
 have Hv:=zY hv
 obtain⟨A,c,rfl,_,_⟩:=hv.slice
 have hd1:=hok.len.1
 have hd2:=hok.len.2
 have hK:Blk (w.alloc (.cells #[.slice A l.length c] 54)) w.heap.size 54 [.slice A l.length c]:=Blk.new w _ _
 have hR:Blk ((w.alloc (.cells #[.slice A l.length c] 54)).alloc (.cells #[.slice none 0 0,.slice none 0 0] 119)) (w.alloc (.cells #[.slice A l.length c] 54)).heap.size 119 [.slice none 0 0,.slice none 0 0]:=Blk.new _ _ _
 rw[World.size_alloc]at hR
 have HR:=zY hR
 have HK:=zY (hK.alloc (.cells #[.slice none 0 0,.slice none 0 0] 119))
 have HB0:=zY ((zBl w (.cells #[.slice A l.length c] 54)).alloc (by simp) (.cells #[.slice none 0 0,.slice none 0 0] 119))
 have i1:¬(l.length:Int)<1:=by omega
 have i2:¬(15:Int)<l.length:=by omega
 clear hv hok hK hR
 go_enter Tryz.func58,Tryz.ntmps58
 go_upto_region 3 with fail
 generalize (w.alloc (.cells #[.slice A l.length c] 54)).alloc (.cells #[.slice none 0 0,.slice none 0 0] 119)=wa at *
 have c0:=HK.out.c 0
 have Hva:=zY (Hv.out.below HB0.out)
 have HC:=zY (contShr_any wa _ l Hva.out 110 #[] (enters_of Tryz.func110 (by kernel_rfl) rfl) (fun W x hW hx=>erach1_any W x (HOk.out.idx x hx)))
 go_wp2_with fail
 refine HC.out.mono ?_
 rintro e1 w1 ⟨rfl,hb1⟩
 have HB1:=zYt HB0 hb1
 have HK1:=zY (HK.out.kept hb1)
 have HR1:=zY (HR.out.kept hb1)
 have Hv1:=zY (Hva.out.below hb1)
 clear hb1 c0 HC HB0 HK HR Hva
 have c0:=HK1.out.c 0
 have HC:=zY (contShr_any w1 _ l Hv1.out 111 #[.pointer (some ⟨w.heap.size,0,none⟩)] (enters_of Tryz.func111 (by kernel_rfl) rfl) (fun W x hW hx=>erach2_any W x _ l (Hv1.out.below hW) hx n HOk.out.size w.heap.size ((HK1.out.kept hW).c 0)))
 go_wp2_with fail
 refine HC.out.mono ?_
 rintro e2 w2 ⟨rfl,hb2⟩
 have HB2:=zYt HB1 hb2
 have HK2:=zY (HK1.out.kept hb2)
 have HR2:=zY (HR1.out.kept hb2)
 have Hv2:=zY (Hv1.out.below hb2)
 clear hb2 c0 HC HB1 HK1 HR1 Hv1
 have HSb:Hid (Blk (w2.alloc (.cells #[.slice none 0 0,.slice none 0 0] 119)) w2.heap.size 119 [.slice none 0 0,.slice none 0 0]):=zY (Blk.new w2 _ _)
 have HBz:=zY (zBl w2 (.cells #[.slice none 0 0,.slice none 0 0] 119))
 have c0:=(HK2.out.kept HBz.out).c 0
 go_upto_region 8 with fail
 obtain⟨w3,hw3⟩:=zNm (w2.alloc (.cells #[.slice none 0 0,.slice none 0 0] 119))
 rw[hw3]at HSb HBz c0⊢
 obtain⟨gs,hgs⟩:=zNm (w2.heap.size)
 have HGs:Hid (w2.heap.size<=gs):=zY (by omega)
 rw[hgs]at HSb⊢
 clear hw3 hgs
 go_wp2
 go_loopw [25] (fun x wr=>∃k:Nat,k<=l.length/\x=.int .i64 (k:Int)/\∃vx vb,Blk wr gs 119 [vx,vb]/\OwnSeq natS 5 w2 wr vx ((l.take k).map (·.i))/\OwnSeq strS 9 w2 wr vb ((l.take k).map (·.t))/\Below w2.heap.size w2 wr) (fun x _=>l.length-(intOf x).toNat)
 case atStart=>exact⟨0,by omega,rfl,_,_,HSb.out,OwnSeq.nil _,OwnSeq.nil _,HBz.out⟩
 case round=>
  obtain⟨k,hk,rfl,vx,vb,hbx,hxs,hbl,hbw⟩:=hrel
  have HBx:=zY hbx
  have HXs:=zY hxs
  have HBl:=zY hbl
  have HBw:=zY hbw
  obtain⟨Ax,cx,rfl⟩:=hxs.slice
  obtain⟨Ab,cb,rfl⟩:=hbl.slice
  clear hbx hxs hbl hbw c0
  have hkl:((l.take k).map (·.i)).length=k:=by rw[List.length_map,List.length_take];omega
  have hkl2:((l.take k).map (·.t)).length=k:=by rw[List.length_map,List.length_take];omega
  rw[hkl]at HXs HBx
  rw[hkl2]at HBl HBx
  by_cases hlt:k<l.length
  {
  obtain⟨x,hx⟩:∃x,l[k]?=some x:=⟨_,List.getElem?_eq_getElem hlt⟩
  have hkI:(k:Int)<l.length:=by omega
  have HNw:=zY (HOk.out.new hx)
  have HTk:Hid (l.take (k+1)=l.take k++[x]):=zY (by rw[List.take_add_one,hx];rfl)
  have Hi:=zY (HOk.out.idx x (List.mem_of_getElem? hx))
  obtain⟨_,_,e9,_,_,h4⟩:=Hv2.out.below HBw.out
  cases e9
  obtain⟨b,o,cs,rfl,rfl,hc⟩:=h4 k x hx
  obtain⟨i,t⟩:=x
  have e0:wr.cell? ⟨b,o+k*2,none⟩=some (.int .i64 (i:Int)):=hc 0 _ rfl
  have e1:wr.cell? ⟨b,o+k*2+1,none⟩=some (.string t):=hc 1 _ rfl
  have hi15:i<15:=Hi.out
  clear hc h4 hx
  go_upto_region 11 with fail
  have HX:Hid (Blk (wr.alloc (.cells #[.int .i64 (i:Int),.string t] 56)) wr.heap.size 56 [.int .i64 (i:Int),.string t]):=zY (Blk.new wr _ _)
  have HBx:=zY (HBx.out.alloc (.cells #[.int .i64 (i:Int),.string t] 56))
  have HXs:=zY (HXs.out.alloc (.cells #[.int .i64 (i:Int),.string t] 56))
  have HBl:=zY (HBl.out.alloc (.cells #[.int .i64 (i:Int),.string t] 56))
  have HNe:Hid (wr.heap.size≠gs):=zY (by
   intro e
   have h1:=HX.out
   rw[e]at h1
   have h2:=HBx.out
   rw[Blk]at h1 h2
   rw[h2]at h1
   simp at h1)
  have HBw:=zY (HBw.out.alloc HBw.out.size (.cells #[.int .i64 (i:Int),.string t] 56))
  generalize wr.alloc (.cells #[.int .i64 (i:Int),.string t] 56)=wz at *
  obtain⟨gx,hgx⟩:=zNm (wr.heap.size)
  rw[hgx]at HX HNe⊢
  have HL1:Hid ((((l.take k).map (·.i))++[i]).length=k+1):=zY (by rw[List.length_append,hkl];rfl)
  have HL2:Hid ((((l.take k).map (·.t))++[t]).length=k+1):=zY (by rw[List.length_append,hkl2];rfl)
  have Hl:Hid (((l.take k).map (·.i)).length+1<=100000000):=zY (by omega)
  have Hl2:Hid (((l.take k).map (·.t)).length+1<=100000000):=zY (by omega)
  have q0:=HBx.out.c 0
  have x0:=HX.out.c 0
  have hwu:IntKind.u8.wrap (i:Int)=(i:Int):=by rw[IntKind.wrap_u8];omega
  have hw2:(i:Int)%256=(i:Int):=by omega
  have HCo:=zY (contU8_no wz _ _ (HXs.out.at HBw.out).bytes i HNw.out)
  clear e0 e1 hgx hkl hkl2
  go_upto_region 12 with(go_at_call 112;refine HCo.out.mono ?_;rintro e3 w3 ⟨rfl,rfl⟩)
  clear q0 x0 HCo
  have HX:=zY HX.out.drewV
  have HBx:=zY HBx.out.drewV
  have HXs:=zY HXs.out.drew
  have HBl:=zY HBl.out.drew
  have HBw:=zY HBw.out.drew
  refine wp_region_held_drew (S:=(fun W=>W.cell? ⟨gx,0,none⟩=some (.int .i64 (i:Int))/\W.cell? ⟨gx,1,none⟩=some (.string t))) (by kernel_rfl) ?_ (fun hHeld=>?_)
  ·exact⟨HX.out.c 0,HX.out.c 1⟩
  generalize wz.drew=wz at *
  refine tk 0 ?_
  refine tk 2 ?_
  refine tk 3 ?_
  refine tk 4 ?_
  refine tk 7 ?_
  refine tk 9 ?_
  refine tk 10 ?_
  repeat' first
   |((have ck:= @hko (i:=1) (hK:=hK));(clear ck);(have q0:=HBx.out.c 0);(go_simp);(clear q0);(refine hko hK (by exact⟨HX.out.c 0,HX.out.c 1⟩) (fun _=>?_));(clear hK K);(have d1:=True.intro))
   |((have ck:= @hko (i:=8) (hK:=hK));(clear ck);(have q1:=HBx.out.c 1);(go_simp);(clear q1);(refine hko hK (by exact⟨HX.out.c 0,HX.out.c 1⟩) (fun _=>?_));(clear hK K);(have d8:=True.intro);(first|(have c:=d6;clear c;refine tk 13 ?_)|skip))
   |((have ck:= @hko (i:=5) (hK:=hK));(clear ck);(go_simp);(have HA:Hid (Blk (wz.alloc (.cells #[.int .u8 (i:Int)] 5)) wz.heap.size 5 [.int .u8 (i:Int)]):=zY (Blk.new wz 5 [.int .u8 (i:Int)]));(have HBx:=zY (HBx.out.alloc (.cells #[.int .u8 (i:Int)] 5)));(have HXs:=zY (HXs.out.alloc (.cells #[.int .u8 (i:Int)] 5)));(have HBl:=zY (HBl.out.alloc (.cells #[.int .u8 (i:Int)] 5)));(have HX:=zY (HX.out.alloc (.cells #[.int .u8 (i:Int)] 5)));(first|(have HD:=zY (HD.out.alloc (.cells #[.int .u8 (i:Int)] 5)))|skip);(have HBw:=zY (HBw.out.alloc HBw.out.size (.cells #[.int .u8 (i:Int)] 5)));(generalize wz.alloc (.cells #[.int .u8 (i:Int)] 5)=wz at *);(skip);(refine hko hK (by exact⟨HX.out.c 0,HX.out.c 1⟩) (fun _=>?_));(clear hK K);(have d5:=True.intro))
   |((have ck:= @hko (i:=11) (hK:=hK));(clear ck);(go_simp);(have HD:Hid (Blk (wz.alloc (.cells #[.string t] 9)) wz.heap.size 9 [.string t]):=zY (Blk.new wz 9 [.string t]));(have HBx:=zY (HBx.out.alloc (.cells #[.string t] 9)));(have HXs:=zY (HXs.out.alloc (.cells #[.string t] 9)));(have HBl:=zY (HBl.out.alloc (.cells #[.string t] 9)));(have HX:=zY (HX.out.alloc (.cells #[.string t] 9)));(first|(have HA:=zY (HA.out.alloc (.cells #[.string t] 9)))|skip);(have HBw:=zY (HBw.out.alloc HBw.out.size (.cells #[.string t] 9)));(generalize wz.alloc (.cells #[.string t] 9)=wz at *);(skip);(refine hko hK (by exact⟨HX.out.c 0,HX.out.c 1⟩) (fun _=>?_));(clear hK K);(have d11:=True.intro))
   |((have ck:= @hko (i:=6) (hK:=hK));(clear ck);(refine wp_append_seq (ρ:=natS) (w0:=w2) (us:=[i]) Tryz.elemU8 (.tmp 44) (.tmp 48) rfl rfl HXs.out rfl (SrcAt.lit rfl HA.out) Hl.out HBw.out ?_);(intro vx1 wz hob hgb hbb);(have HBx:=zY (HBx.out.grownB hgb (HXs.out.neT HBx.out (by decide))));(have HX:=zY (HX.out.grownB hgb (HXs.out.neT HX.out (by decide))));(first|(have HD:=zY (HD.out.grownB hgb (HXs.out.neT HD.out (by decide))))|skip);(have HBl:=zY (HBl.out.grown hgb (HBl.out.neO HXs.out (by decide))));(have HXs:=zY hob);(have HBw:=zY hbb);(obtain⟨Ax1,cx1,rfl⟩:=HXs.out.slice);(rw[HL1.out]at HXs⊢);(clear hob hgb hbb HA);(refine hko hK (by exact⟨HX.out.c 0,HX.out.c 1⟩) (fun _=>?_));(clear hK K);(have d6:=True.intro);(first|(have c:=d8;clear c;refine tk 13 ?_)|skip))
   |((have ck:= @hko (i:=12) (hK:=hK));(clear ck);(refine wp_append_seq (ρ:=strS) (w0:=w2) (us:=[t]) Tryz.elemStr (.tmp 51) (.tmp 54) rfl rfl HBl.out rfl (SrcAt.lit rfl HD.out) Hl2.out HBw.out ?_);(intro vb1 wz hob hgb hbb);(have HBx:=zY (HBx.out.grownB hgb (HBl.out.neT HBx.out (by decide))));(have HX:=zY (HX.out.grownB hgb (HBl.out.neT HX.out (by decide))));(have HXs:=zY (HXs.out.grown hgb (HXs.out.neO HBl.out (by decide))));(have HBl:=zY hob);(have HBw:=zY hbb);(obtain⟨Ab1,cb1,rfl⟩:=HBl.out.slice);(rw[HL2.out]at HBl⊢);(clear hob hgb hbb HD);(refine hko hK (by exact⟨HX.out.c 0,HX.out.c 1⟩) (fun _=>?_));(clear hK K);(have d12:=True.intro))
   |((have c:=d12);(refine wpAnyH_ready (rs:=[14]) (by kernel_rfl) (by simp) ?_);(refine AllReadyH.cons (o:=_) rfl (fun K hK=>?_) AllReadyH.nil);(have q0:=HBx.out.c 0);(have z0:=HBx.out.frozen 0);(go_simp);(clear q0 z0);(have HXs:=zY (HXs.out.grown (grown_set wz gs 0 (.slice Ax1 (k+1) cx1)) (.inr (HXs.out.neT HBx.out (by decide)))));(have HBl:=zY (HBl.out.grown (grown_set wz gs 0 (.slice Ax1 (k+1) cx1)) (.inr (HBl.out.neT HBx.out (by decide)))));(have HX:=zY (HX.out.far (p:=⟨gs,0,none⟩) HNe.out (.slice Ax1 (k+1) cx1)));(have HBw:=zY (HBw.out.setCell (p:=⟨gs,0,none⟩) HGs.out (.slice Ax1 (k+1) cx1)));(have HBx:=zY (HBx.out.set 0 (.slice Ax1 (k+1) cx1)));(generalize wz.setCell ⟨gs,0,none⟩ (.slice Ax1 (k+1) cx1)=wz at *);(refine hko hK (by exact⟨HX.out.c 0,HX.out.c 1⟩) (fun _=>?_));(clear hK K);(refine tk 15 ?_);(refine wpAnyH_ready (rs:=[16]) (by kernel_rfl) (by simp) ?_);(refine AllReadyH.cons (o:=_) rfl (fun K hK=>?_) AllReadyH.nil);(have q0:=HBx.out.c 1);(have z0:=HBx.out.frozen 1);(go_simp);(clear q0 z0);(have HXs:=zY (HXs.out.grown (grown_set wz gs 1 (.slice Ab1 (k+1) cb1)) (.inr (HXs.out.neT HBx.out (by decide)))));(have HBl:=zY (HBl.out.grown (grown_set wz gs 1 (.slice Ab1 (k+1) cb1)) (.inr (HBl.out.neT HBx.out (by decide)))));(have HX:=zY (HX.out.far (p:=⟨gs,1,none⟩) HNe.out (.slice Ab1 (k+1) cb1)));(have HBw:=zY (HBw.out.setCell (p:=⟨gs,1,none⟩) HGs.out (.slice Ab1 (k+1) cb1)));(have HBx:=zY (HBx.out.set 1 (.slice Ab1 (k+1) cb1)));(generalize wz.setCell ⟨gs,1,none⟩ (.slice Ab1 (k+1) cb1)=wz at *);(refine hko hK (by exact⟨HX.out.c 0,HX.out.c 1⟩) (fun _=>?_));(clear hK K);(refine wpAnyH_done (by kernel_rfl) ?_ _);(go_wp2_with fail);(go_roundw);(case rel=>exact⟨k+1,by omega,by go_num,_,_,HBx.out,by rw[HTk.out,List.map_append];exact HXs.out,by rw[HTk.out,List.map_append];exact HBl.out,HBw.out⟩);(case measure=>simp[intOf];omega))
   |((have c:=d1);(have c:=d5);(have c:=d6);(have c:=d8);(have c:=d11);(refine wpAnyH_ready (rs:=[12]) (by kernel_rfl) (by simp) (AllReadyH.cons (o:=_) rfl (fun K hK=>?_) AllReadyH.nil)))
   |((have c:=d1);(have c:=d5);(have c:=d6);(have c:=d8);(refine wpAnyH_ready (rs:=[11]) (by kernel_rfl) (by simp) (AllReadyH.cons (o:=_) rfl (fun K hK=>?_) AllReadyH.nil)))
   |((have c:=d1);(have c:=d5);(have c:=d6);(have c:=d11);(refine wpAnyH_ready (rs:=[8]) (by kernel_rfl) (by simp) (AllReadyH.cons (o:=_) rfl (fun K hK=>?_) AllReadyH.nil)))
   |((have c:=d1);(have c:=d5);(have c:=d8);(have c:=d11);(refine wpAnyH_ready (rs:=[6]) (by kernel_rfl) (by simp) (AllReadyH.cons (o:=_) rfl (fun K hK=>?_) AllReadyH.nil)))
   |((have c:=d1);(have c:=d5);(have c:=d6);(refine wpAnyH_ready (rs:=[8,11]) (by kernel_rfl) (by simp) (AllReadyH.cons (o:=_) rfl (fun K hK=>?_) (AllReadyH.cons (o:=_) rfl (fun K hK=>?_) AllReadyH.nil))))
   |((have c:=d1);(have c:=d5);(have c:=d8);(refine wpAnyH_ready (rs:=[6,11]) (by kernel_rfl) (by simp) (AllReadyH.cons (o:=_) rfl (fun K hK=>?_) (AllReadyH.cons (o:=_) rfl (fun K hK=>?_) AllReadyH.nil))))
   |((have c:=d1);(have c:=d5);(have c:=d11);(refine wpAnyH_ready (rs:=[6,8]) (by kernel_rfl) (by simp) (AllReadyH.cons (o:=_) rfl (fun K hK=>?_) (AllReadyH.cons (o:=_) rfl (fun K hK=>?_) AllReadyH.nil))))
   |((have c:=d1);(have c:=d8);(have c:=d11);(refine wpAnyH_ready (rs:=[5]) (by kernel_rfl) (by simp) (AllReadyH.cons (o:=_) rfl (fun K hK=>?_) AllReadyH.nil)))
   |((have c:=d5);(have c:=d8);(have c:=d11);(refine wpAnyH_ready (rs:=[1]) (by kernel_rfl) (by simp) (AllReadyH.cons (o:=_) rfl (fun K hK=>?_) AllReadyH.nil)))
   |((have c:=d1);(have c:=d5);(refine wpAnyH_ready (rs:=[6,8,11]) (by kernel_rfl) (by simp) (AllReadyH.cons (o:=_) rfl (fun K hK=>?_) (AllReadyH.cons (o:=_) rfl (fun K hK=>?_) (AllReadyH.cons (o:=_) rfl (fun K hK=>?_) AllReadyH.nil)))))
   |((have c:=d1);(have c:=d8);(refine wpAnyH_ready (rs:=[5,11]) (by kernel_rfl) (by simp) (AllReadyH.cons (o:=_) rfl (fun K hK=>?_) (AllReadyH.cons (o:=_) rfl (fun K hK=>?_) AllReadyH.nil))))
   |((have c:=d1);(have c:=d11);(refine wpAnyH_ready (rs:=[5,8]) (by kernel_rfl) (by simp) (AllReadyH.cons (o:=_) rfl (fun K hK=>?_) (AllReadyH.cons (o:=_) rfl (fun K hK=>?_) AllReadyH.nil))))
   |((have c:=d5);(have c:=d8);(refine wpAnyH_ready (rs:=[1,11]) (by kernel_rfl) (by simp) (AllReadyH.cons (o:=_) rfl (fun K hK=>?_) (AllReadyH.cons (o:=_) rfl (fun K hK=>?_) AllReadyH.nil))))
   |((have c:=d5);(have c:=d11);(refine wpAnyH_ready (rs:=[1,8]) (by kernel_rfl) (by simp) (AllReadyH.cons (o:=_) rfl (fun K hK=>?_) (AllReadyH.cons (o:=_) rfl (fun K hK=>?_) AllReadyH.nil))))
   |((have c:=d8);(have c:=d11);(refine wpAnyH_ready (rs:=[1,5]) (by kernel_rfl) (by simp) (AllReadyH.cons (o:=_) rfl (fun K hK=>?_) (AllReadyH.cons (o:=_) rfl (fun K hK=>?_) AllReadyH.nil))))
   |((have c:=d1);(refine wpAnyH_ready (rs:=[5,8,11]) (by kernel_rfl) (by simp) (AllReadyH.cons (o:=_) rfl (fun K hK=>?_) (AllReadyH.cons (o:=_) rfl (fun K hK=>?_) (AllReadyH.cons (o:=_) rfl (fun K hK=>?_) AllReadyH.nil)))))
   |((have c:=d5);(refine wpAnyH_ready (rs:=[1,8,11]) (by kernel_rfl) (by simp) (AllReadyH.cons (o:=_) rfl (fun K hK=>?_) (AllReadyH.cons (o:=_) rfl (fun K hK=>?_) (AllReadyH.cons (o:=_) rfl (fun K hK=>?_) AllReadyH.nil)))))
   |((have c:=d8);(refine wpAnyH_ready (rs:=[1,5,11]) (by kernel_rfl) (by simp) (AllReadyH.cons (o:=_) rfl (fun K hK=>?_) (AllReadyH.cons (o:=_) rfl (fun K hK=>?_) (AllReadyH.cons (o:=_) rfl (fun K hK=>?_) AllReadyH.nil)))))
   |((have c:=d11);(refine wpAnyH_ready (rs:=[1,5,8]) (by kernel_rfl) (by simp) (AllReadyH.cons (o:=_) rfl (fun K hK=>?_) (AllReadyH.cons (o:=_) rfl (fun K hK=>?_) (AllReadyH.cons (o:=_) rfl (fun K hK=>?_) AllReadyH.nil)))))
   |((refine wpAnyH_ready (rs:=[1,5,8,11]) (by kernel_rfl) (by simp) (AllReadyH.cons (o:=_) rfl (fun K hK=>?_) (AllReadyH.cons (o:=_) rfl (fun K hK=>?_) (AllReadyH.cons (o:=_) rfl (fun K hK=>?_) (AllReadyH.cons (o:=_) rfl (fun K hK=>?_) AllReadyH.nil))))))}
  {
  obtain rfl:k=l.length:=by omega
  have hkI:¬((l.length:Nat):Int)<(l.length:Int):=by omega
  rw[List.take_length]at HXs HBl
  have hL1:(l.map (·.i)).length=l.length:=List.length_map _
  have hL2:(l.map (·.t)).length=l.length:=List.length_map _
  have HC:=zY (contShr_any wr _ l (Hv2.out.below HBw.out) 113 #[.pointer (some ⟨gs,0,none⟩)] (enters_of Tryz.func113 (by kernel_rfl) rfl) (fun W x hW hx=>erach3_any W x.i x.t _ _ (l.map (·.i)) (l.map (·.t)) ((HXs.out.at HBw.out).bytes.belowV hW) ((HBl.out.at HBw.out).below hW) gs (HBx.out.kept hW) n (by have:=HOk.out.idx x hx;omega) (by rw[hL1,hL2]) (by rw[hL1];exact HOk.out.len.1) (by rw[hL1];exact HOk.out.len.2) (fun b hb=>by
   obtain⟨y,hy,rfl⟩:=List.mem_map.1 hb
   exact HOk.out.size y hy) HOk.out.n1000 HOk.out.cfl HOk.out.ne (HOk.out.res x hx)))
  have q0:=HBx.out.c 0
  have c0:=(HK2.out.kept HBw.out).c 0
  clear hL1 hL2
  go_wp2_with fail
  refine HC.out.mono ?_
  rintro e4 w4 ⟨rfl,hb4⟩
  have HBx:=zY (HBx.out.kept hb4)
  have HXs:=zY (HXs.out.below hb4)
  have HBl:=zY (HBl.out.below hb4)
  have HR4:=zY ((HR2.out.kept HBw.out).kept hb4)
  have HBw:=zYt HBw hb4
  have HB4:=zY (HB2.out.trans (HBw.out.mono HB2.out.size))
  clear hb4 q0 c0 HC
  have k0:=HBx.out.c 0
  have k1:=HBx.out.c 1
  have z0:=HR4.out.c 0
  have z1:=HR4.out.c 1
  have y0:=HR4.out.frozen 0
  have y1:=HR4.out.frozen 1
  have HW:=zY (HR4.out.setAll (i:=0) [.slice Ax l.length cx,.slice Ab l.length cb])
  have HBz:=zY (below_setAll (g:=w.heap.size+1) (by omega) [.slice Ax l.length cx,.slice Ab l.length cb] w4 0 HB4.out)
  have hg:=grown_setAll (w.heap.size+1) [.slice Ax l.length cx,.slice Ab l.length cb] w4 0
  have hsz:w2.heap.size<=(setAll w4 (w.heap.size+1) 0 [.slice Ax l.length cx,.slice Ab l.length cb]).heap.size:=Nat.le_trans HBw.out.size hg.size
  have HXz:=zY ((HXs.out.grown hg (.inr (HXs.out.neT HR4.out (by decide)))).atF flatN hsz).bytes
  have HBl2:=zY ((HBl.out.grown hg (.inr (HBl.out.neT HR4.out (by decide)))).atF flatS hsz)
  clear hg hsz
  go_wp2
  refine bodyPost_ret (results_row_tmp rfl _ _ (w.heap.size+1) 119 _ (0,0) _ rfl HW.out Tryz.underlying119 rfl (by kernel_rfl)) rfl ?_
  exact⟨⟨_,_,rfl,HXz.out,HBl2.out⟩,HBz.out⟩}
theorem erablock_ok (w:World) (v:Value) (l:List Shr) (hv:SeqAt shrS w v l) (n:Nat) (hok:ShrOk l n) (x:Nat) (hx:x<15) (t:ByteArray) (ht:strB (atE (l.map (·.i)) ((l.map (·.t)).map bs) n x)=t):
  Calls Tryz.prog 22 #[v,.int .i64 (l.length:Int),.int .i64 (x:Int)] w fun e w'=>e=.returned (.tuple #[.string t,.int .i64 0])/\Below w.heap.size w w':=by
 have HOk:=zY hok
 have HC:=zY (erachoose_ok w v l hv n hok)
 have i1:¬(x:Int)<0:=by omega
 have i2:¬(15:Int)<=x:=by omega
 have Ht:=zY ht
 obtain⟨A,c,rfl,_,_⟩:=hv.slice
 clear hv hok ht
 go_enter Tryz.func22,Tryz.ntmps22
 go_wp2_with fail
 refine HC.out.mono ?_
 rintro e1 w1 ⟨⟨vx,vb,rfl,hvx,hvb⟩,hb1⟩
 have HVx:=zY hvx
 have HVb:=zY hvb
 have HB1:=zY hb1
 have hL1:(l.map (·.i)).length=l.length:=List.length_map _
 have hL2:(l.map (·.t)).length=l.length:=List.length_map _
 have HSe:=zY (fun(W:World) (hW:Below w1.heap.size w1 W)=>erasel_any W vx vb (l.map (·.i)) (l.map (·.t)) (HVx.out.belowV hW) (HVb.out.below hW) n x (by omega) (by rw[hL1,hL2]) (by rw[hL1];exact HOk.out.len.1) (by rw[hL1];exact HOk.out.len.2) (fun b hb=>by
    obtain⟨y,hy,rfl⟩:=List.mem_map.1 hb
    exact HOk.out.size y hy) HOk.out.n1000 HOk.out.cfl HOk.out.ne)
 rw[Ht.out]at HSe
 obtain⟨Ax,cx,rfl,_,_⟩:=hvx.sliceV
 obtain⟨Ab,cb,rfl,_,_⟩:=hvb.slice
 rw[hL1,hL2]at HSe
 clear hvx hvb hb1 HC
 have HK:Hid (Blk (w1.alloc (.cells #[.slice Ax l.length cx,.slice Ab l.length cb] 119)) w1.heap.size 119 [.slice Ax l.length cx,.slice Ab l.length cb]):=zY (Blk.new w1 _ _)
 have HB2:=zY (zBl w1 (.cells #[.slice Ax l.length cx,.slice Ab l.length cb] 119))
 go_upto_region 4 with fail
 generalize w1.alloc (.cells #[.slice Ax l.length cx,.slice Ab l.length cb] 119)=w2 at *
 have HSe2:=zY (HSe.out w2 HB2.out)
 have HBe:=zY (HB1.out.trans (HB2.out.mono HB1.out.size))
 have k0:=HK.out.c 0
 have k1:=HK.out.c 1
 clear HSe HB1 HB2
 go_wp2_with fail
 refine HSe2.out.mono ?_
 rintro e3 w3 ⟨rfl,hb3⟩
 have HB3:=zYt HBe hb3
 clear hb3
 go_wp2
 go_ret2
 exact⟨rfl,HB3.out⟩
end
section
open Go.RowKit
theorem Tryz.elemShr:Elem Tryz.prog 54 56 2 24 (.agg #[.int .i64 0,.string ⟨#[]⟩]):=⟨Tryz.underlying54,by kernel_rfl,rfl,by decide,by decide⟩
theorem turn_ok {d s b i:Nat} {st:ByteArray} (hd:1<=d/\d<=3) (hs:s<=2):(shrT (shrL d s st i) b d).length=d/\ShrOk (shrT (shrL d s st i) b d) 28/\∀x,x<d+s->strB (atE ((shrT (shrL d s st i) b d).map (·.i)) (((shrT (shrL d s st i) b d).map (·.t)).map bs) 28 x)=rowX (datL d st i) 28 s x:=by
 have hl:=datL_len d st i
 have hz:∀y∈datL d st i,y.size=28:=fun y hy=>by
  obtain⟨j,_,rfl⟩:=List.mem_map.1 hy
  exact blockB_size _ _
 rw[shrT_eq (by omega)]
 obtain⟨ys,hys⟩:=zNm (((List.range d).map fun j=>(j+b)%(d+s)))
 have e1:((List.range d).map fun j=>(⟨(j+b)%(d+s),rowX (datL d st i) 28 s ((j+b)%(d+s))⟩:Shr))=ys.map fun r=>⟨r,rowX (datL d st i) 28 s r⟩:=by
  rw[<-hys,List.map_map]
  rfl
 rw[e1]
 have hyl:ys.length=d:=by rw[<-hys];simp
 have hyb:∀y∈ys,y<(datL d st i).length+s:=fun y hy=>by
  rw[<-hys]at hy
  obtain⟨j,_,rfl⟩:=List.mem_map.1 hy
  rw[hl]
  exact Nat.mod_lt _ (by omega)
 have hnd:ys.Nodup:=by rw[<-hys];exact turn_nodup (by omega)
 have e2:(ys.map fun r=>(⟨r,rowX (datL d st i) 28 s r⟩:Shr)).map (·.i)=ys:=by rw[List.map_map];exact List.map_id _
 have e3:(ys.map fun r=>(⟨r,rowX (datL d st i) 28 s r⟩:Shr)).map (·.t)=ys.map (rowX (datL d st i) 28 s):=by rw[List.map_map];rfl
 have hr:∀x,x<d+s->strB (atE ((ys.map fun r=>(⟨r,rowX (datL d st i) 28 s r⟩:Shr)).map (·.i)) (((ys.map fun r=>(⟨r,rowX (datL d st i) 28 s r⟩:Shr)).map (·.t)).map bs) 28 x)=rowX (datL d st i) 28 s x:=fun x hx=>by
  rw[e2,e3]
  exact restore hz (by omega) (by omega) hyb hnd (by omega)
 refine⟨by rw[List.length_map,hyl],⟨by rw[List.length_map,hyl];omega,fun x hx=>?_,by rw[e2];exact hnd,fun x hx=>?_,by decide,fun x hx=>?_⟩,hr⟩
 {
 obtain⟨y,hy,rfl⟩:=List.mem_map.1 hx
 have:=hyb y hy
 show y<15
 omega}
 {
 obtain⟨y,hy,rfl⟩:=List.mem_map.1 hx
 exact rowX_size hz (hyb y hy)}
 {
 obtain⟨y,hy,rfl⟩:=List.mem_map.1 hx
 exact hr y (by have:=hyb y hy;omega)
}
theorem lawredundancy_any (w:World) (v:Value) (l:List Bat) (hv:SeqAt batS w v l) (x:Nat) (hx:x<256) (bb:Nat) (hb256:bb<256) (hT:Tab w):Calls Tryz.prog 7 #[v,.int .u8 (x:Int),.int .u8 (bb:Int)] w fun e w'=>e=.returned (.bool true)/\Below w.heap.size w w':=by
 have HT:=zY hT
 have HM:=zY (made_any w v l hv x hx)
 obtain⟨Av,cv,rfl,_,_⟩:=hv.slice
 generalize l.length=ll at *
 clear hv hT
 go_enter Tryz.func7,Tryz.ntmps7
 go_upto_region 1 with fail
 go_wp2_with fail
 refine HM.out.mono ?_
 rintro e1 w1 ⟨⟨d,s,va,L,ok,rfl,hd1,hd3,hs2,hva,hok⟩,hb1⟩
 obtain⟨A,c,rfl,_,_⟩:=hva.slice
 have HVa:=zY hva
 have HOk:=zY hok
 have HB1:=zY hb1
 clear hva hok hb1 HM
 go_upto_region 2 with fail
 have hA:=Blk.new w1 28 [.int .u32 7,.int .i64 (d:Int),.int .i64 (s:Int),.slice A L.length c]
 have HA:Hid (Blk (w1.alloc (.cells #[.int .u32 7,.int .i64 (d:Int),.int .i64 (s:Int),.slice A L.length c] 28)) w1.heap.size 28 [.int .u32 7,.int .i64 (d:Int),.int .i64 (s:Int),.slice A L.length c]):=zY hA
 have HVb:=zY (HVa.out.below (zBl w1 (.cells #[.int .u32 7,.int .i64 (d:Int),.int .i64 (s:Int),.slice A L.length c] 28)))
 have HB2:=zY (HB1.out.alloc HB1.out.size (.cells #[.int .u32 7,.int .i64 (d:Int),.int .i64 (s:Int),.slice A L.length c] 28))
 clear hA HB1 HVa
 generalize w1.alloc (.cells #[.int .u32 7,.int .i64 (d:Int),.int .i64 (s:Int),.slice A L.length c] 28)=w2 at *
 obtain⟨ga,hga⟩:=zNm (w1.heap.size)
 rw[hga]at HA⊢
 clear hga
 cases ok with
 |false=>
  have HAw:=zY (awake43_any w2 (HT.out.below HB2.out))
  go_wp2_with fail
  refine HAw.out.mono ?_
  rintro e3 w3 ⟨rfl,hb3⟩
  have HB3:=zYt HB2 hb3
  clear hb3
  go_wp2
  go_ret
  exact⟨rfl,HB3.out⟩
 |true=>
  have HMo:=zY (HOk.out rfl)
  have HAl:=zY HMo.out.all
  have hl2:=HMo.out.len
  have HDS:Hid (1<=d/\d<=3/\s<=2):=zY ⟨hd1,hd3,hs2⟩
  have HF1:=zY (fun(W:World) (n:Int) (hW:SeqAt sesS W (.slice A L.length c) L) (hT:Tab W)=>frames_any W 7 d s _ L n hW (by omega) HAl.out hT)
  have HTb:=zY (fun(W:World) (hW:Below w2.heap.size w2 W)=>HT.out.below (HB2.out.trans (hW.mono HB2.out.size)))
  have HLi:Hid (L.length<=2):=zY hl2
  have a1:=HA.out.c 1
  have a2:=HA.out.c 2
  have a3:=HA.out.c 3
  clear HT HOk
  obtain⟨m,hm⟩:=zNm (d+s)
  have hmI:(d:Int)+(s:Int)=(m:Int):=by omega
  have hmw:IntKind.i64.wrap ((d:Int)+(s:Int))=(m:Int):=by rw[zIw (by omega)];omega
  have HM:=zY hm
  go_upto_region 5 with fail
  (try rw[hmI])
  clear hm hmI hmw
  go_wp2
  go_loopw [42] (fun t wr=>∃i:Nat,i<=L.length/\t=.int .i64 (i:Int)/\Below w2.heap.size w2 wr) (fun t _=>L.length-(intOf t).toNat)
  case atStart=>exact⟨0,by omega,rfl,Below.refl _ _⟩
  case round=>
   obtain⟨i,hi,rfl,hB⟩:=hrel
   have HB:=zY hB
   clear a1 a2 a3
   by_cases h:i<L.length
   {
   obtain⟨y,hy⟩:∃y,L[i]?=some y:=⟨_,List.getElem?_eq_getElem h⟩
   have hiI:(i:Int)<L.length:=by omega
   have hV:=(HAl.out i y hy).2.1
   have hstr:=(HAl.out i y hy).2.2
   have HFr:=zY (And.intro (framesF_ok (id:=7) (contE_made HMo.out hy (d:=d) (s:=s) ⟨HDS.out.1,HDS.out.2.1⟩ HDS.out.2.2).1 (contE_made HMo.out hy (d:=d) (s:=s) ⟨HDS.out.1,HDS.out.2.1⟩ HDS.out.2.2).2) (made_frames HMo.out hy (d:=d) (s:=s) ⟨HDS.out.1,HDS.out.2.1⟩ HDS.out.2.2))
   have HCe:=zY (contE_made HMo.out hy (d:=d) (s:=s) ⟨HDS.out.1,HDS.out.2.1⟩ HDS.out.2.2).1
   have HSV:=zY hV
   have HSt:=zY hstr
   have HPs:=zY (parts_small HMo.out hy)
   have HDl:=zY (dir_small HMo.out hy)
   obtain⟨_,_,e9,_,_,h4⟩:=HVb.out.below HB.out
   cases e9
   obtain⟨b,o,cs,rfl,⟨ve,rfl,hve⟩,hc⟩:=h4 i y hy
   have HVe:=zY hve
   obtain⟨Ae,ce,rfl,_,_⟩:=hve.slice
   have e0:wr.cell? ⟨b,o+i*6,none⟩=some (.int .i64 y.num):=hc 0 _ rfl
   have e1:wr.cell? ⟨b,o+i*6+1,none⟩=some (.int .i64 y.date):=hc 1 _ rfl
   have e2:wr.cell? ⟨b,o+i*6+2,none⟩=some (.string y.prev):=hc 2 _ rfl
   have e3:wr.cell? ⟨b,o+i*6+3,none⟩=some (.slice Ae y.ents.length ce):=hc 3 _ rfl
   have e4:wr.cell? ⟨b,o+i*6+4,none⟩=some (.string y.str):=hc 4 _ rfl
   have e5:wr.cell? ⟨b,o+i*6+5,none⟩=some (.string y.sig):=hc 5 _ rfl
   clear hc h4 hy hve hV hstr hB
   go_upto_region 8 with fail
   have HSe0:=zY (Blk.new wr 45 [.int .i64 y.num,.int .i64 y.date,.string y.prev,.slice Ae y.ents.length ce,.string y.str,.string y.sig])
   have HSe:Hid (Blk (wr.alloc (.cells #[.int .i64 y.num,.int .i64 y.date,.string y.prev,.slice Ae y.ents.length ce,.string y.str,.string y.sig] 45)) wr.heap.size 45 [.int .i64 y.num,.int .i64 y.date,.string y.prev,.slice Ae y.ents.length ce,.string y.str,.string y.sig]):=zY HSe0.out
   have HAb:=zY ((HA.out.kept HB.out).alloc (.cells #[.int .i64 y.num,.int .i64 y.date,.string y.prev,.slice Ae y.ents.length ce,.string y.str,.string y.sig] 45))
   have HBb:=zY (HB.out.alloc HB.out.size (.cells #[.int .i64 y.num,.int .i64 y.date,.string y.prev,.slice Ae y.ents.length ce,.string y.str,.string y.sig] 45))
   have HVeb:=zY (HVe.out.below (zBl wr (.cells #[.int .i64 y.num,.int .i64 y.date,.string y.prev,.slice Ae y.ents.length ce,.string y.str,.string y.sig] 45)))
   obtain⟨gs,hgs⟩:=zNm (wr.heap.size)
   rw[hgs]at HSe⊢
   clear HSe0 e0 e1 e2 e3 e4 e5 hgs HVe HB
   generalize wr.alloc (.cells #[.int .i64 y.num,.int .i64 y.date,.string y.prev,.slice Ae y.ents.length ce,.string y.str,.string y.sig] 45)=wb at *
   have a0:=HAb.out.c 0
   have a1:=HAb.out.c 1
   have a2:=HAb.out.c 2
   have a3:=HAb.out.c 3
   have s0:=HSe.out.c 0
   go_wp2_with fail
   refine(HF1.out wb y.num (HVb.out.below HBb.out) (HTb.out wb HBb.out)).mono ?_
   rintro e3 w3 ⟨⟨vf,rfl,hfo⟩,hb3⟩
   have HQ:=zY (hfo.at hb3)
   have HA3:=zY (HAb.out.kept hb3)
   have HS3:=zY (HSe.out.kept hb3)
   have HB3:=zYt HBb hb3
   have HV3:=zY (HVeb.out.below hb3)
   rw[HCe.out]
   clear hfo hb3 a0 a1 a2 a3 s0 HAb HSe HBb HVeb HCe
   obtain⟨F,hF⟩:=zNm (framesF 7 (d:Int) (s:Int) L y.num)
   rw[hF]at HFr HQ
   obtain⟨AF,cF,rfl,_,_⟩:=HQ.out.slice
   clear hF
   have HFf:Hid (F=(reelsL 7 d s y.num y).flatten):=zY (by rw[<-HFr.out.1])
   have HRe:Hid (∀(k:Nat) (f:Frm),F[k]?=some f->∃rn:Nat,f.r=(rn:Int)):=zY (fun k f hf=>⟨_,(HFr.out.2.2 k f hf).2⟩)
   have HSh:Hid (∀i,shrF i F=if i<strN d y.str.size then shrL d s y.str i else []):=zY (fun i=>by rw[HFf.out,shr_reels])
   have HFz:Hid (F.length<=10000000):=zY (by
    have h1:=rowsL_len2 (d:=d) (s:=s) (st:=y.str) HDS.out.1 HSt.out
    rw[rowsL_strN]at h1
    have h2:=HPs.out
    have h3:eachN d y*(d+s)<=131072*5:=Nat.mul_le_mul (by rw[eachN];omega) (by have:=HDS.out;omega)
    rw[HFr.out.2.1]
    omega)
   clear HFr HFf HPs HDl HSt
   have hfz:=HFz.out
   go_upto_region 11 with fail
   go_wp2
   go_loopw [57] (fun t W=>∃i2:Nat,i2<=F.length/\t=.int .i64 (i2:Int)/\Below w3.heap.size w3 W) (fun t _=>F.length-(intOf t).toNat)
   case atStart=>exact⟨0,by omega,rfl,Below.refl _ _⟩
   case round=>
    obtain⟨i2,hi2,rfl,hB5⟩:=hrel
    have HB5:=zY hB5
    clear hB5
    by_cases hli:i2<F.length
    {
    have hiJ:(i2:Int)<F.length:=by omega
    obtain⟨w5,hw5⟩:=zNm (wr)
    rw[hw5]at HB5⊢
    clear hw5
    go_wp2
    go_loopw [15,63] (fun av t W=>∃k:Nat,k<=F.length/\t=.int .i64 (k:Int)/\OwnSeq shrS 56 w5 W av (shrF i2 (F.take k))/\Below w5.heap.size w5 W) (fun _ t _=>F.length-(intOf t).toNat)
    case atStart=>exact⟨0,by omega,rfl,OwnSeq.new _,(Below.refl _ _).alloc (Nat.le_refl _) _⟩
    case round=>
     obtain⟨k,hk,rfl,hok,hBk⟩:=hrel
     have HOk:=zY hok
     have HBk:=zY hBk
     obtain⟨Aa,ca,rfl⟩:=hok.slice
     clear hok hBk
     by_cases hlt:k<F.length
     {
     obtain⟨f,hf⟩:∃f,F[k]?=some f:=⟨_,List.getElem?_eq_getElem hlt⟩
     have hkI:(k:Int)<F.length:=by omega
     obtain⟨_,_,e9,_,_,h4⟩:=HQ.out.below (HB5.out.trans (HBk.out.mono HB5.out.size))
     cases e9
     obtain⟨b2,o2,cs2,rfl,rfl,hc⟩:=h4 k f hf
     have hrn:=HRe.out k f hf
     have hst:=shrF_step (i:=i2) hf
     obtain⟨k0,r0,s0,i0,l0,d0,p0,a0,t0⟩:=f
     dsimp only at hrn hst
     obtain⟨rn,rfl⟩:=hrn
     rw[Int.toNat_natCast]at hst
     have HSt:=zY hst
     have hc2:∀j u,(Frm.cells ⟨k0,(rn:Int),s0,i0,l0,d0,p0,a0,t0⟩)[j]?=some u->wr.cell? ⟨b2,o2+k*9+j,none⟩=some u:=hc
     have c0:=hc2 0 _ rfl
     have c1:=hc2 1 _ rfl
     have c2:=hc2 2 _ rfl
     have c3:=hc2 3 _ rfl
     have c4:=hc2 4 _ rfl
     have c5:=hc2 5 _ rfl
     have c6:=hc2 6 _ rfl
     have c7:=hc2 7 _ rfl
     have c8:=hc2 8 _ rfl
     dsimp only at c0 c1 c2 c3 c4 c5 c6 c7 c8
     rw[Nat.add_zero]at c0
     clear hc hc2 h4 hf hst
     go_upto_region 18 with fail
     have HFb:Hid (Blk (wr.alloc (.cells #[.int .i64 k0,.int .i64 (rn:Int),.int .i64 s0,.int .i64 i0,.int .i64 l0,.int .i64 d0,.int .i64 p0,.int .u32 a0,.string t0] 49)) wr.heap.size 49 [.int .i64 k0,.int .i64 (rn:Int),.int .i64 s0,.int .i64 i0,.int .i64 l0,.int .i64 d0,.int .i64 p0,.int .u32 a0,.string t0]):=zY (Blk.new wr _ _)
     have HBf:=zY (HBk.out.alloc HBk.out.size (.cells #[.int .i64 k0,.int .i64 (rn:Int),.int .i64 s0,.int .i64 i0,.int .i64 l0,.int .i64 d0,.int .i64 p0,.int .u32 a0,.string t0] 49))
     have HOf:=zY (HOk.out.alloc (.cells #[.int .i64 k0,.int .i64 (rn:Int),.int .i64 s0,.int .i64 i0,.int .i64 l0,.int .i64 d0,.int .i64 p0,.int .u32 a0,.string t0] 49))
     obtain⟨gf,hgf⟩:=zNm (wr.heap.size)
     rw[hgf]at HFb⊢
     clear c0 c1 c2 c3 c4 c5 c6 c7 c8 hgf
     generalize wr.alloc (.cells #[.int .i64 k0,.int .i64 (rn:Int),.int .i64 s0,.int .i64 i0,.int .i64 l0,.int .i64 d0,.int .i64 p0,.int .u32 a0,.string t0] 49)=wf at *
     have q0:=HFb.out.c 0
     have q1:=HFb.out.c 1
     have q3:=HFb.out.c 3
     have q8:=HFb.out.c 8
     by_cases e0:k0=66
     {
     subst e0
     by_cases e1:i0=(i2:Int)
     {
     subst e1
     have HZ:=zY (HSt.out.trans (by rw[if_pos ⟨rfl,rfl⟩]))
     have Hl1:Hid ((shrF i2 (F.take k)).length+1<=100000000):=zY (by have:=shrF_le i2 F k;have:=HFz.out;omega)
     go_wp2_with (at_builtin;refine append_seq (w0:=w5) (us:=[(⟨rn,t0⟩:Shr)]) Tryz.elemShr rfl _ _ rfl rfl (HOf.out.alloc _) rfl (src1 (ρ:=shrS) [.int .i64 (rn:Int),.string t0] ⟨rn,t0⟩ rfl rfl) Hl1.out (HBf.out.alloc HBf.out.size _) ?_;intro va wa hob _ hbb;have KU:=zY hob;have KB:=zY hbb;clear hob hbb)
     go_roundw
     case rel=>exact⟨k+1,by omega,by go_num,by rw[HZ.out];exact KU.out,KB.out⟩
     case measure=>simp[intOf];omega}
     {
     have f1:(i0==(i2:Int))=false:=by rw[beq_eq_false_iff_ne];exact e1
     have HZ:=zY (HSt.out.trans (by rw[if_neg (by omega),List.append_nil]))
     go_wp2_with fail
     go_roundw
     case rel=>exact⟨k+1,by omega,by go_num,by rw[HZ.out];exact HOf.out,HBf.out⟩
     case measure=>simp[intOf];omega}}
     {
     have f0:(k0==66)=false:=by rw[beq_eq_false_iff_ne];exact e0
     have HZ:=zY (HSt.out.trans (by rw[if_neg (by omega),List.append_nil]))
     go_wp2_with fail
     go_roundw
     case rel=>exact⟨k+1,by omega,by go_num,by rw[HZ.out];exact HOf.out,HBf.out⟩
     case measure=>simp[intOf];omega}}
     {
     obtain rfl:k=F.length:=by omega
     have hkI:¬((F.length:Nat):Int)<(F.length:Int):=by omega
     rw[List.take_length]at HOk⊢
     have hse:=HSh.out i2
     rw[hse]at HOk⊢
     clear hse
     have HB6:=zY (HB5.out.trans (HBk.out.mono HB5.out.size))
     by_cases hc:i2<strN d y.str.size
     {
     rw[if_pos hc]at HOk⊢
     have hml:(shrL d s y.str i2).length=m:=by rw[shrL_len];exact HM.out
     rw[hml]at HOk⊢
     obtain⟨w6,hw6⟩:=zNm (wr)
     rw[hw6]at HOk HBk HB6⊢
     clear hw6
     have HAl:=zY (HOk.out.at HBk.out)
     have HKA:Hid (∀W,Below w6.heap.size w6 W->W.cell? ⟨ga,1,none⟩=some (.int .i64 (d:Int))):=zY (fun W hW=>((HA3.out.kept HB6.out).kept hW).c 1)
     have a1:=HKA.out _ (Below.refl _ _)
     have hm0:((m:Int)==0)=false:=by rw[beq_eq_false_iff_ne];have:=HM.out;have:=HDS.out;omega
     have HT4:=zY (turn_ok (i:=i2) (b:=bb) (st:=y.str) ⟨HDS.out.1,HDS.out.2.1⟩ HDS.out.2.2)
     have HRw:Hid (∀r,r<m->(shrL d s y.str i2)[r]?=some ⟨r,rowX (datL d y.str i2) 28 s r⟩):=zY (fun r hr=>shrL_get (by rw[HM.out];exact hr))
     have HMl:Hid ((shrL d s y.str i2).length=m):=zY hml
     have hd3:=HDS.out.2.1
     have HM5:Hid (1<=m/\m<=5):=zY (by have:=HM.out;have:=HDS.out;omega)
     clear hml hc
     generalize hSL:shrL d s y.str i2=SL at *
     have HSL:=zY hSL
     clear hSL
     go_upto_region 23 with fail
     have a1:(w6.alloc (.cells #[] 56)).cell? ⟨ga,1,none⟩=some (.int .i64 (d:Int)):=HKA.out _ ((Below.refl _ _).alloc (Nat.le_refl _) _)
     go_wp2
     go_loopw [18,92] (fun hv t W=>∃k:Nat,k<=d/\t=.int .i64 (k:Int)/\OwnSeq shrS 56 w6 W hv (shrT SL bb k)/\Below w6.heap.size w6 W) (fun _ t _=>d-(intOf t).toNat)
     case atStart=>exact⟨0,by omega,rfl,OwnSeq.new _,(Below.refl _ _).alloc (Nat.le_refl _) _⟩
     case round=>
      obtain⟨k,hk,rfl,hok,hBj⟩:=hrel
      have HOh:=zY hok
      have HBj:=zY hBj
      obtain⟨Ah,ch,rfl⟩:=hok.slice
      clear hok hBj a1
      by_cases hlk:k<d
      {
      have hkI:(k:Int)<d:=by omega
      have hm5:=HM5.out
      obtain⟨q,hq⟩:=zNm ((k+bb)%m)
      have hqm:q<m:=by rw[<-hq];exact Nat.mod_lt _ (by omega)
      have hqI:(q:Int)<m:=by omega
      have hwb:IntKind.i64.wrap (bb:Int)=(bb:Int):=zIw (by omega)
      have hwk:IntKind.i64.wrap ((k:Int)+(bb:Int))=(k:Int)+(bb:Int):=zIw (by omega)
      have hq1:Int.tmod ((k:Int)+(bb:Int)) (m:Int)=(q:Int):=by rw[<-hq];rfl
      have hq2:IntKind.i64.wrap (q:Int)=(q:Int):=zIw (by omega)
      have hm1:((m:Int)==0)=false:=by rw[beq_eq_false_iff_ne];omega
      have HNx:Hid (shrT SL bb (k+1)=shrT SL bb k++[⟨q,rowX (datL d y.str i2) 28 s q⟩]):=zY (by
       have e1:shrT SL bb (k+1)=shrT SL bb k++[SL.getD ((k+bb)%SL.length) ⟨0,⟨#[]⟩⟩]:=by
        rw[shrT,List.range_succ,List.map_append]
        rfl
       rw[e1,HMl.out,hq,List.getD_eq_getElem?_getD,HRw.out q hqm]
       rfl)
      obtain⟨_,_,e9,_,_,h4⟩:=HAl.out.below HBj.out
      rw[HMl.out]at e9
      cases e9
      obtain⟨b3,o3,cs3,rfl,rfl,hc3⟩:=h4 q _ (HRw.out q hqm)
      obtain⟨T,hT⟩:=zNm (rowX (datL d y.str i2) 28 s q)
      rw[hT]at HNx
      have y1:wr.cell? ⟨b3,o3+q*2,none⟩=some (.int .i64 (q:Int)):=hc3 0 _ rfl
      have y2:wr.cell? ⟨b3,o3+q*2+1,none⟩=some (.string T):=by rw[<-hT];exact hc3 1 _ rfl
      have Hl1:Hid ((shrT SL bb k).length+1<=100000000):=zY (by rw[shrT,List.length_map,List.length_range];omega)
      clear hc3 h4 hT hq
      go_wp2_with (at_builtin;refine append_seq (w0:=w6) (us:=[(⟨q,T⟩:Shr)]) Tryz.elemShr rfl _ _ rfl rfl (HOh.out.alloc _) rfl (src1 (ρ:=shrS) [.int .i64 (q:Int),.string T] ⟨q,T⟩ rfl rfl) Hl1.out (HBj.out.alloc HBj.out.size _) ?_;intro va wa hob _ hbb;have KU:=zY hob;have KB:=zY hbb;clear hob hbb)
      go_roundw
      case rel=>exact⟨k+1,by omega,by go_num,by rw[HNx.out];exact KU.out,KB.out⟩
      case measure=>simp[intOf];omega}
      {
      obtain rfl:k=d:=by omega
      have hkI:¬((k:Nat):Int)<(k:Int):=by omega
      obtain⟨w7,hw7⟩:=zNm (wr)
      rw[hw7]at HOh HBj⊢
      clear hw7
      have HHv:=zY (HOh.out.at HBj.out)
      have HTl:=zY HT4.out.1
      have HEb0:Hid (∀x,x<m->∀W,Below w7.heap.size w7 W->Calls Tryz.prog 22 #[.slice Ah (shrT SL bb k).length ch,.int .i64 (k:Int),.int .i64 (x:Int)] W fun e w'=>e=.returned (.tuple #[.string (rowX (datL k y.str i2) 28 s x),.int .i64 0])/\Below W.heap.size W w'):=zY (fun x hx W hW=>by
       have hh:=erablock_ok W _ (shrT SL bb k) (HHv.out.below hW) 28 HT4.out.2.1 x (by have:=HM5.out;omega) _ (HT4.out.2.2 x (by rw[HM.out];exact hx))
       have hl:(shrT SL bb k).length=k:=HT4.out.1
       rw[hl]at hh⊢
       exact hh)
      go_wp2
      go_loopw [111] (fun t W=>∃k2:Nat,k2<=m/\t=.int .i64 (k2:Int)/\Below w7.heap.size w7 W) (fun t _=>m-(intOf t).toNat)
      case atStart=>exact⟨0,by omega,rfl,Below.refl _ _⟩
      case round=>
       obtain⟨k2,hk2,rfl,hBl⟩:=hrel
       have HBk:=zY hBl
       clear hBl
       by_cases hl2:k2<m
       {
       have hkJ:(k2:Int)<m:=by omega
       have hm5:=HM5.out
       have HEb:=zY (HEb0.out k2 hl2)
       obtain⟨_,_,e9,_,_,h4⟩:=HAl.out.below (HBj.out.trans (HBk.out.mono HBj.out.size))
       rw[HMl.out]at e9
       cases e9
       obtain⟨b3,o3,cs3,rfl,rfl,hc3⟩:=h4 k2 _ (HRw.out k2 hl2)
       obtain⟨T,hT⟩:=zNm (rowX (datL k y.str i2) 28 s k2)
       rw[hT]at HEb
       have y1:wr.cell? ⟨b3,o3+k2*2,none⟩=some (.int .i64 (k2:Int)):=hc3 0 _ rfl
       have y2:wr.cell? ⟨b3,o3+k2*2+1,none⟩=some (.string T):=by rw[<-hT];exact hc3 1 _ rfl
       have HKa:Hid (∀W,Below wr.heap.size wr W->W.cell? ⟨ga,1,none⟩=some (.int .i64 (k:Int))/\W.cell? ⟨b3,o3+k2*2,none⟩=some (.int .i64 (k2:Int))/\W.cell? ⟨b3,o3+k2*2+1,none⟩=some (.string T)):=zY (fun W hW=>⟨HKA.out W (HBj.out.trans ((HBk.out.trans (hW.mono HBk.out.size)).mono HBj.out.size)),cell_below hW y1,cell_below hW y2⟩)
       have HB7:=zY HBk.out
       have hmn:((m:Int) != (m:Int))=false:=by simp
       clear hc3 h4 hT y1 y2
       go_upto_region 31 with fail
       have HBd:=zY (Below.refl wr.heap.size wr).drew
       refine wp_region_held_drew (S:=(fun W=>W.cell? ⟨ga,1,none⟩=some (.int .i64 (k:Int))/\W.cell? ⟨b3,o3+k2*2,none⟩=some (.int .i64 (k2:Int))/\W.cell? ⟨b3,o3+k2*2+1,none⟩=some (.string T))) (by kernel_rfl) ?_ (fun hHeld=>?_)
       ·exact HKa.out _ HBd.out
       refine tk 0 ?_
       refine tk 1 ?_
       refine tk 2 ?_
       refine tk 3 ?_
       refine tk 4 ?_
       refine tk 5 ?_
       refine tk 6 ?_
       refine tk 7 ?_
       refine tk 8 ?_
       refine zE1 9 fun K hK=>?_
       go_simp
       refine(HEb.out _ (HB7.out.trans (HBd.out.mono HB7.out.size))).mono ?_
       rintro e8 w8 ⟨rfl,hb8⟩
       (try go_wp2_with fail)
       have HBd:=zYt HBd hb8
       clear hb8
       refine hko hK (by exact HKa.out _ HBd.out) (fun _=>?_)
       clear hK K
       refine tk 10 ?_
       refine tk 11 ?_
       refine tk 12 ?_
       refine tk 13 ?_
       refine tk 14 ?_
       refine wpAnyH_done (by kernel_rfl) ?_ _
       have e0:=HKa.out _ HBd.out
       obtain⟨_,y1,y2⟩:=e0
       have hn1:(T != T)=false:=bneV_false rfl
       have hn2:(T.toList != T.toList)=false:=by simp
       go_wp2_with fail
       go_roundw
       case rel=>exact⟨k2+1,by omega,by go_num,HBk.out.trans (HBd.out.mono HBk.out.size)⟩
       case measure=>simp[intOf];omega}
       {
       obtain rfl:k2=m:=by omega
       have hkJ:¬((k2:Nat):Int)<(k2:Int):=by omega
       go_wp2
       go_roundw
       case rel=>exact⟨i2+1,by omega,by go_num,HB6.out.trans ((HBj.out.trans (HBk.out.mono HBj.out.size)).mono HB6.out.size)⟩
       case measure=>simp[intOf];omega}}}
     {
     rw[if_neg hc]at HOk⊢
     go_wp2
     go_roundw
     case rel=>exact⟨i+1,by omega,by go_num,HB3.out.trans (HB6.out.mono HB3.out.size)⟩
     case measure=>simp[intOf];omega}}}
    {
    obtain rfl:i2=F.length:=by omega
    have hiJ:¬((F.length:Nat):Int)<(F.length:Int):=by omega
    go_wp2
    go_roundw
    case rel=>exact⟨i+1,by omega,by go_num,HB3.out.trans (HB5.out.mono HB3.out.size)⟩
    case measure=>simp[intOf];omega}}
   {
   obtain rfl:i=L.length:=by omega
   have hiI:¬((L.length:Nat):Int)<(L.length:Int):=by omega
   have HAw:=zY (awake43_any wr (HTb.out wr HB.out))
   clear hB
   go_wp2_with fail
   refine HAw.out.mono ?_
   rintro e3 w3 ⟨rfl,hb3⟩
   have HB3:=zY (HB2.out.trans ((HB.out.trans (hb3.mono HB.out.size)).mono HB2.out.size))
   clear hb3
   go_wp2
   go_ret
   exact⟨rfl,HB3.out⟩}
end
end Go.Proofs.YthgenkkkapilhaaGreatDoor
namespace Go.Proofs.YthgenkkkapilhaaGreatDoor.lawVoRedundancy
section
open Go.ChangeShapes Go.WideShapes Go.ChangeAt Go.RowKit
theorem lifted (os:Os) (started:os.Started) (H:Type) (enc:TypeId×Value->H):
  ReturnsInHanded {} Tryz.checked os 7 .any (fun w args=>(Rows.volumeRedundancySpec.pre enc Tryz.prog Tryz.f7 Rows.volumeRedundancyRow.domain false w args/\laidMetH Tryz.prog Rows.volumeRedundancyRow.laid w)/\sizedMet enc Tryz.prog Tryz.f7 (OpenSpec.ofChange Rows.volumeRedundancySpec) false w args)
   (Rows.volumeRedundancySpec.post enc Tryz.prog Tryz.f7 false true false false):=by
 refine returns_shaped (C:=Tryz.checked) (X:=fun w _=>laidMetH Tryz.prog Rows.volumeRedundancyRow.laid w) (fun _ _ _ hh h=>h.of_heap hh) ownN started (by kernel_rfl) Tryz.func7
  (ChangeSpec.witness_shaped (enc:=enc) (C:=Tryz.checked) (os:=os) (X:=fun w _=>laidMetH Tryz.prog Rows.volumeRedundancyRow.laid w) false (World.laidAll Tryz.prog os Rows.volumeRedundancyRow.laid) #[.slice none 0 0,.int .u8 0,.int .u8 0] 8 (World.laidAll_os _ _ _)
   (World.shaped_of_ZipB (by kernel_rfl) (by kernel_rfl)) (by kernel_rfl) (by kernel_rfl) (by kernel_rfl)
   (by rw[MakeChecks.laidMetH_plain _ _ _ (by kernel_rfl)];exact laidMet_laidAll _ (by kernel_rfl) (by kernel_rfl))) ?_
 intro W base args ds gs before hval0 hW hc _ hL hsh _
 have hT:Tab W:=tab_of hL (by kernel_rfl) hsh
 have hval:∀(j:Nat) t v,Tryz.f7.params[j]?=some t->args[j]?=some v->Value.okWide Tryz.prog W .any base t v:=hval0
 have hW':=hW
 obtain⟨p,q,hA0,hV,rfl,_,_⟩:=hW
 have hA:DataW.TrodAll enc Tryz.prog W 0 (fun _=>true) true Tryz.f7.params.toList args.toList ds p:=hA0
 rw[Tryz.params7]at hA hval
 obtain⟨v0,vs0,d0,ds0,p0,q0,hargs,rfl,rfl,h0,r0⟩:=trodAll_cons hA
 obtain⟨v1,vs1,d1,ds1,p1,q1,rfl,rfl,rfl,h1,r1⟩:=trodAll_cons r0
 obtain⟨v2,vs2,d2,ds2,p2,q2,rfl,rfl,rfl,h2,r2⟩:=trodAll_cons r1
 obtain⟨rfl,rfl,rfl⟩:=trodAll_nil r2
 obtain rfl:args= #[v0,v1,v2]:=by cases args;simp_all
 obtain⟨rfl,rfl⟩:=trodVars_none hV
 have k0:=h0
 have lt0:∀x∈p0,x.block<W.heap.size:=by obtain⟨m,hm⟩:=k0;exact DataW.trod_lt m _ _ _ hm
 have k1:=h1
 have lt1:∀x∈p1,x.block<W.heap.size:=by obtain⟨m,hm⟩:=k1;exact DataW.trod_lt m _ _ _ hm
 have k2:=h2
 have lt2:∀x∈p2,x.block<W.heap.size:=by obtain⟨m,hm⟩:=k2;exact DataW.trod_lt m _ _ _ hm
 obtain⟨x0,hx0⟩:=open_bats (hval 0 22 v0 rfl rfl) h0
 obtain⟨x1,rfl,hx1⟩:=open_u8 (hval 1 5 v1 rfl rfl) h1
 obtain⟨x2,rfl,hx2⟩:=open_u8 (hval 2 5 v2 rfl rfl) h2
 clear hA0 hval0 hL
 refine(lawredundancy_any W v0 x0 hx0 x1 hx1 x2 hx2 hT).mono fun e W' ⟨he,bel⟩=>?_
 subst he
 exact⟨_,rfl,_,_,_,[],_,[],hW',trodAll_mk1 (shut_bool Tryz.underlying4 _),(trodAll_cons_mk (Below.trod laidN (by kernel_rfl) (of_decide_eq_true (by kernel_rfl)) k0 bel lt0) (trodAll_cons_mk (Below.trod laidN (by kernel_rfl) (of_decide_eq_true (by kernel_rfl)) k1 bel lt1) (trodAll_cons_mk (Below.trod laidN (by kernel_rfl) (of_decide_eq_true (by kernel_rfl)) k2 bel lt2) trodAll_mk0))),rfl,bel.frame _,fun h=>by cases h⟩
end
end Go.Proofs.YthgenkkkapilhaaGreatDoor.lawVoRedundancy
