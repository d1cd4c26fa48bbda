/-
  Joined: VrW VrX VsA VsC.
-/
import Derived.Test.YthgenkkkapilhaaGreatDoorVCn41
import Derived.Test.YthgenkkkapilhaaGreatDoorVCn45
set_option linter.all false
set_option maxRecDepth 100000
set_option maxHeartbeats 64000000
namespace Go.Proofs.YthgenkkkapilhaaGreatDoor
section
open Go.RowKit
theorem padL_ten {n v k:Nat} (h:v<10^(k+1)) (hk:k+1<=n):(padL n v).length=n:=by
 rw[padL,List.length_append,List.length_replicate]
 have:=digD_len k v h
 omega
theorem plnL_size {a i t:Nat} {x:ByteArray} (h:PlnOk a i t x):(plnL a i t x).length=768:=by
 have h1:(textL a i t x).length=84:=by
  simp only[textL,List.length_append,bs_len]
  have q1:=h.ha
  have q2:=h.it
  have q3:=h.ht
  have p1:=padL_ten (n:=10) (v:=a) (k:=9) (by omega) (by omega)
  have p2:=padL_ten (n:=5) (v:=i) (k:=4) (by omega) (by omega)
  have p3:=padL_ten (n:=5) (v:=t) (k:=4) (by omega) (by omega)
  have p4:=h.hx
  omega
 have h2:(sealL (textL a i t x)).length=94:=by
  rw[sealL,List.length_append,h1,padL_ten (k:=9) (by have:=sumL_lt [strB (textL a i t x)];omega) (by omega)]
 rw[plnL,List.length_append,frmB_len,h2]
 rfl
theorem chks_one {α:Type} {k:Nat} {l:List α} (h:0<l.length) (h2:l.length<=k):chks k l=[l]:=by
 have e:(l.length+k-1)/k=1:=by
  rw[Nat.div_eq_iff (by omega)]
  omega
 rw[chks,e,chkF]
 show [(l.drop (k*0)).take k]=[l]
 rw[Nat.mul_zero,List.drop_zero,List.take_of_length_le h2]
def ses0:Ses:=⟨1,0,⟨#[]⟩,[],⟨#[]⟩,⟨#[]⟩⟩
theorem ses0_dir:(dirL ses0).length=58:=by
 have h1:(digL (bs (⟨#[]⟩:ByteArray))).length=32:=digL_len _
 have h2:∀l:List Nat,l.length=32->(nstL l).length=36:=fun l h=>by
  have d:(digD 32).length=2:=by simp[digD_great,digD_small]
  simp only[nstL,List.length_append,h,d]
  rfl
 have h3:(nstL (bs (strB (digL (bs (⟨#[]⟩:ByteArray)))))).length=36:=h2 _ (by rw[bs_len,strB_size,h1])
 have h4:(restL ses0).length=50:=by
  show (numL 1++numL 0++nstL []++(numL 0++nstL (bs (strB (digL (bs (⟨#[]⟩:ByteArray)))))++numL 0)++[]++nstL []).length=50
  have e1:(nstL ([]:List Nat)).length=3:=by simp[nstL,digD_small]
  have e2:(numL 0).length=2:=by simp[numL,digD_small]
  have e3:(numL 1).length=2:=by simp[numL,digD_small]
  simp only[List.length_append,h3,e1,e2,e3,List.length_nil]
 rw[dirL,List.length_append,dig8_len,h4]
theorem ses0_parts:(partsB (strB (dirL ses0))).length=3:=by
 rw[partsB,List.length_map,List.length_range,strB_size,ses0_dir]
theorem ses0_cont:contE 1 0 [ses0] 1=0:=by
 unfold contE
 rw[if_neg (by decide),if_neg (by decide)]
 show (if 65536<(partsB (strB (dirL ses0))).length then (6:Int) else 0)=0
 rw[ses0_parts]
 rfl
theorem ses0_all:SesAll [ses0]:=by
 intro i x h
 match i,h with
 |0,h=>
  cases h
  exact⟨rfl,⟨by decide,by decide,.inl rfl,by decide,by decide,fun e he=>(by cases he),by decide⟩,by decide⟩
theorem ses0_frames:(framesF 7 1 0 [ses0] 1).length=3:=by
 rw[framesF_ok ses0_cont (x:=ses0) rfl]
 show ([reelL 7 1 0 1 0 (partsB (strB (dirL ses0))) (rowsL 1 0 ⟨#[]⟩) ⟨#[]⟩].flatten).length=3
 rw[List.flatten_cons,List.flatten_nil,List.append_nil,reelL_len,ses0_parts]
 rfl
theorem dollar_ok:splitE ⟨#[36]⟩=0:=by decide
theorem ses0_reelsE:reelsE 1 0 [ses0] ⟨#[36]⟩=0:=by
 rw[reelsE,if_neg (by decide),dollar_ok,if_neg (by decide)]
 show firstN _ 1=0
 exact firstN_zero fun m hm=>by
  obtain rfl:m=0:=by omega
  exact ses0_cont
theorem ses0_reels:∃p1 p2:ByteArray,reelsR 7 1 0 [ses0] ⟨#[36]⟩=[(0,[p1,p2])]/\p1.size=768/\p2.size=2556:=by
 rw[reelsR,if_pos ses0_reelsE]
 have hp:stripsT 7 ⟨#[36]⟩=[strB (plnL 7 0 1 (plnAt 7 ⟨#[36]⟩ 0).x)]:=by
  have e:plnsL 7 ⟨#[36]⟩=[plnAt 7 ⟨#[36]⟩ 0]:=rfl
  rw[stripsT,e,chks_one (by decide) (by decide)]
  show [strB (plCells [plnAt 7 ⟨#[36]⟩ 0])]=_
  rw[plCells,List.flatMap_cons,List.flatMap_nil,List.append_nil]
  rfl
 have hz:(plnL 7 0 1 (plnAt 7 ⟨#[36]⟩ 0).x).length=768:=plnL_size (plnAt_ok (by decide) dollar_ok (by decide))
 obtain⟨F,hF⟩:=zNm (reelL 7 1 0 1 0 (partsB (strB (dirL ses0))) (rowsL 1 0 ⟨#[]⟩) ⟨#[]⟩)
 have hFl:F.length=3:=by
  rw[<-hF,reelL_len,ses0_parts]
  rfl
 have hs:sesPs 7 1 0 [ses0] 0 1=[strB (celsL F)]:=by
  show [sesP 7 1 0 [ses0] 0 0].flatten=_
  have e:sesP 7 1 0 [ses0] 0 0=(chks 8 (reelL 7 1 0 1 0 (partsB (strB (dirL ses0))) (rowsL 1 0 ⟨#[]⟩) ⟨#[]⟩)).map fun g=>strB (celsL g):=rfl
  rw[e,hF,chks_one (by omega) (by omega)]
  rfl
 refine⟨strB (plnL 7 0 1 (plnAt 7 ⟨#[36]⟩ 0).x),strB (celsL F),?_,by rw[strB_size,hz],by rw[strB_size,celsL_len,hFl]⟩
 show [(0,stripsT 7 ⟨#[36]⟩++sesPs 7 1 0 [ses0] 0 1)]=_
 rw[hp,hs]
 rfl
theorem seq_two {W:World} {v:Value} {p1 p2:ByteArray} (h:SeqAt strS W v [p1,p2]):∃b o c,v=.slice (some ⟨b,o,none⟩) 2 c/\W.cell? ⟨b,o,none⟩=some (.string p1)/\W.cell? ⟨b,o+1,none⟩=some (.string p2):=by
 obtain⟨A,c,rfl,_,_,h3⟩:=h
 obtain⟨b,o,cs,rfl,rfl,h4⟩:=h3 0 p1 rfl
 obtain⟨b',o',cs',e,rfl,h5⟩:=h3 1 p2 rfl
 cases e
 have c0:=h4 0 _ rfl
 have c1:=h5 0 _ rfl
 exact⟨b,o,c,rfl,by rwa [show o+0*strS.n+0=o by omega]at c0,by rwa [show o+1*strS.n+0=o+1 from rfl]at c1⟩
theorem reel_one {W:World} {v:Value} {r:Nat} {ps:List ByteArray} (h:SeqAt reelS W v [(r,ps)]):∃b o c u,v=.slice (some ⟨b,o,none⟩) 1 c/\W.cell? ⟨b,o+1,none⟩=some u/\SeqAt strS W u ps:=by
 obtain⟨A,c,rfl,_,_,h3⟩:=h
 obtain⟨b,o,cs,rfl,⟨u,rfl,hu⟩,h4⟩:=h3 0 _ rfl
 have c1:=h4 1 _ rfl
 exact⟨b,o,c,u,rfl,by rwa [show o+0*reelS.n+1=o+1 by omega]at c1,hu⟩
theorem awake43_any (w:World) (hT:Tab w):Calls Tryz.prog 12 #[] w fun e w'=>e=.returned (.bool true)/\Below w.heap.size w w':=by
 have HT:=zY hT
 have hS:=Blk.new w 45 [.int .i64 1,.int .i64 0,.string ⟨#[]⟩,.slice none 0 0,.string ⟨#[]⟩,.string ⟨#[]⟩]
 have HB1:=zBl w (.cells #[.int .i64 1,.int .i64 0,.string ⟨#[]⟩,.slice none 0 0,.string ⟨#[]⟩,.string ⟨#[]⟩] 45)
 obtain⟨w1,hw1⟩:=zNm (w.alloc (.cells #[.int .i64 1,.int .i64 0,.string ⟨#[]⟩,.slice none 0 0,.string ⟨#[]⟩,.string ⟨#[]⟩] 45))
 change Blk (w.alloc (.cells #[.int .i64 1,.int .i64 0,.string ⟨#[]⟩,.slice none 0 0,.string ⟨#[]⟩,.string ⟨#[]⟩] 45)) _ _ _ at hS
 rw[hw1]at hS HB1
 have hq:SeqAt sesS w1 (.slice (some ⟨w.heap.size,0,none⟩) 1 1) [ses0]:=by
  refine⟨_,1,rfl,Nat.le_refl _,by omega,fun i x hx=>?_⟩
  match i,hx with
  |0,hx=>
   cases hx
   exact⟨w.heap.size,0,_,rfl,⟨.slice none 0 0,rfl,SeqAt.nil _⟩,fun j u hu=>by rw[show 0+0*sesS.n+j=j by omega];exact hS.cell hu⟩
 have hK:=Blk.new w1 28 [.int .u32 7,.int .i64 1,.int .i64 0,.slice (some ⟨w.heap.size,0,none⟩) 1 1]
 have HK:Hid (Blk (w1.alloc (.cells #[.int .u32 7,.int .i64 1,.int .i64 0,.slice (some ⟨w.heap.size,0,none⟩) 1 1] 28)) w1.heap.size 28 [.int .u32 7,.int .i64 1,.int .i64 0,.slice (some ⟨w.heap.size,0,none⟩) 1 1]):=zY hK
 have HB2:=zY (HB1.alloc HB1.size (.cells #[.int .u32 7,.int .i64 1,.int .i64 0,.slice (some ⟨w.heap.size,0,none⟩) 1 1] 28))
 have HQ:=zY (hq.below (zBl w1 (.cells #[.int .u32 7,.int .i64 1,.int .i64 0,.slice (some ⟨w.heap.size,0,none⟩) 1 1] 28)))
 have hs1:w1.heap.size=w.heap.size+1:=by rw[<-hw1,World.size_alloc]
 clear hT hS HB1 hq hK
 go_enter Tryz.func12,Tryz.ntmps12
 go_upto_region 2 with fail
 (try rw[hw1])
 rw[hs1]at HK
 generalize w1.alloc (.cells #[.int .u32 7,.int .i64 1,.int .i64 0,.slice (some ⟨w.heap.size,0,none⟩) 1 1] 28)=w2 at *
 have HT2:=zY (HT.out.below HB2.out)
 have HRl:=zY (volreels_any w2 7 1 0 _ [ses0] ⟨#[36]⟩ (by decide) HQ.out (by decide) ses0_all (by decide) HT2.out)
 obtain⟨p1,p2,hR,hp1,hp2⟩:=ses0_reels
 rw[ses0_reelsE,hR]at HRl
 clear hR hw1
 have c0:=HK.out.c 0
 have c1:=HK.out.c 1
 have c2:=HK.out.c 2
 have c3:=HK.out.c 3
 go_wp2_with fail
 refine HRl.out.mono ?_
 rintro e3 w3 ⟨⟨vl,rfl,hl⟩,hb3⟩
 have HK3:=zY (HK.out.kept hb3)
 have HB3:=zYt HB2 hb3
 have HFr:=zY (frames_any w3 7 1 0 _ [ses0] 1 (HQ.out.below hb3) (by decide) ses0_all (HT.out.below HB3.out))
 rw[ses0_cont]at HFr
 have HL:=zY hl
 obtain⟨b,o,c,u,rfl,_,_⟩:=reel_one hl
 clear hl hb3 HK HB2 HT2 HRl c0 c1 c2 c3
 have c0:=HK3.out.c 0
 have c1:=HK3.out.c 1
 have c2:=HK3.out.c 2
 have c3:=HK3.out.c 3
 go_upto_region 3 with fail
 go_wp2_with fail
 refine HFr.out.mono ?_
 rintro e4 w4 ⟨⟨vf,rfl,hf⟩,hb4⟩
 obtain⟨Af,cf',rfl⟩:=hf.slice
 rw[ses0_frames]
 obtain⟨b',o',c',u',e,hu,hus⟩:=reel_one (HL.out.below hb4)
 cases e
 obtain⟨b2,o2,c2',rfl,hq1,hq2⟩:=seq_two hus
 have hp1I:(p1.size:Int)=768:=by omega
 have hp2I:(p2.size:Int)=2556:=by omega
 have HB4:=zYt HB3 hb4
 clear hf hb4 hus hp1 hp2 c0 c1 c2 c3 HFr HL
 go_upto_region 4 with fail
 go_wp2
 go_ret
 exact⟨rfl,HB4.out⟩
theorem entN_mem {L:List Ses} {i:Nat} {x:Ses} (h:L[i]?=some x):x.ents.length<=entN L:=by
 have h1:=entN_take L h
 have h2:=entN_le L (i+1)
 omega
theorem MadeOk.all {L:List Ses} (h:MadeOk L):SesAll L:=fun i x hx=>by
 have hm:=List.mem_of_getElem? hx
 have ho:=h.ok x hm
 have hn:=h.num i x hx
 have hi:=(List.getElem?_eq_some_iff.1 hx).1
 have hl:=h.len
 have h1:=entN_mem hx
 have h2:=h.ents
 have h3:=h.str x hm
 exact⟨hn,⟨by omega,ho.date,ho.prev,ho.str,by omega,fun e he=>(ho.ok e he).ok,by rw[ho.sig];decide⟩,by omega⟩
theorem entsL_small {l:List Ent} (h:∀e∈l,EntB e):(entsL l).length<=l.length*131000:=by
 induction l with
 |nil=>simp[entsL]
 |cons a l ih=>
  have h1:=encL_len (h a List.mem_cons_self).ok
  have h2:=(h a List.mem_cons_self).exs
  have h3:=ih fun e he=>h e (List.mem_cons_of_mem _ he)
  have e:entsL (a::l)=encL a++entsL l:=rfl
  rw[e,List.length_append,List.length_cons,Nat.succ_mul]
  omega
theorem dir_small {L:List Ses} (h:MadeOk L) {j:Nat} {x:Ses} (hx:L[j]?=some x):(dirL x).length<=1400000:=by
 have hm:=List.mem_of_getElem? hx
 have ho:=h.ok x hm
 have hv:=(h.all j x hx).2.1
 have hn:=entN_mem hx
 have he:=h.ents
 have h1:=numL_len x.num.toNat (by have:=hv.num;omega)
 have h2:=numL_len x.date.toNat (by have:=hv.date;omega)
 have h3:=nstL_len x.prev (by have:=ho.prev;omega)
 have h4:=numL_len x.str.size (by have:=hv.str;omega)
 have h5:=nstL_len (strB (digL (bs x.str))) (by rw[strB_size,digL_len];decide)
 have h6:=numL_len x.ents.length (by omega)
 have h7:=entsL_small ho.ok
 have h8:=nstL_len x.sig (by rw[ho.sig];decide)
 have h9:=ho.prev
 have ha:x.sig.size=0:=by rw[ho.sig];rfl
 rw[strB_size]at h1 h2 h3 h4 h5 h6 h8
 rw[strB_size,digL_len]at h5
 have e:x.ents.length*131000<=10*131000:=Nat.mul_le_mul_right _ (by omega)
 simp only[dirL,restL,signL,List.length_append,dig8_len]
 omega
theorem partsB_len (s:ByteArray):(partsB s).length=(s.size+27)/28:=by rw[partsB,List.length_map,List.length_range]
theorem parts_small {L:List Ses} (h:MadeOk L) {j:Nat} {x:Ses} (hx:L[j]?=some x):(partsB (strB (dirL x))).length<=65536:=by
 have:=dir_small h hx
 rw[partsB_len,strB_size]
 omega
theorem contE_made {L:List Ses} (h:MadeOk L) {j:Nat} {x:Ses} (hx:L[j]?=some x) {d s:Nat} (hd:1<=d/\d<=3) (hs:s<=2):contE d s L x.num=0/\L[(x.num-1).toNat]?=some x:=by
 have hn:=h.num j x hx
 have hj:=(List.getElem?_eq_some_iff.1 hx).1
 have e:(x.num-1).toNat=j:=by omega
 have hp:=parts_small h hx
 refine⟨?_,by rw[e];exact hx⟩
 unfold contE layE
 rw[if_neg (by rw[if_neg (by omega)];simp),if_neg (by omega),e,hx]
 dsimp only
 rw[if_neg (by omega)]
theorem flat_gets {α:Type} {m:Nat}:∀{ls:List (List α)} (_:∀l∈ls,l.length=m) {i:Nat} {x:α} (_:ls.flatten[i]?=some x),∃l,ls[i/m]?=some l/\x∈l
 |[],_,i,x,hx=>by simp at hx
 |a::t,h,i,x,hx=>by
  have ha:=h a List.mem_cons_self
  rw[List.flatten_cons]at hx
  by_cases hi:i<m
  {
  rw[List.getElem?_append_left (by omega)]at hx
  exact⟨a,by rw[Nat.div_eq_of_lt hi];rfl,List.mem_of_getElem? hx⟩}
  {
  rw[List.getElem?_append_right (by omega),ha]at hx
  obtain⟨l,h1,h2⟩:=flat_gets (fun l hl=>h l (List.mem_cons_of_mem _ hl)) hx
  refine⟨l,?_,h2⟩
  rcases Nat.eq_zero_or_pos m with rfl|hm
  {
  rw[Nat.div_zero]at h1⊢
  cases t with
  |nil=>simp at h1
  |cons b t=>
   have e1:a=[]:=List.eq_nil_of_length_eq_zero ha
   have e2:b=[]:=List.eq_nil_of_length_eq_zero (h b (by simp))
   have:l=b:=by simpa using h1.symm
   rw[this,e2]at h2
   simp at h2}
  {
  rw[show i/m=(i-m)/m+1 by rw[Nat.div_eq_sub_div hm (by omega)]]
  simpa using h1}}
theorem flat_lens {α:Type} {m:Nat}:∀{ls:List (List α)} (_:∀l∈ls,l.length=m),ls.flatten.length=m*ls.length
 |[],_=>by simp
 |a::t,h=>by
  rw[List.flatten_cons,List.length_append,h a List.mem_cons_self,flat_lens fun l hl=>h l (List.mem_cons_of_mem _ hl),List.length_cons,Nat.mul_succ]
  omega
def eachN (d:Nat) (x:Ses):Nat:=(partsB (strB (dirL x))).length+strN d x.str.size
theorem rowsL_strN (d s:Nat) (st:ByteArray):(rowsL d s st).length=strN d st.size:=by
 rw[rowsL,List.length_map,stripL,List.length_map,List.length_range]
theorem reelsL_len {id n:Int} {d s:Nat} {x:Ses}:∀l∈reelsL id d s n x,l.length=eachN d x:=by
 intro l hl
 obtain⟨r,_,rfl⟩:=List.mem_map.1 hl
 rw[reelL_len,rowsL_strN]
 rfl
theorem reelL_on {id d s n:Int} {r:Nat} {P:List ByteArray} {S:List (List ByteArray)} {st:ByteArray}:∀f∈reelL id d s n r P S st,f.r=(r:Int):=by
 intro f hf
 rcases List.mem_append.1 hf with h|h
 {
 obtain⟨i,_,rfl⟩:=List.mem_map.1 h
 rfl}
 {
 obtain⟨i,_,rfl⟩:=List.mem_map.1 h
 rfl}
theorem made_frames {L:List Ses} (h:MadeOk L) {j:Nat} {x:Ses} (hx:L[j]?=some x) {d s:Nat} (hd:1<=d/\d<=3) (hs:s<=2):
  (framesF 7 d s L x.num).length=eachN d x*(d+s)/\∀(i:Nat) (f:Frm),(framesF 7 d s L x.num)[i]?=some f->FrmOk f/\f.r=((i/eachN d x:Nat):Int):=by
 obtain⟨h1,h2⟩:=contE_made h hx hd hs
 have hp:=parts_small h hx
 have hst:=(h.all j x hx).2.2
 have hn:=h.num j x hx
 have hj:=(List.getElem?_eq_some_iff.1 hx).1
 have hl:=h.len
 rw[framesF_ok h1 h2]
 refine⟨?_,fun i f hf=>?_⟩
 {
 rw[flat_lens reelsL_len,reelsL,List.length_map,List.length_range]
 rfl}
 {
 obtain⟨l,g1,g2⟩:=flat_gets reelsL_len hf
 rw[reelsL,List.getElem?_map]at g1
 have hr:i/eachN d x<(d:Int).toNat+(s:Int).toNat:=by
  by_cases c:i/eachN d x<(d:Int).toNat+(s:Int).toNat
  ·exact c
  {
  rw[List.getElem?_eq_none (by rw[List.length_range];omega)]at g1
  simp at g1}
 rw[List.getElem?_range hr]at g1
 cases g1
 exact⟨reel_ok (by omega) (by omega) (by omega) hr (by omega) hp hst f g2,reelL_on f g2⟩}
def selF (c:Frm->Bool) (f:Frm):List Nat:=if c f=true/\0<=f.l/\f.l<=f.t.size then (bs f.t).take f.l.toNat else []
def catF (c:Frm->Bool) (l:List Frm):List Nat:=l.flatMap (selF c)
def onD (r:Nat) (f:Frm):Bool:=f.k==68&&f.r==(r:Int)
def onB (i r:Nat) (f:Frm):Bool:=f.k==66&&(f.i==(i:Int)&&f.r==(r:Int))
theorem catF_step {c:Frm->Bool} {l:List Frm} {k:Nat} {f:Frm} (h:l[k]?=some f):catF c (l.take (k+1))=catF c (l.take k)++selF c f:=by
 rw[catF,List.take_add_one,h,List.flatMap_append]
 simp[catF]
theorem catF_le (c:Frm->Bool) (l:List Frm) (k:Nat):(catF c (l.take k)).length<=(catF c l).length:=by
 have h:catF c l=catF c (l.take k)++catF c (l.drop k):=by rw[catF,catF,catF,<-List.flatMap_append,List.take_append_drop]
 rw[h,List.length_append]
 exact Nat.le_add_right _ _
theorem catF_flat (c:Frm->Bool) (ls:List (List Frm)):catF c ls.flatten=ls.flatMap (catF c):=by
 induction ls with
 |nil=>rfl
 |cons a t ih=>rw[List.flatten_cons,List.flatMap_cons,<-ih,catF,List.flatMap_append];rfl
theorem range_one {α:Type} {N r:Nat} (h:r<N) (g:Nat->List α) (hz:∀j,j≠r->g j=[]):(List.range N).flatMap g=g r:=by
 induction N with
 |zero=>omega
 |succ N ih=>
  rw[List.range_succ,List.flatMap_append]
  by_cases e:r=N
  {
  subst e
  rw[show (List.range r).flatMap g=[] by rw[List.flatMap_eq_nil_iff];intro j hj;exact hz j (by have:=List.mem_range.1 hj;omega)]
  simp}
  {
  rw[ih (by omega)]
  simp[hz N (by omega)]}
theorem range_none {α:Type} {N:Nat} (g:Nat->List α) (hz:∀j,j<N->g j=[]):(List.range N).flatMap g=[]:=by
 rw[List.flatMap_eq_nil_iff]
 intro j hj
 exact hz j (List.mem_range.1 hj)
theorem cut_step {α:Type} (L:List α) {a b:Nat} (h:a<=b):L.take a++(L.take b).drop a=L.take b:=by
 have:=List.take_append_drop a (L.take b)
 rw[List.take_take,Nat.min_eq_left h]at this
 exact this
theorem cuts_all {α:Type} (L:List α) (m:Nat):((List.range m).flatMap fun i=>(L.take (28*i+28)).drop (28*i))=L.take (28*m):=by
 induction m with
 |zero=>simp
 |succ m ih=>
  rw[List.range_succ,List.flatMap_append,ih]
  simp only[List.flatMap_cons,List.flatMap_nil,List.append_nil]
  rw[cut_step L (by omega),Nat.mul_succ]
theorem bs_append (s t:ByteArray):bs (s++t)=bs s++bs t:=by
 rw[bs_data,bs_data,bs_data,ByteArray.data_append,Array.toList_append,List.map_append]
theorem partB_bs (s:ByteArray) (k:Nat):bs (partB s k)=((bs s).take (28*k+28)).drop (28*k):=by
 rw[partB,bs_extract]
 by_cases h:28*k+28<=s.size
 ·rw[Nat.min_eq_left h]
 ·rw[Nat.min_eq_right (by omega),List.take_of_length_le (by rw[bs_len];exact Nat.le_refl _),List.take_of_length_le (by rw[bs_len];omega)]
theorem selF_no {c:Frm->Bool} {f:Frm} (h:c f=false):selF c f=[]:=by rw[selF,if_neg (by rw[h];simp)]
theorem dir_cat {id n:Int} {d s r:Nat} {x:Ses} (hr:r<d+s):catF (onD r) (reelsL id d s n x).flatten=bs (strB (dirL x)):=by
 generalize hT:strB (dirL x)=T
 rw[catF_flat,reelsL,List.flatMap_map,hT]
 have hs:∀r',catF (onD r) (stripsF id d s n r' x.str (rowsL (d:Int).toNat (s:Int).toNat x.str))=[]:=fun r'=>by
  rw[catF,stripsF,List.flatMap_map]
  exact range_none _ fun j _=>selF_no rfl
 rw[range_one (r:=r) (by simpa using hr)]
 {
 rw[reelL,catF,List.flatMap_append]
 have h2:=hs r
 rw[catF]at h2
 rw[h2,List.append_nil,partsF,List.flatMap_map,partsB_len]
 have e:∀i,i<(T.size+27)/28->selF (onD r) (partF id d s n r i ((partsB T).getD i ⟨#[]⟩))=((bs T).take (28*i+28)).drop (28*i):=fun i hi=>by
  have hg:(partsB T).getD i ⟨#[]⟩=partB T i:=by rw[List.getD,partsB,List.getElem?_map,List.getElem?_range hi];rfl
  have hz:(partB T i).size<=28:=by rw[partB,ByteArray.size_extract];omega
  rw[hg,<-partB_bs]
  show (if _ then _ else _)=_
  rw[if_pos ⟨by simp[onD,partF],by simp[partF],by simp only[partF];rw[fillB_size hz];omega⟩]
  show (bs (fillB (partB T i))).take ((partB T i).size:Int).toNat=_
  rw[fillB,bs_append,Int.toNat_natCast,List.take_append_of_le_length (by rw[bs_len];exact Nat.le_refl _),List.take_of_length_le (by rw[bs_len];exact Nat.le_refl _)]
 have e2:∀m,m<=(T.size+27)/28->((List.range m).flatMap fun i=>selF (onD r) (partF id d s n r i ((partsB T).getD i ⟨#[]⟩)))=(List.range m).flatMap fun i=>((bs T).take (28*i+28)).drop (28*i):=fun m hm=>by
  induction m with
  |zero=>rfl
  |succ m ih=>
   rw[List.range_succ,List.flatMap_append,List.flatMap_append,ih (by omega)]
   simp only[List.flatMap_cons,List.flatMap_nil,List.append_nil]
   rw[e m (by omega)]
 rw[e2 _ (Nat.le_refl _),cuts_all,List.take_of_length_le (by rw[bs_len];omega)]}
 {
 intro j hj
 rw[reelL,catF,List.flatMap_append]
 have h2:=hs j
 rw[catF]at h2
 rw[h2,List.append_nil,partsF,List.flatMap_map]
 exact range_none _ fun i _=>selF_no (by simp[onD,partF];omega)}
theorem block_take (L:List Nat) (m:Nat):((List.range 28).map fun j=>cf L (28*m+j)).take (min (L.length-28*m) 28)=(L.take (28*m+28)).drop (28*m):=by
 apply List.ext_getElem?
 intro j
 rw[List.getElem?_take,List.getElem?_drop,List.getElem?_take]
 by_cases h:j<min (L.length-28*m) 28
 {
 rw[if_pos h,if_pos (by omega),List.getElem?_map,List.getElem?_range (by omega)]
 have hl:28*m+j<L.length:=by omega
 rw[List.getElem?_eq_getElem hl]
 exact congrArg some (cf_get (List.getElem?_eq_getElem hl))}
 {
 rw[if_neg h]
 by_cases h2:28*m+j<28*m+28
 ·rw[if_pos h2,List.getElem?_eq_none (by omega)]
 ·rw[if_neg h2]}
theorem block_cat {id n:Int} {d s i r:Nat} {x:Ses} (hr:r<d):catF (onB i r) (reelsL id d s n x).flatten=((bs x.str).take (28*(i*d+r)+28)).drop (28*(i*d+r)):=by
 rw[catF_flat,reelsL,List.flatMap_map]
 have hp:∀r',catF (onB i r) (partsF id d s n r' (partsB (strB (dirL x))))=[]:=fun r'=>by
  rw[catF,partsF,List.flatMap_map]
  exact range_none _ fun j _=>selF_no rfl
 rw[range_one (r:=r) (by simp;omega)]
 {
 rw[reelL,catF,List.flatMap_append]
 have h2:=hp r
 rw[catF]at h2
 rw[h2,List.nil_append,stripsF,List.flatMap_map,Int.toNat_natCast,Int.toNat_natCast,rowsL_strN]
 by_cases hi:i<strN d x.str.size
 {
 rw[range_one hi]
 {
 rw[rowsL_get (by rw[rowsL_strN];exact hi)]
 have hc:(stripF id d s n r x.str i (datL d x.str i++sparL (datL d x.str i) 28 s)).t=blockB x.str (i*d+r):=cell_data hr
 have hu:(stripF id d s n r x.str i (datL d x.str i++sparL (datL d x.str i) 28 s)).l=((min (x.str.size-(i*d+r)*28) 28:Nat):Int):=by
  show ((usedF (d:Int).toNat r i x.str.size:Nat):Int)=_
  rw[Int.toNat_natCast,usedF,if_neg (by omega)]
 rw[selF,hc,hu,if_pos ⟨by simp[onB,stripF],by omega,by rw[blockB_size];omega⟩,Int.toNat_natCast,blockB,bs_strB (by
  intro b hb
  obtain⟨j,_,rfl⟩:=List.mem_map.1 hb
  exact cf_lt (bs_lt _) _),Nat.mul_comm (i*d+r) 28,<-bs_len]
 exact block_take _ _}
 {
 intro j hj
 exact selF_no (by simp[onB,stripF];omega)}}
 {
 rw[range_none _ fun j hj=>selF_no (by simp[onB,stripF];omega)]
 have h1:=(not_congr (strN_lt (n:=x.str.size) (k:=i) (d:=d) (by omega))).1 hi
 rw[List.drop_eq_nil_of_le]
 rw[List.length_take,bs_len]
 have:28*(i*d+r)=28*d*i+28*r:=by rw[Nat.mul_add,Nat.mul_comm i d,<-Nat.mul_assoc]
 omega}}
 {
 intro j hj
 rw[reelL,catF,List.flatMap_append]
 have h2:=hp j
 rw[catF]at h2
 rw[h2,List.nil_append,stripsF,List.flatMap_map]
 exact range_none _ fun i _=>selF_no (by simp[onB,stripF];omega)}
theorem stream_all {d s:Nat} {st:ByteArray} {m:Nat} (hd:1<=d) (hm:strN d st.size<=m):(bs st).take (28*(m*d))=bs st:=by
 apply List.take_of_length_le
 rw[bs_len]
 have h1:=(not_congr (strN_lt (n:=st.size) (k:=m) hd)).1 (by omega)
 have:28*(m*d)=28*d*m:=by rw[Nat.mul_comm m d,<-Nat.mul_assoc]
 omega
end
end Go.Proofs.YthgenkkkapilhaaGreatDoor
