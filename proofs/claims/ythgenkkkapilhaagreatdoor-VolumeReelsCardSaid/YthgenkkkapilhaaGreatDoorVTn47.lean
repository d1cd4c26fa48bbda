/- Texts, joined. -/
import Derived.Test.YthgenkkkapilhaaGreatDoorVTn41
import Derived.Test.YthgenkkkapilhaaGreatDoorVTn44
import Derived.Test.YthgenkkkapilhaaGreatDoorVTn46
set_option linter.all false
set_option maxRecDepth 100000
set_option maxHeartbeats 64000000
namespace Go.Proofs.YthgenkkkapilhaaGreatDoor
section
open Go.RowKit
theorem padL_ten {n v k:Nat} (h:v<10^(k+1)) (hk:k+1<=n):(padL n v).length=n:=by
 rw[padL,List.length_append,List.length_replicate];have:=digD_len k v h;omega
theorem plnL_size {a i t:Nat} {x:ByteArray} (h:PlnOk a i t x):(plnL a i t x).length=768:=by
 have h1:(textL a i t x).length=84:=by simp only[textL,List.length_append,bs_len];have q1:=h.ha;have q2:=h.it;have q3:=h.ht;have p1:=padL_ten (n:=10) (v:=a) (k:=9) (by omega) (by omega);have p2:=padL_ten (n:=5) (v:=i) (k:=4) (by omega) (by omega);have p3:=padL_ten (n:=5) (v:=t) (k:=4) (by omega) (by omega);have p4:=h.hx;omega
 have h2:(sealL (textL a i t x)).length=94:=by rw[sealL,List.length_append,h1,padL_ten (k:=9) (by have:=sumL_lt [strB (textL a i t x)];omega) (by omega)]
 rw[plnL,List.length_append,frmB_len,h2];rfl
theorem chks_one {α:Type} {k:Nat} {l:List α} (h:0<l.length) (h2:l.length<=k):chks k l=[l]:=by
 have e:(l.length+k-1)/k=1:=by rw[Nat.div_eq_iff (by omega)];omega
 rw[chks,e,chkF];show [(l.drop (k*0)).take k]=[l];rw[Nat.mul_zero,List.drop_zero,List.take_of_length_le h2]
def ses0:Ses:=⟨1,0,⟨#[]⟩,[],⟨#[]⟩,⟨#[]⟩⟩
theorem ses0_dir:(dirL ses0).length=58:=by
 have h1:(digL (bs (⟨#[]⟩:ByteArray))).length=32:=digL_len _;have h2:∀l:List Nat,l.length=32->(nstL l).length=36:=fun l h=>by
  have d:(digD 32).length=2:=by simp[digD_great,digD_small]
  simp only[nstL,List.length_append,h,d]
  rfl
 have h3:(nstL (bs (strB (digL (bs (⟨#[]⟩:ByteArray)))))).length=36:=h2 _ (by rw[bs_len,strB_size,h1]);have h4:(restL ses0).length=50:=by{
 show (numL 1++numL 0++nstL []++(numL 0++nstL (bs (strB (digL (bs (⟨#[]⟩:ByteArray)))))++numL 0)++[]++nstL []).length=50;have e1:(nstL ([]:List Nat)).length=3:=by simp[nstL,digD_small]
 have e2:(numL 0).length=2:=by simp[numL,digD_small]
 have e3:(numL 1).length=2:=by simp[numL,digD_small]
 simp only[List.length_append,h3,e1,e2,e3,List.length_nil]};rw[dirL,List.length_append,dig8_len,h4]
theorem ses0_parts:(partsB (strB (dirL ses0))).length=3:=by
 rw[partsB,List.length_map,List.length_range,strB_size,ses0_dir]
theorem ses0_cont:contE 1 0 [ses0] 1=0:=by
 unfold contE;rw[if_neg (by decide),if_neg (by decide)];show (if 65536<(partsB (strB (dirL ses0))).length then (6:Int) else 0)=0;rw[ses0_parts];rfl
theorem ses0_all:SesAll [ses0]:=by
 intro i x h;match i,h with
 |0,h=>
 cases h;exact⟨rfl,⟨by decide,by decide,.inl rfl,by decide,by decide,fun e he=>(by cases he),by decide⟩,by decide⟩
theorem ses0_frames:(framesF 7 1 0 [ses0] 1).length=3:=by
 rw[framesF_ok ses0_cont (x:=ses0) rfl];show ([reelL 7 1 0 1 0 (partsB (strB (dirL ses0))) (rowsL 1 0 ⟨#[]⟩) ⟨#[]⟩].flatten).length=3;rw[List.flatten_cons,List.flatten_nil,List.append_nil,reelL_len,ses0_parts];rfl
theorem dollar_ok:splitE ⟨#[36]⟩=0:=by decide
theorem ses0_reelsE:reelsE 1 0 [ses0] ⟨#[36]⟩=0:=by
 rw[reelsE,if_neg (by decide),dollar_ok,if_neg (by decide)];show firstN _ 1=0;exact firstN_zero fun m hm=>by
  obtain rfl:m=0:=by omega
  exact ses0_cont
theorem ses0_reels:∃p1 p2:ByteArray,reelsR 7 1 0 [ses0] ⟨#[36]⟩=[(0,[p1,p2])]/\p1.size=768/\p2.size=2556:=by
 rw[reelsR,if_pos ses0_reelsE];have hp:stripsT 7 ⟨#[36]⟩=[strB (plnL 7 0 1 (plnAt 7 ⟨#[36]⟩ 0).x)]:=by have e:plnsL 7 ⟨#[36]⟩=[plnAt 7 ⟨#[36]⟩ 0]:=rfl;rw[stripsT,e,chks_one (by decide) (by decide)];show [strB (plCells [plnAt 7 ⟨#[36]⟩ 0])]=_;rw[plCells,List.flatMap_cons,List.flatMap_nil,List.append_nil];rfl
 have hz:(plnL 7 0 1 (plnAt 7 ⟨#[36]⟩ 0).x).length=768:=plnL_size (plnAt_ok (by decide) dollar_ok (by decide));obtain⟨F,hF⟩:=zNm (reelL 7 1 0 1 0 (partsB (strB (dirL ses0))) (rowsL 1 0 ⟨#[]⟩) ⟨#[]⟩);have hFl:F.length=3:=by rw[<-hF,reelL_len,ses0_parts];rfl
 have hs:sesPs 7 1 0 [ses0] 0 1=[strB (celsL F)]:=by show [sesP 7 1 0 [ses0] 0 0].flatten=_;have e:sesP 7 1 0 [ses0] 0 0=(chks 8 (reelL 7 1 0 1 0 (partsB (strB (dirL ses0))) (rowsL 1 0 ⟨#[]⟩) ⟨#[]⟩)).map fun g=>strB (celsL g):=rfl;rw[e,hF,chks_one (by omega) (by omega)];rfl
 refine⟨strB (plnL 7 0 1 (plnAt 7 ⟨#[36]⟩ 0).x),strB (celsL F),?_,by rw[strB_size,hz],by rw[strB_size,celsL_len,hFl]⟩;show [(0,stripsT 7 ⟨#[36]⟩++sesPs 7 1 0 [ses0] 0 1)]=_;rw[hp,hs];rfl
theorem seq_two {W:World} {v:Value} {p1 p2:ByteArray} (h:SeqAt strS W v [p1,p2]):∃b o c,v=.slice (some ⟨b,o,none⟩) 2 c/\W.cell? ⟨b,o,none⟩=some (.string p1)/\W.cell? ⟨b,o+1,none⟩=some (.string p2):=by
 obtain⟨A,c,rfl,_,_,h3⟩:=h;obtain⟨b,o,cs,rfl,rfl,h4⟩:=h3 0 p1 rfl;obtain⟨b',o',cs',e,rfl,h5⟩:=h3 1 p2 rfl;cases e;have c0:=h4 0 _ rfl;have c1:=h5 0 _ rfl;exact⟨b,o,c,rfl,by rwa [show o+0*strS.n+0=o by omega]at c0,by rwa [show o+1*strS.n+0=o+1 from rfl]at c1⟩
theorem reel_one {W:World} {v:Value} {r:Nat} {ps:List ByteArray} (h:SeqAt reelS W v [(r,ps)]):∃b o c u,v=.slice (some ⟨b,o,none⟩) 1 c/\W.cell? ⟨b,o+1,none⟩=some u/\SeqAt strS W u ps:=by
 obtain⟨A,c,rfl,_,_,h3⟩:=h;obtain⟨b,o,cs,rfl,⟨u,rfl,hu⟩,h4⟩:=h3 0 _ rfl;have c1:=h4 1 _ rfl;exact⟨b,o,c,u,rfl,by rwa [show o+0*reelS.n+1=o+1 by omega]at c1,hu⟩
theorem awake43_any (w:World) (hT:Tab w):Calls Tryz.prog 12 #[] w fun e w'=>e=.returned (.bool true)/\Below w.heap.size w w':=by
 have HT:=zY hT;have hS:=Blk.new w 45 [.int .i64 1,.int .i64 0,.string ⟨#[]⟩,.slice none 0 0,.string ⟨#[]⟩,.string ⟨#[]⟩];have HB1:=zBl w (.cells #[.int .i64 1,.int .i64 0,.string ⟨#[]⟩,.slice none 0 0,.string ⟨#[]⟩,.string ⟨#[]⟩] 45);obtain⟨w1,hw1⟩:=zNm (w.alloc (.cells #[.int .i64 1,.int .i64 0,.string ⟨#[]⟩,.slice none 0 0,.string ⟨#[]⟩,.string ⟨#[]⟩] 45));change Blk (w.alloc (.cells #[.int .i64 1,.int .i64 0,.string ⟨#[]⟩,.slice none 0 0,.string ⟨#[]⟩,.string ⟨#[]⟩] 45)) _ _ _ at hS;rw[hw1]at hS HB1;have hq:SeqAt sesS w1 (.slice (some ⟨w.heap.size,0,none⟩) 1 1) [ses0]:=by{
 refine⟨_,1,rfl,Nat.le_refl _,by omega,fun i x hx=>?_⟩;match i,hx with
 |0,hx=>
 cases hx;exact⟨w.heap.size,0,_,rfl,⟨.slice none 0 0,rfl,SeqAt.nil _⟩,fun j u hu=>by rw[show 0+0*sesS.n+j=j by omega];exact hS.cell hu⟩};have hK:=Blk.new w1 28 [.int .u32 7,.int .i64 1,.int .i64 0,.slice (some ⟨w.heap.size,0,none⟩) 1 1];have HK:Hid (Blk (w1.alloc (.cells #[.int .u32 7,.int .i64 1,.int .i64 0,.slice (some ⟨w.heap.size,0,none⟩) 1 1] 28)) w1.heap.size 28 [.int .u32 7,.int .i64 1,.int .i64 0,.slice (some ⟨w.heap.size,0,none⟩) 1 1]):=zY hK;have HB2:=zY (HB1.alloc HB1.size (.cells #[.int .u32 7,.int .i64 1,.int .i64 0,.slice (some ⟨w.heap.size,0,none⟩) 1 1] 28));have HQ:=zY (hq.below (zBl w1 (.cells #[.int .u32 7,.int .i64 1,.int .i64 0,.slice (some ⟨w.heap.size,0,none⟩) 1 1] 28)));have hs1:w1.heap.size=w.heap.size+1:=by rw[<-hw1,World.size_alloc]
 clear hT hS HB1 hq hK;go_enter Tryz.func12,Tryz.ntmps12;go_upto_region 2 with fail;(try rw[hw1]);rw[hs1]at HK;generalize w1.alloc (.cells #[.int .u32 7,.int .i64 1,.int .i64 0,.slice (some ⟨w.heap.size,0,none⟩) 1 1] 28)=w2 at *;have HT2:=zY (HT.below HB2.out);have HRl:=zY (volreels_any w2 7 1 0 _ [ses0] ⟨#[36]⟩ (by decide) HQ.out (by decide) ses0_all (by decide) HT2.out);obtain⟨p1,p2,hR,hp1,hp2⟩:=ses0_reels;rw[ses0_reelsE,hR]at HRl;clear hR hw1;have c0:=HK.c 0;have c1:=HK.c 1;have c2:=HK.c 2;have c3:=HK.c 3;go_wp2_with fail;refine HRl.mono ?_;rintro e3 w3 ⟨⟨vl,rfl,hl⟩,hb3⟩;have HK3:=zY (HK.kept hb3);have HB3:=zYt HB2 hb3;have HFr:=zY (frames_any w3 7 1 0 _ [ses0] 1 (HQ.below hb3) (by decide) ses0_all (HT.below HB3.out));rw[ses0_cont]at HFr;have HL:=zY hl;obtain⟨b,o,c,u,rfl,_,_⟩:=reel_one hl;clear hl hb3 HK HB2 HT2 HRl c0 c1 c2 c3;have c0:=HK3.c 0;have c1:=HK3.c 1;have c2:=HK3.c 2;have c3:=HK3.c 3;go_upto_region 3 with fail;go_wp2_with fail;refine HFr.mono ?_;rintro e4 w4 ⟨⟨vf,rfl,hf⟩,hb4⟩;obtain⟨Af,cf',rfl⟩:=hf.slice;rw[ses0_frames];obtain⟨b',o',c',u',e,hu,hus⟩:=reel_one (HL.below hb4);cases e;obtain⟨b2,o2,c2',rfl,hq1,hq2⟩:=seq_two hus;have hp1I:(p1.size:Int)=768:=by omega
 have hp2I:(p2.size:Int)=2556:=by omega
 have HB4:=zYt HB3 hb4;clear hf hb4 hus hp1 hp2 c0 c1 c2 c3 HFr HL;go_upto_region 4 with fail;go_wp2;go_ret;exact⟨rfl,HB4.out⟩
theorem entN_mem {L:List Ses} {i:Nat} {x:Ses} (h:L[i]?=some x):x.ents.length<=entN L:=by
 have h1:=entN_take L h;have h2:=entN_le L (i+1);omega
theorem MadeOk.all {L:List Ses} (h:MadeOk L):SesAll L:=fun i x hx=>by
 have hm:=List.mem_of_getElem? hx
 have ho:=h.ok x hm
 have hn:=h.num i x hx
 have hi:=(List.getElem?_eq_some_iff.1 hx).1
 have hl:=h.len
 have h1:=entN_mem hx
 have h2:=h.ents
 have h3:=h.str x hm
 exact⟨hn,⟨by omega,ho.date,ho.prev,ho.str,by omega,fun e he=>(ho.ok e he).ok,by rw[ho.sig];decide⟩,by omega⟩
end
section
open Go.RowKit
section
variable {α:Type} {k:Nat} {l:List α}
theorem chks_new (hk:1<=k) (h:l.length%k=0) (x:α):chks k (l++[x])=chks k l++[[x]]:=by
 obtain⟨q,hq⟩:∃q,l.length=k*q:=⟨l.length/k,by have:=Nat.div_add_mod l.length k;omega⟩;have e1:chks k l=chkF k l q:=(chks_end hk (by omega) (by omega)).symm;have e2:chks k (l++[x])=chkF k (l++[x]) (q+1):=(chks_end hk (by rw[List.length_append,Nat.mul_add];simp;omega) (by rw[List.length_append,Nat.mul_add];simp;omega)).symm;rw[e1,e2,chkF,chkF,List.range_succ,List.map_append,List.map_singleton];congr 1;{
 refine List.map_congr_left fun j hj=>?_;have hj:=List.mem_range.1 hj;have:k*(j+1)<=k*q:=Nat.mul_le_mul_left k hj;rw[Nat.mul_add]at this;rw[List.drop_append_of_le_length (by omega),List.take_append_of_le_length (by rw[List.length_drop];omega)]};{rw[<-hq,List.drop_append_of_le_length (Nat.le_refl _),List.drop_length,List.nil_append,List.take_of_length_le (by simpa using hk)]}
theorem chks_more (hk:1<=k) (h:l.length%k≠0) (x:α):∃A g,chks k l=A++[g]/\chks k (l++[x])=A++[g++[x]]:=by
 obtain⟨q,r,hq,hr,h0⟩:∃q r,l.length=k*q+r/\r<k/\0<r:=⟨l.length/k,l.length%k,(Nat.div_add_mod l.length k).symm,Nat.mod_lt _ hk,by omega⟩;have e1:chks k l=chkF k l (q+1):=(chks_end hk (by rw[Nat.mul_add];omega) (by rw[Nat.mul_add];omega)).symm;have e2:chks k (l++[x])=chkF k (l++[x]) (q+1):=(chks_end hk (by rw[List.length_append,Nat.mul_add];simp;omega) (by rw[List.length_append,Nat.mul_add];simp;omega)).symm;refine⟨chkF k l q,(l.drop (k*q)).take k,?_,?_⟩;{rw[e1,chkF,chkF,List.range_succ,List.map_append,List.map_singleton]};{
 rw[e2,chkF,chkF,List.range_succ,List.map_append,List.map_singleton];congr 1;{
 refine List.map_congr_left fun j hj=>?_;have hj:=List.mem_range.1 hj;have:k*(j+1)<=k*q:=Nat.mul_le_mul_left k hj;rw[Nat.mul_add]at this;rw[List.drop_append_of_le_length (by omega),List.take_append_of_le_length (by rw[List.length_drop];omega)]};{rw[List.drop_append_of_le_length (by omega),List.take_of_length_le (by rw[List.length_append,List.length_drop];simp;omega),List.take_of_length_le (by rw[List.length_drop];omega)]}}
theorem chks_step {F:List α->ByteArray} {f:α->ByteArray} (hF:∀g x,F (g++[x])=F g++f x) (h0:F []=⟨#[]⟩) (hk:1<=k) (x:α):if l.length%k=0 then (chks k (l++[x])).map F=(chks k l).map F++[⟨#[]⟩++f x] else ∃A g,g∈chks k l/\(chks k l).map F=A++[F g]/\(chks k (l++[x])).map F=A++[F g++f x]:=by
 split;{
 rename_i h
 rw[chks_new hk h,List.map_append,List.map_singleton,<-h0,<-hF];rfl};{
 rename_i h
 obtain⟨A,g,e1,e2⟩:=chks_more hk h x;refine⟨A.map F,g,by rw[e1];simp,?_,?_⟩;{rw[e1,List.map_append,List.map_singleton]};{rw[e2,List.map_append,List.map_singleton,hF]}}
end
theorem rplain_any (w:World) (v:Value) (l:List Pln) (hv:SeqAt plnS w v l) (hl:l.length<=1000) (hok:∀p∈l,PlnOk p.a p.i p.t p.x):Calls Tryz.prog 50 #[v] w fun e w'=>RetSeq strS 9 w w' ((chks 4 l).map fun g=>strB (plCells g)) e/\Below w.heap.size w w':=by
 obtain⟨A,cc,rfl,hlc,hm,d⟩:=hv;have D:=zY d;have HOK:=zY hok;clear d hok;go_enter Tryz.func50,Tryz.ntmps50;go_upto_region 2 with fail;have HO0:Hid (OwnSeq strS 9 w (w.alloc (.cells #[] 9)) (.slice (some ⟨w.heap.size,0,none⟩) 0 0) []):=zY (OwnSeq.new _);have HB0:Hid (Below w.heap.size w (w.alloc (.cells #[] 9))):=zY ((Below.refl _ _).alloc (Nat.le_refl _) _);generalize w.alloc (.cells #[] 9)=w2 at *;go_wp2;go_loopw [3,4] (fun y x wr=>∃i:Nat,i<=l.length/\x=.int .i64 (i:Int)/\OwnSeq strS 9 w wr y ((chks 4 (l.take i)).map fun g=>strB (plCells g))/\Below w.heap.size w wr) (fun _ x _=>l.length-(intOf x).toNat);case atStart=>exact⟨0,by omega,rfl,by rw[List.take_zero];exact HO0.out,HB0.out⟩
 case round=>
 obtain⟨i,hi,rfl,ho,hB⟩:=hrel;have HO:=zY ho;have HB:=zY hB;clear ho hB HO0 HB0;by_cases h:i<l.length;{
 have hiI:(i:Int)<l.length:=by omega
 obtain⟨p,hx⟩:∃p,l[i]?=some p:=⟨_,List.getElem?_eq_getElem h⟩;obtain⟨q1,o1,cs,rfl,hr,g1⟩:=D.out i _ hx;obtain rfl:cs=p.cells:=hr;have hd1:∀j u,p.cells[j]?=some u->wr.cell? ⟨q1,o1+i*4+j,none⟩=some u:=fun j u hu=>cell_below HB.out (g1 j u hu);have hp:=HOK.out p (List.mem_of_getElem? hx);have hT:l.take (i+1)=l.take i++[p]:=by rw[List.take_add_one,hx];rfl
 have hTl:(l.take i).length=i:=by rw[List.length_take];omega
 have hS:=chks_step (k:=4) (l:=l.take i) (F:=fun g=>strB (plCells g)) (f:=fun p:Pln=>strB (plnL p.a p.i p.t p.x)) (fun g x=>by rw[plCells_snoc];exact(strB_cat _ _).symm) rfl (by omega) p;rw[hTl,<-hT]at hS;have HS:=zY hS;obtain⟨a0,i0,t0,x0⟩:=p;have HE:=zY (fun W=>renc26_ok W a0 i0 t0 x0 hp);have hcz:(strB (plnL a0 i0 t0 x0)).size<=8000:=by rw[strB_size];exact plnL_len hp
 have c0:=hd1 0 _ rfl;have c1:=hd1 1 _ rfl;have c2:=hd1 2 _ rfl;have c3:=hd1 3 _ rfl;dsimp only at c0 c1 c2 c3 HS;rw[Nat.add_zero]at c0;generalize strB (plnL a0 i0 t0 x0)=C at *;clear hd1 g1 hx hT hTl hS hp;go_wp2_with fail;refine(HE.out _).mono ?_;rintro e5 w5 ⟨rfl,hb5⟩;have HO:=zY (HO.below hb5);have HB:=zYt HB hb5;clear hb5 c0 c1 c2 c3;obtain⟨m,hm4⟩:=zNm (i%4);have hmI:Int.tmod (i:Int) 4=(m:Int):=by rw[<-hm4];rfl
 have hmJ:(i:Int)%4=(m:Int):=by omega
 have hmW:IntKind.i64.wrap (m:Int)=m:=zIw (by omega);have hi1:IntKind.i64.wrap ((i:Int)+1)=(i:Int)+1:=zIw (by omega);obtain⟨b,hb⟩:=zNm (((m:Int)==0));have hbd:decide ((m:Int)=0)=b:=by rw[<-hb];rfl
 have HBb:=zY hb;rw[hm4]at HS;have HGl:Hid (∀g,g∈chks 4 (l.take i)->(strB (plCells g)).size<=40000):=zY (fun g hg=>by
  have h1:=chks_mem hg
  have h2:=plCells_len (g:=g) (fun p hp=>HOK.out p (List.mem_of_mem_take (h1.1 p hp)))
  rw[strB_size]
  omega);have HLl:Hid ((chks 4 (l.take i)).length<=1000):=zY (by rw[chks,chkF_len,List.length_take];omega);generalize chks 4 (l.take i)=K0 at *;obtain⟨K1,hK1⟩:=zNm ((chks 4 (l.take (i+1))).map (fun g=>strB (plCells g)));have HK1:=zY hK1;rw[hK1]at HS;generalize hno:(K0.map fun g=>strB (plCells g)).length=no at *;clear hm4 hK1;go_upto_if 24 with fail;go_cut [3] (fun y wx=>∃(xs:List ByteArray) (x:ByteArray),OwnSeq strS 9 w wx y (xs++[x])/\x.size<=40000/\xs.length<=1000/\K1=xs++[x++C]/\Below w.heap.size w wx);case first=>(
 have hb:=HBb.out;by_cases h0:m=0;{
 have hS:=HS.out;rw[if_pos h0]at hS;have HE2:=zY hS;obtain rfl:b=true:=by rw[<-hb];simpa using h0
 have HXl:Hid ((K0.map fun g=>strB (plCells g)).length<=1000):=zY (by rw[List.length_map];exact HLl.out);have Hl1:Hid ((K0.map fun g=>strB (plCells g)).length+1<=100000000):=zY (by have:=HXl.out;omega);have HX1:Hid (SrcAt strS w (w5.alloc (.cells #[.string ⟨#[]⟩] 9)) (.slice (some ⟨w5.heap.size,0,none⟩) 1 1) [⟨#[]⟩]):=zY (src1 (ρ:=strS) (wr:=w5) [.string ⟨#[]⟩] ⟨#[]⟩ rfl rfl);have HO1:=zY (HO.alloc (.cells #[.string ⟨#[]⟩] 9));have HB1:=zY (HB.alloc HB.size (.cells #[.string ⟨#[]⟩] 9));clear hb hS HS HBb HGl HLl hno;go_wp2_with (at_builtin;refine append_seq (w0:=w) Tryz.elemStr rfl _ _ rfl rfl HO1.out rfl HX1.out Hl1.out HB1.out ?_;intro vb w6 hob _ hbb;have KV:=zY hob;have KC:=zY hbb;clear hob hbb);go_meet;exact⟨_,_,KV.out,by decide,HXl.out,HE2.out,KC.out⟩};{
 have hS:=HS.out;rw[if_neg h0]at hS;obtain⟨X,g,hg,e1,e2⟩:=hS;have HX:=zY (HGl.out g hg);have HO:Hid (OwnSeq strS 9 w w5 _ (X++[strB (plCells g)])):=zY (by have:=HO.out;rw[e1]at this;exact this);have HXl:Hid (X.length<=1000):=zY (by have:=HLl.out;have h3:=congrArg List.length e1;simp at h3;omega);have HE2:=zY e2;obtain rfl:b=false:=by rw[<-hb];simpa using h0
 clear hb e1 e2 hg HS HBb HGl HLl;go_wp2;go_meet;exact⟨X,_,HO.out,HX.out,HXl.out,HE2.out,HB.out⟩})
 case rest=>
 obtain⟨xs,x,ho,hxz,hxl,hE,hB⟩:=hcut;have HB:=zY hB;have HE:=zY hE;obtain⟨g,c,rfl,hg⟩:=ho.addr (by simp);have HG:=zY hg;have hgt:(xs++[x])[xs.length]?=some x:=by simp
 obtain⟨q0,z0⟩:wc.cell? ⟨g,xs.length,none⟩=some (.string x)/\wc.frozen? ⟨g,xs.length,none⟩=false:=by obtain⟨_,_,e,_,_,hD⟩:=ho.at HB.out;cases e;obtain⟨_,_,cs,e,hr,hc⟩:=hD _ _ hgt;cases e;obtain rfl:cs=[.string x]:=hr;have:=hc 0 _ rfl;refine⟨?_,ho.fro _⟩;simpa [strS]using this
 have HN:=zY (ho.setc hgt (show 0<strS.n by decide) (.string (x++C)) (y:=x++C) (fun cs (h:cs=[.string x])=>by rw[h];rfl));have e0:xs.length*strS.n+0=xs.length:=Nat.mul_one _;have e1:(xs++[x]).set xs.length (x++C)=xs++[x++C]:=by simp
 have e2:(xs++[x]).length=xs.length+1:=by simp
 rw[e0,e1,<-HE.out]at HN;rw[e2]at HN⊢;have HBn:=zY (HB.setCell (p:=⟨g,xs.length,none⟩) HG.out (.string (x++C)));clear e0 e1 e2 hgt ho hE hB hg HE;generalize xs.length=nx at *;have hnw:IntKind.i64.wrap (((nx+1:Nat):Int)-1)=(nx:Int):=by rw[show ((nx+1:Nat):Int)-1=nx by omega];exact zIw (by omega)
 have hnw2:IntKind.i64.wrap ((nx:Int)+1-1)=(nx:Int):=by rw[show (nx:Int)+1-1=nx by omega];exact zIw (by omega)
 have hnl:(nx:Int)<((nx+1:Nat):Int):=by omega
 have hcc:¬9223372036854775807<x.size+C.size:=by omega
 go_wp2;go_roundw;case rel=>exact⟨i+1,by omega,by go_num,by rw[HK1.out];exact HN.out,HBn.out⟩
 case measure=>simp[intOf];omega};{
 obtain rfl:i=l.length:=by omega
 have hiI:¬(l.length:Int)<l.length:=by omega
 have HR:Hid (OwnSeq strS 9 w wr _ ((chks 4 l).map fun g=>strB (plCells g))):=zY (by have:=HO.out;rw[List.take_length]at this;exact this);go_wp2;go_ret;exact⟨⟨_,rfl,HR.out⟩,HB.out⟩}
end
section
open Go.RowKit
theorem rcoded_any (w:World) (v:Value) (l:List Frm) (hv:SeqAt frmS w v l) (hl:l.length<=10000000) (hok:∀p∈l,FrmOk p):Calls Tryz.prog 51 #[v] w fun e w'=>RetSeq strS 9 w w' ((chks 8 l).map fun g=>strB (celsL g)) e/\Below w.heap.size w w':=by
 obtain⟨A,cc,rfl,hlc,hm,d⟩:=hv;have D:=zY d;have HOK:=zY hok;clear d hok;go_enter Tryz.func51,Tryz.ntmps51;go_upto_region 2 with fail;have HO0:Hid (OwnSeq strS 9 w (w.alloc (.cells #[] 9)) (.slice (some ⟨w.heap.size,0,none⟩) 0 0) []):=zY (OwnSeq.new _);have HB0:Hid (Below w.heap.size w (w.alloc (.cells #[] 9))):=zY ((Below.refl _ _).alloc (Nat.le_refl _) _);generalize w.alloc (.cells #[] 9)=w2 at *;go_wp2;go_loopw [3,4] (fun y x wr=>∃i:Nat,i<=l.length/\x=.int .i64 (i:Int)/\OwnSeq strS 9 w wr y ((chks 8 (l.take i)).map fun g=>strB (celsL g))/\Below w.heap.size w wr) (fun _ x _=>l.length-(intOf x).toNat);case atStart=>exact⟨0,by omega,rfl,by rw[List.take_zero];exact HO0.out,HB0.out⟩
 case round=>
 obtain⟨i,hi,rfl,ho,hB⟩:=hrel;have HO:=zY ho;have HB:=zY hB;clear ho hB HO0 HB0;by_cases h:i<l.length;{
 have hiI:(i:Int)<l.length:=by omega
 obtain⟨p,hx⟩:∃p,l[i]?=some p:=⟨_,List.getElem?_eq_getElem h⟩;obtain⟨q1,o1,cs,rfl,hr,g1⟩:=D.out i _ hx;obtain rfl:cs=p.cells:=hr;have hd1:∀j u,p.cells[j]?=some u->wr.cell? ⟨q1,o1+i*9+j,none⟩=some u:=fun j u hu=>cell_below HB.out (g1 j u hu);have hp:=HOK.out p (List.mem_of_getElem? hx);have hT:l.take (i+1)=l.take i++[p]:=by rw[List.take_add_one,hx];rfl
 have hTl:(l.take i).length=i:=by rw[List.length_take];omega
 have hS:=chks_step (k:=8) (l:=l.take i) (F:=fun g=>strB (celsL g)) (f:=fun p:Frm=>strB (markL++bodyL (frmM p))) (fun g x=>by rw[celsL_snoc];exact(strB_cat _ _).symm) rfl (by omega) p;rw[hTl,<-hT]at hS;have HS:=zY hS;have hcz:(strB (markL++bodyL (frmM p))).size<=8000:=by rw[strB_size,List.length_append,markL_len,bodyL_len];omega
 obtain⟨C,hC⟩:=zNm (strB (markL++bodyL (frmM p)));have he:=(frmM_ok hp).2.2;rw[hC]at he hcz HS;have HE:=zY (fun W=>renc_all W p.k p.r p.s p.i p.l p.d p.p p.a p.t hp.2);rw[he]at HE;clear hC he;obtain⟨k0,r0,s0,i0,l0,d0,p0,a0,t0⟩:=p;have c0:=hd1 0 _ rfl;have c1:=hd1 1 _ rfl;have c2:=hd1 2 _ rfl;have c3:=hd1 3 _ rfl;have c4:=hd1 4 _ rfl;have c5:=hd1 5 _ rfl;have c6:=hd1 6 _ rfl;have c7:=hd1 7 _ rfl;have c8:=hd1 8 _ rfl;dsimp only at c0 c1 c2 c3 c4 c5 c6 c7 c8 HE;rw[Nat.add_zero]at c0;clear hd1 g1 hx hT hTl hS hp;go_wp2_with fail;refine(HE.out _).mono ?_;rintro e5 w5 ⟨rfl,hb5⟩;have HO:=zY (HO.below hb5);have HB:=zYt HB hb5;clear hb5 c0 c1 c2 c3 c4 c5 c6 c7 c8;obtain⟨m,hm4⟩:=zNm (i%8);have hmI:Int.tmod (i:Int) 8=(m:Int):=by rw[<-hm4];rfl
 have hmJ:(i:Int)%8=(m:Int):=by omega
 have hmW:IntKind.i64.wrap (m:Int)=m:=zIw (by omega);have hi1:IntKind.i64.wrap ((i:Int)+1)=(i:Int)+1:=zIw (by omega);obtain⟨b,hb⟩:=zNm (((m:Int)==0));have hbd:decide ((m:Int)=0)=b:=by rw[<-hb];rfl
 have HBb:=zY hb;rw[hm4]at HS;have HGl:Hid (∀g,g∈chks 8 (l.take i)->(strB (celsL g)).size<=40000):=zY (fun g hg=>by
  have h1:=chks_mem hg
  have h2:=celsL_len g
  rw[strB_size]
  omega);have HLl:Hid ((chks 8 (l.take i)).length<=10000000):=zY (by rw[chks,chkF_len,List.length_take];omega);generalize chks 8 (l.take i)=K0 at *;obtain⟨K1,hK1⟩:=zNm ((chks 8 (l.take (i+1))).map (fun g=>strB (celsL g)));have HK1:=zY hK1;rw[hK1]at HS;generalize hno:(K0.map fun g=>strB (celsL g)).length=no at *;clear hm4 hK1;go_upto_if 24 with fail;go_cut [3] (fun y wx=>∃(xs:List ByteArray) (x:ByteArray),OwnSeq strS 9 w wx y (xs++[x])/\x.size<=40000/\xs.length<=10000000/\K1=xs++[x++C]/\Below w.heap.size w wx);case first=>(
 have hb:=HBb.out;by_cases h0:m=0;{
 have hS:=HS.out;rw[if_pos h0]at hS;have HE2:=zY hS;obtain rfl:b=true:=by rw[<-hb];simpa using h0
 have HXl:Hid ((K0.map fun g=>strB (celsL g)).length<=10000000):=zY (by rw[List.length_map];exact HLl.out);have Hl1:Hid ((K0.map fun g=>strB (celsL g)).length+1<=100000000):=zY (by have:=HXl.out;omega);have HX1:Hid (SrcAt strS w (w5.alloc (.cells #[.string ⟨#[]⟩] 9)) (.slice (some ⟨w5.heap.size,0,none⟩) 1 1) [⟨#[]⟩]):=zY (src1 (ρ:=strS) (wr:=w5) [.string ⟨#[]⟩] ⟨#[]⟩ rfl rfl);have HO1:=zY (HO.alloc (.cells #[.string ⟨#[]⟩] 9));have HB1:=zY (HB.alloc HB.size (.cells #[.string ⟨#[]⟩] 9));clear hb hS HS HBb HGl HLl hno;go_wp2_with (at_builtin;refine append_seq (w0:=w) Tryz.elemStr rfl _ _ rfl rfl HO1.out rfl HX1.out Hl1.out HB1.out ?_;intro vb w6 hob _ hbb;have KV:=zY hob;have KC:=zY hbb;clear hob hbb);go_meet;exact⟨_,_,KV.out,by decide,HXl.out,HE2.out,KC.out⟩};{
 have hS:=HS.out;rw[if_neg h0]at hS;obtain⟨X,g,hg,e1,e2⟩:=hS;have HX:=zY (HGl.out g hg);have HO:Hid (OwnSeq strS 9 w w5 _ (X++[strB (celsL g)])):=zY (by have:=HO.out;rw[e1]at this;exact this);have HXl:Hid (X.length<=10000000):=zY (by have:=HLl.out;have h3:=congrArg List.length e1;simp at h3;omega);have HE2:=zY e2;obtain rfl:b=false:=by rw[<-hb];simpa using h0
 clear hb e1 e2 hg HS HBb HGl HLl;go_wp2;go_meet;exact⟨X,_,HO.out,HX.out,HXl.out,HE2.out,HB.out⟩})
 case rest=>
 obtain⟨xs,x,ho,hxz,hxl,hE,hB⟩:=hcut;have HB:=zY hB;have HE:=zY hE;obtain⟨g,c,rfl,hg⟩:=ho.addr (by simp);have HG:=zY hg;have hgt:(xs++[x])[xs.length]?=some x:=by simp
 obtain⟨q0,z0⟩:wc.cell? ⟨g,xs.length,none⟩=some (.string x)/\wc.frozen? ⟨g,xs.length,none⟩=false:=by obtain⟨_,_,e,_,_,hD⟩:=ho.at HB.out;cases e;obtain⟨_,_,cs,e,hr,hc⟩:=hD _ _ hgt;cases e;obtain rfl:cs=[.string x]:=hr;have:=hc 0 _ rfl;refine⟨?_,ho.fro _⟩;simpa [strS]using this
 have HN:=zY (ho.setc hgt (show 0<strS.n by decide) (.string (x++C)) (y:=x++C) (fun cs (h:cs=[.string x])=>by rw[h];rfl));have e0:xs.length*strS.n+0=xs.length:=Nat.mul_one _;have e1:(xs++[x]).set xs.length (x++C)=xs++[x++C]:=by simp
 have e2:(xs++[x]).length=xs.length+1:=by simp
 rw[e0,e1,<-HE.out]at HN;rw[e2]at HN⊢;have HBn:=zY (HB.setCell (p:=⟨g,xs.length,none⟩) HG.out (.string (x++C)));clear e0 e1 e2 hgt ho hE hB hg HE;generalize xs.length=nx at *;have hnw:IntKind.i64.wrap (((nx+1:Nat):Int)-1)=(nx:Int):=by rw[show ((nx+1:Nat):Int)-1=nx by omega];exact zIw (by omega)
 have hnw2:IntKind.i64.wrap ((nx:Int)+1-1)=(nx:Int):=by rw[show (nx:Int)+1-1=nx by omega];exact zIw (by omega)
 have hnl:(nx:Int)<((nx+1:Nat):Int):=by omega
 have hcc:¬9223372036854775807<x.size+C.size:=by omega
 go_wp2;go_roundw;case rel=>exact⟨i+1,by omega,by go_num,by rw[HK1.out];exact HN.out,HBn.out⟩
 case measure=>simp[intOf];omega};{
 obtain rfl:i=l.length:=by omega
 have hiI:¬(l.length:Int)<l.length:=by omega
 have HR:Hid (OwnSeq strS 9 w wr _ ((chks 8 l).map fun g=>strB (celsL g))):=zY (by have:=HO.out;rw[List.take_length]at this;exact this);go_wp2;go_ret;exact⟨⟨_,rfl,HR.out⟩,HB.out⟩}
theorem same43R_any (w:World) (v1 v2:Value) (rs:List (Nat×List ByteArray)) (h1:SeqAt reelS w v1 rs) (h2:SeqAt reelS w v2 rs):Calls Tryz.prog 18 #[v1,v2] w fun e w'=>e=.returned (.bool true)/\Below w.heap.size w w':=by
 obtain⟨A1,cc1,rfl,hl1,hm1,d1⟩:=h1;obtain⟨A2,cc2,rfl,hl2,hm2,d2⟩:=h2;have D1:=zY d1;have D2:=zY d2;clear d1 d2;go_enter Tryz.func18,Tryz.ntmps18;go_wp2;go_loopw [5] (fun x wr=>∃k:Nat,k<=rs.length/\x=.int .i64 (k:Int)/\Below w.heap.size w wr) (fun x _=>rs.length-(intOf x).toNat);case atStart=>exact⟨0,by omega,rfl,Below.refl _ _⟩
 case round=>
 obtain⟨k,hk,rfl,hB⟩:=hrel;have HBr:=zY hB;clear hB;by_cases h:k<rs.length;{
 have hkI:(k:Int)<rs.length:=by omega
 obtain⟨x,hx⟩:∃x,rs[k]?=some x:=⟨_,List.getElem?_eq_getElem h⟩;obtain⟨q1,o1,cs1,rfl,⟨u1,rfl,s1⟩,g1⟩:=D1.out k _ hx;obtain⟨q2,o2,cs2,rfl,⟨u2,rfl,s2⟩,g2⟩:=D2.out k _ hx;obtain⟨n,ps⟩:=x;obtain⟨B1,b1,rfl,hlb1,hmb1,e1⟩:=s1;obtain⟨B2,b2,rfl,hlb2,hmb2,e2⟩:=s2;have HC:Hid (∀W,Below w.heap.size w W->W.cell? ⟨q1,o1+k*2,none⟩=some (.int .i64 (n:Int))/\W.cell? ⟨q1,o1+k*2+1,none⟩=some (.slice B1 ps.length b1)/\W.cell? ⟨q2,o2+k*2,none⟩=some (.int .i64 (n:Int))/\W.cell? ⟨q2,o2+k*2+1,none⟩=some (.slice B2 ps.length b2)):=zY (fun W hW=>
  ⟨cell_below hW (g1 0 _ rfl),cell_below hW (g1 1 _ rfl),cell_below hW (g2 0 _ rfl),cell_below hW (g2 1 _ rfl)⟩);have E1:=zY e1;have E2:=zY e2;obtain⟨c0,c1,c2,c3⟩:=HC.out _ HBr.out;dsimp only at hlb1 hlb2;clear g1 g2 hx D1 D2 e1 e2;go_upto_region 6 with fail;go_quiet (fail);have HBs:=zY (blwN HBr.out nq);clear c0 c1 c2 c3;go_wp2;go_loopw [6] (fun y wx=>∃j:Nat,j<=ps.length/\y=.int .i64 (j:Int)/\Below w.heap.size w wx) (fun y _=>ps.length-(intOf y).toNat);case atStart=>exact⟨0,by omega,rfl,HBs.out⟩
 case round=>
 obtain⟨j,hj,rfl,hB⟩:=hrel;have HBx:=zY hB;clear hB HBs;obtain⟨c0,c1,c2,c3⟩:=HC.out _ HBx.out;by_cases h9:j<ps.length;{
 have hjI:(j:Int)<ps.length:=by omega
 obtain⟨y,hy⟩:∃y,ps[j]?=some y:=⟨_,List.getElem?_eq_getElem h9⟩;obtain⟨p1,m1,_,rfl,rfl,f1⟩:=E1.out j _ hy;obtain⟨p2,m2,_,rfl,rfl,f2⟩:=E2.out j _ hy;have HK:Hid (∀W,Below w.heap.size w W->W.cell? ⟨p1,m1+j,none⟩=some (.string y)/\W.cell? ⟨p2,m2+j,none⟩=some (.string y)):=zY (fun W hW=>by
  have k1:=cell_below hW (f1 0 _ rfl)
  have k2:=cell_below hW (f2 0 _ rfl)
  exact⟨by simpa [strS]using k1,by simpa [strS]using k2⟩);obtain⟨k1,k2⟩:=HK.out _ HBx.out;clear f1 f2 hy E1 E2;go_upto_region 11 with fail;go_quiet (fail);have HBy:=zY (blwN HBx.out nq);clear c0 c1 c2 c3 k1 k2;go_wp2;go_roundw;case rel=>exact⟨j+1,by omega,by go_num,HBy.out⟩
 case measure=>simp[intOf];omega};{
 have hjI:¬(j:Int)<ps.length:=by omega
 go_wp2;go_roundw;case rel=>exact⟨k+1,by omega,by go_num,HBx.out⟩
 case measure=>simp[intOf];omega}};{
 have hkI:¬(k:Int)<rs.length:=by omega
 go_wp2;go_ret;exact⟨rfl,HBr.out⟩}
def rawS:Shape (Nat×Value) where
 n:=2
 R _ cs x:=cs=[.int .i64 (x.1:Int),x.2]/\x.2.oneCell'=true
 len h:=by rw[h.1];rfl
 one h u hu:=by
  obtain⟨rfl,h1⟩:=h
  simp only[List.mem_cons,List.not_mem_nil,or_false]at hu
  rcases hu with rfl|rfl
  ·rfl
  ·exact h1
 keep h _:=h
theorem flatRaw:Flat rawS:=fun _ _ _ _ h=>h
def numR (N:Nat) (rs:Nat->Value):List (Nat×Value):=(List.range N).map fun j=>(j,rs j)
theorem numR_len (N:Nat) (rs:Nat->Value):(numR N rs).length=N:=by simp[numR]
theorem numR_get {N j:Nat} (rs:Nat->Value) (h:j<N):(numR N rs)[j]?=some (j,rs j):=by
 rw[numR,List.getElem?_map,List.getElem?_range h];rfl
structure RlO (N:Nat) (w0 W:World) (v:Value) (X:Nat->List ByteArray) (rs:Nat->Value):Prop where
 out:OwnSeq rawS 64 w0 W v (numR N rs)
 own:∀j,j<N->OwnSeq strS 9 w0 W (rs j) (X j)
 sep:∀j k,j<N->k<N->j≠k->(rs j).ownBlock=none∨(rs j).ownBlock≠(rs k).ownBlock
section
variable {N i n c g:Nat} {w0 W W1 W2:World} {v r v':Value} {X Y:Nat->List ByteArray} {rs:Nat->Value}
theorem RlO.below (h:RlO N w0 W v X rs) (hb:Below W.heap.size W W1):RlO N w0 W1 v X rs:=⟨h.out.below hb,fun j hj=>(h.own j hj).below hb,h.sep⟩
theorem RlO.congr (h:RlO N w0 W v X rs) (e:∀j,j<N->X j=Y j):RlO N w0 W v Y rs:=⟨h.out,fun j hj=>by rw[<-e j hj];exact h.own j hj,h.sep⟩
theorem RlO.snoc (h:RlO N w0 W v X rs) (hb:Below W.heap.size W W1) (hr:OwnSeq strS 9 w0 W1 r (X N)) (hn:∀k,r.ownBlock=some k->W.heap.size<=k) (ho:OwnSeq rawS 64 w0 W2 v' (numR N rs++[(N,r)])) (hg:W1.grownBy W2 v.ownBlock):
  RlO (N+1) w0 W2 v' X (fun j=>if j<N then rs j else r):=by
 have h1:=h.below hb;refine⟨?_,fun j hj=>?_,fun j k hj hk hjk=>?_⟩;{
 have e:numR (N+1) (fun j=>if j<N then rs j else r)=numR N rs++[(N,r)]:=by rw[numR,List.range_succ,List.map_append,List.map_singleton,if_neg (Nat.lt_irrefl N),numR];congr 1;exact List.map_congr_left fun j hj=>by rw[if_pos (List.mem_range.1 hj)]
 rw[e];exact ho};{
 show OwnSeq _ _ _ _ (if j<N then rs j else r) _;by_cases e:j<N;{
 rw[if_pos e];exact(h1.own j e).grown hg ((h1.own j e).neO h1.out (by decide))};{
 obtain rfl:j=N:=by omega
 rw[if_neg e];exact hr.grown hg (hr.neO h1.out (by decide))}};{
 show (if j<N then rs j else r).ownBlock=none∨(if j<N then rs j else r).ownBlock≠(if k<N then rs k else r).ownBlock;by_cases ej:j<N;{
 rw[if_pos ej];by_cases ek:k<N;{rw[if_pos ek];exact h.sep j k ej ek hjk};{
 rw[if_neg ek];by_cases e0:(rs j).ownBlock=none;{exact .inl e0};{
 obtain⟨b,hb0⟩:=Option.ne_none_iff_exists'.1 e0;refine .inr fun e=>?_;have h2:=(h.own j ej).lt hb0;have h3:=hn b (by rw[<-e,hb0]);omega}}};{
 rw[if_neg ej,if_pos (show k<N by omega)];by_cases e0:r.ownBlock=none;{exact .inl e0};{
 obtain⟨b,hb0⟩:=Option.ne_none_iff_exists'.1 e0;refine .inr fun e=>?_;have h2:=(h.own k (by omega)).lt (by rw[<-e,hb0]);have h3:=hn b hb0;omega}}}
theorem rawcell (h:OwnSeq rawS 64 w0 W (.slice (some ⟨g,0,none⟩) n c) (numR N rs)) (hi:i<N) (hb:w0.heap.size<=W.heap.size):W.cell? ⟨g,i*2+1,none⟩=some (rs i)/\W.frozen? ⟨g,i*2+1,none⟩=false:=by
 obtain⟨_,_,e,_,_,hD⟩:=h.atF flatRaw hb;cases e;obtain⟨_,_,cs,e,hr,hc⟩:=hD _ _ (numR_get rs hi);cases e;obtain⟨rfl,_⟩:=hr;have:=hc 1 _ rfl;refine⟨?_,h.fro _⟩;simpa [rawS]using this
theorem RlO.put (h:RlO N w0 W (.slice (some ⟨g,0,none⟩) n c) X rs) (hi:i<N) (hv:OwnSeq strS 9 w0 W1 r (Y i)) (hY:∀j,j<N->j≠i->Y j=X j) (hg:W.grownBy W1 (rs i).ownBlock) (hn:r.ownBlock=(rs i).ownBlock∨r.ownBlock=some W.heap.size):
  RlO N w0 (W1.setCell ⟨g,i*2+1,none⟩ r) (.slice (some ⟨g,0,none⟩) n c) Y (fun j=>if j=i then r else rs j):=by
 have h1:OwnSeq rawS 64 w0 W1 (.slice (some ⟨g,0,none⟩) n c) (numR N rs):=h.out.grown hg (h.out.neO (h.own i hi) (by decide));have hs:=grown_set W1 g (i*2+1) r;have hne:∀{u:Value} {x:List ByteArray},OwnSeq strS 9 w0 W1 u x->u.ownBlock=none∨u.ownBlock≠some g:=fun ho=>ho.neO h1 (by decide);refine⟨?_,fun j hj=>?_,fun j k hj hk' hjk=>?_⟩;{
 have:=h1.setc (numR_get rs hi) (show 1<rawS.n by decide) r (y:=(i,r)) (fun cs hc=>by obtain⟨rfl,_⟩:=hc;exact⟨rfl,hv.one⟩);have e:(numR N rs).set i (i,r)=numR N (fun j=>if j=i then r else rs j):=by{
 apply List.ext_getElem?;intro j;by_cases hj:j<N;{
 rw[numR_get _ hj];by_cases ej:j=i;{subst ej;rw[List.getElem?_set_self (by rw[numR_len];exact hj),if_pos rfl]};{rw[List.getElem?_set_ne (by omega),numR_get _ hj,if_neg ej]}};{rw[List.getElem?_eq_none (by rw[List.length_set,numR_len];omega),List.getElem?_eq_none (by rw[numR_len];omega)]}};rw[e]at this;exact this};{
 show OwnSeq _ _ _ _ (if j=i then r else rs j) _;by_cases e:j=i;{
 subst e;rw[if_pos rfl];exact hv.grown hs (hne hv)};{
 rw[if_neg e,hY j hj e];have ho:=(h.own j hj).grown hg (h.sep j i hj hi e);exact ho.grown hs (hne ho)}};{
 show (if j=i then r else rs j).ownBlock=none∨(if j=i then r else rs j).ownBlock≠(if k=i then r else rs k).ownBlock;by_cases ej:j=i;{
 rw[if_pos ej,if_neg (by omega)];rcases hn with hn|hn;{rw[hn];exact h.sep i k hi hk' (by omega)};{
 right;intro e;rw[hn]at e;have:=(h.own k hk').lt e.symm;omega}};{
 rw[if_neg ej];by_cases ek:k=i;{
 rw[if_pos ek];rcases hn with hn|hn;{rw[hn];exact h.sep j i hj hi (by omega)};{
 right;intro e;rw[hn]at e;have:=(h.own j hj).lt e;omega}};{
 rw[if_neg ek];exact h.sep j k hj hk' hjk}}}
theorem RlO.at (h:RlO N w0 W v X rs) (hb:Below w0.heap.size w0 W):SeqAt reelS W v ((List.range N).map fun j=>(j,X j)):=by
 obtain⟨A,c,e,h1,h2,h3⟩:=h.out.at hb;rw[numR_len]at e h1;refine⟨A,c,by rw[e];simp,by simpa using h1,h2,fun j x hx=>?_⟩;have hj:j<N:=by have:=(List.getElem?_eq_some_iff.1 hx).1;simpa using this
 rw[List.getElem?_map,List.getElem?_range hj]at hx;cases hx;obtain⟨b,o,cs,e1,⟨rfl,_⟩,hc⟩:=h3 j _ (numR_get rs hj);exact⟨b,o,_,e1,⟨_,rfl,(h.own j hj).at hb⟩,hc⟩
end
theorem wp_append_seqO {α:Type} {ρ:Shape α} {w0 w:World} {v:Value} {xs us:List α} {P:Program} {o:Oper} {a:Act} {K:Act->World->Prop} {Q:Exit->Act->World->Prop} {TS T:TypeId} {b:Nat} {z:Value} (E:Elem P TS T ρ.n b z) (s x:Operand) (ho:o.op=.call { callee:=.builtin .append,args:= #[s,x],argTypes:= #[TS,TS] })
  (hs:a.eval s=v) (hown:OwnSeq ρ T w0 w v xs) {vx:Value} (hx:a.eval x=vx) (hv:SrcAt ρ w0 w vx us) (hn:xs.length+us.length<=100000000) (hB:Below w0.heap.size w0 w)
  (h:∀v' w',OwnSeq ρ T w0 w' v' (xs++us)->w.grownBy w' v.ownBlock->(v'.ownBlock=v.ownBlock∨v'.ownBlock=some w.heap.size)->Below w0.heap.size w0 w'->K (a.put o.dst v') w'):o.wp P a w K Q:=by
 obtain⟨v',w',hr,g1,g2,g4,g3⟩:=run_appendS E o.type hown hv hn hB;unfold Oper.wp execOp;simp only[ho,resolve,invoke,builtin,Sem.run_bind,Sem.run_pure,Result.andThen_ok,List.map_toArray,List.map_cons,List.map_nil,hs,hx,hr];exact h v' w' g1 g2 g4 g3
theorem flatR_pick {α:Type} {M:Nat}:∀(ls:List (List α)) (i:Nat) (x:List α),(∀l∈ls,l.length=M)->ls[i]?=some x->(ls.flatten.drop (i*M)).take M=x
 |[],_,_,_,h=>by cases h
 |l::ls,0,x,hl,h=>by
  cases h
  have e:=hl l (by simp)
  rw[Nat.zero_mul,List.drop_zero,List.flatten_cons,List.take_append_of_le_length (by omega),<-e,List.take_length]
 |l::ls,i+1,x,hl,h=>by
  have e:=hl l (by simp)
  rw[List.flatten_cons,Nat.add_mul,Nat.one_mul,Nat.add_comm,<-List.drop_drop,<-e,List.drop_left,e]
  exact flatR_pick ls i x (fun l' hl'=>hl l' (by simp[hl'])) h
theorem flatR_len {α:Type} {M:Nat}:∀(ls:List (List α)),(∀l∈ls,l.length=M)->ls.flatten.length=ls.length*M
 |[],_=>by simp
 |l::ls,hl=>by
  rw[List.flatten_cons,List.length_append,flatR_len ls (fun l' hl'=>hl l' (by simp[hl'])),hl l (by simp),List.length_cons,Nat.add_mul,Nat.one_mul,Nat.add_comm]
theorem parts_some (x:Ses):1<=(partsB (strB (dirL x))).length:=by
 rw[partsB,List.length_map,List.length_range,strB_size,dirL,List.length_append,dig8_len];omega
end
section
open Go.RowKit
theorem rreels_any (w:World) (a:Nat) (d s:Int) (v:Value) (L:List Ses) (x:ByteArray) (ha:a<4294967296) (hv:SeqAt sesS w v L) (hl:L.length<=255) (hL:SesAll L) (hx:x.size<=1000000):
  Calls Tryz.prog 17 #[.agg #[.int .u32 (a:Int),.int .i64 d,.int .i64 s,v],.string x] w fun e w'=>(∃vf,e=.returned (.tuple #[vf,.int .i64 (reelsE d s L x)])/\SeqAt reelS w' vf (reelsR a d s L x))/\Below w.heap.size w w':=by
 have Hv:=zY hv;have HL:=zY hL;have HSt:=zY (fun(W:World)=>rsplit_any W x a hx);obtain⟨A,c,rfl,_,_⟩:=hv.slice;have hK:=Blk.new w 28 [.int .u32 (a:Int),.int .i64 d,.int .i64 s,.slice A L.length c];have HK:Hid (Blk (w.alloc (.cells #[.int .u32 (a:Int),.int .i64 d,.int .i64 s,.slice A L.length c] 28)) w.heap.size 28 [.int .u32 (a:Int),.int .i64 d,.int .i64 s,.slice A L.length c]):=zY hK;have HB0:=zY (zBl w (.cells #[.int .u32 (a:Int),.int .i64 d,.int .i64 s,.slice A L.length c] 28));obtain⟨E,hE⟩:=zNm (reelsE d s L x);obtain⟨R,hR⟩:=zNm (reelsR a d s L x);rw[hE,hR];have HRe:Hid (E≠0->R=[]):=zY (fun h=>by rw[<-hR,reelsR,if_neg (by rw[hE];exact h)]);have HRo:Hid (E=0->R=(List.range (d.toNat+s.toNat)).map (fun r=>(r,reelP a d s L x r L.length))):=zY (fun h=>by rw[<-hR,reelsR,if_pos (by rw[hE];exact h)]);have HE:=zY hE;obtain⟨nL,hnL⟩:=zNm (L.length);have HnL:=zY hnL;have hl2:nL<=255:=by omega
 clear hv hL hK hx hE hR;rw[hnL]at HK HB0 Hv⊢;clear hnL hl;go_enter Tryz.func17,Tryz.ntmps17;go_upto_region 1 with fail;generalize w.alloc (.cells #[.int .u32 (a:Int),.int .i64 d,.int .i64 s,.slice A nL c] 28)=wa at *;have c1:=HK.c 1;have c2:=HK.c 2;go_wp2_with fail;refine(check16_any _ d s).mono ?_;rintro e1 w1 ⟨rfl,hb1⟩;have HK1:=zY (HK.kept hb1);have HB1:=zYt HB0 hb1;clear hb1 c1 c2 HK HB0;obtain⟨q,hq⟩:=zNm (layE d s);rw[hq];by_cases h0:q=0;{
 subst h0;have hds:1<=d/\d<=8/\0<=s/\s<=7:=by{
 by_cases hc:d<1∨8<d∨s<0∨7<s;{
 rw[layE,if_pos hc]at hq;cases hq};{omega}};have HE1:Hid (reelsE d s L x=if splitE x≠0 then splitE x else firstN (fun n=>contE d s L ((n:Int)+1)) L.length):=zY (by rw[reelsE,if_neg (by rw[hq];decide)]);have a0:=HK1.c 0;clear hq;go_wp2_with fail;refine(HSt.out _).mono ?_;rintro e2 w2 ⟨⟨vp,rfl,hp⟩,hb2⟩;have HK2:=zY (HK1.kept hb2);have HB2:=zYt HB1 hb2;have HP:=zY (hp.at hb2);obtain⟨Ap,cp,rfl⟩:=hp.slice;clear hp hb2 HK1 HB1 a0 HSt;obtain⟨q,hq⟩:=zNm (splitE x);rw[hq]at HE1⊢;by_cases h1:q=0;{
 subst h1;have HE2:Hid (E=firstN (fun n=>contE d s L ((n:Int)+1)) L.length):=zY (by rw[<-HE.out,HE1.out,if_neg (by decide)]);have HS:Hid (splitR a x=plnsL a x):=zY (by rw[splitR,if_pos hq]);rw[HS.out]at HP⊢;have hPl:(plnsL a x).length<=1000:=by{
 have hs:x.size<=40000:=by unfold splitE at hq;split at hq;{cases hq};{omega}
 rw[plnsL,List.length_map,List.length_range];unfold plnT;omega};have hSl:(stripsT a x).length<=20000:=by rw[stripsT,List.length_map,chks,chkF_len];omega
 have HOk:Hid (∀p∈plnsL a x,PlnOk p.a p.i p.t p.x):=zY (fun p hp=>by
  obtain⟨i,hi,rfl⟩:=List.mem_map.1 hp
  exact plnAt_ok ha hq (List.mem_range.1 hi));have HPn:Hid (∀W,Below w2.heap.size w2 W->Calls Tryz.prog 50 #[.slice Ap (plnsL a x).length cp] W fun e w'=>RetSeq strS 9 W w' (stripsT a x) e/\Below W.heap.size W w'):=zY (fun W hW=>rplain_any W _ (plnsL a x) (HP.below hW) hPl HOk.out);have HXP:Hid (∀r n,reelP a d s L x r n=stripsT a x++sesPs a d s L r n):=zY (fun _ _=>rfl);generalize (plnsL a x).length=pl at *;generalize stripsT a x=S at *;obtain⟨sl,hsl⟩:=zNm (S.length);have Hsl:=zY hsl;obtain⟨N,hN⟩:=zNm (d.toNat+s.toNat);have HN:=zY hN;rw[hN]at HRo;have hdsI:d+s=N:=by omega
 have hN15:N<=15:=by omega
 have hN1:1<=N:=by omega
 rw[hsl]at hSl;have hdsw:IntKind.i64.wrap (N:Int)=N:=zIw (by omega);clear hsl hN hq HE1 HS HP HOk hPl;go_upto_region 8 with fail;have HR0:Hid (∃rs,RlO 0 w2 (w2.alloc (.cells #[] 64)) (.slice (some ⟨w2.heap.size,0,none⟩) 0 0) (fun _=>S) rs):=zY ⟨fun _=>.slice none 0 0,OwnSeq.new _,fun j hj=>by omega,fun j k hj=>by omega⟩;have HBr0:=zY (zBl w2 (.cells #[] 64));generalize w2.alloc (.cells #[] 64)=w3 at *;go_wp2;go_loopw [9,10] (fun vo y wr=>∃i:Nat,i<=N/\y=.int .i64 (i:Int)/\(∃rs,RlO i w2 wr vo (fun _=>S) rs)/\Below w2.heap.size w2 wr) (fun _ y _=>N-(intOf y).toNat);case atStart=>exact⟨0,by omega,rfl,HR0.out,HBr0.out⟩
 case round=>
 obtain⟨i,hi,rfl,⟨rs,hr⟩,hB⟩:=hrel;have HR:=zY hr;have HB:=zY hB;have HKr:=zY (HK2.kept HB.out);have a1:=HKr.c 1;have a2:=HKr.c 2;clear hr hB HR0 HBr0;by_cases h:i<N;{
 have hiI:(i:Int)<N:=by omega
 have hi1:IntKind.i64.wrap ((i:Int)+1)=(i:Int)+1:=zIw (by omega);go_upto_region 11 with fail;clear a1 a2;go_wp2_with fail;refine(HPn.out _ HB.out).mono ?_;rintro e5 w5 ⟨⟨vr,rfl,ho⟩,hb5⟩;obtain⟨Ar,cr,e⟩:=ho.slice;rw[Hsl.out]at e;subst e;have HO:=zY ((ho.low flatS HB.size).alloc (.cells #[.int .i64 (i:Int),.slice Ar sl cr] 64));have HGe:=zY ho.ge;have HBl:=zY (hb5.alloc hb5.size (.cells #[.int .i64 (i:Int),.slice Ar sl cr] 64));have HB1:=zY (HB.trans (HBl.mono HB.size));have HO1:=zY (HR.below HBl.out).out;have HX1:Hid (SrcAt rawS w2 (w5.alloc (.cells #[.int .i64 (i:Int),.slice Ar sl cr] 64)) (.slice (some ⟨w5.heap.size,0,none⟩) 1 1) [(i,.slice Ar sl cr)]):=zY (src1 (ρ:=rawS) (wr:=w5) [.int .i64 (i:Int),.slice Ar sl cr] (i,.slice Ar sl cr) ⟨rfl,rfl⟩ rfl);have Hl1:Hid ((numR i rs).length+1<=100000000):=zY (by rw[numR_len];omega);clear ho hb5;go_wp2_with (at_builtin;refine append_seq (ρ:=rawS) (w0:=w2) Tryz.elemReel rfl _ _ rfl rfl HO1.out rfl HX1.out Hl1.out HB1.out ?_;intro vb w6 hob hgb hbb;have KR:=zY (HR.snoc HBl.out HO.out HGe.out hob hgb);have KC:=zY hbb;clear hob hgb hbb);go_roundw;case rel=>exact⟨i+1,by omega,by go_num,⟨_,KR.out⟩,KC.out⟩
 case measure=>simp[intOf];omega};{
 obtain rfl:N=i:=by omega
 have hiI:¬((N:Nat):Int)<(N:Int):=by omega
 obtain⟨G,cG,e,hG⟩:=HR.out.out.addr (by rw[numR_len];omega);subst e;rw[numR_len]at HR⊢;have HRx:Hid (RlO N w2 wr (.slice (some ⟨G,0,none⟩) N cG) (fun r=>reelP a d s L x r 0) rs):=zY (HR.congr fun j _=>by rw[HXP.out,sesPs];simp);have HXl0:Hid (∀r n,(reelP a d s L x r n).length<=20000+(sesPs (a:Int) d s L r n).length):=zY (fun r n=>by rw[HXP.out,List.length_append,Hsl.out];omega);have a3:=HKr.c 3;have HG:=zY hG;obtain⟨wy,rfl⟩:∃z,z=wr:=⟨_,rfl⟩;clear HR HXP hSl Hsl hi h hG HPn HKr;go_wp2;clear a1 a2 a3;go_loopw [11] (fun y wr=>∃n:Nat,n<=nL/\y=.int .i64 ((n:Int)+1)/\(∃rs,RlO N w2 wr (.slice (some ⟨G,0,none⟩) N cG) (fun r=>reelP a d s L x r n) rs)/\Below w2.heap.size w2 wr/\Hid (∀m,m<n->contE d s L ((m:Int)+1)=0)) (fun y _=>nL+1-(intOf y).toNat);case atStart=>exact⟨0,by omega,rfl,⟨_,HRx.out⟩,HB.out,zY (fun m hm=>by omega)⟩
 case round=>
 obtain⟨n,hn,rfl,⟨rs,hr⟩,hB,HZ⟩:=hrel;obtain⟨wn,rfl⟩:∃z,z=wr:=⟨_,rfl⟩;clear HRx HB;have HR:=zY hr;have HB:=zY hB;have HKn:=zY (HK2.kept HB.out);have a0:=HKn.c 0;have a1:=HKn.c 1;have a2:=HKn.c 2;have a3:=HKn.c 3;clear hr hB;by_cases h:n<nL;{
 have hnI:(n:Int)+1<=nL:=by omega
 have hnI2:(n:Int)<nL:=by omega
 have hn1:IntKind.i64.wrap ((n:Int)+1+1)=((n+1:Nat):Int)+1:=by rw[zIw (by omega)];omega
 have HBw:=zY (HB2.trans (HB.mono HB2.size));have HCo:=zY (rframes_any wn (a:Int) d s (.slice A nL c) L ((n:Int)+1) (Hv.below HBw.out) (by rw[HnL.out];omega) HL.out);go_wp2_with fail;refine HCo.mono ?_;rintro e4 w4 ⟨⟨vf,rfl,hf⟩,hb4⟩;have HKn:=zY (HK2.kept HB.out);obtain⟨Af,cf,e⟩:=hf.slice;subst e;have HF4:=zY hf;have HB4:=zY hb4;obtain⟨k,hk⟩:=zNm (contE d s L ((n:Int)+1));have Hk:=zY hk;rw[hk];clear hf hb4 a0 a1 a2 a3 HCo HKn;by_cases hk0:k=0;{
 subst hk0;obtain⟨xx,hxx⟩:∃xx,L[n]?=some xx:=⟨_,List.getElem?_eq_getElem (by rw[HnL.out];exact h)⟩;have hxx1:L[((n:Int)+1-1).toNat]?=some xx:=by rw[<-hxx];congr 1;omega
 have hFF:=framesF_ok (id:=(a:Int)) hk hxx1;have hpt:=contE_parts hk hxx1;have hp1:=parts_some xx;have hxz:=(HL.out n xx hxx).2.2;have hrl:(rowsL d.toNat s.toNat xx.str).length<=65536:=rowsL_len2 (by omega) hxz;have HFo:Hid (∀i,i<N->∀f∈reelL (a:Int) d s ((n:Int)+1) i (partsB (strB (dirL xx))) (rowsL d.toNat s.toNat xx.str) xx.str,FrmOk f):=zY (fun i hi=>
  reel_ok ⟨by omega,by omega⟩ ⟨hds.1,hds.2.1⟩ ⟨hds.2.2.1,hds.2.2.2⟩ (by rw[HN.out];exact hi) ⟨by omega,by omega⟩ hpt hxz);have HSP:Hid (∀i,sesP (a:Int) d s L i n=(chks 8 (reelL (a:Int) d s ((n:Int)+1) i (partsB (strB (dirL xx))) (rowsL d.toNat s.toNat xx.str) xx.str)).map fun g=>strB (celsL g)):=zY (fun i=>by rw[sesP,hxx]);obtain⟨M,hM⟩:=zNm ((partsB (strB (dirL xx))).length+(rowsL d.toNat s.toNat xx.str).length);have hFl:∀i,(reelL (a:Int) d s ((n:Int)+1) i (partsB (strB (dirL xx))) (rowsL d.toNat s.toNat xx.str) xx.str).length=M:=fun i=>by rw[reelL_len,hM]
 rw[reelsL,HN.out]at hFF;obtain⟨Fr,hFr⟩:∃Fr:Nat->List Frm,∀i,reelL (a:Int) d s ((n:Int)+1) i (partsB (strB (dirL xx))) (rowsL d.toNat s.toNat xx.str) xx.str=Fr i:=⟨fun i=>reelL (a:Int) d s ((n:Int)+1) i (partsB (strB (dirL xx))) (rowsL d.toNat s.toNat xx.str) xx.str,fun _=>rfl⟩;simp only[hFr]at HFo HSP hFl hFF;have hls:∀l∈(List.range N).map Fr,l.length=M:=fun l hl=>by
  obtain⟨i,_,rfl⟩:=List.mem_map.1 hl
  exact hFl i
 obtain⟨T,hT⟩:=zNm (N*M);have hfl:(framesF (a:Int) d s L ((n:Int)+1)).length=T:=by rw[hFF,flatR_len _ hls,List.length_map,List.length_range,hT]
 rw[hfl]at HF4⊢;have HPk:Hid (∀i,i<N->((framesF (a:Int) d s L ((n:Int)+1)).drop (i*M)).take M=Fr i):=zY (fun i hi=>by
  rw[hFF]
  exact flatR_pick _ i _ hls (by rw[List.getElem?_map,List.getElem?_range hi];rfl));have HFr:=zY hFl;have Hfl:=zY hfl;have HT:=zY hT;have hM1:1<=M:=by omega
 have hM2:M<=131072:=by omega
 have hT2:T<=15*131072:=by rw[<-hT];exact Nat.mul_le_mul hN15 hM2
 have hTI:(T:Int)=(N:Int)*(M:Int):=by rw[<-hT];exact Int.natCast_mul N M
 have hN0:(N:Int)≠0:=by omega
 have hq1:Int.tdiv (T:Int) (N:Int)=M:=by rw[hTI,Int.mul_tdiv_cancel_left _ hN0]
 have hq2:(T:Int)/(N:Int)=M:=by rw[hTI,Int.mul_ediv_cancel_left _ hN0]
 have hMw:IntKind.i64.wrap (M:Int)=M:=zIw (by omega);have hN0b:((N:Int)==0)=false:=by rw[beq_eq_false_iff_ne];exact hN0
 have HZ1:Hid (∀m,m<n+1->contE d s L ((m:Int)+1)=0):=zY (fun m hm=>by
  by_cases e:m=n
  ·subst e;exact Hk.out
  ·exact HZ.out m (by omega));have HXs:Hid (∀r,reelP a d s L x r (n+1)=reelP a d s L x r n++sesP a d s L r n):=zY (fun r=>by rw[reelP,reelP,sesPs_succ,List.append_assoc]);have HXl:Hid (∀r,(reelP a d s L x r n).length<=90000000):=zY (fun r=>by
  have h1:=HXl0.out r n
  have h2:=sesPs_len (a:=(a:Int)) (r:=r) HL.out hds.1 (n:=n) fun m hm=>HZ1.out m (by omega)
  have h3:n*140000<=255*140000:=Nat.mul_le_mul_right _ (by omega)
  omega);have HR4:=zY (HR.below HB4.out);have HBw4:=zY (HB.trans (HB4.mono HB.size));have Hsz4:=zY HB4.size;generalize framesF (a:Int) d s L ((n:Int)+1)=Fl at *;clear hFF hls hfl hFl hFr hM hxx hxx1 hpt hp1 hxz hrl hT hTI hk HZ;go_wp2;go_loopw [15] (fun y wr=>∃i:Nat,i<=N/\y=.int .i64 (i:Int)/\(∃rs,RlO N w2 wr (.slice (some ⟨G,0,none⟩) N cG) (fun j=>if j<i then reelP a d s L x j (n+1) else reelP a d s L x j n) rs)/\OwnSeq frmS 49 wn wr (.slice Af T cf) Fl/\wn.heap.size<=wr.heap.size/\Below w2.heap.size w2 wr) (fun y _=>N-(intOf y).toNat);case atStart=>exact⟨0,by omega,rfl,⟨_,HR4.congr (fun j _=>by rw[if_neg (by omega)])⟩,HF4.out,Hsz4.out,HBw4.out⟩
 case round=>
 obtain⟨i,hi,rfl,⟨rs,hr⟩,hf,hsz,hB⟩:=hrel;obtain⟨wi,rfl⟩:∃z,z=wr:=⟨_,rfl⟩;clear HR HR4 HB HBw4 HF4 HB4 Hsz4 HBw;have HR:=zY hr;have HF:=zY hf;have HSz:=zY hsz;have HB:=zY hB;clear hr hf hsz hB;by_cases h':i<N;{
 have hiI:(i:Int)<(N:Int):=by omega
 have ho:=HR.own i h';have hc0:=(rawcell HR.out.out h' HB.size).1;obtain⟨Ai,ci,e⟩:=ho.slice;rw[if_neg (Nat.lt_irrefl i)]at ho e;rw[e]at ho hc0;have Hri:=zY e;obtain⟨b,cf',e2,_⟩:=HF.addr (by rw[Hfl.out,<-HT.out];exact Nat.mul_pos (by omega) (by omega));rw[Hfl.out]at e2;obtain⟨rfl,rfl⟩:Af=some ⟨b,0,none⟩/\cf=cf':=by cases e2;exact⟨rfl,rfl⟩
 clear e2;obtain⟨lo,hlo⟩:=zNm (i*M);have hmul:i*M+M<=N*M:=by rw[<-Nat.succ_mul];exact Nat.mul_le_mul_right M h'
 rw[HT.out,hlo]at hmul;have hcf:T<=cf/\cf<=9223372036854775807:=by obtain⟨_,_,e9,h8,h9,_⟩:=HF.atF flatFrm HSz.out;cases e9;rw[Hfl.out]at h8;exact⟨h8,h9⟩
 have HSl:Hid (SeqAt frmS wi (.slice (some ⟨b,lo*9,none⟩) M (cf-lo)) (Fr i)):=zY (by
  have h1:=HF.atF flatFrm HSz.out
  have h2:=SeqAt.drop (m:=lo) h1 (by rw[Hfl.out];omega)
  have h3:=SeqAt.take (m:=M) h2 (by rw[List.length_drop,Hfl.out];omega)
  rw[<-hlo,HPk.out i h',hlo,Nat.zero_add]at h3
  exact h3);obtain⟨CL,hCL⟩:=zNm ((chks 8 (Fr i)).map (fun g=>strB (celsL g)));have HSPi:Hid (sesP (a:Int) d s L i n=CL):=zY (by rw[HSP.out,hCL]);have HCd:Hid (∀W,Below wi.heap.size wi W->Calls Tryz.prog 51 #[.slice (some ⟨b,lo*9,none⟩) M (cf-lo)] W fun e w'=>RetSeq strS 9 W w' CL e/\Below W.heap.size W w'):=zY (fun W hW=>by
  have h1:=HFr.out i
  have h2:=rcoded_any W (.slice (some ⟨b,lo*9,none⟩) M (cf-lo)) (Fr i) (HSl.below hW) (by omega) (HFo.out i h')
  rw[hCL]at h2
  exact h2);have HCLl:Hid (CL.length<=10000000):=zY (by have:=HFr.out i;rw[<-hCL,List.length_map,chks,chkF_len];omega);have Hla:Hid ((reelP a d s L x i n).length+CL.length<=100000000):=zY (by have:=HXl.out i;have:=HCLl.out;omega);have HOi:=zY ho;generalize hni:(reelP a d s L x i n).length=ni at *;have Hni:=zY hni;have HOi:Hid (OwnSeq strS 9 w2 wi (.slice Ai ni ci) (reelP a d s L x i n)):=HOi;have Hla:Hid ((reelP a d s L x i n).length+CL.length<=100000000):=zY (by rw[hni];exact Hla.out);obtain⟨cl,hcl⟩:=zNm (CL.length);obtain⟨up,hup⟩:=zNm (lo+M);have hi1:IntKind.i64.wrap ((i:Int)+1)=(i:Int)+1:=zIw (by omega);have hlI:(i:Int)*(M:Int)=(lo:Int):=by rw[<-hlo];exact(Int.natCast_mul i M).symm
 have hhI:((i:Int)+1)*(M:Int)=(up:Int):=by rw[Int.add_mul,hlI];omega
 have hlw:IntKind.i64.wrap (lo:Int)=lo:=zIw (by omega);have hhw:IntKind.i64.wrap (up:Int)=up:=zIw (by omega);have hs0:(0:Int)<=lo:=by omega
 have hs1:(lo:Int)<=(up:Int):=by omega
 have hs2:(up:Int)<=(cf:Int):=by omega
 have hs3:up-lo=M:=by omega
 have hs4:lo<=cf:=by omega
 have hs5:(cf=lo)=False:=eq_false (by omega);have hs6:up<=cf:=by omega
 have hs7:lo<=up:=by omega
 have c0:=hc0;clear hup ho e hmul hlo hCL hni hcl hc0;go_upto_region 22 with fail;have HBc:=zY (Below.refl wi.heap.size wi).drew;refine wp_region_held_drew (S:=(fun _=>True)) (by kernel_rfl) ?_ (fun hHeld=>?_);{exact trivial};refine tk 0 ?_;refine tk 1 ?_;refine tk 2 ?_;refine tk 3 ?_;refine tk 4 ?_;refine tk 5 ?_;refine tk 7 ?_;refine tk 8 ?_;refine tk 9 ?_;refine tk 10 ?_;refine tk 11 ?_;refine tk 12 ?_;refine tk 13 ?_;refine tk 14 ?_;refine tk 15 ?_;repeat' first
  |((have ck:= @hko (i:=6) (hK:=hK));(clear ck);(go_simp);(refine hko hK (by exact trivial) (fun _=>?_));(clear hK K);(have d6:=True.intro);(first|(have c:=d16;clear c;have c:=d17;clear c;refine tk 18 ?_)|skip);(first|(have c:=d16;clear c;have c:=d17;clear c;refine tk 19 ?_)|skip))
  |((have ck:= @hko (i:=16) (hK:=hK));(clear ck);(go_simp);(refine(HCd.out _ HBc.out).mono ?_);(rintro e5 w5 ⟨⟨vq,rfl,hq⟩,hb5⟩);(obtain⟨Aq,cq,e⟩:=hq.slice);(subst e);((try go_wp2_with fail));(clear c0);(have HBc:=zYt HBc hb5);(have HB5:=zY (HB.trans (HBc.mono HB.size)));(have HR5:=zY (HR.below HBc.out));(have c0:=(rawcell HR5.out.out h' HB5.size).1);(rw[Hri.out]at c0);(have HF5:=zY (HF.below HBc.out));(have HO5:=zY (HOi.below HBc.out));(have HX5:Hid (SrcAt strS w2 w5 (.slice Aq CL.length cq) CL):=zY (hq.low flatS (HB.drew.size)).src);(clear hq hb5);(refine hko hK (by exact trivial) (fun _=>?_));(clear hK K);(have d16:=True.intro);(first|(have c:=d6;clear c;have c:=d17;clear c;refine tk 18 ?_)|skip);(first|(have c:=d6;clear c;have c:=d17;clear c;refine tk 19 ?_)|skip))
  |((have ck:= @hko (i:=17) (hK:=hK));(clear ck);(refine wp_append_seqO (ρ:=strS) (w0:=w2) Tryz.elemStr (.tmp 84) (.tmp 94) rfl rfl HO5.out rfl HX5.out Hla.out HB5.out ?_);(intro v7 w7 hob hgb hnb hbb);(obtain⟨A7,c7,e7⟩:=hob.slice);(generalize (reelP a d s L x i n++CL).length=n7 at e7);(subst e7);(have HGb:=zY hgb);(have HOb:=zY hob);(have HNb:=zY hnb);(have HB7:=zY hbb);(have HR7:=zY (HR5.out.out.grown hgb (HR5.out.out.neO HO5.out (by decide))));(obtain⟨q0,z0⟩:=rawcell HR7.out h' hbb.size);(rw[Hri.out]at q0);(clear hob hgb hnb hbb);(refine hko hK (by exact trivial) (fun _=>?_));(clear hK K);(have d17:=True.intro);(first|(have c:=d6;clear c;have c:=d16;clear c;refine tk 18 ?_)|skip);(first|(have c:=d6;clear c;have c:=d16;clear c;refine tk 19 ?_)|skip))
  |((have ck:= @hko (i:=20) (hK:=hK));(clear ck);(go_simp);(refine hko hK (by exact trivial) (fun _=>?_));(clear hK K);(have d20:=True.intro))
  |((have c:=d6;clear c);(have c:=d16;clear c);(have c:=d17;clear c);(have c:=d20;clear c);(refine wpAnyH_done (by kernel_rfl) ?_ _);(clear d6 d16 d17 d20);(have HKR:Hid (∃rs',RlO N w2 (w7.setCell ⟨G,i*2+1,none⟩ (.slice A7 n7 c7)) (.slice (some ⟨G,0,none⟩) N cG) (fun j=>if j<i+1 then reelP a d s L x j (n+1) else reelP a d s L x j n) rs'):=zY ⟨_,HR5.put (Y:=fun j=>if j<i+1 then reelP a d s L x j (n+1) else reelP a d s L x j n) h' (by(show OwnSeq _ _ _ _ _ (if i<i+1 then _ else _));(rw[if_pos (by omega),HXs.out,HSPi.out]);(exact HOb.out)) (fun j hj hne=>by(show (if j<i+1 then _ else _)=(if j<i then _ else _));(by_cases e2:j<i);(· rw[if_pos e2,if_pos (by omega)]);(· rw[if_neg e2,if_neg (by omega)])) (by rw[Hri.out];exact HGb.out) (by rw[Hri.out];exact HNb.out)⟩);(have HF7:=zY (HF5.grown HGb.out (HF5.neO HO5.out (by decide))));(have HFs:=zY (HF7.grown (grown_set w7 G (i*2+1) (.slice A7 n7 c7)) (HF7.neO HR7.out (by decide))));(have HZs:Hid (wn.heap.size<=(w7.setCell ⟨G,i*2+1,none⟩ (.slice A7 n7 c7)).heap.size):=zY (by have:=HSz.out;have:=HBc.size;have:=HGb.size;have:=(grown_set w7 G (i*2+1) (.slice A7 n7 c7)).size;omega));(have HBs:=zY (HB7.setCell (p:=⟨G,i*2+1,none⟩) HG.out (.slice A7 n7 c7)));(clear q0 z0);(go_wp2_with fail);(go_roundw);(case rel=>exact⟨i+1,by omega,by go_num,HKR.out,HFs.out,HZs.out,HBs.out⟩);(case measure=>simp[intOf];omega))
  |((have c:=d6;clear c);(have c:=d16;clear c);(have c:=d17;clear c);(refine wpAnyH_ready (rs:=[20]) (by kernel_rfl) (by simp) (AllReadyH.cons (o:=_) rfl (fun K hK=>?_) AllReadyH.nil)))
  |((have c:=d6;clear c);(have c:=d16;clear c);(refine wpAnyH_ready (rs:=[17]) (by kernel_rfl) (by simp) (AllReadyH.cons (o:=_) rfl (fun K hK=>?_) AllReadyH.nil)))
  |((have c:=d6;clear c);(refine wpAnyH_ready (rs:=[16]) (by kernel_rfl) (by simp) (AllReadyH.cons (o:=_) rfl (fun K hK=>?_) AllReadyH.nil)))
  |((have c:=d16;clear c);(refine wpAnyH_ready (rs:=[6]) (by kernel_rfl) (by simp) (AllReadyH.cons (o:=_) rfl (fun K hK=>?_) AllReadyH.nil)))
  |((refine wpAnyH_ready (rs:=[6,16]) (by kernel_rfl) (by simp) (AllReadyH.cons (o:=_) rfl (fun K hK=>?_) (AllReadyH.cons (o:=_) rfl (fun K hK=>?_) AllReadyH.nil))))};{
 obtain rfl:N=i:=by omega
 have hiI:¬((N:Nat):Int)<(N:Int):=by omega
 have HRf:Hid (∃rs,RlO N w2 wi (.slice (some ⟨G,0,none⟩) N cG) (fun r=>reelP a d s L x r (n+1)) rs):=zY ⟨_,HR.congr fun j hj=>by rw[if_pos hj]⟩;go_wp2;go_roundw;case rel=>exact⟨n+1,by omega,by go_num,HRf.out,HB.out,HZ1⟩
 case measure=>simp[intOf];omega}};{
 have hk0b:(k==0)=false:=by rw[beq_eq_false_iff_ne];exact hk0
 have hEk:E=k:=by rw[HE2.out,firstN_at (m:=n) HZ.out (by rw[Hk.out];exact hk0) (by rw[HnL.out];exact h)];exact Hk.out
 obtain rfl:=hEk;have HF:=zY (HRe.out hk0);clear HE2 HE Hk hk;go_wp2;go_ret2;exact⟨⟨_,rfl,by rw[HF.out];exact SeqAt.nil _⟩,HB2.trans ((HB.trans (HB4.mono HB.size)).mono HB2.size)⟩}};{
 obtain rfl:nL=n:=by omega
 have hnI:¬((nL:Nat):Int)+1<=(nL:Int):=by omega
 have hnI2:¬((nL:Nat):Int)<(nL:Int):=by omega
 have hE0:E=0:=by rw[HE2.out];exact firstN_zero (by rw[HnL.out];exact HZ.out)
 have HF:=zY (HRo.out hE0);subst hE0;have HSq:=zY (HR.at HB.out);clear HE2 HE;go_wp2;go_ret2;exact⟨⟨_,rfl,by rw[HF.out,HnL.out];exact HSq.out⟩,HB2.trans (HB.mono HB2.size)⟩}}};{
 have h1b:(q==0)=false:=by rw[beq_eq_false_iff_ne];exact h1
 obtain rfl:q=E:=by rw[<-HE.out,HE1.out,if_pos h1]
 have HF:=zY (HRe.out h1);clear hq HE1 HE;go_wp2;go_ret2;exact⟨⟨_,rfl,by rw[HF.out];exact SeqAt.nil _⟩,HB2.out⟩}};{
 have h0b:(q==0)=false:=by rw[beq_eq_false_iff_ne];exact h0
 obtain rfl:q=E:=by rw[<-HE.out,reelsE,hq,if_pos h0]
 have HF:=zY (HRe.out h0);clear hq HE;go_wp2;go_ret2;exact⟨⟨_,rfl,by rw[HF.out];exact SeqAt.nil _⟩,HB1.out⟩}
theorem lawreels_any (w:World) (v:Value) (l:List Bat) (hv:SeqAt batS w v l) (x:Nat) (hx:x<256) (t:ByteArray) (hT:Tab w):Calls Tryz.prog 4 #[v,.int .u8 (x:Int),.string t] w fun e w'=>e=.returned (.bool true)/\Below w.heap.size w w':=by
 have HT:=zY hT;have HM:=zY (fun(W:World) (hW:Below w.heap.size w W)=>made_any W v l (hv.below hW) x hx);obtain⟨Av,cv,rfl,_,_⟩:=hv.slice;generalize l.length=ll at *;clear hv hT;go_enter Tryz.func4,Tryz.ntmps4;go_wp2_with fail;refine(HM.out _ (Below.refl _ _)).mono ?_;rintro e1 w1 ⟨⟨d,s,va,L,ok,rfl,hd1,hd3,hs2,hva,hok⟩,hb1⟩;obtain⟨A,c,rfl,_,_⟩:=hva.slice;have HVa:=zY hva;have HOk:=zY hok;have HB1:=zY hb1;clear hva hok hb1 HM;go_upto_region 2 with fail;have hA:=Blk.new w1 28 [.int .u32 7,.int .i64 (d:Int),.int .i64 (s:Int),.slice A L.length c];have HA:Hid (Blk (w1.alloc (.cells #[.int .u32 7,.int .i64 (d:Int),.int .i64 (s:Int),.slice A L.length c] 28)) w1.heap.size 28 [.int .u32 7,.int .i64 (d:Int),.int .i64 (s:Int),.slice A L.length c]):=zY hA;have HVb:=zY (HVa.below (zBl w1 (.cells #[.int .u32 7,.int .i64 (d:Int),.int .i64 (s:Int),.slice A L.length c] 28)));have HB2:=zY (HB1.alloc HB1.size (.cells #[.int .u32 7,.int .i64 (d:Int),.int .i64 (s:Int),.slice A L.length c] 28));clear hA HB1 HVa;generalize w1.alloc (.cells #[.int .u32 7,.int .i64 (d:Int),.int .i64 (s:Int),.slice A L.length c] 28)=w2 at *;have HAw:=zY (awake43_any w2 (HT.below HB2.out));cases ok with
 |false=>go_wp2_with fail;refine HAw.mono ?_;rintro e3 w3 ⟨rfl,hb3⟩;have HB3:=zYt HB2 hb3;clear hb3;go_wp2;go_ret;exact⟨rfl,HB3.out⟩
 |true=>
 by_cases ht:300<t.size;{
 have htI:(300:Int)<t.size:=by omega
 go_wp2_with fail;refine HAw.mono ?_;rintro e3 w3 ⟨rfl,hb3⟩;have HB3:=zYt HB2 hb3;clear hb3;go_wp2;go_ret;exact⟨rfl,HB3.out⟩};{
 have htI:¬(300:Int)<t.size:=by omega
 have HMo:=zY (HOk.out rfl);have HAl:=zY HMo.all;have hl2:=HMo.len;have HF1:=zY (fun(W:World) (hW:SeqAt sesS W (.slice A L.length c) L) (hT:Tab W)=>volreels_any W 7 (d:Int) (s:Int) _ L t (by decide) hW (by omega) HAl.out (by omega) hT);have HF2:=zY (fun(W:World) (hW:SeqAt sesS W (.slice A L.length c) L)=>rreels_any W 7 (d:Int) (s:Int) _ L t (by decide) hW (by omega) HAl.out (by omega));obtain⟨R,hR⟩:=zNm (reelsR 7 (d:Int) (s:Int) L t);obtain⟨k,hk⟩:=zNm (reelsE (d:Int) (s:Int) L t);rw[hR,hk]at HF1 HF2;generalize hll:L.length=nl at *;clear hl2 hll hR hk HAw;have a0:=HA.c 0;have a1:=HA.c 1;have a2:=HA.c 2;have a3:=HA.c 3;go_wp2_with fail;refine(HF1.out w2 HVb.out (HT.below HB2.out)).mono ?_;rintro e3 w3 ⟨⟨v1,rfl,h1⟩,hb3⟩;have HVc:=zY (HVb.below hb3);have HA3:=zY (HA.kept hb3);have HB3:=zYt HB2 hb3;have HQ1:=zY h1;clear hb3 h1 a0 a1 a2 a3 HVb HA HB2;have a0:=HA3.c 0;have a1:=HA3.c 1;have a2:=HA3.c 2;have a3:=HA3.c 3;obtain⟨A1,c1,rfl,_,_⟩:=HQ1.slice;generalize hz1:R.length=z1 at *;go_upto_region 5 with fail;go_wp2_with fail;refine(HF2.out w3 HVc.out).mono ?_;rintro e4 w4 ⟨⟨v2,rfl,h2⟩,hb4⟩;have HS1:=zY (same43R_any w4 _ _ R (HQ1.below hb4) h2);have HB4:=zYt HB3 hb4;obtain⟨A2,c2,rfl,_,_⟩:=h2.slice;rw[hz1]at HS1⊢;clear h2 hb4 a0 a1 a2 a3 HVc HA3 HB3 HQ1 HF1 HF2 hz1;go_upto_region 6 with fail;go_wp2_with fail;refine HS1.mono ?_;rintro e8 w8 ⟨rfl,hb8⟩;have HB8:=zYt HB4 hb8;have HAw:=zY (awake43_any w8 (HT.below HB8.out));clear hb8 HS1;go_wp2_with fail;refine HAw.mono ?_;rintro e10 w10 ⟨rfl,hb10⟩;have HB10:=zYt HB8 hb10;clear hb10;go_wp2;go_ret;exact⟨rfl,HB10.out⟩}
end
end Go.Proofs.YthgenkkkapilhaaGreatDoor
namespace Go.Proofs.YthgenkkkapilhaaGreatDoor.lawVoReels
section
open Go.ChangeShapes Go.WideShapes Go.ChangeAt Go.RowKit
theorem lifted (os:Os) (started:os.Started) (H:Type) (enc:TypeId×Value->H):
  ReturnsInHanded {} Tryz.checked os 4 .any (fun w args=>(Rows.volumeReelsSpec.pre enc Tryz.prog Tryz.f4 Rows.volumeReelsRow.domain false w args/\laidMetH Tryz.prog Rows.volumeReelsRow.laid w)/\sizedMet enc Tryz.prog Tryz.f4 (OpenSpec.ofChange Rows.volumeReelsSpec) false w args)
   (Rows.volumeReelsSpec.post enc Tryz.prog Tryz.f4 false true false false):=by
 refine returns_shaped (C:=Tryz.checked) (X:=fun w _=>laidMetH Tryz.prog Rows.volumeReelsRow.laid w) (fun _ _ _ hh h=>h.of_heap hh) ownN started (by kernel_rfl) Tryz.func4
  (ChangeSpec.witness_shaped (enc:=enc) (C:=Tryz.checked) (os:=os) (X:=fun w _=>laidMetH Tryz.prog Rows.volumeReelsRow.laid w) false (World.laidAll Tryz.prog os Rows.volumeReelsRow.laid) #[.slice none 0 0,.int .u8 0,.string ⟨#[]⟩] 8 (World.laidAll_os _ _ _)
   (World.shaped_of_ZipB (by kernel_rfl) (by kernel_rfl)) (by kernel_rfl) (by kernel_rfl) (by kernel_rfl)
   (by rw[MakeChecks.laidMetH_plain _ _ _ (by kernel_rfl)];exact laidMet_laidAll _ (by kernel_rfl) (by kernel_rfl))) ?_;intro W base args ds gs before hval0 hW hc _ hL hsh _;have hT:Tab W:=tab_of hL (by kernel_rfl) hsh;have hval:∀(j:Nat) t v,Tryz.f4.params[j]?=some t->args[j]?=some v->Value.okWide Tryz.prog W .any base t v:=hval0;have hW':=hW;obtain⟨p,q,hA0,hV,rfl,_,_⟩:=hW;have hA:DataW.TrodAll enc Tryz.prog W 0 (fun _=>true) true Tryz.f4.params.toList args.toList ds p:=hA0;rw[Tryz.params4]at hA hval;obtain⟨v0,vs0,d0,ds0,p0,q0,hargs,rfl,rfl,h0,r0⟩:=trodAll_cons hA;obtain⟨v1,vs1,d1,ds1,p1,q1,rfl,rfl,rfl,h1,r1⟩:=trodAll_cons r0;obtain⟨v2,vs2,d2,ds2,p2,q2,rfl,rfl,rfl,h2,r2⟩:=trodAll_cons r1;obtain⟨rfl,rfl,rfl⟩:=trodAll_nil r2;obtain rfl:args= #[v0,v1,v2]:=by cases args;simp_all
 obtain⟨rfl,rfl⟩:=trodVars_none hV;have k0:=h0;have lt0:∀x∈p0,x.block<W.heap.size:=by obtain⟨m,hm⟩:=k0;exact DataW.trod_lt m _ _ _ hm
 have k1:=h1;have lt1:∀x∈p1,x.block<W.heap.size:=by obtain⟨m,hm⟩:=k1;exact DataW.trod_lt m _ _ _ hm
 have k2:=h2;have lt2:∀x∈p2,x.block<W.heap.size:=by obtain⟨m,hm⟩:=k2;exact DataW.trod_lt m _ _ _ hm
 obtain⟨x0,hx0⟩:=open_bats (hval 0 22 v0 rfl rfl) h0;obtain⟨x1,rfl,hx1⟩:=open_u8 (hval 1 5 v1 rfl rfl) h1;obtain⟨x2,rfl,_⟩:=Go.ChangeMaps.open_string Tryz.underlying9 (hval 2 9 v2 rfl rfl) h2;clear hA0 hval0 hL;refine(lawreels_any W v0 x0 hx0 x1 hx1 x2 hT).mono fun e W' ⟨he,bel⟩=>?_;subst he;exact⟨_,rfl,_,_,_,[],_,[],hW',trodAll_mk1 (shut_bool Tryz.underlying4 _),(trodAll_cons_mk (Below.trod laidN (by kernel_rfl) (of_decide_eq_true (by kernel_rfl)) k0 bel lt0) (trodAll_cons_mk (Below.trod laidN (by kernel_rfl) (of_decide_eq_true (by kernel_rfl)) k1 bel lt1) (trodAll_cons_mk (Below.trod laidN (by kernel_rfl) (of_decide_eq_true (by kernel_rfl)) k2 bel lt2) trodAll_mk0))),rfl,bel.frame _,fun h=>by cases h⟩
theorem closed:joinedFacts Tryz.prog 4 Tryz.f4 Rows.volumeReelsSpec Rows.volumeReelsRow=true:=by
 unfold joinedFacts;simp only[Bool.and_eq_true];repeat' apply And.intro
 all_goals as_aux_lemma=>kernel_rfl
end
end Go.Proofs.YthgenkkkapilhaaGreatDoor.lawVoReels