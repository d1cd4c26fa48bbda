/-
  Joined: VrV SiD VrW VrX VsA.
-/
import Derived.Test.YthgenkkkapilhaaGreatDoorVQn36
import Derived.Test.YthgenkkkapilhaaGreatDoorVQn44
set_option linter.all false
set_option maxRecDepth 100000
set_option maxHeartbeats 64000000
namespace Go.Proofs.YthgenkkkapilhaaGreatDoor
open Go.Proofs.Tryz
section
open Go.RowKit
def KeptR (lo hi:Nat) (A B:World):Prop:=∀k,lo<=k->k<hi->B.heap[k]?=A.heap[k]?
theorem KeptR.refl (lo hi:Nat) (A:World):KeptR lo hi A A:=fun _ _ _=>rfl
theorem KeptR.below {lo hi:Nat} {A B C:World} (h:KeptR lo hi A B) (hs:hi<=B.heap.size) (hb:Below B.heap.size B C):KeptR lo hi A C:=fun k h1 h2=>(hb.block k (by omega)).trans (h k h1 h2)
theorem KeptR.grown {lo hi:Nat} {A B C:World} {r:Option Nat} (h:KeptR lo hi A B) (hs:hi<=B.heap.size) (hg:B.grownBy C r) (hr:∀b,r=some b->b<lo∨hi<=b):KeptR lo hi A C:=fun k h1 h2=>(hg.block k (by omega) (fun e=>by have:=hr k e.symm;omega)).trans (h k h1 h2)
def Avoid (N:Nat) (rs:Nat->Value) (lo hi:Nat):Prop:=∀j b,j<N->(rs j).ownBlock=some b->b<lo∨hi<=b
theorem Avoid.put {N lo hi i b0:Nat} {rs:Nat->Value} {v:Value} (h:Avoid N rs lo hi) (hi':i<N) (hn:v.ownBlock=(rs i).ownBlock∨v.ownBlock=some b0) (hb:hi<=b0):Avoid N (fun j=>if j=i then v else rs j) lo hi:=fun j b hj e=>by
 dsimp only at e
 split at e
 {
 rcases hn with h1|h1
 ·exact h i b hi' (h1.symm.trans e)
 {
 rw[h1]at e
 cases e
 exact .inr hb}}
 ·exact h j b hj e
theorem Rls.avoid {N:Nat} {w0 W:World} {g:Nat} {X:Nat->List ByteArray} {rs:Nat->Value} (h:Rls N N w0 W g X rs) (hi:Nat):Avoid N rs W.heap.size hi:=fun j b hj e=>.inl ((h.own j hj).lt e)
theorem Rls.congr {N:Nat} {w0 W:World} {g:Nat} {X Y:Nat->List ByteArray} {rs:Nat->Value} (h:Rls N N w0 W g X rs) (e:∀j,j<N->X j=Y j):Rls N N w0 W g Y rs:=⟨h.blk,fun j hj=>by rw[<-e j hj];exact h.own j hj,h.sep,h.base⟩
theorem Rls.grownCell {N:Nat} {w0 W W':World} {g:Nat} {X:Nat->List ByteArray} {rs:Nat->Value} (h:Rls N N w0 W g X rs) {i:Nat} (hi:i<N) (hg:W.grownBy W' (rs i).ownBlock):W'.cell? ⟨g,i*2+1,none⟩=some (rs i)/\W'.frozen? ⟨g,i*2+1,none⟩=false:=by
 obtain⟨us,h1,h2,h3,h4⟩:=h.blk;have hk:Blk W' g 64 us:=h1.grownB hg ((h.own i hi).neT h1 (by decide));rw[Nat.mul_comm i 2];exact⟨hk.cell (h3 i hi).2,hk.frozen _⟩
theorem SeqAt.range {α:Type} {ρ:Shape α} {A B:World} {v:Value} {xs:List α} {lo:Nat} (hF:Flat ρ) (h:SeqAt ρ A v xs) (hu:UpV lo v) (hk:KeptR lo A.heap.size A B):SeqAt ρ B v xs:=by
 obtain⟨a,c,rfl,h1,h2,h3⟩:=h;refine⟨a,c,rfl,h1,h2,fun i x hx=>?_⟩;obtain⟨b,o,cs,rfl,hr,h4⟩:=h3 i x hx;refine⟨b,o,cs,rfl,hF _ _ _ _ hr,fun j u hu'=>?_⟩;have hc:=h4 j u hu';exact(World.cell?_of_block (a:=⟨b,o+i*ρ.n+j,none⟩) (hk b (hu _ _ _ _ rfl) (cell_lt hc))).trans hc
theorem OwnSeq.src {α:Type} {ρ:Shape α} {t:TypeId} {w0 W:World} {v:Value} {xs:List α} (h:OwnSeq ρ t w0 W v xs):SrcAt ρ w0 W v xs:=by
 obtain⟨css,h,hB⟩:=h;rcases h.2 with⟨rfl,h0⟩|⟨g,cap,cur,rfl,_,_,h1,h2,_⟩;{
 obtain rfl:=List.length_eq_zero_iff.1 h0;exact⟨none,0,rfl,fun i x hx=>by cases hx⟩};{
 refine⟨_,_,rfl,fun i x hx=>?_⟩;obtain⟨cs,hcs,hr⟩:=hB.at hx;refine⟨g,0,cs,rfl,hr,fun j u hu=>?_⟩;have hj:j<ρ.n:=by have:=(List.getElem?_eq_some_iff.1 hu).1;rwa [ρ.len hr]at this
 have hi:i<xs.length:=(List.getElem?_eq_some_iff.1 hx).1;have hm:(i+1)*ρ.n<=xs.length*ρ.n:=Nat.mul_le_mul (by omega) (Nat.le_refl _);rw[Nat.add_mul,Nat.one_mul]at hm;rw[Nat.zero_add,h.cellAt (i*ρ.n+j) (by omega),flat_get hB.lens hcs j hj,hu]}
def firstN (f:Nat->Int):Nat->Int
 |0=>0
 |n+1=>if firstN f n≠0 then firstN f n else f n
theorem firstN_zero {f:Nat->Int}:∀{n:Nat},(∀m,m<n->f m=0)->firstN f n=0
 |0,_=>rfl
 |n+1,h=>by
  rw[firstN,firstN_zero fun m hm=>h m (by omega),if_neg (by decide)]
  exact h n (by omega)
theorem firstN_at {f:Nat->Int} {m:Nat} (h:∀q,q<m->f q=0) (h0:f m≠0):∀{n:Nat},m<n->firstN f n=f m
 |0,hm=>by omega
 |n+1,hm=>by
  by_cases e:m=n
  {
  subst e
  rw[firstN,firstN_zero h,if_neg (by decide)]}
  ·rw[firstN,firstN_at h h0 (n:=n) (by omega),if_pos h0]
def sesP (a d s:Int) (L:List Ses) (r n:Nat):List ByteArray:=match L[n]? with
 |none=>[]
 |some x=>(chks 8 (reelL a d s ((n:Int)+1) r (partsB (strB (dirL x))) (rowsL d.toNat s.toNat x.str) x.str)).map fun g=>strB (celsL g)
def sesPs (a d s:Int) (L:List Ses) (r n:Nat):List ByteArray:=((List.range n).map (sesP a d s L r)).flatten
theorem sesPs_succ (a d s:Int) (L:List Ses) (r n:Nat):sesPs a d s L r (n+1)=sesPs a d s L r n++sesP a d s L r n:=by
 rw[sesPs,List.range_succ,List.map_append,List.flatten_append];simp[sesPs]
def reelP (a:Nat) (d s:Int) (L:List Ses) (x:ByteArray) (r n:Nat):List ByteArray:=stripsT a x++sesPs a d s L r n
def reelsE (d s:Int) (L:List Ses) (x:ByteArray):Int:=if layE d s≠0 then layE d s else if splitE x≠0 then splitE x else firstN (fun n=>contE d s L ((n:Int)+1)) L.length
def reelsR (a:Nat) (d s:Int) (L:List Ses) (x:ByteArray):List (Nat×List ByteArray):=if reelsE d s L x=0 then (List.range (d.toNat+s.toNat)).map (fun r=>(r,reelP a d s L x r L.length)) else []
theorem Tryz.elemReel:Elem prog 38 64 2 32 (.agg #[.int .i64 0,.slice none 0 0]):=⟨underlying38,by kernel_rfl,rfl,by decide,by decide⟩
theorem flat2 (N:Nat):(madeCells #[Value.int .i64 0,Value.slice none 0 0] (N*2))=((List.replicate N [Value.int .i64 0,.slice none 0 0]).flatten).toArray:=by
 have e:∀n j,((List.replicate n [Value.int .i64 0,Value.slice none 0 0]).flatten)[j]?=if j<n*2 then some (if j%2=0 then Value.int .i64 0 else .slice none 0 0) else none:=by{
 intro n;induction n with
 |zero=>intro j;simp
 |succ n ih=>
 intro j;rw[List.replicate_succ,List.flatten_cons];match j with
 |0=>simp
 |1=>rw[if_pos (by omega)];rfl
 |j+2=>
 show ((List.replicate n [Value.int .i64 0,Value.slice none 0 0]).flatten)[j]?=_;rw[ih j,Nat.add_mod_right];by_cases h:j<n*2;{simp only[h,show j+2<(n+1)*2 by omega,if_true]};{simp only[h,show ¬j+2<(n+1)*2 by omega,if_false]}};refine Array.ext' (List.ext_getElem? fun j=>?_);rw[List.toList_toArray,e N j];unfold madeCells;by_cases h:j<N*2;{
 rw[if_pos h,Array.getElem?_toList,Array.getElem?_map,Array.getElem?_range,if_pos h];show some _=_;have h2:j%2=0∨j%2=1:=by omega
 rcases h2 with h2|h2;{simp[h2]};{simp[h2]}};{
 rw[if_neg h,Array.getElem?_toList,Array.getElem?_map,Array.getElem?_eq_none (by simp;omega)];rfl}
theorem make_reels (N:Nat) (hN:N<=1000) (W:World):(Instr.makeSlice 38 (.int .i64 (N:Int)) (.int .i64 (N:Int))).run prog W=.ok (.slice (some ⟨W.heap.size,0,none⟩) N N) (W.alloc (.cells ((List.replicate N [Value.int .i64 0,.slice none 0 0]).flatten).toArray 64)):=by
 obtain⟨i0,hi,hz0,hz1,hz2⟩:=infoV_parts Tryz.elemReel.hi;have hr:=run_make (P:=prog) W 38 64 i0 (.agg #[.int .i64 0,.slice none 0 0]) underlying38 hi hz0 .i64 .i64 N N (by omega) (by omega) (by rw[hz2];omega) (by omega);rw[hr,hz1,<-flat2];rfl
theorem rls_step {N i G:Nat} {w2 wr wv:World} {S:List ByteArray} {rs:Nat->Value} {va:Value} (HR:Rls N i w2 wr G (fun _=>S) rs) (h:i<N) (hob:OwnSeq strS 9 w2 wv va ([]++S)) (hgb:wr.grownBy wv (Value.slice none 0 0).ownBlock) (hnb:va.ownBlock=(Value.slice none 0 0).ownBlock∨va.ownBlock=some wr.heap.size) (hbb:Below w2.heap.size w2 wv):
  (Rls N (i+1) w2 ((wv.setCell ⟨G,i*2,none⟩ (.int .i64 (i:Int))).setCell ⟨G,i*2+1,none⟩ va) G (fun _=>S) (fun j=>if j=i then va else rs j)/\Below w2.heap.size w2 ((wv.setCell ⟨G,i*2,none⟩ (.int .i64 (i:Int))).setCell ⟨G,i*2+1,none⟩ va)) /\
   wv.cell? ⟨G,i*2,none⟩=some (.int .i64 0)/\wv.cell? ⟨G,i*2+1,none⟩=some (.slice none 0 0)/\wv.frozen? ⟨G,i*2,none⟩=false/\wv.frozen? ⟨G,i*2+1,none⟩=false:=by
 have hbl:Below wr.heap.size wr wv:=⟨hgb.os,hgb.tape,hgb.output,hgb.size,fun k hk=>hgb.block k hk (fun e=>by cases e)⟩;have hG:=HR.base;have KR:=HR.fill h (v:=va) hob hbl (hnb.imp (fun e=>e.trans rfl) (fun e=>⟨_,e,Nat.le_refl _⟩));have KB:=(hbb.setCell (p:=⟨G,2*i,none⟩) hG (.int .i64 (i:Int))).setCell (p:=⟨G,2*i+1,none⟩) hG va;have hc:=(HR.below hbl).cell0 (Nat.le_refl _) h;have f0:=(HR.below hbl).frozen (i*2);have f1:=(HR.below hbl).frozen (i*2+1);rw[Nat.mul_comm 2 i]at KR KB hc;exact⟨⟨KR,KB⟩,hc.1,hc.2,f0,f1⟩
theorem sesPs_len {a d s:Int} {L:List Ses} {r:Nat} (hL:SesAll L) (hd:1<=d):∀{n:Nat},(∀m,m<n->contE d s L ((m:Int)+1)=0)->(sesPs a d s L r n).length<=n*140000
 |0,_=>Nat.le_refl _
 |n+1,h=>by
  have ih:=sesPs_len (a:=a) (r:=r) hL hd fun m hm=>h m (Nat.lt_succ_of_lt hm)
  have h1:(sesP a d s L r n).length<=140000:=by
   unfold sesP
   cases hx:L[n]? with
   |none=>exact Nat.zero_le _
   |some x=>
    dsimp only
    have hp:=contE_parts (h n (Nat.lt_succ_self n)) (x:=x) (by rw[<-hx];congr 1;omega)
    have hs:=rowsL_len2 (d:=d.toNat) (s:=s.toNat) (st:=x.str) (by omega) (hL n x hx).2.2
    rw[List.length_map,chks,chkF_len,reelL_len]
    omega
  rw[sesPs_succ,List.length_append,Nat.add_mul]
  omega
theorem rls_put {N i G lo1 hi1 lo2 hi2:Nat} {w2 W wv w5 w7:World} {X Y:Nat->List ByteArray} {rs:Nat->Value} {v va:Value} (ev:rs i=v) (HR:Rls N N w2 W G X rs) (h:i<N) (hob:OwnSeq strS 9 w2 wv va (Y i)) (hY:∀j,j<N->j≠i->Y j=X j) (hgb:W.grownBy wv v.ownBlock) (hnb:va.ownBlock=v.ownBlock∨va.ownBlock=some W.heap.size) (hbb:Below w2.heap.size w2 wv)
  (ha:Avoid N rs lo1 hi1) (ha2:Avoid N rs lo2 hi2) (hk:KeptR lo1 hi1 w5 W) (hk2:KeptR lo2 hi2 w7 W) (h12:hi1<=hi2) (hs:hi2<=W.heap.size) (hG1:G<lo1) (hG2:G<lo2):
  (Rls N N w2 (wv.setCell ⟨G,i*2+1,none⟩ va) G Y (fun j=>if j=i then va else rs j)/\Avoid N (fun j=>if j=i then va else rs j) lo1 hi1/\Avoid N (fun j=>if j=i then va else rs j) lo2 hi2/\KeptR lo1 hi1 w5 (wv.setCell ⟨G,i*2+1,none⟩ va)/\KeptR lo2 hi2 w7 (wv.setCell ⟨G,i*2+1,none⟩ va)/\hi2<=(wv.setCell ⟨G,i*2+1,none⟩ va).heap.size/\Below w2.heap.size w2 (wv.setCell ⟨G,i*2+1,none⟩ va)) /\
   wv.cell? ⟨G,i*2+1,none⟩=some v/\wv.frozen? ⟨G,i*2+1,none⟩=false:=by
 subst ev;have hc:=HR.grownCell h hgb;have KR:=HR.put h hob hY hgb hnb;have hset:=grown_set wv G (2*i+1) va;have hsz:=hgb.size;have hg1:∀b,(some G:Option Nat)=some b->b<lo1∨hi1<=b:=fun b e=>by cases e;exact .inl hG1
 have hg2:∀b,(some G:Option Nat)=some b->b<lo2∨hi2<=b:=fun b e=>by cases e;exact .inl hG2
 have r1:∀b,(rs i).ownBlock=some b->b<lo1∨hi1<=b:=fun b e=>ha i b h e;have r2:∀b,(rs i).ownBlock=some b->b<lo2∨hi2<=b:=fun b e=>ha2 i b h e;have q1:=((hk.grown (by omega) hgb r1).grown (by omega) hset hg1);have q2:=((hk2.grown hs hgb r2).grown (by omega) hset hg2);have q3:hi2<=(wv.setCell ⟨G,2*i+1,none⟩ va).heap.size:=by have:=hset.size;omega
 have q4:=hbb.setCell (p:=⟨G,2*i+1,none⟩) HR.base va;rw[Nat.mul_comm 2 i]at KR q1 q2 q3 q4;exact⟨⟨KR,ha.put h hnb (by omega),ha2.put h hnb hs,q1,q2,q3,q4⟩,hc⟩
theorem volreels_any (w:World) (a:Nat) (d s:Int) (v:Value) (L:List Ses) (x:ByteArray) (ha:a<4294967296) (hv:SeqAt sesS w v L) (hl:L.length<=255) (hL:SesAll L) (hx:x.size<=1000000) (hT:Tab w):
  Calls prog 16 #[.agg #[.int .u32 (a:Int),.int .i64 d,.int .i64 s,v],.string x] w fun e w'=>(∃vf,e=.returned (.tuple #[vf,.int .i64 (reelsE d s L x)])/\SeqAt reelS w' vf (reelsR a d s L x))/\Below w.heap.size w w':=by
 have hone:v.oneCell'=true:=hv.one;have Hv:=zY hv;have HL:=zY hL;have HT:=zY hT;have HSt:=zY (fun(W:World) (hW:Below w.heap.size w W)=>volstrips_any W a d s v hone x ha hx (hT.below hW));obtain⟨A,c,rfl,_,_⟩:=hv.slice;have hK:=Blk.new w 28 [.int .u32 (a:Int),.int .i64 d,.int .i64 s,.slice A L.length c];have HK:Hid (Blk (w.alloc (.cells #[.int .u32 (a:Int),.int .i64 d,.int .i64 s,.slice A L.length c] 28)) w.heap.size 28 [.int .u32 (a:Int),.int .i64 d,.int .i64 s,.slice A L.length c]):=zY hK;have HB0:=zY (zBl w (.cells #[.int .u32 (a:Int),.int .i64 d,.int .i64 s,.slice A L.length c] 28));obtain⟨E,hE⟩:=zNm (reelsE d s L x);obtain⟨R,hR⟩:=zNm (reelsR a d s L x);rw[hE,hR];have HRe:Hid (E≠0->R=[]):=zY (fun h=>by rw[<-hR,reelsR,if_neg (by rw[hE];exact h)]);have HRo:Hid (E=0->R=(List.range (d.toNat+s.toNat)).map (fun r=>(r,reelP a d s L x r L.length))):=zY (fun h=>by rw[<-hR,reelsR,if_pos (by rw[hE];exact h)]);have HE:=zY hE;obtain⟨nL,hnL⟩:=zNm (L.length);have HnL:=zY hnL;have hl2:nL<=255:=by omega
 clear hv hL hT hK hx hE hR;rw[hnL]at HK HB0 Hv HSt⊢;clear hnL hl;go_enter func16,ntmps16;go_upto_region 1 with fail;generalize w.alloc (.cells #[.int .u32 (a:Int),.int .i64 d,.int .i64 s,.slice A nL c] 28)=wa at *;have c1:=HK.c 1;have c2:=HK.c 2;go_wp2_with fail;refine(laycheck_any _ d s).mono ?_;rintro e1 w1 ⟨rfl,hb1⟩;have HK1:=zY (HK.kept hb1);have HB1:=zYt HB0 hb1;clear hb1 c1 c2 HK HB0;obtain⟨q,hq⟩:=zNm (layE d s);rw[hq];by_cases h0:q=0;{
 subst h0;have hds:1<=d/\d<=8/\0<=s/\s<=7:=by{
 by_cases hc:d<1∨8<d∨s<0∨7<s;{
 rw[layE,if_pos hc]at hq;cases hq};{omega}};have HE1:Hid (reelsE d s L x=if splitE x≠0 then splitE x else firstN (fun n=>contE d s L ((n:Int)+1)) L.length):=zY (by rw[reelsE,if_neg (by rw[hq];decide)]);have a0:=HK1.c 0;have a1:=HK1.c 1;have a2:=HK1.c 2;have a3:=HK1.c 3;clear hq;go_upto_region 4 with fail;go_wp2_with fail;refine(HSt.out _ HB1.out).mono ?_;rintro e2 w2 ⟨⟨vp,rfl,hp⟩,hb2⟩;have HK2:=zY (HK1.kept hb2);have HB2:=zYt HB1 hb2;have HP:=zY (hp.atF flatS hb2.size);obtain⟨Ap,cp,rfl⟩:=hp.slice;clear hp hb2 HK1 HB1 a0 a1 a2 a3 HSt;obtain⟨q,hq⟩:=zNm (splitE x);rw[hq]at HE1⊢;by_cases h1:q=0;{
 subst h1;have HE2:Hid (E=firstN (fun n=>contE d s L ((n:Int)+1)) L.length):=zY (by rw[<-HE.out,HE1.out,if_neg (by decide)]);have HS:Hid (stripR a x=stripsT a x):=zY (by rw[stripR,if_pos hq]);rw[HS.out]at HP⊢;have hSl:(stripsT a x).length<=20000:=by{
 have hs:x.size<=40000:=by unfold splitE at hq;split at hq;{cases hq};{omega}
 rw[stripsT,List.length_map,chks,chkF_len,plnsL,List.length_map,List.length_range];unfold plnT;omega};have HXP:Hid (∀r n,reelP a d s L x r n=stripsT a x++sesPs a d s L r n):=zY (fun _ _=>rfl);generalize stripsT a x=S at *;obtain⟨sl,hsl⟩:=zNm (S.length);have Hsl:=zY hsl;rw[hsl]at HP hSl⊢;obtain⟨N,hN⟩:=zNm (d.toNat+s.toNat);have HN:=zY hN;rw[hN]at HRo;have hdsI:d+s=N:=by omega
 have hN15:N<=15:=by omega
 have hN1:1<=N:=by omega
 have hdsw:IntKind.i64.wrap (d+s)=N:=by rw[hdsI];exact zIw (by omega)
 have hmk:=make_reels N (by omega) w2;have a1:=HK2.c 1;have a2:=HK2.c 2;have HSa:Hid (∀W,Below w2.heap.size w2 W->SrcAt strS w2 W (.slice Ap sl cp) S):=zY (fun W hW=>SrcAt.of HP.out hW);clear hsl hN hq HE1 HS HP;go_upto_region 8 with fail;have HR0:=zY (rls_new (w0:=w2) (W:=w2) (N:=N) (Nat.le_refl _) (fun _=>S) (fun _=>.slice none 0 0) rfl);have HBr0:=zY (zBl w2 (.cells ((List.replicate N [Value.int .i64 0,.slice none 0 0]).flatten).toArray 64));clear hmk a1 a2 hdsI hdsw;generalize w2.alloc (.cells ((List.replicate N [Value.int .i64 0,.slice none 0 0]).flatten).toArray 64)=w3 at *;obtain⟨G,hG⟩:=zNm (w2.heap.size);have HG:Hid (w2.heap.size<=G):=zY (by omega);rw[hG]at HR0⊢;clear hG;go_wp2;go_loopw [45] (fun y wr=>∃i:Nat,i<=N/\y=.int .i64 (i:Int)/\(∃rs,Rls N i w2 wr G (fun _=>S) rs)/\Below w2.heap.size w2 wr) (fun y _=>N-(intOf y).toNat);case atStart=>exact⟨0,by omega,rfl,⟨_,HR0.out⟩,HBr0.out⟩
 case round=>
 obtain⟨i,hi,rfl,⟨rs,hr⟩,hB⟩:=hrel;have HR:=zY hr;have HB:=zY hB;clear hr hB HR0 HBr0;by_cases h:i<N;{
 have hiI:(i:Int)<N:=by omega
 have HX:=zY (HSa.out _ HB.out);have Hl1:Hid (([]:List ByteArray).length+S.length<=100000000):=zY (by rw[Hsl.out];simp;omega);have HNil:Hid (OwnSeq strS 9 w2 wr (.slice none 0 0) []):=zY (OwnSeq.nil _);go_wp2_with (at_builtin;refine append_seqO (ρ:=strS) (w0:=w2) (xs:=[]) Tryz.elemStr rfl _ _ rfl rfl HNil.out rfl HX.out Hl1.out HB.out ?_;intro va wv hob hgb hnb hbb;obtain⟨Av,cv,e8⟩:=hob.slice;subst e8;obtain⟨hKR,z0,z1,f0,f1⟩:=rls_step HR.out h hob hgb hnb hbb;have KR:=zY hKR;clear hKR hob hgb hnb hbb);go_roundw;case rel=>exact⟨i+1,by omega,by go_num,⟨_,KR.out.1⟩,KR.out.2⟩
 case measure=>simp[intOf];omega};{
 obtain rfl:N=i:=by omega
 have hiI:¬((N:Nat):Int)<(N:Int):=by omega
 have HRx:Hid (∃rs,Rls N N w2 wr G (fun r=>reelP a d s L x r 0) rs):=zY ⟨_,HR.congr fun j _=>by rw[HXP.out,sesPs];simp⟩;have HXl0:Hid (∀r n,(reelP a d s L x r n).length<=20000+(sesPs (a:Int) d s L r n).length):=zY (fun r n=>by rw[HXP.out,List.length_append,Hsl.out];omega);have a3:=(HK2.kept HB.out).c 3;obtain⟨wy,rfl⟩:∃z,z=wr:=⟨_,rfl⟩;clear HR HSa HXP hSl Hsl hi h;go_wp2;clear a3;go_loopw [59] (fun y wr=>∃n:Nat,n<=nL/\y=.int .i64 (n:Int)/\(∃rs,Rls N N w2 wr G (fun r=>reelP a d s L x r n) rs)/\Below w2.heap.size w2 wr/\Hid (∀m,m<n->contE d s L ((m:Int)+1)=0)) (fun y _=>nL-(intOf y).toNat);case atStart=>exact⟨0,by omega,rfl,HRx.out,HB.out,zY (fun m hm=>by omega)⟩
 case round=>
 obtain⟨n,hn,rfl,⟨rs,hr⟩,hB,HZ⟩:=hrel;obtain⟨wn,rfl⟩:∃z,z=wr:=⟨_,rfl⟩;clear HRx HB;have HR:=zY hr;have HGn:=zY hr.lt;have HB:=zY hB;clear hr hB;by_cases h:n<nL;{
 have hnI:(n:Int)<nL:=by omega
 have hn1:IntKind.i64.wrap ((n:Int)+1)=(n:Int)+1:=zIw (by omega);have HBw:=zY (HB2.trans (HB.mono HB2.size));have HCo:=zY (contents_any wn (a:Int) d s _ L ((n:Int)+1) (Hv.below HBw.out) (by rw[HnL.out];omega) HL.out (HT.below HBw.out));have HKn:=zY (HK2.kept HB.out);have a0:=HKn.c 0;have a1:=HKn.c 1;have a2:=HKn.c 2;have a3:=HKn.c 3;go_upto_region 16 with fail;go_wp2_with fail;refine HCo.mono ?_;rintro e4 w4 ⟨⟨vpp,vss,st,P,Sx,rfl,hpo,hso,hok⟩,hb4⟩;obtain⟨A5,c5,rfl⟩:=hpo.slice;obtain⟨A6,c6,rfl⟩:=hso.slice;have HPo:=zY hpo;have HSo:=zY hso;have HOk:=zY hok;have HB4:=zY hb4;obtain⟨k,hk⟩:=zNm (contE d s L ((n:Int)+1));rw[hk]at HOk⊢;have Hk:=zY hk;obtain⟨np,hnp⟩:=zNm (P.length);obtain⟨ns,hns⟩:=zNm (Sx.length);rw[hnp]at HPo⊢;rw[hns]at HSo⊢;have Hnp:=zY (And.intro hnp hns);clear hpo hso hok hb4 hk hnp hns a0 a1 a2 a3 HCo HKn;go_upto_region 17 with fail;have HC0:=zY (Blk.new w4 98 [.slice A5 np c5,.slice A6 ns c6,.string st]);have HC:Hid (Blk (w4.alloc (.cells #[.slice A5 np c5,.slice A6 ns c6,.string st] 98)) w4.heap.size 98 [.slice A5 np c5,.slice A6 ns c6,.string st]):=zY HC0.out;have HB5n:=zY (HB4.alloc HB4.size (.cells #[.slice A5 np c5,.slice A6 ns c6,.string st] 98));have HPo:=zY (HPo.alloc (.cells #[.slice A5 np c5,.slice A6 ns c6,.string st] 98));have HSo:=zY (HSo.kept (zBl w4 (.cells #[.slice A5 np c5,.slice A6 ns c6,.string st] 98)));have H4n:Hid (wn.heap.size<=w4.heap.size):=zY HB4.size;clear HC0 HB4;generalize w4.alloc (.cells #[.slice A5 np c5,.slice A6 ns c6,.string st] 98)=w5 at *;have HB5:=zY (HB.trans (HB5n.mono HB.size));have HR5:=zY (HR.below HB5n.out)
 have HAv:=zY (HR.avoid w5.heap.size);by_cases hk0:k=0;{
 subst hk0;obtain⟨xx,_,_,_,_,_,_,hxx,hP,hSx,hst⟩:=HOk.out rfl;have hxx:L[n]?=some xx:=by rw[<-hxx];congr 1;omega
 have Hxx:=zY hxx;have hxz:=(HL.out n xx hxx).2.2;have hPl:P.length<=65536:=by rw[hP];exact contE_parts Hk.out (by rw[<-hxx];congr 1;omega)
 have HPl:=zY hPl;have HSl:Hid (Sx.length<=65536):=zY (by rw[hSx];exact rowsL_len2 (by omega) hxz);have HPz:Hid (∀p∈P,p.size<=28):=zY (by rw[hP];exact partsB_size _);have HSm:Hid (∀y∈Sx,y.length=N):=zY (fun y hy=>by rw[hSx]at hy;rw[rowsL_mem hy];exact HN.out);have HFo:Hid (∀i,i<N->∀f∈reelL (a:Int) d s ((n:Int)+1) i P Sx st,FrmOk f):=zY (fun i hi=>by
  rw[hP,hSx,hst]
  exact reel_ok ⟨by omega,by omega⟩ ⟨hds.1,hds.2.1⟩ ⟨hds.2.2.1,hds.2.2.2⟩ (by rw[HN.out];exact hi) ⟨by omega,by omega⟩ (by rw[<-hP];exact hPl) hxz);have HSP:Hid (∀i,sesP (a:Int) d s L i n=(chks 8 (reelL (a:Int) d s ((n:Int)+1) i P Sx st)).map fun g=>strB (celsL g)):=zY (fun i=>by rw[sesP,hxx,hP,hSx,hst]);have HZ1:Hid (∀m,m<n+1->contE d s L ((m:Int)+1)=0):=zY (fun m hm=>by
  by_cases e:m=n
  ·subst e;exact Hk.out
  ·exact HZ.out m (by omega));have hstz:st.size<=1000000000:=by rw[hst];omega
 have HXs:Hid (∀r,reelP a d s L x r (n+1)=reelP a d s L x r n++sesP a d s L r n):=zY (fun r=>by rw[reelP,reelP,sesPs_succ,List.append_assoc]);have hone1:(Value.slice A nL c).oneCell'=true:=rfl;have HOn:Hid (∀(V:World) (i:Nat),i<N->SeqAt strS V (.slice A5 np c5) P->SeqAt rowS V (.slice A6 ns c6) Sx->Calls prog 39 #[.agg #[.int .u32 (a:Int),.int .i64 d,.int .i64 s,.slice A nL c],.int .i64 ((n:Int)+1),.int .i64 (i:Int),.agg #[.slice A5 np c5,.slice A6 ns c6,.string st]] V fun e w'=>RetSeq frmS 49 V w' (reelL (a:Int) d s ((n:Int)+1) i P Sx st) e/\Below V.heap.size V w'):=zY (fun V i hi h1 h2=>onreel_any V (a:Int) d s ((n:Int)+1) i _ _ _ st P Sx hone1 h1 h2 hPl HPz.out (by have:=HSl.out;omega) (fun y hy=>by rw[HSm.out y hy];exact hi) ⟨hds.1,hds.2.1⟩ (by omega) hstz);have HFl:Hid (∀i,(reelL (a:Int) d s ((n:Int)+1) i P Sx st).length<=200000):=zY (fun i=>by rw[reelL_len];have:=HSl.out;omega);clear hxx hP hSx hst hxz hPl hstz hone1 HOk HZ;go_upto_region 19 with fail;go_wp2;go_loopw [74] (fun y wr=>∃i:Nat,i<=N/\y=.int .i64 (i:Int)/\(∃rs,Rls N N w2 wr G (fun j=>if j<i then reelP a d s L x j (n+1) else reelP a d s L x j n) rs/\Avoid N rs wn.heap.size w5.heap.size)/\KeptR wn.heap.size w5.heap.size w5 wr/\w5.heap.size<=wr.heap.size/\Below w2.heap.size w2 wr) (fun y _=>N-(intOf y).toNat);case atStart=>exact⟨0,by omega,rfl,⟨_,HR5.congr (fun j _=>by rw[if_neg (by omega)]),HAv.out⟩,KeptR.refl _ _ _,Nat.le_refl _,HB5.out⟩
 case round=>
 obtain⟨i,hi,rfl,⟨rs,hr,hav⟩,hkp,hsz,hB⟩:=hrel;obtain⟨wi,rfl⟩:∃z,z=wr:=⟨_,rfl⟩;clear HR HR5 HAv HB HB5;have HR:=zY hr;have HGi:=zY hr.lt;have HAv:=zY hav;have HKp:=zY hkp;have HSz:=zY hsz;have HB:=zY hB;clear hr hav hkp hsz hB;by_cases h':i<N;{
 have hiI:(i:Int)<N:=by omega
 have hnw:wn.heap.size<=wi.heap.size:=by have:=HSz.out;have:=HB5n.size;omega
 have HPi:Hid (SeqAt strS wi (.slice A5 np c5) P):=zY ((HPo.stay fun k o h1 ho _=>(HKp.out k h1 (Array.getElem?_eq_some_iff.1 ho).1).trans ho).atF flatS hnw);have HSi:Hid (SeqAt rowS wi (.slice A6 ns c6) Sx):=zY ((HSo.stay fun k o h1 ho _=>(HKp.out k h1 (Array.getElem?_eq_some_iff.1 ho).1).trans ho).at hnw);have HCi:=zY (HC.of_heap (HKp.out w4.heap.size H4n.out HC.lt));have HKi:=zY (HK2.kept HB.out);have HCl:=zY (HOn.out wi i h' HPi.out HSi.out);have HFi:=zY (HFo.out i h');have HFli:=zY (HFl.out i);have HSPi:=zY (HSP.out i);obtain⟨F,hF⟩:=zNm (reelL (a:Int) d s ((n:Int)+1) i P Sx st);rw[hF]at HCl HFi HFli HSPi;have a0:=HKi.c 0;have a1:=HKi.c 1;have a2:=HKi.c 2;have a3:=HKi.c 3;have k0:=HCi.c 0;have k1:=HCi.c 1;have k2:=HCi.c 2;clear hF hnw HPi HSi HCi HKi;go_upto_region 22 with fail;go_wp2_with fail;refine HCl.mono ?_;rintro e6 w6 ⟨⟨vf,rfl,hf⟩,hb6⟩;have HGr:=zY (groupsF_any w6 vf F 8 (by omega) (hf.at hb6) wi.heap.size (fun b o n c e=>by subst e;exact hf.ge b rfl) (by have:=HFli.out;omega));have HB6:=zY hb6;clear hf hb6 a0 a1 a2 a3 k0 k1 k2 HCl;go_wp2_with fail;refine HGr.mono ?_;rintro e7 w7 ⟨⟨vg,rfl,hg⟩,hb7⟩;obtain⟨Ag,cg,rfl⟩:=hg.slice;have HG7:=zY hg;have HB7:=zY hb7;have HBi7:=zYt HB6 hb7;have HQm:Hid (∀g∈chks 8 F,(∀f∈g,FrmOk f)/\g.length<=8):=zY (fun g hg=>⟨fun f hf=>HFi.out f ((chks_mem hg).1 f hf),(chks_mem hg).2⟩);have hQl:(chks 8 F).length<=300000:=by rw[chks,chkF_len];have:=HFli.out;omega
 generalize chks 8 F=Q at *;obtain⟨m,hm⟩:=zNm (Q.length);have Hm:=zY hm;rw[hm]at HG7 hQl⊢;have HR7:=zY (HR.below HBi7.out);have HAv2:=zY (HR.avoid w7.heap.size);have HKp7:=zY (HKp.below HSz.out HBi7.out);have HB7w:=zY (HB.trans (HBi7.mono HB.size));have HSz7:Hid (w5.heap.size<=w7.heap.size):=zY (by have:=HSz.out;have:=HBi7.size;omega);have Hi6:Hid (wi.heap.size<=w6.heap.size):=zY HB6.size;have HXl:Hid (∀r,(reelP a d s L x r n).length<=90000000):=zY (fun r=>by
  have h1:=HXl0.out r n
  have h2:=sesPs_len (a:=(a:Int)) (r:=r) HL.out hds.1 (n:=n) fun m hm=>HZ1.out m (by omega)
  have h3:n*140000<=255*140000:=Nat.mul_le_mul_right _ (by omega)
  omega);obtain⟨PC,hPC⟩:=zNm ((Q.map fun g=>strB (celsL g)));have HPC:=zY hPC;rw[hPC]at HSPi;clear hg hb7 hm hPC HGr HFi HFli HB6 HKp HSz HBi7;go_wp2;go_loopw [85] (fun y wr=>∃k:Nat,k<=m/\y=.int .i64 (k:Int)/\(∃rs,Rls N N w2 wr G (fun j=>if j=i then reelP a d s L x i n++PC.take k else if j<i then reelP a d s L x j (n+1) else reelP a d s L x j n) rs/\Avoid N rs wn.heap.size w5.heap.size/\Avoid N rs wi.heap.size w7.heap.size)/\KeptR wn.heap.size w5.heap.size w5 wr/\KeptR wi.heap.size w7.heap.size w7 wr/\w7.heap.size<=wr.heap.size/\Below w2.heap.size w2 wr) (fun y _=>m-(intOf y).toNat);case atStart=>exact⟨0,by omega,rfl,⟨_,HR7.congr (fun j _=>by
  by_cases e:j=i
  ·subst e;rw[if_neg (by omega),if_pos rfl,List.take_zero,List.append_nil]
  ·rw[if_neg e]),HAv.out,HAv2.out⟩,HKp7.out,KeptR.refl _ _ _,Nat.le_refl _,HB7w.out⟩
 case round=>
 obtain⟨k,hk,rfl,⟨rs,hr,hav,hav2⟩,hkp,hkp2,hsz,hB⟩:=hrel;obtain⟨wk,rfl⟩:∃z,z=wr:=⟨_,rfl⟩;clear HR HR7 HAv HAv2 HKp7 HB HB7w;have HR:=zY hr;have HAv:=zY hav;have HAv2:=zY hav2;have HKp:=zY hkp;have HKp2:=zY hkp2;have HSz:=zY hsz;have HB:=zY hB;clear hr hav hav2 hkp hkp2 hsz hB;by_cases h9:k<m;{
 have hkI:(k:Int)<m:=by omega
 obtain⟨g,hg⟩:∃g,Q[k]?=some g:=⟨_,List.getElem?_eq_getElem (by rw[Hm.out];exact h9)⟩;obtain⟨_,_,e9,h4⟩:=(HG7.stay (W':=wk) fun q o h1 ho _=>(HKp2.out q (by have:=Hi6.out;omega) (Array.getElem?_eq_some_iff.1 ho).1).trans ho).src;cases e9;obtain⟨b,o,cs,rfl,⟨vi,rfl,hvi,hup⟩,hc⟩:=h4 k g hg;have k0:wk.cell? ⟨b,o+k,none⟩=some vi:=by have:=hc 0 _ rfl;rwa [show o+k*(rowO frmS wi.heap.size).n+0=o+k by show o+k*1+0=o+k;omega]at this
 have hvk:SeqAt frmS wk vi g:=SeqAt.range flatFrm (hvi.below HB7.out) hup HKp2.out;obtain⟨hok,hg8⟩:=HQm.out g (List.mem_of_getElem? hg);have HJ:=zY (scjoin_ok wk vi g hvk (by omega) hok);obtain⟨Ai,ci,rfl,_,_⟩:=hvi.slice;obtain⟨C,hC⟩:=zNm (strB (celsL g));rw[hC]at HJ;have HF:Hid (PC.take (k+1)=PC.take k++[C]):=zY (by rw[<-HPC.out,List.take_add_one,List.getElem?_map,hg,<-hC];rfl);obtain⟨gl,hgl⟩:=zNm (g.length);rw[hgl]at HJ k0;clear hc h4 hg hvi hup hvk hok hg8 hC hgl;go_upto_region 25 with fail;go_wp2_with fail;refine HJ.mono ?_;rintro e8 w8 ⟨rfl,hb8⟩;have HR8:=zY (HR.below hb8);have HKp8:=zY (HKp.below (by have:=HSz.out;have:=HSz7.out;omega) hb8);have HKq8:=zY (HKp2.below HSz.out hb8);have HB8:=zYt HB hb8;have HSz8:Hid (w7.heap.size<=w8.heap.size):=zY (by have:=HSz.out;have:=hb8.size;omega);have ho:OwnSeq strS 9 w2 w8 (rs i) (reelP a d s L x i n++PC.take k):=by have h1:=HR8.own i h';rwa [if_pos rfl]at h1
 obtain⟨no,hno⟩:=zNm ((reelP a d s L x i n++PC.take k).length);obtain⟨Av,cv,ev⟩:=ho.slice;rw[hno]at ev;have hcc:=(HR8.cell h').2;rw[ev,Nat.mul_comm 2 i]at hcc;rw[ev]at ho;have Hev:=zY ev;have HO9:=zY (ho.alloc (.cells #[.string C] 9));have hb9:=zBl w8 (.cells #[.string C] 9);have HR9:=zY (HR8.below hb9);have HKp9:=zY (HKp8.below (by have:=HSz8.out;have:=HSz7.out;omega) hb9);have HKq9:=zY (HKq8.below HSz8.out hb9);have HB9:=zY (HB8.alloc HB8.size (.cells #[.string C] 9));have HX9:Hid (SrcAt strS w2 (w8.alloc (.cells #[.string C] 9)) (.slice (some ⟨w8.heap.size,0,none⟩) 1 1) [C]):=zY (src1 (ρ:=strS) (wr:=w8) [.string C] C rfl rfl);have HSz9:Hid (w7.heap.size<=(w8.alloc (.cells #[.string C] 9)).heap.size):=zY (by rw[World.size_alloc];have:=HSz8.out;omega);have Hl1:Hid ((reelP a d s L x i n++PC.take k).length+[C].length<=100000000):=zY (by
  have h1:=HXl.out i
  have h2:(PC.take k).length<=k:=List.length_take_le _ _
  rw[List.length_append]
  show _+1<=_
  omega);clear hb8 hb9 ho ev HR8 HKp8 HKq8 HB8 HSz8 HJ k0 hno;go_wp2_with (at_builtin;refine append_seqO (ρ:=strS) (w0:=w2) Tryz.elemStr rfl _ _ rfl rfl HO9.out rfl HX9.out Hl1.out HB9.out ?_;intro va wv hob hgb hnb hbb;obtain⟨Aw,cw,e8⟩:=hob.slice;obtain⟨nz,hnz⟩:=zNm ((reelP a d s L x i n++PC.take k++[C]).length);rw[hnz]at e8;clear hnz;subst e8;obtain⟨hKR,z1,f1⟩:=rls_put (Y:=fun j=>if j=i then reelP a d s L x i n++PC.take (k+1) else if j<i then reelP a d s L x j (n+1) else reelP a d s L x j n) Hev.out HR9.out h' (by rw[if_pos rfl,HF.out,<-List.append_assoc];exact hob) (fun j _ e=>by rw[if_neg e,if_neg e]) hgb hnb hbb HAv.out HAv2.out HKp9.out HKq9.out HSz7.out HSz9.out HGn.out HGi.out;have KR:=zY hKR;clear hKR hob hgb hnb hbb);go_roundw;case rel=>exact⟨k+1,by omega,by go_num,⟨_,KR.out.1,KR.out.2.1,KR.out.2.2.1⟩,KR.out.2.2.2.1,KR.out.2.2.2.2.1,KR.out.2.2.2.2.2.1,KR.out.2.2.2.2.2.2⟩
 case measure=>simp[intOf];omega};{
 obtain rfl:m=k:=by omega
 have hkI:¬((m:Nat):Int)<(m:Int):=by omega
 have hall:PC.take m=PC:=List.take_of_length_le (by rw[<-HPC.out,List.length_map,Hm.out];exact Nat.le_refl _);have HRf:Hid (Rls N N w2 wk G (fun j=>if j<i+1 then reelP a d s L x j (n+1) else reelP a d s L x j n) rs):=zY (HR.congr fun j _=>by
  by_cases e:j=i
  ·subst e;rw[if_pos rfl,if_pos (by omega),HXs.out,hall,HSPi.out]
  ·rw[if_neg e]
   by_cases e2:j<i
   ·rw[if_pos e2,if_pos (by omega)]
   ·rw[if_neg e2,if_neg (by omega)]);clear hall;go_wp2;go_roundw;case rel=>exact⟨i+1,by omega,by go_num,⟨_,HRf.out,HAv.out⟩,HKp.out,by have:=HSz.out;have:=HSz7.out;omega,HB.out⟩
 case measure=>simp[intOf];omega}};{
 obtain rfl:N=i:=by omega
 have hiI:¬((N:Nat):Int)<(N:Int):=by omega
 have HRf:Hid (∃rs,Rls N N w2 wi G (fun r=>reelP a d s L x r (n+1)) rs):=zY ⟨_,HR.congr fun j hj=>by rw[if_pos hj]⟩;go_wp2;go_roundw;case rel=>exact⟨n+1,by omega,by go_num,HRf.out,HB.out,HZ1⟩
 case measure=>simp[intOf];omega}};{
 have hk0b:(k==0)=false:=by rw[beq_eq_false_iff_ne];exact hk0
 have hEk:E=k:=by rw[HE2.out,firstN_at (m:=n) HZ.out (by rw[Hk.out];exact hk0) (by rw[HnL.out];exact h)];exact Hk.out
 obtain rfl:=hEk;have HF:=zY (HRe.out hk0);clear HE2 HE HOk Hk;go_wp2;go_ret2;exact⟨⟨_,rfl,by rw[HF.out];exact SeqAt.nil _⟩,HB2.trans (HB5.mono HB2.size)⟩}};{
 obtain rfl:nL=n:=by omega
 have hnI:¬((nL:Nat):Int)<(nL:Int):=by omega
 have hE0:E=0:=by rw[HE2.out];exact firstN_zero (by rw[HnL.out];exact HZ.out)
 have HF:=zY (HRo.out hE0);subst hE0;have HSq:=zY (HR.at HB.size (by omega));clear HE2 HE;go_wp2;go_ret2;exact⟨⟨_,rfl,by rw[HF.out,HnL.out];exact HSq.out⟩,HB2.trans (HB.mono HB2.size)⟩}}};{
 have h1b:(q==0)=false:=by rw[beq_eq_false_iff_ne];exact h1
 obtain rfl:q=E:=by rw[<-HE.out,HE1.out,if_pos h1]
 have HF:=zY (HRe.out h1);clear hq HE1 HE;go_wp2;go_ret2;exact⟨⟨_,rfl,by rw[HF.out];exact SeqAt.nil _⟩,HB2.out⟩}};{
 have h0b:(q==0)=false:=by rw[beq_eq_false_iff_ne];exact h0
 obtain rfl:q=E:=by rw[<-HE.out,reelsE,hq,if_pos h0]
 have HF:=zY (HRe.out h0);clear hq HE;go_wp2;go_ret2;exact⟨⟨_,rfl,by rw[HF.out];exact SeqAt.nil _⟩,HB1.out⟩}
theorem volpieces_any (w:World) (v:Value) (rs:List (Nat×List ByteArray)) (hv:SeqAt reelS w v rs) (ht:(rs.flatMap (·.2)).length<=1000000):
  Calls prog 35 #[v] w fun e w'=>∃v',e=.returned v'/\SeqAt strS w' v' (rs.flatMap (·.2))/\Below w.heap.size w w':=by
 have HV:=zY hv;obtain⟨A,c,rfl,_,_⟩:=hv.slice;clear hv;have HO0:=zY (OwnSeq.nil (ρ:=strS) (t:=9) (w0:=w) w);go_enter func35,ntmps35;go_wp2;go_loopw [3,8] (fun u x wr=>∃k:Nat,k<=rs.length/\x=.int .i64 (k:Int)/\OwnSeq strS 9 w wr u ((rs.take k).flatMap (·.2))/\Below w.heap.size w wr) (fun _ x _=>rs.length-(intOf x).toNat);case atStart=>exact⟨0,by omega,rfl,HO0.out,Below.refl _ _⟩
 case round=>
 obtain⟨k,hk,rfl,ho,hB⟩:=hrel;have HO:=zY ho;have HB:=zY hB;clear ho hB HO0;by_cases h:k<rs.length;{
 have hkI:(k:Int)<rs.length:=by omega
 obtain⟨x,hx⟩:∃x,rs[k]?=some x:=⟨_,List.getElem?_eq_getElem h⟩;obtain⟨_,_,e9,_,_,h4⟩:=HV.out;cases e9;obtain⟨b,o,cs,rfl,⟨u,rfl,hu⟩,hc⟩:=h4 k x hx;have hsn:(rs.take (k+1)).flatMap (·.2)=(rs.take k).flatMap (·.2)++x.2:=by rw[List.take_succ_eq_append_getElem h,(List.getElem?_eq_some_iff.1 hx).2,List.flatMap_append];simp
 have hle:((rs.take (k+1)).flatMap (·.2)).length<=1000000:=by{
 refine Nat.le_trans ?_ ht;conv=>rhs;rw[<-List.take_append_drop (k+1) rs,List.flatMap_append,List.length_append]
 omega};rw[hsn,List.length_append]at hle;have HSn:=zY hsn;have HU:=zY hu;obtain⟨n,ps⟩:=x;have c0:wr.cell? ⟨b,o+k*2,none⟩=some (.int .i64 (n:Int)):=cell_below HB.out (hc 0 _ rfl);have c1:wr.cell? ⟨b,o+k*2+1,none⟩=some u:=cell_below HB.out (hc 1 _ rfl);obtain⟨U,cu,rfl,_,_⟩:=hu.slice;dsimp only at c1 HU;dsimp only at hle HU HSn;clear hsn hx h4 hc hu;generalize (rs.take k).flatMap (·.2)=F at *;have hlen:F.length+ps.length<=100000000:=by omega
 clear hle;go_wp2_with (at_builtin;refine append_seq (w0:=w) (us:=ps) Tryz.elemStr rfl _ _ rfl rfl (HO.alloc _) rfl (SrcAt.of HU.out (HB.alloc HB.size _)) hlen (HB.alloc HB.size _) ?_;intro va wa hob _ hbb;have KU:=zY hob;have KB:=zY hbb;clear hob hbb);go_roundw;case rel=>exact⟨k+1,by omega,by go_num,by rw[HSn.out];exact KU.out,KB.out⟩
 case measure=>simp[intOf];omega};{
 have hkI:¬(k:Int)<rs.length:=by omega
 have ho:=HO.out;rw[List.take_of_length_le (by omega)]at ho;have HQ:=zY (ho.at HB.out);clear ho;go_wp2;go_ret;exact⟨_,rfl,HQ.out,HB.out⟩}
theorem padL_ten {n v k:Nat} (h:v<10^(k+1)) (hk:k+1<=n):(padL n v).length=n:=by
 rw[padL,List.length_append,List.length_replicate];have:=digD_len k v h;omega
theorem plnL_size {a i t:Nat} {x:ByteArray} (h:PlnOk a i t x):(plnL a i t x).length=768:=by
 have h1:(textL a i t x).length=84:=by simp only[textL,List.length_append,bs_len];have q1:=h.ha;have q2:=h.it;have q3:=h.ht;have p1:=padL_ten (n:=10) (v:=a) (k:=9) (by omega) (by omega);have p2:=padL_ten (n:=5) (v:=i) (k:=4) (by omega) (by omega);have p3:=padL_ten (n:=5) (v:=t) (k:=4) (by omega) (by omega);have p4:=h.hx;omega
 have h2:(sealL (textL a i t x)).length=94:=by rw[sealL,List.length_append,h1,padL_ten (k:=9) (by have:=sumL_lt [strB (textL a i t x)];omega) (by omega)]
 rw[plnL,List.length_append,frmB_len,h2];rfl
theorem chks_one {α:Type} {k:Nat} {l:List α} (h:0<l.length) (h2:l.length<=k):chks k l=[l]:=by
 have e:(l.length+k-1)/k=1:=by rw[Nat.div_eq_iff (by omega)];omega
 rw[chks,e,chkF];show [(l.drop (k*0)).take k]=[l];rw[Nat.mul_zero,List.drop_zero,List.take_of_length_le h2]
def ses0:Ses:=⟨1,0,⟨#[]⟩,[],⟨#[]⟩,⟨#[]⟩⟩
theorem ses0_dir:(dirL ses0).length=58:=by
 have h1:(digL (bs (⟨#[]⟩:ByteArray))).length=32:=digL_len _;have h2:∀l:List Nat,l.length=32->(nstL l).length=36:=fun l h=>by
  have d:(digD 32).length=2:=by simp[digD_great,digD_small]
  simp only[nstL,List.length_append,h,d]
  rfl
 have h3:(nstL (bs (strB (digL (bs (⟨#[]⟩:ByteArray)))))).length=36:=h2 _ (by rw[bs_len,strB_size,h1]);have h4:(restL ses0).length=50:=by{
 show (numL 1++numL 0++nstL []++(numL 0++nstL (bs (strB (digL (bs (⟨#[]⟩:ByteArray)))))++numL 0)++[]++nstL []).length=50;have e1:(nstL ([]:List Nat)).length=3:=by simp[nstL,digD_small]
 have e2:(numL 0).length=2:=by simp[numL,digD_small]
 have e3:(numL 1).length=2:=by simp[numL,digD_small]
 simp only[List.length_append,h3,e1,e2,e3,List.length_nil]};rw[dirL,List.length_append,dig8_len,h4]
theorem ses0_parts:(partsB (strB (dirL ses0))).length=3:=by
 rw[partsB,List.length_map,List.length_range,strB_size,ses0_dir]
theorem ses0_cont:contE 1 0 [ses0] 1=0:=by
 unfold contE;rw[if_neg (by decide),if_neg (by decide)];show (if 65536<(partsB (strB (dirL ses0))).length then (6:Int) else 0)=0;rw[ses0_parts];rfl
theorem ses0_all:SesAll [ses0]:=by
 intro i x h;match i,h with
 |0,h=>
 cases h;exact⟨rfl,⟨by decide,by decide,.inl rfl,by decide,by decide,fun e he=>(by cases he),by decide⟩,by decide⟩
theorem ses0_frames:(framesF 7 1 0 [ses0] 1).length=3:=by
 rw[framesF_ok ses0_cont (x:=ses0) rfl];show ([reelL 7 1 0 1 0 (partsB (strB (dirL ses0))) (rowsL 1 0 ⟨#[]⟩) ⟨#[]⟩].flatten).length=3;rw[List.flatten_cons,List.flatten_nil,List.append_nil,reelL_len,ses0_parts];rfl
theorem dollar_ok:splitE ⟨#[36]⟩=0:=by decide
theorem ses0_reelsE:reelsE 1 0 [ses0] ⟨#[36]⟩=0:=by
 rw[reelsE,if_neg (by decide),dollar_ok,if_neg (by decide)];show firstN _ 1=0;exact firstN_zero fun m hm=>by
  obtain rfl:m=0:=by omega
  exact ses0_cont
theorem ses0_reels:∃p1 p2:ByteArray,reelsR 7 1 0 [ses0] ⟨#[36]⟩=[(0,[p1,p2])]/\p1.size=768/\p2.size=2556:=by
 rw[reelsR,if_pos ses0_reelsE];have hp:stripsT 7 ⟨#[36]⟩=[strB (plnL 7 0 1 (plnAt 7 ⟨#[36]⟩ 0).x)]:=by have e:plnsL 7 ⟨#[36]⟩=[plnAt 7 ⟨#[36]⟩ 0]:=rfl;rw[stripsT,e,chks_one (by decide) (by decide)];show [strB (plCells [plnAt 7 ⟨#[36]⟩ 0])]=_;rw[plCells,List.flatMap_cons,List.flatMap_nil,List.append_nil];rfl
 have hz:(plnL 7 0 1 (plnAt 7 ⟨#[36]⟩ 0).x).length=768:=plnL_size (plnAt_ok (by decide) dollar_ok (by decide));obtain⟨F,hF⟩:=zNm (reelL 7 1 0 1 0 (partsB (strB (dirL ses0))) (rowsL 1 0 ⟨#[]⟩) ⟨#[]⟩);have hFl:F.length=3:=by rw[<-hF,reelL_len,ses0_parts];rfl
 have hs:sesPs 7 1 0 [ses0] 0 1=[strB (celsL F)]:=by show [sesP 7 1 0 [ses0] 0 0].flatten=_;have e:sesP 7 1 0 [ses0] 0 0=(chks 8 (reelL 7 1 0 1 0 (partsB (strB (dirL ses0))) (rowsL 1 0 ⟨#[]⟩) ⟨#[]⟩)).map fun g=>strB (celsL g):=rfl;rw[e,hF,chks_one (by omega) (by omega)];rfl
 refine⟨strB (plnL 7 0 1 (plnAt 7 ⟨#[36]⟩ 0).x),strB (celsL F),?_,by rw[strB_size,hz],by rw[strB_size,celsL_len,hFl]⟩;show [(0,stripsT 7 ⟨#[36]⟩++sesPs 7 1 0 [ses0] 0 1)]=_;rw[hp,hs];rfl
theorem seq_two {W:World} {v:Value} {p1 p2:ByteArray} (h:SeqAt strS W v [p1,p2]):∃b o c,v=.slice (some ⟨b,o,none⟩) 2 c/\W.cell? ⟨b,o,none⟩=some (.string p1)/\W.cell? ⟨b,o+1,none⟩=some (.string p2):=by
 obtain⟨A,c,rfl,_,_,h3⟩:=h;obtain⟨b,o,cs,rfl,rfl,h4⟩:=h3 0 p1 rfl;obtain⟨b',o',cs',e,rfl,h5⟩:=h3 1 p2 rfl;cases e;have c0:=h4 0 _ rfl;have c1:=h5 0 _ rfl;exact⟨b,o,c,rfl,by rwa [show o+0*strS.n+0=o by omega]at c0,by rwa [show o+1*strS.n+0=o+1 from rfl]at c1⟩
theorem reel_one {W:World} {v:Value} {r:Nat} {ps:List ByteArray} (h:SeqAt reelS W v [(r,ps)]):∃b o c u,v=.slice (some ⟨b,o,none⟩) 1 c/\W.cell? ⟨b,o+1,none⟩=some u/\SeqAt strS W u ps:=by
 obtain⟨A,c,rfl,_,_,h3⟩:=h;obtain⟨b,o,cs,rfl,⟨u,rfl,hu⟩,h4⟩:=h3 0 _ rfl;have c1:=h4 1 _ rfl;exact⟨b,o,c,u,rfl,by rwa [show o+0*reelS.n+1=o+1 by omega]at c1,hu⟩
theorem awake43_any (w:World) (hT:Tab w):Calls prog 12 #[] w fun e w'=>e=.returned (.bool true)/\Below w.heap.size w w':=by
 have HT:=zY hT;have hS:=Blk.new w 45 [.int .i64 1,.int .i64 0,.string ⟨#[]⟩,.slice none 0 0,.string ⟨#[]⟩,.string ⟨#[]⟩];have HB1:=zBl w (.cells #[.int .i64 1,.int .i64 0,.string ⟨#[]⟩,.slice none 0 0,.string ⟨#[]⟩,.string ⟨#[]⟩] 45);obtain⟨w1,hw1⟩:=zNm (w.alloc (.cells #[.int .i64 1,.int .i64 0,.string ⟨#[]⟩,.slice none 0 0,.string ⟨#[]⟩,.string ⟨#[]⟩] 45));change Blk (w.alloc (.cells #[.int .i64 1,.int .i64 0,.string ⟨#[]⟩,.slice none 0 0,.string ⟨#[]⟩,.string ⟨#[]⟩] 45)) _ _ _ at hS;rw[hw1]at hS HB1;have hq:SeqAt sesS w1 (.slice (some ⟨w.heap.size,0,none⟩) 1 1) [ses0]:=by{
 refine⟨_,1,rfl,Nat.le_refl _,by omega,fun i x hx=>?_⟩;match i,hx with
 |0,hx=>
 cases hx;exact⟨w.heap.size,0,_,rfl,⟨.slice none 0 0,rfl,SeqAt.nil _⟩,fun j u hu=>by rw[show 0+0*sesS.n+j=j by omega];exact hS.cell hu⟩};have hK:=Blk.new w1 28 [.int .u32 7,.int .i64 1,.int .i64 0,.slice (some ⟨w.heap.size,0,none⟩) 1 1];have HK:Hid (Blk (w1.alloc (.cells #[.int .u32 7,.int .i64 1,.int .i64 0,.slice (some ⟨w.heap.size,0,none⟩) 1 1] 28)) w1.heap.size 28 [.int .u32 7,.int .i64 1,.int .i64 0,.slice (some ⟨w.heap.size,0,none⟩) 1 1]):=zY hK;have HB2:=zY (HB1.alloc HB1.size (.cells #[.int .u32 7,.int .i64 1,.int .i64 0,.slice (some ⟨w.heap.size,0,none⟩) 1 1] 28));have HQ:=zY (hq.below (zBl w1 (.cells #[.int .u32 7,.int .i64 1,.int .i64 0,.slice (some ⟨w.heap.size,0,none⟩) 1 1] 28)));have hs1:w1.heap.size=w.heap.size+1:=by rw[<-hw1,World.size_alloc]
 clear hT hS HB1 hq hK;go_enter func12,ntmps12;go_upto_region 2 with fail;(try rw[hw1]);rw[hs1]at HK;generalize w1.alloc (.cells #[.int .u32 7,.int .i64 1,.int .i64 0,.slice (some ⟨w.heap.size,0,none⟩) 1 1] 28)=w2 at *;have HT2:=zY (HT.below HB2.out);have HRl:=zY (volreels_any w2 7 1 0 _ [ses0] ⟨#[36]⟩ (by decide) HQ.out (by decide) ses0_all (by decide) HT2.out);obtain⟨p1,p2,hR,hp1,hp2⟩:=ses0_reels;rw[ses0_reelsE,hR]at HRl;clear hR hw1;have c0:=HK.c 0;have c1:=HK.c 1;have c2:=HK.c 2;have c3:=HK.c 3;go_wp2_with fail;refine HRl.mono ?_;rintro e3 w3 ⟨⟨vl,rfl,hl⟩,hb3⟩;have HK3:=zY (HK.kept hb3);have HB3:=zYt HB2 hb3;have HFr:=zY (frames_any w3 7 1 0 _ [ses0] 1 (HQ.below hb3) (by decide) ses0_all (HT.below HB3.out));rw[ses0_cont]at HFr;have HL:=zY hl;obtain⟨b,o,c,u,rfl,_,_⟩:=reel_one hl;clear hl hb3 HK HB2 HT2 HRl c0 c1 c2 c3;have c0:=HK3.c 0;have c1:=HK3.c 1;have c2:=HK3.c 2;have c3:=HK3.c 3;go_upto_region 3 with fail;go_wp2_with fail;refine HFr.mono ?_;rintro e4 w4 ⟨⟨vf,rfl,hf⟩,hb4⟩;obtain⟨Af,cf',rfl⟩:=hf.slice;rw[ses0_frames];obtain⟨b',o',c',u',e,hu,hus⟩:=reel_one (HL.below hb4);cases e;obtain⟨b2,o2,c2',rfl,hq1,hq2⟩:=seq_two hus;have hp1I:(p1.size:Int)=768:=by omega
 have hp2I:(p2.size:Int)=2556:=by omega
 have HB4:=zYt HB3 hb4;clear hf hb4 hus hp1 hp2 c0 c1 c2 c3 HFr HL;go_upto_region 4 with fail;go_wp2;go_ret;exact⟨rfl,HB4.out⟩
theorem entN_mem {L:List Ses} {i:Nat} {x:Ses} (h:L[i]?=some x):x.ents.length<=entN L:=by
 have h1:=entN_take L h;have h2:=entN_le L (i+1);omega
theorem MadeOk.all {L:List Ses} (h:MadeOk L):SesAll L:=fun i x hx=>by
 have hm:=List.mem_of_getElem? hx
 have ho:=h.ok x hm
 have hn:=h.num i x hx
 have hi:=(List.getElem?_eq_some_iff.1 hx).1
 have hl:=h.len
 have h1:=entN_mem hx
 have h2:=h.ents
 have h3:=h.str x hm
 exact⟨hn,⟨by omega,ho.date,ho.prev,ho.str,by omega,fun e he=>(ho.ok e he).ok,by rw[ho.sig];decide⟩,by omega⟩
theorem entsL_small {l:List Ent} (h:∀e∈l,EntB e):(entsL l).length<=l.length*131000:=by
 induction l with
 |nil=>simp[entsL]
 |cons a l ih=>
 have h1:=encL_len (h a List.mem_cons_self).ok;have h2:=(h a List.mem_cons_self).exs;have h3:=ih fun e he=>h e (List.mem_cons_of_mem _ he);have e:entsL (a::l)=encL a++entsL l:=rfl;rw[e,List.length_append,List.length_cons,Nat.succ_mul];omega
theorem dir_small {L:List Ses} (h:MadeOk L) {j:Nat} {x:Ses} (hx:L[j]?=some x):(dirL x).length<=1400000:=by
 have hm:=List.mem_of_getElem? hx;have ho:=h.ok x hm;have hv:=(h.all j x hx).2.1;have hn:=entN_mem hx;have he:=h.ents;have h1:=numL_len x.num.toNat (by have:=hv.num;omega);have h2:=numL_len x.date.toNat (by have:=hv.date;omega);have h3:=nstL_len x.prev (by have:=ho.prev;omega);have h4:=numL_len x.str.size (by have:=hv.str;omega);have h5:=nstL_len (strB (digL (bs x.str))) (by rw[strB_size,digL_len];decide);have h6:=numL_len x.ents.length (by omega);have h7:=entsL_small ho.ok;have h8:=nstL_len x.sig (by rw[ho.sig];decide);have h9:=ho.prev;have ha:x.sig.size=0:=by rw[ho.sig];rfl
 rw[strB_size]at h1 h2 h3 h4 h5 h6 h8;rw[strB_size,digL_len]at h5;have e:x.ents.length*131000<=10*131000:=Nat.mul_le_mul_right _ (by omega);simp only[dirL,restL,signL,List.length_append,dig8_len];omega
theorem partsB_len (s:ByteArray):(partsB s).length=(s.size+27)/28:=by rw[partsB,List.length_map,List.length_range]
theorem parts_small {L:List Ses} (h:MadeOk L) {j:Nat} {x:Ses} (hx:L[j]?=some x):(partsB (strB (dirL x))).length<=65536:=by
 have:=dir_small h hx;rw[partsB_len,strB_size];omega
theorem contE_made {L:List Ses} (h:MadeOk L) {j:Nat} {x:Ses} (hx:L[j]?=some x) {d s:Nat} (hd:1<=d/\d<=3) (hs:s<=2):contE d s L x.num=0/\L[(x.num-1).toNat]?=some x:=by
 have hn:=h.num j x hx;have hj:=(List.getElem?_eq_some_iff.1 hx).1;have e:(x.num-1).toNat=j:=by omega
 have hp:=parts_small h hx;refine⟨?_,by rw[e];exact hx⟩;unfold contE layE;rw[if_neg (by rw[if_neg (by omega)];simp),if_neg (by omega),e,hx];dsimp only;rw[if_neg (by omega)]
theorem rowsL_strN (d s:Nat) (st:ByteArray):(rowsL d s st).length=strN d st.size:=by
 rw[rowsL,List.length_map,stripL,List.length_map,List.length_range]
theorem reelL_on {id d s n:Int} {r:Nat} {P:List ByteArray} {S:List (List ByteArray)} {st:ByteArray}:∀f∈reelL id d s n r P S st,f.r=(r:Int):=by
 intro f hf;rcases List.mem_append.1 hf with h|h;{
 obtain⟨i,_,rfl⟩:=List.mem_map.1 h;rfl};{
 obtain⟨i,_,rfl⟩:=List.mem_map.1 h;rfl}
end
end Go.Proofs.YthgenkkkapilhaaGreatDoor