/- Texts, joined. -/
import Derived.Test.YthgenkkkapilhaaGreatDoorVTn12
import Derived.Sort.CutIn
set_option linter.all false
set_option maxRecDepth 100000
set_option maxHeartbeats 64000000
namespace Go.Proofs.YthgenkkkapilhaaGreatDoor
open Go.Proofs.Tryz
section
open Go.RowKit
def perI (l:List Nat) (i:Nat):List Nat:=(List.range 836).map fun j=>if uil j<i then cf l (uil j) else 0
theorem perI_len (l:List Nat) (i:Nat):(perI l i).length=836:=by unfold perI;rw[List.length_map,List.length_range]
theorem perI_cf (l:List Nat) (i j:Nat):cf (perI l i) j=if j<836 then (if uil j<i then cf l (uil j) else 0) else 0:=by unfold perI;rw[cf_map]
theorem perI_set {l:List Nat} {i:Nat} (h:i<836):(perI l i).set (ilv i) (cf l i)=perI l (i+1):=by
 refine list_ext836 (by rw[List.length_set,perI_len]) (perI_len _ _) fun j hj=>?_;rw[cf_set _ _ _ _ (by rw[perI_len];exact ilv_lt h),perI_cf,perI_cf,if_pos hj,if_pos hj];by_cases e:ilv i=j;{
 subst e;rw[if_pos rfl,uil_ilv h,if_pos (by omega)]};{
 rw[if_neg e];have hne:uil j≠i:=fun hu=>e (by rw[<-hu];exact(ilv_uil hj).1);by_cases h1:uil j<i;{rw[if_pos h1,if_pos (by omega)]};{rw[if_neg h1,if_neg (by omega)]}}
theorem perI_zero (l:List Nat):perI l 0=List.replicate 836 0:=by
 refine list_ext836 (perI_len _ _) List.length_replicate fun j hj=>?_;rw[perI_cf,if_pos hj,if_neg (by omega)];unfold cf;rw[List.getElem?_replicate,if_pos hj];rfl
theorem perI_end (l:List Nat):perI l 836=interL l:=by
 unfold perI interL;refine List.map_congr_left fun j hj=>?_;rw[if_pos (ilv_uil (List.mem_range.1 hj)).2]
theorem permI_any (w:World) (s:ByteArray) (hs:s.size=836):Calls prog 309 #[.string s,.int .i64 8,.func (.func 310) #[] #[]] w fun e w'=>e=.returned (.tuple #[.string (strB (interL (bs s))),.int .i64 0])/\Below w.heap.size w w':=by
 have hmk:=make_u8_836;have hsI:(s.size:Int)=836:=by omega
 have hK0:U8B (w.alloc (.cells (arrB (perD [] 0)) 5)) w.heap.size (perI (bs s) 0):=by rw[perI_zero,<-perD_zero []];exact U8B.new w _
 have HK0:=zY hK0;have HB0:=zY (zBl w (.cells (arrB (perD [] 0)) 5));have hbl:=bs_len s;clear hK0;go_enter func309,ntmps309;go_wp2;go_loopw [19] (fun x wr=>∃i:Nat,i<=836/\x=.int .i64 i/\U8B wr w.heap.size (perI (bs s) i)/\Below w.heap.size w wr) (fun x _=>836-(intOf x).toNat);case atStart=>exact⟨0,by omega,rfl,HK0.out,HB0.out⟩
 case round=>
 obtain⟨i,hi,rfl,hb,hB⟩:=hrel;have Hb:=zY hb;have HBr:=zY hB;clear hb hB HK0 HB0;by_cases h:i<836;{
 have hiI:(i:Int)<836:=by omega
 go_wp2_with fail;refine(ilindex_any _ i h).mono ?_;rintro e w1 ⟨rfl,hb⟩;have Hb1:=zY (Blk.kept Hb.out hb);have HB1:=zYt HBr hb;have hlt:=Blk.lt Hb.out;clear hb;have hil:=ilv_lt h;have hx:i<s.size:=by omega
 have hxI:(i:Int)<s.size:=by omega
 have hxJ:((ilv i:Nat):Int)<836:=by omega
 have hcx:cf (bs s) i=(s[i]'hx).toNat:=cf_get (bs_get s _ hx);have hc1:=U8B.cell Hb1.out (i:=ilv i) (x:=cf (perI (bs s) i) (ilv i)) (by unfold cf;rw[List.getElem?_eq_getElem (by rw[perI_len];exact hil)];rfl);have hf1:=Blk.frozen Hb1.out (ilv i);have Hset:Hid (U8B (w1.setCell ⟨w.heap.size,ilv i,none⟩ (.int .u8 ((s[i]'hx).toNat:Nat))) w.heap.size (perI (bs s) (i+1))):=zY (by
  rw[<-hcx,<-perI_set h]
  exact U8B.set Hb1.out (ilv i) _);clear hcx;go_wp2_with (go_at_call 310;refine(inter1_any _ _ _).mono ?_;rintro e w' ⟨rfl,rfl⟩);go_roundw;case rel=>exact⟨i+1,by omega,by go_num,Hset.out,HB1.setCell (p:=⟨w.heap.size,ilv i,none⟩) (Nat.le_refl _) _⟩
 case measure=>simp[intOf];omega};{
 have hi8:i=836:=by omega
 subst hi8;have hv:=U8B.bytes Hb.out (n:=836) (c:=836) (by rw[perI_len]) (Nat.le_refl _) (by omega);rw[perI_end]at hv;have hcs:=run_toStr hv (interL_len _).symm;clear hv;go_wp2;go_ret2;exact⟨rfl,HBr.out⟩}
theorem inter_any (w:World) (s:ByteArray) (hs:s.size=836):Calls prog 257 #[.string s,.int .i64 8] w fun e w'=>e=.returned (.tuple #[.string (strB (interL (bs s))),.int .i64 0])/\Below w.heap.size w w':=by
 have H:=zY (permI_any w s hs);clear hs;go_enter func257,ntmps257;go_wp2_with (go_at_call 309;refine H.mono ?_;rintro e w' ⟨rfl,hb⟩);go_ret2;exact⟨rfl,hb⟩
theorem u8_sh1:∀(j:Fin 8) (b:Fin 256),bits .and .u8 ((b.val:Int)/(2:Int)^j.val) 1=((b.val/2^j.val%2:Nat):Int):=by decide +kernel
theorem cfrom_any (w:World) (s:ByteArray) (hs:s.size<=10000):Calls prog 168 #[.string s] w fun e w'=>e=.returned (.string (strB (frmB (bs s))))/\Below w.heap.size w w':=by
 have hbl:=bs_len s;go_enter func168,ntmps168;go_wp2;go_loopw [8] (fun x wr=>∃i:Nat,i<=s.size/\x=.int .i64 (i:Int)/\Bld wr w.heap.size w.heap.size (frmB ((bs s).take i))/\Below w.heap.size w wr) (fun x _=>s.size-(intOf x).toNat);case atStart=>exact⟨0,by omega,rfl,Bld.new w,(Below.refl _ _).alloc (Nat.le_refl _) _⟩
 case round=>
 obtain⟨i,hi,rfl,hbl1,hB⟩:=hrel;have Hbl:=zY hbl1;have HBr:=zY hB;clear hbl1 hB;by_cases h:i<s.size;{
 have hiI:(i:Int)<s.size:=by omega
 have hst:frmB ((bs s).take (i+1))=frmB ((bs s).take i)++byCs (s[i]'h).toNat:=by rw[List.take_add_one,bs_get s i h];exact frmB_snoc _ _
 have Hst:=zY hst;have hlen:(frmB ((bs s).take i)).length<=80000:=by rw[frmB_len,List.length_take];omega
 have hb8:(s[i]'h).toNat<256:=UInt8.toNat_lt _;obtain⟨L,hL⟩:=zNm (frmB ((bs s).take i));rw[hL]at Hbl Hst hlen;have Hlen:=zY hlen;have Hb8:=zY hb8;clear hst hL hlen hb8;go_wp2;go_loopw [11] (fun x wq=>∃k:Nat,k<=8/\x=.int .i64 (k:Int)/\Bld wq w.heap.size w.heap.size (L++(List.range k).map (byC (s[i]'h).toNat))/\Below w.heap.size w wq) (fun x _=>8-(intOf x).toNat);case atStart=>exact⟨0,by omega,rfl,by simpa using Hbl.out,HBr.out⟩
 case round=>
 obtain⟨k,hk,rfl,hbl2,hB2⟩:=hrel;by_cases h':k<8;{
 have hkI:(k:Int)<8:=by omega
 have Hwb:=zY (wb_any wr w.heap.size w.heap.size _ (byC (s[i]'h).toNat k) hbl2 (by rw[List.length_append,List.length_map,List.length_range];have:=Hlen.out;omega) hB2.size);have hsn:(L++(List.range k).map (byC (s[i]'h).toNat))++[byC (s[i]'h).toNat k]=L++(List.range (k+1)).map (byC (s[i]'h).toNat):=by rw[List.range_succ,List.map_append,List.append_assoc];rfl
 have Hsn:=zY hsn;have HB2:=zY hB2;have hsh:=u8_sh1 ⟨7-k,by omega⟩ ⟨(s[i]'h).toNat,Hb8.out⟩;dsimp only at hsh;have hx2:(s[i]'h).toNat/2^(7-k)%2<2:=Nat.mod_lt _ (by decide);have hbc:byC (s[i]'h).toNat k=48+(s[i]'h).toNat/2^(7-k)%2:=rfl;rw[hsn,hbc]at Hwb;generalize (s[i]'h).toNat/2^(7-k)%2=x at *;have hw1:IntKind.u8.wrap (48+(x:Int))=48+x:=by rw[IntKind.wrap_u8];omega
 have hw2:(48+(x:Int))%256=48+x:=by omega
 have hw3:(((48+x:Nat)):Int)=48+x:=by omega
 rw[hw3]at Hwb;clear hsn hbc hx2 hw3 hbl2 hB2;rcases (by omega:k=0∨k=1∨k=2∨k=3∨k=4∨k=5∨k=6∨k=7)with rfl|rfl|rfl|rfl|rfl|rfl|rfl|rfl;all_goals
 simp only[Nat.sub_zero,Nat.reduceSub,Nat.sub_self,Int.reducePow,Int.ediv_one]at hsh;go_wp2_with fail;refine Hwb.mono ?_;rintro e w2 ⟨rfl,hbl3,hb3⟩;have HL3:=zY hbl3;have HB3:=zY hb3;clear hbl3 hb3 Hwb Hbl HBr Hst Hlen Hb8 Hsn hsh;go_wp2_with fail;refine⟨⟨_,?_,?_,HL3.out,HB2.trans HB3.out⟩,?_⟩;{omega};{rfl};{simp[intOf]}};{
 obtain rfl:k=8:=by omega
 have HB2:=zY hB2;have Hb2:Hid (Bld wr w.heap.size w.heap.size (frmB ((bs s).take (i+1)))):=zY (by rw[Hst.out];exact hbl2);clear hbl2 hB2;go_wp2;go_roundw;case rel=>exact⟨i+1,by omega,by go_num,Hb2.out,HB2.out⟩
 case measure=>simp[intOf];omega}};{
 obtain rfl:i=s.size:=by omega
 have hl:=Hbl.out;rw[List.take_of_length_le (by omega)]at hl;have Hs:=zY (str_any wr w.heap.size w.heap.size _ (fun c hc=>by rcases frmB_01 _ c hc with rfl|rfl<;>omega) hl HBr.size);clear hl Hbl;go_wp2_with (go_at_call 65;refine Hs.mono ?_;rintro e w2 ⟨rfl,hbl3,hb3⟩;have HB3:=zY hb3;clear hbl3 hb3);go_ret;exact⟨rfl,HBr.trans HB3.out⟩}
end
section
def parts (r w:List Nat) (j:Nat):Bool:=cf r j != cf w j
end
section
open Go.RowKit
theorem flat_set {n:Nat}:∀{css:List (List Value)} {i:Nat} {cs:List Value},(∀c∈css,c.length=n)->css[i]?=some cs->∀j,j<n->∀u,css.flatten.set (i*n+j) u=(css.set i (cs.set j u)).flatten
 |[],_,_,_,h,_,_,_=>by simp at h
 |c::r,0,cs,hl,h,j,hj,u=>by
  obtain rfl:c=cs:=by simpa using h
  rw[List.flatten_cons,Nat.zero_mul,Nat.zero_add,List.set_append,if_pos (by rw[hl c List.mem_cons_self];omega)]
  rfl
 |c::r,i+1,cs,hl,h,j,hj,u=>by
  have hc:=hl c List.mem_cons_self
  rw[List.flatten_cons,List.set_append,if_neg (by rw[hc,Nat.add_mul];omega),show (i+1)*n+j-c.length=i*n+j by rw[hc,Nat.add_mul];omega]
  rw[flat_set (fun x hx=>hl x (List.mem_cons_of_mem _ hx)) (by simpa using h) j hj u]
  rfl
theorem Both.set {β γ:Type} {r:β->γ->Prop} {l:List β} {m:List γ} (h:Both r l m) {i:Nat} {x:β} {y:γ} (hr:r x y):Both r (l.set i x) (m.set i y):=by
 induction h generalizing i with
 |nil=>exact .nil
 | @cons a b l m h1 _ ih=>
 cases i with
 |zero=>exact .cons hr ‹_›
 |succ i=>exact .cons h1 ih
section
variable {α:Type} {ρ:Shape α} {w0 w w' W:World} {v:Value} {xs:List α}
theorem OwnSeq.setc {t:TypeId} {g c n:Nat} (h:OwnSeq ρ t w0 W (.slice (some ⟨g,0,none⟩) n c) xs) {i j:Nat} {x y:α} (hx:xs[i]?=some x) (hj:j<ρ.n) (u:Value) (hy:∀cs,ρ.R w0 cs x->ρ.R w0 (cs.set j u) y):OwnSeq ρ t w0 (W.setCell ⟨g,i*ρ.n+j,none⟩ u) (.slice (some ⟨g,0,none⟩) n c) (xs.set i y):=by
 obtain⟨css,h,hB⟩:=h;obtain⟨cs,hcs,hr⟩:=hB.at hx;refine⟨css.set i (cs.set j u),?_,hB.set (hy cs hr)⟩;obtain⟨hl,h⟩:=h;have hi:i<xs.length:=(List.getElem?_eq_some_iff.1 hx).1;have hm:(i+1)*ρ.n<=xs.length*ρ.n:=Nat.mul_le_mul (by omega) (Nat.le_refl _);rw[Nat.add_mul,Nat.one_mul]at hm;rw[<-flat_set hB.lens hcs j hj u,List.length_set];refine⟨by rw[List.length_set];exact hl,?_⟩;rcases h with⟨e,h0⟩|⟨g',cap,cur,e,hb,hg,h1,h2,h3,h4⟩;{cases e};{
 cases e;refine .inr ⟨g,c,cur.setIfInBounds (i*ρ.n+j) u,rfl,hb,?_,h1,h2,by simpa using h3,?_⟩;{simp[World.setCell,Array.getElem?_modify,hg]};{rw[Array.toList_setIfInBounds,List.take_set,h4]}}
def Flat (ρ:Shape α):Prop:=∀(w w':World) (cs:List Value) (x:α),ρ.R w cs x->ρ.R w' cs x
end
end
end Go.Proofs.YthgenkkkapilhaaGreatDoor
namespace Go.Proofs.YthgenkkkapilhaaGreatDoor.rangeStr
open Go.Proofs.Tryz
section
open Go.RowKit Go.Proofs.YthgenkkkapilhaaGreatDoor.rangeOwn
def IterX {α:Type} (P:Program) (g:Nat) (lb:Array Value) (Rd:α->Array Value->World->Prop) (old X:Nat->Prop) (xs:List α) (W0:World):Prop:=
 ∀(l:Nat) (J:List α->World->Prop) (W:World),Below W0.heap.size W0 W ->
  (∀s A B,J s A->W.heap.size<=A.heap.size->rangeOwn.Aside X W.heap.size A B->J s B) ->
  (∀pre x args W1,J pre W1->Rd x args W1->(pre++[x]) <+: xs->YieldAt Fence.wide 0 P l args W1 fun e W'=>e=.returned (.bool true)/\J (pre++[x]) W'/\Kept old W1 W') ->
  J [] W ->
  CallsIn Fence.wide 0 P g (#[.func (.yield l) #[] #[]]++lb) W fun e W'=>(∃v,e=.returned v)/\J xs W'
theorem wpIn_rangeFunc_boxX {α:Type} {P:Program} {g:Operand} {ps:Array Tmp} {assign body:Code} {Q:Exit->Act->World->Prop} {a:Act} {w:World}
  {gf:Nat} {lb:Array Value} (hg:a.eval g=.func (.func gf) #[] lb) (eg:∀args w,(callFunc gf args).run P w=.ok (.enter gf args) w)
  {Rd:α->Array Value->World->Prop} {old X:Nat->Prop} {xs:List α} (hseq:IterX P gf lb Rd old X xs w)
  (hX:∀k,X k->k<w.heap.size) (hps:∀x args W,Rd x args W->args.size=ps.size)
  (a₁:Array Value->World->Act) (w₁:Array Value->World->World) (hw₁:∀args W,Below W.heap.size W (w₁ args W))
  (I:List α->World->Prop) (Bd:α->Array Value->Act->World->Prop) (hBd:∀pre x args W,w.heap.size+2<=W.heap.size->I pre W->Rd x args W->Bd x args (a₁ args W) (w₁ args W)) (hBdA:∀x args a A B,Bd x args a A->w.heap.size<=A.heap.size->rangeOwn.Aside X w.heap.size A B->Bd x args a B)
  (hI:∀s A B,I s A->w.heap.size<=A.heap.size->rangeOwn.Aside X w.heap.size A B->I s B) (h0:I [] w)
  (hassign:∀(l:Nat) (x:α) (args:Array Value) (W:World) (K:Act->World->Prop),Rd x args W->K (a₁ args W) (w₁ args W) ->
   assign.wpIn (Fence.wide.inRound l) 0 P (Exit.then K (fun _ _ _=>False)) { tmps:=(ps.zip args).foldl (fun t (p,v)=>t.setIfInBounds p v) a.tmps,defers:=[] } W)
  (hbody:∀(l:Nat) (pre:List α) (x:α) (args:Array Value) (a':Act) (W:World),w.heap.size+2<=W.heap.size->I pre W->Bd x args a' W->(pre++[x]) <+: xs ->
   body.wpIn (Fence.wide.inRound l) 0 P (goesOn old I (pre++[x]) W) a' W)
  (hdone:∀(D:Nat) (W:World),w.heap.size<=D->I xs W->W.heap[D]?=some (.deferred (some []))->Q .normal { a with defers:={ target:=.collected D,args:= #[] }::a.defers } W):
  (Code.rangeFunc g ps assign body).wpIn Fence.wide 0 P Q a w:=by
 refine wpIn_rangeFunc ?_;intro fn _;obtain⟨rec,hrec⟩:∃rec:LoopState->Option Code->Loop,rec=fun st pe=>{ state:=st,pending:=pe,fn,tmps:=a.tmps,params:=ps,assign,body,defers:=w.heap.size }:=⟨_,rfl⟩;obtain⟨W1,hW1⟩:=zNm ((w.alloc (.deferred (some []))).alloc (.loop (rec .ready none)));have hs1:W1.heap.size=w.heap.size+2:=by rw[<-hW1];simp
 have hL1:W1.heap[w.heap.size+1]?=some (.loop (rec .ready none)):=by rw[<-hW1];have:=World.alloc_heap_new (w.alloc (.deferred (some []))) (.loop (rec .ready none));rwa [World.size_alloc]at this
 have hK1:W1.heap[w.heap.size]?=some (.deferred (some [])):=by rw[<-hW1];exact(Below.heap_alloc _ _ _ (by simp)).trans (World.alloc_heap_new w _)
 have hb1:Below w.heap.size w W1:=by rw[<-hW1];exact((Below.refl _ w).alloc (Nat.le_refl _) _).alloc (by simp) _
 have hI1:I [] W1:=hI _ _ _ h0 (Nat.le_refl _) (rangeOwn.Aside.of_below hb1 (Nat.le_refl _));refine⟨w.heap.size+1,[{ target:=.collected w.heap.size,args:= #[] }],W1,{ target:=.fn (.func gf) lb,args:= #[.func (.yield (w.heap.size+1)) #[] #[]] },W1,gf,
  #[.func (.yield (w.heap.size + 1)) #[] #[]] ++ lb, W1, ?_, ?_, fun _ _ => trivial, ?_, (fun h => by cases h), ?_⟩;{rw[<-hW1,hrec];exact run_enterLoop_outer _ _ _ _ _};{
 simp only[resolve,hg];simp[go_sem]};{simp[invoke,go_sem,eg]};{
 refine(hseq (w.heap.size+1)
  (fun pre W=>w.heap.size+2<=W.heap.size/\I pre W/\W.heap[w.heap.size+1]?=some (.loop (rec .ready none))/\W.heap[w.heap.size]?=some (.deferred (some [])))
  W1 hb1 (fun s A B hs hsz hAB=>⟨Nat.le_trans hs.1 hAB.size,hI _ _ _ hs.2.1 (by omega) (hAB.mono (by omega)),(hAB.low _ (by omega) (fun h=>by have:=hX _ h;omega)).trans hs.2.2.1,(hAB.low _ (by omega) (fun h=>by have:=hX _ h;omega)).trans hs.2.2.2⟩)
  ?_ ⟨by omega,hI1,hL1,hK1⟩).mono ?_;{
 rintro pre x args W ⟨hsz,hi,hl,hk⟩ hrd hpre;have hy:=run_yield (P:=P) (args:=args) hl (by rw[hrec];exact hps x args W hrd);rw[hrec]at hy;obtain⟨W0,hW0⟩:=zNm (w₁ args W);have hb0:Below W.heap.size W W0:=by rw[<-hW0];exact hw₁ args W
 have hl0:W0.heap[w.heap.size+1]?=some (.loop (rec .ready none)):=(hb0.block _ (by omega)).trans hl;have hk0:W0.heap[w.heap.size]?=some (.deferred (some [])):=(hb0.block _ (by omega)).trans hk;have hz0:=hb0.size;have hi0:I pre W0:=hI _ _ _ hi (by omega) (rangeOwn.Aside.of_below hb0 (by omega));have hbd0:Bd x args (a₁ args W) W0:=by rw[<-hW0];exact hBd pre x args W hsz hi hrd
 refine⟨fn,_,assign,body,hy,roundIn_of_wpIn trivial (hassign _ x args W _ hrd ⟨_,by rw[hW0];exact run_beginRound hl0 (by rw[hrec]),?_⟩)⟩;obtain⟨W2,hW2⟩:=zNm (W0.putObj (w.heap.size+1) (.loop { rec .ready none with state:=.busy }));have hA2:rangeOwn.Aside X w.heap.size W0 W2:=by rw[<-hW2];exact rangeOwn.Aside.putObj _ (by omega) hl0 rfl
 have hl2:W2.heap[w.heap.size+1]?=some (.loop { rec .ready none with state:=.busy }):=by rw[<-hW2];exact World.putObj_heap_same (by omega)
 have hk2:W2.heap[w.heap.size]?=some (.deferred (some [])):=by rw[<-hW2];exact(World.putObj_heap_other (by omega)).trans hk0
 have hs2:W2.heap.size=W0.heap.size:=by rw[<-hW2];simp
 rw[hW2];refine wpIn_mono (hbody _ pre x args _ W2 (by omega) (hI _ _ _ hi0 (by omega) hA2) (hBdA _ _ _ _ _ hbd0 (by omega) hA2) hpre) ?_;rintro e a3 W3 hp;cases e with
 |normal=>(
 obtain⟨hk3,hi3⟩:=hp;have hl3:W3.heap[w.heap.size+1]?=some (.loop { rec .ready none with state:=.busy }):=hk3.2 _ _ hl2 (.inl rfl);have hd3:W3.heap[w.heap.size]?=some (.deferred (some [])):=hk3.2 _ _ hk2 (.inl rfl);have hs3:=hk3.1;have hr:=run_endRound (P:=P) none hl3;rw[hrec]at hr;have hA4:rangeOwn.Aside X w.heap.size W3 (W3.putObj (w.heap.size+1) (.loop (rec .ready none))):=rangeOwn.Aside.putObj _ (by omega) hl3 rfl;rw[hrec]at hA4;refine⟨_,_,hr,rfl,⟨by simp;omega,hI _ _ _ hi3 (by omega) hA4,?_,?_⟩,by simp;omega,fun k o hko hkS=>?_⟩;{rw[hrec];exact World.putObj_heap_same (by omega)};{exact(World.putObj_heap_other (by omega)).trans hd3};{
 by_cases hkne:k=w.heap.size+1;{
 subst hkne;rw[hl]at hko;rw[<-hko,hrec];exact World.putObj_heap_same (by omega)};{
 have hko0:W0.heap[k]?=some o:=(hb0.block k (Array.getElem?_eq_some_iff.1 hko).1).trans hko;refine(World.putObj_heap_other hkne).trans (hk3.2 k o ?_ hkS);rw[<-hW2];exact(World.putObj_heap_other hkne).trans hko0}})
 |_=>exact hp.elim};{
 rintro e W2 ⟨⟨v,rfl⟩,hsz,hi,hl,hk⟩;refine⟨none,_,by have:=run_endLoop (P:=P) hl (by rw[hrec];simp);rw[hrec]at this;exact this,hdone _ _ (Nat.le_refl _) (hI _ _ _ hi (by omega) (rangeOwn.Aside.putObj _ (by omega) hl rfl)) ((World.putObj_heap_other (by omega)).trans hk)⟩}}
end
end Go.Proofs.YthgenkkkapilhaaGreatDoor.rangeStr
namespace Go.Proofs.YthgenkkkapilhaaGreatDoor
open Go.Proofs.Tryz
section
open Go.RowKit
def RetXB (e:Ending):Prop:=∃(x:Ext) (b:Bool),e=.returned (.tuple #[.agg #[.int .i64 x.s,.int .i64 x.o,.int .i64 x.l],.bool b])
theorem find_any (w:World) (v:Value) (l:List Cnk) (hv:SeqAt chkS w v l) (sn:Int) (st s:ByteArray):Calls prog 221 #[.agg #[v,.int .i64 sn,.string st],.string s] w fun e w'=>RetXB e/\Below w.heap.size w w':=by
 have Hv:=zY hv;obtain⟨A,c,rfl,h1,h2⟩:=hv.slice;clear hv;have hK:=Blk.new w 160 [.slice A l.length c,.int .i64 sn,.string st];change Blk (w.alloc (.cells #[.slice A l.length c,.int .i64 sn,.string st] 160)) _ _ _ at hK;have hZ:=Blk.new (w.alloc (.cells #[.slice A l.length c,.int .i64 sn,.string st] 160)) 252 [.int .i64 0,.int .i64 0,.int .i64 0];change Blk ((w.alloc (.cells #[.slice A l.length c,.int .i64 sn,.string st] 160)).alloc (.cells #[.int .i64 0,.int .i64 0,.int .i64 0] 252)) _ _ _ at hZ;rw[World.size_alloc]at hZ;have HZ0:=zY hZ;have HK0:=zY (hK.alloc (.cells #[.int .i64 0,.int .i64 0,.int .i64 0] 252));have HB0:=zY ((zBl w (.cells #[.slice A l.length c,.int .i64 sn,.string st] 160)).alloc (by simp) (.cells #[.int .i64 0,.int .i64 0,.int .i64 0] 252));clear hZ hK;go_enter func221,ntmps221;go_upto_region 1 with fail;generalize (w.alloc (.cells #[.slice A l.length c,.int .i64 sn,.string st] 160)).alloc (.cells #[.int .i64 0,.int .i64 0,.int .i64 0] 252)=wa at *;go_wp2;go_loopw [6] (fun x wr=>∃i:Nat,i<=l.length/\x=.int .i64 (i:Int)/\wa=wr) (fun x _=>l.length-(intOf x).toNat);case atStart=>exact⟨0,by omega,rfl,rfl⟩
 case round=>
 obtain⟨i,hi,rfl,rfl⟩:=hrel;have c0:=HK0.c 0;by_cases h:i<l.length;{
 have hiI:(i:Int)<l.length:=by omega
 obtain⟨x,hx⟩:∃x,l[i]?=some x:=⟨_,List.getElem?_eq_getElem h⟩;obtain⟨_,_,e9,_,_,h4⟩:=Hv.below HB0.out;cases e9;obtain⟨b,o,cs,rfl,rfl,hc⟩:=h4 i x hx;obtain⟨d,xs,xo,xl⟩:=x;have e0:wa.cell? ⟨b,o+i*4,none⟩=some (.string d):=hc 0 _ rfl;have e1:wa.cell? ⟨b,o+i*4+1,none⟩=some (.int .i64 xs):=hc 1 _ rfl;have e2:wa.cell? ⟨b,o+i*4+2,none⟩=some (.int .i64 xo):=hc 2 _ rfl;have e3:wa.cell? ⟨b,o+i*4+3,none⟩=some (.int .i64 xl):=hc 3 _ rfl;clear hc h4 hx;by_cases hps:d=s;{
 subst hps;have z0:=HZ0.c 0;have z1:=HZ0.c 1;have z2:=HZ0.c 2;have y0:=HZ0.frozen 0;have y1:=HZ0.frozen 1;have y2:=HZ0.frozen 2;have HW:=zY (((HZ0.set 0 (.int .i64 xs)).set 1 (.int .i64 xo)).set 2 (.int .i64 xl));have HB:=zY (((HB0.setCell (p:=⟨w.heap.size+1,0,none⟩) (by show w.heap.size<=w.heap.size+1;omega) (.int .i64 xs)).setCell (p:=⟨w.heap.size+1,1,none⟩) (by show w.heap.size<=w.heap.size+1;omega) (.int .i64 xo)).setCell (p:=⟨w.heap.size+1,2,none⟩) (by show w.heap.size<=w.heap.size+1;omega) (.int .i64 xl));go_wp2_with fail;refine bodyPost_ret (results_row_tmp rfl _ _ (w.heap.size+1) 252 _ (0,0) _ rfl HW.out underlying252 rfl (by kernel_rfl)) rfl ?_;exact⟨⟨⟨xs,xo,xl⟩,true,rfl⟩,HB.out⟩};{
 have b3:¬d.toList=s.toList:=fun e=>hps (by rw[ByteArray.toList_eq,ByteArray.toList_eq]at e;exact ByteArray.ext (Array.toList_inj.1 e));have b4:(d.toList==s.toList)=false:=by rw[beq_eq_false_iff_ne];exact b3
 clear hps;go_wp2;go_roundw;case rel=>exact⟨i+1,by omega,by go_num,by first|rfl|trivial⟩
 case measure=>simp[intOf];omega}};{
 have hiI:¬(i:Int)<l.length:=by omega
 have z0:=HZ0.c 0;have z1:=HZ0.c 1;have z2:=HZ0.c 2;have y0:=HZ0.frozen 0;have y1:=HZ0.frozen 1;have y2:=HZ0.frozen 2;have HW:=zY (((HZ0.set 0 (.int .i64 0)).set 1 (.int .i64 0)).set 2 (.int .i64 0));have HB:=zY (((HB0.setCell (p:=⟨w.heap.size+1,0,none⟩) (by show w.heap.size<=w.heap.size+1;omega) (.int .i64 0)).setCell (p:=⟨w.heap.size+1,1,none⟩) (by show w.heap.size<=w.heap.size+1;omega) (.int .i64 0)).setCell (p:=⟨w.heap.size+1,2,none⟩) (by show w.heap.size<=w.heap.size+1;omega) (.int .i64 0));go_wp2_with fail;refine bodyPost_ret (results_row_tmp rfl _ _ (w.heap.size+1) 252 _ (0,0) _ rfl HW.out underlying252 rfl (by kernel_rfl)) rfl ?_;exact⟨⟨⟨0,0,0⟩,false,rfl⟩,HB.out⟩}
end
end Go.Proofs.YthgenkkkapilhaaGreatDoor