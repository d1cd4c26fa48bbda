/-
  Joined: SiE SiF LvnA.
-/
import Derived.Test.YthgenkkkapilhaaGreatDoorVQn45
import Derived.Test.YthgenkkkapilhaaGreatDoorVQn46
import Derived.Test.YthgenkkkapilhaaGreatDoorCards
set_option linter.all false
set_option maxRecDepth 100000
set_option maxHeartbeats 64000000
namespace Go.Proofs.YthgenkkkapilhaaGreatDoor
open Go.Proofs.Tryz
section
open Go.RowKit
theorem chkF_catS {α:Type} (k:Nat) (l:List α) (i:Nat):(chkF k l i).flatten=l.take (k*i):=by
 unfold chkF;induction i with
 |zero=>simp
 |succ i ih=>rw[List.range_succ,List.map_append,List.flatten_append,ih,Nat.mul_succ,List.take_add];simp
theorem chks_cat {α:Type} {k:Nat} (hk:1<=k) (l:List α):(chks k l).flatten=l:=by
 rw[chks,chkF_catS];refine List.take_of_length_le ?_;have h1:=Nat.div_add_mod (l.length+k-1) k;have h2:=Nat.mod_lt (l.length+k-1) (show 0<k by omega);omega
def onL (d s:Nat) (L:List Ses) (r n:Nat):List Frm:=match L[n]? with
 |none=>[]
 |some x=>reelL 7 d s ((n:Int)+1) r (partsB (strB (dirL x))) (rowsL d s x.str) x.str
def wantL {α:Type} (f:Nat->Nat->List α) (N M:Nat):List α:=(List.range N).flatMap fun r=>(List.range M).flatMap (f r)
theorem wantL_succ {α:Type} (f:Nat->Nat->List α) (N M:Nat):wantL f (N+1) M=wantL f N M++(List.range M).flatMap (f N):=by
 unfold wantL;rw[List.range_succ,List.flatMap_append];simp
theorem rangeF_succ {α:Type} (f:Nat->List α) (M:Nat):(List.range (M+1)).flatMap f=(List.range M).flatMap f++f M:=by
 rw[List.range_succ,List.flatMap_append];simp
theorem want_len {α:Type} {f:Nat->Nat->List α} {N M K:Nat} (h:∀r n,r<N->(f r n).length<=K):(wantL f N M).length<=N*(M*K):=by
 induction N with
 |zero=>simp[wantL]
 |succ N ih=>
 have h1:∀M,((List.range M).flatMap (f N)).length<=M*K:=by{
 intro M;induction M with
 |zero=>simp
 |succ M ih2=>
 rw[rangeF_succ,List.length_append,Nat.succ_mul];have:=h N M (by omega);omega};rw[wantL_succ,List.length_append,Nat.succ_mul];have:=ih fun r n hr=>h r n (by omega);have:=h1 M;omega
theorem flat_flatMap {α β:Type} (f:α->List (List β)):∀l:List α,(l.flatMap f).flatten=l.flatMap fun x=>(f x).flatten
 |[]=>rfl
 |a::l=>by rw[List.flatMap_cons,List.flatMap_cons,List.flatten_append,flat_flatMap f l]
theorem map_flatM {α β γ:Type} (f:α->List β) (g:β->γ):∀l:List α,(l.flatMap f).map g=l.flatMap fun x=>(f x).map g
 |[]=>rfl
 |a::l=>by rw[List.flatMap_cons,List.flatMap_cons,List.map_append,map_flatM f g l]
def grpsL (d s:Nat) (L:List Ses):List (List Frm):=wantL (fun r n=>chks 8 (onL d s L r n)) (d+s) L.length
theorem grps_flat (d s:Nat) (L:List Ses):(grpsL d s L).flatten=wantL (onL d s L) (d+s) L.length:=by
 unfold grpsL wantL;rw[flat_flatMap];congr 1;funext r;rw[flat_flatMap];congr 1;funext n;exact chks_cat (by omega) _
theorem piecs_seen:∀(gs:List (List Frm)) (k:Nat),(piecsL k gs).map Sgt.f=gs.flatten/\∀x∈piecsL k gs,x.q=qua0
 |[],_=>⟨rfl,fun _ h=>by cases h⟩
 |g::r,k=>by
  obtain⟨h1,h2⟩:=piecs_seen r (k+1)
  have e:∀(fs:List Frm) (j:Nat),((sghtL j fs).map (setP k)).map Sgt.f=fs/\∀x∈(sghtL j fs).map (setP k),x.q=qua0:=by
   intro fs
   induction fs with
   |nil=>exact fun _=>⟨rfl,fun _ h=>by cases h⟩
   |cons f fs ih=>
    intro j
    obtain⟨i1,i2⟩:=ih (j+1)
    refine⟨by rw[sghtL,List.map_cons,List.map_cons,i1];rfl,fun x hx=>?_⟩
    rw[sghtL,List.map_cons]at hx
    rcases List.mem_cons.1 hx with rfl|hx
    ·rfl
    ·exact i2 x hx
  rw[piecsL,List.map_append,(e g 0).1,h1,List.flatten_cons]
  refine⟨rfl,fun x hx=>?_⟩
  rcases List.mem_append.1 hx with hx|hx
  ·exact(e g 0).2 x hx
  ·exact h2 x hx
theorem on_len {L:List Ses} (h:MadeOk L) {d s:Nat} (hd:1<=d) (r n:Nat):(onL d s L r n).length<=73623:=by
 unfold onL;cases hx:L[n]? with
 |none=>exact Nat.zero_le _
 |some x=>
 have h1:=dir_small h hx;have hs:=h.str x (List.mem_of_getElem? hx);have h2:(rowsL d s x.str).length<=23621:=by{
 rw[rowsL_strN];unfold strN;apply Nat.le_of_lt_succ;rw[Nat.div_lt_iff_lt_mul (by omega)];have h3:28*1<=28*d:=by omega
 have:=Nat.mul_le_mul_left 23621 h3;show _<(23621+1)*(28*d);rw[Nat.add_mul];omega};dsimp only;rw[reelL_len,partsB_len,strB_size];omega
theorem on_ok {L:List Ses} (h:MadeOk L) {d s:Nat} (hd:1<=d/\d<=3) (hs:s<=2) {r n:Nat} (hr:r<d+s):∀f∈onL d s L r n,FrmOk f:=by
 unfold onL;cases hx:L[n]? with
 |none=>exact fun f hf=>by cases hf
 |some x=>
 have hj:=(List.getElem?_eq_some_iff.1 hx).1;have hl:=h.len;exact reel_ok (x:=x) (by omega) (by omega) (by omega) (by omega) (by omega) (parts_small h hx) (h.all n x hx).2.2
theorem on_filter {L:List Ses} (h:MadeOk L) {d s:Nat} (hd:1<=d/\d<=3) (hs:s<=2) {r n:Nat} (hr:r<d+s) (hn:n<L.length):
  contE d s L ((n:Int)+1)=0/\(framesF 7 d s L ((n:Int)+1)).filter (fun f=>f.r==(r:Int))=onL d s L r n:=by
 obtain⟨x,hx⟩:∃x,L[n]?=some x:=⟨_,List.getElem?_eq_getElem hn⟩;have hnm:=h.num n x hx;obtain⟨h1,h2⟩:=contE_made h hx hd hs;rw[hnm]at h1 h2;refine⟨h1,?_⟩;rw[framesF_ok h1 h2];have e:∀N,(((List.range N).map fun r=>reelL 7 (d:Int) (s:Int) ((n:Int)+1) r (partsB (strB (dirL x))) (rowsL d s x.str) x.str).flatten).filter (fun f=>f.r==(r:Int))=if r<N then onL d s L r n else []:=by{
 intro N;induction N with
 |zero=>rfl
 |succ N ih=>
 rw[List.range_succ,List.map_append,List.flatten_append,List.filter_append,ih];by_cases c:r=N;{
 subst c;rw[if_neg (by omega),if_pos (by omega),List.nil_append];simp only[List.map_cons,List.map_nil,List.flatten_cons,List.flatten_nil,List.append_nil];rw[List.filter_eq_self.2 fun f hf=>by rw[beq_iff_eq];exact reelL_on f hf];unfold onL;rw[hx]};{
 have e2:(([N].map fun r=>reelL 7 (d:Int) (s:Int) ((n:Int)+1) r (partsB (strB (dirL x))) (rowsL d s x.str) x.str).flatten).filter (fun f=>f.r==(r:Int))=[]:=by simp only[List.map_cons,List.map_nil,List.flatten_cons,List.flatten_nil,List.append_nil];rw[List.filter_eq_nil_iff];intro f hf;rw[beq_iff_eq,reelL_on f hf];omega
 rw[e2,List.append_nil];by_cases c2:r<N;{rw[if_pos c2,if_pos (by omega)]};{rw[if_neg c2,if_neg (by omega)]}}};have:=e (d+s);rw[if_pos hr]at this;exact this
theorem reels_grps {L:List Ses} (h:MadeOk L) {d s:Nat} (hd:1<=d/\d<=3) (hs:s<=2):
  reelsE d s L ⟨#[]⟩=0/\(reelsR 7 d s L ⟨#[]⟩).length=d+s/\(reelsR 7 d s L ⟨#[]⟩).flatMap (·.2)=(grpsL d s L).map (fun g=>strB (celsL g)) /\
   (grpsL d s L).length<=1000000/\∀g∈grpsL d s L,852*g.length<=900000/\∀f∈g,FrmOk f:=by
 have hE:reelsE d s L ⟨#[]⟩=0:=by{
 have hl:layE (d:Int) (s:Int)=0:=by unfold layE;rw[if_neg (by omega)]
 have hp:splitE ⟨#[]⟩=0:=by decide
 unfold reelsE;rw[hl,hp,if_neg (by omega),if_neg (by omega)];refine firstN_zero fun n hn=>?_;exact(on_filter h hd hs (r:=0) (by omega) hn).1};have hT:stripsT 7 ⟨#[]⟩=[]:=rfl;have hP:∀r n,sesP ((7:Nat):Int) d s L r n=(chks 8 (onL d s L r n)).map fun g=>strB (celsL g):=by{
 intro r n;unfold sesP onL;cases L[n]? with
 |none=>simp[chks,chkF]
 |some x=>rfl};refine⟨hE,?_,?_,?_,?_⟩;{
 rw[reelsR,if_pos hE,List.length_map,List.length_range];rfl};{
 rw[reelsR,if_pos hE];unfold grpsL wantL;rw[map_flatM,List.flatMap_map];show (List.range (d+s)).flatMap _=_;congr 1;funext r;unfold reelP sesPs;rw[hT,List.nil_append,map_flatM,<-List.flatMap_def];show (List.range L.length).flatMap (sesP ((7:Nat):Int) d s L r)=_;congr 1;funext n;exact hP r n};{
 have h1:=want_len (f:=fun r n=>chks 8 (onL d s L r n)) (N:=d+s) (M:=L.length) (K:=10000) (fun r n _=>by
  have:=on_len h hd.1 (s:=s) r n
  unfold chks
  rw[chkF_len]
  omega);have h2:=h.len;have h3:L.length*10000<=20000:=by omega
 have h4:=Nat.mul_le_mul (show d+s<=5 by omega) h3;exact Nat.le_trans h1 (by omega)};{
 intro g hg;unfold grpsL wantL at hg;obtain⟨r,hr,hg⟩:=List.mem_flatMap.1 hg;obtain⟨n,_,hg⟩:=List.mem_flatMap.1 hg;obtain⟨h1,h2⟩:=chks_mem hg;exact⟨by omega,fun f hf=>on_ok h hd hs (List.mem_range.1 hr) f (h1 f hf)⟩}
theorem SgtsAt.at {W:World} {v:Value} {xs:List Sgt} (h:SgtsAt W v xs) (hn:xs≠[]):∃g c,v=.slice (some ⟨g,0,none⟩) xs.length c/\∀i x,xs[i]?=some x->∀j u,x.cells[j]?=some u->W.cell? ⟨g,i*14+j,none⟩=some u:=by
 unfold SgtsAt at h;have h2:=h.2;rcases h2 with⟨_,h0⟩|⟨g,c,cur,rfl,_⟩;{exact absurd (List.length_eq_zero_iff.1 h0) hn};{
 refine⟨g,c,rfl,fun i x hx j u hu=>?_⟩;have hi:=(List.getElem?_eq_some_iff.1 hx).1;have hj:=(List.getElem?_eq_some_iff.1 hu).1;rw[Sgt.cells_len]at hj;rw[World.ownsRow.cellAt h (i*14+j) (by omega)];have hf:∀(ys:List Sgt) (k:Nat),ys[k]?=some x->(ys.flatMap Sgt.cells)[k*14+j]?=x.cells[j]?:=by{
 intro ys;induction ys with
 |nil=>intro k hk;cases hk
 |cons y r ih=>
 intro k hk;rw[List.flatMap_cons];cases k with
 |zero=>cases hk;rw[List.getElem?_append_left (by rw[Sgt.cells_len];omega),Nat.zero_mul,Nat.zero_add]
 |succ k=>
 rw[List.getElem?_append_right (by rw[Sgt.cells_len];omega),Sgt.cells_len,show (k+1)*14+j-14=k*14+j by omega];exact ih k hk};rw[hf xs i hx,hu]}
theorem SgtsAt.all {W:World} {v:Value} {xs:List Sgt} (h:SgtsAt W v xs):∃A c,v=.slice A xs.length c/\∀i x,xs[i]?=some x->∃b o,A=some ⟨b,o,none⟩/\∀j u,x.cells[j]?=some u->W.cell? ⟨b,o+i*14+j,none⟩=some u:=by
 by_cases hn:xs=[];{
 subst hn;unfold SgtsAt at h;rcases h.2 with⟨rfl,_⟩|⟨g,c,cur,rfl,_⟩;{exact⟨_,_,rfl,fun i x hx=>by cases hx⟩};{exact⟨_,_,rfl,fun i x hx=>by cases hx⟩}};{
 obtain⟨g,c,rfl,hc⟩:=SgtsAt.at h hn;exact⟨_,_,rfl,fun i x hx=>⟨g,0,rfl,fun j u hu=>by rw[Nat.zero_add];exact hc i x hx j u hu⟩⟩}
theorem apart_grown {α:Type} {ρ:Shape α} {t:TypeId} {wq A:World} {vf y va:Value} {F:List α} (hF:OwnSeq ρ t wq A vf F) (hne:vf.ownBlock=none∨vf.ownBlock≠y.ownBlock) (ho:va.ownBlock=y.ownBlock∨va.ownBlock=some A.heap.size):vf.ownBlock=none∨vf.ownBlock≠va.ownBlock:=by
 rcases hne with h|h;{exact .inl h};{
 rcases ho with e|e;{exact .inr (by rw[e];exact h)};{exact .inr fun e2=>Nat.lt_irrefl _ (hF.lt (e2.trans e))}}
theorem lawscans_any (w:World) (v:Value) (l:List Bat) (hv:SeqAt batS w v l) (x:Nat) (hx:x<256) (hT:Tab w):Calls prog 10 #[v,.int .u8 (x:Int)] w fun e w'=>e=.returned (.bool true)/\Below w.heap.size w w':=by
 have HT:=zY hT;have HM:=zY (fun(W:World) (hW:Below w.heap.size w W)=>made_any W v l (hv.below hW) x hx);obtain⟨Av,cv,rfl,_,_⟩:=hv.slice;generalize l.length=ll at *;clear hv hT;go_enter func10,ntmps10;go_wp2_with fail;refine(HM.out _ (Below.refl _ _)).mono ?_;rintro e1 w1 ⟨⟨d,s,va,L,ok,rfl,hd1,hd3,hs2,hva,hok⟩,hb1⟩;obtain⟨A,c,rfl,_,_⟩:=hva.slice;have HVa:=zY hva;have HOk:=zY hok;have HB1:=zY hb1;clear hva hok hb1 HM;go_upto_region 2 with fail;have hA:=Blk.new w1 28 [.int .u32 7,.int .i64 (d:Int),.int .i64 (s:Int),.slice A L.length c];have HA:Hid (Blk (w1.alloc (.cells #[.int .u32 7,.int .i64 (d:Int),.int .i64 (s:Int),.slice A L.length c] 28)) w1.heap.size 28 [.int .u32 7,.int .i64 (d:Int),.int .i64 (s:Int),.slice A L.length c]):=zY hA;have HVb:=zY (HVa.below (zBl w1 (.cells #[.int .u32 7,.int .i64 (d:Int),.int .i64 (s:Int),.slice A L.length c] 28)));have HB2:=zY (HB1.alloc HB1.size (.cells #[.int .u32 7,.int .i64 (d:Int),.int .i64 (s:Int),.slice A L.length c] 28));clear hA HB1 HVa;generalize w1.alloc (.cells #[.int .u32 7,.int .i64 (d:Int),.int .i64 (s:Int),.slice A L.length c] 28)=w2 at *;cases ok with
 |false=>go_wp2_with fail;refine(awake43_any w2 (HT.below HB2.out)).mono ?_;rintro e3 w3 ⟨rfl,hb3⟩;have HB3:=zYt HB2 hb3;clear hb3;go_wp2;go_ret;exact⟨rfl,HB3.out⟩
 |true=>
 have hmo:=HOk.out rfl;have HAl:=zY hmo.all;have hl2:=hmo.len;obtain⟨gE,gN,gP,gL,gG⟩:=reels_grps hmo ⟨hd1,hd3⟩ hs2;have HOf:=zY (fun r n hr hn=>on_filter hmo (d:=d) (s:=s) (r:=r) (n:=n) ⟨hd1,hd3⟩ hs2 hr hn);have HWl:Hid (∀N,N<=d+s->(wantL (onL d s L) N L.length).length<=1000000/\∀r n,((List.range n).flatMap (onL d s L r)).length<=n*73623):=zY (fun N hN=>by
  refine⟨?_,fun r n=>?_⟩
  {
  have h1:=want_len (f:=onL d s L) (N:=N) (M:=L.length) (K:=73623) fun r n _=>on_len hmo hd1 r n
  have h2:L.length*73623<=147246:=by omega
  have h3:=Nat.mul_le_mul (show N<=5 by omega) h2
  omega}
  ·induction n with
   |zero=>simp
   |succ n ih=>
    rw[rangeF_succ,List.length_append,Nat.succ_mul]
    have:=on_len hmo hd1 (s:=s) r n
    omega);have HOn:=zY (fun r n=>on_len hmo hd1 (s:=s) r n);have HF1:=zY (fun(W:World) (hW:SeqAt sesS W (.slice A L.length c) L) (hT:Tab W)=>volreels_any W 7 (d:Int) (s:Int) _ L ⟨#[]⟩ (by decide) hW (by omega) HAl.out (by decide) hT);have HF2:=zY (fun(W:World) (n:Int) (hW:SeqAt sesS W (.slice A L.length c) L) (hT:Tab W)=>frames_any W 7 (d:Int) (s:Int) _ L n hW (by omega) HAl.out hT);have HSc:=zY (fun(W:World) (vl:Value) h=>scpieces_ok W vl (grpsL d s L) h gL (fun g hg=>(gG g hg).1) (fun g hg=>(gG g hg).2));have HPc:=zY (fun(W:World) (v:Value) h=>volpieces_any W v (reelsR 7 d s L ⟨#[]⟩) h (by rw[gP,List.length_map];exact gL));rw[gP]at HPc;rw[gE]at HF1;have hfl:=grps_flat d s L;obtain⟨hs1,hs3⟩:=piecs_seen (grpsL d s L) 0;rw[hfl]at hs1;have HS1:=zY hs1;have HS3:=zY hs3;generalize reelsR 7 (d:Int) (s:Int) L ⟨#[]⟩=R at *;generalize grpsL d s L=GS at *;generalize piecsL 0 GS=SE at *;clear hmo gE gP gL gG hfl hs1 hs3 HOk;have a0:=HA.c 0;have a1:=HA.c 1;have a2:=HA.c 2;have a3:=HA.c 3;go_wp2_with fail;refine(HF1.out w2 HVb.out (HT.below HB2.out)).mono ?_;rintro e3 w3 ⟨⟨v1,rfl,h1⟩,hb3⟩;have HVc:=zY (HVb.below hb3);have HA3:=zY (HA.kept hb3);have HB3:=zYt HB2 hb3;have HQ1:=zY h1;clear hb3 h1 a0 a1 a2 a3 HVb HA HB2 HF1;obtain⟨A1,c1,rfl,_,_⟩:=HQ1.slice;rw[gN]at HQ1⊢;have hN5:d+s<=5:=by omega
 obtain⟨N,hN⟩:=zNm (d+s);obtain⟨M,hM⟩:=zNm (L.length);rw[hN]at HQ1 HOf HWl hN5 HS1⊢;rw[hM]at HA3 HVc HF2 HOf HWl hl2 HS1⊢;have HN:=zY hN;clear hN hM gN;have HO0:=zY (OwnSeq.new (ρ:=frmS) (t:=49) w3);have HB4:=zY (zBl w3 (.cells #[] 49));go_upto_region 6 with fail;generalize w3.alloc (.cells #[] 49)=w4 at *;go_wp2;go_loopw [9,35] (fun y x wr=>∃r:Nat,r<=N/\x=.int .i64 (r:Int)/\OwnSeq frmS 49 w3 wr y (wantL (onL d s L) r M)/\Below w3.heap.size w3 wr) (fun _ x _=>N-(intOf x).toNat);case atStart=>exact⟨0,by omega,rfl,HO0.out,HB4.out⟩
 case round=>
 obtain⟨r,hr,rfl,ho,hB⟩:=hrel;have HO:=zY ho;have HB:=zY hB;obtain⟨Ao,co,rfl⟩:=ho.slice;have hwl:=(HWl.out r hr).1;clear ho hB HO0 HB4;by_cases h:r<N;{
 have hrI:(r:Int)<N:=by omega
 have ha3:=(HA3.kept HB.out).c 3;go_wp2;clear ha3;generalize hno:(wantL (onL d s L) r M).length=no at *;obtain⟨wx,hwx⟩:∃x,x=wr:=⟨_,rfl⟩;subst hwx;go_loopw [9,41] (fun y x wr=>∃n:Nat,n<=M/\x=.int .i64 (n:Int)/\OwnSeq frmS 49 w3 wr y (wantL (onL d s L) r M++(List.range n).flatMap (onL d s L r))/\Below w3.heap.size w3 wr) (fun _ x _=>M-(intOf x).toNat);case atStart=>exact⟨0,by omega,rfl,by rw[List.range_zero,List.flatMap_nil,List.append_nil];exact HO.out,HB.out⟩
 case round=>
 obtain⟨n,hn,rfl,ho,hB⟩:=hrel;have HO:=zY ho;have HB:=zY hB;obtain⟨Ao,co,rfl⟩:=ho.slice;have hfl:=(HWl.out r hr).2 r n;have hln:(wantL (onL d s L) r M++(List.range n).flatMap (onL d s L r)).length<=1147246:=by rw[List.length_append,hno];have:=Nat.mul_le_mul_right 73623 (show n<=2 by omega);omega
 generalize hno2:(wantL (onL d s L) r M++(List.range n).flatMap (onL d s L r)).length=no2 at *;clear ho hB hfl;by_cases h2:n<M;{
 have hnI:(n:Int)<M:=by omega
 have hn1:IntKind.i64.wrap ((n:Int)+1)=(n:Int)+1:=zIw (by omega);have a0:=(HA3.kept HB.out).c 0;have a1:=(HA3.kept HB.out).c 1;have a2:=(HA3.kept HB.out).c 2;have a3:=(HA3.kept HB.out).c 3;have hfr:=HF2.out wr ((n:Int)+1) (HVc.below HB.out) (HT.below (HB3.trans (HB.mono HB3.size)));obtain⟨hc0,hfi⟩:=HOf.out r n h h2;rw[hc0]at hfr;obtain⟨F,hF⟩:=zNm (framesF 7 (d:Int) (s:Int) L ((n:Int)+1));rw[hF]at hfr hfi;have HFr:=zY hfr;have HFi:=zY hfi;have hFl:=List.length_filter_le (fun f:Frm=>f.r==(r:Int)) F;clear hfr hc0 hfi hF;go_wp2_with fail;refine HFr.mono ?_;rintro e5 w5 ⟨⟨vf,rfl,hof⟩,hb5⟩;have HFo:=zY hof;have HO5:=zY (HO.below hb5);have HB5:=zYt HB hb5;have hne:vf.ownBlock=none∨vf.ownBlock≠Value.ownBlock (.slice Ao no2 co):=by{
 cases hv:vf.ownBlock with
 |none=>exact .inl rfl
 |some g=>
 refine .inr fun e=>?_;have h1:=hof.ge g hv;have h2:=HO.lt e.symm;omega};have HNe:=zY hne;obtain⟨Af,cf,rfl⟩:=hof.slice;obtain⟨wq,hwq⟩:∃x,x=wr:=⟨_,rfl⟩;have hq5:=hb5.size;rw[<-hwq]at HFo hq5;obtain⟨B0,hB0⟩:=zNm (wantL (onL d s L) r M++(List.range n).flatMap (onL d s L r));have HBe:=zY hB0;rw[hB0]at HO5 hno2;have Hno2:=zY hno2;have hFz:B0.length+(F.filter fun f:Frm=>f.r==(r:Int)).length<=1220869:=by rw[HFi.out,hno2];have:=HOn.out r n;omega
 have HFz:=zY hFz;clear hb5 hof hne a0 a1 a2 a3 hn1 HFr HO HB hB0 hno2 hwq hFl hFz;go_wp2;go_loopw [9,55] (fun y x wr=>∃k:Nat,k<=F.length/\x=.int .i64 (k:Int)/\OwnSeq frmS 49 w3 wr y (B0++(F.take k).filter fun f:Frm=>f.r==(r:Int))/\OwnSeq frmS 49 wq wr (.slice Af F.length cf) F/\(Value.ownBlock (.slice Af F.length cf)=none∨Value.ownBlock (.slice Af F.length cf)≠y.ownBlock)/\wq.heap.size<=wr.heap.size/\Below w3.heap.size w3 wr) (fun _ x _=>F.length-(intOf x).toNat);case atStart=>exact⟨0,by omega,rfl,by rw[List.take_zero,List.filter_nil,List.append_nil];exact HO5.out,HFo.out,HNe.out,hq5,HB5.out⟩
 case round=>
 obtain⟨k,hk,rfl,ho,hof,hne,hq,hB⟩:=hrel;have HO:=zY ho;have HFo:=zY hof;have HNe:=zY hne;have HB:=zY hB;obtain⟨Ay,cy,rfl⟩:=ho.slice;have hzl:(B0++(F.take k).filter fun f:Frm=>f.r==(r:Int)).length+1<=100000000:=by have h1:=HFz.out;have h2:((F.take k).filter fun f:Frm=>f.r==(r:Int)).length<=(F.filter fun f:Frm=>f.r==(r:Int)).length:=(List.Sublist.filter _ (List.take_sublist k F)).length_le;rw[List.length_append];omega
 generalize hno3:(B0++(F.take k).filter fun f:Frm=>f.r==(r:Int)).length=no3 at *;have Hzl:Hid ((B0++(F.take k).filter fun f:Frm=>f.r==(r:Int)).length+1<=100000000):=zY (by rw[hno3];exact hzl);clear ho hof hne hB hzl hno3 hq5 HO5 HB5;by_cases h3:k<F.length;{
 have hkI:(k:Int)<F.length:=by omega
 obtain⟨f,hf⟩:∃f,F[k]?=some f:=⟨_,List.getElem?_eq_getElem h3⟩;have hst:(F.take (k+1)).filter (fun f:Frm=>f.r==(r:Int))=(F.take k).filter (fun f:Frm=>f.r==(r:Int))++if f.r==(r:Int) then [f] else []:=by rw[List.take_succ_eq_append_getElem h3,(List.getElem?_eq_some_iff.1 hf).2,List.filter_append];cases c:f.r==(r:Int)<;>simp[c]
 have Hst:=zY hst;obtain⟨_,_,e9,_,_,h4⟩:=HFo.atF flatFrm hq;cases e9;obtain⟨b2,o2,cs2,rfl,rfl,hc⟩:=h4 k f hf;obtain⟨k0,r0,s0,i0,l0,d0,p0,a0,t0⟩:=f;have hc2:∀j u,(Frm.cells ⟨k0,r0,s0,i0,l0,d0,p0,a0,t0⟩)[j]?=some u->wr.cell? ⟨b2,o2+k*9+j,none⟩=some u:=hc;have c0:=hc2 0 _ rfl;have c1:=hc2 1 _ rfl;have c2:=hc2 2 _ rfl;have c3:=hc2 3 _ rfl;have c4:=hc2 4 _ rfl;have c5:=hc2 5 _ rfl;have c6:=hc2 6 _ rfl;have c7:=hc2 7 _ rfl;have c8:=hc2 8 _ rfl;dsimp only at c0 c1 c2 c3 c4 c5 c6 c7 c8;rw[Nat.add_zero]at c0;clear hc hc2 hf h4 hst;by_cases hr0:r0=(r:Int);{
 subst hr0;have hst:=Hst.out;rw[if_pos (by rw[beq_iff_eq])]at hst;have Hst:=zY hst;have HX:Hid (SrcAt frmS w3 ((wr.alloc (.cells #[.int .i64 k0,.int .i64 (r:Int),.int .i64 s0,.int .i64 i0,.int .i64 l0,.int .i64 d0,.int .i64 p0,.int .u32 a0,.string t0] 49)).alloc (.cells #[.int .i64 k0,.int .i64 (r:Int),.int .i64 s0,.int .i64 i0,.int .i64 l0,.int .i64 d0,.int .i64 p0,.int .u32 a0,.string t0] 49)) (.slice (some ⟨wr.heap.size+1,0,none⟩) 1 1) [⟨k0,(r:Int),s0,i0,l0,d0,p0,a0,t0⟩]):=zY (by
  have h:=src1 (ρ:=frmS) (w0:=w3) (wr:=wr.alloc (.cells #[.int .i64 k0,.int .i64 (r:Int),.int .i64 s0,.int .i64 i0,.int .i64 l0,.int .i64 d0,.int .i64 p0,.int .u32 a0,.string t0] 49)) (t:=49) (Frm.cells ⟨k0,(r:Int),s0,i0,l0,d0,p0,a0,t0⟩) ⟨k0,(r:Int),s0,i0,l0,d0,p0,a0,t0⟩ rfl rfl
  rwa [show (wr.alloc (.cells #[.int .i64 k0,.int .i64 (r:Int),.int .i64 s0,.int .i64 i0,.int .i64 l0,.int .i64 d0,.int .i64 p0,.int .u32 a0,.string t0] 49)).heap.size=wr.heap.size+1 by simp]at h);clear hst;go_wp2_with (at_builtin;refine append_seqO (w0:=w3) (vx:=.slice (some ⟨wr.heap.size+1,0,none⟩) 1 1) (us:=[⟨k0,(r:Int),s0,i0,l0,d0,p0,a0,t0⟩]) Tryz.elemFrm rfl _ _ rfl rfl ((HO.alloc _).alloc _) rfl HX.out Hzl.out ((HB.alloc HB.size _).alloc (by have:=HB.size;simp;omega) _) ?_;intro va wa hob hgb hor hbb;have KA:=zY (apart_grown ((HFo.alloc _).alloc _) HNe.out hor);have KF:=zY (((HFo.alloc _).alloc _).grown hgb HNe.out);have KO:=zY hob;have KB:=zY hbb;have KZ:=zY hgb.size;clear hob hgb hor hbb);go_roundw;case rel=>exact⟨k+1,by omega,by go_num,by rw[Hst.out,<-List.append_assoc];exact KO.out,KF.out,KA.out,by have:=KZ.out;simp at this;omega,KB.out⟩
 case measure=>simp[intOf];omega};{
 have hcmp:(r0==(r:Int))=false:=by rw[beq_eq_false_iff_ne];exact hr0
 have hst:=Hst.out;dsimp only at hst;rw[hcmp]at hst;have Hst:Hid ((F.take (k+1)).filter (fun f:Frm=>f.r==(r:Int))=(F.take k).filter (fun f:Frm=>f.r==(r:Int))):=zY (by rw[hst];simp);clear hst hr0;go_wp2;go_roundw;case rel=>exact⟨k+1,by omega,by go_num,by rw[Hst.out];exact HO.alloc _,HFo.alloc _,HNe.out,by simp;omega,HB.alloc HB.size _⟩
 case measure=>simp[intOf];omega}};{
 obtain rfl:k=F.length:=by omega
 have hkI:¬((F.length:Nat):Int)<(F.length:Int):=by omega
 have ho:=HO.out;rw[List.take_of_length_le (Nat.le_refl _),HFi.out]at ho;have HO:=zY ho;clear ho;go_wp2;go_roundw;case rel=>exact⟨n+1,by omega,by go_num,by rw[rangeF_succ,<-List.append_assoc,HBe.out];exact HO.out,HB.out⟩
 case measure=>simp[intOf];omega}};{
 obtain rfl:n=M:=by omega
 have hnI:¬(n:Int)<(n:Int):=by omega
 go_wp2;go_roundw;case rel=>exact⟨r+1,by omega,by go_num,by rw[wantL_succ];exact HO.out,HB.out⟩
 case measure=>simp[intOf];omega}};{
 obtain rfl:r=N:=by omega
 have hrI:¬(r:Int)<(r:Int):=by omega
 generalize wantL (onL d s L) r M=FR at *;generalize hno:FR.length=no at *;have HQ2:=zY (HQ1.below HB.out);have HA2:=zY (HA3.kept HB.out);have HBz:=zY (HB3.trans (HB.mono HB3.size));clear HVc HF2 HOf HWl HOn HQ1 HA3 HB3;go_wp2_with fail;refine(HPc.out _ _ HQ2.out).mono ?_;rintro e5 w5 ⟨vp,rfl,hvp,hb5⟩;have HQ5:=zY (HQ2.below hb5);have HO5:=zY (HO.below hb5);have HA5:=zY (HA2.kept hb5);have HB5:=zYt HBz hb5;have HW5:=zYt HB hb5;have HVp:=zY hvp;clear hb5 hvp HQ2 HO HA2 HBz HB HPc;go_wp2_with fail;refine(HSc.out _ _ HVp.out).mono ?_;rintro e6 w6 ⟨vs,rfl,hvs,hb6⟩;obtain⟨A6,c6,rfl,hc6⟩:=SgtsAt.all hvs;have HC6:=zY hc6;have hSE:SE.length=no:=by rw[<-hno,<-HS1.out,List.length_map]
 rw[hSE];have HO6:=zY ((HO5.below hb6).atF flatFrm (Nat.le_trans HW5.size hb6.size));have HA6:=zY (HA5.kept hb6);have HB6:=zYt HB5 hb6;clear hb6 hvs hc6 HQ5 HO5 HA5 HB5 HW5 HVp HSc;have a0:=HA6.c 0;have a1:=HA6.c 1;have a2:=HA6.c 2;have a3:=HA6.c 3;have hx1:IntKind.i64.wrap ((d:Int)+(s:Int))=(r:Int):=by have:=HN.out;rw[zIw (by omega)];omega
 go_upto_region 26 with fail;clear a0 a1 a2 a3 hx1 HA6;go_wp2;go_loopw [96] (fun x wr=>∃i:Nat,i<=no/\x=.int .i64 (i:Int)/\Below w6.heap.size w6 wr) (fun x _=>no-(intOf x).toNat);case atStart=>exact⟨0,by omega,rfl,Below.refl _ _⟩
 case round=>
 obtain⟨i,hi,rfl,hB⟩:=hrel;have HBr:=zY hB;clear hB;by_cases h5:i<no;{
 have hiI:(i:Int)<no:=by omega
 obtain⟨y,hy⟩:∃y,SE[i]?=some y:=⟨_,List.getElem?_eq_getElem (by omega)⟩;have hf:FR[i]?=some y.f:=by rw[<-HS1.out,List.getElem?_map,hy];rfl
 have hq:=HS3.out y (List.mem_of_getElem? hy);obtain⟨b1,o1,rfl,g1⟩:=HC6.out i y hy;obtain⟨_,_,e9,_,_,h4⟩:=HO6.out;cases e9;obtain⟨b2,o2,_,rfl,rfl,g2⟩:=h4 i _ hf;obtain⟨pc,at_,⟨k0,r0,s0,i0,l0,d0,p0,a0,t0⟩,q0⟩:=y;dsimp only at hq g2;subst hq;have hd1:∀j u,(Sgt.cells ⟨pc,at_,⟨k0,r0,s0,i0,l0,d0,p0,a0,t0⟩,qua0⟩)[j]?=some u->wr.cell? ⟨b1,o1+i*14+j,none⟩=some u:=fun j u hu=>cell_below HBr.out (g1 j u hu);have hd2:∀j u,(Frm.cells ⟨k0,r0,s0,i0,l0,d0,p0,a0,t0⟩)[j]?=some u->wr.cell? ⟨b2,o2+i*9+j,none⟩=some u:=fun j u hu=>cell_below HBr.out (g2 j u hu);have c0:=hd1 0 _ rfl;have c1:=hd1 1 _ rfl;have c2:=hd1 2 _ rfl;have c3:=hd1 3 _ rfl;have c4:=hd1 4 _ rfl;have c5:=hd1 5 _ rfl;have c6:=hd1 6 _ rfl;have c7:=hd1 7 _ rfl;have c8:=hd1 8 _ rfl;have c9:=hd1 9 _ rfl;have c10:=hd1 10 _ rfl;have c11:=hd1 11 _ rfl;have c12:=hd1 12 _ rfl;have c13:=hd1 13 _ rfl;have e0:=hd2 0 _ rfl;have e1:=hd2 1 _ rfl;have e2:=hd2 2 _ rfl;have e3:=hd2 3 _ rfl;have e4:=hd2 4 _ rfl;have e5:=hd2 5 _ rfl;have e6:=hd2 6 _ rfl;have e7:=hd2 7 _ rfl;have e8:=hd2 8 _ rfl;dsimp only[qua0]at c0 c1 c2 c3 c4 c5 c6 c7 c8 c9 c10 c11 c12 c13 e0 e1 e2 e3 e4 e5 e6 e7 e8;rw[Nat.add_zero]at e0;clear hd1 hd2 g1 g2 hy hf h4;go_upto_region 29 with fail;go_quiet (fail);clear c0 c1 c2 c3 c4 c5 c6 c7 c8 c9 c10 c11 c12 c13 e0 e1 e2 e3 e4 e5 e6 e7 e8;go_wp2;go_roundw;case rel=>exact⟨i+1,by omega,by go_num,blwN HBr.out nq⟩
 case measure=>simp[intOf];omega};{
 obtain rfl:i=no:=by omega
 have hiI:¬(i:Int)<(i:Int):=by omega
 have HBe:=zY (HB6.trans (HBr.mono HB6.size));go_wp2_with fail;refine(awake43_any wr (HT.below HBe.out)).mono ?_;rintro e8 w8 ⟨rfl,hb8⟩;have HB8:=zYt HBe hb8;clear hb8;go_wp2;go_ret;exact⟨rfl,HB8.out⟩}}
end
end Go.Proofs.YthgenkkkapilhaaGreatDoor
namespace Go.Proofs.YthgenkkkapilhaaGreatDoor.lawVoScans
open Go.Proofs.Tryz
section
open Go.ChangeShapes Go.WideShapes Go.ChangeAt Go.RowKit
theorem lifted (os:Os) (started:os.Started) (H:Type) (enc:TypeId×Value->H):
  ReturnsInHanded {} Tryz.checked os 10 .any (fun w args=>(Rows.volumeScansSpec.pre enc prog Tryz.f10 Rows.volumeScansRow.domain false w args/\laidMetH prog Rows.volumeScansRow.laid w)/\sizedMet enc prog Tryz.f10 (OpenSpec.ofChange Rows.volumeScansSpec) false w args)
   (Rows.volumeScansSpec.post enc prog Tryz.f10 false true false false):=by
 refine returns_shaped (C:=Tryz.checked) (X:=fun w _=>laidMetH prog Rows.volumeScansRow.laid w) (fun _ _ _ hh h=>h.of_heap hh) ownN started (by kernel_rfl) func10
  (ChangeSpec.witness_shaped (enc:=enc) (C:=Tryz.checked) (os:=os) (X:=fun w _=>laidMetH prog Rows.volumeScansRow.laid w) false (World.laidAll prog os Rows.volumeScansRow.laid) #[.slice none 0 0,.int .u8 0] 8 (World.laidAll_os _ _ _)
   (World.shaped_of_ZipB (by kernel_rfl) (by kernel_rfl)) (by kernel_rfl) (by kernel_rfl) (by kernel_rfl)
   (by rw[MakeChecks.laidMetH_plain _ _ _ (by kernel_rfl)];exact laidMet_laidAll _ (by kernel_rfl) (by kernel_rfl))) ?_;intro W base args ds gs before hval0 hW hc _ hL hsh _;have hT:Tab W:=tab_of hL (by kernel_rfl) hsh;have hval:∀(j:Nat) t v,Tryz.f10.params[j]?=some t->args[j]?=some v->Value.okWide prog W .any base t v:=hval0;have hW':=hW;obtain⟨p,q,hA0,hV,rfl,_,_⟩:=hW;have hA:DataW.TrodAll enc prog W 0 (fun _=>true) true Tryz.f10.params.toList args.toList ds p:=hA0;rw[params10]at hA hval;obtain⟨v0,vs0,d0,ds0,p0,q0,hargs,rfl,rfl,h0,r0⟩:=trodAll_cons hA;obtain⟨v1,vs1,d1,ds1,p1,q1,rfl,rfl,rfl,h1,r1⟩:=trodAll_cons r0;obtain⟨rfl,rfl,rfl⟩:=trodAll_nil r1;obtain rfl:args= #[v0,v1]:=by cases args;simp_all
 obtain⟨rfl,rfl⟩:=trodVars_none hV;have k0:=h0;have lt0:∀x∈p0,x.block<W.heap.size:=by obtain⟨m,hm⟩:=k0;exact DataW.trod_lt m _ _ _ hm
 have k1:=h1;have lt1:∀x∈p1,x.block<W.heap.size:=by obtain⟨m,hm⟩:=k1;exact DataW.trod_lt m _ _ _ hm
 obtain⟨x0,hx0⟩:=open_bats (hval 0 22 v0 rfl rfl) h0;obtain⟨x1,rfl,hx1⟩:=open_u8 (hval 1 5 v1 rfl rfl) h1;clear hA0 hval0 hL;refine(lawscans_any W v0 x0 hx0 x1 hx1 hT).mono fun e W' ⟨he,bel⟩=>?_;subst he;exact⟨_,rfl,_,_,_,[],_,[],hW',trodAll_mk1 (shut_bool underlying4 _),(trodAll_cons_mk (Below.trod laidN (by kernel_rfl) (of_decide_eq_true (by kernel_rfl)) k0 bel lt0) (trodAll_cons_mk (Below.trod laidN (by kernel_rfl) (of_decide_eq_true (by kernel_rfl)) k1 bel lt1) trodAll_mk0)),rfl,bel.frame _,fun h=>by cases h⟩
end
end Go.Proofs.YthgenkkkapilhaaGreatDoor.lawVoScans