/-
  Joined: VpP VqF VitC DdI.
-/
import Derived.Test.YthgenkkkapilhaaGreatDoorVQn16
set_option linter.all false
set_option maxRecDepth 100000
set_option maxHeartbeats 64000000
namespace Go.Proofs.YthgenkkkapilhaaGreatDoor
open Go.Proofs.Tryz
section
open Go.RowKit
def kd:Value->Nat
 |.int .i64 _=>1
 |.int .u32 _=>2
 |.string _=>3
 |.slice _ _ _=>4
 |_=>0
def noFit (K:List Nat):List Nat->Bool
 |[]=>true
 |a::r=> !(K.isPrefixOf (a::r))&&noFit K r
theorem isPre {K l:List Nat} (h:∀(j:Nat) (a:Nat),K[j]?=some a->l[j]?=some a):K.isPrefixOf l=true:=by
 induction K generalizing l with
 |nil=>cases l<;>rfl
 |cons a K ih=>
 have h0:=h 0 a rfl;cases l with
 |nil=>cases h0
 |cons b l=>
 obtain rfl:b=a:=by simpa using h0
 rw[List.isPrefixOf,ih (fun j x hj=>by simpa using h (j+1) x (by simpa using hj))];simp
theorem noFit_at {K l:List Nat} (h:noFit K l=true) (hK:K≠[]):∀o:Nat,¬∀(j:Nat) (a:Nat),K[j]?=some a->l[o+j]?=some a:=by
 induction l with
 |nil=>(
 intro o hp;cases K with
 |nil=>exact hK rfl
 |cons a K=>cases hp 0 a rfl)
 |cons b l ih=>
 rw[noFit,Bool.and_eq_true]at h;intro o hp;cases o with
 |zero=>have:=isPre (fun j a hj=>by have:=hp j a hj;rwa [Nat.zero_add]at this);rw[this]at h;cases h.1
 |succ o=>
 refine ih h.2 o fun j a hj=>?_;have:=hp j a hj;rw[show o+1+j=o+j+1 by omega]at this;simpa using this
def Box (W:World) (D:Nat) (ks:List Nat):Prop:=∃t us,Blk W D t us/\us.map kd=ks
def Off {α:Type} (ρ:Shape α) (ks:List Nat):Prop:=∀(W W':World) (D:Nat) (v:Value) (xs:List α),Box W D ks->W.grownBy W' (some D)->SeqAt ρ W v xs->SeqAt ρ W' v xs
theorem Off.of {α:Type} {ρ:Shape α} {ks:List Nat} (K:List Nat) (hK:∀w cs x,ρ.R w cs x->cs.map kd=K) (hK0:K≠[]) (hf:noFit K ks=true) (hR:∀W W' D cs x,Box W D ks->W.grownBy W' (some D)->ρ.R W cs x->ρ.R W' cs x):Off ρ ks:=by
 intro W W' D v xs hB hg ⟨A,c,e,h1,h2,h3⟩;refine⟨A,c,e,h1,h2,fun i x hx=>?_⟩;obtain⟨b,o,cs,rfl,hr,h4⟩:=h3 i x hx;refine⟨b,o,cs,rfl,hR W W' D cs x hB hg hr,fun j u hu=>?_⟩;have hc:=h4 j u hu;by_cases hb:b=D;{
 exfalso;subst hb;obtain⟨t,us,hU,rfl⟩:=hB;refine noFit_at hf hK0 (o+i*ρ.n) fun j' a ha=>?_;rw[<-hK _ _ _ hr,List.getElem?_map]at ha;obtain⟨u',hu',rfl⟩:=Option.map_eq_some_iff.1 ha;have hc':=h4 j' u' hu';rw[List.getElem?_map];unfold Blk at hU;have:us[o+i*ρ.n+j']?=some u':=by simpa [World.cell?,hU]using hc'
 rw[this];rfl};{exact(World.cell?_of_block (hg.block b (cell_lt hc) (fun e=>hb (Option.some.inj e)))).trans hc}
theorem Off.flat {α:Type} {ρ:Shape α} {ks:List Nat} (hF:Flat ρ) (K:List Nat) (hK:∀w cs x,ρ.R w cs x->cs.map kd=K) (hK0:K≠[]) (hf:noFit K ks=true):Off ρ ks:=
 Off.of K hK hK0 hf fun _ _ _ _ _ _ _ h=>hF _ _ _ _ h
theorem flatA:Flat atrS:=fun _ _ _ _ h=>h
theorem SeqAt.kd {α:Type} {ρ:Shape α} {W:World} {v:Value} {xs:List α} (h:SeqAt ρ W v xs):kd v=4:=by
 obtain⟨A,c,rfl,_⟩:=h;rfl
theorem off_atr {ks:List Nat} (hf:noFit [3,3] ks=true):Off atrS ks:=Off.flat flatA [3,3] (fun _ _ _ h=>by rw[h];rfl) (by decide) hf
theorem off_ext {ks:List Nat} (hf:noFit [1,1,1] ks=true):Off extS ks:=Off.flat flatX [1,1,1] (fun _ _ _ h=>by rw[h];rfl) (by decide) hf
theorem off_chk {ks:List Nat} (hf:noFit [3,1,1,1] ks=true):Off chkS ks:=Off.flat flatC [3,1,1,1] (fun _ _ _ h=>by rw[h];rfl) (by decide) hf
theorem off_hol {ks:List Nat} (hf:noFit [3,1] ks=true):Off holS ks:=Off.flat flatH [3,1] (fun _ _ _ h=>by rw[h];rfl) (by decide) hf
theorem off_ent {ks:List Nat} (hf:noFit [1,3,4,3,1,3,4] ks=true) (hx:noFit [1,1,1] ks=true) (ha:noFit [3,3] ks=true):Off entS ks:=by
 refine Off.of [1,3,4,3,1,3,4] ?_ (by decide) hf ?_;{
 rintro w cs x ⟨va,vx,rfl,h1,h2⟩;simp only[List.map_cons,List.map_nil,h1.kd,h2.kd];rfl};{
 rintro W W' D cs x hB hg ⟨va,vx,rfl,h1,h2⟩;exact⟨va,vx,rfl,off_atr ha W W' D _ _ hB hg h1,off_ext hx W W' D _ _ hB hg h2⟩}
theorem off_ses {ks:List Nat} (hf:noFit [1,1,3,4,3,3] ks=true) (he:noFit [1,3,4,3,1,3,4] ks=true) (hx:noFit [1,1,1] ks=true) (ha:noFit [3,3] ks=true):Off sesS ks:=by
 refine Off.of [1,1,3,4,3,3] ?_ (by decide) hf ?_;{
 rintro w cs x ⟨va,rfl,h1⟩;simp only[List.map_cons,List.map_nil,h1.kd];rfl};{
 rintro W W' D cs x hB hg ⟨va,rfl,h1⟩;exact⟨va,rfl,off_ent he hx ha W W' D _ _ hB hg h1⟩}
theorem grown_set (W:World) (D i:Nat) (u:Value):W.grownBy (W.setCell ⟨D,i,none⟩ u) (some D):=
 ⟨rfl,rfl,rfl,by simp[World.setCell],fun k _ hk=>Below.heap_setCell W ⟨D,i,none⟩ u k (fun e=>hk (by rw[e]))⟩
theorem OwnSeq.neT {α:Type} {ρ:Shape α} {t t':TypeId} {w W:World} {v:Value} {xs:List α} (h:OwnSeq ρ t w W v xs) {D:Nat} {us:List Value} (hB:Blk W D t' us) (ht:t≠t'):v.ownBlock≠some D:=by
 obtain⟨css,ho,_⟩:=h;rcases ho.2 with⟨rfl,_⟩|⟨g,cap,cur,rfl,_,hg,_⟩;{exact fun e=>nomatch e};{
 intro e;have:g=D:=by simpa [Value.ownBlock]using e
 subst this;rw[Blk]at hB;rw[hB]at hg;injection hg with hg;injection hg with _ hg;exact ht hg.symm}
theorem OwnSeq.neO {α β:Type} {ρ:Shape α} {σ:Shape β} {t t':TypeId} {w w' W:World} {v v':Value} {xs:List α} {ys:List β} (h:OwnSeq ρ t w W v xs) (h':OwnSeq σ t' w' W v' ys) (ht:t≠t'):v.ownBlock=none∨v.ownBlock≠v'.ownBlock:=by
 obtain⟨css,ho,_⟩:=h;obtain⟨css',ho',_⟩:=h';rcases ho.2 with⟨rfl,_⟩|⟨g,cap,cur,rfl,_,hg,_⟩;{exact .inl rfl};{
 refine .inr fun e=>?_;rcases ho'.2 with⟨rfl,_⟩|⟨g',cap',cur',rfl,_,hg',_⟩;{cases e};{
 have:g=g':=by simpa [Value.ownBlock]using e
 subst this;rw[hg']at hg;injection hg with hg;injection hg with _ hg;exact ht hg.symm}}
theorem OwnSeq.grown {α:Type} {ρ:Shape α} {t:TypeId} {w W W':World} {v:Value} {xs:List α} {r:Option Nat} (h:OwnSeq ρ t w W v xs) (hg:W.grownBy W' r) (hne:v.ownBlock=none∨v.ownBlock≠r):OwnSeq ρ t w W' v xs:=by
 obtain⟨css,ho,hb⟩:=h;exact⟨css,ho.kept hg hne,hb⟩
def layE (d s:Int):Int:=if d<1∨8<d∨s<0∨7<s then 2 else 0
theorem laycheck_any (w:World) (d s:Int):Calls prog 45 #[.agg #[.int .i64 d,.int .i64 s]] w fun e w'=>e=.returned (.int .i64 (layE d s))/\Below w.heap.size w w':=by
 have hK:=Blk.new w 24 [.int .i64 d,.int .i64 s];change Blk (w.alloc (.cells #[.int .i64 d,.int .i64 s] 24)) _ _ _ at hK;have HK:=zY hK;have HB:=zY (zBl w (.cells #[.int .i64 d,.int .i64 s] 24));obtain⟨R,hR⟩:=zNm (layE d s);rw[hR];unfold layE at hR;have HR:=zY hR;clear hK hR;go_enter func45,ntmps45;go_upto_region 1 with fail;generalize w.alloc (.cells #[.int .i64 d,.int .i64 s] 24)=wa at *;have c0:=HK.c 0;have c1:=HK.c 1;by_cases h1:d<1;{
 go_wp2;go_ret;exact⟨by rw[<-HR.out,if_pos (by omega)];rfl,HB.out⟩};{
 by_cases h2:8<d;{
 go_wp2;go_ret;exact⟨by rw[<-HR.out,if_pos (by omega)];rfl,HB.out⟩};{
 by_cases h3:s<0;{
 go_wp2;go_ret;exact⟨by rw[<-HR.out,if_pos (by omega)];rfl,HB.out⟩};{
 by_cases h4:7<s;{
 go_wp2;go_ret;exact⟨by rw[<-HR.out,if_pos (by omega)];rfl,HB.out⟩};{
 go_wp2;go_ret;exact⟨by rw[<-HR.out,if_neg (by omega)];rfl,HB.out⟩}}}}
theorem setCells_below {w W:World} {H g:Nat} (h:Below H w W) (hg:H<=g):∀(vs:List Value) (o:Nat),Below H w (W.setCells g o vs):=by
 intro vs;induction vs generalizing W with
 |nil=>intro o;exact h
 |cons v r ih=>
 intro o;rw[World.setCells];exact ih (h.setCell (p:=⟨g,o,none⟩) hg v) (o+1)
theorem pder_one (w:World) (v:Value) (hp:BytesAt w v [1]):Calls prog 346 #[v] w fun e w'=>∃v',e=.returned v'/\BytesAt w' v' []/\Below w.heap.size w w':=by
 obtain⟨A,c,rfl,h1,h2,h3⟩:=hp;have Ht:=zY (ptrim_any w (.slice none 0 0) [] (SlAt.nil w) (by decide));clear h3;go_enter func346,ntmps346;go_wp2;refine wp_loop_rounds 1 ?_;rw[rounds_succ];go_wp2_with (go_at_call 376;refine Ht.mono ?_;rintro e w1 ⟨v1,rfl,hv1,hb1⟩);go_ret;exact⟨v1,rfl,hv1,hb1⟩
theorem dlocate_same (w:World) (s:ByteArray) (h2:s.size<=100000):Calls prog 348 #[.string s,.string s] w fun e w'=>e=.returned (.tuple #[.slice none 0 0,.int .i64 0])/\Below w.heap.size w w':=by
 go_enter func348,ntmps348;go_wp2;go_loopw [6,15] (fun v x wr=>∃k:Nat,k<=s.size/\x=.int .i64 k/\v=.slice none 0 0/\Below w.heap.size w wr) (fun _ x _=>s.size-(intOf x).toNat);case atStart=>exact⟨0,by omega,rfl,rfl,Below.refl _ _⟩
 case round=>
 obtain⟨k,hk,rfl,rfl,hB⟩:=hrel;have HBr:=zY hB;clear hB;by_cases h:k<s.size;{
 have hkI:(k:Int)<s.size:=by omega
 have hI:((((s[k]'h).toNat:Nat):Int) != (((s[k]'h).toNat:Nat):Int))=false:=by rw[bne_eq_false_iff_eq]
 go_wp2;go_quiet (fail);go_wp2;go_roundw;case rel=>exact⟨k+1,by omega,by go_num,rfl,zBd HBr.out nq⟩
 case measure=>simp[intOf];omega};{
 have hkn:k=s.size:=by omega
 subst hkn;go_wp2;go_ret2;exact⟨rfl,HBr.out⟩}
theorem dloc_zero (w:World) (v u:Value) (S:List Nat) (hS:BytesAt w v S) (hl:S.length=8) (hz:∀i,cf S i=0) (hu:BytesAt w u [1]):Calls prog 345 #[v,u] w fun e w'=>∃v',e=.returned v'/\BytesAt w' v' [1]/\Below w.heap.size w w':=by
 have HS:=zY hS;obtain⟨A,c,rfl,h1,h2,h3⟩:=hS;have Hu:=zY hu;obtain⟨A',c',rfl,h1',h2',h3'⟩:=hu;have Hl:=zY hl;have hl8:S.length<=8:=by omega
 have hl9:8<=S.length:=by omega
 clear h3 h3' hl;have Hc:=zY (fun W h=>cloneb_any W (.slice A' [1].length c') [1] h (by decide));go_enter func345,ntmps345;go_wp2_with fail;refine(Hc.out _ Hu.out).mono ?_;rintro e w1 ⟨v1,rfl,hv1,hb1⟩;have Hv1:=zY hv1;have Hb1:=zY hb1;clear hv1 hb1;go_wp2_with fail;refine(Hc.out _ (Hu.below Hb1.out)).mono ?_;rintro e w2 ⟨v2,rfl,hv2,hb2⟩;have Hb2:=zYt Hb1 hb2;have Hv1':=zY (Hv1.below hb2);clear hv2 hb2 Hv1 Hb1 Hc;go_wp2;go_loopw [6,7,8,9,10,11] (fun l prev len gap last n wr=>∃k g:Nat,k<=8/\g<=k+1/\n=.int .i64 k/\l=v1/\prev=v2/\len=.int .i64 0/\gap=.int .i64 g/\last=.int .u8 1/\BytesAt wr v1 [1]/\Below w.heap.size w wr) (fun _ _ _ _ _ n _=>8-(intOf n).toNat);case atStart=>exact⟨0,1,by omega,by omega,rfl,rfl,rfl,rfl,rfl,rfl,Hv1'.out,Hb2.out⟩
 case round=>
 obtain⟨k,g,hk,hg,rfl,rfl,rfl,rfl,rfl,rfl,gl,hB⟩:=hrel;have Hgl:=zY gl;have HBr:=zY hB;clear Hv1' Hb2 gl hB;by_cases h:k<8;{
 have hkI:(k:Int)<S.length:=by omega
 obtain⟨wo,hwo⟩:∃wo:World,wo=wr:=⟨_,rfl⟩;subst hwo;go_wp2;go_loopw [12,13] (fun d i wr=>∃j:Nat,j<=k+1/\i=.int .i64 j/\d=.int .u8 0/\Below wo.heap.size wo wr) (fun _ i _=>k+1-(intOf i).toNat);case atStart=>exact⟨0,by omega,rfl,rfl,Below.refl _ _⟩
 case round=>
 obtain⟨j,hj,rfl,rfl,hBi⟩:=hrel;have HBi:=zY hBi;clear hBi;by_cases hj2:j<=k;{
 have hjI:(j:Int)<=k:=by omega
 have hSk:S[k-j]?=some 0:=by have e:=hz (k-j);unfold cf at e;rw[List.getElem?_eq_getElem (by omega)]at e⊢;exact congrArg some e
 obtain⟨b,o,rfl,hc⟩:=BytesAt.cell ((HS.below HBr.out).below HBi.out) hSk;have Hat:=zY (dat_any wr.drew u6 [1] j (Hgl.below HBi.drew));have hcl:cf [1] j<256:=cf_lt (bytes_one (by decide)) j;have Hmul:Hid (∀W,Calls prog 188 #[.int .u8 (cf [1] j:Nat),.int .u8 0] W fun e w'=>e=.returned (.int .u8 0)/\W=w'):=zY (fun W=>by
  have h:=gmul_any W (cf [1] j) 0 hcl (by decide)
  rw[gmul_zero_right]at h
  exact h);have Hadd:Hid (∀W,Calls prog 189 #[.int .u8 0,.int .u8 0] W fun e w'=>e=.returned (.int .u8 0)/\W=w'):=zY (fun W=>gadd_any W 0 0 (by decide) (by decide));have hs1:IntKind.i64.wrap ((k:Int)-j)=(k:Int)-j:=zIw (by omega);have hs3:((k:Int)-j).toNat=k-j:=by omega
 have hs4:(0:Int)<=(k:Int)-j:=by omega
 have hs5:(k:Int)-j<S.length:=by omega
 clear hSk;generalize cf [1] j=x at *;go_wp2;go_still_tail 12,(by kernel_rfl);still_call (still_of Hat.out);repeat still_step
 still_call (still_of (Hmul.out _));repeat still_step
 still_call (still_of (Hadd.out _));repeat still_step
 refine wpStill_nil ?_;go_wp2;clear hs1 hs3 hs4 hs5;go_roundw;case rel=>exact⟨j+1,by omega,by go_num,rfl,HBi.drew⟩
 case measure=>simp[intOf];omega};{
 have hjk:j=k+1:=by omega
 subst hjk;have hnI:¬((k+1:Nat):Int)<=k:=by omega
 have HgL:=zY (Hgl.below HBi.out);have HBw:=zY (HBr.trans (HBi.mono HBr.size));clear HBi HBr Hgl;go_wp2;go_roundw;case rel=>exact⟨k+1,g+1,by omega,by omega,by go_num,rfl,rfl,rfl,by go_num,rfl,HgL.out,HBw.out⟩
 case measure=>simp[intOf];omega}};{
 have hI:¬(k:Int)<S.length:=by omega
 have Ht:=zY (ptrim_any wr u6 _ Hgl.out (by decide));go_wp2_with (go_at_call 376;refine Ht.mono ?_;rintro e w1 ⟨v1,rfl,hv1,hb1⟩);go_ret;exact⟨v1,rfl,hv1,HBr.trans (hb1.mono HBr.size)⟩}
theorem hev_one {X:Nat} (h:X<256):hev X [1]=1:=by
 show gmul 0 _^^^1=1;rw[gmul_zero_left h];rfl
theorem ddec_word (w:World) (s:ByteArray) (h1:8<=s.size) (h2:s.size<=255) (hz:synd (bs s)=List.replicate 8 0):Calls prog 287 #[.string s,.int .i64 8,.slice none 0 0] w fun e w'=>e=.returned (.tuple #[.string s,.int .i64 0,.int .i64 0])/\Below w.heap.size w w':=by
 have h1I:¬(s.size:Int)<8:=by omega
 have Hs:=zY (rssyn_any w s h1 h2);have Hi:=zY (fun W=>rsis_any W s h1 h2);rw[hz]at Hs Hi;have HSz:Hid (∀i,cf (List.replicate 8 0) i=0):=zY (fun i=>by unfold cf;rw[List.getElem?_replicate];split<;>rfl);have HO:Hid (pmul (List.replicate 8 0) [1]=[]):=zY (by decide +kernel);have hSb:Bytes (List.replicate 8 0):=fun b hb=>by rw[List.eq_of_mem_replicate hb];decide
 have hSl:(List.replicate 8 0:List Nat).length=8:=List.length_replicate;have hz8:zero8 (List.replicate 8 0)=true:=rfl;rw[hz8]at Hi;generalize List.replicate 8 0=S at *;clear hz hz8;go_enter func287,ntmps287;go_wp2_with fail;refine Hs.mono ?_;rintro e w1 ⟨vS,rfl,hv,hb⟩;have hbA:Below w1.heap.size w1 (w1.alloc (.cells #[.int .u8 1] 5)):=(Below.refl _ _).alloc (Nat.le_refl _) _;have HvA:=zY (hv.below hbA);have HBA:=zY (hb.trans (hbA.mono hb.size));clear hv hb Hs hbA;go_wp2_with (first|(refine(clonei_nil _).mono ?_;rintro e w' ⟨rfl,rfl⟩)|(refine(sort_nil _).mono ?_;rintro e w' ⟨rfl,rfl⟩)|(refine(comp_nil _).mono ?_;rintro e w' ⟨rfl,rfl⟩));refine wp_loop_rounds 1 ?_;rw[rounds_succ];have Hloc:=zY (dloc_zero (w1.alloc (.cells #[.int .u8 1] 5)) vS _ S HvA.out hSl HSz.out (BytesAt.one w1 1));go_wp2_with fail;refine Hloc.mono ?_;rintro e w2 ⟨vl,rfl,hvl,hb⟩;have HvL:=zY hvl;have HB2:=zYt HBA hb;have Hmul:=zY (pmul_any w2 vS vl S [1] (HvA.below hb) hvl hSb (bytes_one (by decide)) (by omega) (by decide));rw[HO.out]at Hmul;clear HvA HBA hb hvl Hloc HO HSz hSb hSl;go_wp2_with fail;refine Hmul.mono ?_;rintro e w3 ⟨vo,rfl,hvo,hb⟩;have HvL3:=zY (HvL.below hb);have HB3:=zYt HB2 hb;obtain⟨A,c,rfl,k1,k2,k3⟩:=hvo;have Hder:=zY (pder_one w3 vl HvL3.out);clear HvL HB2 hb k3 Hmul;go_wp2_with fail;refine Hder.mono ?_;rintro e w4 ⟨vs,rfl,hvs,hb⟩;have HvL:=zY (HvL3.below hb);have HB4:=zYt HB3 hb;obtain⟨cc,w5,hcv,hc1,hc2,hrow,hbb,hsz5⟩:=run_toBytes w4 s (by omega);have Hrow:=zY hrow;have Hbb:=zY hbb;clear hb hvs HvL3 HB3 hrow hbb hsz5 Hder;go_wp2
 go_loopw [20,101] (fun r x wr=>∃i:Nat,i<=s.size/\x=.int .i64 i/\r=.int .i64 0/\RowB wr w4.heap.size (bs s)/\Below w4.heap.size w4 wr) (fun _ x _=>s.size-(intOf x).toNat);case atStart=>exact⟨0,by omega,rfl,rfl,Hrow.out,Hbb.out⟩
 case round=>
 obtain⟨i,hi,rfl,rfl,hr,hB⟩:=hrel;clear hcv Hrow Hbb;have Hr:=zY hr;have HBr:=zY hB;have HvL5:=zY (HvL.below hB);clear hr hB;by_cases h:i<s.size;{
 have hiI:(i:Int)<s.size:=by omega
 have hs1:(0:Int)<=(s.size:Int)-1-i:=by omega
 go_wp2_with fail;refine(gexp_any _ _ (by omega)).mono ?_;rintro e w6 ⟨rfl,hb⟩;have HL6:=zY (HvL5.below hb);have HR6:=zY (Hr.kept hb);have HB6:=zYt HBr hb;clear hb HvL5 Hr HBr;obtain⟨X,hX,hxl⟩:∃X,gexp (-((s.size:Int)-1-i))=X/\X<256:=⟨_,rfl,by unfold gexp;exact pw_lt _⟩;rw[hX];clear hX;go_wp2_with fail;refine(peval_any w6 _ [1] _ HL6.out (bytes_one (by decide)) hxl (by decide)).mono ?_;rintro e w7 ⟨rfl,hb⟩;rw[hev_one hxl];have HR7:=zY (HR6.kept hb);have HB7:=zYt HB6 hb;clear hb HL6 HR6 HB6;go_wp2;go_roundw;case rel=>exact⟨i+1,by omega,by go_num,rfl,HR7.out,HB7.out⟩
 case measure=>simp[intOf];omega};{
 have hin:i=s.size:=by omega
 subst hin;have hcs:=run_toStr (Hr.bytes (n:=s.size) (c:=cc) (bs_len s).symm hc1 hc2) (bs_len s).symm;rw[strB_bs]at hcs;have Hdl:=zY (dlocate_same wr s (by omega));obtain⟨Al,cl,rfl,m1,m2,m3⟩:=HvL.out;clear m3 HvL HvL5;go_wp2_with fail;refine Hdl.mono ?_;rintro e w6 ⟨rfl,hb⟩;have HR6:=zY (Hr.kept hb);have HB6:=zYt HBr hb;clear hcs hb Hdl Hr HBr;have hcs:=run_toStr (HR6.bytes (n:=s.size) (c:=cc) (bs_len s).symm hc1 hc2) (bs_len s).symm;rw[strB_bs]at hcs;go_wp2;refine wp_loop_rounds 1 ?_;rw[rounds_succ];go_wp2_with fail;refine(Hi.out _).mono ?_;rintro e w7 ⟨rfl,hb⟩;have HR7:=zY (HR6.kept hb);have HB7:=zYt HB6 hb;clear hcs hb Hi HR6 HB6;have hcs:=run_toStr (HR7.bytes (n:=s.size) (c:=cc) (bs_len s).symm hc1 hc2) (bs_len s).symm;rw[strB_bs]at hcs;go_wp2_with (go_at_call 351;refine(dradius_any _ 0 (by decide)).mono ?_;rintro e w' ⟨rfl,rfl⟩);go_ret3;exact⟨rfl,HB4.trans (HB7.mono HB4.size)⟩}
end
end Go.Proofs.YthgenkkkapilhaaGreatDoor