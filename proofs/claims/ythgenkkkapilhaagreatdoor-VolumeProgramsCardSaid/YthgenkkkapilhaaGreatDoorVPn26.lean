/-
  Joined: EncD FrNz.
-/
import Derived.Test.YthgenkkkapilhaaGreatDoorVPn25
set_option linter.all false
set_option maxRecDepth 100000
set_option maxHeartbeats 64000000
namespace Go.Proofs.YthgenkkkapilhaaGreatDoor
open Go.Proofs.Tryz
section
open Go.RowKit
theorem genP_all:allB 9 (fun i=>(genP i).all (fun x=>decide (x<256))&&decide ((genP i).length<=9))=true:=by decide +kernel
theorem genP_bytes {i:Nat} (h:i<9):Bytes (genP i)/\(genP i).length<=9:=by
 have h1:=allB_out genP_all i h;simp only[Bool.and_eq_true,decide_eq_true_eq,List.all_eq_true]at h1;exact⟨fun x hx=>by simpa using h1.1 x hx,h1.2⟩
theorem gexp_small {i:Nat} (h:i<8):gexp (i:Int)=pw i:=by
 unfold gexp gexpN;congr 1;omega
theorem gen_any (w:World):Calls prog 306 #[.int .i64 8] w fun e w'=>∃v,e=.returned (.tuple #[v,.int .i64 0])/\BytesAt w' v G8/\Below w.heap.size w w':=by
 go_enter func306,ntmps306;go_wp2;go_loopw [4,14] (fun v x wr=>∃i:Nat,i<=8/\x=.int .i64 (i:Int)/\BytesAt wr v (genP i)/\Below w.heap.size w wr) (fun _ x _=>8-(intOf x).toNat);case atStart=>exact⟨0,by omega,rfl,BytesAt.one w 1,(Below.refl _ _).alloc (Nat.le_refl _) _⟩
 case round=>
 obtain⟨i,hi,rfl,hv,hB⟩:=hrel;rename_i v _
 by_cases h:i<8;{
 have hiI:(i:Int)<8:=by omega
 obtain⟨hgb,hgl⟩:=genP_bytes (i:=i) (by omega);have Hv:=zY hv;have HBr:=zY hB;have He:=zY (gexp_any wr (i:Int) (by omega));rw[gexp_small h]at He;have hnext:pmul (genP i) [pw i,1]=genP (i+1):=rfl;have Hnext:=zY hnext;have hpw:=pw_lt i;clear hv hB hnext;go_wp2_with fail;refine He.mono ?_;rintro e w1 ⟨rfl,hb1⟩;have hv1:=BytesAt.below Hv.out hb1;have hA:Below w1.heap.size w1 (w1.alloc (.cells #[.int .u8 (pw i:Nat),.int .u8 1] 5)):=(Below.refl _ _).alloc (Nat.le_refl _) _;have hv2:=BytesAt.below hv1 hA;have hq:BytesAt (w1.alloc (.cells #[.int .u8 (pw i:Nat),.int .u8 1] 5)) (.slice (some ⟨w1.heap.size,0,none⟩) 2 2) [pw i,1]:=(U8B.new w1 [pw i,1]).bytes rfl (Nat.le_refl _) (by omega);have Hm:=zY (pmul_any _ _ _ _ _ hv2 hq hgb (fun x hx=>by simp at hx;omega) (by omega) (by simp));have HB2:=zY (HBr.trans ((hb1.trans (hA.mono hb1.size)).mono HBr.size));clear hv1 hA hv2 hq hb1 hgb hgl hpw;go_wp2_with fail;refine Hm.mono ?_;rintro e w2 ⟨v',rfl,hv',hb2⟩;rw[Hnext.out]at hv';have Hv':=zY hv';have HB3:=zYt HB2 hb2;clear hv' hb2;go_wp2;go_roundw;case rel=>exact⟨i+1,by omega,by go_num,Hv'.out,HB3.out⟩
 case measure=>simp[intOf];omega};{
 obtain rfl:i=8:=by omega
 have Hv:=zY hv;have HBr:=zY hB;clear hv hB;go_wp2;go_ret2;exact⟨_,rfl,by rw[<-genP_8];exact Hv.out,HBr.out⟩}
def lfI (r:List Nat) (s i:Nat):List Nat:=(List.range 8).map fun j=>if j<i then cf r (j+1)^^^gmul (s^^^cf r 0) (cf G8 (7-j)) else cf r (j+1)
theorem lfI_len (r:List Nat) (s i:Nat):(lfI r s i).length=8:=by unfold lfI;rw[List.length_map,List.length_range]
theorem lfI_cf (r:List Nat) (s i j:Nat):cf (lfI r s i) j=if j<8 then (if j<i then cf r (j+1)^^^gmul (s^^^cf r 0) (cf G8 (7-j)) else cf r (j+1)) else 0:=by unfold lfI;rw[cf_map]
theorem list_ext8 {a b:List Nat} (ha:a.length=8) (hb:b.length=8) (h:∀i,i<8->cf a i=cf b i):a=b:=by
 refine List.ext_getElem? fun i=>?_;by_cases hi:i<8;{
 have:=h i hi;unfold cf at this;rw[List.getElem?_eq_getElem (by omega),List.getElem?_eq_getElem (by omega)]at this⊢;simpa using this};{rw[List.getElem?_eq_none (by omega),List.getElem?_eq_none (by omega)]}
theorem lfI_zero {r:List Nat} (h:r.length=8) (s:Nat):r.drop 1++[0]=lfI r s 0:=by
 refine list_ext8 (by simp[h]) (lfI_len _ _ _) fun j hj=>?_;rw[lfI_cf,if_pos hj,if_neg (by omega)];unfold cf;by_cases h7:j<7;{rw[List.getElem?_append_left (by simp;omega),List.getElem?_drop,Nat.add_comm]};{
 obtain rfl:j=7:=by omega
 rw[List.getElem?_append_right (by simp[h]),List.getElem?_eq_none (l:=r) (by omega)];simp[h]}
theorem lfI_set {r:List Nat} {s i:Nat} (h:i<8):(lfI r s i).set i (cf (lfI r s i) i^^^gmul (s^^^cf r 0) (cf G8 (7-i)))=lfI r s (i+1):=by
 refine list_ext8 (by rw[List.length_set,lfI_len]) (lfI_len _ _ _) fun j hj=>?_;rw[cf_set _ _ _ _ (by rw[lfI_len];exact h),lfI_cf,lfI_cf,lfI_cf,if_pos hj,if_pos hj,if_pos h,if_neg (Nat.lt_irrefl i)];by_cases e:i=j;{
 subst e;rw[if_pos rfl,if_pos (by omega)]};{
 rw[if_neg e];by_cases h1:j<i;{rw[if_pos h1,if_pos (by omega)]};{rw[if_neg h1,if_neg (by omega)]}}
theorem lfI_end (r:List Nat) (s:Nat):lfI r s 8=lfsr G8 r s:=by
 unfold lfI lfsr;refine List.map_congr_left fun j hj=>?_;rw[if_pos (List.mem_range.1 hj)]
structure DivSt (W:World) (B gb go gc:Nat) (r:List Nat):Prop where
 g:W.cell? ⟨B,0,none⟩=some (.slice (some ⟨gb,go,none⟩) 9 gc)
 n:W.cell? ⟨B+1,0,none⟩=some (.int .i64 8)
 row:U8B W (B+2) r
 rest:W.cell? ⟨B+3,0,none⟩=some (.slice (some ⟨B+2,0,none⟩) 8 8)
 gs:∀i,i<9->W.cell? ⟨gb,go+i,none⟩=some (.int .u8 (cf G8 i:Nat))
 lt:gb<B
theorem DivSt.turned {A C:World} {B gb go gc:Nat} {r r':List Nat} (h:DivSt A B gb go gc r) (t:Turned A C (B+2)) (hr:U8B C (B+2) r'):DivSt C B gb go gc r':=by
 have hlt:=h.lt;have hk:∀p:Addr,p.block≠B+2->∀u,A.cell? p=some u->C.cell? p=some u:=fun p hp u hu=>(World.cell?_of_block (t.other p.block hp)).trans hu;exact⟨hk _ (by show B≠B+2;omega) _ h.g,hk _ (by show B+1≠B+2;omega) _ h.n,hr,hk _ (by show B+3≠B+2;omega) _ h.rest,fun i hi=>hk _ (by show gb≠B+2;omega) _ (h.gs i hi),h.lt⟩
theorem DivSt.drw {A:World} {B gb go gc:Nat} {r:List Nat} (h:DivSt A B gb go gc r):DivSt A.drew B gb go gc r:=⟨h.g,h.n,h.row,h.rest,h.gs,h.lt⟩
theorem setRow_turned (W:World) (g:Nat) (cs:Array Value):Turned W (W.setRow g cs) g:=
 ⟨rfl,rfl,rfl,by simp[World.setRow],fun k hk=>setRow_other W g k cs hk⟩
theorem run_copyT {W:World} {g n c:Nat} {ad:Addr} {m k:Nat} {cur p:List Nat} (ty:TypeId) (hg:U8B W g cur) (hp:BytesAt W (.slice (some ad) m c) p) (hm:m=p.length) (hpn:p.length<=n) (hn:n=cur.length):
  ∃w2,(Builtin.copy_ #[117,117] ty #[.slice (some ⟨g,0,none⟩) n k,.slice (some ad) m c]).run prog W=.ok (.int .i64 (m:Int)) w2/\U8B w2 g (p++cur.drop p.length)/\Turned W w2 g:=by
 subst hm hn;obtain⟨h1,h2⟩:=cells_of hp;have hmin:Nat.min p.length cur.length=p.length:=Nat.min_eq_left hpn;have hr:=run_copy_row (P:=prog) W 117 117 ty 5 g 0 cur.length k ad p.length c _ 5 (p.map u8V) underlying117 (by kernel_rfl) hg (by rw[List.length_map];exact hmin.symm) (h2 ad rfl) (by simpa using hpn) (one_u8s p);rw[List.length_map]at hr;have hs:=setRow_heap W g (cur.map u8V).toArray (List.take 0 ((cur.map u8V).toArray.toList)++p.map u8V++List.drop (0+p.length) ((cur.map u8V).toArray.toList)).toArray 5 _ hg;refine⟨_,hr,hs.trans ?_,setRow_turned _ _ _⟩;simp
theorem div1_any (W:World) (B gb go gc:Nat) (r:List Nat) (s:Nat) (h:DivSt W B gb go gc r) (hr:r.length=8) (hrb:Bytes r) (hs:s<256):
  Calls prog 357 #[.int .u8 (s:Int),.pointer (some ⟨B+3,0,none⟩),.pointer (some ⟨B+1,0,none⟩),.pointer (some ⟨B,0,none⟩)] W fun e w'=>(∃x,e=.returned x)/\DivSt w' B gb go gc (lfsr G8 r s)/\Below B W w':=by
 have HA:=zY (fun V=>gadd_any V s (cf r 0) hs (cf_lt hrb 0));have hx:s^^^cf r 0<256:=xor_lt hs (cf_lt hrb 0);obtain⟨r0,t0,hrt⟩:∃a b,r=a::b:=by{
 cases r with
 |nil=>simp at hr
 |cons a b=>exact⟨a,b,rfl⟩};have hc0:=h.row.cell (i:=0) (x:=cf r 0) (by rw[hrt];rfl);have hcr:=h.rest;have H:=zY h;have Hr:=zY hr;have Hrb:=zY hrb;have Hx:=zY hx;clear hrt h hr hrb hx hs;go_enter func357,ntmps357;go_upto_region 1 with(go_at_call 189;refine(HA.out _).mono ?_;rintro e w' ⟨rfl,rfl⟩)
 obtain⟨w2,hcopy,hrow2,ht2⟩:=run_copyT (W:=W.drew) (n:=8) (k:=8) (c:=7) (m:=7) (ad:=⟨B+2,1,none⟩) (p:=r.drop 1) 3 H.row (by
  refine⟨some ⟨B+2,1,none⟩,7,by simp[Hr.out],by simp[Hr.out],by decide,fun j x hj=>?_⟩
  rw[List.getElem?_drop]at hj
  exact⟨B+2,1,_,rfl,by rw[show 1+j=1+j from rfl];exact H.row.cell hj,rfl⟩) (by simp[Hr.out]) (by simp[Hr.out]) Hr.symm;rw[show (r.drop 1).length=7 by simp[Hr.out]]at hrow2;have Hrow2:=zY hrow2;have Ht2:=zY ht2;clear hrow2 ht2;go_cut [] (fun wx=>DivSt wx B gb go gc (r.drop 1++r.drop 7)/\Below B W wx);case first=>refine wp_region_held_drew (S:=(fun w'=>w'.cell? ⟨B+3,0,none⟩=some (.slice (some ⟨B+2,0,none⟩) 8 8))) (by kernel_rfl) ?_ (fun hHeld=>?_);{(first|exact H.rest|exact(World.cell?_of_block (Ht2.other (B+3) (by omega))).trans H.rest)};refine tk 0 ?_;refine tk 1 ?_;refine tk 2 ?_;refine zE1 3 fun K hK=>?_;go_simp;refine hko hK (by(first|exact H.rest|exact(World.cell?_of_block (Ht2.other (B+3) (by omega))).trans H.rest)) (fun _=>?_);clear hK K;refine wpAnyH_done (by kernel_rfl) ?_ _;have hD:=H.drw.turned Ht2.out Hrow2.out;go_wp2_with fail;go_meet;exact⟨hD,Ht2.below (Below.refl B W).drew (by omega)⟩
 case rest=>
 obtain⟨hd,hbw⟩:=hcut;have HD:=zY hd;have HBw:=zY hbw;have hcr:=hd.rest;have hcn:=hd.n;have e1:(r.drop 1++r.drop 7).set 7 0=lfI r s 0:=by{
 rw[<-lfI_zero Hr.out s];have h7:(r.drop 7).length=1:=by simp[Hr.out]
 match hq:r.drop 7,h7 with
 |[q],_=>rw[List.set_append_right _ _ (by simp[Hr.out])];simp[Hr.out]};have hc7:=hd.row.cell (i:=7) (x:=cf r 7) (by rw[List.getElem?_append_right (by simp[Hr.out])];simp[Hr.out,cf]);have hf7:=hd.row.frozen 7;have HR7:=zY (hd.row.set 7 0);rw[e1]at HR7;have HD2:=zY (hd.turned (turned_set1 wc (B+2) 7 (.int .u8 0)) HR7.out);have HB2:=zY (hbw.setCell (p:=⟨B+2,7,none⟩) (by show B<=B+2;omega) (.int .u8 0));clear hd hbw e1 hcopy Hrow2 Ht2 H HA;go_upto_region 3 with fail;generalize wc.setCell ⟨B+2,7,none⟩ (.int .u8 0)=wd at *;clear hc7 hf7 HR7 hcr hcn HD HBw;have hcr:=HD2.rest;go_upto_region 4 with fail;clear hcr;go_loopw [22] (fun x wr=>∃i:Nat,i<=8/\x=.int .i64 (i:Int)/\DivSt wr B gb go gc (lfI r s i)/\Below B W wr) (fun x _=>8-(intOf x).toNat);case atStart=>exact⟨0,by omega,rfl,HD2.out,HB2.out⟩
 case round=>
 obtain⟨i,hi,rfl,hd,hbw⟩:=hrel;have HD:=zY hd;have HBw:=zY hbw;clear hbw HD2 HB2;by_cases h:i<8;{
 have hiI:(i:Int)<8:=by omega
 have hw0:IntKind.i64.wrap 7=7:=by decide
 have hw1:IntKind.i64.wrap (7-(i:Int))=7-i:=by rw[IntKind.wrap_i64];omega
 have hw2:(7-(i:Int)).toNat=7-i:=by omega
 have hw3:(0:Int)<=7-i:=by omega
 have hw4:(7:Int)-i<9:=by omega
 have hw5:(i:Int)<=7:=by omega
 have hlb:cf (lfI r s i) i<256:=by rw[lfI_cf,if_pos h,if_neg (Nat.lt_irrefl i)];exact cf_lt Hrb.out _
 have hgb:cf G8 (7-i)<256:=cf_lt (by decide) _;have HM:Hid (∀V:World,Calls prog 188 #[.int .u8 ((s^^^cf r 0:Nat):Int),.int .u8 (cf G8 (7-i):Nat)] V fun e w'=>e=.returned (.int .u8 (gmul (s^^^cf r 0) (cf G8 (7-i)):Nat))/\V=w'):=zY (fun V=>gmul_any V _ _ Hx.out hgb);have HA2:Hid (∀V:World,Calls prog 189 #[.int .u8 (cf (lfI r s i) i:Nat),.int .u8 (gmul (s^^^cf r 0) (cf G8 (7-i)):Nat)] V fun e w'=>e=.returned (.int .u8 ((cf (lfI r s i) i^^^gmul (s^^^cf r 0) (cf G8 (7-i)):Nat):Int))/\V=w'):=zY (fun V=>gadd_any V _ _ hlb (gmul_lt _ Hx.out));have hcl:=hd.row.cell (i:=i) (x:=cf (lfI r s i) i) (by unfold cf;rw[List.getElem?_eq_getElem (by rw[lfI_len];exact h)];rfl);have hfl:=hd.row.frozen i;have HG:Hid (wr.cell? ⟨gb,go+(7-i),none⟩=some (.int .u8 (cf G8 (7-i):Nat))):=zY (hd.gs (7-i) (by omega));have HSet:Hid (U8B (wr.setCell ⟨B+2,i,none⟩ (.int .u8 ((cf (lfI r s i) i^^^gmul (s^^^cf r 0) (cf G8 (7-i)):Nat):Int))) (B+2) (lfI r s (i+1))):=zY (by rw[<-lfI_set h];exact hd.row.set i _);have hlt:=hd.lt;clear hd hlb hgb;generalize cf (lfI r s i) i=cl at *;generalize gmul (s^^^cf r 0) (cf G8 (7-i))=cm at *;generalize s^^^cf r 0=f at *;generalize cf G8 (7-i)=cg at *;go_upto_region 6 with fail;refine wp_region_held_drew (S:=(fun w'=>w'.cell? ⟨B,0,none⟩=some (.slice (some ⟨gb,go,none⟩) 9 gc)/\w'.cell? ⟨B+1,0,none⟩=some (.int .i64 8)/\w'.cell? ⟨B+3,0,none⟩=some (.slice (some ⟨B+2,0,none⟩) 8 8)/\w'.cell? ⟨gb,go+(7-i),none⟩=some (.int .u8 (cg:Int)))) (by kernel_rfl) ?_ (fun hHeld=>?_)
 {(first|exact⟨HD.g,HD.n,HD.rest,HG.out⟩|exact⟨(World.cell?_setCell_other _ _ _ _ (by first|(simp;done)|(simp;omega))).trans HD.g,(World.cell?_setCell_other _ _ _ _ (by first|(simp;done)|(simp;omega))).trans HD.n,(World.cell?_setCell_other _ _ _ _ (by first|(simp;done)|(simp;omega))).trans HD.rest,(World.cell?_setCell_other _ _ _ _ (by first|(simp;done)|(simp;omega))).trans HG.out⟩)};refine tk 0 ?_;refine tk 1 ?_;refine tk 2 ?_;refine tk 3 ?_;refine tk 4 ?_;refine tk 6 ?_;refine tk 7 ?_;refine tk 8 ?_;refine tk 9 ?_;refine tk 10 ?_;refine tk 11 ?_;refine tk 12 ?_;refine tk 13 ?_;refine take_call (i:=14) (oi:=_) (v:=(.int .u8 (cm:Int))) rfl (by kernel_rfl) (by kernel_rfl) (by kernel_rfl) (fun _ _ _ h=>h) (And.intro (by rfl) ?hyb14) (by assumption) ?restb14;case hyb14=>intro V hSw;exact⟨188,#[.int .u8 (f:Int),.int .u8 (cg:Int)],by go_simp,HM.out V⟩
 try simp only[Act.put,List.setIfInBounds_toArray]
 try simp only[List.getElem_toArray,List.getElem_cons_zero,List.getElem_cons_succ]
 refine zE1 5 fun K hK=>?_;go_simp;refine hko hK (by(first|exact⟨HD.g,HD.n,HD.rest,HG.out⟩|exact⟨(World.cell?_setCell_other _ _ _ _ (by first|(simp;done)|(simp;omega))).trans HD.g,(World.cell?_setCell_other _ _ _ _ (by first|(simp;done)|(simp;omega))).trans HD.n,(World.cell?_setCell_other _ _ _ _ (by first|(simp;done)|(simp;omega))).trans HD.rest,(World.cell?_setCell_other _ _ _ _ (by first|(simp;done)|(simp;omega))).trans HG.out⟩)) (fun _=>?_);clear hK K;refine take_call (i:=15) (oi:=_) (v:=(.int .u8 ((cl^^^cm:Nat):Int))) rfl (by kernel_rfl) (by kernel_rfl) (by kernel_rfl) (fun _ _ _ h=>h) (And.intro (by rfl) ?hyb15) (by assumption) ?restb15;case hyb15=>intro V hSw;exact⟨189,#[.int .u8 (cl:Int),.int .u8 (cm:Int)],by go_simp,HA2.out V⟩
 try simp only[Act.put,List.setIfInBounds_toArray]
 try simp only[List.getElem_toArray,List.getElem_cons_zero,List.getElem_cons_succ]
 refine tk 16 ?_;refine zE1 17 fun K hK=>?_;go_simp;refine hko hK (by(first|exact⟨HD.g,HD.n,HD.rest,HG.out⟩|exact⟨(World.cell?_setCell_other _ _ _ _ (by first|(simp;done)|(simp;omega))).trans HD.g,(World.cell?_setCell_other _ _ _ _ (by first|(simp;done)|(simp;omega))).trans HD.n,(World.cell?_setCell_other _ _ _ _ (by first|(simp;done)|(simp;omega))).trans HD.rest,(World.cell?_setCell_other _ _ _ _ (by first|(simp;done)|(simp;omega))).trans HG.out⟩)) (fun _=>?_);clear hK K;refine wpAnyH_done (by kernel_rfl) ?_ _;have HD3:=zY (DivSt.turned HD.drw (turned_set1 wr.drew (B+2) i _) HSet.out);have HB3:=zY ((HBw.drew).setCell (p:=⟨B+2,i,none⟩) (by show B<=B+2;omega) (.int .u8 ((cl^^^cm:Nat):Int)));clear HD HBw hcl hfl HG HSet HM HA2;go_wp2_with fail;go_roundw;case rel=>exact⟨i+1,by omega,by go_num,HD3.out,HB3.out⟩
 case measure=>simp[intOf];omega};{
 obtain rfl:i=8:=by omega
 clear hd;go_wp2_with fail;go_end0;exact⟨⟨_,rfl⟩,by rw[<-lfI_end];exact HD.out,HBw.out⟩}
theorem divider_any (w:World) (gb go gc:Nat) (hg:∀i,i<9->w.cell? ⟨gb,go+i,none⟩=some (.int .u8 (cf G8 i:Nat))):
  Calls prog 307 #[.slice (some ⟨gb,go,none⟩) 9 gc] w fun e w'=>e=.returned (.tuple #[.func (.func 357) #[] #[.pointer (some ⟨w.heap.size+3,0,none⟩),.pointer (some ⟨w.heap.size+1,0,none⟩),.pointer (some ⟨w.heap.size,0,none⟩)],.slice (some ⟨w.heap.size+2,0,none⟩) 8 8]) /\
   DivSt w' w.heap.size gb go gc (List.replicate 8 0)/\Below w.heap.size w w':=by
 have hmk:=make_u8_8;have hm:∃W4,((((w.alloc (.cells #[.slice (some ⟨gb,go,none⟩) 9 gc] 117)).alloc (.cells #[.int .i64 8] 3)).alloc (.cells (arrB [0,0,0,0,0,0,0,0]) 5)).alloc (.cells #[.slice (some ⟨w.heap.size+1+1,0,none⟩) 8 8] 117))=W4/\DivSt W4 w.heap.size gb go gc [0,0,0,0,0,0,0,0]/\Below w.heap.size w W4:=by{
 have b1:Below w.heap.size w (w.alloc (.cells #[.slice (some ⟨gb,go,none⟩) 9 gc] 117)):=(Below.refl _ _).alloc (Nat.le_refl _) _;have b2:Below (w.alloc (.cells #[.slice (some ⟨gb,go,none⟩) 9 gc] 117)).heap.size (w.alloc (.cells #[.slice (some ⟨gb,go,none⟩) 9 gc] 117)) ((w.alloc (.cells #[.slice (some ⟨gb,go,none⟩) 9 gc] 117)).alloc (.cells #[.int .i64 8] 3)):=(Below.refl _ _).alloc (Nat.le_refl _) _;have b3:Below ((w.alloc (.cells #[.slice (some ⟨gb,go,none⟩) 9 gc] 117)).alloc (.cells #[.int .i64 8] 3)).heap.size ((w.alloc (.cells #[.slice (some ⟨gb,go,none⟩) 9 gc] 117)).alloc (.cells #[.int .i64 8] 3)) (((w.alloc (.cells #[.slice (some ⟨gb,go,none⟩) 9 gc] 117)).alloc (.cells #[.int .i64 8] 3)).alloc (.cells (arrB [0,0,0,0,0,0,0,0]) 5)):=(Below.refl _ _).alloc (Nat.le_refl _) _;have b4:Below (((w.alloc (.cells #[.slice (some ⟨gb,go,none⟩) 9 gc] 117)).alloc (.cells #[.int .i64 8] 3)).alloc (.cells (arrB [0,0,0,0,0,0,0,0]) 5)).heap.size (((w.alloc (.cells #[.slice (some ⟨gb,go,none⟩) 9 gc] 117)).alloc (.cells #[.int .i64 8] 3)).alloc (.cells (arrB [0,0,0,0,0,0,0,0]) 5)) ((((w.alloc (.cells #[.slice (some ⟨gb,go,none⟩) 9 gc] 117)).alloc (.cells #[.int .i64 8] 3)).alloc (.cells (arrB [0,0,0,0,0,0,0,0]) 5)).alloc (.cells #[.slice (some ⟨w.heap.size+1+1,0,none⟩) 8 8] 117)):=(Below.refl _ _).alloc (Nat.le_refl _) _;have s1:(w.alloc (.cells #[.slice (some ⟨gb,go,none⟩) 9 gc] 117)).heap.size=w.heap.size+1:=by simp
 have s2:((w.alloc (.cells #[.slice (some ⟨gb,go,none⟩) 9 gc] 117)).alloc (.cells #[.int .i64 8] 3)).heap.size=w.heap.size+2:=by simp
 have s3:(((w.alloc (.cells #[.slice (some ⟨gb,go,none⟩) 9 gc] 117)).alloc (.cells #[.int .i64 8] 3)).alloc (.cells (arrB [0,0,0,0,0,0,0,0]) 5)).heap.size=w.heap.size+3:=by simp
 have k1:=(Boxed.new w 117 (.slice (some ⟨gb,go,none⟩) 9 gc)).cell;have k2:=(Boxed.new (w.alloc (.cells #[.slice (some ⟨gb,go,none⟩) 9 gc] 117)) 3 (.int .i64 8)).cell;have k3:=U8B.new ((w.alloc (.cells #[.slice (some ⟨gb,go,none⟩) 9 gc] 117)).alloc (.cells #[.int .i64 8] 3)) [0,0,0,0,0,0,0,0];have k4:=(Boxed.new (((w.alloc (.cells #[.slice (some ⟨gb,go,none⟩) 9 gc] 117)).alloc (.cells #[.int .i64 8] 3)).alloc (.cells (arrB [0,0,0,0,0,0,0,0]) 5)) 117 (.slice (some ⟨w.heap.size+1+1,0,none⟩) 8 8)).cell;rw[s1]at k2;rw[s2]at k3;rw[s3]at k4;have hgl:gb<w.heap.size:=World.block_lt_of_cell? _ _ (hg 0 (by omega));refine⟨_,rfl,⟨?_,?_,?_,k4,fun i hi=>?_,hgl⟩,?_⟩;{exact cell_below b4 (cell_below b3 (cell_below b2 k1))};{exact cell_below b4 (cell_below b3 k2)};{exact Blk.kept k3 b4};{exact cell_below b4 (cell_below b3 (cell_below b2 (cell_below b1 (hg i hi))))};{exact b1.trans ((b2.trans ((b3.trans (b4.mono b3.size)).mono b2.size)).mono b1.size)}};obtain⟨W4,hW4,hd,hbw⟩:=hm;have HW4:=zY hW4;have HD:=zY hd;have HB:=zY hbw;clear hW4 hd hbw hg;go_enter func307,ntmps307;go_wp2;rw[HW4.out];clear HW4;go_cut [2,3] (fun s2 s3 wx=>s2=.func (.func 357) #[] #[.pointer (some ⟨w.heap.size+3,0,none⟩),.pointer (some ⟨w.heap.size+1,0,none⟩),.pointer (some ⟨w.heap.size,0,none⟩)]/\s3=.slice (some ⟨w.heap.size+2,0,none⟩) 8 8/\DivSt wx w.heap.size gb go gc [0,0,0,0,0,0,0,0]/\Below w.heap.size w wx)
 case first=>refine wp_region_held_drew (S:=(fun w'=>w'.cell? ⟨w.heap.size+1+1+1,0,none⟩=some (.slice (some ⟨w.heap.size+2,0,none⟩) 8 8))) (by kernel_rfl) ?_ (fun hHeld=>?_);{exact HD.rest};refine tk 0 ?_;refine tk 1 ?_;refine tk 2 ?_;refine tk 3 ?_;refine wpAnyH_done (by kernel_rfl) ?_ _;go_wp2_with fail;go_meet;exact⟨rfl,rfl,HD.drw,HB.drew⟩
 case rest=>
 obtain⟨rfl,rfl,hd,hbw⟩:=hcut;have HD2:=zY hd;have HB2:=zY hbw;clear hd hbw HD HB;go_wp2_with fail;go_ret2;exact⟨rfl,HD2.out,HB2.out⟩
theorem rsencode_any (w:World) (s:ByteArray) (hs:s.size=44):Calls prog 253 #[.string s,.int .i64 8] w fun e w'=>e=.returned (.tuple #[.string (strB (rsEnc (bs s))),.int .i64 0])/\Below w.heap.size w w':=by
 have hbl:=bs_len s;go_enter func253,ntmps253;go_wp2_with fail;refine(gen_any _).mono ?_;rintro e w1 ⟨v,rfl,hv,hb1⟩;obtain⟨A,c,rfl,h1,h2,h3⟩:=hv;have hv:BytesAt w1 (.slice A 9 c) G8:=⟨A,c,rfl,h1,h2,h3⟩;obtain⟨gb,go,rfl,_⟩:=BytesAt.cell hv (i:=0) rfl;have HG:Hid (∀i,i<9->w1.cell? ⟨gb,go+i,none⟩=some (.int .u8 (cf G8 i:Nat))):=zY (fun i hi=>by
  obtain⟨b',o',e1,e2⟩:=BytesAt.cell hv (i:=i) (x:=cf G8 i) (by unfold cf;rw[List.getElem?_eq_getElem (by simpa [G8]using hi)];rfl)
  cases e1
  exact e2);have Hb1:=zY hb1;clear hv h1 h2 h3 hb1;go_wp2_with fail;refine(divider_any w1 gb go c HG.out).mono ?_;rintro e w2 ⟨rfl,hd,hb2⟩;have HD:=zY hd;have HB2:=zY hb2;have hszB:=Hb1.size;clear hd hb2 HG;generalize w1.heap.size=B at *;go_wp2_with fail;go_loopw [31] (fun x wr=>∃i:Nat,i<=s.size/\x=.int .i64 (i:Int)/\DivSt wr B gb go c (((bs s).take i).foldl (lfsr G8) (List.replicate 8 0))/\Below B w1 wr) (fun x _=>s.size-(intOf x).toNat);case atStart=>exact⟨0,by omega,rfl,HD.out,HB2.out⟩
 case round=>
 obtain⟨i,hi,rfl,hd,hbw⟩:=hrel;have hrl:(((bs s).take i).foldl (lfsr G8) (List.replicate 8 0)).length=8/\Bytes (((bs s).take i).foldl (lfsr G8) (List.replicate 8 0)):=by have h:=rsPar_inv ((bs s).take i) (fun x hx=>bs_lt s x (List.mem_of_mem_take hx));unfold rsPar at h;rw[genP_8]at h;exact⟨h.1,h.2.1⟩
 by_cases h:i<s.size;{
 have hiI:(i:Int)<s.size:=by omega
 have hb8:(s[i]'h).toNat<256:=UInt8.toNat_lt _;have hst:((bs s).take (i+1)).foldl (lfsr G8) (List.replicate 8 0)=lfsr G8 (((bs s).take i).foldl (lfsr G8) (List.replicate 8 0)) (s[i]'h).toNat:=by rw[List.take_add_one,bs_get s i h];simp[List.foldl_append]
 have Hst:=zY hst;have Hc:=zY (div1_any wr B gb go c _ (s[i]'h).toNat hd hrl.1 hrl.2 hb8);have HBw:=zY hbw;clear hst hd hbw hrl hb8;go_wp2_with (go_at_call 357;refine Hc.mono ?_;rintro e w3 ⟨⟨x,rfl⟩,hd3,hb3⟩);go_roundw;case rel=>exact⟨i+1,by omega,by go_num,by rw[Hst.out];exact hd3,HBw.trans hb3⟩
 case measure=>simp[intOf];omega};{
 obtain rfl:i=s.size:=by omega
 have hrw:((bs s).take s.size)=bs s:=List.take_of_length_le (by omega);rw[hrw]at hd hrl;have hrr:(bs s).foldl (lfsr G8) (List.replicate 8 0)=rsPar (bs s):=by unfold rsPar;rw[genP_8]
 rw[hrr]at hd hrl;have hcs:=run_toStr (hd.row.bytes (n:=8) (c:=8) hrl.1.symm (Nat.le_refl _) (by omega)) hrl.1.symm;have zr:(strB (rsPar (bs s))).size=8:=by rw[strB_size,hrl.1]
 have HE:Hid (s++strB (rsPar (bs s))=strB (rsEnc (bs s))):=zY (by unfold rsEnc;rw[<-strB_cat,strB_bs]);have HBw:=zY hbw;clear hd hbw hrl hrw hrr hbl;go_wp2_with fail;go_ret2;exact⟨by rw[<-HE.out];rfl,Hb1.trans (HBw.mono hszB)⟩}
theorem fenc1_any (w:World) (s:ByteArray) (hs:s.size=44):Calls prog 252 #[.string s] w fun e w'=>e=.returned (.string (strB (rsEnc (bs s))))/\Below w.heap.size w w':=by
 have H:=zY (rsencode_any w s hs);clear hs;go_enter func252,ntmps252;go_wp2_with (go_at_call 253;refine H.mono ?_;rintro e w' ⟨rfl,hb⟩);go_ret;exact⟨rfl,hb⟩
theorem fenc2_any (w:World) (s:ByteArray) (u:List Nat) (hs:bs s=bitsS u) (hu:Bits u) (hz:s.size=416):Calls prog 254 #[.string s] w fun e w'=>e=.returned (.string (strB (cenc 0 (u++[0,0]))))/\Below w.heap.size w w':=by
 have H:=zY (venc_any w s u hs hu hz);clear hs hu hz;go_enter func254,ntmps254;go_wp2_with (go_at_call 255;refine H.mono ?_;rintro e w' ⟨rfl,hb⟩);go_ret;exact⟨rfl,hb⟩
theorem fenc3_any (w:World) (s:ByteArray) (hs:s.size=836):Calls prog 256 #[.string s] w fun e w'=>e=.returned (.string (strB (interL (bs s))))/\Below w.heap.size w w':=by
 have H:=zY (inter_any w s hs);clear hs;go_enter func256,ntmps256;go_wp2_with (go_at_call 257;refine H.mono ?_;rintro e w' ⟨rfl,hb⟩);go_ret;exact⟨rfl,hb⟩
abbrev fnV (f:Nat):Value:=.func (.func f) #[] #[]
theorem fencs_any (w:World):Calls prog 171 #[] w fun e w'=>e=.returned (.slice (some ⟨w.heap.size,0,none⟩) 4 4)/\w.alloc (.cells #[fnV 252,fnV 168,fnV 254,fnV 256] 113)=w':=by
 go_enter func171,ntmps171;go_wp2;go_ret;exact⟨rfl,rfl⟩
theorem fenc_any (w:World) (k r s i l d p a:Int) (t:ByteArray) (ht:t.size<=1000) (ha:0<=a/\a<4294967296):
  Calls prog 96 #[frV k r s i l d p a t] w fun e w'=>e=.returned (fencR k r s i l d p a t)/\Below w.heap.size w w':=by
 obtain⟨R,hR⟩:=zNm (fencR k r s i l d p a t);rw[hR];unfold fencR at hR;have HMr:=zY (fun W=>fmar_any W k r s i l d p a t ht ha);have HB:=zY (zBl w (.cells #[.int .i64 k,.int .i64 r,.int .i64 s,.int .i64 i,.int .i64 l,.int .i64 d,.int .i64 p,.int .u32 a,.string t] 49));have HZ:=zY (Box9.blk (Blk.new w 49 [.int .i64 k,.int .i64 r,.int .i64 s,.int .i64 i,.int .i64 l,.int .i64 d,.int .i64 p,.int .u32 a,.string t]));change Hid (Box9 (w.alloc (.cells #[.int .i64 k,.int .i64 r,.int .i64 s,.int .i64 i,.int .i64 l,.int .i64 d,.int .i64 p,.int .u32 a,.string t] 49)) _ _ _ _ _ _ _ _ _ _)at HZ;unfold marR at HMr;by_cases h0:frE k r s i l d p t=0;{
 rw[if_neg (by simpa using h0)]at hR HMr;have hmb:Bytes (marL k.toNat r.toNat s.toNat i.toNat l.toNat d.toNat p.toNat a.toNat t)/\(marL k.toNat r.toNat s.toNat i.toNat l.toNat d.toNat p.toNat a.toNat t).length=44:=by{
 obtain⟨h1,h2,h3,h4,h5,h6,h7,h8⟩:=frE_ok h0;have e:frE (k.toNat:Int) (r.toNat:Int) (s.toNat:Int) (i.toNat:Int) (l.toNat:Int) (d.toNat:Int) (p.toNat:Int) t=0:=by rw[Int.toNat_of_nonneg (by omega),Int.toNat_of_nonneg (by omega),Int.toNat_of_nonneg (by omega),Int.toNat_of_nonneg (by omega),Int.toNat_of_nonneg (by omega),Int.toNat_of_nonneg (by omega),Int.toNat_of_nonneg (by omega)];exact h0
 obtain⟨c,_,_,h9,h10,_,_⟩:=mar_ok (a:=a.toNat) e (by omega);exact⟨h9,h10⟩};obtain⟨m,hm⟩:=zNm (marL k.toNat r.toNat s.toNat i.toNat l.toNat d.toNat p.toNat a.toNat t);rw[hm]at hR HMr hmb;obtain⟨hmB,hml⟩:=hmb;obtain⟨hwl,hwB⟩:=rsEnc_ok hmB hml;have H1:Hid (∀W:World,Calls prog 252 #[.string (stepS m 0)] W fun e w'=>e=.returned (.string (stepS m 1))/\Below W.heap.size W w'):=zY (fun W=>by
  have h:=fenc1_any W (strB m) (by rw[strB_size,hml])
  rw[bs_strB hmB]at h
  exact h);have H2:Hid (∀W:World,Calls prog 168 #[.string (stepS m 1)] W fun e w'=>e=.returned (.string (stepS m 2))/\Below W.heap.size W w'):=zY (fun W=>by
  have h:=cfrom_any W (strB (rsEnc m)) (by rw[strB_size,hwl];omega)
  rw[bs_strB hwB]at h
  exact h);have H3:Hid (∀W:World,Calls prog 254 #[.string (stepS m 2)] W fun e w'=>e=.returned (.string (stepS m 3))/\Below W.heap.size W w'):=zY (fun W=>
  fenc2_any W (strB (frmB (rsEnc m))) (bitU (rsEnc m)) (by rw[bitsS_bitU,bs_strB];intro x hx;rcases frmB_01 _ x hx with rfl|rfl<;>decide) (bitU_bits _) (by rw[strB_size,frmB_len,hwl]));have H4:Hid (∀W:World,Calls prog 256 #[.string (stepS m 3)] W fun e w'=>e=.returned (.string (stepS m 4))/\Below W.heap.size W w'):=zY (fun W=>by
  have h:=fenc3_any W (strB (cellL m)) (by rw[strB_size,cellL_len hmB hml])
  rw[bs_strB (fun x hx=>by rcases cellL_01 m x hx with rfl|rfl<;>decide)]at h
  exact h);have z4:(stepS m 4).size=836:=by show (strB (bodyL m)).size=_;rw[strB_size,bodyL_len]
 have zk:markS.size=16:=by decide
 have hap:∀x y:ByteArray,(x++y).size=x.size+y.size:=fun x y=>ByteArray.size_append;have HR:Hid (Value.tuple #[.string (markS++stepS m 4),.int .i64 0]=R):=zY hR;have HMr2:Hid (∀W:World,Calls prog 170 #[frV k r s i l d p a t] W fun e w'=>e=.returned (.tuple #[.string (stepS m 0),.int .i64 0])/\Below W.heap.size W w'):=zY HMr.out;clear hR h0 hm hmB hml hwl hwB HMr ht ha;have HK:Hid (∀W:World,Calls prog 172 #[] W fun e w'=>e=.returned (.string markS)/\W=w'):=zY (fun W=>mark_any W);generalize hS:stepS m=S at *;clear hS;generalize markS=K at *;unfold frV at HMr2⊢;go_enter func96,ntmps96;go_upto_region 1 with fail;generalize w.alloc (.cells #[.int .i64 k,.int .i64 r,.int .i64 s,.int .i64 i,.int .i64 l,.int .i64 d,.int .i64 p,.int .u32 a,.string t] 49)=wz at *;obtain⟨c0,c1,c2,c3,c4,c5,c6,c7,c8⟩:=HZ.out;go_upto_region 5 with(first|(go_at_call 170;refine(HMr2.out _).mono ?_;rintro e w1 ⟨rfl,hb1⟩)|(go_at_call 171;refine(fencs_any _).mono ?_;rintro e w2 ⟨rfl,rfl⟩))
 have hA:Below w1.heap.size w1 (w1.alloc (.cells #[fnV 252,fnV 168,fnV 254,fnV 256] 113)):=(Below.refl _ _).alloc (Nat.le_refl _) _;have HB1:=zY (HB.trans ((hb1.trans (hA.mono hb1.size)).mono HB.size));have HF0:=zY (Blk.new w1 113 [fnV 252,fnV 168,fnV 254,fnV 256]);change Hid (Blk (w1.alloc (.cells #[fnV 252,fnV 168,fnV 254,fnV 256] 113)) _ _ _)at HF0;clear hb1 hA HZ HB HMr2 c0 c1 c2 c3 c4 c5 c6 c7 c8;generalize w1.alloc (.cells #[fnV 252,fnV 168,fnV 254,fnV 256] 113)=w2 at *;generalize w1.heap.size=g at *;go_loopw [4,18] (fun v x wr=>∃i:Nat,i<=4/\x=.int .i64 (i:Int)/\v=.string (S i)/\Blk wr g 113 [fnV 252,fnV 168,fnV 254,fnV 256]/\Below w.heap.size w wr) (fun _ x _=>4-(intOf x).toNat);case atStart=>exact⟨0,by omega,rfl,rfl,HF0.out,HB1.out⟩
 case round=>
 obtain⟨i,hi,rfl,rfl,hf,hbw⟩:=hrel;have HF:=zY hf;have HBw:=zY hbw;clear HF0 HB1;rcases (by omega:i=0∨i=1∨i=2∨i=3∨i=4)with rfl|rfl|rfl|rfl|rfl;{
 have c0:=hf.c 0;clear hf hbw;go_wp2_with (go_at_call 252;refine(H1.out _).mono ?_;rintro e w2 ⟨rfl,hb2⟩);go_roundw;case rel=>exact⟨1,by omega,rfl,rfl,HF.kept hb2,HBw.trans (hb2.mono HBw.size)⟩
 case measure=>simp[intOf]};{
 have c1:=hf.c 1;clear hf hbw;go_wp2_with (go_at_call 168;refine(H2.out _).mono ?_;rintro e w2 ⟨rfl,hb2⟩);go_roundw;case rel=>exact⟨2,by omega,rfl,rfl,HF.kept hb2,HBw.trans (hb2.mono HBw.size)⟩
 case measure=>simp[intOf]};{
 have c2:=hf.c 2;clear hf hbw;go_wp2_with (go_at_call 254;refine(H3.out _).mono ?_;rintro e w2 ⟨rfl,hb2⟩);go_roundw;case rel=>exact⟨3,by omega,rfl,rfl,HF.kept hb2,HBw.trans (hb2.mono HBw.size)⟩
 case measure=>simp[intOf]};{
 have c3:=hf.c 3;clear hf hbw;go_wp2_with (go_at_call 256;refine(H4.out _).mono ?_;rintro e w2 ⟨rfl,hb2⟩);go_roundw;case rel=>exact⟨4,by omega,rfl,rfl,HF.kept hb2,HBw.trans (hb2.mono HBw.size)⟩
 case measure=>simp[intOf]};{
 clear hf hbw;go_wp2_with (go_at_call 172;refine(HK.out _).mono ?_;rintro e w2 ⟨rfl,rfl⟩);rw[<-HR.out];exact bodyPost_ret (v:=.tuple #[.string (K++S 4),.int .i64 0]) (by simp[results,results96,go_sem]) rfl ⟨rfl,HBw.out⟩}};{
 have h1:(frE k r s i l d p t != 0)=true:=by simpa using h0
 rw[if_pos h0]at hR HMr;obtain⟨E,hE⟩:=zNm (frE k r s i l d p t);rw[hE]at hR HMr h1;have HR:=zY hR;clear hR h0 hE ht ha;unfold frV at HMr⊢;go_enter func96,ntmps96;go_upto_region 1 with fail;generalize w.alloc (.cells #[.int .i64 k,.int .i64 r,.int .i64 s,.int .i64 i,.int .i64 l,.int .i64 d,.int .i64 p,.int .u32 a,.string t] 49)=wz at *;obtain⟨c0,c1,c2,c3,c4,c5,c6,c7,c8⟩:=HZ.out;go_wp2_with (go_at_call 170;refine(HMr.out _).mono ?_;rintro e w1 ⟨rfl,hb1⟩);rw[<-HR.out];exact bodyPost_ret (v:=.tuple #[.string ⟨#[]⟩,.int .i64 E]) (by simp[results,results96,go_sem]) rfl ⟨rfl,HB.trans (hb1.mono HB.size)⟩}
end
end Go.Proofs.YthgenkkkapilhaaGreatDoor