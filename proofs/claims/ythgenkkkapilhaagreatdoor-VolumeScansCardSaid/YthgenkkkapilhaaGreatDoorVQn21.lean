/-
  Joined: VqM VqN.
-/
import Derived.Test.YthgenkkkapilhaaGreatDoorVQn16
set_option linter.all false
set_option maxRecDepth 100000
set_option maxHeartbeats 64000000
namespace Go.Proofs.YthgenkkkapilhaaGreatDoor
open Go.Proofs.Tryz
section
open Go.RowKit
theorem sumX_nonneg {l:List Ext} (h:∀x∈l,extB x=true):0<=sumX l:=by
 induction l with
 |nil=>exact Int.le_refl _
 |cons x r ih=>
 have h1:=of_decide_eq_true (h x List.mem_cons_self);have h2:=ih fun y hy=>h y (List.mem_cons_of_mem _ hy);rw[sumX];omega
theorem encontent_ok (w:World) (e:Ent) (va vx:Value) (hvx:SeqAt extS w vx e.exts) (h:EntOk e):Calls prog 315 #[entV e va vx] w fun r w'=>r=.returned (.int .i64 0)/\Below w.heap.size w w':=by
 obtain⟨k,path,attrs,t,size,dig,exts⟩:=e;have hsize:=h.size;have hdig:=h.dig;have hexts:=h.exts;clear h;dsimp only at hvx hsize hdig hexts;rw[entV];dsimp only;have Hvx:=zY hvx;obtain⟨Ax,cx,rfl,hx1,hx2⟩:=hvx.slice;clear hvx;have hK:=Blk.new w 182 [.int .i64 k,.string path,va,.string t,.int .i64 size,.string dig,.slice Ax exts.length cx];change Blk (w.alloc (.cells #[.int .i64 k,.string path,va,.string t,.int .i64 size,.string dig,.slice Ax exts.length cx] 182)) _ _ _ at hK;have HK:=zY hK;have HB:=zY (zBl w (.cells #[.int .i64 k,.string path,va,.string t,.int .i64 size,.string dig,.slice Ax exts.length cx] 182));clear hK;by_cases h1:k=1;{
 have i1:(k==1)=true:=by rw[h1];rfl
 have i1':(k != 1)=false:=by rw[h1];rfl
 have hd:=hdig.1 h1;have i2:((dig.size:Int) != 32)=false:=by rw[hd];rfl
 have i3:¬size<0:=by omega
 have i4:¬65536<size:=by omega
 have HX:=zY hexts.2.1;have HS:=zY hexts.2.2;clear h1 hsize hdig hexts hd;go_enter func315,ntmps315;go_upto_region 2 with fail;generalize w.alloc (.cells #[.int .i64 k,.string path,va,.string t,.int .i64 size,.string dig,.slice Ax exts.length cx] 182)=wa at *;have c0:=HK.c 0;have c4:=HK.c 4;have c5:=HK.c 5;have c6:=HK.c 6;go_wp2;go_loopw [32] (fun x wr=>∃i:Nat,i<=exts.length/\x=.int .i64 (i:Int)/\Below wa.heap.size wa wr) (fun x _=>exts.length-(intOf x).toNat);case atStart=>exact⟨0,by omega,rfl,Below.refl _ _⟩
 case round=>
 obtain⟨i,hi,rfl,hB⟩:=hrel;have HBr:=zY hB;have HKr:=zY (HK.kept hB);clear hB c0 c4 c5 c6;have c0:=HKr.c 0;have c6:=HKr.c 6;by_cases h:i<exts.length;{
 have hiI:(i:Int)<exts.length:=by omega
 obtain⟨x,hx'⟩:∃x,exts[i]?=some x:=⟨_,List.getElem?_eq_getElem h⟩;have hxb:=of_decide_eq_true (HX.out x (List.mem_of_getElem? hx'));obtain⟨_,_,e9,_,_,h4⟩:=Hvx.below (HB.trans (HBr.mono HB.size));cases e9;obtain⟨b,o,cs,rfl,rfl,hc⟩:=h4 i x hx';obtain⟨x0,x1,x2⟩:=x;dsimp only at hxb;have e0:wr.cell? ⟨b,o+i*3,none⟩=some (.int .i64 x0):=hc 0 _ rfl;have e1:wr.cell? ⟨b,o+i*3+1,none⟩=some (.int .i64 x1):=hc 1 _ rfl;have e2:wr.cell? ⟨b,o+i*3+2,none⟩=some (.int .i64 x2):=hc 2 _ rfl;have hT:=Blk.new wr 252 [.int .i64 x0,.int .i64 x1,.int .i64 x2];change Blk (wr.alloc (.cells #[.int .i64 x0,.int .i64 x1,.int .i64 x2] 252)) _ _ _ at hT;have HT:=zY hT;have HBt:=zY (HBr.alloc HBr.size (.cells #[.int .i64 x0,.int .i64 x1,.int .i64 x2] 252));have HKt:=zY (HKr.kept (zBl wr (.cells #[.int .i64 x0,.int .i64 x1,.int .i64 x2] 252)));have j1:¬x0<0:=by omega
 have j2:¬255<x0:=by omega
 have j3:¬x2<1:=by omega
 have j4:¬65536<x2:=by omega
 have j5:¬x1<0:=by omega
 have j6:¬2147483647<x1:=by omega
 have j7:((x0==0)=false)∨((x0==0)=true/\(x1 != 0)=false):=by{
 by_cases q:x0=0;{
 refine .inr ⟨by rw[q];rfl,?_⟩;have:x1=0:=by by_cases q2:x1=0;{exact q2};{exact absurd ⟨q,q2⟩ hxb.2.2.2.2.2.2}
 rw[this];rfl};{exact .inl (beq_eq_false_iff_ne.2 q)}};clear hc h4 hx' hxb hT;go_upto_region 12 with fail;generalize wr.alloc (.cells #[.int .i64 x0,.int .i64 x1,.int .i64 x2] 252)=wt at *;clear c0 c6 e0 e1 e2;have c0:=HKt.c 0;have t0:=HT.c 0;have t1:=HT.c 1;have t2:=HT.c 2;rcases j7 with j7|⟨j7,j8⟩;{
 go_wp2;go_roundw;case rel=>exact⟨i+1,by omega,by go_num,HBt.out⟩
 case measure=>simp[intOf];omega};{
 go_wp2;go_roundw;case rel=>exact⟨i+1,by omega,by go_num,HBt.out⟩
 case measure=>simp[intOf];omega}};{
 obtain rfl:i=exts.length:=by omega
 have hiI:¬((exts.length:Nat):Int)<(exts.length:Int):=by omega
 obtain⟨wy,rfl⟩:∃x,x=wr:=⟨_,rfl⟩;go_wp2;go_loopw [5,81] (fun y x wr=>∃(i:Nat) (S:Int),i<=exts.length/\x=.int .i64 (i:Int)/\y=.int .i64 S/\S=sumX (exts.drop i)/\S<=65536/\Below wy.heap.size wy wr) (fun _ x _=>exts.length-(intOf x).toNat);case atStart=>exact⟨0,size,by omega,rfl,rfl,by rw[List.drop_zero];exact HS.symm,by omega,Below.refl _ _⟩
 case round=>
 obtain⟨i,S,hi,rfl,rfl,hS,hS2,hB2⟩:=hrel;have HSS:=zY hS;have HB2:=zY hB2;clear hS hB2 c0 c6;by_cases h:i<exts.length;{
 have hiI:(i:Int)<exts.length:=by omega
 obtain⟨x,hx'⟩:∃x,exts[i]?=some x:=⟨_,List.getElem?_eq_getElem h⟩;have hxb:=of_decide_eq_true (HX.out x (List.mem_of_getElem? hx'));have hd:exts.drop i=x::exts.drop (i+1):=by obtain⟨h1,h2⟩:=List.getElem?_eq_some_iff.1 hx';rw[List.drop_eq_getElem_cons h1,h2]
 have hn:=sumX_nonneg (l:=exts.drop (i+1)) (fun y hy=>HX.out y (List.mem_of_mem_drop hy));have hs2:S=x.l+sumX (exts.drop (i+1)):=by rw[HSS.out,hd,sumX]
 have HN:Hid (S-x.l=sumX (exts.drop (i+1))):=zY (by omega);obtain⟨_,_,e9,_,_,h4⟩:=Hvx.below (HB.trans ((HBr.trans (HB2.mono HBr.size)).mono HB.size));cases e9;obtain⟨b,o,cs,rfl,rfl,hc⟩:=h4 i x hx';obtain⟨x0,x1,x2⟩:=x;dsimp only at hxb hs2 HN;have e0:wr.cell? ⟨b,o+i*3,none⟩=some (.int .i64 x0):=hc 0 _ rfl;have e1:wr.cell? ⟨b,o+i*3+1,none⟩=some (.int .i64 x1):=hc 1 _ rfl;have e2:wr.cell? ⟨b,o+i*3+2,none⟩=some (.int .i64 x2):=hc 2 _ rfl;have hT:=Blk.new wr 252 [.int .i64 x0,.int .i64 x1,.int .i64 x2];change Blk (wr.alloc (.cells #[.int .i64 x0,.int .i64 x1,.int .i64 x2] 252)) _ _ _ at hT;have HT:=zY hT;have HBt:=zY (HB2.alloc HB2.size (.cells #[.int .i64 x0,.int .i64 x1,.int .i64 x2] 252));have j1:¬S<x2:=by omega
 have j2:S-x2<=65536:=by omega
 have jw:IntKind.i64.wrap (S-x2)=S-x2:=zIw (by omega);clear hc h4 hx' hxb hT hd hs2 hn;go_upto_region 20 with fail;generalize wr.alloc (.cells #[.int .i64 x0,.int .i64 x1,.int .i64 x2] 252)=wt at *;clear e0 e1 e2;have t2:=HT.c 2;go_wp2;go_roundw;case rel=>exact⟨i+1,_,by omega,by go_num,rfl,HN.out,j2,HBt.out⟩
 case measure=>simp[intOf];omega};{
 obtain rfl:i=exts.length:=by omega
 have hiI:¬((exts.length:Nat):Int)<(exts.length:Int):=by omega
 obtain rfl:S=0:=by rw[HSS.out,List.drop_length];rfl
 go_wp2;go_ret;exact⟨rfl,HB.trans ((HBr.trans (HB2.mono HBr.size)).mono HB.size)⟩}}};{
 have i1:(k==1)=false:=by rw[beq_eq_false_iff_ne];exact h1
 have i1':(k != 1)=true:=by rw[bne,i1];rfl
 obtain rfl:size=0:=hsize.2.2 h1;have hd:=hdig.2 h1;have i2:((dig.size:Int) != 0)=false:=by rw[hd];rfl
 obtain rfl:exts=[]:=by{
 cases exts with
 |nil=>rfl
 |cons x r=>exact absurd (hexts.1 (by simp)) h1};clear h1 hsize hdig hexts hd hx1;go_enter func315,ntmps315;go_upto_region 2 with fail;change Blk (w.alloc (.cells #[.int .i64 k,.string path,va,.string t,.int .i64 0,.string dig,.slice Ax 0 cx] 182)) _ _ [.int .i64 k,.string path,va,.string t,.int .i64 0,.string dig,.slice Ax 0 cx]at HK;have HK:=zY HK;generalize w.alloc (.cells #[.int .i64 k,.string path,va,.string t,.int .i64 0,.string dig,.slice Ax 0 cx] 182)=wa at *;have c0:=HK.c 0;have c4:=HK.c 4;have c5:=HK.c 5;have c6:=HK.c 6;go_wp2;go_loopw [32] (fun x wr=>x=.int .i64 0/\wa=wr) (fun x _=>0);case atStart=>exact⟨rfl,rfl⟩
 case round=>
 obtain⟨rfl,rfl⟩:=hrel;go_wp2;go_loopw [5,81] (fun y x wr=>x=.int .i64 0/\y=.int .i64 0/\wa=wr) (fun x _ _=>0);case atStart=>exact⟨rfl,rfl,rfl⟩
 case round=>
 obtain⟨rfl,rfl,rfl⟩:=hrel;go_wp2;go_ret;exact⟨rfl,HB.out⟩}
theorem encheck_ok (w:World) (e:Ent) (va vx:Value) (hva:SeqAt atrS w va e.attrs) (hvx:SeqAt extS w vx e.exts) (h:EntOk e) (hT:Tab w):Calls prog 263 #[entV e va vx] w fun r w'=>r=.returned (.int .i64 0)/\Below w.heap.size w w':=by
 have HTg:=zY (fun W (hW:Below w.heap.size w W)=>entarget_ok W e va vx h.tgt (hT.below hW));have HCo:=zY (fun W (hW:Below w.heap.size w W)=>encontent_ok W e va vx (hvx.below hW) h);have HAt:=zY (fun W (hW:Below w.heap.size w W)=>atcheck_ok W va e.attrs (hva.below hW) h.attrs);have HPa:=zY (fun W (hW:Below w.heap.size w W)=>pcheck_ok W e.path h.path (hT.below hW));have hk:=h.kind;have hn:=h.named;have hb:=h.bare;clear h hT;obtain⟨k,path,attrs,t,size,dig,exts⟩:=e;dsimp only at hva hvx hk hn hb HTg HCo HAt HPa;obtain⟨Aa,ca,rfl,ha1,ha2⟩:=hva.slice;obtain⟨Ax,cx,rfl,hx1,hx2⟩:=hvx.slice;clear hva hvx;rw[entV]at HTg HCo⊢;dsimp only at HTg HCo⊢;have hK:=Blk.new w 182 [.int .i64 k,.string path,.slice Aa attrs.length ca,.string t,.int .i64 size,.string dig,.slice Ax exts.length cx];change Blk (w.alloc (.cells #[.int .i64 k,.string path,.slice Aa attrs.length ca,.string t,.int .i64 size,.string dig,.slice Ax exts.length cx] 182)) _ _ _ at hK;have HB0:=zY (zBl w (.cells #[.int .i64 k,.string path,.slice Aa attrs.length ca,.string t,.int .i64 size,.string dig,.slice Ax exts.length cx] 182));have HK:=zY hK;clear hK;have i1:¬k<1:=by omega
 have i2:¬6<k:=by omega
 have Hn:=zY hn;have Hb:=zY hb;have Hk:=zY hk;clear hk hn hb;go_enter func263,ntmps263;go_upto_region 1 with fail;generalize w.alloc (.cells #[.int .i64 k,.string path,.slice Aa attrs.length ca,.string t,.int .i64 size,.string dig,.slice Ax exts.length cx] 182)=wb at *;have c0:=HK.c 0;have c1:=HK.c 1;go_wp2_with fail;refine(HPa.out _ HB0.out).mono ?_;rintro e2 w2 ⟨rfl,hb2⟩;have HK2:=zY (HK.kept hb2);have HB2:=zYt HB0 hb2;clear hb2 HK HB0 c0 c1;have c0:=HK2.c 0;have c1:=HK2.c 1;go_upto_region 6 with fail;go_cut [31] (fun s wx=>s=.bool false/\w2=wx);case first=>(
 by_cases h0:path.size=0;{
 have e0:path.toList.isEmpty=true:=by rw[show path=⟨#[]⟩ by apply ByteArray.ext;exact Array.eq_empty_of_size_eq_zero h0];exact isEmptyV0
 have h5:=Hn.out h0;have h6:=Hk.out;clear h0;by_cases h7:k=5;{
 have f1:(k != 5)=false:=by rw[h7];rfl
 clear h5 h6 h7;go_wp2_with fail;go_meet;exact⟨rfl,rfl⟩};{
 have f1:(k != 5)=true:=by rw[bne,beq_eq_false_iff_ne.2 h7];rfl
 have f2:(k != 6)=false:=by rw[show k=6 by omega];rfl
 clear h5 h6 h7;go_wp2_with fail;go_meet;exact⟨rfl,rfl⟩}};{
 have e0:path.toList.isEmpty=false:=isEmptyV h0;clear h0;go_wp2_with fail;go_meet;exact⟨rfl,rfl⟩})
 case rest=>
 obtain⟨rfl,rfl⟩:=hcut;have c2:=HK2.c 2;go_wp2_with fail;refine(HAt.out _ HB2.out).mono ?_;rintro e3 w3 ⟨rfl,hb3⟩;have HK3:=zY (HK2.kept hb3);have HB3:=zYt HB2 hb3;clear hb3 HK2 HB2 c0 c1 c2;have c0:=HK3.c 0;have c2:=HK3.c 2;have c1:=HK3.c 1;have c3:=HK3.c 3;have c4:=HK3.c 4;have c5:=HK3.c 5;have c6:=HK3.c 6;go_upto_region 11 with fail;go_cut [51] (fun s wx=>∃W,s=.bool false/\W=wx/\Below w3.heap.size w3 W);case first=>(
 have hz2:(¬(0:Int)<attrs.length)∨((0:Int)<attrs.length/\¬3<k):=by by_cases q:0<attrs.length;{have:=Hb.out q;exact .inr ⟨by omega,by omega⟩};{exact .inl (by omega)}
 rcases hz2 with f1|⟨f1,f2⟩;{
 go_wp2_with fail;refine(HTg.out _ HB3.out).mono ?_;rintro e4 w4 ⟨rfl,hb4⟩;go_wp2_with fail;go_meet;exact⟨_,rfl,rfl,hb4⟩};{
 go_wp2_with fail;refine(HTg.out _ HB3.out).mono ?_;rintro e4 w4 ⟨rfl,hb4⟩;go_wp2_with fail;go_meet;exact⟨_,rfl,rfl,hb4⟩})
 case rest=>
 obtain⟨w4,rfl,rfl,hb4⟩:=hcut;have HK4:=zY (HK3.kept hb4);have HB4:=zYt HB3 hb4;clear hb4 HK3 HB3 c0 c1 c2 c3 c4 c5 c6;have c0:=HK4.c 0;have c2:=HK4.c 2;have c1:=HK4.c 1;have c3:=HK4.c 3;have c4:=HK4.c 4;have c5:=HK4.c 5;have c6:=HK4.c 6;go_wp2_with fail;refine(HCo.out _ HB4.out).mono ?_;rintro e5 w5 ⟨rfl,hb5⟩;have HB5:=zYt HB4 hb5;clear hb5;go_wp2_with fail;go_ret;exact⟨rfl,HB5.out⟩
def namesB:List ByteArray:=[⟨#[102,105,108,101]⟩,⟨#[100,105,114]⟩,⟨#[108,105,110,107]⟩,⟨#[114,101,109,111,118,101]⟩,⟨#[104,111,108,100]⟩,⟨#[114,101,108,101,97,115,101]⟩]
theorem ennames_any (w:World):Calls prog 264 #[] w fun e w'=>e=.returned (.slice (some ⟨w.heap.size,0,none⟩) 6 6)/\w'=w.alloc (.cells (namesB.map Value.string).toArray 9):=by
 go_enter func264,ntmps264;go_wp2;go_ret;exact⟨rfl,rfl⟩
end
end Go.Proofs.YthgenkkkapilhaaGreatDoor