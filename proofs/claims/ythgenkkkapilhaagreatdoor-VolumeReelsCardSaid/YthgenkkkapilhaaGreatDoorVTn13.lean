/- Texts, joined. -/
import Derived.Test.YthgenkkkapilhaaGreatDoorVTn08
import Derived.Test.YthgenkkkapilhaaGreatDoorVTn12
import Derived.HandedShaped
set_option linter.all false
set_option maxRecDepth 100000
set_option maxHeartbeats 64000000
namespace Go.Proofs.YthgenkkkapilhaaGreatDoor
open Go.Proofs.Tryz
section
open Go.RowKit
theorem sumX_nonneg {l:List Ext} (h:∀x∈l,extB x=true):0<=sumX l:=by
 induction l with
 |nil=>exact Int.le_refl _
 |cons x r ih=>
 have h1:=of_decide_eq_true (h x List.mem_cons_self);have h2:=ih fun y hy=>h y (List.mem_cons_of_mem _ hy);rw[sumX];omega
theorem encontent_ok (w:World) (e:Ent) (va vx:Value) (hvx:SeqAt extS w vx e.exts) (h:EntOk e):Calls prog 315 #[entV e va vx] w fun r w'=>r=.returned (.int .i64 0)/\Below w.heap.size w w':=by
 obtain⟨k,path,attrs,t,size,dig,exts⟩:=e;have hsize:=h.size;have hdig:=h.dig;have hexts:=h.exts;clear h;dsimp only at hvx hsize hdig hexts;rw[entV];dsimp only;have Hvx:=zY hvx;obtain⟨Ax,cx,rfl,hx1,hx2⟩:=hvx.slice;clear hvx;have hK:=Blk.new w 182 [.int .i64 k,.string path,va,.string t,.int .i64 size,.string dig,.slice Ax exts.length cx];change Blk (w.alloc (.cells #[.int .i64 k,.string path,va,.string t,.int .i64 size,.string dig,.slice Ax exts.length cx] 182)) _ _ _ at hK;have HK:=zY hK;have HB:=zY (zBl w (.cells #[.int .i64 k,.string path,va,.string t,.int .i64 size,.string dig,.slice Ax exts.length cx] 182));clear hK;by_cases h1:k=1;{
 have i1:(k==1)=true:=by rw[h1];rfl
 have i1':(k != 1)=false:=by rw[h1];rfl
 have hd:=hdig.1 h1;have i2:((dig.size:Int) != 32)=false:=by rw[hd];rfl
 have i3:¬size<0:=by omega
 have i4:¬65536<size:=by omega
 have HX:=zY hexts.2.1;have HS:=zY hexts.2.2;clear h1 hsize hdig hexts hd;go_enter func315,ntmps315;go_upto_region 2 with fail;generalize w.alloc (.cells #[.int .i64 k,.string path,va,.string t,.int .i64 size,.string dig,.slice Ax exts.length cx] 182)=wa at *;have c0:=HK.c 0;have c4:=HK.c 4;have c5:=HK.c 5;have c6:=HK.c 6;go_wp2;go_loopw [32] (fun x wr=>∃i:Nat,i<=exts.length/\x=.int .i64 (i:Int)/\Below wa.heap.size wa wr) (fun x _=>exts.length-(intOf x).toNat);case atStart=>exact⟨0,by omega,rfl,Below.refl _ _⟩
 case round=>
 obtain⟨i,hi,rfl,hB⟩:=hrel;have HBr:=zY hB;have HKr:=zY (HK.kept hB);clear hB c0 c4 c5 c6;have c0:=HKr.c 0;have c6:=HKr.c 6;by_cases h:i<exts.length;{
 have hiI:(i:Int)<exts.length:=by omega
 obtain⟨x,hx'⟩:∃x,exts[i]?=some x:=⟨_,List.getElem?_eq_getElem h⟩;have hxb:=of_decide_eq_true (HX.out x (List.mem_of_getElem? hx'));obtain⟨_,_,e9,_,_,h4⟩:=Hvx.below (HB.trans (HBr.mono HB.size));cases e9;obtain⟨b,o,cs,rfl,rfl,hc⟩:=h4 i x hx';obtain⟨x0,x1,x2⟩:=x;dsimp only at hxb;have e0:wr.cell? ⟨b,o+i*3,none⟩=some (.int .i64 x0):=hc 0 _ rfl;have e1:wr.cell? ⟨b,o+i*3+1,none⟩=some (.int .i64 x1):=hc 1 _ rfl;have e2:wr.cell? ⟨b,o+i*3+2,none⟩=some (.int .i64 x2):=hc 2 _ rfl;have hT:=Blk.new wr 252 [.int .i64 x0,.int .i64 x1,.int .i64 x2];change Blk (wr.alloc (.cells #[.int .i64 x0,.int .i64 x1,.int .i64 x2] 252)) _ _ _ at hT;have HT:=zY hT;have HBt:=zY (HBr.alloc HBr.size (.cells #[.int .i64 x0,.int .i64 x1,.int .i64 x2] 252));have HKt:=zY (HKr.kept (zBl wr (.cells #[.int .i64 x0,.int .i64 x1,.int .i64 x2] 252)));have j1:¬x0<0:=by omega
 have j2:¬255<x0:=by omega
 have j3:¬x2<1:=by omega
 have j4:¬65536<x2:=by omega
 have j5:¬x1<0:=by omega
 have j6:¬2147483647<x1:=by omega
 have j7:((x0==0)=false)∨((x0==0)=true/\(x1 != 0)=false):=by{
 by_cases q:x0=0;{
 refine .inr ⟨by rw[q];rfl,?_⟩;have:x1=0:=by by_cases q2:x1=0;{exact q2};{exact absurd ⟨q,q2⟩ hxb.2.2.2.2.2.2}
 rw[this];rfl};{exact .inl (beq_eq_false_iff_ne.2 q)}};clear hc h4 hx' hxb hT;go_upto_region 12 with fail;generalize wr.alloc (.cells #[.int .i64 x0,.int .i64 x1,.int .i64 x2] 252)=wt at *;clear c0 c6 e0 e1 e2;have c0:=HKt.c 0;have t0:=HT.c 0;have t1:=HT.c 1;have t2:=HT.c 2;rcases j7 with j7|⟨j7,j8⟩;{
 go_wp2;go_roundw;case rel=>exact⟨i+1,by omega,by go_num,HBt.out⟩
 case measure=>simp[intOf];omega};{
 go_wp2;go_roundw;case rel=>exact⟨i+1,by omega,by go_num,HBt.out⟩
 case measure=>simp[intOf];omega}};{
 obtain rfl:i=exts.length:=by omega
 have hiI:¬((exts.length:Nat):Int)<(exts.length:Int):=by omega
 obtain⟨wy,rfl⟩:∃x,x=wr:=⟨_,rfl⟩;go_wp2;go_loopw [5,81] (fun y x wr=>∃(i:Nat) (S:Int),i<=exts.length/\x=.int .i64 (i:Int)/\y=.int .i64 S/\S=sumX (exts.drop i)/\S<=65536/\Below wy.heap.size wy wr) (fun _ x _=>exts.length-(intOf x).toNat);case atStart=>exact⟨0,size,by omega,rfl,rfl,by rw[List.drop_zero];exact HS.symm,by omega,Below.refl _ _⟩
 case round=>
 obtain⟨i,S,hi,rfl,rfl,hS,hS2,hB2⟩:=hrel;have HSS:=zY hS;have HB2:=zY hB2;clear hS hB2 c0 c6;by_cases h:i<exts.length;{
 have hiI:(i:Int)<exts.length:=by omega
 obtain⟨x,hx'⟩:∃x,exts[i]?=some x:=⟨_,List.getElem?_eq_getElem h⟩;have hxb:=of_decide_eq_true (HX.out x (List.mem_of_getElem? hx'));have hd:exts.drop i=x::exts.drop (i+1):=by obtain⟨h1,h2⟩:=List.getElem?_eq_some_iff.1 hx';rw[List.drop_eq_getElem_cons h1,h2]
 have hn:=sumX_nonneg (l:=exts.drop (i+1)) (fun y hy=>HX.out y (List.mem_of_mem_drop hy));have hs2:S=x.l+sumX (exts.drop (i+1)):=by rw[HSS.out,hd,sumX]
 have HN:Hid (S-x.l=sumX (exts.drop (i+1))):=zY (by omega);obtain⟨_,_,e9,_,_,h4⟩:=Hvx.below (HB.trans ((HBr.trans (HB2.mono HBr.size)).mono HB.size));cases e9;obtain⟨b,o,cs,rfl,rfl,hc⟩:=h4 i x hx';obtain⟨x0,x1,x2⟩:=x;dsimp only at hxb hs2 HN;have e0:wr.cell? ⟨b,o+i*3,none⟩=some (.int .i64 x0):=hc 0 _ rfl;have e1:wr.cell? ⟨b,o+i*3+1,none⟩=some (.int .i64 x1):=hc 1 _ rfl;have e2:wr.cell? ⟨b,o+i*3+2,none⟩=some (.int .i64 x2):=hc 2 _ rfl;have hT:=Blk.new wr 252 [.int .i64 x0,.int .i64 x1,.int .i64 x2];change Blk (wr.alloc (.cells #[.int .i64 x0,.int .i64 x1,.int .i64 x2] 252)) _ _ _ at hT;have HT:=zY hT;have HBt:=zY (HB2.alloc HB2.size (.cells #[.int .i64 x0,.int .i64 x1,.int .i64 x2] 252));have j1:¬S<x2:=by omega
 have j2:S-x2<=65536:=by omega
 have jw:IntKind.i64.wrap (S-x2)=S-x2:=zIw (by omega);clear hc h4 hx' hxb hT hd hs2 hn;go_upto_region 20 with fail;generalize wr.alloc (.cells #[.int .i64 x0,.int .i64 x1,.int .i64 x2] 252)=wt at *;clear e0 e1 e2;have t2:=HT.c 2;go_wp2;go_roundw;case rel=>exact⟨i+1,_,by omega,by go_num,rfl,HN.out,j2,HBt.out⟩
 case measure=>simp[intOf];omega};{
 obtain rfl:i=exts.length:=by omega
 have hiI:¬((exts.length:Nat):Int)<(exts.length:Int):=by omega
 obtain rfl:S=0:=by rw[HSS.out,List.drop_length];rfl
 go_wp2;go_ret;exact⟨rfl,HB.trans ((HBr.trans (HB2.mono HBr.size)).mono HB.size)⟩}}};{
 have i1:(k==1)=false:=by rw[beq_eq_false_iff_ne];exact h1
 have i1':(k != 1)=true:=by rw[bne,i1];rfl
 obtain rfl:size=0:=hsize.2.2 h1;have hd:=hdig.2 h1;have i2:((dig.size:Int) != 0)=false:=by rw[hd];rfl
 obtain rfl:exts=[]:=by{
 cases exts with
 |nil=>rfl
 |cons x r=>exact absurd (hexts.1 (by simp)) h1};clear h1 hsize hdig hexts hd hx1;go_enter func315,ntmps315;go_upto_region 2 with fail;change Blk (w.alloc (.cells #[.int .i64 k,.string path,va,.string t,.int .i64 0,.string dig,.slice Ax 0 cx] 182)) _ _ [.int .i64 k,.string path,va,.string t,.int .i64 0,.string dig,.slice Ax 0 cx]at HK;have HK:=zY HK;generalize w.alloc (.cells #[.int .i64 k,.string path,va,.string t,.int .i64 0,.string dig,.slice Ax 0 cx] 182)=wa at *;have c0:=HK.c 0;have c4:=HK.c 4;have c5:=HK.c 5;have c6:=HK.c 6;go_wp2;go_loopw [32] (fun x wr=>x=.int .i64 0/\wa=wr) (fun x _=>0);case atStart=>exact⟨rfl,rfl⟩
 case round=>
 obtain⟨rfl,rfl⟩:=hrel;go_wp2;go_loopw [5,81] (fun y x wr=>x=.int .i64 0/\y=.int .i64 0/\wa=wr) (fun x _ _=>0);case atStart=>exact⟨rfl,rfl,rfl⟩
 case round=>
 obtain⟨rfl,rfl,rfl⟩:=hrel;go_wp2;go_ret;exact⟨rfl,HB.out⟩}
theorem encheck_ok (w:World) (e:Ent) (va vx:Value) (hva:SeqAt atrS w va e.attrs) (hvx:SeqAt extS w vx e.exts) (h:EntOk e) (hT:Tab w):Calls prog 263 #[entV e va vx] w fun r w'=>r=.returned (.int .i64 0)/\Below w.heap.size w w':=by
 have HTg:=zY (fun W (hW:Below w.heap.size w W)=>entarget_ok W e va vx h.tgt (hT.below hW));have HCo:=zY (fun W (hW:Below w.heap.size w W)=>encontent_ok W e va vx (hvx.below hW) h);have HAt:=zY (fun W (hW:Below w.heap.size w W)=>atcheck_ok W va e.attrs (hva.below hW) h.attrs);have HPa:=zY (fun W (hW:Below w.heap.size w W)=>pcheck_ok W e.path h.path (hT.below hW));have hk:=h.kind;have hn:=h.named;have hb:=h.bare;clear h hT;obtain⟨k,path,attrs,t,size,dig,exts⟩:=e;dsimp only at hva hvx hk hn hb HTg HCo HAt HPa;obtain⟨Aa,ca,rfl,ha1,ha2⟩:=hva.slice;obtain⟨Ax,cx,rfl,hx1,hx2⟩:=hvx.slice;clear hva hvx;rw[entV]at HTg HCo⊢;dsimp only at HTg HCo⊢;have hK:=Blk.new w 182 [.int .i64 k,.string path,.slice Aa attrs.length ca,.string t,.int .i64 size,.string dig,.slice Ax exts.length cx];change Blk (w.alloc (.cells #[.int .i64 k,.string path,.slice Aa attrs.length ca,.string t,.int .i64 size,.string dig,.slice Ax exts.length cx] 182)) _ _ _ at hK;have HB0:=zY (zBl w (.cells #[.int .i64 k,.string path,.slice Aa attrs.length ca,.string t,.int .i64 size,.string dig,.slice Ax exts.length cx] 182));have HK:=zY hK;clear hK;have i1:¬k<1:=by omega
 have i2:¬6<k:=by omega
 have Hn:=zY hn;have Hb:=zY hb;have Hk:=zY hk;clear hk hn hb;go_enter func263,ntmps263;go_upto_region 1 with fail;generalize w.alloc (.cells #[.int .i64 k,.string path,.slice Aa attrs.length ca,.string t,.int .i64 size,.string dig,.slice Ax exts.length cx] 182)=wb at *;have c0:=HK.c 0;have c1:=HK.c 1;go_wp2_with fail;refine(HPa.out _ HB0.out).mono ?_;rintro e2 w2 ⟨rfl,hb2⟩;have HK2:=zY (HK.kept hb2);have HB2:=zYt HB0 hb2;clear hb2 HK HB0 c0 c1;have c0:=HK2.c 0;have c1:=HK2.c 1;go_upto_region 6 with fail;go_cut [31] (fun s wx=>s=.bool false/\w2=wx);case first=>(
 by_cases h0:path.size=0;{
 have e0:path.toList.isEmpty=true:=by rw[show path=⟨#[]⟩ by apply ByteArray.ext;exact Array.eq_empty_of_size_eq_zero h0];exact isEmptyV0
 have h5:=Hn.out h0;have h6:=Hk.out;clear h0;by_cases h7:k=5;{
 have f1:(k != 5)=false:=by rw[h7];rfl
 clear h5 h6 h7;go_wp2_with fail;go_meet;exact⟨rfl,rfl⟩};{
 have f1:(k != 5)=true:=by rw[bne,beq_eq_false_iff_ne.2 h7];rfl
 have f2:(k != 6)=false:=by rw[show k=6 by omega];rfl
 clear h5 h6 h7;go_wp2_with fail;go_meet;exact⟨rfl,rfl⟩}};{
 have e0:path.toList.isEmpty=false:=isEmptyV h0;clear h0;go_wp2_with fail;go_meet;exact⟨rfl,rfl⟩})
 case rest=>
 obtain⟨rfl,rfl⟩:=hcut;have c2:=HK2.c 2;go_wp2_with fail;refine(HAt.out _ HB2.out).mono ?_;rintro e3 w3 ⟨rfl,hb3⟩;have HK3:=zY (HK2.kept hb3);have HB3:=zYt HB2 hb3;clear hb3 HK2 HB2 c0 c1 c2;have c0:=HK3.c 0;have c2:=HK3.c 2;have c1:=HK3.c 1;have c3:=HK3.c 3;have c4:=HK3.c 4;have c5:=HK3.c 5;have c6:=HK3.c 6;go_upto_region 11 with fail;go_cut [51] (fun s wx=>∃W,s=.bool false/\W=wx/\Below w3.heap.size w3 W);case first=>(
 have hz2:(¬(0:Int)<attrs.length)∨((0:Int)<attrs.length/\¬3<k):=by by_cases q:0<attrs.length;{have:=Hb.out q;exact .inr ⟨by omega,by omega⟩};{exact .inl (by omega)}
 rcases hz2 with f1|⟨f1,f2⟩;{
 go_wp2_with fail;refine(HTg.out _ HB3.out).mono ?_;rintro e4 w4 ⟨rfl,hb4⟩;go_wp2_with fail;go_meet;exact⟨_,rfl,rfl,hb4⟩};{
 go_wp2_with fail;refine(HTg.out _ HB3.out).mono ?_;rintro e4 w4 ⟨rfl,hb4⟩;go_wp2_with fail;go_meet;exact⟨_,rfl,rfl,hb4⟩})
 case rest=>
 obtain⟨w4,rfl,rfl,hb4⟩:=hcut;have HK4:=zY (HK3.kept hb4);have HB4:=zYt HB3 hb4;clear hb4 HK3 HB3 c0 c1 c2 c3 c4 c5 c6;have c0:=HK4.c 0;have c2:=HK4.c 2;have c1:=HK4.c 1;have c3:=HK4.c 3;have c4:=HK4.c 4;have c5:=HK4.c 5;have c6:=HK4.c 6;go_wp2_with fail;refine(HCo.out _ HB4.out).mono ?_;rintro e5 w5 ⟨rfl,hb5⟩;have HB5:=zYt HB4 hb5;clear hb5;go_wp2_with fail;go_ret;exact⟨rfl,HB5.out⟩
def namesB:List ByteArray:=[⟨#[102,105,108,101]⟩,⟨#[100,105,114]⟩,⟨#[108,105,110,107]⟩,⟨#[114,101,109,111,118,101]⟩,⟨#[104,111,108,100]⟩,⟨#[114,101,108,101,97,115,101]⟩]
theorem ennames_any (w:World):Calls prog 264 #[] w fun e w'=>e=.returned (.slice (some ⟨w.heap.size,0,none⟩) 6 6)/\w'=w.alloc (.cells (namesB.map Value.string).toArray 9):=by
 go_enter func264,ntmps264;go_wp2;go_ret;exact⟨rfl,rfl⟩
end
section
open Go.ChangeShapes Go.WideShapes Go.ChangeAt Go.RowKit Go.Deep
theorem cellsBat:prog.cellsOf 88=2:=by kernel_rfl
theorem cellsCha:prog.cellsOf 91=5:=by kernel_rfl
theorem cellsAtr:prog.cellsOf 93=2:=by kernel_rfl
theorem cellsAtrs:prog.cellsOf 89=1:=by kernel_rfl
theorem cellsChas:prog.cellsOf 86=1:=by kernel_rfl
instance:Inhabited Atr:=⟨⟨⟨#[]⟩,⟨#[]⟩⟩⟩
instance:Inhabited Cha:=⟨⟨0,⟨#[]⟩,[],⟨#[]⟩,⟨#[]⟩⟩⟩
instance:Inhabited Bat:=⟨⟨0,[]⟩⟩
theorem list5 {α:Type} {l:List α} (h:l.length=5):∃c0 c1 c2 c3 c4,l=[c0,c1,c2,c3,c4]:=by
 match l,h with
 |[c0,c1,c2,c3,c4],_=>exact⟨c0,c1,c2,c3,c4,rfl⟩
theorem list2 {α:Type} {l:List α} (h:l.length=2):∃c0 c1,l=[c0,c1]:=by
 match l,h with
 |[c0,c1],_=>exact⟨c0,c1,rfl⟩
section
variable {H:Type} {enc:TypeId×Value->H} {w:World}
theorem seq_of {α:Type} [Inhabited α] {ρ:Shape α} {TS T:TypeId} (hu:prog.underlying TS=some (.slice T)) (hc:prog.cellsOf T=ρ.n) (hn:0<ρ.n)
  (hcell:∀{fuel:Nat} {cs:List Value} {y:DataW H×List MemPlace},cs.length=ρ.n->DataW.trod enc prog w 0 (fun _=>true) true fuel T cs=some y->∃x,ρ.R w cs x)
  {fuel:Nat} {c:Value} {y:DataW H×List MemPlace} (hf:DataW.trod enc prog w 0 (fun _=>true) true fuel TS [c]=some y):∃xs,SeqAt ρ w c xs:=by
 rcases open_slice hu hf with⟨hcs,_⟩|⟨a,len,cap,m,n,D,Pl,hcs,_,hl,hm,hmm,_,hx⟩;{
 simp only[List.cons.injEq,and_true]at hcs;subst hcs;exact⟨[],SeqAt.nil _⟩};{
 simp only[List.cons.injEq,and_true]at hcs;have hmc:m=cap:=by simpa using hmm
 rw[hc]at hx;obtain⟨F,hF⟩:=choose_lt (α:=α) (n:=len) (p:=fun i x=>∃cs,ρ.R w cs x/\∀j u,cs[j]?=some u->w.cell? ((a.add (i*ρ.n)).add j)=some u) fun i hi=>by
  obtain⟨cs',hcc,ht⟩:=hx i (by omega)
  obtain⟨_,hcl,hat⟩:=World.cells?_some hcc
  obtain⟨x,hr⟩:=hcell hcl ht
  exact⟨x,cs',hr,fun j u hu=>by
   have hj:j<ρ.n:=by
    have:=(List.getElem?_eq_some_iff.1 hu).1
    rwa [hcl]at this
   rw[hat j hj,hu]⟩
 obtain⟨b,o,spt⟩:=a;refine⟨(List.range len).map F,some ⟨b,o,spt⟩,cap,by simpa using hcs,by simpa using hl,by unfold maxLen at hm;omega,fun i x hi=>?_⟩;rw[List.getElem?_map]at hi;obtain⟨j,hj,rfl⟩:=Option.map_eq_some_iff.1 hi;obtain⟨h1,h2⟩:=List.getElem?_eq_some_iff.1 hj;simp at h1 h2;subst h2;obtain⟨cs,hr,hcs2⟩:=hF i h1;have hspot:spt=none:=by{
 obtain⟨cs0,hr0,hc0⟩:=hF 0 (by omega);have h0:0<cs0.length:=by rw[ρ.len hr0];exact hn
 have h3:=hc0 0 _ (List.getElem?_eq_getElem h0);simpa [Addr.add]using World.cell?_spot h3};subst hspot;exact⟨b,o,cs,rfl,hr,fun j u hu=>by
  have h:=hcs2 j u hu
  rwa [Addr.add_lit,Addr.add_lit]at h⟩}
theorem atr_cells {fuel:Nat} {cs:List Value} {y:DataW H×List MemPlace} (hl:cs.length=2) (hf:DataW.trod enc prog w 0 (fun _=>true) true fuel 93 cs=some y):∃x:Atr,atrS.R w cs x:=by
 obtain⟨c0,c1,rfl⟩:=list2 hl;obtain⟨xs,n,_,_,_,hlen,hfs⟩:=DataW.trod_struct underlying93 hf;obtain⟨y0,y1,rfl⟩:=list2 (l:=xs) hlen;have f0:DataW.trod enc prog w 0 (fun _=>true) true n 9 (([c0,c1].drop 0).take (prog.cellsOf 9))=some y0:=hfs 0 _ rfl;have f1:DataW.trod enc prog w 0 (fun _=>true) true n 9 (([c0,c1].drop 1).take (prog.cellsOf 9))=some y1:=hfs 1 _ rfl;rw[cellsS]at f0 f1;replace f0:DataW.trod enc prog w 0 (fun _=>true) true n 9 [c0]=some y0:=f0;replace f1:DataW.trod enc prog w 0 (fun _=>true) true n 9 [c1]=some y1:=f1;obtain⟨k,e0,_,_⟩:=DataW.trod_string underlying9 f0;obtain⟨v,e1,_,_⟩:=DataW.trod_string underlying9 f1;have h0:c0=.string k:=by simpa [Value.cells]using e0
 have h1:c1=.string v:=by simpa [Value.cells]using e1
 subst h0 h1;exact⟨⟨k,v⟩,rfl⟩
theorem cha_cells {fuel:Nat} {cs:List Value} {y:DataW H×List MemPlace} (hl:cs.length=5) (hf:DataW.trod enc prog w 0 (fun _=>true) true fuel 91 cs=some y):∃x:Cha,chaS.R w cs x:=by
 obtain⟨c0,c1,c2,c3,c4,rfl⟩:=list5 hl;obtain⟨xs,n,_,_,_,hlen,hfs⟩:=DataW.trod_struct underlying91 hf;obtain⟨y0,y1,y2,y3,y4,rfl⟩:=list5 (l:=xs) hlen;have f0:DataW.trod enc prog w 0 (fun _=>true) true n 3 (([c0,c1,c2,c3,c4].drop 0).take (prog.cellsOf 3))=some y0:=hfs 0 _ rfl;have f1:DataW.trod enc prog w 0 (fun _=>true) true n 9 (([c0,c1,c2,c3,c4].drop 1).take (prog.cellsOf 9))=some y1:=hfs 1 _ rfl;have f2:DataW.trod enc prog w 0 (fun _=>true) true n 89 (([c0,c1,c2,c3,c4].drop 2).take (prog.cellsOf 89))=some y2:=hfs 2 _ rfl;have f3:DataW.trod enc prog w 0 (fun _=>true) true n 9 (([c0,c1,c2,c3,c4].drop 3).take (prog.cellsOf 9))=some y3:=hfs 3 _ rfl;have f4:DataW.trod enc prog w 0 (fun _=>true) true n 9 (([c0,c1,c2,c3,c4].drop 4).take (prog.cellsOf 9))=some y4:=hfs 4 _ rfl;rw[cellsI]at f0;rw[cellsS]at f1 f3 f4;rw[cellsAtrs]at f2;replace f0:DataW.trod enc prog w 0 (fun _=>true) true n 3 [c0]=some y0:=f0;replace f1:DataW.trod enc prog w 0 (fun _=>true) true n 9 [c1]=some y1:=f1;replace f2:DataW.trod enc prog w 0 (fun _=>true) true n 89 [c2]=some y2:=f2;replace f3:DataW.trod enc prog w 0 (fun _=>true) true n 9 [c3]=some y3:=f3;replace f4:DataW.trod enc prog w 0 (fun _=>true) true n 9 [c4]=some y4:=f4;obtain⟨k0,e0,_,_⟩:=DataW.trod_int underlying3 f0;obtain⟨k1,e1,_,_⟩:=DataW.trod_string underlying9 f1;obtain⟨al,h2⟩:=seq_of (ρ:=atrS) underlying89 cellsAtr (by decide) atr_cells f2;obtain⟨k3,e3,_,_⟩:=DataW.trod_string underlying9 f3;obtain⟨k4,e4,_,_⟩:=DataW.trod_string underlying9 f4;have h0:c0=.int .i64 k0:=by simpa [Value.cells]using e0
 have h1:c1=.string k1:=by simpa [Value.cells]using e1
 have h3:c3=.string k3:=by simpa [Value.cells]using e3
 have h4:c4=.string k4:=by simpa [Value.cells]using e4
 subst h0 h1 h3 h4;exact⟨⟨k0,k1,al,k3,k4⟩,c2,rfl,h2⟩
theorem bat_cells {fuel:Nat} {cs:List Value} {y:DataW H×List MemPlace} (hl:cs.length=2) (hf:DataW.trod enc prog w 0 (fun _=>true) true fuel 88 cs=some y):∃x:Bat,batS.R w cs x:=by
 obtain⟨c0,c1,rfl⟩:=list2 hl;obtain⟨xs,n,_,_,_,hlen,hfs⟩:=DataW.trod_struct underlying88 hf;obtain⟨y0,y1,rfl⟩:=list2 (l:=xs) hlen;have f0:DataW.trod enc prog w 0 (fun _=>true) true n 3 (([c0,c1].drop 0).take (prog.cellsOf 3))=some y0:=hfs 0 _ rfl;have f1:DataW.trod enc prog w 0 (fun _=>true) true n 86 (([c0,c1].drop 1).take (prog.cellsOf 86))=some y1:=hfs 1 _ rfl;rw[cellsI]at f0;rw[cellsChas]at f1;replace f0:DataW.trod enc prog w 0 (fun _=>true) true n 3 [c0]=some y0:=f0;replace f1:DataW.trod enc prog w 0 (fun _=>true) true n 86 [c1]=some y1:=f1;obtain⟨k0,e0,_,_⟩:=DataW.trod_int underlying3 f0;obtain⟨cs',h1⟩:=seq_of (ρ:=chaS) underlying86 cellsCha (by decide) cha_cells f1;have h0:c0=.int .i64 k0:=by simpa [Value.cells]using e0
 subst h0;exact⟨⟨k0,cs'⟩,c1,rfl,h1⟩
theorem open_bats {v:Value} {d:DataW H} {p:List MemPlace} {b0:Nat} (hv:Value.okWide prog w .any b0 22 v) (h:DataW.Trod enc prog w 0 (fun _=>true) true 22 v d p):∃l,SeqAt batS w v l:=by
 obtain⟨a0,len0,cap0,rfl⟩:=okWide_slice underlying22 hv;obtain⟨fuel,hf⟩:=h;exact seq_of (ρ:=batS) underlying22 cellsBat (by decide) bat_cells (by simpa [Value.cells]using hf)
theorem open_layout {v:Value} {d:DataW H} {p:List MemPlace} {b0:Nat} (hval:Value.okWide prog w .any b0 24 v) (hd:DataW.Trod enc prog w 0 (fun _=>true) true 24 v d p):
  ∃a b:Int,v=.agg #[.int .i64 a,.int .i64 b]:=by
 obtain⟨⟨cs⟩,rfl,hsz⟩:=okWide_struct underlying24 hval;rw[cellsL]at hsz;obtain⟨c0,c1,rfl⟩:=list2 hsz;obtain⟨fuel,hf⟩:=hd;obtain⟨z0,z1,m,_,_,g0,g1⟩:=trod_struct2 underlying24 hf;replace g0:DataW.trod enc prog w 0 (fun _=>true) true m 3 (([c0,c1].drop 0).take (prog.cellsOf 3))=some z0:=g0;replace g1:DataW.trod enc prog w 0 (fun _=>true) true m 3 (([c0,c1].drop 1).take (prog.cellsOf 3))=some z1:=g1;rw[cellsI]at g0 g1;replace g0:DataW.trod enc prog w 0 (fun _=>true) true m 3 [c0]=some z0:=g0;replace g1:DataW.trod enc prog w 0 (fun _=>true) true m 3 [c1]=some z1:=g1;obtain⟨k0,e0,_,_⟩:=DataW.trod_int underlying3 g0;obtain⟨k1,e1,_,_⟩:=DataW.trod_int underlying3 g1;have h0:c0=.int .i64 k0:=by simpa [Value.cells]using e0
 have h1:c1=.int .i64 k1:=by simpa [Value.cells]using e1
 subst h0 h1;exact⟨k0,k1,rfl⟩
end
theorem tab_of {W : World} {L : List (String × DataW Unit)} (hL : laidMetH prog L W) (hk : (L.filter fun x => x.1 == "internal/strconv.uint64pow10") = [("internal/strconv.uint64pow10", Lib.tabData .u64 Lib.pow10Tab)]) (hsh : W.ShapedOpen prog) : Tab W := by
 have h1 := hL.filter fun x => x.1 == "internal/strconv.uint64pow10";rw[hk,MakeChecks.laidMetH_plain _ _ _ (by kernel_rfl)]at h1;refine⟨?_,?_⟩;{exact Lib.tabIs_of_head (g:=0) (t:=356) (e:=211) (n:=20) (by kernel_rfl) (by kernel_rfl) underlying356 underlying211 (by kernel_rfl) (by kernel_rfl) h1};{
 exact cell_of_shapedOpen_int (P:=prog) (g:=1) (t:=3) (zero:= #[.int .i64 0]) hsh (of_decide_eq_true (by kernel_rfl)) (by kernel_rfl) rfl (by kernel_rfl) (by kernel_rfl) underlying3}
theorem returns_shaped {H:Type} {enc:TypeId×Value->H} {a:Assume} {C:Checked} {os:Os} {f:FuncId} {fn:Func} {s:ChangeSpec} {conds:List PathCond} {apart fresh handsOn again:Bool} {X:World->Array Value->Prop}
  (hX:∀(w w':World) (args:Array Value),w.heap=w'.heap->X w args->X w' args)
  (own:ownKnob C.prog.godebug=none) (started:os.Started) (noInit:C.prog.inits.idxOf? f=none) (hfn:C.prog.funcs[f]?=some fn)
  (witness:∃(w:World) (tape:Tape) (i:Input),w.os=os/\(w.forCall tape i).Shaped C.prog/\i.vars=[]/\Input.okWide C.prog (w.forCall tape i) .any w.heap.size f i /\
   ((s.pre enc C.prog fn conds apart (w.forCall tape i).memory i.args/\X (w.forCall tape i).memory i.args)/\sizedMet enc C.prog fn (OpenSpec.ofChange s) apart (w.forCall tape i).memory i.args)/\a.holds C.prog (lone (Frame.enter C.prog f i.args .normal) [] (w.forCall tape i)))
  (contract:∀(W:World) (base:Nat) (args:Array Value) (ds gs:List (DataW H)) (before:List MemPlace),
   (∀(j:Nat) t v,fn.params[j]?=some t->args[j]?=some v->Value.okWide C.prog W .any base t v) ->
   DataW.Whole enc C.prog fn.params.toList s.vars apart W args.toList ds gs before ->
   conds.all (PathCond.test C.prog ⟨fn.params.toList,ds,s.plain.varTypes C.prog,gs⟩)=true ->
   (DataW.weightsEach C.prog (fn.params.toList++s.plain.varTypes C.prog) (ds++gs)).all (· <= reachBytes)=true->X W args->W.ShapedOpen C.prog ->
   a.holds C.prog (lone (Frame.enter C.prog f args .normal) [] W) ->
   Calls C.prog f args W fun e W'=>∃v,e=.returned v/\s.post enc C.prog fn apart fresh handsOn again W args v W'):
  ReturnsInHanded a C os f .any (fun w args=>(s.pre enc C.prog fn conds apart w args/\X w args)/\sizedMet enc C.prog fn (OpenSpec.ofChange s) apart w args) (s.post enc C.prog fn apart fresh handsOn again):=by
 refine returnsInHanded_of_calls own started noInit witness ?_;intro w tape i _ hsh _ hok hpre hholds;obtain⟨_,_,_,fn',hfn',_,_,_,_,hval⟩:=hok;have e:fn'=fn:=Option.some.inj (hfn'.symm.trans hfn);subst e;obtain⟨⟨⟨ds,gs,before,hw,hc⟩,hx⟩,hz⟩:=hpre;have hw':=DataW.Whole.of_heap (w':=w.forCall tape i) (by rfl) hw;refine(contract (w.forCall tape i) w.heap.size i.args ds gs before hval hw' hc (hz.weights hw) (hX _ _ _ (by rfl) hx) hsh hholds).mono fun e W' ⟨v,he,hp⟩=>?_;subst he;exact ChangeSpec.post_blind hp
end
end Go.Proofs.YthgenkkkapilhaaGreatDoor