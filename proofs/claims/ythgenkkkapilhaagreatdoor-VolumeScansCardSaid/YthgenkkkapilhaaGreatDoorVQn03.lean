/-
  Joined: VoH.
-/
import Derived.Test.YthgenkkkapilhaaGreatDoorVQn02
set_option linter.all false
set_option maxRecDepth 100000
set_option maxHeartbeats 64000000
namespace Go.Proofs.YthgenkkkapilhaaGreatDoor
open Go.Proofs.Tryz
section
open Go.RowKit
theorem isEmptyV0:(⟨#[]⟩:ByteArray).toList.isEmpty=true:=by
 rw[ByteArray.toList_eq];rfl
def extB (x:Ext):Bool:=decide (0<=x.s/\x.s<=255/\0<=x.o/\x.o<=2147483647/\1<=x.l/\x.l<=65536/\¬(x.s=0/\x.o≠0))
def sumX:List Ext->Int
 |[]=>0
 |x::r=>x.l+sumX r
structure EntOk (e:Ent):Prop where
 kind:1<=e.k/\e.k<=6
 path:pathE (bs e.path)=0
 named:e.path.size=0->5<=e.k
 attrs:attrsE e.attrs=0
 bare:0<e.attrs.length->e.k<=3
 tgt:tgtB e=true
 size:0<=e.size/\e.size<=65536/\(e.k≠1->e.size=0)
 dig:(e.k=1->e.dig.size=32)/\(e.k≠1->e.dig.size=0)
 exts:(0<e.exts.length->e.k=1)/\(∀x∈e.exts,extB x=true)/\sumX e.exts=e.size
def Chk (p:Prop) (r:Ending):Prop:=∃n:Int,r=.returned (.int .i64 n)/\(n=0↔p)
theorem Chk.no {p:Prop} {n:Int} (hn:n≠0) (h:¬p):Chk p (.returned (.int .i64 n)):=⟨n,rfl,fun e=>absurd e hn,fun e=>absurd e h⟩
theorem Chk.yes {p:Prop} (h:p):Chk p (.returned (.int .i64 0)):=⟨0,rfl,fun _=>h,fun _=>rfl⟩
theorem nameK_none {k:Int} (h:¬(1<=k/\k<=6)):nameK k=⟨#[]⟩:=by
 unfold nameK;rw[if_neg (by omega),if_neg (by omega),if_neg (by omega),if_neg (by omega),if_neg (by omega),if_neg (by omega)]
theorem nameK_some {k:Int} (h:1<=k/\k<=6):0<(nameK k).size/\(nameK k).size<=7:=by
 have:k=1∨k=2∨k=3∨k=4∨k=5∨k=6:=by omega
 rcases this with rfl|rfl|rfl|rfl|rfl|rfl<;>decide
theorem check36_any (w:World) (e:Ent) (va vx:Value) (hva:SeqAt atrS w va e.attrs) (hvx:SeqAt extS w vx e.exts) (hp:e.path.size<=1000000) (ht:e.tgt.size<=1000000) (ha:∀a∈e.attrs,a.k.size<=1000000) (hx:e.exts.length<=100000):
  Calls prog 153 #[entV e va vx] w fun r w'=>Chk (EntOk e) r/\Below w.heap.size w w':=by
 have HT:=zY (fun W=>target36_any W e va vx ht);have HTg:=zY (fun h:EntOk e=>h.tgt);obtain⟨P,hP⟩:=zNm (EntOk e);have HP:=zY hP;rw[hP];clear hP HTg;obtain⟨TG,hTG⟩:=zNm (tgtB e);rw[hTG]at HT;have HTG:=zY hTG;clear hTG;obtain⟨k,path,attrs,t,size,dig,exts⟩:=e;dsimp only at hva hvx hp ht ha hx;have HPa:=zY (fun W=>path_any W path hp);have Hva:=zY hva;have Hvx:=zY hvx;obtain⟨Aa,ca,rfl,ha1,ha2⟩:=hva.slice;obtain⟨Ax,cx,rfl,hx1,hx2⟩:=hvx.slice;clear hva hvx;rw[entV]at HT⊢;dsimp only at HT⊢;have hK:=Blk.new w 182 [.int .i64 k,.string path,.slice Aa attrs.length ca,.string t,.int .i64 size,.string dig,.slice Ax exts.length cx];change Blk (w.alloc (.cells #[.int .i64 k,.string path,.slice Aa attrs.length ca,.string t,.int .i64 size,.string dig,.slice Ax exts.length cx] 182)) _ _ _ at hK;have HB0:=zY (zBl w (.cells #[.int .i64 k,.string path,.slice Aa attrs.length ca,.string t,.int .i64 size,.string dig,.slice Ax exts.length cx] 182));have HK:=zY hK;have c0:=hK.c 0;clear hK;obtain⟨N,hN⟩:=zNm (nameK k);have HNm:=zY (fun W=>name_any W k);rw[hN]at HNm;by_cases hk:1<=k/\k<=6;{
 have hn0:N.toList.isEmpty=false:=isEmptyV (by rw[<-hN];have:=(nameK_some hk).1;omega);have HNk:=zY hk;clear hN hk;go_enter func153,ntmps153;go_wp2_with fail;refine(HNm.out _).mono ?_;rintro e1 w1 ⟨rfl,rfl⟩;generalize w.alloc (.cells #[.int .i64 k,.string path,.slice Aa attrs.length ca,.string t,.int .i64 size,.string dig,.slice Ax exts.length cx] 182)=wb at *;have c1:=HK.c 1;go_wp2_with fail;refine(HPa.out _).mono ?_;rintro e2 w2 ⟨rfl,hb2⟩;have HK2:=zY (HK.kept hb2);have HB2:=zYt HB0 hb2;clear hb2 HK HB0 c0 c1;by_cases hpe:pathE (bs path)=0;{
 have HPe:=zY hpe;rw[hpe];clear hpe;have c0:=HK2.c 0;have c1:=HK2.c 1;obtain⟨bad1,hb1⟩:=zNm (decide (path.size=0/\k<5));go_upto_region 6 with fail;go_cut [26] (fun s wx=>s=.bool bad1/\w2=wx);case first=>(
 by_cases h0:path.size=0;{
 have e0:path.toList.isEmpty=true:=by rw[show path=⟨#[]⟩ by apply ByteArray.ext;exact Array.eq_empty_of_size_eq_zero h0];exact isEmptyV0
 by_cases h5:k<5;{
 have HE:Hid (bad1=true):=zY (by rw[<-hb1];exact decide_eq_true ⟨h0,h5⟩);clear hb1 h0;go_wp2_with fail;go_meet;exact⟨by rw[HE.out],rfl⟩};{
 have HE:Hid (bad1=false):=zY (by rw[<-hb1];exact decide_eq_false fun h=>h5 h.2);clear hb1 h0;go_wp2_with fail;go_meet;exact⟨by rw[HE.out],rfl⟩}};{
 have e0:path.toList.isEmpty=false:=isEmptyV h0;have HE:Hid (bad1=false):=zY (by rw[<-hb1];exact decide_eq_false fun h=>h0 h.1);clear hb1 h0;go_wp2_with fail;go_meet;exact⟨by rw[HE.out],rfl⟩})
 case rest=>
 obtain⟨rfl,rfl⟩:=hcut;cases bad1 with
 |true=>(
 have h:=of_decide_eq_true hb1;have HV:Hid (¬P):=zY (by
  rw[<-HP.out]
  intro h'
  have:=h'.named h.1
  dsimp only at this
  omega);clear h hb1;go_wp2_with fail;go_ret;exact⟨Chk.no (by decide) HV.out,HB2.out⟩)
 |false=>
 have HNd:Hid (path.size=0->5<=k):=zY (fun q=>by
  by_cases q2:k<5
  ·exact absurd (decide_eq_true (p:=path.size=0/\k<5) ⟨q,q2⟩) (by rw[hb1];decide)
  ·omega);clear hb1;have c2:=HK2.c 2;have HAt:Hid (Calls prog 224 #[.slice Aa attrs.length ca] w2 fun e w'=>e=.returned (.int .i64 (attrsE attrs))/\Below w2.heap.size w2 w'):=zY (attrs_any w2 _ attrs (Hva.below HB2.out) ha);go_wp2_with fail;refine HAt.mono ?_;rintro e3 w3 ⟨rfl,hb3⟩;have HK3:=zY (HK2.kept hb3);have HB3:=zYt HB2 hb3;clear hb3 HK2 HB2 HAt c0 c1 c2;by_cases hae:attrsE attrs=0;{
 have HAe:=zY hae;rw[hae];clear hae;have c0:=HK3.c 0;have c2:=HK3.c 2;have c1:=HK3.c 1;have c3:=HK3.c 3;have c4:=HK3.c 4;have c5:=HK3.c 5;have c6:=HK3.c 6;obtain⟨bad2,hb2⟩:=zNm ((decide (0<attrs.length/\3<k)|| !TG));go_upto_region 11 with fail;go_cut [46] (fun s wx=>∃W,s=.bool bad2/\W=wx/\Below w3.heap.size w3 W);case first=>(
 by_cases hb:0<attrs.length/\3<k;{
 have f1:(0:Int)<attrs.length:=by omega
 have f2:3<k:=hb.2;have HE:Hid (bad2=true):=zY (by rw[<-hb2,decide_eq_true hb,Bool.true_or]);clear hb hb2;go_wp2_with fail;go_meet;exact⟨_,by rw[HE.out],rfl,Below.refl _ _⟩};{
 have HE:Hid (bad2= !TG):=zY (by rw[<-hb2,decide_eq_false hb,Bool.false_or]);have hz2:(¬(0:Int)<attrs.length)∨((0:Int)<attrs.length/\¬3<k):=by by_cases q:0<attrs.length;{exact .inr ⟨by omega,fun q2=>hb ⟨q,q2⟩⟩};{exact .inl (by omega)}
 clear hb hb2;rcases hz2 with f1|⟨f1,f2⟩;{
 go_wp2_with fail;refine(HT.out _).mono ?_;rintro e4 w4 ⟨rfl,hb4⟩;go_wp2_with fail;go_meet;exact⟨_,by rw[HE.out],rfl,hb4⟩};{
 go_wp2_with fail;refine(HT.out _).mono ?_;rintro e4 w4 ⟨rfl,hb4⟩;go_wp2_with fail;go_meet;exact⟨_,by rw[HE.out],rfl,hb4⟩}})
 case rest=>
 obtain⟨w4,rfl,rfl,hb4⟩:=hcut;have HK4:=zY (HK3.kept hb4);have HB4:=zYt HB3 hb4;clear hb4 HK3 HB3 c0 c1 c2 c3 c4 c5 c6;cases bad2 with
 |true=>(
 have HV:Hid (¬P):=zY (by
  rw[<-HP.out]
  intro h
  have h1:=h.bare
  have h2:=h.tgt
  rw[HTG.out]at h2
  rw[h2,Bool.not_true,Bool.or_false]at hb2
  have h3:=of_decide_eq_true hb2
  have:=h1 h3.1
  dsimp only at this
  omega);clear hb2;go_wp2_with fail;go_ret;exact⟨Chk.no (by decide) HV.out,HB4.out⟩)
 |false=>
 have HTt:Hid (TG=true):=zY (by
  cases TG with
  |true=>rfl
  |false=>rw[Bool.not_false,Bool.or_true]at hb2;cases hb2);have HBa:Hid (0<attrs.length->k<=3):=zY (fun q=>by
  by_cases q2:3<k
  ·rw[decide_eq_true ⟨q,q2⟩,Bool.true_or]at hb2;cases hb2
  ·omega);clear hb2;have c0:=HK4.c 0;have c4:=HK4.c 4;have c5:=HK4.c 5;have c6:=HK4.c 6;by_cases s1:size<0;{
 have HV:Hid (¬P):=zY (by rw[<-HP.out];intro h;have:=h.size.1;dsimp only at this;omega);go_wp2_with fail;go_ret;exact⟨Chk.no (by decide) HV.out,HB4.out⟩};{
 by_cases s2:65536<size;{
 have HV:Hid (¬P):=zY (by rw[<-HP.out];intro h;have:=h.size.2.1;dsimp only at this;omega);go_wp2_with fail;go_ret;exact⟨Chk.no (by decide) HV.out,HB4.out⟩};{
 by_cases k1:k=1;{
 have kb:(k==1)=true:=by rw[k1];rfl
 by_cases dg:dig.size=32;{
 have db:((dig.size:Int) != 32)=false:=by rw[dg];rfl
 have HSi:Hid (0<=size/\size<=65536/\(k≠1->size=0)):=zY ⟨by omega,by omega,fun h=>absurd k1 h⟩;have HDi:Hid ((k=1->dig.size=32)/\(k≠1->dig.size=0)):=zY ⟨fun _=>dg,fun h=>absurd k1 h⟩;have HX1:Hid (0<exts.length->k=1):=zY (fun _=>k1);clear dg k1;go_wp2;go_loopw [6,7,8] (fun y x _ wr=>∃(i:Nat) (S:Int),i<=exts.length/\x=.int .i64 (i:Int)/\y=.int .i64 S/\0<=S/\S<=65536*(i:Int)/\S+sumX (exts.drop i)=sumX exts/\(∀z∈exts.take i,extB z=true)/\Below w4.heap.size w4 wr) (fun _ x _ _=>exts.length-(intOf x).toNat);case atStart=>exact⟨0,0,by omega,rfl,rfl,by omega,by omega,by rw[List.drop_zero];omega,fun z hz=>by simp at hz,Below.refl _ _⟩
 case round=>
 obtain⟨i,S,hi,rfl,rfl,hS0,hS1,hS,hall,hB⟩:=hrel;have HS:=zY hS;have HB:=zY hB;have HAl:=zY hall;have hKr:=HK4.kept hB;clear hS hB hall c4 c5 c6;have c6:=hKr.c 6;have c4:=hKr.c 4;clear hKr;by_cases h:i<exts.length;{
 have hiI:(i:Int)<exts.length:=by omega
 obtain⟨x,hx'⟩:∃x,exts[i]?=some x:=⟨_,List.getElem?_eq_getElem h⟩;have hxm:=List.mem_of_getElem? hx';have hd:exts.drop i=x::exts.drop (i+1):=by obtain⟨h1,h2⟩:=List.getElem?_eq_some_iff.1 hx';rw[List.drop_eq_getElem_cons h1,h2]
 have HF:Hid (extB x=false->¬P):=zY (fun e=>by
  rw[<-HP.out]
  intro h
  have:=h.exts.2.1 x hxm
  rw[e]at this
  cases this);have HAll:Hid (extB x=true->∀z∈exts.take (i+1),extB z=true):=zY (fun e z hz=>by
  rw[List.take_add_one,hx',Option.toList_some]at hz
  rcases List.mem_append.1 hz with hz|hz
  ·exact HAl.out z hz
  ·rw[List.mem_singleton.1 hz];exact e);have HS3:Hid (S+x.l+sumX (exts.drop (i+1))=sumX exts):=zY (by
  have:=HS.out
  rw[hd,sumX]at this
  omega);obtain⟨_,_,e9,_,_,h4⟩:=Hvx.below (HB4.trans (HB.mono HB4.size));cases e9;obtain⟨b,o,cs,rfl,rfl,hc⟩:=h4 i x hx';obtain⟨x0,x1,x2⟩:=x;have e0:wr.cell? ⟨b,o+i*3,none⟩=some (.int .i64 x0):=hc 0 _ rfl;have e1:wr.cell? ⟨b,o+i*3+1,none⟩=some (.int .i64 x1):=hc 1 _ rfl;have e2:wr.cell? ⟨b,o+i*3+2,none⟩=some (.int .i64 x2):=hc 2 _ rfl;dsimp only at HS3;clear hc h4 hx' hd hxm HS HAl;have hF:=Blk.new wr 252 [.int .i64 x0,.int .i64 x1,.int .i64 x2];change Blk (wr.alloc (.cells #[.int .i64 x0,.int .i64 x1,.int .i64 x2] 252)) _ _ _ at hF;have hBz:=HB.alloc HB.size (.cells #[.int .i64 x0,.int .i64 x1,.int .i64 x2] 252);have hKz:=HK4.kept hBz;have HBz:=zY hBz;have HBw:=zYt HB4 hBz;clear hBz HB;go_upto_region 23 with fail;clear e0 e1 e2 c4 c6;generalize wr.alloc (.cells #[.int .i64 x0,.int .i64 x1,.int .i64 x2] 252)=wz at *;generalize wr.heap.size=fb at *;have c6:=hKz.c 6;have c4:=hKz.c 4;have g0:=hF.c 0;have g1:=hF.c 1;have g2:=hF.c 2;clear hF hKz;by_cases y0:x0<0;{
 have HV:Hid (¬P):=zY (HF.out (by rw[extB];exact decide_eq_false (by dsimp only;omega)));go_wp2;go_ret;exact⟨Chk.no (by decide) HV.out,HBw.out⟩};{
 by_cases y1:255<x0;{
 have HV:Hid (¬P):=zY (HF.out (by rw[extB];exact decide_eq_false (by dsimp only;omega)));go_wp2;go_ret;exact⟨Chk.no (by decide) HV.out,HBw.out⟩};{
 by_cases y2:x1<0;{
 have HV:Hid (¬P):=zY (HF.out (by rw[extB];exact decide_eq_false (by dsimp only;omega)));go_wp2;go_ret;exact⟨Chk.no (by decide) HV.out,HBw.out⟩};{
 by_cases y3:2147483647<x1;{
 have HV:Hid (¬P):=zY (HF.out (by rw[extB];exact decide_eq_false (by dsimp only;omega)));go_wp2;go_ret;exact⟨Chk.no (by decide) HV.out,HBw.out⟩};{
 by_cases y4:x2<1;{
 have HV:Hid (¬P):=zY (HF.out (by rw[extB];exact decide_eq_false (by dsimp only;omega)));go_wp2;go_ret;exact⟨Chk.no (by decide) HV.out,HBw.out⟩};{
 by_cases y5:65536<x2;{
 have HV:Hid (¬P):=zY (HF.out (by rw[extB];exact decide_eq_false (by dsimp only;omega)));go_wp2;go_ret;exact⟨Chk.no (by decide) HV.out,HBw.out⟩};{
 by_cases y6:x0=0;{
 have z6:(x0==0)=true:=by rw[y6];rfl
 by_cases y7:x1=0;{
 have z7:(x1 != 0)=false:=by rw[y7];rfl
 have HXB:Hid (extB ⟨x0,x1,x2⟩=true):=zY (by rw[extB];exact decide_eq_true (by dsimp only;omega));have hS2:S+x2<=65536*((i:Int)+1):=by omega
 have hS3:0<=S+x2:=by omega
 go_wp2;go_roundw;case rel=>exact⟨i+1,S+x2,by omega,by go_num,by go_num,by omega,by omega,HS3.out,HAll.out HXB.out,HBz.out⟩
 case measure=>simp[intOf];omega};{
 have z7:(x1 != 0)=true:=by rw[bne_iff_ne];exact y7
 have HV:Hid (¬P):=zY (HF.out (by rw[extB];exact decide_eq_false (by dsimp only;omega)));go_wp2;go_ret;exact⟨Chk.no (by decide) HV.out,HBw.out⟩}};{
 have z6:(x0==0)=false:=by rw[beq_eq_false_iff_ne];exact y6
 have HXB:Hid (extB ⟨x0,x1,x2⟩=true):=zY (by rw[extB];exact decide_eq_true (by dsimp only;omega));have hS2:S+x2<=65536*((i:Int)+1):=by omega
 have hS3:0<=S+x2:=by omega
 go_wp2;go_roundw;case rel=>exact⟨i+1,S+x2,by omega,by go_num,by go_num,by omega,by omega,HS3.out,HAll.out HXB.out,HBz.out⟩
 case measure=>simp[intOf];omega}}}}}}}};{
 obtain rfl:i=exts.length:=by omega
 have hiI:¬((exts.length:Nat):Int)<(exts.length:Int):=by omega
 have hS':=HS.out;rw[List.drop_length,sumX,Int.add_zero]at hS';have hAll:=HAl.out;rw[List.take_length]at hAll;by_cases hq:S=size;{
 have HV:Hid P:=zY (by
  rw[<-HP.out]
  exact⟨HNk.out,HPe.out,HNd.out,HAe.out,HBa.out,(HTG.trans HTt.out),HSi.out,HDi.out,HX1.out,hAll,by dsimp only;omega⟩);have hz0:(S != size)=false:=by rw[hq];simp
 clear hS' hAll hq;go_wp2;go_ret;exact⟨Chk.yes HV.out,HB4.trans (HB.mono HB4.size)⟩};{
 have HV:Hid (¬P):=zY (by
  rw[<-HP.out]
  intro h
  have h2:=h.exts.2.2
  dsimp only at h2
  exact hq (by omega));have hz0:(S != size)=true:=by rw[bne_iff_ne];exact hq
 clear hS' hAll hq;go_wp2;go_ret;exact⟨Chk.no (by decide) HV.out,HB4.trans (HB.mono HB4.size)⟩}}};{
 have db:((dig.size:Int) != 32)=true:=by rw[bne_iff_ne];omega
 have HV:Hid (¬P):=zY (by rw[<-HP.out];intro h;exact dg (h.dig.1 k1));clear dg k1;go_wp2_with fail;go_ret;exact⟨Chk.no (by decide) HV.out,HB4.out⟩}};{
 have kb:(k==1)=false:=by rw[beq_eq_false_iff_ne];exact k1
 by_cases sz:size=0;{
 subst sz;by_cases dg:dig.size=0;{
 have db:dig.toList.isEmpty=true:=by rw[show dig=⟨#[]⟩ by apply ByteArray.ext;exact Array.eq_empty_of_size_eq_zero dg];exact isEmptyV0
 have HSi:Hid ((0:Int)<=0/\(0:Int)<=65536/\(k≠1->(0:Int)=0)):=zY ⟨by omega,by omega,fun _=>rfl⟩;have HDi:Hid ((k=1->dig.size=32)/\(k≠1->dig.size=0)):=zY ⟨fun h=>absurd h k1,fun _=>dg⟩;clear dg;go_wp2;go_loopw [6,7,8] (fun y x _ wr=>∃(i:Nat) (S:Int),i=0/\i<=exts.length/\x=.int .i64 (i:Int)/\y=.int .i64 S/\0<=S/\S<=65536*(i:Int)/\S+sumX (exts.drop i)=sumX exts/\(∀z∈exts.take i,extB z=true)/\Below w4.heap.size w4 wr) (fun _ x _ _=>exts.length-(intOf x).toNat);case atStart=>exact⟨0,0,rfl,by omega,rfl,rfl,by omega,by omega,by rw[List.drop_zero];omega,fun z hz=>by simp at hz,Below.refl _ _⟩
 case round=>
 obtain⟨i,S,hi0,hi,rfl,rfl,hS0,hS1,hS,hall,hB⟩:=hrel;have HI0:=zY hi0;clear hi0;have HS:=zY hS;have HB:=zY hB;have HAl:=zY hall;have hKr:=HK4.kept hB;clear hS hB hall c4 c5 c6;have c6:=hKr.c 6;have c4:=hKr.c 4;clear hKr;by_cases h:i<exts.length;{
 have hiI:(i:Int)<exts.length:=by omega
 obtain⟨x,hx'⟩:∃x,exts[i]?=some x:=⟨_,List.getElem?_eq_getElem h⟩;have hxm:=List.mem_of_getElem? hx';have hd:exts.drop i=x::exts.drop (i+1):=by obtain⟨h1,h2⟩:=List.getElem?_eq_some_iff.1 hx';rw[List.drop_eq_getElem_cons h1,h2]
 have HF:Hid (extB x=false->¬P):=zY (fun e=>by
  rw[<-HP.out]
  intro h
  have:=h.exts.2.1 x hxm
  rw[e]at this
  cases this);have HAll:Hid (extB x=true->∀z∈exts.take (i+1),extB z=true):=zY (fun e z hz=>by
  rw[List.take_add_one,hx',Option.toList_some]at hz
  rcases List.mem_append.1 hz with hz|hz
  ·exact HAl.out z hz
  ·rw[List.mem_singleton.1 hz];exact e);have HS3:Hid (S+x.l+sumX (exts.drop (i+1))=sumX exts):=zY (by
  have:=HS.out
  rw[hd,sumX]at this
  omega);obtain⟨_,_,e9,_,_,h4⟩:=Hvx.below (HB4.trans (HB.mono HB4.size));cases e9;obtain⟨b,o,cs,rfl,rfl,hc⟩:=h4 i x hx';obtain⟨x0,x1,x2⟩:=x;have e0:wr.cell? ⟨b,o+i*3,none⟩=some (.int .i64 x0):=hc 0 _ rfl;have e1:wr.cell? ⟨b,o+i*3+1,none⟩=some (.int .i64 x1):=hc 1 _ rfl;have e2:wr.cell? ⟨b,o+i*3+2,none⟩=some (.int .i64 x2):=hc 2 _ rfl;dsimp only at HS3;clear hc h4 hx' hd hxm HS HAl;have hF:=Blk.new wr 252 [.int .i64 x0,.int .i64 x1,.int .i64 x2];change Blk (wr.alloc (.cells #[.int .i64 x0,.int .i64 x1,.int .i64 x2] 252)) _ _ _ at hF;have hBz:=HB.alloc HB.size (.cells #[.int .i64 x0,.int .i64 x1,.int .i64 x2] 252);have hKz:=HK4.kept hBz;have HBz:=zY hBz;have HBw:=zYt HB4 hBz;clear hBz HB;go_upto_region 23 with fail;clear e0 e1 e2 c4 c6;generalize wr.alloc (.cells #[.int .i64 x0,.int .i64 x1,.int .i64 x2] 252)=wz at *;generalize wr.heap.size=fb at *;have c6:=hKz.c 6;have c4:=hKz.c 4;have g0:=hF.c 0;have g1:=hF.c 1;have g2:=hF.c 2;clear hF hKz;have HV:Hid (¬P):=zY (by
  rw[<-HP.out]
  intro h'
  exact k1 (h'.exts.1 (by show 0<exts.length;omega)));go_wp2;go_ret;exact⟨Chk.no (by decide) HV.out,HBw.out⟩};{
 obtain rfl:i=exts.length:=by omega
 have hiI:¬((exts.length:Nat):Int)<(exts.length:Int):=by omega
 have hS':=HS.out;rw[List.drop_length,sumX,Int.add_zero]at hS';have hAll:=HAl.out;rw[List.take_length]at hAll;by_cases hq:S=0;{
 have HV:Hid P:=zY (by
  rw[<-HP.out]
  exact⟨HNk.out,HPe.out,HNd.out,HAe.out,HBa.out,(HTG.trans HTt.out),⟨by show (0:Int)<=0;omega,by show (0:Int)<=65536;omega,fun _=>rfl⟩,HDi.out,(fun q=>absurd q (by have h0:=HI0.out;show ¬0<exts.length;omega)),hAll,by dsimp only;omega⟩);have hz0:(S != 0)=false:=by rw[hq];simp
 clear hS' hAll hq;go_wp2;go_ret;exact⟨Chk.yes HV.out,HB4.trans (HB.mono HB4.size)⟩};{
 have HV:Hid (¬P):=zY (by
  rw[<-HP.out]
  intro h
  have h2:=h.exts.2.2
  dsimp only at h2
  exact hq (by omega));have hz0:(S != 0)=true:=by rw[bne_iff_ne];exact hq
 clear hS' hAll hq;go_wp2;go_ret;exact⟨Chk.no (by decide) HV.out,HB4.trans (HB.mono HB4.size)⟩}}};{
 have db:dig.toList.isEmpty=false:=isEmptyV dg;have HV:Hid (¬P):=zY (by rw[<-HP.out];intro h;exact dg (h.dig.2 k1));clear dg k1;go_wp2_with fail;go_ret;exact⟨Chk.no (by decide) HV.out,HB4.out⟩}};{
 have sb:(size != 0)=true:=by rw[bne_iff_ne];exact sz
 have HV:Hid (¬P):=zY (by rw[<-HP.out];intro h;exact sz (h.size.2.2 k1));clear sz k1;go_wp2_with fail;go_ret;exact⟨Chk.no (by decide) HV.out,HB4.out⟩}}}}};{
 have hne:(attrsE attrs != 0)=true:=by rw[bne_iff_ne];exact hae
 have HV:Hid (¬P):=zY (by rw[<-HP.out];exact fun h=>hae h.attrs);clear hae;generalize attrsE attrs=ae at *;go_wp2_with fail;go_ret;exact⟨Chk.no (by rintro rfl;cases hne) HV.out,HB3.out⟩}};{
 have hne:(pathE (bs path) != 0)=true:=by rw[bne_iff_ne];exact hpe
 have HV:Hid (¬P):=zY (by rw[<-HP.out];exact fun h=>hpe h.path);clear hpe;generalize pathE (bs path)=pe at *;go_wp2_with fail;go_ret;exact⟨Chk.no (by rintro rfl;cases hne) HV.out,HB2.out⟩}};{
 have hn0:N=⟨#[]⟩:=by rw[<-hN];exact nameK_none hk
 subst hn0;have HV:Hid (¬P):=zY (by rw[<-HP.out];exact fun h=>hk h.kind);clear hN hk;go_enter func153,ntmps153;go_wp2_with fail;refine(HNm.out _).mono ?_;rintro e1 w1 ⟨rfl,rfl⟩;go_wp2_with fail;go_ret;exact⟨Chk.no (by decide) HV.out,HB0.out⟩}
end
end Go.Proofs.YthgenkkkapilhaaGreatDoor