/- Texts, joined. -/
import Derived.Test.YthgenkkkapilhaaGreatDoorVTn24
set_option linter.all false
set_option maxRecDepth 100000
set_option maxHeartbeats 64000000
namespace Go.Proofs.YthgenkkkapilhaaGreatDoor
open Go.Proofs.Tryz
section
open Go.RowKit
theorem Blk.drewV {w:World} {g:Nat} {t:TypeId} {us:List Value} (h:Blk w g t us):Blk w.drew g t us:=h.kept (Below.refl _ _).drew
theorem namesB_at {m:Nat} (h:m<6):namesB[m]?=some (nameK ((m:Int)+1)):=by
 rcases (by omega:m=0∨m=1∨m=2∨m=3∨m=4∨m=5)with rfl|rfl|rfl|rfl|rfl|rfl<;>rfl
structure EntZ (e:Ent):Prop where
 path:e.path.size<=200
 tgt:e.tgt.size<=200
 atn:e.attrs.length<=16
 kv:∀a∈e.attrs,a.k.size<=64/\a.v.size<=64
 dig:e.dig.size<=32
 exn:e.exts.length<=65536
theorem EntOk.z {e:Ent} (h:EntOk e):EntZ e:=by
 have hA:=attrsE_ok h.attrs;refine⟨?_,?_,hA.len,fun a ha=>?_,?_,?_⟩;{
 have:=h.path;unfold pathE at this;split at this;{cases this};{
 rw[bs_len]at *;omega}};{
 have:=h.tgt;unfold tgtB at this;split at this;{exact(of_decide_eq_true this).2};{
 split at this;{
 rw[dateB,Bool.and_eq_true]at this;have:=(of_decide_eq_true this.1).2.1;rw[bs_len]at this;omega};{
 have:=of_decide_eq_true this;omega}}};{
 obtain⟨h1,h2⟩:=hA.key a ha;rw[keyB,Bool.and_eq_true]at h1;have:=(of_decide_eq_true h1.1).2;rw[bs_len]at this;omega};{
 by_cases hk:e.k=1;{have:=h.dig.1 hk;omega};{have:=h.dig.2 hk;omega}};{
 have key:∀l:List Ext,(∀x∈l,extB x=true)->(l.length:Int)<=sumX l:=by{
 intro l;induction l with
 |nil=>intro _;exact Int.le_refl _
 |cons x r ih=>
 intro hx;have h1:=of_decide_eq_true (hx x List.mem_cons_self);have h2:=ih fun y hy=>hx y (List.mem_cons_of_mem _ hy);rw[sumX,List.length_cons];omega};have h1:=key _ h.exts.2.1;have h2:=h.exts.2.2;have h3:=h.size;omega}
theorem headL_len {e:Ent} (h:EntOk e):(headL e).length<=4000:=by
 have z:=h.z;have h1:=nstL_len (nameK e.k) (by have:=(nameK_some h.kind).2;omega);have h1':=(nameK_some h.kind).2;have h2:=nstL_len e.path (by have:=z.path;omega);have h3:=numL_len e.attrs.length (by have:=z.atn;omega);have h4:=atrL_len (l:=e.attrs) (m:=64) (by omega) z.kv;have h5:=nstL_len e.tgt (by have:=z.tgt;omega);have h6:=Nat.mul_le_mul z.atn (Nat.le_refl (2*64+44));have h7:=z.path;have h8:=z.tgt;rw[strB_size]at h1 h2 h3 h5;rw[headL,List.length_append,List.length_append,List.length_append,List.length_append];omega
theorem atrL_lt (l:List Atr):∀b∈atrL l,b<256:=by
 intro b hb;obtain⟨a,_,ha⟩:=List.mem_flatMap.1 hb;rcases List.mem_append.1 ha with ha|ha;{exact nstL_lt _ b ha};{exact nstL_lt _ b ha}
theorem headL_lt (e:Ent):∀b∈headL e,b<256:=by
 intro b hb;unfold headL at hb;simp only[List.mem_append]at hb;rcases hb with(((hb|hb)|hb)|hb)|hb;{exact nstL_lt _ b hb};{exact nstL_lt _ b hb};{exact numL_lt _ b hb};{exact atrL_lt _ b hb};{exact nstL_lt _ b hb}
theorem nsts2 (a b:ByteArray):nstsL [a,b]=nstL (bs a)++nstL (bs b):=by
 unfold nstsL;simp
theorem enhead_ok (w:World) (e:Ent) (va vx:Value) (hva:SeqAt atrS w va e.attrs) (hvx:SeqAt extS w vx e.exts) (h:EntOk e) (hT:Tab w):Calls prog 180 #[entV e va vx] w fun r w'=>r=.returned (.tuple #[.string (strB (headL e)),.int .i64 0])/\Below w.heap.size w w':=by
 have HCk:=zY (fun W (hW:Below w.heap.size w W)=>encheck_ok W e va vx (hva.below hW) (hvx.below hW) h (hT.below hW));have HNm:Hid (∀W:World,Calls prog 264 #[] W fun e w'=>(∃g,e=.returned (.slice (some ⟨g,0,none⟩) 6 6)/\Blk w' g 9 (namesB.map Value.string))/\Below W.heap.size W w'):=zY (fun W=>(ennames_any W).mono fun e w' ⟨he,hw⟩=>⟨⟨_,he,by rw[hw];exact Blk.new W 9 (namesB.map Value.string)⟩,by rw[hw];exact(Below.refl _ _).alloc (Nat.le_refl _) _⟩);have HT:=zY hT;have z:=h.z;have HhL:=zY (headL_len h);obtain⟨m,hm⟩:∃m:Nat,e.k=(m:Int)+1:=⟨(e.k-1).toNat,by have:=h.kind;omega⟩;have hm6:m<6:=by have:=h.kind;omega
 have HLt:=zY (headL_lt e);clear h hT;obtain⟨k,path,attrs,t,size,dig,exts⟩:=e;dsimp only at hm hva hvx;subst hm;obtain⟨R,hR⟩:=zNm (headL ⟨(m:Int)+1,path,attrs,t,size,dig,exts⟩);rw[hR]at HhL HLt⊢;rw[headL]at hR;obtain⟨N,hN⟩:=zNm (nameK ((m:Int)+1));have HNn:Hid (namesB[m]?=some N):=zY (by rw[namesB_at hm6,hN]);have hNs:N.size<=7:=by rw[<-hN];exact(nameK_some (by omega)).2
 dsimp only at hR;rw[hN]at hR;have hz1:=z.path;have hz2:=z.tgt;have hz3:=z.atn;have Hkv:=zY z.kv;clear z hN;dsimp only at hz1 hz2 hz3 Hkv;have HR:=zY hR;clear hR;have Hva:=zY hva;obtain⟨Aa,ca,rfl,ha1,ha2⟩:=hva.slice;obtain⟨Ax,cx,rfl,hx1,hx2⟩:=hvx.slice;clear hva hvx;rw[entV]at HCk⊢;dsimp only at HCk⊢;have hK:=Blk.new w 182 [.int .i64 ((m:Int)+1),.string path,.slice Aa attrs.length ca,.string t,.int .i64 size,.string dig,.slice Ax exts.length cx];change Blk (w.alloc (.cells #[.int .i64 ((m:Int)+1),.string path,.slice Aa attrs.length ca,.string t,.int .i64 size,.string dig,.slice Ax exts.length cx] 182)) _ _ _ at hK;have HB0:=zY (zBl w (.cells #[.int .i64 ((m:Int)+1),.string path,.slice Aa attrs.length ca,.string t,.int .i64 size,.string dig,.slice Ax exts.length cx] 182));have HK:=zY hK;clear hK;obtain⟨X,hX⟩:=zNm (strB (nstsL [N,path]));have HXb:Hid (bs X=nstL (bs N)++nstL (bs path)):=zY (by rw[<-hX,bs_strB (nstsL_lt _),nsts2]);have HXz:Hid (X.size<=1000000000):=zY (by
  have h1:=nstL_len N (by omega)
  have h2:=nstL_len path (by omega)
  rw[strB_size]at h1 h2
  rw[<-hX,strB_size,nsts2,List.length_append]
  omega);have hwr:IntKind.i64.wrap ((m:Int)+1-1)=(m:Int):=by rw[zIw (by omega)];omega
 have hwr2:(m:Int)+1-1=m:=by omega
 have hwr3:IntKind.i64.wrap (m:Int)=(m:Int):=by rw[zIw (by omega)]
 have hm6I:(m:Int)<6:=by omega
 go_enter func180,ntmps180;go_upto_region 1 with fail;generalize w.alloc (.cells #[.int .i64 ((m:Int)+1),.string path,.slice Aa attrs.length ca,.string t,.int .i64 size,.string dig,.slice Ax exts.length cx] 182)=wb at *;have c0:=HK.c 0;have c1:=HK.c 1;have c2:=HK.c 2;have c3:=HK.c 3;have c4:=HK.c 4;have c5:=HK.c 5;have c6:=HK.c 6;go_wp2_with fail;refine(HCk.out _ HB0.out).mono ?_;rintro e1 w1 ⟨rfl,hb1⟩;have HK1:=zY (HK.kept hb1);have HB1:=zYt HB0 hb1;clear hb1 c0 c1 c2 c3 c4 c5 c6 HK HB0;have HSs:Hid (∀(W:World) (v:Value),Below w1.heap.size w1 W->SeqAt strS W v [N,path]->Calls prog 143 #[v] W fun e w'=>e=.returned (.string X)/\Below W.heap.size W w'):=zY (fun W v hW hv=>by
  rw[<-hX]
  exact nstrings_any W v [N,path] hv (by simp) (fun s hs=>by
   simp only[List.mem_cons,List.not_mem_nil,or_false]at hs
   rcases hs with rfl|rfl<;>omega) (HT.below (HB1.trans (hW.mono HB1.size))));clear hX;have HBl0:=zY (Bld.new w1);have HBc0:=zY (zBl w1 (.cells #[.pointer none,.slice none 0 0] 135));go_upto_region 5 with fail;generalize w1.alloc (.cells #[.pointer none,.slice none 0 0] 135)=wz at *;have HBl:=zY HBl0.drew;have HBc:=zY HBc0.drew;go_cut [] (fun wx=>Bld wx w1.heap.size w1.heap.size ([]++bs X)/\Below w1.heap.size w1 wx);case first=>(
 refine wp_region_held_drew (S:=(fun W=>W.cell? ⟨w.heap.size,0,none⟩=some (.int .i64 ((m:Int)+1))/\W.cell? ⟨w.heap.size,1,none⟩=some (.string path))) (by kernel_rfl) ?_ (fun hHeld=>?_);{exact⟨(HK1.kept HBc.out).c 0,(HK1.kept HBc.out).c 1⟩};refine tk 1 ?_;refine tk 2 ?_;refine tk 3 ?_;refine tk 6 ?_;refine tk 7 ?_;refine zE1 0 fun K hK=>?_;go_simp;refine(HNm.out _).mono ?_;rintro e5 w5 ⟨⟨g,rfl,hnb⟩,hb5⟩;(try go_wp2_with fail);have HNb:=zY hnb;have HBl:=zY (HBl.below hb5);have HBc:=zYt HBc hb5;clear hb5 hnb;refine hko hK (by exact⟨(HK1.kept HBc.out).c 0,(HK1.kept HBc.out).c 1⟩) (fun _=>?_);clear hK K;refine tk 4 ?_;refine zE1 5 fun K hK=>?_;have q0:=HNb.cell (i:=m) (u:=.string N) (by rw[List.getElem?_map,HNn.out];rfl);go_simp;clear q0;refine hko hK (by exact⟨(HK1.kept HBc.out).c 0,(HK1.kept HBc.out).c 1⟩) (fun _=>?_);clear hK K;refine zE1 8 fun K hK=>?_;go_simp;have HV:=zY (SeqAt.strs _ [N,path] 2 (Nat.le_refl 2) (by decide):SeqAt strS (w5.alloc (.cells #[.string N,.string path] 9)) _ [N,path]);have HBl:=zY (HBl.alloc (.cells #[.string N,.string path] 9));have HBc:=zY (HBc.alloc HBc.size (.cells #[.string N,.string path] 9));refine hko hK (by exact⟨(HK1.kept HBc.out).c 0,(HK1.kept HBc.out).c 1⟩) (fun _=>?_);clear hK K;refine zE1 9 fun K hK=>?_;go_simp;refine(HSs.out _ _ HBc.out HV.out).mono ?_;rintro e6 w6 ⟨rfl,hb6⟩;(try go_wp2_with fail);have HBl:=zY (HBl.below hb6);have HBc:=zYt HBc hb6;clear hb6;refine hko hK (by exact⟨(HK1.kept HBc.out).c 0,(HK1.kept HBc.out).c 1⟩) (fun _=>?_);clear hK K;refine zE1 10 fun K hK=>?_;go_simp
 refine(wsB _ _ _ _ X HBl.out (by decide) HXz.out HBc.size).mono ?_;rintro e7 w7 ⟨rfl,hbl7,hb7⟩;(try go_wp2_with fail);have HBl:=zY hbl7;have HBc:=zY (HBc.trans hb7);clear hb7 hbl7;refine hko hK (by exact⟨(HK1.kept HBc.out).c 0,(HK1.kept HBc.out).c 1⟩) (fun _=>?_);clear hK K;refine wpAnyH_done (by kernel_rfl) ?_ _;go_wp2_with fail;go_meet;exact⟨HBl.out,HBc.out⟩)
 case rest=>
 obtain⟨hbl,hbc⟩:=hcut;have HBl1:=zY hbl;have HBc1:=zY hbc;clear hbl hbc HBl HBc HBl0 HBc0;have HK2:=zY (HK1.kept HBc1.out);have c2:=HK2.c 2;have HNu:=zY (nnumber_any wc attrs.length (by omega) (HT.below (HB1.trans (HBc1.mono HB1.size))));obtain⟨Y,hY⟩:=zNm (strB (numL attrs.length));have HYb:Hid (bs Y=numL attrs.length):=zY (by rw[<-hY,bs_strB (numL_lt _)]);have HYz:=zY (show Y.size<=21 by rw[<-hY];exact numL_len _ (by omega));rw[hY]at HNu;clear hY;go_wp2_with fail;refine HNu.mono ?_;rintro e2 w2 ⟨rfl,hb2⟩;have HW:=zY (wsB w2 w1.heap.size w1.heap.size _ Y (HBl1.below hb2) (by rw[List.nil_append,bs_len];exact HXz.out) (by have:=HYz.out;omega) (HBc1.trans (hb2.mono HBc1.size)).size);have HBc2:=zYt HBc1 hb2;clear hb2 c2;go_wp2_with fail;refine HW.mono ?_;rintro e3 w3 ⟨rfl,hbl3,hb3⟩;obtain⟨A0,hA0⟩:=zNm ([]++bs X++bs Y);rw[hA0]at hbl3;have HA0:Hid (A0=nstL (bs N)++nstL (bs path)++numL attrs.length):=zY (by rw[<-hA0,List.nil_append,HXb.out,HYb.out]);have HA0l:Hid (A0.length<=1000):=zY (by
  have h1:=nstL_len N (by omega)
  have h2:=nstL_len path (by omega)
  have h3:=numL_len attrs.length (by omega)
  rw[strB_size]at h1 h2 h3
  rw[HA0.out,List.length_append,List.length_append]
  omega);have HBl3:=zY hbl3;have HBc3:=zY (HBc2.trans hb3);have HK3:=zY (HK1.kept HBc3.out);clear hbl3 hb3 hA0 HBl1 HBc1 HBc2 HK2 HW;have c2:=HK3.c 2;have HAl:Hid (∀i,(atrL (attrs.take i)).length<=10000):=zY (fun i=>by
  have h1:=atrL_len (l:=attrs.take i) (m:=64) (by omega) (fun a h=>Hkv.out a (List.mem_of_mem_take h))
  have h2:=Nat.mul_le_mul (show (attrs.take i).length<=16 by rw[List.length_take];omega) (Nat.le_refl (2*64+44))
  omega);go_wp2;go_loopw [32] (fun x wr=>∃i:Nat,i<=attrs.length/\x=.int .i64 (i:Int)/\Bld wr w1.heap.size w1.heap.size (A0++atrL (attrs.take i))/\Below w1.heap.size w1 wr) (fun x _=>attrs.length-(intOf x).toNat);case atStart=>exact⟨0,by omega,rfl,by rw[List.take_zero,show atrL []=[] from rfl,List.append_nil];exact HBl3.out,HBc3.out⟩
 case round=>
 obtain⟨i,hi,rfl,hbl,hB⟩:=hrel;have HBl:=zY hbl;have HB:=zY hB;clear hbl hB c2;by_cases h:i<attrs.length;{
 have hiI:(i:Int)<attrs.length:=by omega
 obtain⟨a,ha⟩:∃a,attrs[i]?=some a:=⟨_,List.getElem?_eq_getElem h⟩;obtain⟨hak,hav⟩:=Hkv.out a (List.mem_of_getElem? ha);have HNx:=zY (atrL_take ha);obtain⟨_,_,e9,_,_,h4⟩:=Hva.below (HB1.trans (HB.mono HB1.size));cases e9;obtain⟨b,o,cs,rfl,rfl,hc⟩:=h4 i a ha;obtain⟨ak,av⟩:=a;dsimp only at hak hav HNx;have e0:wr.cell? ⟨b,o+i*2,none⟩=some (.string ak):=hc 0 _ rfl;have e1:wr.cell? ⟨b,o+i*2+1,none⟩=some (.string av):=hc 1 _ rfl;have hTm:=Blk.new wr 93 [.string ak,.string av];change Blk (wr.alloc (.cells #[.string ak,.string av] 93)) _ _ _ at hTm;have HTm:=zY hTm;have HBt:=zY (HB.alloc HB.size (.cells #[.string ak,.string av] 93));have HBlt:=zY (HBl.alloc (.cells #[.string ak,.string av] 93));clear hc h4 ha hTm;go_upto_region 10 with fail;generalize wr.alloc (.cells #[.string ak,.string av] 93)=wt at *;clear e0 e1;have t0:=HTm.c 0;have t1:=HTm.c 1;obtain⟨Z,hZ⟩:=zNm (strB (nstsL [ak,av]));have HZb:Hid (bs Z=nstL (bs ak)++nstL (bs av)):=zY (by rw[<-hZ,bs_strB (nstsL_lt _),nsts2]);have HZz:Hid (Z.size<=1000000000):=zY (by
  have h1:=nstL_len ak (by omega)
  have h2:=nstL_len av (by omega)
  rw[strB_size]at h1 h2
  rw[<-hZ,strB_size,nsts2,List.length_append]
  omega);have HSq:Hid (Calls prog 143 #[.slice (some ⟨wt.heap.size,0,none⟩) 2 2] (wt.alloc (.cells #[.string ak,.string av] 9)) fun e w'=>e=.returned (.string Z)/\Below (wt.alloc (.cells #[.string ak,.string av] 9)).heap.size (wt.alloc (.cells #[.string ak,.string av] 9)) w'):=zY (by
  rw[<-hZ]
  exact nstrings_any _ _ [ak,av] (SeqAt.strs wt [ak,av] 2 (Nat.le_refl 2) (by decide)) (by simp) (fun s hs=>by
   simp only[List.mem_cons,List.not_mem_nil,or_false]at hs
   rcases hs with rfl|rfl<;>omega) (HT.below (HB1.trans ((HBt.alloc HBt.size _).mono HB1.size))));clear hZ;have HBu:=zY (HBt.alloc HBt.size (.cells #[.string ak,.string av] 9));have HBlu:=zY (HBlt.alloc (.cells #[.string ak,.string av] 9));go_wp2_with fail;refine HSq.mono ?_;rintro e4 w4 ⟨rfl,hb4⟩;have HW:=zY (wsB w4 w1.heap.size w1.heap.size _ Z (HBlu.below hb4) (by rw[List.length_append];have:=HA0l.out;have:=HAl.out i;omega) HZz.out (HBu.trans (hb4.mono HBu.size)).size);have HB4:=zYt HBu hb4;clear hb4;go_wp2_with fail;refine HW.mono ?_;rintro e5 w5 ⟨rfl,hbl5,hb5⟩;have HBl5:=zY hbl5;have HB5:=zY (HB4.trans hb5);clear hbl5 hb5;go_wp2_with fail;go_roundw;case rel=>exact⟨i+1,by omega,by go_num,by rw[HNx.out,<-HZb.out,<-List.append_assoc];exact HBl5.out,HB5.out⟩
 case measure=>simp[intOf];omega};{
 obtain rfl:i=attrs.length:=by omega
 have hiI:¬((attrs.length:Nat):Int)<(attrs.length:Int):=by omega
 have HKr:=zY (HK1.kept HB.out);have c3:=HKr.c 3;obtain⟨Z,hZ⟩:=zNm (strB (nstL (bs t)));have HZb:Hid (bs Z=nstL (bs t)):=zY (by rw[<-hZ,bs_strB (nstL_lt _)]);have HZz:=zY (show Z.size<=300 by rw[<-hZ];have:=nstL_len t (by omega);omega);have HSq:=zY (nnstring_any wr t (by omega) (HT.below (HB1.trans (HB.mono HB1.size))));rw[hZ]at HSq;clear hZ;have HRl:Hid (A0++atrL (attrs.take attrs.length)++bs Z=R):=zY (by rw[<-HR.out,HA0.out,HZb.out,List.take_length]);go_wp2_with fail;refine HSq.mono ?_;rintro e4 w4 ⟨rfl,hb4⟩;have HW:=zY (wsB w4 w1.heap.size w1.heap.size _ Z (HBl.below hb4) (by rw[List.length_append];have:=HA0l.out;have:=HAl.out attrs.length;omega) (by have:=HZz.out;omega) (HB.trans (hb4.mono HB.size)).size);have HB4:=zYt HB hb4;rw[HRl.out]at HW;clear hb4;go_wp2_with fail;refine HW.mono ?_;rintro e5 w5 ⟨rfl,hbl5,hb5⟩;have HS:=zY (str_any w5 w1.heap.size w1.heap.size R HLt.out hbl5 (HB4.trans hb5).size);have HB5:=zY (HB4.trans hb5);clear hbl5 hb5;go_wp2_with fail;refine HS.mono ?_;rintro e6 w6 ⟨rfl,_,hb6⟩;have HB6:=zY (HB1.trans ((HB5.trans hb6).mono HB1.size));clear hb6;go_wp2_with fail;go_ret2;exact⟨rfl,HB6.out⟩}
def chaOk (c:Cha):Prop:=c.path.size<=250/\c.tgt.size<=250/\c.attrs.length<=20/\c.cont.size<=600/\∀a∈c.attrs,a.k.size<=80/\a.v.size<=80
def cntB:List Bat->Nat
 |[]=>0
 |b::r=>b.l.length+cntB r
theorem cntB_app (l m:List Bat):cntB (l++m)=cntB l+cntB m:=by
 induction l with
 |nil=>simp[cntB]
 |cons x r ih=>rw[List.cons_append,cntB,cntB,ih];omega
def GreatOk (l:List Bat):Prop:=cntB l<=10/\(∀b∈l,∀c∈b.l,chaOk c)/\l.length<=4
def RetGr (l:List Bat) (e:Ending):Prop:=∃n:Int,e=.returned (.int .i64 n)/\(n=1∨(n=0/\GreatOk l))
theorem RetGr.one (l:List Bat):RetGr l (.returned (.int .i64 1)):=⟨1,rfl,.inl rfl⟩
theorem take_mem {α:Type} {l:List α} {i:Nat} {x:α} {p:α->Prop} (hx:l[i]?=some x) (h:∀y∈l.take i,p y) (hp:p x):∀y∈l.take (i+1),p y:=by
 intro y hy;rw[List.take_add_one,hx]at hy;rcases List.mem_append.1 hy with hy|hy;{exact h y hy};{
 rw[Option.toList_some,List.mem_singleton]at hy;rw[hy];exact hp}
theorem great39_any (w:World) (v:Value) (l:List Bat) (hv:SeqAt batS w v l):Calls prog 36 #[v] w fun e w'=>RetGr l e/\Below w.heap.size w w':=by
 have Hv:=zY hv;obtain⟨A,c,rfl,h1,h2⟩:=hv.slice;clear hv;go_enter func36,ntmps36;go_wp2;go_loopw [3,4,5,6,7] (fun n x _ _ _ wr=>∃i N:Nat,i<=l.length/\x=.int .i64 (i:Int)/\n=.int .i64 (N:Int)/\N=30*cntB (l.take i)/\N<=300/\(∀b∈l.take i,∀c∈b.l,chaOk c)/\Below w.heap.size w wr) (fun _ x _ _ _ _=>l.length-(intOf x).toNat);case atStart=>exact⟨0,0,by omega,rfl,rfl,by simp[cntB],by omega,(fun b hb=>by simp at hb),Below.refl _ _⟩
 case round=>
 obtain⟨i,N,hi,rfl,rfl,hN,hN3,hall,hB⟩:=hrel;have HN:=zY hN;have Hall:=zY hall;have HB:=zY hB;clear hN hall hB;by_cases h:i<l.length;{
 have hiI:(i:Int)<l.length:=by omega
 obtain⟨b,hb⟩:∃b,l[i]?=some b:=⟨_,List.getElem?_eq_getElem h⟩;have Hb:=zY hb;obtain⟨_,_,e9,_,_,h4⟩:=Hv.below HB.out;cases e9;obtain⟨g,o,cs,rfl,⟨vb,rfl,rb⟩,hc⟩:=h4 i b hb;have HL1:Hid (wr.cell? ⟨g,o+i*2+1,none⟩=some vb):=zY (hc 1 _ rfl);have HRb:=zY rb;have HNx:Hid (30*cntB (l.take (i+1))=N+30*b.l.length):=zY (by rw[HN.out,List.take_add_one,hb,cntB_app];simp only[Option.toList_some,cntB];omega);obtain⟨Ab,cb,rfl,_,_⟩:=rb.slice;clear hc h4 hb rb;obtain⟨wx,rfl⟩:∃x,x=wr:=⟨_,rfl⟩;go_wp2;go_loopw [3,5,6,7] (fun n x _ _ wr=>∃k M:Nat,k<=b.l.length/\x=.int .i64 (k:Int)/\n=.int .i64 (M:Int)/\M=N+30*k/\M<=300/\(∀c∈b.l.take k,chaOk c)/\Below wx.heap.size wx wr) (fun _ x _ _ _=>b.l.length-(intOf x).toNat);case atStart=>exact⟨0,N,by omega,rfl,rfl,by omega,hN3,(fun c hc=>by simp at hc),Below.refl _ _⟩
 case round=>
 obtain⟨k,M,hk,rfl,rfl,hM,hM3,hcs,hB2⟩:=hrel;have HM:=zY hM;have Hcs:=zY hcs;have HB2:=zY hB2;clear hM hcs hB2;have c1:=cell_below HB2.out HL1.out;by_cases hk2:k<b.l.length;{
 have hkI:(k:Int)<b.l.length:=by omega
 obtain⟨x,hx⟩:∃x,b.l[k]?=some x:=⟨_,List.getElem?_eq_getElem hk2⟩;have Hx:=zY hx;obtain⟨_,_,e9,_,_,h4⟩:=HRb.below HB2.out;cases e9;obtain⟨g2,o2,cs,rfl,⟨va,rfl,ra⟩,hc⟩:=h4 k x hx;have HRa:=zY ra;obtain⟨Aa,ca,rfl,_,_⟩:=ra.slice;obtain⟨xk,xp,xa,xt,xc⟩:=x;dsimp only at hc HRa Hx;have Hna:Hid (xa.length=xa.length):=zY rfl;generalize hna:xa.length=na at *;have Hn:=zY hna;have e0:wr.cell? ⟨g2,o2+k*5,none⟩=some (.int .i64 xk):=hc 0 _ rfl;have e1:wr.cell? ⟨g2,o2+k*5+1,none⟩=some (.string xp):=hc 1 _ rfl;have e2:wr.cell? ⟨g2,o2+k*5+2,none⟩=some (.slice Aa na ca):=hc 2 _ rfl;have e3:wr.cell? ⟨g2,o2+k*5+3,none⟩=some (.string xt):=hc 3 _ rfl;have e4:wr.cell? ⟨g2,o2+k*5+4,none⟩=some (.string xc):=hc 4 _ rfl;clear hc h4 hx ra hna Hna;have HF:Hid (Blk (wr.alloc (.cells #[.int .i64 xk,.string xp,.slice Aa na ca,.string xt,.string xc] 91)) wr.heap.size 91 [.int .i64 xk,.string xp,.slice Aa na ca,.string xt,.string xc]):=zY (Blk.new _ _ _);have HBz:=zY (HB2.alloc HB2.size (.cells #[.int .i64 xk,.string xp,.slice Aa na ca,.string xt,.string xc] 91));have HRz:=zY (HRa.below ((Below.refl _ wr).alloc (Nat.le_refl _) (.cells #[.int .i64 xk,.string xp,.slice Aa na ca,.string xt,.string xc] 91)));go_upto_region 9 with fail;clear e0 e1 e2 e3 e4 c1;generalize wr.alloc (.cells #[.int .i64 xk,.string xp,.slice Aa na ca,.string xt,.string xc] 91)=wz at *;generalize wr.heap.size=gx at *;have f1:=HF.c 1;have f2:=HF.c 2;have f3:=HF.c 3;have f4:=HF.c 4;have HBw:=zY (HB.trans (HBz.mono HB.size));obtain⟨M2,hM2⟩:=zNm (M+30);have hM2I:(M:Int)+30=M2:=by omega
 have HM2:Hid (M2=N+30*(k+1)):=zY (by have:=HM.out;omega);clear hM2;by_cases a1:250<xp.size;{
 have a1I:(250:Int)<xp.size:=by omega
 go_wp2;go_ret;exact⟨RetGr.one l,HBw.out⟩};{
 have a1I:¬(250:Int)<xp.size:=by omega
 by_cases a2:250<xt.size;{
 have a2I:(250:Int)<xt.size:=by omega
 go_wp2;go_ret;exact⟨RetGr.one l,HBw.out⟩};{
 have a2I:¬(250:Int)<xt.size:=by omega
 by_cases a3:20<na;{
 have a3I:(20:Int)<na:=by omega
 go_wp2;go_ret;exact⟨RetGr.one l,HBw.out⟩};{
 have a3I:¬(20:Int)<na:=by omega
 by_cases a4:600<xc.size;{
 have a4I:(600:Int)<xc.size:=by omega
 go_wp2;go_ret;exact⟨RetGr.one l,HBw.out⟩};{
 have a4I:¬(600:Int)<xc.size:=by omega
 by_cases a5:300<M2;{
 have a5I:(300:Int)<M2:=by omega
 go_wp2;go_ret;exact⟨RetGr.one l,HBw.out⟩};{
 have a5I:¬(300:Int)<M2:=by omega
 go_wp2;go_loop [7] (fun x=>∃j:Nat,j<=na/\x=.int .i64 (j:Int)/\∀a∈xa.take j,a.k.size<=80/\a.v.size<=80) (fun x=>na-(intOf x).toNat);case atStart=>exact⟨0,by omega,rfl,fun a ha=>by simp at ha⟩
 case round=>
 obtain⟨j,hj,rfl,hat⟩:=hrel;have Hat:=zY hat;clear hat;by_cases hj2:j<na;{
 have hjI:(j:Int)<na:=by omega
 obtain⟨y,hy⟩:∃y,xa[j]?=some y:=⟨_,List.getElem?_eq_getElem (by rw[Hn.out];exact hj2)⟩;have Hy:=zY hy;have hrz:=HRz.out;obtain⟨_,_,e9,_,_,h4⟩:=hrz;cases e9;obtain⟨g3,o3,cs,rfl,rfl,hc⟩:=h4 j y hy;obtain⟨yk,yv⟩:=y;dsimp only at hc Hy;have q0:wz.cell? ⟨g3,o3+j*2,none⟩=some (.string yk):=hc 0 _ rfl;have q1:wz.cell? ⟨g3,o3+j*2+1,none⟩=some (.string yv):=hc 1 _ rfl;clear hc h4 hy;by_cases b1:80<yk.size;{
 have b1I:(80:Int)<yk.size:=by omega
 go_wp2;go_ret;exact⟨RetGr.one l,HBw.out⟩};{
 have b1I:¬(80:Int)<yk.size:=by omega
 by_cases b2:80<yv.size;{
 have b2I:(80:Int)<yv.size:=by omega
 go_wp2;go_ret;exact⟨RetGr.one l,HBw.out⟩};{
 have b2I:¬(80:Int)<yv.size:=by omega
 go_wp2;go_round;case rel=>exact⟨j+1,by omega,by go_num,take_mem Hy.out Hat.out ⟨by show yk.size<=80;omega,by show yv.size<=80;omega⟩⟩
 case measure=>simp[intOf];omega}}};{
 obtain rfl:j=na:=by omega
 have hjI:¬((j:Nat):Int)<(j:Int):=by omega
 have HOk:Hid (chaOk ⟨xk,xp,xa,xt,xc⟩):=zY ⟨by show xp.size<=250;omega,by show xt.size<=250;omega,by show xa.length<=20;rw[Hn.out];omega,by show xc.size<=600;omega,fun a ha=>Hat.out a (by rw[List.take_of_length_le (by rw[Hn.out];exact Nat.le_refl _)];exact ha)⟩;go_wp2;go_roundw;case rel=>exact⟨k+1,M2,by omega,by go_num,rfl,HM2.out,by omega,take_mem Hx.out Hcs.out HOk.out,HBz.out⟩
 case measure=>simp[intOf];omega}}}}}}};{
 obtain rfl:k=b.l.length:=by omega
 have hkI:¬((b.l.length:Nat):Int)<(b.l.length:Int):=by omega
 go_wp2;go_roundw;case rel=>exact⟨i+1,M,by omega,by go_num,rfl,by rw[HNx.out];exact HM.out,hM3,take_mem Hb.out Hall.out (fun c hc=>Hcs.out c (by rw[List.take_length];exact hc)),HB.trans (HB2.mono HB.size)⟩
 case measure=>simp[intOf];omega}};{
 obtain rfl:i=l.length:=by omega
 have hiI:¬((l.length:Nat):Int)<(l.length:Int):=by omega
 by_cases h5:4<l.length;{
 have h5I:(4:Int)<l.length:=by omega
 go_wp2;go_ret;exact⟨RetGr.one l,HB.out⟩};{
 have h5I:¬(4:Int)<l.length:=by omega
 have HG:Hid (GreatOk l):=zY ⟨by have:=HN.out;rw[List.take_length]at this;omega,fun b hb=>Hall.out b (by rw[List.take_length];exact hb),by omega⟩;go_wp2;go_ret;exact⟨⟨0,rfl,.inr ⟨rfl,HG.out⟩⟩,HB.out⟩}}
end
end Go.Proofs.YthgenkkkapilhaaGreatDoor