/-
  Joined: PgK.
-/
import Derived.Test.YthgenkkkapilhaaGreatDoorVPn45
set_option linter.all false
set_option maxRecDepth 100000
set_option maxHeartbeats 64000000
namespace Go.Proofs.YthgenkkkapilhaaGreatDoor
open Go.Proofs.Tryz
section
open Go.RowKit
theorem lawprograms_any (w:World) (v:Value) (l:List Bat) (hv:SeqAt batS w v l) (x:Nat) (hx:x<256) (t:ByteArray) (hT:Tab w):Calls prog 8 #[v,.int .u8 (x:Int),.string t] w fun e w'=>e=.returned (.bool true)/\Below w.heap.size w w':=by
 have HT:=zY hT;have HM:=zY (fun(W:World) (hW:Below w.heap.size w W)=>made_len W v l (hv.below hW) x hx);obtain⟨Av,cv,rfl,_,_⟩:=hv.slice;generalize l.length=ll at *;clear hv hT;go_enter func8,ntmps8;go_wp2_with fail;refine(HM.out _ (Below.refl _ _)).mono ?_;rintro e1 w1 ⟨⟨d,s,va,L,ok,rfl,hd1,hd3,hs2,hva,hok⟩,hb1⟩;obtain⟨A,c,rfl,_,_⟩:=hva.slice;have HVa:=zY hva;have HOk:=zY hok;have HB1:=zY hb1;clear hva hok hb1 HM;go_upto_region 2 with fail;have HA:Hid (Blk (w1.alloc (.cells #[.int .u32 7,.int .i64 (d:Int),.int .i64 (s:Int),.slice A L.length c] 28)) w1.heap.size 28 [.int .u32 7,.int .i64 (d:Int),.int .i64 (s:Int),.slice A L.length c]):=zY (Blk.new w1 28 [.int .u32 7,.int .i64 (d:Int),.int .i64 (s:Int),.slice A L.length c]);have HVb:=zY (HVa.below (zBl w1 (.cells #[.int .u32 7,.int .i64 (d:Int),.int .i64 (s:Int),.slice A L.length c] 28)));have HB2:=zY (HB1.alloc HB1.size (.cells #[.int .u32 7,.int .i64 (d:Int),.int .i64 (s:Int),.slice A L.length c] 28));clear HB1 HVa;generalize w1.alloc (.cells #[.int .u32 7,.int .i64 (d:Int),.int .i64 (s:Int),.slice A L.length c] 28)=w2 at *;generalize w1.heap.size=g at *;cases ok with
 |false=>go_wp2_with fail;refine(awake43_any _ (HT.below HB2.out)).mono ?_;rintro ez wz ⟨rfl,hbz⟩;have HBz:=zYt HB2 hbz;clear hbz;go_wp2;go_ret;exact⟨rfl,HBz.out⟩
 |true=>
 by_cases h1:1<ll;case pos=>(
 have h1I:(1:Int)<ll:=by omega
 go_wp2_with fail;refine(awake43_any _ (HT.below HB2.out)).mono ?_;rintro ez wz ⟨rfl,hbz⟩;have HBz:=zYt HB2 hbz;clear hbz;go_wp2;go_ret;exact⟨rfl,HBz.out⟩)
 case neg=>
 have h1I:¬(1:Int)<ll:=by omega
 by_cases ht:300<t.size;case pos=>(
 have htI:(300:Int)<t.size:=by omega
 go_wp2_with fail;refine(awake43_any _ (HT.below HB2.out)).mono ?_;rintro ez wz ⟨rfl,hbz⟩;have HBz:=zYt HB2 hbz;clear hbz;go_wp2;go_ret;exact⟨rfl,HBz.out⟩)
 case neg=>
 have htI:¬(300:Int)<t.size:=by omega
 obtain⟨hMo,hLl⟩:=HOk.out rfl;have HMo:=zY hMo;have HAl:=zY hMo.all;have hl2:=hMo.len;have hl1:L.length<=1:=by omega
 have HL1:=zY hl1;have Hht:=zY ht;have HSp:=zY (plsplit_any w2 t 7 (by omega));have HF1:=zY (fun(W:World) (hW:SeqAt sesS W (.slice A L.length c) L) (hT:Tab W)=>volreels_any W 7 (d:Int) (s:Int) _ L t (by decide) hW (by omega) HAl.out (by omega) hT);have Hds:Hid (1<=d/\d<=3/\s<=2):=zY ⟨hd1,hd3,hs2⟩;have HRe:=zY (fun(h:splitE t≠0)=>reels_err (L:=L) ⟨hd1,hd3⟩ hs2 h);have HRo:=zY (fun(h:splitE t=0)=>reels_ok hMo ⟨hd1,hd3⟩ hs2 h);have HSm:=zY (fun(h:splitE t=0) (r:Nat)=>reel_small hMo hl1 (s:=s) hd1 (by omega:t.size<=300) h r);clear hMo hLl hl2 HOk h1;have a0:=HA.c 0;go_wp2_with fail;refine HSp.mono ?_;rintro e3 w3 ⟨⟨v3,rfl,h3⟩,hb3⟩;obtain⟨A3,c3,rfl⟩:=h3.slice;have HVc:=zY (HVb.below hb3);have HA3:=zY (HA.kept hb3);have HB3:=zYt HB2 hb3;clear h3 hb3 a0 HSp HVb HA HB2 h1I;have HFc:=zY (HF1.out w3 HVc.out (HT.below HB3.out));have a0:=HA3.c 0;have a1:=HA3.c 1;have a2:=HA3.c 2;have a3:=HA3.c 3;generalize hno:(splitR 7 t).length=no at *;clear hno HF1;by_cases hk:splitE t=0;case neg=>(
 obtain⟨hre,hrr⟩:=HRe.out hk;rw[hre,hrr]at HFc;obtain⟨k,hkk⟩:=zNm (splitE t);rw[hkk]at hk HFc⊢;have f0:(k != 0)=true:=by rw[bne_iff_ne];exact hk
 have f1:(k==0)=false:=by rw[beq_eq_false_iff_ne];exact hk
 clear hre hrr hkk hk HRe HRo HSm;generalize L.length=nl at *;go_wp2_with fail;refine HFc.mono ?_;rintro e4 w4 ⟨⟨v4,rfl,h4⟩,hb4⟩;obtain⟨A4,c4,rfl,_,_⟩:=h4.slice;have HB4:=zYt HB3 hb4;clear h4 hb4 a0 a1 a2 a3 HFc;go_wp2_with fail;refine(awake43_any _ (HT.below HB4.out)).mono ?_;rintro ez wz ⟨rfl,hbz⟩;have HBz:=zYt HB4 hbz;clear hbz;go_wp2;go_ret;exact⟨rfl,HBz.out⟩)
 case pos=>
 obtain⟨hre,hrr⟩:=HRo.out hk;rw[hre,hrr]at HFc;have HSm:=zY (HSm.out hk);have Hk:=zY hk;rw[hk];clear hre hrr hk HRe HRo;by_cases hte:t.size=0;case pos=>(
 have g1:t.toList=[]:=toListV.2 (by cases t with|mk a=>exact congrArg ByteArray.mk (Array.eq_empty_of_size_eq_zero hte));have g2:t.toList.isEmpty=true:=by rw[g1];rfl
 generalize L.length=nl at *;go_wp2_with fail;refine HFc.mono ?_;rintro e4 w4 ⟨⟨v4,rfl,h4⟩,hb4⟩;obtain⟨A4,c4,rfl,_,_⟩:=h4.slice;have HB4:=zYt HB3 hb4;clear h4 hb4 a0 a1 a2 a3 HFc g1 g2;generalize ((List.range (d+s)).map fun r=>(r,reelP 7 (d:Int) (s:Int) L t r nl)).length=z4 at *;go_wp2_with fail;refine(awake43_any _ (HT.below HB4.out)).mono ?_;rintro ez wz ⟨rfl,hbz⟩;have HBz:=zYt HB4 hbz;clear hbz;go_wp2;go_ret;exact⟨rfl,HBz.out⟩)
 case neg=>
 have g2:t.toList.isEmpty=false:=isEmptyV hte;have g1:¬t.toList=[]:=fun e=>by rw[e]at g2;cases g2
 obtain⟨P,hP⟩:∃P:Nat->List ByteArray,(fun r=>reelP 7 (d:Int) (s:Int) L t r L.length)=P:=⟨_,rfl⟩;have hPr:∀r,reelP 7 (d:Int) (s:Int) L t r L.length=P r:=fun r=>by rw[<-hP]
 have HPl:Hid (∀r,(P r).length=(P 0).length):=zY (fun r=>by rw[<-hPr,<-hPr];exact reelP_len 7 _ _ L t r 0 _);have HPs:Hid (∀r,totS (P r)<=90000000/\∀p∈P r,p.size<=10000000):=zY (fun r=>by rw[<-hPr];exact HSm.out r);have HPx:Hid (∀r,(hitsP 7 (P r)).length<=plnT t->hitsP 7 (P r)=plnsL 7 t):=zY (fun r h=>by
  rw[<-hPr]at h⊢
  exact hits_exact (by decide) Hk.out h);have e0:((List.range (d+s)).map fun r=>(r,reelP 7 (d:Int) (s:Int) L t r L.length))=(List.range (d+s)).map fun r=>(r,P r):=List.map_congr_left fun r _=>by rw[hPr]
 rw[e0]at HFc;obtain⟨N,hN⟩:=zNm (d+s);have hN1:1<=N:=by omega
 have hN5:N<=5:=by omega
 rw[hN]at HFc;have HNl:Hid (((List.range N).map fun r=>(r,P r)).length=N):=zY (by rw[List.length_map,List.length_range]);have HN1:=zY hN1;have HN5:=zY hN5;clear hP hPr e0 hN hN1 hN5;generalize L.length=nl at *;go_wp2_with fail;refine HFc.mono ?_;rintro e4 w4 ⟨⟨v4,rfl,h4⟩,hb4⟩;have HQ:=zY h4;have HA4:=zY (HA3.kept hb4);have HB4:=zYt HB3 hb4;obtain⟨A4,c4,rfl,_,_⟩:=h4.slice;rw[HNl.out]at HQ⊢;clear h4 hb4 a0 a1 a2 a3 HFc g1 g2 HVc HA3;have HB3:=HB4;clear HB4;go_upto_region 10 with fail;go_loopw [80] (fun y wr=>∃i:Nat,i<=N/\y=.int .i64 (i:Int)/\Below w4.heap.size w4 wr) (fun y _=>N-(intOf y).toNat);case atStart=>exact⟨0,by omega,rfl,Below.refl _ _⟩
 case round=>
 obtain⟨i,hi,rfl,hBr⟩:=hrel;have HBr:=zY hBr;clear hBr;by_cases h:i<N;case pos=>(
 have hiI:(i:Int)<N:=by omega
 have hge:((List.range N).map fun r=>(r,P r))[i]?=some (i,P i):=by rw[List.getElem?_map,List.getElem?_range h];rfl
 have hg0:((List.range N).map fun r=>(r,P r))[0]?=some (0,P 0):=by rw[List.getElem?_map,List.getElem?_range (by omega)];rfl
 obtain⟨_,_,e9,_,_,h4⟩:=HQ.below HBr.out;rw[HNl.out]at e9;cases e9;obtain⟨b,o,cs,rfl,⟨vp,rfl,hvp⟩,hc⟩:=h4 i _ hge;obtain⟨b0,o0,cs0,eb,⟨vz,rfl,hvz⟩,hcz⟩:=h4 0 _ hg0;cases eb;obtain⟨Ap,cp,rfl,_,_⟩:=hvp.slice;obtain⟨Az,cz,rfl,_,_⟩:=hvz.slice;have HC0:Hid (wr.cell? ⟨b,o+i*2,none⟩=some (.int .i64 (i:Int))):=zY (hc 0 _ rfl);have HC1':Hid (wr.cell? ⟨b,o+i*2+1,none⟩=some (.slice Ap (P i).length cp)):=zY (hc 1 _ rfl);have HCz':Hid (wr.cell? ⟨b,o+1,none⟩=some (.slice Az (P 0).length cz)):=zY (by have:=hcz 1 _ rfl;rwa [show o+0*reelS.n+1=o+1 by omega]at this);have HC2:=zY (cell_below HBr.out (HA4.c 0));have HVp:=zY hvp;obtain⟨K,hK⟩:=zNm (plnT t);have hK2:(t.size+63)/64=K:=hK;have HPc':=zY (fun(W:World) (hW:Below wr.heap.size wr W)=>r27pieces_any W _ (P i) 7 (hvp.below hW) (HPs.out i).1 (HPs.out i).2);have HLd':=zY (fun(h:(hitsP 7 (P i)).length<=K) (W:World) (hW:Below wr.heap.size wr W)=>ldload_ok W _ (P i) 7 t (hvp.below hW) (HPs.out i).2 (HT.below (HB3.trans ((HBr.trans (hW.mono HBr.size)).mono HB3.size))) (HPx.out i (by rw[hK];exact h)) (by rw[hK];omega));rw[HPl.out i]at HC1' HPc' HLd';generalize (P 0).length=m at *;obtain⟨nh,hhn⟩:=zNm ((hitsP 7 (P i)).length);rw[hhn]at HPc' HLd';have HC1:=HC1';have HCz:=HCz';have HPc:=HPc';clear hc hcz h4 hvp hvz hge hg0 hK hhn HC1' HCz' HPc';have HHp:Hid (∀W:World,Calls prog 26 #[.string (padS t),.string t] W fun e w'=>e=.returned (.bool true)/\w'=W):=zY (fun W=>by have:=Tryz.strings_HasPrefix (padS t) t W;rwa [padS_has]at this)
 have HTr:Hid (∀W:World,Calls prog 27 #[.string ((padS t).extract t.size (padS t).size),.string ⟨#[32]⟩] W fun e w'=>e=.returned (.string ⟨#[]⟩)/\w'=W):=zY (fun W=>by have:=Tryz.strings_TrimRight_one ((padS t).extract t.size (padS t).size) 32 (by decide) W (by rw[ByteArray.size_extract,padS_size];unfold plnT;omega);rwa [padS_trim]at this);have hpz:t.size<=(padS t).size:=by rw[padS_size];unfold plnT;omega
 have hpzI:(t.size:Int)<=((padS t).size:Int):=by omega
 generalize padS t=S at *;have k1:IntKind.i64.wrap ((t.size:Int)+64)=(t.size:Int)+64:=zIw (by omega);have k2:IntKind.i64.wrap ((t.size:Int)+64-1)=(t.size:Int)+63:=by rw[show (t.size:Int)+64-1=t.size+63 by omega];exact zIw (by omega)
 have k3:((t.size:Int)+63)/64=K:=by omega
 have k4:((t.size:Int)+63).tdiv 64=K:=by rw[Int.tdiv_eq_ediv_of_nonneg (by omega)];exact k3
 have k5:IntKind.i64.wrap (K:Int)=K:=zIw (by omega);have HNl5:=HN5.out;have HLd:=HLd';clear HLd' hK2;have HBc:=zY ((Below.refl wr.heap.size wr).drew);go_upto_region 12 with fail;refine wp_region_held_drew (S:=(fun W=>W.cell? ⟨b,o+i*2+1,none⟩=some (.slice Ap m cp)/\W.cell? ⟨g,0,none⟩=some (.int .u32 7))) (by kernel_rfl) ?_ (fun hHeld=>?_);{exact⟨cell_below HBc.out HC1.out,cell_below HBc.out HC2.out⟩};refine tk 0 ?_;refine tk 1 ?_;refine tk 2 ?_;refine tk 3 ?_;refine tk 4 ?_;refine tk 5 ?_;refine tk 6 ?_;refine tk 9 ?_;refine tk 10 ?_;refine tk 11 ?_;refine tk 12 ?_;refine tk 13 ?_;refine zE1 7 fun K hK=>?_;go_simp;refine(HPc.out _ HBc.out).mono ?_;rintro e5 w5 ⟨⟨A5,n5,c5,rfl,hn5⟩,hb5⟩;(try go_wp2_with fail);have HBc:=zYt HBc hb5;clear hb5;refine hko hK (by exact⟨cell_below HBc.out HC1.out,cell_below HBc.out HC2.out⟩) (fun _=>?_);clear hK K;refine tk 8 ?_;refine tk 14 ?_;refine wpAnyH_done (by kernel_rfl) ?_ _;(try clear hHeld);have HB5:=zY (HBr.trans (HBc.mono HBr.size));by_cases hcnt:K<n5;case pos=>(
 have hcI:(K:Int)<(n5:Int):=by omega
 have HB5z:=zY (HB3.trans (HB5.mono HB3.size));go_wp2_with fail;refine(awake43_any _ (HT.below HB5z.out)).mono ?_;rintro ez wz ⟨rfl,hbz⟩;have HBz:=zYt HB5z hbz;clear hbz;go_wp2;go_ret;exact⟨rfl,HBz.out⟩)
 case neg=>
 have hcI:¬(K:Int)<(n5:Int):=by omega
 have HLd:=zY (HLd.out (by omega));go_upto_region 14 with fail;have HBc:=zY HBc.drew;refine wp_region_held_drew (S:=(fun W=>W.cell? ⟨b,o+i*2+1,none⟩=some (.slice Ap m cp)/\W.cell? ⟨g,0,none⟩=some (.int .u32 7))) (by kernel_rfl) ?_ (fun hHeld=>?_);{exact⟨cell_below HBc.out HC1.out,cell_below HBc.out HC2.out⟩};refine tk 0 ?_;refine tk 1 ?_;refine tk 2 ?_;refine tk 3 ?_;refine tk 4 ?_;refine tk 5 ?_;refine tk 6 ?_;refine zE1 7 fun K hK=>?_;go_simp;refine(HLd.out _ HBc.out).mono ?_;rintro e6 w6 ⟨rfl,hb6⟩;(try go_wp2_with fail);have HBc:=zYt HBc hb6;clear hb6;refine hko hK (by exact⟨cell_below HBc.out HC1.out,cell_below HBc.out HC2.out⟩) (fun _=>?_);clear hK K;refine tk 8 ?_;refine tk 9 ?_;refine tk 10 ?_;refine tk 11 ?_;refine tk 12 ?_;refine tk 13 ?_;refine tk 14 ?_;refine wpAnyH_done (by kernel_rfl) ?_ _;(try clear hHeld);have HB6:=zY (HBr.trans (HBc.mono HBr.size));have q0:=cell_below HBc.out HC0.out;have q1:=cell_below HBc.out HC1.out;have q2:=cell_below HBc.out HCz.out;clear HBc;go_upto_region 15 with fail;go_quiet (first|(go_at_call 26;refine Calls.quiet_of_same (HHp.out _))|(go_at_call 27;refine Calls.quiet_of_same (HTr.out _)));have HB6:=zY (blwN HB6.out nq);generalize w6.drewN nq=w7 at *;clear q0 q1 q2;go_wp2;go_roundw;case rel=>exact⟨i+1,by omega,by go_num,HB6.out⟩
 case measure=>simp[intOf];omega)
 case neg=>
 obtain rfl:i=N:=by omega
 have hiI:¬((i:Nat):Int)<(i:Int):=by omega
 have hi0:(0:Int)<(i:Int):=by have:=HN1.out;omega
 have HB5:=zY (HB3.trans (HBr.mono HB3.size));go_wp2_with fail;refine(awake43_any _ (HT.below HB5.out)).mono ?_;rintro ez wz ⟨rfl,hbz⟩;have HBz:=zYt HB5 hbz;clear hbz;go_wp2;go_ret;exact⟨rfl,HBz.out⟩
end
end Go.Proofs.YthgenkkkapilhaaGreatDoor