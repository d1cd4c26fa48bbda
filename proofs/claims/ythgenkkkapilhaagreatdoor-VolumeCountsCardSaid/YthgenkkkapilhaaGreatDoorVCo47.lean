/-
  Joined: VsB LvcA.
-/
import Derived.Test.YthgenkkkapilhaaGreatDoorVCo46
import Derived.Test.YthgenkkkapilhaaGreatDoorCards
set_option linter.all false
set_option maxRecDepth 100000
set_option maxHeartbeats 64000000
namespace Go.Proofs.YthgenkkkapilhaaGreatDoor
section
open Go.RowKit
theorem lawcounts_any (w:World) (v:Value) (l:List Bat) (hv:SeqAt batS w v l) (x:Nat) (hx:x<256) (hT:Tab w):Calls Tryz.prog 6 #[v,.int .u8 (x:Int)] w fun e w'=>e=.returned (.bool true)/\Below w.heap.size w w':=by
 have HT:=zY hT
 have HM:=zY (made_any w v l hv x hx)
 obtain⟨Av,cv,rfl,_,_⟩:=hv.slice
 generalize l.length=ll at *
 clear hv hT
 go_enter Tryz.func6,Tryz.ntmps6
 go_upto_region 1 with fail
 go_wp2_with fail
 refine HM.out.mono ?_
 rintro e1 w1 ⟨⟨d,s,va,L,ok,rfl,hd1,hd3,hs2,hva,hok⟩,hb1⟩
 obtain⟨A,c,rfl,_,_⟩:=hva.slice
 have HVa:=zY hva
 have HOk:=zY hok
 have HB1:=zY hb1
 clear hva hok hb1 HM
 go_upto_region 2 with fail
 have hA:=Blk.new w1 28 [.int .u32 7,.int .i64 (d:Int),.int .i64 (s:Int),.slice A L.length c]
 have HA:Hid (Blk (w1.alloc (.cells #[.int .u32 7,.int .i64 (d:Int),.int .i64 (s:Int),.slice A L.length c] 28)) w1.heap.size 28 [.int .u32 7,.int .i64 (d:Int),.int .i64 (s:Int),.slice A L.length c]):=zY hA
 have HVb:=zY (HVa.out.below (zBl w1 (.cells #[.int .u32 7,.int .i64 (d:Int),.int .i64 (s:Int),.slice A L.length c] 28)))
 have HB2:=zY (HB1.out.alloc HB1.out.size (.cells #[.int .u32 7,.int .i64 (d:Int),.int .i64 (s:Int),.slice A L.length c] 28))
 clear hA HB1 HVa
 generalize w1.alloc (.cells #[.int .u32 7,.int .i64 (d:Int),.int .i64 (s:Int),.slice A L.length c] 28)=w2 at *
 obtain⟨ga,hga⟩:=zNm (w1.heap.size)
 rw[hga]at HA⊢
 clear hga
 cases ok with
 |false=>
  have HAw:=zY (awake43_any w2 (HT.out.below HB2.out))
  go_wp2_with fail
  refine HAw.out.mono ?_
  rintro e3 w3 ⟨rfl,hb3⟩
  have HB3:=zYt HB2 hb3
  clear hb3
  go_wp2
  go_ret
  exact⟨rfl,HB3.out⟩
 |true=>
  have HMo:=zY (HOk.out rfl)
  have HAl:=zY HMo.out.all
  have hl2:=HMo.out.len
  have HDS:Hid (1<=d/\d<=3/\s<=2):=zY ⟨hd1,hd3,hs2⟩
  have HF1:=zY (fun(W:World) (n:Int) (hW:SeqAt sesS W (.slice A L.length c) L) (hT:Tab W)=>frames_any W 7 d s _ L n hW (by omega) HAl.out hT)
  have HTb:=zY (fun(W:World) (hW:Below w2.heap.size w2 W)=>HT.out.below (HB2.out.trans (hW.mono HB2.out.size)))
  have HLi:Hid (L.length<=2):=zY hl2
  have a1:=HA.out.c 1
  have a2:=HA.out.c 2
  have a3:=HA.out.c 3
  clear HT HOk
  go_upto_region 4 with fail
  go_wp2
  go_loopw [28] (fun t wr=>∃i:Nat,i<=L.length/\t=.int .i64 (i:Int)/\Below w2.heap.size w2 wr) (fun t _=>L.length-(intOf t).toNat)
  case atStart=>exact⟨0,by omega,rfl,Below.refl _ _⟩
  case round=>
   obtain⟨i,hi,rfl,hB⟩:=hrel
   have HB:=zY hB
   clear a1 a2 a3
   by_cases h:i<L.length
   {
   obtain⟨y,hy⟩:∃y,L[i]?=some y:=⟨_,List.getElem?_eq_getElem h⟩
   have hiI:(i:Int)<L.length:=by omega
   have hV:=(HAl.out i y hy).2.1
   have hstr:=(HAl.out i y hy).2.2
   have HFr:=zY (made_frames HMo.out hy (d:=d) (s:=s) ⟨HDS.out.1,HDS.out.2.1⟩ HDS.out.2.2)
   have HCe:=zY (contE_made HMo.out hy (d:=d) (s:=s) ⟨HDS.out.1,HDS.out.2.1⟩ HDS.out.2.2).1
   have HSV:=zY hV
   have HSt:=zY hstr
   have HPs:=zY (parts_small HMo.out hy)
   have HDl:=zY (dir_small HMo.out hy)
   obtain⟨_,_,e9,_,_,h4⟩:=HVb.out.below HB.out
   cases e9
   obtain⟨b,o,cs,rfl,⟨ve,rfl,hve⟩,hc⟩:=h4 i y hy
   have HVe:=zY hve
   obtain⟨Ae,ce,rfl,_,_⟩:=hve.slice
   have e0:wr.cell? ⟨b,o+i*6,none⟩=some (.int .i64 y.num):=hc 0 _ rfl
   have e1:wr.cell? ⟨b,o+i*6+1,none⟩=some (.int .i64 y.date):=hc 1 _ rfl
   have e2:wr.cell? ⟨b,o+i*6+2,none⟩=some (.string y.prev):=hc 2 _ rfl
   have e3:wr.cell? ⟨b,o+i*6+3,none⟩=some (.slice Ae y.ents.length ce):=hc 3 _ rfl
   have e4:wr.cell? ⟨b,o+i*6+4,none⟩=some (.string y.str):=hc 4 _ rfl
   have e5:wr.cell? ⟨b,o+i*6+5,none⟩=some (.string y.sig):=hc 5 _ rfl
   clear hc h4 hy hve hV hstr hB
   go_upto_region 7 with fail
   have HSe0:=zY (Blk.new wr 45 [.int .i64 y.num,.int .i64 y.date,.string y.prev,.slice Ae y.ents.length ce,.string y.str,.string y.sig])
   have HSe:Hid (Blk (wr.alloc (.cells #[.int .i64 y.num,.int .i64 y.date,.string y.prev,.slice Ae y.ents.length ce,.string y.str,.string y.sig] 45)) wr.heap.size 45 [.int .i64 y.num,.int .i64 y.date,.string y.prev,.slice Ae y.ents.length ce,.string y.str,.string y.sig]):=zY HSe0.out
   have HAb:=zY ((HA.out.kept HB.out).alloc (.cells #[.int .i64 y.num,.int .i64 y.date,.string y.prev,.slice Ae y.ents.length ce,.string y.str,.string y.sig] 45))
   have HBb:=zY (HB.out.alloc HB.out.size (.cells #[.int .i64 y.num,.int .i64 y.date,.string y.prev,.slice Ae y.ents.length ce,.string y.str,.string y.sig] 45))
   have HVeb:=zY (HVe.out.below (zBl wr (.cells #[.int .i64 y.num,.int .i64 y.date,.string y.prev,.slice Ae y.ents.length ce,.string y.str,.string y.sig] 45)))
   obtain⟨gs,hgs⟩:=zNm (wr.heap.size)
   rw[hgs]at HSe⊢
   clear HSe0 e0 e1 e2 e3 e4 e5 hgs HVe HB
   generalize wr.alloc (.cells #[.int .i64 y.num,.int .i64 y.date,.string y.prev,.slice Ae y.ents.length ce,.string y.str,.string y.sig] 45)=wb at *
   have a0:=HAb.out.c 0
   have a1:=HAb.out.c 1
   have a2:=HAb.out.c 2
   have a3:=HAb.out.c 3
   have s0:=HSe.out.c 0
   go_wp2_with fail
   refine(HF1.out wb y.num (HVb.out.below HBb.out) (HTb.out wb HBb.out)).mono ?_
   rintro e3 w3 ⟨⟨vf,rfl,hfo⟩,hb3⟩
   have HQ:=zY (hfo.at hb3)
   have HA3:=zY (HAb.out.kept hb3)
   have HS3:=zY (HSe.out.kept hb3)
   have HB3:=zYt HBb hb3
   have HV3:=zY (HVeb.out.below hb3)
   rw[HCe.out]
   clear hfo hb3 a0 a1 a2 a3 s0 HAb HSe HBb HVeb HCe
   obtain⟨F,hF⟩:=zNm (framesF 7 (d:Int) (s:Int) L y.num)
   rw[hF]at HFr HQ
   obtain⟨AF,cF,rfl,_,_⟩:=HQ.out.slice
   clear hF
   go_upto_region 8 with fail
   have s0:=HS3.out.c 0
   have s1:=HS3.out.c 1
   have s2:=HS3.out.c 2
   have s3:=HS3.out.c 3
   have s4:=HS3.out.c 4
   have s5:=HS3.out.c 5
   go_wp2_with fail
   refine(direncode_ok w3 y _ HV3.out HSV.out (HTb.out w3 HB3.out)).mono ?_
   rintro e4 w4 ⟨rfl,hb4⟩
   have HQ4:=zY (HQ.out.below hb4)
   have HA4:=zY (HA3.out.kept hb4)
   have HS4:=zY (HS3.out.kept hb4)
   have HB4:=zYt HB3 hb4
   clear hb4 s0 s1 s2 s3 s4 s5 HQ HA3 HS3 HB3 HV3
   obtain⟨T,hT⟩:=zNm (strB (dirL y))
   have HTz:Hid (T.size<=1400000):=zY (by rw[<-hT,strB_size];exact HDl.out)
   have HPa:=zY (fun W=>dirparts_any W T (by have:=HTz.out;omega))
   have HPT:Hid (partsB (strB (dirL y))=partsB T):=zY (by rw[hT])
   rw[hT]
   go_upto_region 9 with fail
   have a1:=HA4.out.c 1
   have a2:=HA4.out.c 2
   have hds:=HDS.out
   have hmw:IntKind.i64.wrap (28*(d:Int))=((28*d:Nat):Int):=by rw[zIw (by omega)];omega
   go_upto_region 10 with fail
   obtain⟨z,hzI⟩:∃z:Nat,(28:Int)*(d:Int)=(z:Int):=⟨28*d,by omega⟩
   have hz:28*d=z:=by omega
   rw[hzI]
   clear hmw hzI
   have hz0:((z:Int)==0)=false:=by rw[beq_eq_false_iff_ne];omega
   have hz1:¬(z=0):=by omega
   have hst:=HSt.out
   have hq1:IntKind.i64.wrap ((y.str.size:Int)+(z:Int))=((y.str.size+z:Nat):Int):=by rw[zIw (by omega)];omega
   have hq2:IntKind.i64.wrap ((y.str.size:Int)+(z:Int)-1)=((y.str.size+z-1:Nat):Int):=by rw[zIw (by omega)];omega
   obtain⟨q,hq⟩:=zNm ((y.str.size+z-1)/z)
   have hq3:Int.tdiv ((y.str.size+z-1:Nat):Int) (z:Int)=(q:Int):=by rw[<-hq];rfl
   have hqb:q<=2000000:=by rw[<-hq];exact Nat.le_trans (Nat.div_le_self _ _) (by omega)
   have hq4:IntKind.i64.wrap (q:Int)=q:=zIw (by omega)
   have hpl:(partsB T).length<=65536:=by rw[<-hT];exact HPs.out
   obtain⟨m,hm⟩:=zNm ((partsB T).length)
   have hq5:IntKind.i64.wrap ((m:Int)+(q:Int))=((m+q:Nat):Int):=by rw[zIw (by omega)];omega
   have HEa:Hid (eachN d y=m+q):=zY (by rw[eachN,strN,hz,hq,HPT.out,hm])
   have HKS:Hid (∀W,Below w4.heap.size w4 W->W.cell? ⟨gs,4,none⟩=some (.string y.str)):=zY (fun W hW=>(HS4.out.kept hW).c 4)
   have HB:=zY ((Below.refl w4.heap.size w4).drew)
   have HS:=zY (HKS.out _ HB.out)
   clear hT hst HSt HPs HDl HPT
   refine wp_region_held_drew (S:=(fun W=>W.cell? ⟨gs,4,none⟩=some (.string y.str))) (by kernel_rfl) ?_ (fun hHeld=>?_)
   ·exact HS.out
   refine tk 0 ?_
   refine tk 3 ?_
   refine tk 4 ?_
   refine tk 5 ?_
   refine tk 6 ?_
   refine tk 7 ?_
   refine tk 8 ?_
   refine tk 9 ?_
   refine tk 10 ?_
   refine zE1 1 fun K hK=>?_
   go_simp
   refine(HPa.out _).mono ?_
   rintro e7 w7 ⟨⟨vp,rfl,hvp⟩,hb7⟩
   obtain⟨Ap,cp,rfl⟩:=hvp.slice
   rw[hm]
   (try go_wp2_with fail)
   have HB:=zYt HB hb7
   clear hvp hb7
   have HS:=zY (HKS.out _ HB.out)
   refine hko hK (by exact HS.out) (fun _=>?_)
   clear hK K
   refine tk 2 ?_
   refine tk 11 ?_
   refine tk 12 ?_
   refine wpAnyH_done (by kernel_rfl) ?_ _
   go_upto_region 11 with fail
   obtain⟨e,heI⟩:∃e:Nat,(m:Int)+(q:Int)=(e:Int):=⟨m+q,by omega⟩
   rw[heI]
   have hE:eachN d y=e:=by rw[HEa.out];omega
   have HFl:Hid (F.length=e*(d+s)):=zY (by rw[<-hE];exact HFr.out.1)
   have HFg:Hid (∀(i:Nat) (f:Frm),F[i]?=some f->FrmOk f/\f.r=((i/e:Nat):Int)):=zY (by rw[<-hE];exact HFr.out.2)
   have hez:e<=2065536:=by omega
   have HA7:=zY (HA4.out.kept HB.out)
   have HQ7:=zY (HQ4.out.below HB.out)
   have HBw:=zY (HB4.out.trans (HB.out.mono HB4.out.size))
   clear HA4 HQ4 HB4 HS4 hz hz0 hz1 hq1 hq2 hq hq3 hq4 hq5 HEa HFr HPa HKS hHeld HS HB hm hpl hqb heI hE a1 a2
   have a1:=HA7.out.c 1
   have a2:=HA7.out.c 2
   have hx1:IntKind.i64.wrap ((d:Int)+(s:Int))=((d+s:Nat):Int):=by rw[zIw (by omega)];omega
   have hx2:e*(d+s)<=e*5:=Nat.mul_le_mul_left _ (by omega)
   have hx3:(e:Int)*((d:Int)+(s:Int))=(F.length:Int):=by rw[HFl.out];push_cast;rfl
   have hfz:F.length<=100000000:=by rw[HFl.out];omega
   have hx4:IntKind.i64.wrap (F.length:Int)=(F.length:Int):=zIw (by omega)
   clear hx2
   go_wp2
   go_loopw [82] (fun t W=>∃k:Nat,k<=F.length/\t=.int .i64 (k:Int)/\Below w7.heap.size w7 W) (fun t _=>F.length-(intOf t).toNat)
   case atStart=>exact⟨0,by omega,rfl,Below.refl _ _⟩
   case round=>
    obtain⟨k,hk,rfl,hBk⟩:=hrel
    have HBk:=zY hBk
    clear hBk a1 a2 hx1 hx3 hx4
    by_cases h2:k<F.length
    {
    obtain⟨f,hf⟩:∃f,F[k]?=some f:=⟨_,List.getElem?_eq_getElem h2⟩
    have hkI:(k:Int)<F.length:=by omega
    obtain⟨_,_,e9,_,_,h4⟩:=HQ7.out.below HBk.out
    cases e9
    obtain⟨b2,o2,cs2,rfl,rfl,hc⟩:=h4 k f hf
    obtain⟨hok,hr⟩:=HFg.out k f hf
    obtain⟨k0,r0,s0,i0,l0,d0,p0,a0,t0⟩:=f
    have HE0:Hid (frE k0 r0 s0 i0 l0 d0 p0 t0=0):=zY hok.1
    have hc2:∀j u,(Frm.cells ⟨k0,r0,s0,i0,l0,d0,p0,a0,t0⟩)[j]?=some u->wr.cell? ⟨b2,o2+k*9+j,none⟩=some u:=hc
    have HCk:=zY (fun W=>fcheck_all W k0 r0 s0 i0 l0 d0 p0 a0 t0)
    have he0:¬(e=0):=by
     rintro rfl
     have:=HFl.out
     omega
    obtain⟨g,hg⟩:=zNm (k/e)
    have hgq:Int.tdiv (k:Int) (e:Int)=(g:Int):=by rw[<-hg];rfl
    have hgz:g<=100000000:=by rw[<-hg];exact Nat.le_trans (Nat.div_le_self _ _) (by omega)
    have hgw:IntKind.i64.wrap (g:Int)=(g:Int):=zIw (by omega)
    have hr2:r0=(g:Int):=by rw[<-hg];exact hr
    subst hr2
    have HKF:Hid (∀W,Below wr.heap.size wr W->W.cell? ⟨b2,o2+k*9,none⟩=some (.int .i64 k0)/\W.cell? ⟨b2,o2+k*9+1,none⟩=some (.int .i64 (g:Int))/\W.cell? ⟨b2,o2+k*9+2,none⟩=some (.int .i64 s0)/\W.cell? ⟨b2,o2+k*9+3,none⟩=some (.int .i64 i0)/\W.cell? ⟨b2,o2+k*9+4,none⟩=some (.int .i64 l0)/\W.cell? ⟨b2,o2+k*9+5,none⟩=some (.int .i64 d0)/\W.cell? ⟨b2,o2+k*9+6,none⟩=some (.int .i64 p0)/\W.cell? ⟨b2,o2+k*9+7,none⟩=some (.int .u32 a0)/\W.cell? ⟨b2,o2+k*9+8,none⟩=some (.string t0)):=zY (fun W hW=>⟨cell_below hW (hc2 0 _ rfl),cell_below hW (hc2 1 _ rfl),cell_below hW (hc2 2 _ rfl),cell_below hW (hc2 3 _ rfl),cell_below hW (hc2 4 _ rfl),cell_below hW (hc2 5 _ rfl),cell_below hW (hc2 6 _ rfl),cell_below hW (hc2 7 _ rfl),cell_below hW (hc2 8 _ rfl)⟩)
    have HB:=zY ((Below.refl wr.heap.size wr).drew)
    have HS:=zY (HKF.out _ HB.out)
    clear hc hc2 hok hr hf h4 hg
    go_upto_region 16 with fail
    refine wp_region_held_drew (S:=(fun W=>W.cell? ⟨b2,o2+k*9,none⟩=some (.int .i64 k0)/\W.cell? ⟨b2,o2+k*9+1,none⟩=some (.int .i64 (g:Int))/\W.cell? ⟨b2,o2+k*9+2,none⟩=some (.int .i64 s0)/\W.cell? ⟨b2,o2+k*9+3,none⟩=some (.int .i64 i0)/\W.cell? ⟨b2,o2+k*9+4,none⟩=some (.int .i64 l0)/\W.cell? ⟨b2,o2+k*9+5,none⟩=some (.int .i64 d0)/\W.cell? ⟨b2,o2+k*9+6,none⟩=some (.int .i64 p0)/\W.cell? ⟨b2,o2+k*9+7,none⟩=some (.int .u32 a0)/\W.cell? ⟨b2,o2+k*9+8,none⟩=some (.string t0))) (by kernel_rfl) ?_ (fun hHeld=>?_)
    ·exact HS.out
    refine tk 0 ?_
    refine tk 1 ?_
    refine tk 2 ?_
    refine tk 3 ?_
    refine zE1 4 fun K hK=>?_
    go_simp
    refine(HCk.out _).mono ?_
    rintro e8 w8 ⟨rfl,hb8⟩
    rw[HE0.out]
    (try go_wp2_with fail)
    have HB:=zYt HB hb8
    clear hb8
    have HS:=zY (HKF.out _ HB.out)
    refine hko hK (by exact HS.out) (fun _=>?_)
    clear hK K
    refine tk 5 ?_
    refine tk 6 ?_
    refine tk 7 ?_
    refine tk 8 ?_
    refine tk 9 ?_
    refine tk 10 ?_
    refine tk 11 ?_
    refine tk 12 ?_
    refine tk 13 ?_
    refine tk 14 ?_
    refine tk 15 ?_
    refine tk 16 ?_
    refine wpAnyH_done (by kernel_rfl) ?_ _
    go_wp2_with fail
    go_roundw
    case rel=>exact⟨k+1,by omega,by go_num,HBk.out.trans (HB.out.mono HBk.out.size)⟩
    case measure=>simp[intOf];omega}
    {
    obtain rfl:k=F.length:=by omega
    have hkI:¬((F.length:Nat):Int)<(F.length:Int):=by omega
    go_wp2
    go_roundw
    case rel=>exact⟨i+1,by omega,by go_num,HBw.out.trans (HBk.out.mono HBw.out.size)⟩
    case measure=>simp[intOf];omega}}
   {
   obtain rfl:i=L.length:=by omega
   have hiI:¬((L.length:Nat):Int)<(L.length:Int):=by omega
   have HAw:=zY (awake43_any wr (HTb.out wr HB.out))
   clear hB
   go_wp2_with fail
   refine HAw.out.mono ?_
   rintro e3 w3 ⟨rfl,hb3⟩
   have HB3:=zY (HB2.out.trans ((HB.out.trans (hb3.mono HB.out.size)).mono HB2.out.size))
   clear hb3
   go_wp2
   go_ret
   exact⟨rfl,HB3.out⟩}
end
end Go.Proofs.YthgenkkkapilhaaGreatDoor
namespace Go.Proofs.YthgenkkkapilhaaGreatDoor.lawVoCounts
section
open Go.ChangeShapes Go.WideShapes Go.ChangeAt Go.RowKit
theorem lifted (os:Os) (started:os.Started) (H:Type) (enc:TypeId×Value->H):
  ReturnsInHanded {} Tryz.checked os 6 .any (fun w args=>(Rows.volumeCountsSpec.pre enc Tryz.prog Tryz.f6 Rows.volumeCountsRow.domain false w args/\laidMetH Tryz.prog Rows.volumeCountsRow.laid w)/\sizedMet enc Tryz.prog Tryz.f6 (OpenSpec.ofChange Rows.volumeCountsSpec) false w args)
   (Rows.volumeCountsSpec.post enc Tryz.prog Tryz.f6 false true false false):=by
 refine returns_shaped (C:=Tryz.checked) (X:=fun w _=>laidMetH Tryz.prog Rows.volumeCountsRow.laid w) (fun _ _ _ hh h=>h.of_heap hh) ownN started (by kernel_rfl) Tryz.func6
  (ChangeSpec.witness_shaped (enc:=enc) (C:=Tryz.checked) (os:=os) (X:=fun w _=>laidMetH Tryz.prog Rows.volumeCountsRow.laid w) false (World.laidAll Tryz.prog os Rows.volumeCountsRow.laid) #[.slice none 0 0,.int .u8 0] 8 (World.laidAll_os _ _ _)
   (World.shaped_of_ZipB (by kernel_rfl) (by kernel_rfl)) (by kernel_rfl) (by kernel_rfl) (by kernel_rfl)
   (by rw[MakeChecks.laidMetH_plain _ _ _ (by kernel_rfl)];exact laidMet_laidAll _ (by kernel_rfl) (by kernel_rfl))) ?_
 intro W base args ds gs before hval0 hW hc _ hL hsh _
 have hT:Tab W:=tab_of hL (by kernel_rfl) hsh
 have hval:∀(j:Nat) t v,Tryz.f6.params[j]?=some t->args[j]?=some v->Value.okWide Tryz.prog W .any base t v:=hval0
 have hW':=hW
 obtain⟨p,q,hA0,hV,rfl,_,_⟩:=hW
 have hA:DataW.TrodAll enc Tryz.prog W 0 (fun _=>true) true Tryz.f6.params.toList args.toList ds p:=hA0
 rw[Tryz.params6]at hA hval
 obtain⟨v0,vs0,d0,ds0,p0,q0,hargs,rfl,rfl,h0,r0⟩:=trodAll_cons hA
 obtain⟨v1,vs1,d1,ds1,p1,q1,rfl,rfl,rfl,h1,r1⟩:=trodAll_cons r0
 obtain⟨rfl,rfl,rfl⟩:=trodAll_nil r1
 obtain rfl:args= #[v0,v1]:=by cases args;simp_all
 obtain⟨rfl,rfl⟩:=trodVars_none hV
 have k0:=h0
 have lt0:∀x∈p0,x.block<W.heap.size:=by obtain⟨m,hm⟩:=k0;exact DataW.trod_lt m _ _ _ hm
 have k1:=h1
 have lt1:∀x∈p1,x.block<W.heap.size:=by obtain⟨m,hm⟩:=k1;exact DataW.trod_lt m _ _ _ hm
 obtain⟨x0,hx0⟩:=open_bats (hval 0 22 v0 rfl rfl) h0
 obtain⟨x1,rfl,hx1⟩:=open_u8 (hval 1 5 v1 rfl rfl) h1
 clear hA0 hval0 hL
 refine(lawcounts_any W v0 x0 hx0 x1 hx1 hT).mono fun e W' ⟨he,bel⟩=>?_
 subst he
 exact⟨_,rfl,_,_,_,[],_,[],hW',trodAll_mk1 (shut_bool Tryz.underlying4 _),(trodAll_cons_mk (Below.trod laidN (by kernel_rfl) (of_decide_eq_true (by kernel_rfl)) k0 bel lt0) (trodAll_cons_mk (Below.trod laidN (by kernel_rfl) (of_decide_eq_true (by kernel_rfl)) k1 bel lt1) trodAll_mk0)),rfl,bel.frame _,fun h=>by cases h⟩
end
end Go.Proofs.YthgenkkkapilhaaGreatDoor.lawVoCounts
