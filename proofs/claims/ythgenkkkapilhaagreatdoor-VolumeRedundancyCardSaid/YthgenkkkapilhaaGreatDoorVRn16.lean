/-
  Joined: VqM VpJ.
-/
import Derived.Test.YthgenkkkapilhaaGreatDoorVRn12
set_option linter.all false
set_option maxRecDepth 100000
set_option maxHeartbeats 64000000
namespace Go.Proofs.YthgenkkkapilhaaGreatDoor
section
open Go.RowKit
theorem sumX_nonneg {l:List Ext} (h:∀x∈l,extB x=true):0<=sumX l:=by
 induction l with
 |nil=>exact Int.le_refl _
 |cons x r ih=>
  have h1:=of_decide_eq_true (h x List.mem_cons_self)
  have h2:=ih fun y hy=>h y (List.mem_cons_of_mem _ hy)
  rw[sumX]
  omega
theorem encontent_ok (w:World) (e:Ent) (va vx:Value) (hvx:SeqAt extS w vx e.exts) (h:EntOk e):Calls Tryz.prog 315 #[entV e va vx] w fun r w'=>r=.returned (.int .i64 0)/\Below w.heap.size w w':=by
 obtain⟨k,path,attrs,t,size,dig,exts⟩:=e
 have hsize:=h.size
 have hdig:=h.dig
 have hexts:=h.exts
 clear h
 dsimp only at hvx hsize hdig hexts
 rw[entV]
 dsimp only
 have Hvx:=zY hvx
 obtain⟨Ax,cx,rfl,hx1,hx2⟩:=hvx.slice
 clear hvx
 have hK:=Blk.new w 182 [.int .i64 k,.string path,va,.string t,.int .i64 size,.string dig,.slice Ax exts.length cx]
 change Blk (w.alloc (.cells #[.int .i64 k,.string path,va,.string t,.int .i64 size,.string dig,.slice Ax exts.length cx] 182)) _ _ _ at hK
 have HK:=zY hK
 have HB:=zY (zBl w (.cells #[.int .i64 k,.string path,va,.string t,.int .i64 size,.string dig,.slice Ax exts.length cx] 182))
 clear hK
 by_cases h1:k=1
 {
 have i1:(k==1)=true:=by rw[h1];rfl
 have i1':(k != 1)=false:=by rw[h1];rfl
 have hd:=hdig.1 h1
 have i2:((dig.size:Int) != 32)=false:=by rw[hd];rfl
 have i3:¬size<0:=by omega
 have i4:¬65536<size:=by omega
 have HX:=zY hexts.2.1
 have HS:=zY hexts.2.2
 clear h1 hsize hdig hexts hd
 go_enter Tryz.func315,Tryz.ntmps315
 go_upto_region 2 with fail
 generalize w.alloc (.cells #[.int .i64 k,.string path,va,.string t,.int .i64 size,.string dig,.slice Ax exts.length cx] 182)=wa at *
 have c0:=HK.out.c 0
 have c4:=HK.out.c 4
 have c5:=HK.out.c 5
 have c6:=HK.out.c 6
 go_wp2
 go_loopw [32] (fun x wr=>∃i:Nat,i<=exts.length/\x=.int .i64 (i:Int)/\Below wa.heap.size wa wr) (fun x _=>exts.length-(intOf x).toNat)
 case atStart=>exact⟨0,by omega,rfl,Below.refl _ _⟩
 case round=>
  obtain⟨i,hi,rfl,hB⟩:=hrel
  have HBr:=zY hB
  have HKr:=zY (HK.out.kept hB)
  clear hB c0 c4 c5 c6
  have c0:=HKr.out.c 0
  have c6:=HKr.out.c 6
  by_cases h:i<exts.length
  {
  have hiI:(i:Int)<exts.length:=by omega
  obtain⟨x,hx'⟩:∃x,exts[i]?=some x:=⟨_,List.getElem?_eq_getElem h⟩
  have hxb:=of_decide_eq_true (HX.out x (List.mem_of_getElem? hx'))
  obtain⟨_,_,e9,_,_,h4⟩:=Hvx.out.below (HB.out.trans (HBr.out.mono HB.out.size))
  cases e9
  obtain⟨b,o,cs,rfl,rfl,hc⟩:=h4 i x hx'
  obtain⟨x0,x1,x2⟩:=x
  dsimp only at hxb
  have e0:wr.cell? ⟨b,o+i*3,none⟩=some (.int .i64 x0):=hc 0 _ rfl
  have e1:wr.cell? ⟨b,o+i*3+1,none⟩=some (.int .i64 x1):=hc 1 _ rfl
  have e2:wr.cell? ⟨b,o+i*3+2,none⟩=some (.int .i64 x2):=hc 2 _ rfl
  have hT:=Blk.new wr 252 [.int .i64 x0,.int .i64 x1,.int .i64 x2]
  change Blk (wr.alloc (.cells #[.int .i64 x0,.int .i64 x1,.int .i64 x2] 252)) _ _ _ at hT
  have HT:=zY hT
  have HBt:=zY (HBr.out.alloc HBr.out.size (.cells #[.int .i64 x0,.int .i64 x1,.int .i64 x2] 252))
  have HKt:=zY (HKr.out.kept (zBl wr (.cells #[.int .i64 x0,.int .i64 x1,.int .i64 x2] 252)))
  have j1:¬x0<0:=by omega
  have j2:¬255<x0:=by omega
  have j3:¬x2<1:=by omega
  have j4:¬65536<x2:=by omega
  have j5:¬x1<0:=by omega
  have j6:¬2147483647<x1:=by omega
  have j7:((x0==0)=false)∨((x0==0)=true/\(x1 != 0)=false):=by
   by_cases q:x0=0
   {
   refine .inr ⟨by rw[q];rfl,?_⟩
   have:x1=0:=by
    by_cases q2:x1=0
    ·exact q2
    ·exact absurd ⟨q,q2⟩ hxb.2.2.2.2.2.2
   rw[this]
   rfl}
   ·exact .inl (beq_eq_false_iff_ne.2 q)
  clear hc h4 hx' hxb hT
  go_upto_region 12 with fail
  generalize wr.alloc (.cells #[.int .i64 x0,.int .i64 x1,.int .i64 x2] 252)=wt at *
  clear c0 c6 e0 e1 e2
  have c0:=HKt.out.c 0
  have t0:=HT.out.c 0
  have t1:=HT.out.c 1
  have t2:=HT.out.c 2
  rcases j7 with j7|⟨j7,j8⟩
  {
  go_wp2
  go_roundw
  case rel=>exact⟨i+1,by omega,by go_num,HBt.out⟩
  case measure=>simp[intOf];omega}
  {
  go_wp2
  go_roundw
  case rel=>exact⟨i+1,by omega,by go_num,HBt.out⟩
  case measure=>simp[intOf];omega}}
  {
  obtain rfl:i=exts.length:=by omega
  have hiI:¬((exts.length:Nat):Int)<(exts.length:Int):=by omega
  obtain⟨wy,rfl⟩:∃x,x=wr:=⟨_,rfl⟩
  go_wp2
  go_loopw [5,81] (fun y x wr=>∃(i:Nat) (S:Int),i<=exts.length/\x=.int .i64 (i:Int)/\y=.int .i64 S/\S=sumX (exts.drop i)/\S<=65536/\Below wy.heap.size wy wr) (fun _ x _=>exts.length-(intOf x).toNat)
  case atStart=>exact⟨0,size,by omega,rfl,rfl,by rw[List.drop_zero];exact HS.out.symm,by omega,Below.refl _ _⟩
  case round=>
   obtain⟨i,S,hi,rfl,rfl,hS,hS2,hB2⟩:=hrel
   have HSS:=zY hS
   have HB2:=zY hB2
   clear hS hB2 c0 c6
   by_cases h:i<exts.length
   {
   have hiI:(i:Int)<exts.length:=by omega
   obtain⟨x,hx'⟩:∃x,exts[i]?=some x:=⟨_,List.getElem?_eq_getElem h⟩
   have hxb:=of_decide_eq_true (HX.out x (List.mem_of_getElem? hx'))
   have hd:exts.drop i=x::exts.drop (i+1):=by
    obtain⟨h1,h2⟩:=List.getElem?_eq_some_iff.1 hx'
    rw[List.drop_eq_getElem_cons h1,h2]
   have hn:=sumX_nonneg (l:=exts.drop (i+1)) (fun y hy=>HX.out y (List.mem_of_mem_drop hy))
   have hs2:S=x.l+sumX (exts.drop (i+1)):=by rw[HSS.out,hd,sumX]
   have HN:Hid (S-x.l=sumX (exts.drop (i+1))):=zY (by omega)
   obtain⟨_,_,e9,_,_,h4⟩:=Hvx.out.below (HB.out.trans ((HBr.out.trans (HB2.out.mono HBr.out.size)).mono HB.out.size))
   cases e9
   obtain⟨b,o,cs,rfl,rfl,hc⟩:=h4 i x hx'
   obtain⟨x0,x1,x2⟩:=x
   dsimp only at hxb hs2 HN
   have e0:wr.cell? ⟨b,o+i*3,none⟩=some (.int .i64 x0):=hc 0 _ rfl
   have e1:wr.cell? ⟨b,o+i*3+1,none⟩=some (.int .i64 x1):=hc 1 _ rfl
   have e2:wr.cell? ⟨b,o+i*3+2,none⟩=some (.int .i64 x2):=hc 2 _ rfl
   have hT:=Blk.new wr 252 [.int .i64 x0,.int .i64 x1,.int .i64 x2]
   change Blk (wr.alloc (.cells #[.int .i64 x0,.int .i64 x1,.int .i64 x2] 252)) _ _ _ at hT
   have HT:=zY hT
   have HBt:=zY (HB2.out.alloc HB2.out.size (.cells #[.int .i64 x0,.int .i64 x1,.int .i64 x2] 252))
   have j1:¬S<x2:=by omega
   have j2:S-x2<=65536:=by omega
   have jw:IntKind.i64.wrap (S-x2)=S-x2:=zIw (by omega)
   clear hc h4 hx' hxb hT hd hs2 hn
   go_upto_region 20 with fail
   generalize wr.alloc (.cells #[.int .i64 x0,.int .i64 x1,.int .i64 x2] 252)=wt at *
   clear e0 e1 e2
   have t2:=HT.out.c 2
   go_wp2
   go_roundw
   case rel=>exact⟨i+1,_,by omega,by go_num,rfl,HN.out,j2,HBt.out⟩
   case measure=>simp[intOf];omega}
   {
   obtain rfl:i=exts.length:=by omega
   have hiI:¬((exts.length:Nat):Int)<(exts.length:Int):=by omega
   obtain rfl:S=0:=by rw[HSS.out,List.drop_length];rfl
   go_wp2
   go_ret
   exact⟨rfl,HB.out.trans ((HBr.out.trans (HB2.out.mono HBr.out.size)).mono HB.out.size)⟩}}}
 {
 have i1:(k==1)=false:=by rw[beq_eq_false_iff_ne];exact h1
 have i1':(k != 1)=true:=by rw[bne,i1];rfl
 obtain rfl:size=0:=hsize.2.2 h1
 have hd:=hdig.2 h1
 have i2:((dig.size:Int) != 0)=false:=by rw[hd];rfl
 obtain rfl:exts=[]:=by
  cases exts with
  |nil=>rfl
  |cons x r=>exact absurd (hexts.1 (by simp)) h1
 clear h1 hsize hdig hexts hd hx1
 go_enter Tryz.func315,Tryz.ntmps315
 go_upto_region 2 with fail
 change Blk (w.alloc (.cells #[.int .i64 k,.string path,va,.string t,.int .i64 0,.string dig,.slice Ax 0 cx] 182)) _ _ [.int .i64 k,.string path,va,.string t,.int .i64 0,.string dig,.slice Ax 0 cx]at HK
 have HK:=zY HK
 generalize w.alloc (.cells #[.int .i64 k,.string path,va,.string t,.int .i64 0,.string dig,.slice Ax 0 cx] 182)=wa at *
 have c0:=HK.out.c 0
 have c4:=HK.out.c 4
 have c5:=HK.out.c 5
 have c6:=HK.out.c 6
 go_wp2
 go_loopw [32] (fun x wr=>x=.int .i64 0/\wa=wr) (fun x _=>0)
 case atStart=>exact⟨rfl,rfl⟩
 case round=>
  obtain⟨rfl,rfl⟩:=hrel
  go_wp2
  go_loopw [5,81] (fun y x wr=>x=.int .i64 0/\y=.int .i64 0/\wa=wr) (fun x _ _=>0)
  case atStart=>exact⟨rfl,rfl,rfl⟩
  case round=>
   obtain⟨rfl,rfl,rfl⟩:=hrel
   go_wp2
   go_ret
   exact⟨rfl,HB.out⟩}
theorem allowed38_any (w:World) (v:Value) (l:List Hol) (hv:SeqAt holS w v l) (hz:∀h∈l,h.p.size<=1000000) (k:Int) (path tgt dig:ByteArray) (Aa Ax:Option Addr) (na ca nx cx:Nat) (size:Int) (hp:path.size<=1000000) (date:Int):
  Calls Tryz.prog 156 #[v,.agg #[.int .i64 k,.string path,.slice Aa na ca,.string tgt,.int .i64 size,.string dig,.slice Ax nx cx],.int .i64 date] w fun e w'=>RetI e/\Below w.heap.size w w':=by
 have hK:=Blk.new w 182 [.int .i64 k,.string path,.slice Aa na ca,.string tgt,.int .i64 size,.string dig,.slice Ax nx cx]
 change Blk (w.alloc (.cells #[.int .i64 k,.string path,.slice Aa na ca,.string tgt,.int .i64 size,.string dig,.slice Ax nx cx] 182)) _ _ _ at hK
 have HK:=zY hK
 have HB0:=zY (zBl w (.cells #[.int .i64 k,.string path,.slice Aa na ca,.string tgt,.int .i64 size,.string dig,.slice Ax nx cx] 182))
 have Hv:=zY (hv.below HB0.out)
 obtain⟨A,c,rfl,h1,h2⟩:=hv.slice
 have HH:=zY (fun(W:World) (h:SeqAt holS W (.slice A l.length c) l)=>held_any W (.slice A l.length c) l h hz path hp date)
 have HU:=zY (fun(W:World) (q:ByteArray) (hq:q.size<=1000000)=>under_any W q path hq hp)
 have Hz:=zY hz
 clear hK hv hz
 go_enter Tryz.func156,Tryz.ntmps156
 go_upto_region 1 with fail
 generalize w.alloc (.cells #[.int .i64 k,.string path,.slice Aa na ca,.string tgt,.int .i64 size,.string dig,.slice Ax nx cx] 182)=wa at *
 have c0:=HK.out.c 0
 have c1:=HK.out.c 1
 have hk:(k=1∨k=2∨k=3)∨k=4∨(k≠1/\k≠2/\k≠3/\k≠4):=by omega
 rcases hk with hk|rfl|⟨k1,k2,k3,k4⟩
 {
 rcases hk with rfl|rfl|rfl
 all_goals
  go_wp2_with fail
  refine(HH.out _ Hv.out).mono ?_
  rintro e1 w1 ⟨⟨r,rfl⟩,hb1⟩
  have d0:=(HK.out.kept hb1).c 0
  have HBz:=zYt HB0 hb1
  clear hb1
  cases r with
  |true=>
   go_wp2_with fail
   go_ret
   exact⟨RetI.of 15,HBz.out⟩
  |false=>
   go_wp2_with fail
   go_ret
   exact⟨RetI.of 0,HBz.out⟩}
 {
 go_wp2_with fail
 refine(HH.out _ Hv.out).mono ?_
 rintro e1 w1 ⟨⟨r,rfl⟩,hb1⟩
 have HK1:=zY (HK.out.kept hb1)
 have Hv1:=zY (Hv.out.below hb1)
 have d0:=HK1.out.c 0
 have HBz:=zYt HB0 hb1
 clear hb1
 cases r with
 |true=>
  go_wp2_with fail
  go_ret
  exact⟨RetI.of 15,HBz.out⟩
 |false=>
  clear HB0 HK Hv c0 c1
  have HB0:=HBz
  go_wp2
  go_loopw [8] (fun x wr=>∃i:Nat,i<=l.length/\x=.int .i64 (i:Int)/\Below w1.heap.size w1 wr) (fun x _=>l.length-(intOf x).toNat)
  case atStart=>exact⟨0,by omega,rfl,Below.refl _ _⟩
  case round=>
   obtain⟨i,hi,rfl,hB⟩:=hrel
   have HBc:=zY hB
   clear hB
   by_cases h:i<l.length
   {
   have hiI:(i:Int)<l.length:=by omega
   obtain⟨x,hx⟩:∃x,l[i]?=some x:=⟨_,List.getElem?_eq_getElem h⟩
   have Hxz:=zY (Hz.out x (List.mem_of_getElem? hx))
   obtain⟨_,_,e9,_,_,h4⟩:=Hv1.out
   cases e9
   obtain⟨b,o,cs,rfl,rfl,hc⟩:=h4 i x hx
   have HL0:Hid (w1.cell? ⟨b,o+i*2,none⟩=some (.string x.p)):=zY (hc 0 _ rfl)
   have HL1:Hid (w1.cell? ⟨b,o+i*2+1,none⟩=some (.int .i64 x.u)):=zY (hc 1 _ rfl)
   have HL2:Hid (w1.cell? ⟨w.heap.size,1,none⟩=some (.string path)):=zY (HK1.out.c 1)
   obtain⟨q,uq⟩:=x
   dsimp only at HL0 HL1 Hxz
   clear hc h4 hx d0
   by_cases hd:date<=uq
   {
   have hdd:decide (date<=uq)=true:=decide_eq_true hd
   have HBc:=zY HBc.out.drew
   go_upto_region 8 with fail
   refine wp_region_held_drew (S:=(fun W=>W.cell? ⟨b,o+i*2,none⟩=some (.string q)/\W.cell? ⟨b,o+i*2+1,none⟩=some (.int .i64 uq)/\W.cell? ⟨w.heap.size,1,none⟩=some (.string path))) (by kernel_rfl) ?_ (fun hHeld=>?_)
   ·exact⟨cell_below HBc.out HL0.out,cell_below HBc.out HL1.out,cell_below HBc.out HL2.out⟩
   refine tk 0 ?_
   refine tk 1 ?_
   refine tk 2 ?_
   refine tk 3 ?_
   refine tk 4 ?_
   refine tk 5 ?_
   refine tk 6 ?_
   refine tk 7 ?_
   refine tk 8 ?_
   refine tk 9 ?_
   refine tk 10 ?_
   refine tk 11 ?_
   refine tk 12 ?_
   refine tk 13 ?_
   refine tk 14 ?_
   refine zE1 15 fun K hK=>?_
   go_simp
   refine(HU.out _ q Hxz.out).mono ?_
   rintro e2 w2 ⟨⟨r,rfl⟩,hb2⟩
   (try go_wp2_with fail)
   have HBc:=zYt HBc hb2
   clear hb2
   refine hko hK (by exact⟨cell_below HBc.out HL0.out,cell_below HBc.out HL1.out,cell_below HBc.out HL2.out⟩) (fun _=>?_)
   clear hK K
   refine tk 16 ?_
   refine wpAnyH_done (by kernel_rfl) ?_ _
   cases r with
   |true=>
    go_wp2_with fail
    go_ret
    exact⟨RetI.of 15,HB0.out.trans (HBc.out.mono HB0.out.size)⟩
   |false=>
    go_wp2_with fail
    go_roundw
    case rel=>exact⟨i+1,by omega,by go_num,HBc.out⟩
    case measure=>simp[intOf];omega}
   {
   have hdd:decide (date<=uq)=false:=decide_eq_false hd
   have m0:=cell_below HBc.out HL0.out
   have m1:=cell_below HBc.out HL1.out
   go_upto_region 8 with fail
   go_quiet (fail)
   go_wp2
   go_roundw
   case rel=>exact⟨i+1,by omega,by go_num,zBd HBc.out _⟩
   case measure=>simp[intOf];omega}}
   {
   have hiI:¬(i:Int)<l.length:=by omega
   go_wp2
   go_ret
   exact⟨RetI.of 0,HB0.out.trans (HBc.out.mono HB0.out.size)⟩}}
 {
 have f1:(k==1)=false:=by rw[beq_eq_false_iff_ne];exact k1
 have f2:(k==2)=false:=by rw[beq_eq_false_iff_ne];exact k2
 have f3:(k==3)=false:=by rw[beq_eq_false_iff_ne];exact k3
 have f4:(k==4)=false:=by rw[beq_eq_false_iff_ne];exact k4
 clear k1 k2 k3 k4
 go_wp2
 go_ret
 exact⟨RetI.of 0,HB0.out⟩}
end
end Go.Proofs.YthgenkkkapilhaaGreatDoor
