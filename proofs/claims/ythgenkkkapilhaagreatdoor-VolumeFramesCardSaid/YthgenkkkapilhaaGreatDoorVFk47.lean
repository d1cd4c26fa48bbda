/-
  Joined: VrX LvfA.
-/
import Derived.Test.YthgenkkkapilhaaGreatDoorVFk40
import Derived.Test.YthgenkkkapilhaaGreatDoorVFk45
import Derived.Test.YthgenkkkapilhaaGreatDoorVFk46
set_option linter.all false
set_option maxRecDepth 100000
set_option maxHeartbeats 64000000
namespace Go.Proofs.YthgenkkkapilhaaGreatDoor
section
open Go.RowKit
theorem entN_mem {L:List Ses} {i:Nat} {x:Ses} (h:L[i]?=some x):x.ents.length<=entN L:=by
 have h1:=entN_take L h
 have h2:=entN_le L (i+1)
 omega
theorem MadeOk.all {L:List Ses} (h:MadeOk L):SesAll L:=fun i x hx=>by
 have hm:=List.mem_of_getElem? hx
 have ho:=h.ok x hm
 have hn:=h.num i x hx
 have hi:=(List.getElem?_eq_some_iff.1 hx).1
 have hl:=h.len
 have h1:=entN_mem hx
 have h2:=h.ents
 have h3:=h.str x hm
 exact⟨hn,⟨by omega,ho.date,ho.prev,ho.str,by omega,fun e he=>(ho.ok e he).ok,by rw[ho.sig];decide⟩,by omega⟩
theorem lawframes_any (w:World) (v:Value) (l:List Bat) (hv:SeqAt batS w v l) (x:Nat) (hx:x<256) (n d' s':Int) (hT:Tab w):Calls Tryz.prog 3 #[v,.int .u8 (x:Int),.int .i64 n,.agg #[.int .i64 d',.int .i64 s']] w fun e w'=>e=.returned (.bool true)/\Below w.heap.size w w':=by
 have HT:=zY hT
 have HM:=zY (fun(W:World) (hW:Below w.heap.size w W)=>made_any W v l (hv.below hW) x hx)
 have hK:=Blk.new w 24 [.int .i64 d',.int .i64 s']
 have HK:Hid (Blk (w.alloc (.cells #[.int .i64 d',.int .i64 s'] 24)) w.heap.size 24 [.int .i64 d',.int .i64 s']):=zY hK
 have HB0:=zY (zBl w (.cells #[.int .i64 d',.int .i64 s'] 24))
 obtain⟨Av,cv,rfl,_,_⟩:=hv.slice
 generalize l.length=ll at *
 clear hv hT hK
 go_enter Tryz.func3,Tryz.ntmps3
 go_upto_region 1 with fail
 generalize w.alloc (.cells #[.int .i64 d',.int .i64 s'] 24)=wa at *
 go_wp2_with fail
 refine(HM.out _ HB0.out).mono ?_
 rintro e1 w1 ⟨⟨d,s,va,L,ok,rfl,hd1,hd3,hs2,hva,hok⟩,hb1⟩
 obtain⟨A,c,rfl,_,_⟩:=hva.slice
 have HVa:=zY hva
 have HOk:=zY hok
 have HK1:=zY (HK.out.kept hb1)
 have HB1:=zYt HB0 hb1
 clear hva hok hb1 HK HB0 HM
 go_upto_region 2 with fail
 have hA:=Blk.new w1 28 [.int .u32 7,.int .i64 (d:Int),.int .i64 (s:Int),.slice A L.length c]
 have HA:Hid (Blk (w1.alloc (.cells #[.int .u32 7,.int .i64 (d:Int),.int .i64 (s:Int),.slice A L.length c] 28)) w1.heap.size 28 [.int .u32 7,.int .i64 (d:Int),.int .i64 (s:Int),.slice A L.length c]):=zY hA
 have HVb:=zY (HVa.out.below (zBl w1 (.cells #[.int .u32 7,.int .i64 (d:Int),.int .i64 (s:Int),.slice A L.length c] 28)))
 have HK2:=zY (HK1.out.alloc (.cells #[.int .u32 7,.int .i64 (d:Int),.int .i64 (s:Int),.slice A L.length c] 28))
 have HB2:=zY (HB1.out.alloc HB1.out.size (.cells #[.int .u32 7,.int .i64 (d:Int),.int .i64 (s:Int),.slice A L.length c] 28))
 have Hg:Hid (w.heap.size<w1.heap.size):=zY HK1.out.lt
 have HBa:=zY (zBl w1 (.cells #[.int .u32 7,.int .i64 (d:Int),.int .i64 (s:Int),.slice A L.length c] 28))
 clear hA HK1 HB1
 generalize w1.alloc (.cells #[.int .u32 7,.int .i64 (d:Int),.int .i64 (s:Int),.slice A L.length c] 28)=w2 at *
 cases ok with
 |false=>
  have HAw:=zY (awake43_any w2 (HT.out.below HB2.out))
  go_wp2_with fail
  refine HAw.out.mono ?_
  rintro e3 w3 ⟨rfl,hb3⟩
  have HB3:=zYt HB2 hb3
  clear hb3
  go_wp2
  go_ret
  exact⟨rfl,HB3.out⟩
 |true=>
  have HMo:=zY (HOk.out rfl)
  have HAl:=zY HMo.out.all
  have hl2:=HMo.out.len
  have HF1:=zY (fun(W:World) (d s:Int) (hW:SeqAt sesS W (.slice A L.length c) L) (hT:Tab W)=>frames_any W 7 d s _ L n hW (by omega) HAl.out hT)
  have HF2:=zY (fun(W:World) (d s:Int) (hW:SeqAt sesS W (.slice A L.length c) L)=>rframes_any W 7 d s _ L n hW (by omega) HAl.out)
  generalize hll:L.length=nl at *
  clear hl2 hll
  have a0:=HA.out.c 0
  have a1:=HA.out.c 1
  have a2:=HA.out.c 2
  have a3:=HA.out.c 3
  go_wp2_with fail
  refine(HF1.out w2 _ _ HVb.out (HT.out.below HB2.out)).mono ?_
  rintro e3 w3 ⟨⟨v1,rfl,h1⟩,hb3⟩
  have HVc:=zY (HVb.out.below hb3)
  have HA3:=zY (HA.out.kept hb3)
  have HK3:=zY (HK2.out.kept hb3)
  have HB3:=zYt HB2 hb3
  have HQ1:=zY (h1.at hb3)
  have HO1:=zY h1
  have HBc:=zYt HBa hb3
  have H23:Hid (w2.heap.size<=w3.heap.size):=zY hb3.size
  clear hb3 h1 a0 a1 a2 a3 HVb HA HK2 HB2 HBa
  have a0:=HA3.out.c 0
  have a1:=HA3.out.c 1
  have a2:=HA3.out.c 2
  have a3:=HA3.out.c 3
  obtain⟨F1,hF1⟩:=zNm (framesF 7 (d:Int) (s:Int) L n)
  obtain⟨k1,hk1⟩:=zNm (contE (d:Int) (s:Int) L n)
  have HE1:=zY (HF2.out w3 (d:Int) (s:Int) HVc.out)
  rw[hF1,hk1]at HE1
  rw[hF1]at HQ1 HO1
  rw[hk1]
  obtain⟨A1,c1,rfl,_,_⟩:=HQ1.out.slice
  generalize hz1:F1.length=z1 at *
  clear hF1 hk1 hz1
  go_upto_region 5 with fail
  go_wp2_with fail
  refine HE1.out.mono ?_
  rintro e4 w4 ⟨⟨v2,rfl,h2⟩,hb4⟩
  have HO1:=zY (HO1.out.below hb4)
  have HO2:=zY h2
  obtain⟨A2,c2,rfl,_,_⟩:=(h2.at hb4).slice
  have HA4:=zY (HA3.out.kept hb4)
  have HK4:=zY (HK3.out.kept hb4)
  have HB4:=zYt HB3 hb4
  have HBd:=zYt HBc hb4
  have H34:Hid (w3.heap.size<=w4.heap.size):=zY hb4.size
  clear hb4 h2 a0 a1 a2 a3 HVc HA3 HK3 HB3 HBc HQ1 HE1
  have a1:=HA4.out.c 1
  have a2:=HA4.out.c 2
  have y1:=HA4.out.frozen 1
  have y2:=HA4.out.frozen 2
  have l0:=HK4.out.c 0
  have l1:=HK4.out.c 1
  go_upto_region 7 with fail
  have hg:=grown_setAll w1.heap.size [.int .i64 d',.int .i64 s'] w4 1
  have hA5:=HA4.out.setAll (i:=1) [.int .i64 d',.int .i64 s']
  have hB5:=below_setAll (g:=w1.heap.size) (B:=w.heap.size) (by have:=Hg.out;omega) [.int .i64 d',.int .i64 s'] w4 1 HB4.out
  have hB5a:=below_setAll (g:=w1.heap.size) (B:=w1.heap.size) (Nat.le_refl _) [.int .i64 d',.int .i64 s'] w4 1 HBd.out
  have HO1:=zY (HO1.out.grown hg (.inr (HO1.out.neT HA4.out (by decide))))
  have HO2:=zY (HO2.out.grown hg (.inr (HO2.out.neT HA4.out (by decide))))
  have hsz:=hg.size
  change Blk ((w4.setCell ⟨w1.heap.size,1,none⟩ (.int .i64 d')).setCell ⟨w1.heap.size,2,none⟩ (.int .i64 s')) _ _ [.int .u32 7,.int .i64 d',.int .i64 s',.slice A nl c]at hA5
  change Hid (OwnSeq frmS _ _ ((w4.setCell ⟨w1.heap.size,1,none⟩ (.int .i64 d')).setCell ⟨w1.heap.size,2,none⟩ (.int .i64 s')) _ _)at HO1
  change Hid (OwnSeq frmS _ _ ((w4.setCell ⟨w1.heap.size,1,none⟩ (.int .i64 d')).setCell ⟨w1.heap.size,2,none⟩ (.int .i64 s')) _ _)at HO2
  change Below _ _ ((w4.setCell ⟨w1.heap.size,1,none⟩ (.int .i64 d')).setCell ⟨w1.heap.size,2,none⟩ (.int .i64 s'))at hB5
  change Below _ _ ((w4.setCell ⟨w1.heap.size,1,none⟩ (.int .i64 d')).setCell ⟨w1.heap.size,2,none⟩ (.int .i64 s'))at hB5a
  change w4.heap.size<=((w4.setCell ⟨w1.heap.size,1,none⟩ (.int .i64 d')).setCell ⟨w1.heap.size,2,none⟩ (.int .i64 s')).heap.size at hsz
  have HA5:=zY hA5
  have HB5:=zY hB5
  have HBe:=zY hB5a
  have HSz:=zY hsz
  clear hg hA5 hB5 hB5a hsz a1 a2 y1 y2 l0 l1 HA4 HK4 HB4 HBd
  generalize (w4.setCell ⟨w1.heap.size,1,none⟩ (.int .i64 d')).setCell ⟨w1.heap.size,2,none⟩ (.int .i64 s')=w5 at *
  have HQ1:=zY (HO1.out.atF flatFrm (by have:=HSz.out;have:=H34.out;have:=H23.out;omega))
  have HQ2:=zY (HO2.out.atF flatFrm (by have:=HSz.out;have:=H34.out;omega))
  have HV5:=zY (HVa.out.below HBe.out)
  clear HO1 HO2 H23 H34 HSz HBe HVa
  have a0:=HA5.out.c 0
  have a1:=HA5.out.c 1
  have a2:=HA5.out.c 2
  have a3:=HA5.out.c 3
  go_wp2_with fail
  refine(HF1.out w5 _ _ HV5.out (HT.out.below HB5.out)).mono ?_
  rintro e6 w6 ⟨⟨v3,rfl,h3⟩,hb6⟩
  have HV6:=zY (HV5.out.below hb6)
  have HA6:=zY (HA5.out.kept hb6)
  have HB6:=zYt HB5 hb6
  have HQ1:=zY (HQ1.out.below hb6)
  have HQ2:=zY (HQ2.out.below hb6)
  have HQ3:=zY (h3.at hb6)
  clear hb6 h3 a0 a1 a2 a3 HV5 HA5 HB5
  have a0:=HA6.out.c 0
  have a1:=HA6.out.c 1
  have a2:=HA6.out.c 2
  have a3:=HA6.out.c 3
  obtain⟨F2,hF2⟩:=zNm (framesF 7 d' s' L n)
  obtain⟨k2,hk2⟩:=zNm (contE d' s' L n)
  have HE2:=zY (HF2.out w6 d' s' HV6.out)
  rw[hF2,hk2]at HE2
  rw[hF2]at HQ3
  rw[hk2]
  obtain⟨A3,c3,rfl,_,_⟩:=HQ3.out.slice
  generalize hz2:F2.length=z2 at *
  clear hF2 hk2 hz2
  go_upto_region 8 with fail
  go_wp2_with fail
  refine HE2.out.mono ?_
  rintro e7 w7 ⟨⟨v4,rfl,h4⟩,hb7⟩
  have HQ4:=zY (h4.at hb7)
  have HS1:=zY (same43_any w7 _ _ F1 (HQ1.out.below hb7) (HQ2.out.below hb7))
  have HQ3:=zY (HQ3.out.below hb7)
  have HB7:=zYt HB6 hb7
  obtain⟨A4,c4,rfl,_,_⟩:=HQ4.out.slice
  clear h4 hb7 a0 a1 a2 a3 HV6 HA6 HB6 HQ1 HQ2 HE2
  go_upto_region 9 with fail
  go_wp2_with fail
  refine HS1.out.mono ?_
  rintro e8 w8 ⟨rfl,hb8⟩
  have HS2:=zY (same43_any w8 _ _ F2 (HQ3.out.below hb8) (HQ4.out.below hb8))
  have HB8:=zYt HB7 hb8
  clear hb8 HS1
  go_wp2_with fail
  refine HS2.out.mono ?_
  rintro e9 w9 ⟨rfl,hb9⟩
  have HB9:=zYt HB8 hb9
  have HAw:=zY (awake43_any w9 (HT.out.below HB9.out))
  clear hb9 HS2
  go_wp2_with fail
  refine HAw.out.mono ?_
  rintro e10 w10 ⟨rfl,hb10⟩
  have HB10:=zYt HB9 hb10
  clear hb10
  go_wp2
  go_ret
  exact⟨rfl,HB10.out⟩
end
end Go.Proofs.YthgenkkkapilhaaGreatDoor
namespace Go.Proofs.YthgenkkkapilhaaGreatDoor.lawVoFrames
section
open Go.ChangeShapes Go.WideShapes Go.ChangeAt Go.RowKit
theorem lifted (os:Os) (started:os.Started) (H:Type) (enc:TypeId×Value->H):
  ReturnsInHanded {} Tryz.checked os 3 .any (fun w args=>(Rows.volumeFramesSpec.pre enc Tryz.prog Tryz.f3 Rows.volumeFramesRow.domain false w args/\laidMetH Tryz.prog Rows.volumeFramesRow.laid w)/\sizedMet enc Tryz.prog Tryz.f3 (OpenSpec.ofChange Rows.volumeFramesSpec) false w args)
   (Rows.volumeFramesSpec.post enc Tryz.prog Tryz.f3 false true false false):=by
 refine returns_shaped (C:=Tryz.checked) (X:=fun w _=>laidMetH Tryz.prog Rows.volumeFramesRow.laid w) (fun _ _ _ hh h=>h.of_heap hh) ownN started (by kernel_rfl) Tryz.func3
  (ChangeSpec.witness_shaped (enc:=enc) (C:=Tryz.checked) (os:=os) (X:=fun w _=>laidMetH Tryz.prog Rows.volumeFramesRow.laid w) false (World.laidAll Tryz.prog os Rows.volumeFramesRow.laid) #[.slice none 0 0,.int .u8 0,.int .i64 0,.agg #[.int .i64 0,.int .i64 0]] 8 (World.laidAll_os _ _ _)
   (World.shaped_of_ZipB (by kernel_rfl) (by kernel_rfl)) (by kernel_rfl) (by kernel_rfl) (by kernel_rfl)
   (by rw[MakeChecks.laidMetH_plain _ _ _ (by kernel_rfl)];exact laidMet_laidAll _ (by kernel_rfl) (by kernel_rfl))) ?_
 intro W base args ds gs before hval0 hW hc _ hL hsh _
 have hT:Tab W:=tab_of hL (by kernel_rfl) hsh
 have hval:∀(j:Nat) t v,Tryz.f3.params[j]?=some t->args[j]?=some v->Value.okWide Tryz.prog W .any base t v:=hval0
 have hW':=hW
 obtain⟨p,q,hA0,hV,rfl,_,_⟩:=hW
 have hA:DataW.TrodAll enc Tryz.prog W 0 (fun _=>true) true Tryz.f3.params.toList args.toList ds p:=hA0
 rw[Tryz.params3]at hA hval
 obtain⟨v0,vs0,d0,ds0,p0,q0,hargs,rfl,rfl,h0,r0⟩:=trodAll_cons hA
 obtain⟨v1,vs1,d1,ds1,p1,q1,rfl,rfl,rfl,h1,r1⟩:=trodAll_cons r0
 obtain⟨v2,vs2,d2,ds2,p2,q2,rfl,rfl,rfl,h2,r2⟩:=trodAll_cons r1
 obtain⟨v3,vs3,d3,ds3,p3,q3,rfl,rfl,rfl,h3,r3⟩:=trodAll_cons r2
 obtain⟨rfl,rfl,rfl⟩:=trodAll_nil r3
 obtain rfl:args= #[v0,v1,v2,v3]:=by cases args;simp_all
 obtain⟨rfl,rfl⟩:=trodVars_none hV
 have k0:=h0
 have lt0:∀x∈p0,x.block<W.heap.size:=by obtain⟨m,hm⟩:=k0;exact DataW.trod_lt m _ _ _ hm
 have k1:=h1
 have lt1:∀x∈p1,x.block<W.heap.size:=by obtain⟨m,hm⟩:=k1;exact DataW.trod_lt m _ _ _ hm
 have k2:=h2
 have lt2:∀x∈p2,x.block<W.heap.size:=by obtain⟨m,hm⟩:=k2;exact DataW.trod_lt m _ _ _ hm
 have k3:=h3
 have lt3:∀x∈p3,x.block<W.heap.size:=by obtain⟨m,hm⟩:=k3;exact DataW.trod_lt m _ _ _ hm
 obtain⟨x0,hx0⟩:=open_bats (hval 0 22 v0 rfl rfl) h0
 obtain⟨x1,rfl,hx1⟩:=open_u8 (hval 1 5 v1 rfl rfl) h1
 obtain⟨x2,rfl,_,_,_⟩:=open_int Tryz.underlying3 (hval 2 3 v2 rfl rfl) h2
 obtain⟨x3,y3,rfl⟩:=open_layout (hval 3 24 v3 rfl rfl) h3
 clear hA0 hval0 hL
 refine(lawframes_any W v0 x0 hx0 x1 hx1 x2 x3 y3 hT).mono fun e W' ⟨he,bel⟩=>?_
 subst he
 exact⟨_,rfl,_,_,_,[],_,[],hW',trodAll_mk1 (shut_bool Tryz.underlying4 _),(trodAll_cons_mk (Below.trod laidN (by kernel_rfl) (of_decide_eq_true (by kernel_rfl)) k0 bel lt0) (trodAll_cons_mk (Below.trod laidN (by kernel_rfl) (of_decide_eq_true (by kernel_rfl)) k1 bel lt1) (trodAll_cons_mk (Below.trod laidN (by kernel_rfl) (of_decide_eq_true (by kernel_rfl)) k2 bel lt2) (trodAll_cons_mk (Below.trod laidN (by kernel_rfl) (of_decide_eq_true (by kernel_rfl)) k3 bel lt3) trodAll_mk0)))),rfl,bel.frame _,fun h=>by cases h⟩
end
end Go.Proofs.YthgenkkkapilhaaGreatDoor.lawVoFrames
