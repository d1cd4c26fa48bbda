/-
  Joined: VpY.
-/
import Derived.Test.YthgenkkkapilhaaGreatDoorVSn36
import Derived.Test.YthgenkkkapilhaaGreatDoorVSn41
set_option linter.all false
set_option maxRecDepth 100000
set_option maxHeartbeats 64000000
namespace Go.Proofs.YthgenkkkapilhaaGreatDoor
section
open Go.RowKit
structure WrI (w W:World) (gd:Nat) (ac dc:List Value):Prop where
 ar:Blk W w.heap.size 28 ac
 rs:Blk W (w.heap.size+1) 28 [.int .u32 0,.int .i64 0,.int .i64 0,.slice none 0 0]
 dr:Blk W gd 163 dc
 bl:Below w.heap.size w W
 hg:w.heap.size+1<gd
section
variable {w W W':World} {gd:Nat} {ac dc dc':List Value}
theorem WrI.below (h:WrI w W gd ac dc) (hb:Below W.heap.size W W'):WrI w W' gd ac dc:=⟨h.ar.kept hb,h.rs.kept hb,h.dr.kept hb,h.bl.trans (hb.mono h.bl.size),h.hg⟩
theorem WrI.set (h:WrI w W gd ac dc) (us:List Value) (hd:lset dc 0 us=dc'):WrI w (setAll W gd 0 us) gd ac dc':=by
 have hg:=grown_setAll gd us W 0
 have h1:=h.hg
 exact⟨h.ar.grownN hg (by omega),h.rs.grownN hg (by omega),hd▸h.dr.setAll us,below_setAll (by omega) us W 0 h.bl,h.hg⟩
end
structure DrB (N i:Nat) (E:List Ent) (C:List Cnk) (st:ByteArray) (T:List Ent) (H:List Hol):Prop where
 e:E.length<=i
 eb:∀x∈E,EntB x
 c:C.length<=65536*N+600*i
 st:st.size<=65536*N+600*i
 t:T.length<=N+i
 h:H.length<=N+i
 tp:∀x∈T,x.path.size<=1000000
 hp:∀x∈H,x.p.size<=1000000
def RetWr (w':World) (id d s:Int) (L:List Ses) (m:Nat) (e:Ending):Prop:=∃(v:Value) (L':List Ses) (n k:Int),e=.returned (.tuple #[.agg #[.int .u32 id,.int .i64 d,.int .i64 s,v],.int .i64 n,.int .i64 k])/\SeqAt sesS w' v L'/\(L'=L∨∃x,L'=L++[x]/\SesOk x/\x.num=L.length+1/\x.ents.length<=m/\x.str.size<=65536*entN L+600*m)
theorem write39_any (w:World) (id d s:Int) (v:Value) (L:List Ses) (hv:SeqAt sesS w v L) (hl:L.length<=100) (hN:entN L<=10) (hs:∀x∈L,SesOk x) (dt:Int) (vl:Value) (l:List Cha) (hvl:SeqAt chaS w vl l) (hll:l.length<=10) (hco:∀x∈l,chaOk x):
  Calls Tryz.prog 37 #[.agg #[.int .u32 id,.int .i64 d,.int .i64 s,v],.int .i64 dt,vl] w fun e w'=>RetWr w' id d s L l.length e/\Below w.heap.size w w':=by
 have HBg:=zY (fun(W:World) (h:Below w.heap.size w W)=>begin39_any W id d s v L (hv.below h) (by omega) (by omega) hs dt)
 have HAp0:=zY (fun(W:World) (h:Below w.heap.size w W) (date:Int) (prev str:ByteArray) (ve:Value) (ents:List Ent) (hve:SeqAt entS W ve ents)=>append39_any W id d s v L (hv.below h) (by omega) hs date prev str ve ents hve)
 have Hv:=zY hv
 have Hvl:=zY hvl
 have Hs:=zY hs
 have HN:=zY hN
 have Hll:=zY hll
 have HCo:=zY hco
 obtain⟨A,c,rfl,_,_⟩:=hv.slice
 obtain⟨Al,cl,rfl,_,_⟩:=hvl.slice
 have hA:=Blk.new w 28 [.int .u32 id,.int .i64 d,.int .i64 s,.slice A L.length c]
 change Blk (w.alloc (.cells #[.int .u32 id,.int .i64 d,.int .i64 s,.slice A L.length c] 28)) _ _ _ at hA
 have hZ:=Blk.new (w.alloc (.cells #[.int .u32 id,.int .i64 d,.int .i64 s,.slice A L.length c] 28)) 28 [.int .u32 0,.int .i64 0,.int .i64 0,.slice none 0 0]
 change Blk ((w.alloc (.cells #[.int .u32 id,.int .i64 d,.int .i64 s,.slice A L.length c] 28)).alloc (.cells #[.int .u32 0,.int .i64 0,.int .i64 0,.slice none 0 0] 28)) _ _ _ at hZ
 rw[World.size_alloc]at hZ
 have hB1:=zBl w (.cells #[.int .u32 id,.int .i64 d,.int .i64 s,.slice A L.length c] 28)
 have HB0:=zY (hB1.alloc hB1.size (.cells #[.int .u32 0,.int .i64 0,.int .i64 0,.slice none 0 0] 28))
 have HA0:=zY (hA.alloc (.cells #[.int .u32 0,.int .i64 0,.int .i64 0,.slice none 0 0] 28))
 have HZ0:=zY hZ
 clear hA hZ hB1 hv hvl hs hN hll hco
 go_enter Tryz.func37,Tryz.ntmps37
 go_upto_region 1 with fail
 generalize ((w.alloc (.cells #[.int .u32 id,.int .i64 d,.int .i64 s,.slice A L.length c] 28)).alloc (.cells #[.int .u32 0,.int .i64 0,.int .i64 0,.slice none 0 0] 28))=wa at *
 have a0:=HA0.out.c 0
 have a1:=HA0.out.c 1
 have a2:=HA0.out.c 2
 have a3:=HA0.out.c 3
 go_wp2_with fail
 refine(HBg.out _ HB0.out).mono ?_
 rintro e1 w1 ⟨⟨num,date,prev,ve,vc,vt,vh,E,C,sn,st,T,H,k,rfl,hsq,hp⟩,hb1⟩
 dsimp only[drV]
 obtain⟨Ae,ce,rfl,_,_⟩:=hsq.e.slice
 obtain⟨Ac,cc,rfl,_,_⟩:=hsq.c.slice
 obtain⟨At,ct,rfl,_,_⟩:=hsq.t.slice
 obtain⟨Ah,ch,rfl,_,_⟩:=hsq.h.slice
 have hD:=Blk.new w1 163 [.int .i64 num,.int .i64 date,.string prev,.slice Ae E.length ce,.slice Ac C.length cc,.int .i64 sn,.string st,.slice At T.length ct,.slice Ah H.length ch]
 change Blk (w1.alloc (.cells #[.int .i64 num,.int .i64 date,.string prev,.slice Ae E.length ce,.slice Ac C.length cc,.int .i64 sn,.string st,.slice At T.length ct,.slice Ah H.length ch] 163)) _ _ _ at hD
 have hB2:=zBl w1 (.cells #[.int .i64 num,.int .i64 date,.string prev,.slice Ae E.length ce,.slice Ac C.length cc,.int .i64 sn,.string st,.slice At T.length ct,.slice Ah H.length ch] 163)
 have HI1:Hid (WrI w (w1.alloc (.cells #[.int .i64 num,.int .i64 date,.string prev,.slice Ae E.length ce,.slice Ac C.length cc,.int .i64 sn,.string st,.slice At T.length ct,.slice Ah H.length ch] 163)) w1.heap.size [.int .u32 id,.int .i64 d,.int .i64 s,.slice A L.length c] [.int .i64 num,.int .i64 date,.string prev,.slice Ae E.length ce,.slice Ac C.length cc,.int .i64 sn,.string st,.slice At T.length ct,.slice Ah H.length ch]):=zY ⟨(HA0.out.kept hb1).kept hB2,(HZ0.out.kept hb1).kept hB2,hD,(HB0.out.trans (hb1.mono HB0.out.size)).trans (hB2.mono (HB0.out.trans (hb1.mono HB0.out.size)).size),(HZ0.out.kept hb1).lt⟩
 have HQ1:=zY (hsq.below hB2)
 have HP1:=zY hp
 clear hD hB2 hsq hp hb1 a0 a1 a2 a3 HA0 HZ0 HB0
 go_upto_region 2 with fail
 generalize w1.alloc (.cells #[.int .i64 num,.int .i64 date,.string prev,.slice Ae E.length ce,.slice Ac C.length cc,.int .i64 sn,.string st,.slice At T.length ct,.slice Ah H.length ch] 163)=w2 at *
 generalize w1.heap.size=gd at *
 by_cases hk:k=0
 {
 obtain⟨hnum,hdate,hprev,rfl,hc,hst,ht,hh,htm,hhb⟩:=HP1.out hk
 subst hk
 subst hnum
 have HDt:=zY hdate
 have HPr:=zY hprev
 have HB1:Hid (DrB (entN L) 0 [] C st T H):=zY ⟨by simp,(fun x hx=>nomatch hx),by omega,by omega,by omega,by omega,fun x hx=>by
  obtain⟨y,hy,hxy⟩:=htm x hx
  exact((Hs.out y hy).ok x hxy).path,hhb⟩
 clear hdate hprev hc hst ht hh htm hhb HP1
 go_wp2
 go_loopw [11,12,13] (fun y _ _ wr=>∃(i:Nat) (ve vc vt vh:Value) (E:List Ent) (C:List Cnk) (sn:Int) (st:ByteArray) (T:List Ent) (H:List Hol),i<=l.length/\y=.int .i64 (i:Int)/\WrI w wr gd [.int .u32 id,.int .i64 d,.int .i64 s,.slice A L.length c] [.int .i64 ((L.length:Int)+1),.int .i64 date,.string prev,ve,vc,.int .i64 sn,.string st,vt,vh]/\DrA wr ve vc vt vh E C T H/\DrB (entN L) i E C st T H) (fun y _ _ _=>l.length-(intOf y).toNat)
 case atStart=>exact⟨0,_,_,_,_,[],C,sn,st,T,H,by omega,rfl,HI1.out,HQ1.out,HB1.out⟩
 case round=>
  clear HI1 HQ1 HB1
  obtain⟨i,ve,vc,vt,vh,E,C,sn,st,T,H,hi,rfl,hI,hQ,hB⟩:=hrel
  obtain⟨Ae,ce,rfl,_,_⟩:=hQ.e.slice
  obtain⟨Ac,cc,rfl,_,_⟩:=hQ.c.slice
  obtain⟨At,ct,rfl,_,_⟩:=hQ.t.slice
  obtain⟨Ah,ch,rfl,_,_⟩:=hQ.h.slice
  have HI:=zY hI
  have HQ:=zY hQ
  have HB:=zY hB
  clear hI hQ hB
  by_cases h:i<l.length
  {
  have hiI:(i:Int)<l.length:=by omega
  obtain⟨x,hx⟩:∃x,l[i]?=some x:=⟨_,List.getElem?_eq_getElem h⟩
  have HCx:=zY (HCo.out x (List.mem_of_getElem? hx))
  obtain⟨_,_,e9,_,_,h44⟩:=Hvl.out
  cases e9
  obtain⟨b,o,cs,rfl,⟨va,rfl,hva⟩,hc⟩:=h44 i x hx
  obtain⟨k,path,al,tgt,cont⟩:=x
  dsimp only at hc hva HCx
  have HVa:=zY hva
  obtain⟨Aa,ca,rfl,_,_⟩:=hva.slice
  have HKS:Hid (∀W,Below wr.heap.size wr W->W.cell? ⟨gd,0,none⟩=some (.int .i64 ((L.length:Int)+1))/\W.cell? ⟨gd,1,none⟩=some (.int .i64 date)/\W.cell? ⟨gd,2,none⟩=some (.string prev)/\W.cell? ⟨gd,3,none⟩=some (.slice Ae E.length ce)/\W.cell? ⟨gd,4,none⟩=some (.slice Ac C.length cc)/\W.cell? ⟨gd,5,none⟩=some (.int .i64 sn)/\W.cell? ⟨gd,6,none⟩=some (.string st)/\W.cell? ⟨gd,7,none⟩=some (.slice At T.length ct)/\W.cell? ⟨gd,8,none⟩=some (.slice Ah H.length ch)/\W.cell? ⟨b,o+i*5,none⟩=some (.int .i64 k)/\W.cell? ⟨b,o+i*5+1,none⟩=some (.string path)/\W.cell? ⟨b,o+i*5+2,none⟩=some (.slice Aa al.length ca)/\W.cell? ⟨b,o+i*5+3,none⟩=some (.string tgt)/\W.cell? ⟨b,o+i*5+4,none⟩=some (.string cont)):=zY (fun W h=>by
   have hx:=HI.out.dr.kept h
   have hb:=HI.out.bl.trans (h.mono HI.out.bl.size)
   exact⟨hx.c 0,hx.c 1,hx.c 2,hx.c 3,hx.c 4,hx.c 5,hx.c 6,hx.c 7,hx.c 8,cell_below hb (hc 0 _ rfl),cell_below hb (hc 1 _ rfl),cell_below hb (hc 2 _ rfl),cell_below hb (hc 3 _ rfl),cell_below hb (hc 4 _ rfl)⟩)
  have HAd:=zY (fun(W:World) (h:Below wr.heap.size wr W)=>add39_any W ((L.length:Int)+1) date prev (.slice Ae E.length ce) (.slice Ac C.length cc) (.slice At T.length ct) (.slice Ah H.length ch) E C sn st T H (HQ.out.below h) (by have:=HB.out.e;have:=Hll.out;omega) (by have:=HB.out.c;have:=HN.out;have:=Hll.out;omega) (by have:=HB.out.st;have:=HN.out;have:=Hll.out;omega) (by have:=HB.out.t;have:=HN.out;have:=Hll.out;omega) (by have:=HB.out.h;have:=HN.out;have:=Hll.out;omega) HB.out.tp HB.out.hp
   k path tgt cont (.slice Aa al.length ca) al (HVa.out.below (HI.out.bl.trans (h.mono HI.out.bl.size))) HCx.out)
  dsimp only[drV]at HAd
  have HBNew:Hid (∀W:World,Below wr.heap.size wr W->Blk (W.alloc (.cells #[.int .i64 0,.int .i64 0,.string ⟨#[]⟩,.slice none 0 0,.slice none 0 0,.int .i64 0,.string ⟨#[]⟩,.slice none 0 0,.slice none 0 0] 163)) W.heap.size 163 [.int .i64 0,.int .i64 0,.string ⟨#[]⟩,.slice none 0 0,.slice none 0 0,.int .i64 0,.string ⟨#[]⟩,.slice none 0 0,.slice none 0 0]):=zY (fun W _=>Blk.new W 163 [.int .i64 0,.int .i64 0,.string ⟨#[]⟩,.slice none 0 0,.slice none 0 0,.int .i64 0,.string ⟨#[]⟩,.slice none 0 0,.slice none 0 0])
  have HBc:=zY ((Below.refl wr.heap.size wr).drew)
  have HS:=zY (HKS.out _ HBc.out)
  clear hc h44 hx hva
  go_upto_region 7 with fail
  go_cut [12,13] (fun p f wz=>∃(gx:Nat) (num5 date5:Int) (prev5:ByteArray) (ve5 vc5 vt5 vh5:Value) (E5:List Ent) (C5:List Cnk) (sn5:Int) (st5:ByteArray) (T5:List Ent) (H5:List Hol) (k5:Int),p=.pointer (some ⟨gx,0,none⟩)/\f=.int .i64 k5/\wr.heap.size<=gx/\Blk wz gx 163 [.int .i64 num5,.int .i64 date5,.string prev5,ve5,vc5,.int .i64 sn5,.string st5,vt5,vh5]/\DrA wz ve5 vc5 vt5 vh5 E5 C5 T5 H5/\Below wr.heap.size wr wz/\(k5=0->num5=((L.length:Int)+1)/\date5=date/\prev5=prev/\(∃x,E5=E++[x]/\EntB x)/\C5.length<=C.length+600/\st5.size<=st.size+600/\T5.length<=T.length+1/\H5.length<=H.length+1/\(∀x∈T5,x.path.size<=1000000)/\∀h∈H5,h.p.size<=1000000))
  case first=>
   refine wp_region_held_drew (S:=(fun W=>W.cell? ⟨gd,0,none⟩=some (.int .i64 ((L.length:Int)+1))/\W.cell? ⟨gd,1,none⟩=some (.int .i64 date)/\W.cell? ⟨gd,2,none⟩=some (.string prev)/\W.cell? ⟨gd,3,none⟩=some (.slice Ae E.length ce)/\W.cell? ⟨gd,4,none⟩=some (.slice Ac C.length cc)/\W.cell? ⟨gd,5,none⟩=some (.int .i64 sn)/\W.cell? ⟨gd,6,none⟩=some (.string st)/\W.cell? ⟨gd,7,none⟩=some (.slice At T.length ct)/\W.cell? ⟨gd,8,none⟩=some (.slice Ah H.length ch)/\W.cell? ⟨b,o+i*5,none⟩=some (.int .i64 k)/\W.cell? ⟨b,o+i*5+1,none⟩=some (.string path)/\W.cell? ⟨b,o+i*5+2,none⟩=some (.slice Aa al.length ca)/\W.cell? ⟨b,o+i*5+3,none⟩=some (.string tgt)/\W.cell? ⟨b,o+i*5+4,none⟩=some (.string cont))) (by kernel_rfl) ?_ (fun hHeld=>?_)
   ·exact HS.out
   refine tk 0 ?_
   refine tk 1 ?_
   refine tk 2 ?_
   refine tk 3 ?_
   refine tk 4 ?_
   refine zEs [5,9] (zEc (fun K hK=>?_) (zEc (fun K hK=>?_) AllReadyH.nil))
   go_simp
   refine(HAd.out _ HBc.out).mono ?_
   rintro e5 w5 ⟨⟨num5,date5,prev5,ve5,vc5,vt5,vh5,E5,C5,sn5,st5,T5,H5,k5,rfl,hsq5,hp5⟩,hb5⟩
   (try dsimp only[drV])
   obtain⟨Ae5,ce5,rfl,_,_⟩:=hsq5.e.slice
   obtain⟨Ac5,cc5,rfl,_,_⟩:=hsq5.c.slice
   obtain⟨At5,ct5,rfl,_,_⟩:=hsq5.t.slice
   obtain⟨Ah5,ch5,rfl,_,_⟩:=hsq5.h.slice
   (try go_wp2_with fail)
   have HQ5:=zY hsq5
   have HP5:=zY hp5
   first|(have HXb:=zY (HXb.out.kept hb5))|skip
   have HBc:=zYt HBc hb5
   clear hsq5 hp5 hb5
   have HS:=zY (HKS.out _ HBc.out)
   refine hko hK (by exact HS.out) (fun _=>?_)
   clear hK K
   refine tk 6 ?_
   refine tk 7 ?_
   refine tk 8 ?_
   refine zE1 9 fun K hK=>?_
   go_simp
   have HXb:=zY (HBNew.out _ HBc.out)
   have HXl:=zY HBc.out.size
   first|simp only[World.size_alloc]at HXb HXl|skip
   first|(have HQ5:=zY (HQ5.out.below ((Below.refl _ _).alloc (Nat.le_refl _) (.cells #[.int .i64 0,.int .i64 0,.string ⟨#[]⟩,.slice none 0 0,.slice none 0 0,.int .i64 0,.string ⟨#[]⟩,.slice none 0 0,.slice none 0 0] 163))))|skip
   have HBc:=zY (HBc.out.alloc HBc.out.size (.cells #[.int .i64 0,.int .i64 0,.string ⟨#[]⟩,.slice none 0 0,.slice none 0 0,.int .i64 0,.string ⟨#[]⟩,.slice none 0 0,.slice none 0 0] 163))
   have HS:=zY (HKS.out _ HBc.out)
   refine hko hK (by exact HS.out) (fun _=>?_)
   clear hK K
   rotate_left
   go_simp
   have HXb:=zY (HBNew.out _ HBc.out)
   have HXl:=zY HBc.out.size
   first|simp only[World.size_alloc]at HXb HXl|skip
   first|(have HQ5:=zY (HQ5.out.below ((Below.refl _ _).alloc (Nat.le_refl _) (.cells #[.int .i64 0,.int .i64 0,.string ⟨#[]⟩,.slice none 0 0,.slice none 0 0,.int .i64 0,.string ⟨#[]⟩,.slice none 0 0,.slice none 0 0] 163))))|skip
   have HBc:=zY (HBc.out.alloc HBc.out.size (.cells #[.int .i64 0,.int .i64 0,.string ⟨#[]⟩,.slice none 0 0,.slice none 0 0,.int .i64 0,.string ⟨#[]⟩,.slice none 0 0,.slice none 0 0] 163))
   have HS:=zY (HKS.out _ HBc.out)
   refine hko hK (by exact HS.out) (fun _=>?_)
   clear hK K
   refine zE1 5 fun K hK=>?_
   go_simp
   refine(HAd.out _ HBc.out).mono ?_
   rintro e5 w5 ⟨⟨num5,date5,prev5,ve5,vc5,vt5,vh5,E5,C5,sn5,st5,T5,H5,k5,rfl,hsq5,hp5⟩,hb5⟩
   (try dsimp only[drV])
   obtain⟨Ae5,ce5,rfl,_,_⟩:=hsq5.e.slice
   obtain⟨Ac5,cc5,rfl,_,_⟩:=hsq5.c.slice
   obtain⟨At5,ct5,rfl,_,_⟩:=hsq5.t.slice
   obtain⟨Ah5,ch5,rfl,_,_⟩:=hsq5.h.slice
   (try go_wp2_with fail)
   have HQ5:=zY hsq5
   have HP5:=zY hp5
   first|(have HXb:=zY (HXb.out.kept hb5))|skip
   have HBc:=zYt HBc hb5
   clear hsq5 hp5 hb5
   have HS:=zY (HKS.out _ HBc.out)
   refine hko hK (by exact HS.out) (fun _=>?_)
   clear hK K
   refine tk 6 ?_
   refine tk 7 ?_
   refine tk 8 ?_
   rotate_left
   all_goals
    refine zE1 10 fun K hK=>?_
    refine wp_store_row 163 (.tmp 12) (.tmp 39) rfl _ _ rfl rfl 163 _ HXb.out (by kernel_rfl) rfl (by simp[Value.oneCell']) ?_
    have HXn:=zY (HXb.out.setRow [.int .i64 num5,.int .i64 date5,.string prev5,.slice Ae5 E5.length ce5,.slice Ac5 C5.length cc5,.int .i64 sn5,.string st5,.slice At5 T5.length ct5,.slice Ah5 H5.length ch5])
    have HQn:=zY (HQ5.out.box HXb.out (grown_setRow _ _ #[.int .i64 num5,.int .i64 date5,.string prev5,.slice Ae5 E5.length ce5,.slice Ac5 C5.length cc5,.int .i64 sn5,.string st5,.slice At5 T5.length ct5,.slice Ah5 H5.length ch5]) rfl)
    have HBn:=zY (below_setRow HBc.out HXl.out #[.int .i64 num5,.int .i64 date5,.string prev5,.slice Ae5 E5.length ce5,.slice Ac5 C5.length cc5,.int .i64 sn5,.string st5,.slice At5 T5.length ct5,.slice Ah5 H5.length ch5])
    have HS:=zY (HKS.out _ HBn.out)
    refine hko hK (by exact HS.out) (fun _=>?_)
    clear hK K
    refine tk 11 ?_
    refine wpAnyH_done (by kernel_rfl) ?_ _
    go_wp2_with fail
    go_meet
    exact⟨_,num5,date5,prev5,_,_,_,_,E5,C5,sn5,st5,T5,H5,k5,rfl,rfl,HXl.out,HXn.out,HQn.out,HBn.out,HP5.out⟩
  case rest=>
   obtain⟨gx,num5,date5,prev5,ve5,vc5,vt5,vh5,E5,C5,sn5,st5,T5,H5,k5,rfl,rfl,hgx,hX,hQ5,hB5,hp5⟩:=hcut
   obtain⟨wz,hwz⟩:∃x,x=wc:=⟨_,rfl⟩
   subst hwz
   obtain⟨Ae5,ce5,rfl,_,_⟩:=hQ5.e.slice
   obtain⟨Ac5,cc5,rfl,_,_⟩:=hQ5.c.slice
   obtain⟨At5,ct5,rfl,_,_⟩:=hQ5.t.slice
   obtain⟨Ah5,ch5,rfl,_,_⟩:=hQ5.h.slice
   have HI5:=zY (HI.out.below hB5)
   have HX5:=zY hX
   have HQ5:=zY hQ5
   have HP5:=zY hp5
   clear hX hQ5 hB5 hp5 HS HBc HKS HAd HBNew HI HQ
   by_cases h5:k5=0
   {
   obtain⟨hnum5,hdate5,hprev5,⟨x5,rfl,hx5⟩,hc5,hst5,ht5,hh5,htp5,hhp5⟩:=HP5.out h5
   subst h5
   subst hnum5
   subst hdate5
   subst hprev5
   have HB5:Hid (DrB (entN L) (i+1) (E++[x5]) C5 st5 T5 H5):=zY ⟨by have:=HB.out.e;simp;omega,fun y hy=>by
    rcases List.mem_append.1 hy with hy|hy
    ·exact HB.out.eb y hy
    ·rw[List.mem_singleton.1 hy];exact hx5,by have:=HB.out.c;omega,by have:=HB.out.st;omega,by have:=HB.out.t;omega,by have:=HB.out.h;omega,htp5,hhp5⟩
   clear hx5 hc5 hst5 ht5 hh5 htp5 hhp5 HP5 HB
   generalize E++[x5]=E5 at *
   have x0:=HX5.out.c 0
   have x1:=HX5.out.c 1
   have x2:=HX5.out.c 2
   have x3:=HX5.out.c 3
   have x4:=HX5.out.c 4
   have x5:=HX5.out.c 5
   have x6:=HX5.out.c 6
   have x7:=HX5.out.c 7
   have x8:=HX5.out.c 8
   have d0:=HI5.out.dr.c 0
   have d1:=HI5.out.dr.c 1
   have d2:=HI5.out.dr.c 2
   have d3:=HI5.out.dr.c 3
   have d4:=HI5.out.dr.c 4
   have d5:=HI5.out.dr.c 5
   have d6:=HI5.out.dr.c 6
   have d7:=HI5.out.dr.c 7
   have d8:=HI5.out.dr.c 8
   have y0:=HI5.out.dr.frozen 0
   have y1:=HI5.out.dr.frozen 1
   have y2:=HI5.out.dr.frozen 2
   have y3:=HI5.out.dr.frozen 3
   have y4:=HI5.out.dr.frozen 4
   have y5:=HI5.out.dr.frozen 5
   have y6:=HI5.out.dr.frozen 6
   have y7:=HI5.out.dr.frozen 7
   have y8:=HI5.out.dr.frozen 8
   have HI6:=zY (HI5.out.set [.int .i64 ((L.length:Int)+1),.int .i64 date5,.string prev5,.slice Ae5 E5.length ce5,.slice Ac5 C5.length cc5,.int .i64 sn5,.string st5,.slice At5 T5.length ct5,.slice Ah5 H5.length ch5] rfl)
   have HQ6:=zY (HQ5.out.box HI5.out.dr (grown_setAll gd [.int .i64 ((L.length:Int)+1),.int .i64 date5,.string prev5,.slice Ae5 E5.length ce5,.slice Ac5 C5.length cc5,.int .i64 sn5,.string st5,.slice At5 T5.length ct5,.slice Ah5 H5.length ch5] wz 0) rfl)
   go_wp2
   go_roundw
   case rel=>exact⟨i+1,_,_,_,_,E5,C5,sn5,st5,T5,H5,by omega,by go_num,HI6.out,HQ6.out,HB5.out⟩
   case measure=>simp[intOf];omega}
   {
   have f5:(k5 != 0)=true:=by rw[bne_iff_ne];exact h5
   have a0:=HI5.out.ar.c 0
   have a1:=HI5.out.ar.c 1
   have a2:=HI5.out.ar.c 2
   have a3:=HI5.out.ar.c 3
   have z0:=HI5.out.rs.c 0
   have z1:=HI5.out.rs.c 1
   have z2:=HI5.out.rs.c 2
   have z3:=HI5.out.rs.c 3
   have y0:=HI5.out.rs.frozen 0
   have y1:=HI5.out.rs.frozen 1
   have y2:=HI5.out.rs.frozen 2
   have y3:=HI5.out.rs.frozen 3
   have HW:=zY (HI5.out.rs.setAll (i:=0) [.int .u32 id,.int .i64 d,.int .i64 s,.slice A L.length c])
   have HBw:=zY (below_setAll (g:=w.heap.size+1) (by omega) [.int .u32 id,.int .i64 d,.int .i64 s,.slice A L.length c] wz 0 HI5.out.bl)
   have HDw:=zY (Hv.out.below HBw.out)
   go_wp2_with fail
   refine bodyPost_ret (results_row_tmp2 rfl _ _ (w.heap.size+1) 28 _ (0,0) _ rfl HW.out Tryz.underlying28 rfl (by kernel_rfl)) rfl ?_
   exact⟨⟨_,L,i,k5,rfl,HDw.out,.inl rfl⟩,HBw.out⟩}}
  {
  obtain rfl:i=l.length:=by omega
  have hiI:¬((l.length:Nat):Int)<(l.length:Int):=by omega
  have HKS:Hid (∀W,Below wr.heap.size wr W->W.cell? ⟨gd,0,none⟩=some (.int .i64 ((L.length:Int)+1))/\W.cell? ⟨gd,1,none⟩=some (.int .i64 date)/\W.cell? ⟨gd,2,none⟩=some (.string prev)/\W.cell? ⟨gd,3,none⟩=some (.slice Ae E.length ce)/\W.cell? ⟨gd,4,none⟩=some (.slice Ac C.length cc)/\W.cell? ⟨gd,5,none⟩=some (.int .i64 sn)/\W.cell? ⟨gd,6,none⟩=some (.string st)/\W.cell? ⟨gd,7,none⟩=some (.slice At T.length ct)/\W.cell? ⟨gd,8,none⟩=some (.slice Ah H.length ch)/\W.cell? ⟨w.heap.size,0,none⟩=some (.int .u32 id)/\W.cell? ⟨w.heap.size,1,none⟩=some (.int .i64 d)/\W.cell? ⟨w.heap.size,2,none⟩=some (.int .i64 s)/\W.cell? ⟨w.heap.size,3,none⟩=some (.slice A L.length c)):=zY (fun W h=>by
   have hx:=HI.out.dr.kept h
   have hy:=HI.out.ar.kept h
   exact⟨hx.c 0,hx.c 1,hx.c 2,hx.c 3,hx.c 4,hx.c 5,hx.c 6,hx.c 7,hx.c 8,hy.c 0,hy.c 1,hy.c 2,hy.c 3⟩)
  have HCl:=zY (fun(W:World)=>close39_any W ((L.length:Int)+1) date sn prev st Ae Ac At Ah E.length ce C.length cc T.length ct H.length ch)
  have HAp:=zY (fun(W:World) (h:Below wr.heap.size wr W)=>HAp0.out W (HI.out.bl.trans (h.mono HI.out.bl.size)) date prev st (.slice Ae E.length ce) E (HQ.out.e.below h))
  have HANew:Hid (∀W:World,Below wr.heap.size wr W->Blk (W.alloc (.cells #[.int .u32 0,.int .i64 0,.int .i64 0,.slice none 0 0] 28)) W.heap.size 28 [.int .u32 0,.int .i64 0,.int .i64 0,.slice none 0 0]):=zY (fun W _=>Blk.new W 28 [.int .u32 0,.int .i64 0,.int .i64 0,.slice none 0 0])
  have HBc:=zY ((Below.refl wr.heap.size wr).drew)
  have HS:=zY (HKS.out _ HBc.out)
  go_upto_region 11 with fail
  go_cut [14,15] (fun p f wz=>∃(gx:Nat) (A3:Option Addr) (L3:List Ses) (c3:Nat) (k3:Int),p=.pointer (some ⟨gx,0,none⟩)/\f=.int .i64 k3/\wr.heap.size<=gx/\Blk wz gx 28 [.int .u32 id,.int .i64 d,.int .i64 s,.slice A3 L3.length c3]/\SeqAt sesS wz (.slice A3 L3.length c3) L3/\Below wr.heap.size wr wz/\(L3=L∨L3=L++[(⟨(L.length:Int)+1,date,prev,E,st,⟨#[]⟩⟩:Ses)]))
  case first=>
   refine wp_region_held_drew (S:=(fun W=>W.cell? ⟨gd,0,none⟩=some (.int .i64 ((L.length:Int)+1))/\W.cell? ⟨gd,1,none⟩=some (.int .i64 date)/\W.cell? ⟨gd,2,none⟩=some (.string prev)/\W.cell? ⟨gd,3,none⟩=some (.slice Ae E.length ce)/\W.cell? ⟨gd,4,none⟩=some (.slice Ac C.length cc)/\W.cell? ⟨gd,5,none⟩=some (.int .i64 sn)/\W.cell? ⟨gd,6,none⟩=some (.string st)/\W.cell? ⟨gd,7,none⟩=some (.slice At T.length ct)/\W.cell? ⟨gd,8,none⟩=some (.slice Ah H.length ch)/\W.cell? ⟨w.heap.size,0,none⟩=some (.int .u32 id)/\W.cell? ⟨w.heap.size,1,none⟩=some (.int .i64 d)/\W.cell? ⟨w.heap.size,2,none⟩=some (.int .i64 s)/\W.cell? ⟨w.heap.size,3,none⟩=some (.slice A L.length c))) (by kernel_rfl) ?_ (fun hHeld=>?_)
   ·exact HS.out
   refine tk 0 ?_
   refine tk 1 ?_
   refine zEs [2,7] (zEc (fun K hK=>?_) (zEc (fun K hK=>?_) AllReadyH.nil))
   focus
    go_simp
    refine(HCl.out _).mono ?_
    rintro e2 w2 ⟨rfl,hb2⟩
    (try go_wp2_with fail)
    first|(have HXb:=zY (HXb.out.kept hb2))|skip
    have HBc:=zYt HBc hb2
    clear hb2
    have HS:=zY (HKS.out _ HBc.out)
    refine hko hK (by exact HS.out) (fun _=>?_)
    clear hK K
    refine zEs [3,7] (zEc (fun K hK=>?_) (zEc (fun K hK=>?_) AllReadyH.nil))
    go_simp
    refine(HAp.out _ HBc.out).mono ?_
    rintro e3 w3 ⟨⟨v3,L3,k3,rfl,hv3,hL3⟩,hb3⟩
    obtain⟨A3,c3,rfl,_,_⟩:=hv3.slice
    (try go_wp2_with fail)
    have HV3:=zY hv3
    have HL3:=zY hL3
    first|(have HXb:=zY (HXb.out.kept hb3))|skip
    have HBc:=zYt HBc hb3
    clear hv3 hL3 hb3
    have HS:=zY (HKS.out _ HBc.out)
    refine hko hK (by exact HS.out) (fun _=>?_)
    clear hK K
    refine tk 4 ?_
    refine tk 5 ?_
    refine tk 6 ?_
    refine zE1 7 fun K hK=>?_
    go_simp
    have HXb:=zY (HANew.out _ HBc.out)
    have HXl:=zY HBc.out.size
    first|simp only[World.size_alloc]at HXb HXl|skip
    first|(have HV3:=zY (HV3.out.below ((Below.refl _ _).alloc (Nat.le_refl _) (.cells #[.int .u32 0,.int .i64 0,.int .i64 0,.slice none 0 0] 28))))|skip
    have HBc:=zY (HBc.out.alloc HBc.out.size (.cells #[.int .u32 0,.int .i64 0,.int .i64 0,.slice none 0 0] 28))
    have HS:=zY (HKS.out _ HBc.out)
    refine hko hK (by exact HS.out) (fun _=>?_)
    clear hK K
    rotate_left
    go_simp
    have HXb:=zY (HANew.out _ HBc.out)
    have HXl:=zY HBc.out.size
    first|simp only[World.size_alloc]at HXb HXl|skip
    first|(have HV3:=zY (HV3.out.below ((Below.refl _ _).alloc (Nat.le_refl _) (.cells #[.int .u32 0,.int .i64 0,.int .i64 0,.slice none 0 0] 28))))|skip
    have HBc:=zY (HBc.out.alloc HBc.out.size (.cells #[.int .u32 0,.int .i64 0,.int .i64 0,.slice none 0 0] 28))
    have HS:=zY (HKS.out _ HBc.out)
    refine hko hK (by exact HS.out) (fun _=>?_)
    clear hK K
    refine zE1 3 fun K hK=>?_
    go_simp
    refine(HAp.out _ HBc.out).mono ?_
    rintro e3 w3 ⟨⟨v3,L3,k3,rfl,hv3,hL3⟩,hb3⟩
    obtain⟨A3,c3,rfl,_,_⟩:=hv3.slice
    (try go_wp2_with fail)
    have HV3:=zY hv3
    have HL3:=zY hL3
    first|(have HXb:=zY (HXb.out.kept hb3))|skip
    have HBc:=zYt HBc hb3
    clear hv3 hL3 hb3
    have HS:=zY (HKS.out _ HBc.out)
    refine hko hK (by exact HS.out) (fun _=>?_)
    clear hK K
    refine tk 4 ?_
    refine tk 5 ?_
    refine tk 6 ?_
    rotate_left
   rotate_left 2
   go_simp
   have HXb:=zY (HANew.out _ HBc.out)
   have HXl:=zY HBc.out.size
   first|simp only[World.size_alloc]at HXb HXl|skip
   first|(have HV3:=zY (HV3.out.below ((Below.refl _ _).alloc (Nat.le_refl _) (.cells #[.int .u32 0,.int .i64 0,.int .i64 0,.slice none 0 0] 28))))|skip
   have HBc:=zY (HBc.out.alloc HBc.out.size (.cells #[.int .u32 0,.int .i64 0,.int .i64 0,.slice none 0 0] 28))
   have HS:=zY (HKS.out _ HBc.out)
   refine hko hK (by exact HS.out) (fun _=>?_)
   clear hK K
   refine zE1 2 fun K hK=>?_
   go_simp
   refine(HCl.out _).mono ?_
   rintro e2 w2 ⟨rfl,hb2⟩
   (try go_wp2_with fail)
   first|(have HXb:=zY (HXb.out.kept hb2))|skip
   have HBc:=zYt HBc hb2
   clear hb2
   have HS:=zY (HKS.out _ HBc.out)
   refine hko hK (by exact HS.out) (fun _=>?_)
   clear hK K
   refine zE1 3 fun K hK=>?_
   go_simp
   refine(HAp.out _ HBc.out).mono ?_
   rintro e3 w3 ⟨⟨v3,L3,k3,rfl,hv3,hL3⟩,hb3⟩
   obtain⟨A3,c3,rfl,_,_⟩:=hv3.slice
   (try go_wp2_with fail)
   have HV3:=zY hv3
   have HL3:=zY hL3
   first|(have HXb:=zY (HXb.out.kept hb3))|skip
   have HBc:=zYt HBc hb3
   clear hv3 hL3 hb3
   have HS:=zY (HKS.out _ HBc.out)
   refine hko hK (by exact HS.out) (fun _=>?_)
   clear hK K
   refine tk 4 ?_
   refine tk 5 ?_
   refine tk 6 ?_
   rotate_left
   all_goals
    refine zE1 8 fun K hK=>?_
    refine wp_store_row 28 (.tmp 14) (.tmp 52) rfl _ _ rfl rfl 28 _ HXb.out (by kernel_rfl) rfl (by simp[Value.oneCell']) ?_
    have HXn:=zY (HXb.out.setRow [.int .u32 id,.int .i64 d,.int .i64 s,.slice A3 L3.length c3])
    have HVn:=zY (off_ses rfl rfl rfl rfl _ _ _ _ _ ⟨_,_,HXb.out,rfl⟩ (grown_setRow _ _ #[.int .u32 id,.int .i64 d,.int .i64 s,.slice A3 L3.length c3]) HV3.out)
    have HBn:=zY (below_setRow HBc.out HXl.out #[.int .u32 id,.int .i64 d,.int .i64 s,.slice A3 L3.length c3])
    have HS:=zY (HKS.out _ HBn.out)
    refine hko hK (by exact HS.out) (fun _=>?_)
    clear hK K
    refine tk 9 ?_
    refine wpAnyH_done (by kernel_rfl) ?_ _
    go_wp2_with fail
    go_meet
    exact⟨_,A3,L3,c3,k3,rfl,rfl,HXl.out,HXn.out,HVn.out,HBn.out,HL3.out⟩
  case rest=>
   obtain⟨gx,A3,L3,c3,k3,rfl,rfl,hgx,hX,hV3,hB3,hL3⟩:=hcut
   obtain⟨wz,hwz⟩:∃x,x=wc:=⟨_,rfl⟩
   subst hwz
   have HI3:=zY (HI.out.below hB3)
   have HX3:=zY hX
   have HV3:=zY hV3
   have HL3:=zY hL3
   have HSe:Hid (SesOk (⟨(L.length:Int)+1,date,prev,E,st,⟨#[]⟩⟩:Ses)):=zY ⟨⟨by show (0:Int)<=(L.length:Int)+1;omega,by show (L.length:Int)+1<=1000000000;omega⟩,HDt.out,HPr.out,by show st.size<=14680064;have:=HB.out.st;have:=HN.out;have:=Hll.out;omega,by show E.length<=100;have:=HB.out.e;have:=Hll.out;omega,HB.out.eb,rfl⟩
   clear hX hV3 hB3 hL3 HS HBc HKS HCl HAp HANew HI HQ
   have x0:=HX3.out.c 0
   have x1:=HX3.out.c 1
   have x2:=HX3.out.c 2
   have x3:=HX3.out.c 3
   have z0:=HI3.out.rs.c 0
   have z1:=HI3.out.rs.c 1
   have z2:=HI3.out.rs.c 2
   have z3:=HI3.out.rs.c 3
   have y0:=HI3.out.rs.frozen 0
   have y1:=HI3.out.rs.frozen 1
   have y2:=HI3.out.rs.frozen 2
   have y3:=HI3.out.rs.frozen 3
   have HW:=zY (HI3.out.rs.setAll (i:=0) [.int .u32 id,.int .i64 d,.int .i64 s,.slice A3 L3.length c3])
   have HBw:=zY (below_setAll (g:=w.heap.size+1) (by omega) [.int .u32 id,.int .i64 d,.int .i64 s,.slice A3 L3.length c3] wz 0 HI3.out.bl)
   have HDw:=zY (off_ses rfl rfl rfl rfl wz _ (w.heap.size+1) _ _ ⟨_,_,HI3.out.rs,rfl⟩ (grown_setAll (w.heap.size+1) [.int .u32 id,.int .i64 d,.int .i64 s,.slice A3 L3.length c3] wz 0) HV3.out)
   go_wp2_with fail
   refine bodyPost_ret (results_row_tmp2 rfl _ _ (w.heap.size+1) 28 _ (0,0) _ rfl HW.out Tryz.underlying28 rfl (by kernel_rfl)) rfl ?_
   exact⟨⟨_,L3,l.length,k3,rfl,HDw.out,HL3.out.imp (fun h=>h) fun e=>⟨_,e,HSe.out,rfl,HB.out.e,HB.out.st⟩⟩,HBw.out⟩}}
 {
 have f0:(k != 0)=true:=by rw[bne_iff_ne];exact hk
 have a0:=HI1.out.ar.c 0
 have a1:=HI1.out.ar.c 1
 have a2:=HI1.out.ar.c 2
 have a3:=HI1.out.ar.c 3
 have z0:=HI1.out.rs.c 0
 have z1:=HI1.out.rs.c 1
 have z2:=HI1.out.rs.c 2
 have z3:=HI1.out.rs.c 3
 have y0:=HI1.out.rs.frozen 0
 have y1:=HI1.out.rs.frozen 1
 have y2:=HI1.out.rs.frozen 2
 have y3:=HI1.out.rs.frozen 3
 have HW:=zY (HI1.out.rs.setAll (i:=0) [.int .u32 id,.int .i64 d,.int .i64 s,.slice A L.length c])
 have HBw:=zY (below_setAll (g:=w.heap.size+1) (by omega) [.int .u32 id,.int .i64 d,.int .i64 s,.slice A L.length c] w2 0 HI1.out.bl)
 have HDw:=zY (Hv.out.below HBw.out)
 go_wp2_with fail
 refine bodyPost_ret (results_row_tmp2 rfl _ _ (w.heap.size+1) 28 _ (0,0) _ rfl HW.out Tryz.underlying28 rfl (by kernel_rfl)) rfl ?_
 exact⟨⟨_,L,0,k,rfl,HDw.out,.inl rfl⟩,HBw.out⟩}
end
end Go.Proofs.YthgenkkkapilhaaGreatDoor
