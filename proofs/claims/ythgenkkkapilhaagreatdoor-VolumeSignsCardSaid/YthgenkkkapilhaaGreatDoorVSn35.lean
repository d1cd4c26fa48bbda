/-
  Joined: VpT VpU.
-/
import Derived.Test.YthgenkkkapilhaaGreatDoorVSn23
import Derived.Test.YthgenkkkapilhaaGreatDoorVSn31
set_option linter.all false
set_option maxRecDepth 100000
set_option maxHeartbeats 64000000
namespace Go.Proofs.YthgenkkkapilhaaGreatDoor
section
open Go.RowKit
structure StI (w W:World) (ca:List Value) (vc vt vh:Value) (C:List Cnk) (sn:Int) (st:ByteArray) (T:List Ent) (H:List Hol) (vl:Value) (Ls:List ByteArray):Prop where
 ar:Blk W w.heap.size 28 ca
 rs:Blk W (w.heap.size+1) 163 [.int .i64 0,.int .i64 0,.string ⟨#[]⟩,.slice none 0 0,.slice none 0 0,.int .i64 0,.string ⟨#[]⟩,.slice none 0 0,.slice none 0 0]
 dr:Blk W (w.heap.size+2) 163 [.int .i64 0,.int .i64 0,.string ⟨#[]⟩,.slice none 0 0,vc,.int .i64 sn,.string st,vt,vh]
 sq:DrA W (.slice none 0 0) vc vt vh [] C T H
 ls:OwnSeq strS 9 w W vl Ls
 bl:Below w.heap.size w W
section
variable {w W W':World} {ca:List Value} {vc vc' vt vt' vh vh' vl:Value} {C C':List Cnk} {sn sn':Int} {st st':ByteArray} {T T':List Ent} {H H':List Hol} {Ls:List ByteArray}
theorem StI.below (h:StI w W ca vc vt vh C sn st T H vl Ls) (hb:Below W.heap.size W W'):StI w W' ca vc vt vh C sn st T H vl Ls:=
 ⟨h.ar.kept hb,h.rs.kept hb,h.dr.kept hb,h.sq.below hb,h.ls.below hb,h.bl.trans (hb.mono h.bl.size)⟩
theorem StI.kinds (h:StI w W ca vc vt vh C sn st T H vl Ls):([.int .i64 0,.int .i64 0,.string ⟨#[]⟩,.slice none 0 0,vc,.int .i64 sn,.string st,vt,vh]:List Value).map kd=[1,1,3,4,4,1,3,4,4]:=by
 simp only[List.map_cons,List.map_nil,h.sq.c.kd,h.sq.t.kd,h.sq.h.kd]
 rfl
theorem StI.set (h:StI w W ca vc vt vh C sn st T H vl Ls) (i:Nat) (us:List Value) (hcs:lset [.int .i64 0,.int .i64 0,.string ⟨#[]⟩,.slice none 0 0,vc,.int .i64 sn,.string st,vt,vh] i us=[.int .i64 0,.int .i64 0,.string ⟨#[]⟩,.slice none 0 0,vc',.int .i64 sn',.string st',vt',vh'])
  (hs:DrA W (.slice none 0 0) vc' vt' vh' [] C' T' H'):StI w (setAll W (w.heap.size+2) i us) ca vc' vt' vh' C' sn' st' T' H' vl Ls:=by
 have hg:=grown_setAll (w.heap.size+2) us W i
 refine⟨h.ar.grownN hg (by omega),h.rs.grownN hg (by omega),hcs▸h.dr.setAll us,hs.box h.dr hg (by rw[h.kinds];rfl),h.ls.grown hg (.inr (h.ls.neT h.dr (by decide))),below_setAll (by omega) us W i h.bl⟩
end
def RetState (w':World) (N:Nat) (L:List Ses) (e:Ending):Prop:=∃(vc vt vh:Value) (C:List Cnk) (sn:Int) (st:ByteArray) (T:List Ent) (H:List Hol),e=.returned (.agg #[.int .i64 0,.int .i64 0,.string ⟨#[]⟩,.slice none 0 0,vc,.int .i64 sn,.string st,vt,vh]) /\
 DrA w' (.slice none 0 0) vc vt vh [] C T H/\C.length<=65536*N/\st.size<=65536*N/\T.length<=N/\H.length<=N/\(∀x∈T,∃y∈L,x∈y.ents)/\∀h∈H,h.p.size<=1000000
theorem state39_any (w:World) (id d s:Int) (v:Value) (L:List Ses) (hv:SeqAt sesS w v L) (hl:L.length<=200) (hN:entN L<=500) (hs:∀x∈L,SesOk x):
  Calls Tryz.prog 147 #[.agg #[.int .u32 id,.int .i64 d,.int .i64 s,v]] w fun e w'=>RetState w' (entN L) L e/\Below w.heap.size w w':=by
 obtain⟨A,c,rfl,h1,h2⟩:=hv.slice
 have hK:=Blk.new w 28 [.int .u32 id,.int .i64 d,.int .i64 s,.slice A L.length c]
 change Blk (w.alloc (.cells #[.int .u32 id,.int .i64 d,.int .i64 s,.slice A L.length c] 28)) _ _ _ at hK
 have hZ:=Blk.new (w.alloc (.cells #[.int .u32 id,.int .i64 d,.int .i64 s,.slice A L.length c] 28)) 163 [.int .i64 0,.int .i64 0,.string ⟨#[]⟩,.slice none 0 0,.slice none 0 0,.int .i64 0,.string ⟨#[]⟩,.slice none 0 0,.slice none 0 0]
 change Blk ((w.alloc (.cells #[.int .u32 id,.int .i64 d,.int .i64 s,.slice A L.length c] 28)).alloc (.cells #[.int .i64 0,.int .i64 0,.string ⟨#[]⟩,.slice none 0 0,.slice none 0 0,.int .i64 0,.string ⟨#[]⟩,.slice none 0 0,.slice none 0 0] 163)) _ _ _ at hZ
 rw[World.size_alloc]at hZ
 have hD:=Blk.new ((w.alloc (.cells #[.int .u32 id,.int .i64 d,.int .i64 s,.slice A L.length c] 28)).alloc (.cells #[.int .i64 0,.int .i64 0,.string ⟨#[]⟩,.slice none 0 0,.slice none 0 0,.int .i64 0,.string ⟨#[]⟩,.slice none 0 0,.slice none 0 0] 163)) 163 [.int .i64 0,.int .i64 0,.string ⟨#[]⟩,.slice none 0 0,.slice none 0 0,.int .i64 0,.string ⟨#[]⟩,.slice none 0 0,.slice none 0 0]
 change Blk (((w.alloc (.cells #[.int .u32 id,.int .i64 d,.int .i64 s,.slice A L.length c] 28)).alloc (.cells #[.int .i64 0,.int .i64 0,.string ⟨#[]⟩,.slice none 0 0,.slice none 0 0,.int .i64 0,.string ⟨#[]⟩,.slice none 0 0,.slice none 0 0] 163)).alloc (.cells #[.int .i64 0,.int .i64 0,.string ⟨#[]⟩,.slice none 0 0,.slice none 0 0,.int .i64 0,.string ⟨#[]⟩,.slice none 0 0,.slice none 0 0] 163)) _ _ _ at hD
 rw[World.size_alloc,World.size_alloc]at hD
 have hB1:=zBl w (.cells #[.int .u32 id,.int .i64 d,.int .i64 s,.slice A L.length c] 28)
 have hB2:=hB1.alloc hB1.size (.cells #[.int .i64 0,.int .i64 0,.string ⟨#[]⟩,.slice none 0 0,.slice none 0 0,.int .i64 0,.string ⟨#[]⟩,.slice none 0 0,.slice none 0 0] 163)
 have hB3:=hB2.alloc hB2.size (.cells #[.int .i64 0,.int .i64 0,.string ⟨#[]⟩,.slice none 0 0,.slice none 0 0,.int .i64 0,.string ⟨#[]⟩,.slice none 0 0,.slice none 0 0] 163)
 have HP0:Hid (StI w (((w.alloc (.cells #[.int .u32 id,.int .i64 d,.int .i64 s,.slice A L.length c] 28)).alloc (.cells #[.int .i64 0,.int .i64 0,.string ⟨#[]⟩,.slice none 0 0,.slice none 0 0,.int .i64 0,.string ⟨#[]⟩,.slice none 0 0,.slice none 0 0] 163)).alloc (.cells #[.int .i64 0,.int .i64 0,.string ⟨#[]⟩,.slice none 0 0,.slice none 0 0,.int .i64 0,.string ⟨#[]⟩,.slice none 0 0,.slice none 0 0] 163)) [.int .u32 id,.int .i64 d,.int .i64 s,.slice A L.length c] (.slice none 0 0) (.slice none 0 0) (.slice none 0 0) [] 0 ⟨#[]⟩ [] [] (.slice none 0 0) []):=zY ⟨(hK.alloc _).alloc _,hZ.alloc _,hD,DrA.nil _,OwnSeq.nil _,hB3⟩
 have Hv:=zY hv
 have Hs:=zY hs
 have HN:=zY hN
 clear hK hZ hD hB1 hB2 hB3 hv hs hN
 go_enter Tryz.func147,Tryz.ntmps147
 go_upto_region 2 with fail
 generalize (((w.alloc (.cells #[.int .u32 id,.int .i64 d,.int .i64 s,.slice A L.length c] 28)).alloc (.cells #[.int .i64 0,.int .i64 0,.string ⟨#[]⟩,.slice none 0 0,.slice none 0 0,.int .i64 0,.string ⟨#[]⟩,.slice none 0 0,.slice none 0 0] 163)).alloc (.cells #[.int .i64 0,.int .i64 0,.string ⟨#[]⟩,.slice none 0 0,.slice none 0 0,.int .i64 0,.string ⟨#[]⟩,.slice none 0 0,.slice none 0 0] 163))=wa at *
 have HSt:=zY (streams_any wa id d s _ L (Hv.out.below HP0.out.bl) (by omega))
 have a0:=HP0.out.ar.c 0
 have a1:=HP0.out.ar.c 1
 have a2:=HP0.out.ar.c 2
 have a3:=HP0.out.ar.c 3
 go_wp2_with fail
 refine HSt.out.mono ?_
 rintro e1 w1 ⟨⟨vl,rfl,ho1⟩,hb1⟩
 have HP1:Hid (StI w w1 [.int .u32 id,.int .i64 d,.int .i64 s,.slice A L.length c] (.slice none 0 0) (.slice none 0 0) (.slice none 0 0) [] 0 ⟨#[]⟩ [] [] vl (L.map (·.str))):=zY (by
  have h:=HP0.out.below hb1
  exact⟨h.ar,h.rs,h.dr,h.sq,ho1.low flatS HP0.out.bl.size,h.bl⟩)
 clear ho1 hb1 a0 a1 a2 a3 HSt HP0
 obtain⟨Al,cl,rfl⟩:=HP1.out.ls.slice
 rw[show (L.map (·.str)).length=L.length by simp]at HP1⊢
 go_wp2
 go_loopw [5,6,7,8,9,10] (fun y _ _ _ _ _ wr=>∃(i:Nat) (vc vt vh:Value) (C:List Cnk) (sn:Int) (st:ByteArray) (T:List Ent) (H:List Hol),i<=L.length/\y=.int .i64 (i:Int)/\StI w wr [.int .u32 id,.int .i64 d,.int .i64 s,.slice A L.length c] vc vt vh C sn st T H (.slice Al L.length cl) (L.map (·.str))/\C.length<=65536*entN (L.take i)/\st.size<=65536*entN (L.take i)/\T.length<=entN (L.take i)/\H.length<=entN (L.take i)/\(∀x∈T,∃y∈L,x∈y.ents)/\∀h∈H,h.p.size<=1000000) (fun y _ _ _ _ _ _=>L.length-(intOf y).toNat)
 case atStart=>exact⟨0,_,_,_,[],0,⟨#[]⟩,[],[],by omega,rfl,HP1.out,by simp,Nat.zero_le _,by simp,by simp,(fun x hx=>nomatch hx),(fun x hx=>nomatch hx)⟩
 case round=>
  obtain⟨i,vc,vt,vh,C,sn,st,T,H,hi,rfl,hp,hcl,hst,htl,hhl,htm,hhb⟩:=hrel
  have HP:=zY hp
  have HCl:=zY hcl
  have HSl:=zY hst
  have HTl:=zY htl
  have HHl:=zY hhl
  have HTm:=zY htm
  have HHb:=zY hhb
  clear hp hcl hst htl hhl htm hhb
  obtain⟨wx,rfl⟩:∃x,x=wr:=⟨_,rfl⟩
  obtain⟨Ac,cc,rfl,_,_⟩:=HP.out.sq.c.slice
  obtain⟨At,ct,rfl,_,_⟩:=HP.out.sq.t.slice
  obtain⟨Ah,ch,rfl,_,_⟩:=HP.out.sq.h.slice
  have a3:=HP.out.ar.c 3
  by_cases h:i<L.length
  {
  have hiI:(i:Int)<L.length:=by omega
  obtain⟨x,hx⟩:∃x,L[i]?=some x:=⟨_,List.getElem?_eq_getElem h⟩
  have HOx:=zY (Hs.out x (List.mem_of_getElem? hx))
  have Hxm:=zY (List.mem_of_getElem? hx)
  have HNx:=zY (entN_take L hx)
  have HNe:Hid (entN (L.take (i+1))<=500):=zY (Nat.le_trans (entN_le L (i+1)) HN.out)
  obtain⟨_,_,e9,_,_,h4⟩:=Hv.out
  cases e9
  obtain⟨b,o,cs,rfl,⟨ve,rfl,hve⟩,hc⟩:=h4 i x hx
  have HVe:=zY hve
  obtain⟨Ae,ce,rfl,_,_⟩:=hve.slice
  obtain⟨num,date,prev,ents,str,sig⟩:=x
  dsimp only at hc HVe HNx
  generalize hne:ents.length=ne at *
  have Hne:=zY hne
  have e0:wx.cell? ⟨b,o+i*6,none⟩=some (.int .i64 num):=cell_below HP.out.bl (hc 0 _ rfl)
  have e1:wx.cell? ⟨b,o+i*6+1,none⟩=some (.int .i64 date):=cell_below HP.out.bl (hc 1 _ rfl)
  have e2:wx.cell? ⟨b,o+i*6+2,none⟩=some (.string prev):=cell_below HP.out.bl (hc 2 _ rfl)
  have e3:wx.cell? ⟨b,o+i*6+3,none⟩=some (.slice Ae ne ce):=cell_below HP.out.bl (hc 3 _ rfl)
  have e4:wx.cell? ⟨b,o+i*6+4,none⟩=some (.string str):=cell_below HP.out.bl (hc 4 _ rfl)
  have e5:wx.cell? ⟨b,o+i*6+5,none⟩=some (.string sig):=cell_below HP.out.bl (hc 5 _ rfl)
  clear hc h4 hx hve hne
  have hSx:=Blk.new wx 45 [.int .i64 num,.int .i64 date,.string prev,.slice Ae ne ce,.string str,.string sig]
  change Blk (wx.alloc (.cells #[.int .i64 num,.int .i64 date,.string prev,.slice Ae ne ce,.string str,.string sig] 45)) _ _ _ at hSx
  have HSx:=zY hSx
  have HBx:=zY (zBl wx (.cells #[.int .i64 num,.int .i64 date,.string prev,.slice Ae ne ce,.string str,.string sig] 45))
  have HPx:=zY (HP.out.below HBx.out)
  have HGs:Hid (wx.heap.size≠w.heap.size+2):=zY (by have:=HP.out.dr.lt;omega)
  clear hSx
  go_upto_region 7 with fail
  clear e0 e1 e2 e3 e4 e5 a3
  generalize wx.alloc (.cells #[.int .i64 num,.int .i64 date,.string prev,.slice Ae ne ce,.string str,.string sig] 45)=wy at *
  generalize wx.heap.size=gs at *
  have d4:=HPx.out.dr.c 4
  have d5:=HPx.out.dr.c 5
  have d6:=HPx.out.dr.c 6
  have HBe:=zY (begin35_any wy Ac C.length cc sn st ((i:Int)+1))
  have hi1:IntKind.i64.wrap ((i:Int)+1)=(i:Int)+1:=zIw (by omega)
  go_wp2_with fail
  refine HBe.out.mono ?_
  rintro e2 w2 ⟨⟨sn2,st2,n2,rfl,hst2⟩,hb2⟩
  have HP2:=zY (HPx.out.below hb2)
  have HS2:=zY (HSx.out.kept hb2)
  have Hst2:=zY hst2
  clear d4 d5 d6 hst2 hb2 HBe HPx HSx HP HBx
  have d4:=HP2.out.dr.c 4
  have d5:=HP2.out.dr.c 5
  have d6:=HP2.out.dr.c 6
  have y4:=HP2.out.dr.frozen 4
  have y5:=HP2.out.dr.frozen 5
  have y6:=HP2.out.dr.frozen 6
  have HP3:=zY (HP2.out.set 4 [.slice Ac C.length cc,.int .i64 sn2,.string st2] rfl HP2.out.sq)
  have HS3:=zY (HS2.out.grownN (grown_setAll (w.heap.size+2) [.slice Ac C.length cc,.int .i64 sn2,.string st2] w2 4) HGs.out)
  go_wp2
  go_loopw [7,8,9,10] (fun y _ _ _ wr=>∃(j:Nat) (vc vt vh:Value) (C:List Cnk) (sn:Int) (st:ByteArray) (T:List Ent) (H:List Hol),j<=ne/\y=.int .i64 (j:Int)/\StI w wr [.int .u32 id,.int .i64 d,.int .i64 s,.slice (some ⟨b,o,none⟩) L.length c] vc vt vh C sn st T H (.slice Al L.length cl) (L.map (·.str))/\Blk wr gs 45 [.int .i64 num,.int .i64 date,.string prev,.slice Ae ne ce,.string str,.string sig]/\C.length<=65536*(entN (L.take i)+j)/\st.size<=65536*(entN (L.take i)+j)/\T.length<=entN (L.take i)+j/\H.length<=entN (L.take i)+j/\(∀x∈T,∃y∈L,x∈y.ents)/\∀h∈H,h.p.size<=1000000) (fun y _ _ _ _=>ne-(intOf y).toNat)
  case atStart=>exact⟨0,_,_,_,C,sn2,st2,T,H,by omega,rfl,HP3.out,HS3.out,by have:=HCl.out;omega,by have:=HSl.out;have:=Hst2.out;omega,by have:=HTl.out;omega,by have:=HHl.out;omega,HTm.out,HHb.out⟩
  case round=>
   clear HCl HSl HTl HHl HTm HHb d4 d5 d6 y4 y5 y6 HP3 HS3 HP2 HS2
   obtain⟨j,vc,vt,vh,C,sn,st,T,H,hj,rfl,hp,hsx,hcl,hst,htl,hhl,htm,hhb⟩:=hrel
   have HP:=zY hp
   have HSx:=zY hsx
   have HCl:=zY hcl
   have HSl:=zY hst
   have HTl:=zY htl
   have HHl:=zY hhl
   have HTm:=zY htm
   have HHb:=zY hhb
   have HTb:Hid (∀x∈T,x.path.size<=1000000):=zY (fun x hx=>by
    obtain⟨y,hy,hxy⟩:=htm x hx
    exact((Hs.out y hy).ok x hxy).path)
   clear hp hsx hcl hst htl hhl htm hhb
   obtain⟨wi,rfl⟩:∃x,x=wr:=⟨_,rfl⟩
   obtain⟨Ac,cc,rfl,_,_⟩:=HP.out.sq.c.slice
   obtain⟨At,ct,rfl,_,_⟩:=HP.out.sq.t.slice
   obtain⟨Ah,ch,rfl,_,_⟩:=HP.out.sq.h.slice
   have s3:=HSx.out.c 3
   by_cases hj2:j<ne
   {
   have hjI:(j:Int)<ne:=by omega
   obtain⟨x,hx⟩:∃x,ents[j]?=some x:=⟨_,List.getElem?_eq_getElem (by rw[Hne.out];exact hj2)⟩
   have Hem:Hid (x∈(⟨num,date,prev,ents,str,sig⟩:Ses).ents):=zY (List.mem_of_getElem? hx)
   have Heb:=zY (HOx.out.ok x (List.mem_of_getElem? hx))
   have HNi:Hid (entN (L.take i)+j+1<=500):=zY (by have:=HNe.out;have:=HNx.out;omega)
   obtain⟨_,_,e9,_,_,h4⟩:=HVe.out
   rw[Hne.out]at e9
   cases e9
   obtain⟨b2,o2,cs,rfl,⟨va,vx,rfl,ra,rx⟩,hc⟩:=h4 j x hx
   have HRa:=zY ra
   have HRx:=zY rx
   obtain⟨Aa,ca,rfl,_,_⟩:=ra.slice
   obtain⟨Ax,cx,rfl,_,_⟩:=rx.slice
   obtain⟨k,path,attrs,tgt,size,dig,exts⟩:=x
   dsimp only at hc HRa HRx
   generalize hna:attrs.length=na at *
   generalize hnx:exts.length=nx at *
   have Hna:=zY hna
   have Hnx:=zY hnx
   have e0:wi.cell? ⟨b2,o2+j*7,none⟩=some (.int .i64 k):=cell_below HP.out.bl (hc 0 _ rfl)
   have e1:wi.cell? ⟨b2,o2+j*7+1,none⟩=some (.string path):=cell_below HP.out.bl (hc 1 _ rfl)
   have e2:wi.cell? ⟨b2,o2+j*7+2,none⟩=some (.slice Aa na ca):=cell_below HP.out.bl (hc 2 _ rfl)
   have e3:wi.cell? ⟨b2,o2+j*7+3,none⟩=some (.string tgt):=cell_below HP.out.bl (hc 3 _ rfl)
   have e4:wi.cell? ⟨b2,o2+j*7+4,none⟩=some (.int .i64 size):=cell_below HP.out.bl (hc 4 _ rfl)
   have e5:wi.cell? ⟨b2,o2+j*7+5,none⟩=some (.string dig):=cell_below HP.out.bl (hc 5 _ rfl)
   have e6:wi.cell? ⟨b2,o2+j*7+6,none⟩=some (.slice Ax nx cx):=cell_below HP.out.bl (hc 6 _ rfl)
   clear hc h4 hx ra rx hna hnx
   have hE:=Blk.new wi 182 [.int .i64 k,.string path,.slice Aa na ca,.string tgt,.int .i64 size,.string dig,.slice Ax nx cx]
   change Blk (wi.alloc (.cells #[.int .i64 k,.string path,.slice Aa na ca,.string tgt,.int .i64 size,.string dig,.slice Ax nx cx] 182)) _ _ _ at hE
   have HEj:=zY hE
   have HBj:=zY (zBl wi (.cells #[.int .i64 k,.string path,.slice Aa na ca,.string tgt,.int .i64 size,.string dig,.slice Ax nx cx] 182))
   have HPj:=zY (HP.out.below HBj.out)
   have HSj:=zY (HSx.out.kept HBj.out)
   have HGe:Hid (wi.heap.size≠w.heap.size+2):=zY (by have:=HP.out.dr.lt;omega)
   clear hE
   go_upto_region 12 with fail
   clear e0 e1 e2 e3 e4 e5 e6 s3
   generalize wi.alloc (.cells #[.int .i64 k,.string path,.slice Aa na ca,.string tgt,.int .i64 size,.string dig,.slice Ax nx cx] 182)=wj at *
   generalize wi.heap.size=ge at *
   clear HP HSx HBj
   have g0:=HEj.out.c 0
   by_cases hk:k=1
   {
   have fk:(k==1)=true:=by rw[beq_iff_eq];exact hk
   clear hk
   have g6:=HEj.out.c 6
   have HGt:=zY (get35_any wj (.slice Al L.length cl) (.slice Ax nx cx) (L.map (·.str)) exts (HPj.out.ls.at HPj.out.bl) (HRx.out.below HPj.out.bl) (fun s hs=>by
    obtain⟨y,hy,rfl⟩:=List.mem_map.1 hs
    have:=(Hs.out y hy).str
    omega))
   go_wp2_with fail
   refine HGt.out.mono ?_
   rintro e3 w3 ⟨⟨content,n3,rfl,hz3⟩,hb3⟩
   have HP3:=zY (HPj.out.below hb3)
   have HE3:=zY (HEj.out.kept hb3)
   have HS3:=zY (HSj.out.kept hb3)
   clear hb3 HGt HPj HEj HSj g0 g6
   have HPu:=zY (put35_any w3 (.slice Ac C.length cc) C sn st content HP3.out.sq.c (by have:=HCl.out;have:=HNi.out;omega) (by have:=HSl.out;have:=HNi.out;omega) (by omega))
   have d4:=HP3.out.dr.c 4
   have d5:=HP3.out.dr.c 5
   have d6:=HP3.out.dr.c 6
   go_wp2_with fail
   refine HPu.out.mono ?_
   rintro e4 w4 ⟨⟨vc4,vx4,C4,st4,l4,n4,rfl,hc4,hx4,hl4,hs4,_⟩,hb4⟩
   have HP4:=zY (HP3.out.below hb4)
   have HE4:=zY (HE3.out.kept hb4)
   have HS4:=zY (HS3.out.kept hb4)
   have HC4:=zY hc4
   have HL4:Hid (C4.length<=C.length+65536):=zY (by omega)
   have HSz4:Hid (st4.size<=st.size+65536):=zY (by omega)
   obtain⟨Ax4,cx4,rfl,_,_⟩:=hx4.slice
   clear hb4 hc4 hx4 hl4 hs4 d4 d5 d6 HPu HP3 HE3 HS3 hz3
   obtain⟨A4,c4,rfl,_,_⟩:=HC4.out.slice
   have d4:=HP4.out.dr.c 4
   have d5:=HP4.out.dr.c 5
   have d6:=HP4.out.dr.c 6
   have y4:=HP4.out.dr.frozen 4
   have y5:=HP4.out.dr.frozen 5
   have y6:=HP4.out.dr.frozen 6
   have HPt:=zY (HP4.out.set 4 [.slice A4 C4.length c4,.int .i64 sn,.string st4] rfl ⟨SeqAt.nil _,HC4.out,HP4.out.sq.t,HP4.out.sq.h⟩)
   have HEt:=zY (HE4.out.grownN (grown_setAll (w.heap.size+2) [.slice A4 C4.length c4,.int .i64 sn,.string st4] w4 4) HGe.out)
   have HSt:=zY (HS4.out.grownN (grown_setAll (w.heap.size+2) [.slice A4 C4.length c4,.int .i64 sn,.string st4] w4 4) HGs.out)
   go_upto_region 15 with fail
   obtain⟨wt,hwt⟩:=zNm (setAll w4 (w.heap.size+2) 4 [.slice A4 C4.length c4,.int .i64 sn,.string st4])
   rw[hwt]at HPt HEt HSt
   change ((w4.setCell ⟨w.heap.size+2,4,none⟩ (.slice A4 C4.length c4)).setCell ⟨w.heap.size+2,5,none⟩ (.int .i64 sn)).setCell ⟨w.heap.size+2,6,none⟩ (.string st4)=wt at hwt
   rw[hwt]
   clear hwt d4 d5 d6 y4 y5 y6 HP4 HE4 HS4
   have HA:=zY (apply37_any wt (.slice At T.length ct) (.slice Aa na ca) (.slice Ax nx cx) T ⟨k,path,attrs,tgt,size,dig,exts⟩ HPt.out.sq.t (HRa.out.below HPt.out.bl) (HRx.out.below HPt.out.bl) (by have:=HTl.out;have:=HNi.out;omega) (fun x hx=>(HTb.out x hx)) Heb.out.path Heb.out.tgt (fun a ha=>(Heb.out.kv a ha).1) Heb.out.exn)
   rw[entV]at HA
   dsimp only at HA
   have t7:=HPt.out.dr.c 7
   have g0:=HEt.out.c 0
   have g1:=HEt.out.c 1
   have g2:=HEt.out.c 2
   have g3:=HEt.out.c 3
   have g4:=HEt.out.c 4
   have g5:=HEt.out.c 5
   have g6:=HEt.out.c 6
   go_wp2_with fail
   refine HA.out.mono ?_
   rintro r5 w5 ⟨⟨v5,m5,n5,rfl,hm5,hl5,hx5⟩,hb5⟩
   have HQ5:=zY (HPt.out.below hb5)
   have HE5:=zY (HEt.out.kept hb5)
   have HS5:=zY (HSt.out.kept hb5)
   have HM5:=zY hm5
   have HL5:=zY hl5
   have HX5:=zY hx5
   clear hm5 hl5 hx5 t7 g0 g1 g2 g3 g4 g5 g6 HA hb5
   obtain⟨A5,c5,rfl,_,_⟩:=HM5.out.slice
   have t7:=HQ5.out.dr.c 7
   have y7:=HQ5.out.dr.frozen 7
   have HQ6:=zY (HQ5.out.set 7 [.slice A5 m5.length c5] rfl ⟨SeqAt.nil _,HQ5.out.sq.c,HM5.out,HQ5.out.sq.h⟩)
   have HE6:=zY (HE5.out.far (p:=⟨w.heap.size+2,7,none⟩) (HGe.out) (.slice A5 m5.length c5))
   have HS6:=zY (HS5.out.far (p:=⟨w.heap.size+2,7,none⟩) (HGs.out) (.slice A5 m5.length c5))
   go_upto_region 16 with fail
   obtain⟨wu,hwu⟩:=zNm (setAll w5 (w.heap.size+2) 7 [.slice A5 m5.length c5])
   change w5.setCell ⟨w.heap.size+2,7,none⟩ (.slice A5 m5.length c5)=wu at hwu
   change Hid (StI w (w5.setCell ⟨w.heap.size+2,7,none⟩ (.slice A5 m5.length c5)) _ _ _ _ _ _ _ _ _ _ _)at HQ6
   rw[hwu]at HQ6 HE6 HS6⊢
   clear hwu t7 y7 HQ5 HE5 HS5
   have HB:=zY (apply38_any wu (.slice Ah H.length ch) H 1000000 (Nat.le_refl _) HQ6.out.sq.h (by have:=HHl.out;have:=HNi.out;omega) HHb.out k path tgt dig Aa Ax na ca nx cx size Heb.out.path Heb.out.tgt date)
   have t8:=HQ6.out.dr.c 8
   have g0:=HE6.out.c 0
   have g1:=HE6.out.c 1
   have g2:=HE6.out.c 2
   have g3:=HE6.out.c 3
   have g4:=HE6.out.c 4
   have g5:=HE6.out.c 5
   have g6:=HE6.out.c 6
   have s1:=HS6.out.c 1
   go_wp2_with fail
   refine HB.out.mono ?_
   rintro r6 w6 ⟨⟨v6,m6,n6,rfl,hm6,hl6,hx6⟩,hb6⟩
   have HQ7:=zY (HQ6.out.below hb6)
   have HS7:=zY (HS6.out.kept hb6)
   have HM6:=zY hm6
   have HL6:=zY hl6
   have HX6:=zY hx6
   clear hm6 hl6 hx6 t8 g0 g1 g2 g3 g4 g5 g6 s1 HB hb6
   obtain⟨A6,c6,rfl,_,_⟩:=HM6.out.slice
   have t8:=HQ7.out.dr.c 8
   have y8:=HQ7.out.dr.frozen 8
   have HQ8:=zY (HQ7.out.set 8 [.slice A6 m6.length c6] rfl ⟨SeqAt.nil _,HQ7.out.sq.c,HQ7.out.sq.t,HM6.out⟩)
   have HS8:=zY (HS7.out.far (p:=⟨w.heap.size+2,8,none⟩) (HGs.out) (.slice A6 m6.length c6))
   go_wp2
   go_roundw
   case rel=>exact⟨j+1,_,_,_,C4,sn,st4,m5,m6,by omega,by go_num,HQ8.out,HS8.out,by have:=HCl.out;have:=HL4.out;omega,by have:=HSl.out;have:=HSz4.out;omega,by have:=HTl.out;have:=HL5.out;omega,by have:=HHl.out;have:=HL6.out;omega,fun y hy=>by
    rcases HX5.out y hy with rfl|hy
    ·exact⟨_,Hxm.out,Hem.out⟩
    ·exact HTm.out y hy,HX6.out⟩
   case measure=>simp[intOf];omega}
   {
   have fk:(k==1)=false:=by rw[beq_eq_false_iff_ne];exact hk
   clear hk
   go_upto_region 15 with fail
   clear g0
   have HA:=zY (apply37_any wj (.slice At T.length ct) (.slice Aa na ca) (.slice Ax nx cx) T ⟨k,path,attrs,tgt,size,dig,exts⟩ HPj.out.sq.t (HRa.out.below HPj.out.bl) (HRx.out.below HPj.out.bl) (by have:=HTl.out;have:=HNi.out;omega) (fun x hx=>(HTb.out x hx)) Heb.out.path Heb.out.tgt (fun a ha=>(Heb.out.kv a ha).1) Heb.out.exn)
   rw[entV]at HA
   dsimp only at HA
   have t7:=HPj.out.dr.c 7
   have g0:=HEj.out.c 0
   have g1:=HEj.out.c 1
   have g2:=HEj.out.c 2
   have g3:=HEj.out.c 3
   have g4:=HEj.out.c 4
   have g5:=HEj.out.c 5
   have g6:=HEj.out.c 6
   go_wp2_with fail
   refine HA.out.mono ?_
   rintro r5 w5 ⟨⟨v5,m5,n5,rfl,hm5,hl5,hx5⟩,hb5⟩
   have HQ5:=zY (HPj.out.below hb5)
   have HE5:=zY (HEj.out.kept hb5)
   have HS5:=zY (HSj.out.kept hb5)
   have HM5:=zY hm5
   have HL5:=zY hl5
   have HX5:=zY hx5
   clear hm5 hl5 hx5 t7 g0 g1 g2 g3 g4 g5 g6 HA hb5
   obtain⟨A5,c5,rfl,_,_⟩:=HM5.out.slice
   have t7:=HQ5.out.dr.c 7
   have y7:=HQ5.out.dr.frozen 7
   have HQ6:=zY (HQ5.out.set 7 [.slice A5 m5.length c5] rfl ⟨SeqAt.nil _,HQ5.out.sq.c,HM5.out,HQ5.out.sq.h⟩)
   have HE6:=zY (HE5.out.far (p:=⟨w.heap.size+2,7,none⟩) (HGe.out) (.slice A5 m5.length c5))
   have HS6:=zY (HS5.out.far (p:=⟨w.heap.size+2,7,none⟩) (HGs.out) (.slice A5 m5.length c5))
   go_upto_region 16 with fail
   obtain⟨wu,hwu⟩:=zNm (setAll w5 (w.heap.size+2) 7 [.slice A5 m5.length c5])
   change w5.setCell ⟨w.heap.size+2,7,none⟩ (.slice A5 m5.length c5)=wu at hwu
   change Hid (StI w (w5.setCell ⟨w.heap.size+2,7,none⟩ (.slice A5 m5.length c5)) _ _ _ _ _ _ _ _ _ _ _)at HQ6
   rw[hwu]at HQ6 HE6 HS6⊢
   clear hwu t7 y7 HQ5 HE5 HS5
   have HB:=zY (apply38_any wu (.slice Ah H.length ch) H 1000000 (Nat.le_refl _) HQ6.out.sq.h (by have:=HHl.out;have:=HNi.out;omega) HHb.out k path tgt dig Aa Ax na ca nx cx size Heb.out.path Heb.out.tgt date)
   have t8:=HQ6.out.dr.c 8
   have g0:=HE6.out.c 0
   have g1:=HE6.out.c 1
   have g2:=HE6.out.c 2
   have g3:=HE6.out.c 3
   have g4:=HE6.out.c 4
   have g5:=HE6.out.c 5
   have g6:=HE6.out.c 6
   have s1:=HS6.out.c 1
   go_wp2_with fail
   refine HB.out.mono ?_
   rintro r6 w6 ⟨⟨v6,m6,n6,rfl,hm6,hl6,hx6⟩,hb6⟩
   have HQ7:=zY (HQ6.out.below hb6)
   have HS7:=zY (HS6.out.kept hb6)
   have HM6:=zY hm6
   have HL6:=zY hl6
   have HX6:=zY hx6
   clear hm6 hl6 hx6 t8 g0 g1 g2 g3 g4 g5 g6 s1 HB hb6
   obtain⟨A6,c6,rfl,_,_⟩:=HM6.out.slice
   have t8:=HQ7.out.dr.c 8
   have y8:=HQ7.out.dr.frozen 8
   have HQ8:=zY (HQ7.out.set 8 [.slice A6 m6.length c6] rfl ⟨SeqAt.nil _,HQ7.out.sq.c,HQ7.out.sq.t,HM6.out⟩)
   have HS8:=zY (HS7.out.far (p:=⟨w.heap.size+2,8,none⟩) (HGs.out) (.slice A6 m6.length c6))
   go_wp2
   go_roundw
   case rel=>exact⟨j+1,_,_,_,C,sn,st,m5,m6,by omega,by go_num,HQ8.out,HS8.out,by have:=HCl.out;omega,by have:=HSl.out;omega,by have:=HTl.out;have:=HL5.out;omega,by have:=HHl.out;have:=HL6.out;omega,fun y hy=>by
    rcases HX5.out y hy with rfl|hy
    ·exact⟨_,Hxm.out,Hem.out⟩
    ·exact HTm.out y hy,HX6.out⟩
   case measure=>simp[intOf];omega}}
   {
   obtain rfl:j=ne:=by omega
   have hjI:¬((j:Nat):Int)<(j:Int):=by omega
   go_wp2
   go_roundw
   case rel=>exact⟨i+1,_,_,_,C,sn,st,T,H,by omega,by go_num,HP.out,by rw[HNx.out];exact HCl.out,by rw[HNx.out];exact HSl.out,by rw[HNx.out];exact HTl.out,by rw[HNx.out];exact HHl.out,HTm.out,HHb.out⟩
   case measure=>simp[intOf];omega}}
  {
  obtain rfl:i=L.length:=by omega
  have hiI:¬((L.length:Nat):Int)<(L.length:Int):=by omega
  rw[List.take_length]at HCl HSl HTl HHl
  have d0:=HP.out.dr.c 0
  have d1:=HP.out.dr.c 1
  have d2:=HP.out.dr.c 2
  have d3:=HP.out.dr.c 3
  have d4:=HP.out.dr.c 4
  have d5:=HP.out.dr.c 5
  have d6:=HP.out.dr.c 6
  have d7:=HP.out.dr.c 7
  have d8:=HP.out.dr.c 8
  have z0:=HP.out.rs.c 0
  have z1:=HP.out.rs.c 1
  have z2:=HP.out.rs.c 2
  have z3:=HP.out.rs.c 3
  have z4:=HP.out.rs.c 4
  have z5:=HP.out.rs.c 5
  have z6:=HP.out.rs.c 6
  have z7:=HP.out.rs.c 7
  have z8:=HP.out.rs.c 8
  have y0:=HP.out.rs.frozen 0
  have y1:=HP.out.rs.frozen 1
  have y2:=HP.out.rs.frozen 2
  have y3:=HP.out.rs.frozen 3
  have y4:=HP.out.rs.frozen 4
  have y5:=HP.out.rs.frozen 5
  have y6:=HP.out.rs.frozen 6
  have y7:=HP.out.rs.frozen 7
  have y8:=HP.out.rs.frozen 8
  have HW:=zY (HP.out.rs.setAll (i:=0) [.int .i64 0,.int .i64 0,.string ⟨#[]⟩,.slice none 0 0,.slice Ac C.length cc,.int .i64 sn,.string st,.slice At T.length ct,.slice Ah H.length ch])
  have HBw:=zY (below_setAll (g:=w.heap.size+1) (by omega) [.int .i64 0,.int .i64 0,.string ⟨#[]⟩,.slice none 0 0,.slice Ac C.length cc,.int .i64 sn,.string st,.slice At T.length ct,.slice Ah H.length ch] wx 0 HP.out.bl)
  have HDw:=zY (HP.out.sq.box HP.out.rs (grown_setAll (w.heap.size+1) [.int .i64 0,.int .i64 0,.string ⟨#[]⟩,.slice none 0 0,.slice Ac C.length cc,.int .i64 sn,.string st,.slice At T.length ct,.slice Ah H.length ch] wx 0) rfl)
  go_wp2_with fail
  refine bodyPost_ret (results_cell_row rfl _ _ (w.heap.size+1) 163 _ (0,0) _ rfl HW.out Tryz.underlying163 rfl (by kernel_rfl)) rfl ?_
  exact⟨⟨_,_,_,C,sn,st,T,H,rfl,HDw.out,HCl.out,HSl.out,HTl.out,HHl.out,HTm.out,HHb.out⟩,HBw.out⟩}
end
section
open Go.RowKit
def drV (num date:Int) (prev:ByteArray) (ve vc:Value) (sn:Int) (st:ByteArray) (vt vh:Value):Value:=.agg #[.int .i64 num,.int .i64 date,.string prev,ve,vc,.int .i64 sn,.string st,vt,vh]
def RetDr (w':World) (p:Int->Int->ByteArray->List Ent->List Cnk->ByteArray->List Ent->List Hol->Prop) (e:Ending):Prop:=∃(num date:Int) (prev:ByteArray) (ve vc vt vh:Value) (E:List Ent) (C:List Cnk) (sn:Int) (st:ByteArray) (T:List Ent) (H:List Hol) (k:Int),e=.returned (.tuple #[drV num date prev ve vc sn st vt vh,.int .i64 k]) /\
 DrA w' ve vc vt vh E C T H/\(k=0->p num date prev E C st T H)
theorem begin39_any (w:World) (id d s:Int) (v:Value) (L:List Ses) (hv:SeqAt sesS w v L) (hl:L.length<=200) (hN:entN L<=500) (hs:∀x∈L,SesOk x) (dt:Int):
  Calls Tryz.prog 80 #[.agg #[.int .u32 id,.int .i64 d,.int .i64 s,v],.int .i64 dt] w fun e w'=>RetDr w' (fun num date prev E C st T H=>num=L.length+1/\(0<=date/\date<=1000000000)/\(prev.size=0∨prev.size=32)/\E=[]/\C.length<=65536*entN L/\st.size<=65536*entN L/\T.length<=entN L/\H.length<=entN L/\(∀x∈T,∃y∈L,x∈y.ents)/\∀h∈H,h.p.size<=1000000) e/\Below w.heap.size w w':=by
 have HSt:=zY (fun(W:World) (h:Below w.heap.size w W)=>state39_any W id d s v L (hv.below h) hl hN hs)
 have HLa:=zY (fun(W:World) (h:Below w.heap.size w W)=>last39_any W id d s v L (hv.below h) (by omega) hs)
 obtain⟨A,c,rfl,h1,h2⟩:=hv.slice
 have hK:=Blk.new w 28 [.int .u32 id,.int .i64 d,.int .i64 s,.slice A L.length c]
 change Blk (w.alloc (.cells #[.int .u32 id,.int .i64 d,.int .i64 s,.slice A L.length c] 28)) _ _ _ at hK
 have hZ:=Blk.new (w.alloc (.cells #[.int .u32 id,.int .i64 d,.int .i64 s,.slice A L.length c] 28)) 163 [.int .i64 0,.int .i64 0,.string ⟨#[]⟩,.slice none 0 0,.slice none 0 0,.int .i64 0,.string ⟨#[]⟩,.slice none 0 0,.slice none 0 0]
 change Blk ((w.alloc (.cells #[.int .u32 id,.int .i64 d,.int .i64 s,.slice A L.length c] 28)).alloc (.cells #[.int .i64 0,.int .i64 0,.string ⟨#[]⟩,.slice none 0 0,.slice none 0 0,.int .i64 0,.string ⟨#[]⟩,.slice none 0 0,.slice none 0 0] 163)) _ _ _ at hZ
 rw[World.size_alloc]at hZ
 have hB1:=zBl w (.cells #[.int .u32 id,.int .i64 d,.int .i64 s,.slice A L.length c] 28)
 have HB:=zY (hB1.alloc hB1.size (.cells #[.int .i64 0,.int .i64 0,.string ⟨#[]⟩,.slice none 0 0,.slice none 0 0,.int .i64 0,.string ⟨#[]⟩,.slice none 0 0,.slice none 0 0] 163))
 have HK:=zY (hK.alloc (.cells #[.int .i64 0,.int .i64 0,.string ⟨#[]⟩,.slice none 0 0,.slice none 0 0,.int .i64 0,.string ⟨#[]⟩,.slice none 0 0,.slice none 0 0] 163))
 have HZ:=zY hZ
 have Hv:=zY (hv.below HB.out)
 have Hs:=zY hs
 have HN:=zY hN
 clear hK hZ hB1 hv hs hN
 go_enter Tryz.func80,Tryz.ntmps80
 go_upto_region 1 with fail
 generalize ((w.alloc (.cells #[.int .u32 id,.int .i64 d,.int .i64 s,.slice A L.length c] 28)).alloc (.cells #[.int .i64 0,.int .i64 0,.string ⟨#[]⟩,.slice none 0 0,.slice none 0 0,.int .i64 0,.string ⟨#[]⟩,.slice none 0 0,.slice none 0 0] 163))=wa at *
 have HWz:=zY (HZ.out.setAll (i:=0) [.int .i64 0,.int .i64 0,.string ⟨#[]⟩,.slice none 0 0,.slice none 0 0,.int .i64 0,.string ⟨#[]⟩,.slice none 0 0,.slice none 0 0])
 have HBz:=zY (below_setAll (g:=w.heap.size+1) (by omega) [.int .i64 0,.int .i64 0,.string ⟨#[]⟩,.slice none 0 0,.slice none 0 0,.int .i64 0,.string ⟨#[]⟩,.slice none 0 0,.slice none 0 0] wa 0 HB.out)
 have a0:=HK.out.c 0
 have a1:=HK.out.c 1
 have a2:=HK.out.c 2
 have a3:=HK.out.c 3
 have z0:=HZ.out.c 0
 have y0:=HZ.out.frozen 0
 have z1:=HZ.out.c 1
 have y1:=HZ.out.frozen 1
 have z2:=HZ.out.c 2
 have y2:=HZ.out.frozen 2
 have z3:=HZ.out.c 3
 have y3:=HZ.out.frozen 3
 have z4:=HZ.out.c 4
 have y4:=HZ.out.frozen 4
 have z5:=HZ.out.c 5
 have y5:=HZ.out.frozen 5
 have z6:=HZ.out.c 6
 have y6:=HZ.out.frozen 6
 have z7:=HZ.out.c 7
 have y7:=HZ.out.frozen 7
 have z8:=HZ.out.c 8
 have y8:=HZ.out.frozen 8
 have hlI:¬(255:Int)<=L.length:=by omega
 by_cases h0:dt<0
 {
 go_wp2_with fail
 refine bodyPost_ret (results_row_tmp rfl _ _ (w.heap.size+1) 163 _ (0,0) _ rfl HWz.out Tryz.underlying163 rfl (by kernel_rfl)) rfl ?_
 exact⟨⟨0,0,⟨#[]⟩,_,_,_,_,[],[],0,⟨#[]⟩,[],[],2,rfl,DrA.nil _,fun h=>by cases h⟩,HBz.out⟩}
 {
 by_cases h3:1000000000<dt
 {
 go_wp2_with fail
 refine bodyPost_ret (results_row_tmp rfl _ _ (w.heap.size+1) 163 _ (0,0) _ rfl HWz.out Tryz.underlying163 rfl (by kernel_rfl)) rfl ?_
 exact⟨⟨0,0,⟨#[]⟩,_,_,_,_,[],[],0,⟨#[]⟩,[],[],2,rfl,DrA.nil _,fun h=>by cases h⟩,HBz.out⟩}
 {
 by_cases h4:L.length=0
 {
 have f4:¬(0:Int)<L.length:=by omega
 have f5:¬0<L.length:=by omega
 clear h4
 go_wp2_with fail
 refine(HSt.out _ HB.out).mono ?_
 rintro e1 w1 ⟨⟨vc,vt,vh,C,sn,st,T,H,rfl,hs1,hc1,hst1,ht1,hh1,htm,hhb⟩,hb1⟩
 have HA1:=zY hs1
 have HC1:=zY hc1
 have HS1:=zY hst1
 have HT1:=zY ht1
 have HH1:=zY hh1
 have HTm:=zY htm
 have HHb:=zY hhb
 have HK1:=zY (HK.out.kept hb1)
 have HZ1:=zY (HZ.out.kept hb1)
 have HB1:=zYt HB hb1
 clear hs1 hc1 hst1 ht1 hh1 htm hhb hb1 z0 y0 z1 y1 z2 y2 z3 y3 z4 y4 z5 y5 z6 y6 z7 y7 z8 y8 a0 a1 a2 a3 HK HZ HB HWz HBz
 obtain⟨Ac,cc,rfl,_,_⟩:=HA1.out.c.slice
 obtain⟨At,ct,rfl,_,_⟩:=HA1.out.t.slice
 obtain⟨Ah,ch,rfl,_,_⟩:=HA1.out.h.slice
 have hD:=Blk.new w1 163 [.int .i64 0,.int .i64 0,.string ⟨#[]⟩,.slice none 0 0,.slice Ac C.length cc,.int .i64 sn,.string st,.slice At T.length ct,.slice Ah H.length ch]
 change Blk (w1.alloc (.cells #[.int .i64 0,.int .i64 0,.string ⟨#[]⟩,.slice none 0 0,.slice Ac C.length cc,.int .i64 sn,.string st,.slice At T.length ct,.slice Ah H.length ch] 163)) _ _ _ at hD
 have HD2:=zY hD
 have HA2:=zY (HA1.out.below (zBl w1 (.cells #[.int .i64 0,.int .i64 0,.string ⟨#[]⟩,.slice none 0 0,.slice Ac C.length cc,.int .i64 sn,.string st,.slice At T.length ct,.slice Ah H.length ch] 163)))
 have HK2:=zY (HK1.out.alloc (.cells #[.int .i64 0,.int .i64 0,.string ⟨#[]⟩,.slice none 0 0,.slice Ac C.length cc,.int .i64 sn,.string st,.slice At T.length ct,.slice Ah H.length ch] 163))
 have HZ2:=zY (HZ1.out.alloc (.cells #[.int .i64 0,.int .i64 0,.string ⟨#[]⟩,.slice none 0 0,.slice Ac C.length cc,.int .i64 sn,.string st,.slice At T.length ct,.slice Ah H.length ch] 163))
 have HB2:=zY (HB1.out.alloc HB1.out.size (.cells #[.int .i64 0,.int .i64 0,.string ⟨#[]⟩,.slice none 0 0,.slice Ac C.length cc,.int .i64 sn,.string st,.slice At T.length ct,.slice Ah H.length ch] 163))
 have HGd:Hid (w.heap.size+1<w1.heap.size):=zY HZ1.out.lt
 clear hD
 go_upto_region 9 with fail
 generalize w1.alloc (.cells #[.int .i64 0,.int .i64 0,.string ⟨#[]⟩,.slice none 0 0,.slice Ac C.length cc,.int .i64 sn,.string st,.slice At T.length ct,.slice Ah H.length ch] 163)=w2 at *
 generalize w1.heap.size=gd at *
 have a0:=HK2.out.c 0
 have a1:=HK2.out.c 1
 have a2:=HK2.out.c 2
 have a3:=HK2.out.c 3
 have hlw:IntKind.i64.wrap ((L.length:Int)+1)=(L.length:Int)+1:=zIw (by omega)
 go_wp2_with fail
 refine(HLa.out _ HB2.out).mono ?_
 rintro e3 w3 ⟨⟨p,rfl,hp⟩,hb3⟩
 have Hp:=zY hp
 have HD3:=zY (HD2.out.kept hb3)
 have HA3:=zY (HA2.out.below hb3)
 have HZ3:=zY (HZ2.out.kept hb3)
 have HB3:=zYt HB2 hb3
 clear hp hb3 a0 a1 a2 a3 HD2 HA2 HK2 HZ2 HB2 HA1 HK1 HZ1 HB1
 have d0:=HD3.out.c 0
 have d1:=HD3.out.c 1
 have d2:=HD3.out.c 2
 have y0:=HD3.out.frozen 0
 have y1:=HD3.out.frozen 1
 have y2:=HD3.out.frozen 2
 go_upto_region 10 with fail
 have HD4:Hid (Blk (((w3.setCell ⟨gd,0,none⟩ (.int .i64 (L.length+1:Int))).setCell ⟨gd,1,none⟩ (.int .i64 dt)).setCell ⟨gd,2,none⟩ (.string p)) gd 163 [.int .i64 (L.length+1:Int),.int .i64 dt,.string p,.slice none 0 0,.slice Ac C.length cc,.int .i64 sn,.string st,.slice At T.length ct,.slice Ah H.length ch]):=zY (HD3.out.setAll (i:=0) [.int .i64 (L.length+1:Int),.int .i64 dt,.string p])
 have HG4:Hid (w3.grownBy (((w3.setCell ⟨gd,0,none⟩ (.int .i64 (L.length+1:Int))).setCell ⟨gd,1,none⟩ (.int .i64 dt)).setCell ⟨gd,2,none⟩ (.string p)) (some gd)):=zY (grown_setAll gd [.int .i64 (L.length+1:Int),.int .i64 dt,.string p] w3 0)
 have HB4:Hid (Below w.heap.size w (((w3.setCell ⟨gd,0,none⟩ (.int .i64 (L.length+1:Int))).setCell ⟨gd,1,none⟩ (.int .i64 dt)).setCell ⟨gd,2,none⟩ (.string p))):=zY (below_setAll (g:=gd) (by have:=HGd.out;omega) [.int .i64 (L.length+1:Int),.int .i64 dt,.string p] w3 0 HB3.out)
 generalize (((w3.setCell ⟨gd,0,none⟩ (.int .i64 (L.length+1:Int))).setCell ⟨gd,1,none⟩ (.int .i64 dt)).setCell ⟨gd,2,none⟩ (.string p))=w4 at *
 have HA4:=zY (HA3.out.box HD3.out HG4.out rfl)
 have HZ4:=zY (HZ3.out.grownN HG4.out (by have:=HGd.out;omega))
 clear d0 d1 d2 y0 y1 y2 HD3 HA3 HZ3 HB3 HG4
 have d4:=HD4.out.c 4
 have d5:=HD4.out.c 5
 have d6:=HD4.out.c 6
 have HBe:=zY (begin35_any w4 Ac C.length cc sn st ((L.length:Int)+1))
 go_wp2_with fail
 refine HBe.out.mono ?_
 rintro e5 w5 ⟨⟨sn2,st2,n2,rfl,hst2⟩,hb5⟩
 have Hst2:=zY hst2
 have HD5:=zY (HD4.out.kept hb5)
 have HA5:=zY (HA4.out.below hb5)
 have HZ5:=zY (HZ4.out.kept hb5)
 have HB5:=zYt HB4 hb5
 clear hst2 hb5 d4 d5 d6 HD4 HA4 HZ4 HB4 HBe
 have d4:=HD5.out.c 4
 have d5:=HD5.out.c 5
 have d6:=HD5.out.c 6
 have y4:=HD5.out.frozen 4
 have y5:=HD5.out.frozen 5
 have y6:=HD5.out.frozen 6
 go_upto_region 11 with fail
 have HD6:Hid (Blk (((w5.setCell ⟨gd,4,none⟩ (.slice Ac C.length cc)).setCell ⟨gd,5,none⟩ (.int .i64 sn2)).setCell ⟨gd,6,none⟩ (.string st2)) gd 163 [.int .i64 (L.length+1:Int),.int .i64 dt,.string p,.slice none 0 0,.slice Ac C.length cc,.int .i64 sn2,.string st2,.slice At T.length ct,.slice Ah H.length ch]):=zY (HD5.out.setAll (i:=4) [.slice Ac C.length cc,.int .i64 sn2,.string st2])
 have HG6:Hid (w5.grownBy (((w5.setCell ⟨gd,4,none⟩ (.slice Ac C.length cc)).setCell ⟨gd,5,none⟩ (.int .i64 sn2)).setCell ⟨gd,6,none⟩ (.string st2)) (some gd)):=zY (grown_setAll gd [.slice Ac C.length cc,.int .i64 sn2,.string st2] w5 4)
 have HB6:Hid (Below w.heap.size w (((w5.setCell ⟨gd,4,none⟩ (.slice Ac C.length cc)).setCell ⟨gd,5,none⟩ (.int .i64 sn2)).setCell ⟨gd,6,none⟩ (.string st2))):=zY (below_setAll (g:=gd) (by have:=HGd.out;omega) [.slice Ac C.length cc,.int .i64 sn2,.string st2] w5 4 HB5.out)
 generalize (((w5.setCell ⟨gd,4,none⟩ (.slice Ac C.length cc)).setCell ⟨gd,5,none⟩ (.int .i64 sn2)).setCell ⟨gd,6,none⟩ (.string st2))=w6 at *
 have HA6:=zY (HA5.out.box HD5.out HG6.out rfl)
 have HZ6:=zY (HZ5.out.grownN HG6.out (by have:=HGd.out;omega))
 clear d4 d5 d6 y4 y5 y6 HD5 HA5 HZ5 HB5 HG6
 have d8:=HD6.out.c 8
 have HAc:=zY (active_any w6 _ H HA6.out.h (by have:=HH1.out;have:=HN.out;omega) dt)
 go_wp2_with fail
 refine HAc.out.mono ?_
 rintro e7 w7 ⟨⟨v5,l5,rfl,ho5,hn5,hm5⟩,hb7⟩
 have HH5:=zY (ho5.at hb7)
 have Hn5:=zY hn5
 have Hm5:=zY hm5
 have HD7:=zY (HD6.out.kept hb7)
 have HA7:=zY (HA6.out.below hb7)
 have HZ7:=zY (HZ6.out.kept hb7)
 have HB7:=zYt HB6 hb7
 clear ho5 hn5 hm5 hb7 d8 HD6 HA6 HZ6 HB6 HAc
 obtain⟨A5,c5,rfl,_,_⟩:=HH5.out.slice
 have d8:=HD7.out.c 8
 have y8:=HD7.out.frozen 8
 go_upto_region 12 with fail
 have HD8:Hid (Blk (w7.setCell ⟨gd,8,none⟩ (.slice A5 l5.length c5)) gd 163 [.int .i64 (L.length+1:Int),.int .i64 dt,.string p,.slice none 0 0,.slice Ac C.length cc,.int .i64 sn2,.string st2,.slice At T.length ct,.slice A5 l5.length c5]):=zY (HD7.out.setAll (i:=8) [.slice A5 l5.length c5])
 have HG8:Hid (w7.grownBy (w7.setCell ⟨gd,8,none⟩ (.slice A5 l5.length c5)) (some gd)):=zY (grown_setAll gd [.slice A5 l5.length c5] w7 8)
 have HB8:Hid (Below w.heap.size w (w7.setCell ⟨gd,8,none⟩ (.slice A5 l5.length c5))):=zY (below_setAll (g:=gd) (by have:=HGd.out;omega) [.slice A5 l5.length c5] w7 8 HB7.out)
 generalize (w7.setCell ⟨gd,8,none⟩ (.slice A5 l5.length c5))=w8 at *
 have HA8:Hid (DrA w8 _ _ _ _ [] C T l5):=zY ((⟨HA7.out.e,HA7.out.c,HA7.out.t,HH5.out⟩:DrA w7 _ _ _ _ [] C T l5).box HD7.out HG8.out rfl)
 have HZ8:=zY (HZ7.out.grownN HG8.out (by have:=HGd.out;omega))
 clear d8 y8 HD7 HA7 HZ7 HB7 HG8 HH5
 have d0:=HD8.out.c 0
 have d1:=HD8.out.c 1
 have d2:=HD8.out.c 2
 have d3:=HD8.out.c 3
 have d4:=HD8.out.c 4
 have d5:=HD8.out.c 5
 have d6:=HD8.out.c 6
 have d7:=HD8.out.c 7
 have d8:=HD8.out.c 8
 have z0:=HZ8.out.c 0
 have z1:=HZ8.out.c 1
 have z2:=HZ8.out.c 2
 have z3:=HZ8.out.c 3
 have z4:=HZ8.out.c 4
 have z5:=HZ8.out.c 5
 have z6:=HZ8.out.c 6
 have z7:=HZ8.out.c 7
 have z8:=HZ8.out.c 8
 have y0:=HZ8.out.frozen 0
 have y1:=HZ8.out.frozen 1
 have y2:=HZ8.out.frozen 2
 have y3:=HZ8.out.frozen 3
 have y4:=HZ8.out.frozen 4
 have y5:=HZ8.out.frozen 5
 have y6:=HZ8.out.frozen 6
 have y7:=HZ8.out.frozen 7
 have y8:=HZ8.out.frozen 8
 have HW:=zY (HZ8.out.setAll (i:=0) [.int .i64 (L.length+1:Int),.int .i64 dt,.string p,.slice none 0 0,.slice Ac C.length cc,.int .i64 sn2,.string st2,.slice At T.length ct,.slice A5 l5.length c5])
 have HBw:=zY (below_setAll (g:=w.heap.size+1) (by omega) [.int .i64 (L.length+1:Int),.int .i64 dt,.string p,.slice none 0 0,.slice Ac C.length cc,.int .i64 sn2,.string st2,.slice At T.length ct,.slice A5 l5.length c5] w8 0 HB8.out)
 have HDw:=zY (HA8.out.box HZ8.out (grown_setAll (w.heap.size+1) [.int .i64 (L.length+1:Int),.int .i64 dt,.string p,.slice none 0 0,.slice Ac C.length cc,.int .i64 sn2,.string st2,.slice At T.length ct,.slice A5 l5.length c5] w8 0) rfl)
 go_wp2_with fail
 refine bodyPost_ret (results_row_tmp rfl _ _ (w.heap.size+1) 163 _ (0,0) _ rfl HW.out Tryz.underlying163 rfl (by kernel_rfl)) rfl ?_
 exact⟨⟨_,_,_,_,_,_,_,[],C,sn2,st2,T,l5,0,rfl,HDw.out,fun _=>⟨rfl,⟨by omega,by omega⟩,Hp.out,rfl,HC1.out,by have:=HS1.out;have:=Hst2.out;omega,HT1.out,by have:=HH1.out;have:=Hn5.out;omega,HTm.out,fun h hh=>HHb.out h (Hm5.out h hh)⟩⟩,HBw.out⟩}
 {
 obtain⟨m,hm⟩:∃m,L.length=m+1:=⟨L.length-1,by omega⟩
 have f4:(0:Int)<L.length:=by omega
 have f5:0<L.length:=by omega
 have hmI:(L.length:Int)-1=m:=by omega
 have hml:m<L.length:=by omega
 have hmL:(m:Int)<L.length:=by omega
 clear hm h4
 obtain⟨x,hx⟩:∃x,L[m]?=some x:=⟨_,List.getElem?_eq_getElem hml⟩
 obtain⟨_,_,e9,_,_,h44⟩:=Hv.out
 cases e9
 obtain⟨b,o,cs,rfl,⟨ve,rfl,hve⟩,hc⟩:=h44 m x hx
 have x1:wa.cell? ⟨b,o+m*6+1,none⟩=some (.int .i64 x.date):=hc 1 _ rfl
 generalize x.date=xd at *
 clear hc h44 hx hve
 by_cases h6:dt<xd
 {
 go_wp2_with fail
 refine bodyPost_ret (results_row_tmp rfl _ _ (w.heap.size+1) 163 _ (0,0) _ rfl HWz.out Tryz.underlying163 rfl (by kernel_rfl)) rfl ?_
 exact⟨⟨0,0,⟨#[]⟩,_,_,_,_,[],[],0,⟨#[]⟩,[],[],14,rfl,DrA.nil _,fun h=>by cases h⟩,HBz.out⟩}
 {
 go_upto_region 8 with fail
 clear x1
 go_wp2_with fail
 refine(HSt.out _ HB.out).mono ?_
 rintro e1 w1 ⟨⟨vc,vt,vh,C,sn,st,T,H,rfl,hs1,hc1,hst1,ht1,hh1,htm,hhb⟩,hb1⟩
 have HA1:=zY hs1
 have HC1:=zY hc1
 have HS1:=zY hst1
 have HT1:=zY ht1
 have HH1:=zY hh1
 have HTm:=zY htm
 have HHb:=zY hhb
 have HK1:=zY (HK.out.kept hb1)
 have HZ1:=zY (HZ.out.kept hb1)
 have HB1:=zYt HB hb1
 clear hs1 hc1 hst1 ht1 hh1 htm hhb hb1 z0 y0 z1 y1 z2 y2 z3 y3 z4 y4 z5 y5 z6 y6 z7 y7 z8 y8 a0 a1 a2 a3 HK HZ HB HWz HBz
 obtain⟨Ac,cc,rfl,_,_⟩:=HA1.out.c.slice
 obtain⟨At,ct,rfl,_,_⟩:=HA1.out.t.slice
 obtain⟨Ah,ch,rfl,_,_⟩:=HA1.out.h.slice
 have hD:=Blk.new w1 163 [.int .i64 0,.int .i64 0,.string ⟨#[]⟩,.slice none 0 0,.slice Ac C.length cc,.int .i64 sn,.string st,.slice At T.length ct,.slice Ah H.length ch]
 change Blk (w1.alloc (.cells #[.int .i64 0,.int .i64 0,.string ⟨#[]⟩,.slice none 0 0,.slice Ac C.length cc,.int .i64 sn,.string st,.slice At T.length ct,.slice Ah H.length ch] 163)) _ _ _ at hD
 have HD2:=zY hD
 have HA2:=zY (HA1.out.below (zBl w1 (.cells #[.int .i64 0,.int .i64 0,.string ⟨#[]⟩,.slice none 0 0,.slice Ac C.length cc,.int .i64 sn,.string st,.slice At T.length ct,.slice Ah H.length ch] 163)))
 have HK2:=zY (HK1.out.alloc (.cells #[.int .i64 0,.int .i64 0,.string ⟨#[]⟩,.slice none 0 0,.slice Ac C.length cc,.int .i64 sn,.string st,.slice At T.length ct,.slice Ah H.length ch] 163))
 have HZ2:=zY (HZ1.out.alloc (.cells #[.int .i64 0,.int .i64 0,.string ⟨#[]⟩,.slice none 0 0,.slice Ac C.length cc,.int .i64 sn,.string st,.slice At T.length ct,.slice Ah H.length ch] 163))
 have HB2:=zY (HB1.out.alloc HB1.out.size (.cells #[.int .i64 0,.int .i64 0,.string ⟨#[]⟩,.slice none 0 0,.slice Ac C.length cc,.int .i64 sn,.string st,.slice At T.length ct,.slice Ah H.length ch] 163))
 have HGd:Hid (w.heap.size+1<w1.heap.size):=zY HZ1.out.lt
 clear hD
 go_upto_region 9 with fail
 generalize w1.alloc (.cells #[.int .i64 0,.int .i64 0,.string ⟨#[]⟩,.slice none 0 0,.slice Ac C.length cc,.int .i64 sn,.string st,.slice At T.length ct,.slice Ah H.length ch] 163)=w2 at *
 generalize w1.heap.size=gd at *
 have a0:=HK2.out.c 0
 have a1:=HK2.out.c 1
 have a2:=HK2.out.c 2
 have a3:=HK2.out.c 3
 have hlw:IntKind.i64.wrap ((L.length:Int)+1)=(L.length:Int)+1:=zIw (by omega)
 go_wp2_with fail
 refine(HLa.out _ HB2.out).mono ?_
 rintro e3 w3 ⟨⟨p,rfl,hp⟩,hb3⟩
 have Hp:=zY hp
 have HD3:=zY (HD2.out.kept hb3)
 have HA3:=zY (HA2.out.below hb3)
 have HZ3:=zY (HZ2.out.kept hb3)
 have HB3:=zYt HB2 hb3
 clear hp hb3 a0 a1 a2 a3 HD2 HA2 HK2 HZ2 HB2 HA1 HK1 HZ1 HB1
 have d0:=HD3.out.c 0
 have d1:=HD3.out.c 1
 have d2:=HD3.out.c 2
 have y0:=HD3.out.frozen 0
 have y1:=HD3.out.frozen 1
 have y2:=HD3.out.frozen 2
 go_upto_region 10 with fail
 have HD4:Hid (Blk (((w3.setCell ⟨gd,0,none⟩ (.int .i64 (L.length+1:Int))).setCell ⟨gd,1,none⟩ (.int .i64 dt)).setCell ⟨gd,2,none⟩ (.string p)) gd 163 [.int .i64 (L.length+1:Int),.int .i64 dt,.string p,.slice none 0 0,.slice Ac C.length cc,.int .i64 sn,.string st,.slice At T.length ct,.slice Ah H.length ch]):=zY (HD3.out.setAll (i:=0) [.int .i64 (L.length+1:Int),.int .i64 dt,.string p])
 have HG4:Hid (w3.grownBy (((w3.setCell ⟨gd,0,none⟩ (.int .i64 (L.length+1:Int))).setCell ⟨gd,1,none⟩ (.int .i64 dt)).setCell ⟨gd,2,none⟩ (.string p)) (some gd)):=zY (grown_setAll gd [.int .i64 (L.length+1:Int),.int .i64 dt,.string p] w3 0)
 have HB4:Hid (Below w.heap.size w (((w3.setCell ⟨gd,0,none⟩ (.int .i64 (L.length+1:Int))).setCell ⟨gd,1,none⟩ (.int .i64 dt)).setCell ⟨gd,2,none⟩ (.string p))):=zY (below_setAll (g:=gd) (by have:=HGd.out;omega) [.int .i64 (L.length+1:Int),.int .i64 dt,.string p] w3 0 HB3.out)
 generalize (((w3.setCell ⟨gd,0,none⟩ (.int .i64 (L.length+1:Int))).setCell ⟨gd,1,none⟩ (.int .i64 dt)).setCell ⟨gd,2,none⟩ (.string p))=w4 at *
 have HA4:=zY (HA3.out.box HD3.out HG4.out rfl)
 have HZ4:=zY (HZ3.out.grownN HG4.out (by have:=HGd.out;omega))
 clear d0 d1 d2 y0 y1 y2 HD3 HA3 HZ3 HB3 HG4
 have d4:=HD4.out.c 4
 have d5:=HD4.out.c 5
 have d6:=HD4.out.c 6
 have HBe:=zY (begin35_any w4 Ac C.length cc sn st ((L.length:Int)+1))
 go_wp2_with fail
 refine HBe.out.mono ?_
 rintro e5 w5 ⟨⟨sn2,st2,n2,rfl,hst2⟩,hb5⟩
 have Hst2:=zY hst2
 have HD5:=zY (HD4.out.kept hb5)
 have HA5:=zY (HA4.out.below hb5)
 have HZ5:=zY (HZ4.out.kept hb5)
 have HB5:=zYt HB4 hb5
 clear hst2 hb5 d4 d5 d6 HD4 HA4 HZ4 HB4 HBe
 have d4:=HD5.out.c 4
 have d5:=HD5.out.c 5
 have d6:=HD5.out.c 6
 have y4:=HD5.out.frozen 4
 have y5:=HD5.out.frozen 5
 have y6:=HD5.out.frozen 6
 go_upto_region 11 with fail
 have HD6:Hid (Blk (((w5.setCell ⟨gd,4,none⟩ (.slice Ac C.length cc)).setCell ⟨gd,5,none⟩ (.int .i64 sn2)).setCell ⟨gd,6,none⟩ (.string st2)) gd 163 [.int .i64 (L.length+1:Int),.int .i64 dt,.string p,.slice none 0 0,.slice Ac C.length cc,.int .i64 sn2,.string st2,.slice At T.length ct,.slice Ah H.length ch]):=zY (HD5.out.setAll (i:=4) [.slice Ac C.length cc,.int .i64 sn2,.string st2])
 have HG6:Hid (w5.grownBy (((w5.setCell ⟨gd,4,none⟩ (.slice Ac C.length cc)).setCell ⟨gd,5,none⟩ (.int .i64 sn2)).setCell ⟨gd,6,none⟩ (.string st2)) (some gd)):=zY (grown_setAll gd [.slice Ac C.length cc,.int .i64 sn2,.string st2] w5 4)
 have HB6:Hid (Below w.heap.size w (((w5.setCell ⟨gd,4,none⟩ (.slice Ac C.length cc)).setCell ⟨gd,5,none⟩ (.int .i64 sn2)).setCell ⟨gd,6,none⟩ (.string st2))):=zY (below_setAll (g:=gd) (by have:=HGd.out;omega) [.slice Ac C.length cc,.int .i64 sn2,.string st2] w5 4 HB5.out)
 generalize (((w5.setCell ⟨gd,4,none⟩ (.slice Ac C.length cc)).setCell ⟨gd,5,none⟩ (.int .i64 sn2)).setCell ⟨gd,6,none⟩ (.string st2))=w6 at *
 have HA6:=zY (HA5.out.box HD5.out HG6.out rfl)
 have HZ6:=zY (HZ5.out.grownN HG6.out (by have:=HGd.out;omega))
 clear d4 d5 d6 y4 y5 y6 HD5 HA5 HZ5 HB5 HG6
 have d8:=HD6.out.c 8
 have HAc:=zY (active_any w6 _ H HA6.out.h (by have:=HH1.out;have:=HN.out;omega) dt)
 go_wp2_with fail
 refine HAc.out.mono ?_
 rintro e7 w7 ⟨⟨v5,l5,rfl,ho5,hn5,hm5⟩,hb7⟩
 have HH5:=zY (ho5.at hb7)
 have Hn5:=zY hn5
 have Hm5:=zY hm5
 have HD7:=zY (HD6.out.kept hb7)
 have HA7:=zY (HA6.out.below hb7)
 have HZ7:=zY (HZ6.out.kept hb7)
 have HB7:=zYt HB6 hb7
 clear ho5 hn5 hm5 hb7 d8 HD6 HA6 HZ6 HB6 HAc
 obtain⟨A5,c5,rfl,_,_⟩:=HH5.out.slice
 have d8:=HD7.out.c 8
 have y8:=HD7.out.frozen 8
 go_upto_region 12 with fail
 have HD8:Hid (Blk (w7.setCell ⟨gd,8,none⟩ (.slice A5 l5.length c5)) gd 163 [.int .i64 (L.length+1:Int),.int .i64 dt,.string p,.slice none 0 0,.slice Ac C.length cc,.int .i64 sn2,.string st2,.slice At T.length ct,.slice A5 l5.length c5]):=zY (HD7.out.setAll (i:=8) [.slice A5 l5.length c5])
 have HG8:Hid (w7.grownBy (w7.setCell ⟨gd,8,none⟩ (.slice A5 l5.length c5)) (some gd)):=zY (grown_setAll gd [.slice A5 l5.length c5] w7 8)
 have HB8:Hid (Below w.heap.size w (w7.setCell ⟨gd,8,none⟩ (.slice A5 l5.length c5))):=zY (below_setAll (g:=gd) (by have:=HGd.out;omega) [.slice A5 l5.length c5] w7 8 HB7.out)
 generalize (w7.setCell ⟨gd,8,none⟩ (.slice A5 l5.length c5))=w8 at *
 have HA8:Hid (DrA w8 _ _ _ _ [] C T l5):=zY ((⟨HA7.out.e,HA7.out.c,HA7.out.t,HH5.out⟩:DrA w7 _ _ _ _ [] C T l5).box HD7.out HG8.out rfl)
 have HZ8:=zY (HZ7.out.grownN HG8.out (by have:=HGd.out;omega))
 clear d8 y8 HD7 HA7 HZ7 HB7 HG8 HH5
 have d0:=HD8.out.c 0
 have d1:=HD8.out.c 1
 have d2:=HD8.out.c 2
 have d3:=HD8.out.c 3
 have d4:=HD8.out.c 4
 have d5:=HD8.out.c 5
 have d6:=HD8.out.c 6
 have d7:=HD8.out.c 7
 have d8:=HD8.out.c 8
 have z0:=HZ8.out.c 0
 have z1:=HZ8.out.c 1
 have z2:=HZ8.out.c 2
 have z3:=HZ8.out.c 3
 have z4:=HZ8.out.c 4
 have z5:=HZ8.out.c 5
 have z6:=HZ8.out.c 6
 have z7:=HZ8.out.c 7
 have z8:=HZ8.out.c 8
 have y0:=HZ8.out.frozen 0
 have y1:=HZ8.out.frozen 1
 have y2:=HZ8.out.frozen 2
 have y3:=HZ8.out.frozen 3
 have y4:=HZ8.out.frozen 4
 have y5:=HZ8.out.frozen 5
 have y6:=HZ8.out.frozen 6
 have y7:=HZ8.out.frozen 7
 have y8:=HZ8.out.frozen 8
 have HW:=zY (HZ8.out.setAll (i:=0) [.int .i64 (L.length+1:Int),.int .i64 dt,.string p,.slice none 0 0,.slice Ac C.length cc,.int .i64 sn2,.string st2,.slice At T.length ct,.slice A5 l5.length c5])
 have HBw:=zY (below_setAll (g:=w.heap.size+1) (by omega) [.int .i64 (L.length+1:Int),.int .i64 dt,.string p,.slice none 0 0,.slice Ac C.length cc,.int .i64 sn2,.string st2,.slice At T.length ct,.slice A5 l5.length c5] w8 0 HB8.out)
 have HDw:=zY (HA8.out.box HZ8.out (grown_setAll (w.heap.size+1) [.int .i64 (L.length+1:Int),.int .i64 dt,.string p,.slice none 0 0,.slice Ac C.length cc,.int .i64 sn2,.string st2,.slice At T.length ct,.slice A5 l5.length c5] w8 0) rfl)
 go_wp2_with fail
 refine bodyPost_ret (results_row_tmp rfl _ _ (w.heap.size+1) 163 _ (0,0) _ rfl HW.out Tryz.underlying163 rfl (by kernel_rfl)) rfl ?_
 exact⟨⟨_,_,_,_,_,_,_,[],C,sn2,st2,T,l5,0,rfl,HDw.out,fun _=>⟨rfl,⟨by omega,by omega⟩,Hp.out,rfl,HC1.out,by have:=HS1.out;have:=Hst2.out;omega,HT1.out,by have:=HH1.out;have:=Hn5.out;omega,HTm.out,fun h hh=>HHb.out h (Hm5.out h hh)⟩⟩,HBw.out⟩}}}}
end
end Go.Proofs.YthgenkkkapilhaaGreatDoor
