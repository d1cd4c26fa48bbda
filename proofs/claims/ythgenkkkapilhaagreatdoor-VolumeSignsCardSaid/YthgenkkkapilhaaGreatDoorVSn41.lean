/-
  Joined: VpW.
-/
import Derived.Test.YthgenkkkapilhaaGreatDoorVSn24
import Derived.Test.YthgenkkkapilhaaGreatDoorVSn35
set_option linter.all false
set_option maxRecDepth 100000
set_option maxHeartbeats 64000000
namespace Go.Proofs.YthgenkkkapilhaaGreatDoor
section
open Go.RowKit
theorem Tryz.elemAtr:Elem Tryz.prog 89 93 2 32 (.agg #[.string ⟨#[]⟩,.string ⟨#[]⟩]):=⟨Tryz.underlying89,by kernel_rfl,rfl,by decide,by decide⟩
theorem grown_setRow (W:World) (g:Nat) (cs:Array Value):W.grownBy (W.setRow g cs) (some g):=
 ⟨rfl,rfl,rfl,by simp[World.setRow],fun k _ hk=>by
  have hne:g≠k:=fun e=>hk (by rw[e])
  simp[World.setRow,Array.getElem?_modify,hne]⟩
theorem Blk.setRow {W:World} {g:Nat} {t:TypeId} {us:List Value} (h:Blk W g t us) (cs:List Value):Blk (W.setRow g cs.toArray) g t cs:=setRow_heap _ _ _ _ _ _ h
theorem headL_small {e:Ent} (hp:e.path.size<=250) (ht:e.tgt.size<=250) (ha:e.attrs.length<=20) (hk:∀a∈e.attrs,a.k.size<=80/\a.v.size<=80):(headL e).length<=1000000:=by
 have h1:=nstL_len e.path (by omega)
 have h2:=nstL_len e.tgt (by omega)
 have h3:=numL_len e.attrs.length (by omega)
 have h4:=atrL_len (m:=80) (by omega) hk
 have h5:(bs (nameK e.k)).length<=10:=by
  unfold nameK
  repeat' split
  all_goals decide
 have h6:=nstL_len (nameK e.k) (by rw[<-bs_len];omega)
 rw[strB_size]at h1 h2 h3 h6
 rw[<-bs_len]at h6
 have h7:e.attrs.length*(2*80+44)<=20*(2*80+44):=Nat.mul_le_mul ha (Nat.le_refl _)
 rw[headL,List.length_append,List.length_append,List.length_append,List.length_append]
 omega
theorem EntB.small {e:Ent} (hok:EntOk e) (hp:e.path.size<=250) (ht:e.tgt.size<=250) (ha:e.attrs.length<=20) (hk:∀a∈e.attrs,a.k.size<=80/\a.v.size<=80) (hx:e.exts.length<=2000):EntB e:=
 ⟨hok,by omega,by omega,fun a h=>by have:=hk a h;omega,by omega,hx,headL_small hp ht ha hk,by
  have h1:=hok.dig
  by_cases h:e.k=1
  ·have:=h1.1 h;omega
  ·have:=h1.2 h;omega⟩
structure AdI (w W:World) (ge gs:Nat) (dc hc ec sc:List Value) (va:Value) (al:List Atr) (vx:Value) (xs:List Ext) (vc:Value) (C:List Cnk):Prop where
 dr:Blk W w.heap.size 163 dc
 ch:Blk W (w.heap.size+1) 91 hc
 rs:Blk W (w.heap.size+2) 163 [.int .i64 0,.int .i64 0,.string ⟨#[]⟩,.slice none 0 0,.slice none 0 0,.int .i64 0,.string ⟨#[]⟩,.slice none 0 0,.slice none 0 0]
 eb:Blk W ge 182 ec
 sb:Blk W gs 160 sc
 al:SeqAt atrS W va al
 xs:SeqAt extS W vx xs
 ck:SeqAt chkS W vc C
 bl:Below w.heap.size w W
 hg:w.heap.size+2<ge/\ge<gs
section
variable {w W W':World} {ge gs:Nat} {dc hc ec ec' sc sc':List Value} {va vx vx' vc vc':Value} {al:List Atr} {xs xs':List Ext} {C C':List Cnk}
theorem AdI.below (h:AdI w W ge gs dc hc ec sc va al vx xs vc C) (hb:Below W.heap.size W W'):AdI w W' ge gs dc hc ec sc va al vx xs vc C:=
 ⟨h.dr.kept hb,h.ch.kept hb,h.rs.kept hb,h.eb.kept hb,h.sb.kept hb,h.al.below hb,h.xs.below hb,h.ck.below hb,h.bl.trans (hb.mono h.bl.size),h.hg⟩
theorem AdI.setE (h:AdI w W ge gs dc hc ec sc va al vx xs vc C) (hk:ec.map kd=[1,3,4,3,1,3,4]) (i:Nat) (us:List Value) (he:lset ec i us=ec'):AdI w (setAll W ge i us) ge gs dc hc ec' sc va al vx xs vc C:=by
 have hg:=grown_setAll ge us W i
 have h1:=h.hg
 have hb:Box W ge [1,3,4,3,1,3,4]:=⟨_,_,h.eb,hk⟩
 exact⟨h.dr.grownN hg (by omega),h.ch.grownN hg (by omega),h.rs.grownN hg (by omega),he▸h.eb.setAll us,h.sb.grownN hg (by omega),off_atr rfl W _ ge _ _ hb hg h.al,off_ext rfl W _ ge _ _ hb hg h.xs,off_chk rfl W _ ge _ _ hb hg h.ck,below_setAll (by omega) us W i h.bl,h.hg⟩
theorem AdI.setS (h:AdI w W ge gs dc hc ec sc va al vx xs vc C) (hk:sc.map kd=[4,1,3]) (us:List Value) (he:lset sc 0 us=sc') (hC:SeqAt chkS W vc' C'):AdI w (setAll W gs 0 us) ge gs dc hc ec sc' va al vx xs vc' C':=by
 have hg:=grown_setAll gs us W 0
 have h1:=h.hg
 have hb:Box W gs [4,1,3]:=⟨_,_,h.sb,hk⟩
 exact⟨h.dr.grownN hg (by omega),h.ch.grownN hg (by omega),h.rs.grownN hg (by omega),h.eb.grownN hg (by omega),he▸h.sb.setAll us,off_atr rfl W _ gs _ _ hb hg h.al,off_ext rfl W _ gs _ _ hb hg h.xs,off_chk rfl W _ gs _ _ hb hg hC,below_setAll (by omega) us W 0 h.bl,h.hg⟩
theorem AdI.withX (h:AdI w W ge gs dc hc ec sc va al vx xs vc C) (hx:SeqAt extS W vx' xs'):AdI w W ge gs dc hc ec sc va al vx' xs' vc C:=⟨h.dr,h.ch,h.rs,h.eb,h.sb,h.al,hx,h.ck,h.bl,h.hg⟩
end
structure AdF (w W:World) (gs:Nat) (dc sc:List Value) (ve vc vt vh:Value) (E:List Ent) (C:List Cnk) (T:List Ent) (H:List Hol):Prop where
 dr:Blk W w.heap.size 163 dc
 rs:Blk W (w.heap.size+2) 163 [.int .i64 0,.int .i64 0,.string ⟨#[]⟩,.slice none 0 0,.slice none 0 0,.int .i64 0,.string ⟨#[]⟩,.slice none 0 0,.slice none 0 0]
 sb:Blk W gs 160 sc
 sq:DrA W ve vc vt vh E C T H
 bl:Below w.heap.size w W
 hg:w.heap.size+2<gs
section
variable {w W W':World} {ge gs:Nat} {ve vm vn:Value} {dc dc' hc ec sc:List Value} {va vx vc vt vh:Value} {al:List Atr} {xs:List Ext} {C:List Cnk} {E m T:List Ent} {n H:List Hol}
theorem AdI.setD (h:AdI w W ge gs dc hc ec sc va al vx xs vc C) (hk:dc.map kd=[1,1,3,4,4,1,3,4,4]) (hd:dc.set 3 ve=dc') (hE:SeqAt entS W ve E) (hM:SeqAt entS W vm m) (hN:SeqAt holS W vn n):AdF w (W.setCell ⟨w.heap.size,3,none⟩ ve) gs dc' sc ve vc vm vn E C m n:=by
 have hg:=grown_set W w.heap.size 3 ve
 have h1:=h.hg
 exact⟨hd▸h.dr.set 3 ve,h.rs.grownN hg (by omega),h.sb.grownN hg (by omega),(⟨hE,h.ck,hM,hN⟩:DrA W ve vc vm vn E C m n).box h.dr hg (by rw[hk];rfl),h.bl.setCell (p:=⟨w.heap.size,3,none⟩) (Nat.le_refl _) _,by omega⟩
theorem AdF.set (h:AdF w W gs dc sc ve vc vt vh E C T H) (hk:dc.map kd=[1,1,3,4,4,1,3,4,4]) (i:Nat) (us:List Value) (hd:lset dc i us=dc'):AdF w (setAll W w.heap.size i us) gs dc' sc ve vc vt vh E C T H:=by
 have hg:=grown_setAll w.heap.size us W i
 have h1:=h.hg
 exact⟨hd▸h.dr.setAll us,h.rs.grownN hg (by omega),h.sb.grownN hg (by omega),h.sq.box h.dr hg (by rw[hk];rfl),below_setAll (Nat.le_refl _) us W i h.bl,h.hg⟩
end
theorem add39_any (w:World) (num date:Int) (prev:ByteArray) (ve vc vt vh:Value) (E:List Ent) (C:List Cnk) (sn:Int) (st:ByteArray) (T:List Ent) (H:List Hol) (hsq:DrA w ve vc vt vh E C T H) (hE:E.length<=100) (hC:C.length<=40000000) (hst:st.size<=1000000) (hT:T.length<=900) (hH:H.length<=900) (hTp:∀x∈T,x.path.size<=1000000) (hHp:∀h∈H,h.p.size<=1000000)
  (k:Int) (path tgt cont:ByteArray) (va:Value) (al:List Atr) (hva:SeqAt atrS w va al) (hco:chaOk ⟨k,path,al,tgt,cont⟩):
  Calls Tryz.prog 81 #[drV num date prev ve vc sn st vt vh,.agg #[.int .i64 k,.string path,va,.string tgt,.string cont]] w fun e w'=>RetDr w' (fun num' date' prev' E' C' st' T' H'=>num'=num/\date'=date/\prev'=prev/\(∃x,E'=E++[x]/\EntB x)/\C'.length<=C.length+600/\st'.size<=st.size+600/\T'.length<=T.length+1/\H'.length<=H.length+1/\(∀x∈T',x.path.size<=1000000)/\∀h∈H',h.p.size<=1000000) e/\Below w.heap.size w w':=by
 unfold drV
 have Hsq:=zY hsq
 obtain⟨Ae,ce,rfl,_,_⟩:=hsq.e.slice
 obtain⟨Ac,cc,rfl,_,_⟩:=hsq.c.slice
 obtain⟨At,ct,rfl,_,_⟩:=hsq.t.slice
 obtain⟨Ah,ch,rfl,_,_⟩:=hsq.h.slice
 obtain⟨Aa,ca,rfl,_,_⟩:=hva.slice
 have hD:=Blk.new w 163 [.int .i64 num,.int .i64 date,.string prev,.slice Ae E.length ce,.slice Ac C.length cc,.int .i64 sn,.string st,.slice At T.length ct,.slice Ah H.length ch]
 change Blk (w.alloc (.cells #[.int .i64 num,.int .i64 date,.string prev,.slice Ae E.length ce,.slice Ac C.length cc,.int .i64 sn,.string st,.slice At T.length ct,.slice Ah H.length ch] 163)) _ _ _ at hD
 have hK:=Blk.new (w.alloc (.cells #[.int .i64 num,.int .i64 date,.string prev,.slice Ae E.length ce,.slice Ac C.length cc,.int .i64 sn,.string st,.slice At T.length ct,.slice Ah H.length ch] 163)) 91 [.int .i64 k,.string path,.slice Aa al.length ca,.string tgt,.string cont]
 change Blk ((w.alloc (.cells #[.int .i64 num,.int .i64 date,.string prev,.slice Ae E.length ce,.slice Ac C.length cc,.int .i64 sn,.string st,.slice At T.length ct,.slice Ah H.length ch] 163)).alloc (.cells #[.int .i64 k,.string path,.slice Aa al.length ca,.string tgt,.string cont] 91)) _ _ _ at hK
 rw[World.size_alloc]at hK
 have hZ:=Blk.new ((w.alloc (.cells #[.int .i64 num,.int .i64 date,.string prev,.slice Ae E.length ce,.slice Ac C.length cc,.int .i64 sn,.string st,.slice At T.length ct,.slice Ah H.length ch] 163)).alloc (.cells #[.int .i64 k,.string path,.slice Aa al.length ca,.string tgt,.string cont] 91)) 163 [.int .i64 0,.int .i64 0,.string ⟨#[]⟩,.slice none 0 0,.slice none 0 0,.int .i64 0,.string ⟨#[]⟩,.slice none 0 0,.slice none 0 0]
 change Blk (((w.alloc (.cells #[.int .i64 num,.int .i64 date,.string prev,.slice Ae E.length ce,.slice Ac C.length cc,.int .i64 sn,.string st,.slice At T.length ct,.slice Ah H.length ch] 163)).alloc (.cells #[.int .i64 k,.string path,.slice Aa al.length ca,.string tgt,.string cont] 91)).alloc (.cells #[.int .i64 0,.int .i64 0,.string ⟨#[]⟩,.slice none 0 0,.slice none 0 0,.int .i64 0,.string ⟨#[]⟩,.slice none 0 0,.slice none 0 0] 163)) _ _ _ at hZ
 rw[World.size_alloc,World.size_alloc]at hZ
 have hB1:=zBl w (.cells #[.int .i64 num,.int .i64 date,.string prev,.slice Ae E.length ce,.slice Ac C.length cc,.int .i64 sn,.string st,.slice At T.length ct,.slice Ah H.length ch] 163)
 have hB2:=hB1.alloc hB1.size (.cells #[.int .i64 k,.string path,.slice Aa al.length ca,.string tgt,.string cont] 91)
 have HB0:=zY (hB2.alloc hB2.size (.cells #[.int .i64 0,.int .i64 0,.string ⟨#[]⟩,.slice none 0 0,.slice none 0 0,.int .i64 0,.string ⟨#[]⟩,.slice none 0 0,.slice none 0 0] 163))
 have HD0:=zY ((hD.alloc (.cells #[.int .i64 k,.string path,.slice Aa al.length ca,.string tgt,.string cont] 91)).alloc (.cells #[.int .i64 0,.int .i64 0,.string ⟨#[]⟩,.slice none 0 0,.slice none 0 0,.int .i64 0,.string ⟨#[]⟩,.slice none 0 0,.slice none 0 0] 163))
 have HK0:=zY (hK.alloc (.cells #[.int .i64 0,.int .i64 0,.string ⟨#[]⟩,.slice none 0 0,.slice none 0 0,.int .i64 0,.string ⟨#[]⟩,.slice none 0 0,.slice none 0 0] 163))
 have HZ0:=zY hZ
 have HSz:Hid (((((w.alloc (.cells #[.int .i64 num,.int .i64 date,.string prev,.slice Ae E.length ce,.slice Ac C.length cc,.int .i64 sn,.string st,.slice At T.length ct,.slice Ah H.length ch] 163)).alloc (.cells #[.int .i64 k,.string path,.slice Aa al.length ca,.string tgt,.string cont] 91)).alloc (.cells #[.int .i64 0,.int .i64 0,.string ⟨#[]⟩,.slice none 0 0,.slice none 0 0,.int .i64 0,.string ⟨#[]⟩,.slice none 0 0,.slice none 0 0] 163))).heap.size=w.heap.size+3):=zY (by simp[World.size_alloc])
 have HE:=zY hE
 have HC:=zY hC
 have HSt:=zY hst
 have HTl:=zY hT
 have HHl:=zY hH
 have HTp:=zY hTp
 have HHp:=zY hHp
 have HCo:=zY hco
 have Hva:=zY hva
 clear hD hK hZ hB1 hB2 hsq hE hC hst hT hH hTp hHp hva hco
 go_enter Tryz.func81,Tryz.ntmps81
 go_upto_region 1 with fail
 generalize (((w.alloc (.cells #[.int .i64 num,.int .i64 date,.string prev,.slice Ae E.length ce,.slice Ac C.length cc,.int .i64 sn,.string st,.slice At T.length ct,.slice Ah H.length ch] 163)).alloc (.cells #[.int .i64 k,.string path,.slice Aa al.length ca,.string tgt,.string cont] 91)).alloc (.cells #[.int .i64 0,.int .i64 0,.string ⟨#[]⟩,.slice none 0 0,.slice none 0 0,.int .i64 0,.string ⟨#[]⟩,.slice none 0 0,.slice none 0 0] 163))=wa at *
 have HCa:=zY (Hva.out.below HB0.out)
 have HBc:=zY ((Below.refl wa.heap.size wa).drew)
 have HKS:Hid (∀W,Below wa.heap.size wa W->W.cell? ⟨w.heap.size+1,0,none⟩=some (.int .i64 k)/\W.cell? ⟨w.heap.size+1,1,none⟩=some (.string path)/\W.cell? ⟨w.heap.size+1,2,none⟩=some (.slice Aa al.length ca)/\W.cell? ⟨w.heap.size+1,3,none⟩=some (.string tgt)):=zY (fun W h=>⟨cell_below h (HK0.out.c 0),cell_below h (HK0.out.c 1),cell_below h (HK0.out.c 2),cell_below h (HK0.out.c 3)⟩)
 have HS:=zY (HKS.out _ HBc.out)
 have HBNew:Hid (∀W:World,Below wa.heap.size wa W->Blk (W.alloc (.cells #[.int .i64 0,.string ⟨#[]⟩,.slice none 0 0,.string ⟨#[]⟩,.int .i64 0,.string ⟨#[]⟩,.slice none 0 0] 182)) W.heap.size 182 [.int .i64 0,.string ⟨#[]⟩,.slice none 0 0,.string ⟨#[]⟩,.int .i64 0,.string ⟨#[]⟩,.slice none 0 0]):=zY (fun W _=>Blk.new W 182 [.int .i64 0,.string ⟨#[]⟩,.slice none 0 0,.string ⟨#[]⟩,.int .i64 0,.string ⟨#[]⟩,.slice none 0 0])
 have HL7:Hid (([]:List Atr).length+al.length<=100000000):=zY (by have:=HCo.out.2.2.1;simp at this⊢;omega)
 go_cut [6] (fun p wx=>∃(ge:Nat) (va:Value),p=.pointer (some ⟨ge,0,none⟩)/\w.heap.size+2<ge/\Blk wx ge 182 [.int .i64 k,.string path,va,.string tgt,.int .i64 0,.string ⟨#[]⟩,.slice none 0 0]/\SeqAt atrS wx va al/\Below wa.heap.size wa wx)
 case first=>
  refine wp_region_held_drew (S:=(fun W=>W.cell? ⟨w.heap.size+1,0,none⟩=some (.int .i64 k)/\W.cell? ⟨w.heap.size+1,1,none⟩=some (.string path)/\W.cell? ⟨w.heap.size+1,2,none⟩=some (.slice Aa al.length ca)/\W.cell? ⟨w.heap.size+1,3,none⟩=some (.string tgt))) (by kernel_rfl) ?_ (fun hHeld=>?_)
  ·exact HS.out
  refine tk 0 ?_
  refine tk 1 ?_
  refine tk 2 ?_
  refine tk 3 ?_
  refine tk 5 ?_
  refine tk 6 ?_
  refine tk 8 ?_
  refine tk 9 ?_
  refine zEs [4,11] (zEc (fun K hK=>?_) (zEc (fun K hK=>?_) AllReadyH.nil))
  focus
   go_simp
   have HN:=zY (OwnSeq.newAt (ρ:=atrS) (t:=93) HBc.out.size)
   first|simp only[World.size_alloc]at HN|skip
   first|(have HEb:=zY (HEb.out.alloc (.cells #[] 93)))|skip
   have HBc:=zY (HBc.out.alloc HBc.out.size (.cells #[] 93))
   have HS:=zY (HKS.out _ HBc.out)
   refine hko hK (by exact HS.out) (fun _=>?_)
   clear hK K
   refine zEs [7,11] (zEc (fun K hK=>?_) (zEc (fun K hK=>?_) AllReadyH.nil))
   refine wp_append_seq (ρ:=atrS) (w0:=wa) (v:=(.slice (some ⟨_,0,none⟩) 0 0)) Tryz.elemAtr (.tmp 20) (.tmp 22) rfl rfl HN.out rfl (SrcAt.of HCa.out HBc.out) HL7.out HBc.out ?_
   intro vx1 wx1 hob hgb hbb
   first|(have HEb:=zY (HEb.out.grownB hgb (by simp[Value.ownBlock])))|skip
   have HN:=zY (by have:=hob;rwa [List.nil_append]at this:OwnSeq atrS 93 wa wx1 vx1 al)
   obtain⟨Av,cv,rfl⟩:=HN.out.slice
   have HBc:=zY hbb
   clear hob hgb hbb
   have HS:=zY (HKS.out _ HBc.out)
   refine hko hK (by exact HS.out) (fun _=>?_)
   clear hK K
   refine tk 10 ?_
   refine zE1 11 fun K hK=>?_
   go_simp
   have HEb:=zY (HBNew.out _ HBc.out)
   have HEl:=zY HBc.out.size
   first|simp only[World.size_alloc]at HEb HEl|skip
   first|(have HN:=zY (HN.out.alloc (.cells #[.int .i64 0,.string ⟨#[]⟩,.slice none 0 0,.string ⟨#[]⟩,.int .i64 0,.string ⟨#[]⟩,.slice none 0 0] 182)))|skip
   have HBc:=zY (HBc.out.alloc HBc.out.size (.cells #[.int .i64 0,.string ⟨#[]⟩,.slice none 0 0,.string ⟨#[]⟩,.int .i64 0,.string ⟨#[]⟩,.slice none 0 0] 182))
   have HS:=zY (HKS.out _ HBc.out)
   refine hko hK (by exact HS.out) (fun _=>?_)
   clear hK K
   rotate_left
   go_simp
   have HEb:=zY (HBNew.out _ HBc.out)
   have HEl:=zY HBc.out.size
   first|simp only[World.size_alloc]at HEb HEl|skip
   first|(have HN:=zY (HN.out.alloc (.cells #[.int .i64 0,.string ⟨#[]⟩,.slice none 0 0,.string ⟨#[]⟩,.int .i64 0,.string ⟨#[]⟩,.slice none 0 0] 182)))|skip
   have HBc:=zY (HBc.out.alloc HBc.out.size (.cells #[.int .i64 0,.string ⟨#[]⟩,.slice none 0 0,.string ⟨#[]⟩,.int .i64 0,.string ⟨#[]⟩,.slice none 0 0] 182))
   have HS:=zY (HKS.out _ HBc.out)
   refine hko hK (by exact HS.out) (fun _=>?_)
   clear hK K
   refine zE1 7 fun K hK=>?_
   refine wp_append_seq (ρ:=atrS) (w0:=wa) (v:=(.slice (some ⟨_,0,none⟩) 0 0)) Tryz.elemAtr (.tmp 20) (.tmp 22) rfl rfl HN.out rfl (SrcAt.of HCa.out HBc.out) HL7.out HBc.out ?_
   intro vx1 wx1 hob hgb hbb
   first|(have HEb:=zY (HEb.out.grownB hgb (by simp[Value.ownBlock])))|skip
   have HN:=zY (by have:=hob;rwa [List.nil_append]at this:OwnSeq atrS 93 wa wx1 vx1 al)
   obtain⟨Av,cv,rfl⟩:=HN.out.slice
   have HBc:=zY hbb
   clear hob hgb hbb
   have HS:=zY (HKS.out _ HBc.out)
   refine hko hK (by exact HS.out) (fun _=>?_)
   clear hK K
   refine tk 10 ?_
   rotate_left
  rotate_left 2
  go_simp
  have HEb:=zY (HBNew.out _ HBc.out)
  have HEl:=zY HBc.out.size
  first|simp only[World.size_alloc]at HEb HEl|skip
  first|(have HN:=zY (HN.out.alloc (.cells #[.int .i64 0,.string ⟨#[]⟩,.slice none 0 0,.string ⟨#[]⟩,.int .i64 0,.string ⟨#[]⟩,.slice none 0 0] 182)))|skip
  have HBc:=zY (HBc.out.alloc HBc.out.size (.cells #[.int .i64 0,.string ⟨#[]⟩,.slice none 0 0,.string ⟨#[]⟩,.int .i64 0,.string ⟨#[]⟩,.slice none 0 0] 182))
  have HS:=zY (HKS.out _ HBc.out)
  refine hko hK (by exact HS.out) (fun _=>?_)
  clear hK K
  refine zE1 4 fun K hK=>?_
  go_simp
  have HN:=zY (OwnSeq.newAt (ρ:=atrS) (t:=93) HBc.out.size)
  first|simp only[World.size_alloc]at HN|skip
  first|(have HEb:=zY (HEb.out.alloc (.cells #[] 93)))|skip
  have HBc:=zY (HBc.out.alloc HBc.out.size (.cells #[] 93))
  have HS:=zY (HKS.out _ HBc.out)
  refine hko hK (by exact HS.out) (fun _=>?_)
  clear hK K
  refine zE1 7 fun K hK=>?_
  refine wp_append_seq (ρ:=atrS) (w0:=wa) (v:=(.slice (some ⟨_,0,none⟩) 0 0)) Tryz.elemAtr (.tmp 20) (.tmp 22) rfl rfl HN.out rfl (SrcAt.of HCa.out HBc.out) HL7.out HBc.out ?_
  intro vx1 wx1 hob hgb hbb
  first|(have HEb:=zY (HEb.out.grownB hgb (by simp[Value.ownBlock])))|skip
  have HN:=zY (by have:=hob;rwa [List.nil_append]at this:OwnSeq atrS 93 wa wx1 vx1 al)
  obtain⟨Av,cv,rfl⟩:=HN.out.slice
  have HBc:=zY hbb
  clear hob hgb hbb
  have HS:=zY (HKS.out _ HBc.out)
  refine hko hK (by exact HS.out) (fun _=>?_)
  clear hK K
  refine tk 10 ?_
  rotate_left
  all_goals
   refine zE1 12 fun K hK=>?_
   refine wp_store_row 182 (.tmp 6) (.tmp 26) rfl _ _ rfl rfl 182 _ HEb.out (by kernel_rfl) rfl (by simp[Value.oneCell']) ?_
   have HEn:=zY (HEb.out.setRow [.int .i64 k,.string path,.slice Av al.length cv,.string tgt,.int .i64 0,.string ⟨#[]⟩,.slice none 0 0])
   have HNn:=zY (HN.out.grown (grown_setRow _ _ #[.int .i64 k,.string path,.slice Av al.length cv,.string tgt,.int .i64 0,.string ⟨#[]⟩,.slice none 0 0]) (.inr (HN.out.neT HEb.out (by decide))))
   have HBn:=zY (below_setRow HBc.out HEl.out #[.int .i64 k,.string path,.slice Av al.length cv,.string tgt,.int .i64 0,.string ⟨#[]⟩,.slice none 0 0])
   have HS:=zY (HKS.out _ HBn.out)
   refine hko hK (by exact HS.out) (fun _=>?_)
   clear hK K
   refine wpAnyH_done (by kernel_rfl) ?_ _
   go_wp2_with fail
   go_meet
   exact⟨_,_,rfl,by have:=HEl.out;have:=HSz.out;omega,HEn.out,HNn.out.at HBn.out,HBn.out⟩
 case rest=>
  obtain⟨ge,va,rfl,hge,hEb,hAl,hB⟩:=hcut
  obtain⟨wx,hwx⟩:∃x,x=wc:=⟨_,rfl⟩
  subst hwx
  obtain⟨Av,cv,rfl,_,_⟩:=hAl.slice
  have hS:=Blk.new wx 160 [.slice Ac C.length cc,.int .i64 sn,.string st]
  change Blk (wx.alloc (.cells #[.slice Ac C.length cc,.int .i64 sn,.string st] 160)) _ _ _ at hS
  have hBx:=zBl wx (.cells #[.slice Ac C.length cc,.int .i64 sn,.string st] 160)
  have HBx:=zYt HB0 hB
  have HA0:Hid (AdI w (wx.alloc (.cells #[.slice Ac C.length cc,.int .i64 sn,.string st] 160)) ge wx.heap.size [.int .i64 num,.int .i64 date,.string prev,.slice Ae E.length ce,.slice Ac C.length cc,.int .i64 sn,.string st,.slice At T.length ct,.slice Ah H.length ch] [.int .i64 k,.string path,.slice Aa al.length ca,.string tgt,.string cont] [.int .i64 k,.string path,.slice Av al.length cv,.string tgt,.int .i64 0,.string ⟨#[]⟩,.slice none 0 0] [.slice Ac C.length cc,.int .i64 sn,.string st] (.slice Av al.length cv) al (.slice none 0 0) [] (.slice Ac C.length cc) C):=zY
   ⟨(HD0.out.kept hB).kept hBx,(HK0.out.kept hB).kept hBx,(HZ0.out.kept hB).kept hBx,hEb.kept hBx,hS,hAl.below hBx,SeqAt.nil _,(Hsq.out.c.below HBx.out).below hBx,HBx.out.trans (hBx.mono HBx.out.size),hge,hEb.lt⟩
  have d4:=(HD0.out.kept hB).c 4
  have d5:=(HD0.out.kept hB).c 5
  have d6:=(HD0.out.kept hB).c 6
  clear hS hBx hEb hAl hB hge HBc HKS HS HBNew HL7 HCa HD0 HK0 HZ0 HB0
  go_upto_region 3 with fail
  clear d4 d5 d6
  generalize wx.alloc (.cells #[.slice Ac C.length cc,.int .i64 sn,.string st] 160)=wy at *
  generalize wx.heap.size=gs at *
  have k0:=HA0.out.ch.c 0
  go_upto_if 31 with fail
  clear k0
  go_cut [5] (fun e wz=>∃(size:Int) (dig:ByteArray) (vx:Value) (xs:List Ext) (vc:Value) (C':List Cnk) (st':ByteArray),e=.int .i64 0/\AdI w wz ge gs [.int .i64 num,.int .i64 date,.string prev,.slice Ae E.length ce,.slice Ac C.length cc,.int .i64 sn,.string st,.slice At T.length ct,.slice Ah H.length ch] [.int .i64 k,.string path,.slice Aa al.length ca,.string tgt,.string cont] [.int .i64 k,.string path,.slice Av al.length cv,.string tgt,.int .i64 size,.string dig,vx] [vc,.int .i64 sn,.string st'] (.slice Av al.length cv) al vx xs vc C'/\C'.length<=C.length+600/\st'.size<=st.size+600/\xs.length<=2000)
  case first=>
   by_cases hk:k=1
   {
   have fk:(k==1)=true:=by rw[beq_iff_eq];exact hk
   clear hk
   have k4:=HA0.out.ch.c 4
   have e4:=HA0.out.eb.c 4
   have y4:=HA0.out.eb.frozen 4
   have HCz:Hid (cont.size<=600):=zY HCo.out.2.2.2.1
   go_upto_region 5 with fail
   have HA1:Hid (AdI w (wy.setCell ⟨ge,4,none⟩ (.int .i64 (cont.size:Int))) ge gs [.int .i64 num,.int .i64 date,.string prev,.slice Ae E.length ce,.slice Ac C.length cc,.int .i64 sn,.string st,.slice At T.length ct,.slice Ah H.length ch] [.int .i64 k,.string path,.slice Aa al.length ca,.string tgt,.string cont] [.int .i64 k,.string path,.slice Av al.length cv,.string tgt,.int .i64 (cont.size:Int),.string ⟨#[]⟩,.slice none 0 0] [.slice Ac C.length cc,.int .i64 sn,.string st] (.slice Av al.length cv) al (.slice none 0 0) [] (.slice Ac C.length cc) C):=zY (HA0.out.setE rfl 4 [.int .i64 (cont.size:Int)] rfl)
   generalize (wy.setCell ⟨ge,4,none⟩ (.int .i64 (cont.size:Int)))=w1 at *
   clear k4 e4 y4 HA0
   have k4:=HA1.out.ch.c 4
   have HSm:=zY (fun(W:World) (u:Value) (h:SeqAt strS W u [cont])=>sum1_any comp_spec W u cont h (by have:=HCz.out;omega))
   have HV:=zY (str1 HA1.out.bl cont)
   have HA2:=zY (HA1.out.below ((Below.refl _ w1).alloc (Nat.le_refl _) (.cells #[.string cont] 9)))
   go_wp2_with fail
   refine(HSm.out _ _ HV.out).mono ?_
   rintro e2 w2 ⟨rfl,hb2⟩
   generalize strB (digL (bs cont))=D at *
   have HA3:=zY (HA2.out.below hb2)
   clear hb2 k4 HSm HV HA1 HA2
   have e5:=HA3.out.eb.c 5
   have y5:=HA3.out.eb.frozen 5
   go_upto_region 6 with fail
   have HA4:Hid (AdI w (w2.setCell ⟨ge,5,none⟩ (.string D)) ge gs [.int .i64 num,.int .i64 date,.string prev,.slice Ae E.length ce,.slice Ac C.length cc,.int .i64 sn,.string st,.slice At T.length ct,.slice Ah H.length ch] [.int .i64 k,.string path,.slice Aa al.length ca,.string tgt,.string cont] [.int .i64 k,.string path,.slice Av al.length cv,.string tgt,.int .i64 (cont.size:Int),.string D,.slice none 0 0] [.slice Ac C.length cc,.int .i64 sn,.string st] (.slice Av al.length cv) al (.slice none 0 0) [] (.slice Ac C.length cc) C):=zY (HA3.out.setE rfl 5 [.string D] rfl)
   generalize (w2.setCell ⟨ge,5,none⟩ (.string D))=w3 at *
   clear e5 y5 HA3
   have k4:=HA4.out.ch.c 4
   have d4:=HA4.out.dr.c 4
   have d5:=HA4.out.dr.c 5
   have d6:=HA4.out.dr.c 6
   have hc65:(cont.size:Int)<=65536:=by have:=HCz.out;omega
   have hcn65:cont.size<=65536:=by omega
   have HPu:=zY (put35_any w3 (.slice Ac C.length cc) C sn st cont (Hsq.out.c.below HA4.out.bl) (by have:=HC.out;omega) (by have:=HSt.out;omega) (by have:=HCz.out;omega))
   go_wp2_with fail
   refine HPu.out.mono ?_
   rintro e4 w4 ⟨⟨vc4,vx4,C4,st4,l4,n4,rfl,hc4,hx4,hl4,hs4,hn4⟩,hb4⟩
   obtain⟨A4,c4,rfl,_,_⟩:=hc4.slice
   obtain⟨Ax4,cx4,rfl,_,_⟩:=hx4.slice
   have HA5:=zY ((HA4.out.below hb4).withX hx4)
   have HC4:=zY hc4
   have HL4:Hid (C4.length<=C.length+600/\st4.size<=st.size+600/\l4.length<=2000):=zY (by have:=HCz.out;omega)
   clear hb4 hc4 hx4 hl4 hs4 hn4 k4 d4 d5 d6 HPu HA4
   have s0:=HA5.out.sb.c 0
   have s1:=HA5.out.sb.c 1
   have s2:=HA5.out.sb.c 2
   have r0:=HA5.out.sb.frozen 0
   have r1:=HA5.out.sb.frozen 1
   have r2:=HA5.out.sb.frozen 2
   have HA6:=zY (HA5.out.setS rfl [.slice A4 C4.length c4,.int .i64 sn,.string st4] rfl HC4.out)
   have e6:(((w4.setCell ⟨gs,0,none⟩ (.slice A4 C4.length c4)).setCell ⟨gs,1,none⟩ (.int .i64 sn)).setCell ⟨gs,2,none⟩ (.string st4)).cell? ⟨ge,6,none⟩=some (.slice none 0 0):=HA6.out.eb.c 6
   have y6:(((w4.setCell ⟨gs,0,none⟩ (.slice A4 C4.length c4)).setCell ⟨gs,1,none⟩ (.int .i64 sn)).setCell ⟨gs,2,none⟩ (.string st4)).frozen? ⟨ge,6,none⟩=false:=HA6.out.eb.frozen 6
   have HA7:=zY (HA6.out.setE rfl 6 [.slice Ax4 l4.length cx4] rfl)
   go_wp2_with fail
   go_meet
   exact⟨_,D,_,l4,_,C4,st4,rfl,HA7.out,HL4.out.1,HL4.out.2.1,HL4.out.2.2⟩}
   {
   have fk:(k==1)=false:=by rw[beq_eq_false_iff_ne];exact hk
   clear hk
   go_wp2_with fail
   go_meet
   exact⟨0,⟨#[]⟩,_,[],_,C,st,rfl,HA0.out,by omega,by omega,by simp⟩}
  case rest=>
   obtain⟨size,dig,vx,xs,vc',C',st',rfl,hA,hC',hst',hxs⟩:=hcut
   obtain⟨wz,hwz⟩:∃x,x=wc:=⟨_,rfl⟩
   subst hwz
   obtain⟨Ax,cx,rfl,_,_⟩:=hA.xs.slice
   obtain⟨Ac',cc',rfl,_,_⟩:=hA.ck.slice
   have HA:=zY hA
   have HC':=zY hC'
   have Hst':=zY hst'
   have Hxs:=zY hxs
   clear hA hC' hst' hxs HA0
   have HPz:Hid (path.size<=250/\tgt.size<=250/\al.length<=20/\∀a∈al,a.k.size<=80/\a.v.size<=80):=zY ⟨HCo.out.1,HCo.out.2.1,HCo.out.2.2.1,HCo.out.2.2.2.2⟩
   have HCk:=zY (check36_any wz ⟨k,path,al,tgt,size,dig,xs⟩ _ _ HA.out.al HA.out.xs (by have:=HPz.out.1;dsimp only;omega) (by have:=HPz.out.2.1;dsimp only;omega) (fun a ha=>by have:=(HPz.out.2.2.2 a ha).1;omega) (by have:=Hxs.out;dsimp only;omega))
   rw[entV]at HCk
   dsimp only at HCk
   have g0:=HA.out.eb.c 0
   have g1:=HA.out.eb.c 1
   have g2:=HA.out.eb.c 2
   have g3:=HA.out.eb.c 3
   have g4:=HA.out.eb.c 4
   have g5:=HA.out.eb.c 5
   have g6:=HA.out.eb.c 6
   go_wp2_with fail
   refine HCk.out.mono ?_
   rintro e1 w1 ⟨⟨n,rfl,hn⟩,hb1⟩
   have HA1:=zY (HA.out.below hb1)
   have Hn:=zY hn
   clear hn hb1 g0 g1 g2 g3 g4 g5 g6 HA HCk
   by_cases h0:n=0
   {
   have Hok:=zY (Hn.out.1 h0)
   subst h0
   have HEb:=zY (EntB.small Hok.out HPz.out.1 HPz.out.2.1 HPz.out.2.2.1 HPz.out.2.2.2 (by have:=Hxs.out;dsimp only;omega))
   clear Hn
   have k0:=HA1.out.ch.c 0
   have k4:=HA1.out.ch.c 4
   go_upto_region 11 with fail
   go_cut [68] (fun c wz=>w1=wz/\∃b:Bool,c=.bool b)
   case first=>
    by_cases hk:k=1
    {
    have fk:(k != 1)=false:=by rw[bne_eq_false_iff_eq];exact hk
    clear hk
    go_wp2_with fail
    go_meet
    exact⟨rfl,_,rfl⟩}
    {
    have fk:(k != 1)=true:=by rw[bne_iff_ne];exact hk
    clear hk
    go_wp2_with fail
    go_meet
    exact⟨rfl,_,rfl⟩}
   case rest=>
    obtain⟨hw,b,rfl⟩:=hcut
    subst hw
    clear k0 k4
    cases b with
    |true=>
     have d0:=HA1.out.dr.c 0
     have d1:=HA1.out.dr.c 1
     have d2:=HA1.out.dr.c 2
     have d3:=HA1.out.dr.c 3
     have d4:=HA1.out.dr.c 4
     have d5:=HA1.out.dr.c 5
     have d6:=HA1.out.dr.c 6
     have d7:=HA1.out.dr.c 7
     have d8:=HA1.out.dr.c 8
     have z0:=HA1.out.rs.c 0
     have z1:=HA1.out.rs.c 1
     have z2:=HA1.out.rs.c 2
     have z3:=HA1.out.rs.c 3
     have z4:=HA1.out.rs.c 4
     have z5:=HA1.out.rs.c 5
     have z6:=HA1.out.rs.c 6
     have z7:=HA1.out.rs.c 7
     have z8:=HA1.out.rs.c 8
     have y0:=HA1.out.rs.frozen 0
     have y1:=HA1.out.rs.frozen 1
     have y2:=HA1.out.rs.frozen 2
     have y3:=HA1.out.rs.frozen 3
     have y4:=HA1.out.rs.frozen 4
     have y5:=HA1.out.rs.frozen 5
     have y6:=HA1.out.rs.frozen 6
     have y7:=HA1.out.rs.frozen 7
     have y8:=HA1.out.rs.frozen 8
     have HW:=zY (HA1.out.rs.setAll (i:=0) [.int .i64 num,.int .i64 date,.string prev,.slice Ae E.length ce,.slice Ac C.length cc,.int .i64 sn,.string st,.slice At T.length ct,.slice Ah H.length ch])
     have HBw:=zY (below_setAll (g:=w.heap.size+2) (by omega) [.int .i64 num,.int .i64 date,.string prev,.slice Ae E.length ce,.slice Ac C.length cc,.int .i64 sn,.string st,.slice At T.length ct,.slice Ah H.length ch] w1 0 HA1.out.bl)
     have HDw:=zY ((Hsq.out.below HA1.out.bl).box HA1.out.rs (grown_setAll (w.heap.size+2) [.int .i64 num,.int .i64 date,.string prev,.slice Ae E.length ce,.slice Ac C.length cc,.int .i64 sn,.string st,.slice At T.length ct,.slice Ah H.length ch] w1 0) rfl)
     go_wp2_with fail
     refine bodyPost_ret (results_row_tmp rfl _ _ (w.heap.size+2) 163 _ (0,0) _ rfl HW.out Tryz.underlying163 rfl (by kernel_rfl)) rfl ?_
     exact⟨⟨_,_,_,_,_,_,_,E,C,sn,st,T,H,1,rfl,HDw.out,fun h=>absurd h (by decide)⟩,HBw.out⟩
    |false=>
     have d3:=HA1.out.dr.c 3
     have s2:=HA1.out.sb.c 2
     have q1:¬(400:Int)<=E.length:=by have:=HE.out;omega
     have q2:¬(14680064:Int)<st'.size:=by have:=Hst'.out;have:=HSt.out;omega
     have q3:¬14680064<st'.size:=by omega
     have d7:=HA1.out.dr.c 7
     have g0:=HA1.out.eb.c 0
     have g1:=HA1.out.eb.c 1
     have g2:=HA1.out.eb.c 2
     have g3:=HA1.out.eb.c 3
     have g4:=HA1.out.eb.c 4
     have g5:=HA1.out.eb.c 5
     have g6:=HA1.out.eb.c 6
     have HAp:=zY (apply37_any w1 (.slice At T.length ct) _ _ T ⟨k,path,al,tgt,size,dig,xs⟩ (Hsq.out.t.below HA1.out.bl) HA1.out.al HA1.out.xs (by have:=HTl.out;omega) HTp.out HEb.out.path HEb.out.tgt (fun a ha=>(HEb.out.kv a ha).1) HEb.out.exn)
     rw[entV]at HAp
     dsimp only at HAp
     go_wp2_with fail
     refine HAp.out.mono ?_
     rintro e5 w5 ⟨⟨v5,m5,n5,rfl,hm5,hl5,hx5⟩,hb5⟩
     have HA5:=zY (HA1.out.below hb5)
     have HM5:=zY hm5
     have HL5:=zY hl5
     have HX5:=zY hx5
     clear hm5 hl5 hx5 hb5 d3 s2 q1 q2 q3 d7 g0 g1 g2 g3 g4 g5 g6 HAp HA1
     obtain⟨A5,c5,rfl,_,_⟩:=HM5.out.slice
     by_cases h5:n5=0
     {
     subst h5
     have d7:=HA5.out.dr.c 7
     have g1:=HA5.out.eb.c 1
     have HGt:=zY (get37_any w5 (.slice At T.length ct) T (Hsq.out.t.below HA5.out.bl) path)
     go_wp2_with fail
     refine HGt.out.mono ?_
     rintro e6 w6 ⟨⟨cs,b,⟨k6,sz6,p6,t6,i6,A6,B6,n6,m6,c6,o6,rfl⟩,rfl⟩,hb6⟩
     dsimp only
     have hB7:=zBl w6 (.cells #[.int .i64 k6,.string p6,.slice A6 n6 c6,.string t6,.int .i64 sz6,.string i6,.slice B6 m6 o6] 182)
     have HA7:=zY ((HA5.out.below hb6).below hB7)
     have HM7:=zY ((HM5.out.below hb6).below hB7)
     clear hb6 hB7 d7 g1 HGt HA5 HM5
     go_upto_region 19 with fail
     generalize w6.alloc (.cells #[.int .i64 k6,.string p6,.slice A6 n6 c6,.string t6,.int .i64 sz6,.string i6,.slice B6 m6 o6] 182)=w7 at *
     have g0:=HA7.out.eb.c 0
     go_cut [105] (fun c wz=>w7=wz/\∃b:Bool,c=.bool b)
     case first=>
      cases b
      {
      go_wp2_with fail
      go_meet
      exact⟨rfl,_,rfl⟩}
      {
      go_wp2_with fail
      go_meet
      exact⟨rfl,_,rfl⟩}
     case rest=>
      obtain⟨hw,b2,rfl⟩:=hcut
      subst hw
      clear g0
      go_upto_if 105 with fail
      go_cut [5] (fun e wz=>e=.int .i64 0/\AdI w wz ge gs [.int .i64 num,.int .i64 date,.string prev,.slice Ae E.length ce,.slice Ac C.length cc,.int .i64 sn,.string st,.slice At T.length ct,.slice Ah H.length ch] [.int .i64 k,.string path,.slice Aa al.length ca,.string tgt,.string cont] [.int .i64 k,.string path,.slice Av al.length cv,.string tgt,.int .i64 size,.string dig,.slice Ax xs.length cx] [.slice Ac' C'.length cc',.int .i64 sn,.string st'] (.slice Av al.length cv) al (.slice Ax xs.length cx) xs (.slice Ac' C'.length cc') C'/\SeqAt entS wz (.slice A5 m5.length c5) m5)
      case first=>
       cases b2 with
       |true=>
        have d8:=HA7.out.dr.c 8
        have d1:=HA7.out.dr.c 1
        have g0:=HA7.out.eb.c 0
        have g1:=HA7.out.eb.c 1
        have g2:=HA7.out.eb.c 2
        have g3:=HA7.out.eb.c 3
        have g4:=HA7.out.eb.c 4
        have g5:=HA7.out.eb.c 5
        have g6:=HA7.out.eb.c 6
        have HAl:=zY (allowed38_any w7 (.slice Ah H.length ch) H (Hsq.out.h.below HA7.out.bl) HHp.out k path tgt dig Av Ax al.length cv xs.length cx size HEb.out.path date)
        go_wp2_with fail
        refine HAl.out.mono ?_
        rintro e8 w8 ⟨⟨n8,rfl⟩,hb8⟩
        have HA8:=zY (HA7.out.below hb8)
        have HM8:=zY (HM7.out.below hb8)
        clear hb8 d8 d1 g0 g1 g2 g3 g4 g5 g6 HAl HA7 HM7
        by_cases h8:n8=0
        {
        subst h8
        go_wp2_with fail
        go_meet
        exact⟨rfl,HA8.out,HM8.out⟩}
        {
        have f8:(n8 != 0)=true:=by rw[bne_iff_ne];exact h8
        have d0:=HA8.out.dr.c 0
        have d1:=HA8.out.dr.c 1
        have d2:=HA8.out.dr.c 2
        have d3:=HA8.out.dr.c 3
        have d4:=HA8.out.dr.c 4
        have d5:=HA8.out.dr.c 5
        have d6:=HA8.out.dr.c 6
        have d7:=HA8.out.dr.c 7
        have d8:=HA8.out.dr.c 8
        have z0:=HA8.out.rs.c 0
        have z1:=HA8.out.rs.c 1
        have z2:=HA8.out.rs.c 2
        have z3:=HA8.out.rs.c 3
        have z4:=HA8.out.rs.c 4
        have z5:=HA8.out.rs.c 5
        have z6:=HA8.out.rs.c 6
        have z7:=HA8.out.rs.c 7
        have z8:=HA8.out.rs.c 8
        have y0:=HA8.out.rs.frozen 0
        have y1:=HA8.out.rs.frozen 1
        have y2:=HA8.out.rs.frozen 2
        have y3:=HA8.out.rs.frozen 3
        have y4:=HA8.out.rs.frozen 4
        have y5:=HA8.out.rs.frozen 5
        have y6:=HA8.out.rs.frozen 6
        have y7:=HA8.out.rs.frozen 7
        have y8:=HA8.out.rs.frozen 8
        have HW:=zY (HA8.out.rs.setAll (i:=0) [.int .i64 num,.int .i64 date,.string prev,.slice Ae E.length ce,.slice Ac C.length cc,.int .i64 sn,.string st,.slice At T.length ct,.slice Ah H.length ch])
        have HBw:=zY (below_setAll (g:=w.heap.size+2) (by omega) [.int .i64 num,.int .i64 date,.string prev,.slice Ae E.length ce,.slice Ac C.length cc,.int .i64 sn,.string st,.slice At T.length ct,.slice Ah H.length ch] w8 0 HA8.out.bl)
        have HDw:=zY ((Hsq.out.below HA8.out.bl).box HA8.out.rs (grown_setAll (w.heap.size+2) [.int .i64 num,.int .i64 date,.string prev,.slice Ae E.length ce,.slice Ac C.length cc,.int .i64 sn,.string st,.slice At T.length ct,.slice Ah H.length ch] w8 0) rfl)
        go_wp2_with fail
        refine bodyPost_ret (results_row_tmp rfl _ _ (w.heap.size+2) 163 _ (0,0) _ rfl HW.out Tryz.underlying163 rfl (by kernel_rfl)) rfl ?_
        exact⟨⟨_,_,_,_,_,_,_,E,C,sn,st,T,H,n8,rfl,HDw.out,fun h=>absurd h h8⟩,HBw.out⟩}
       |false=>
        go_wp2_with fail
        go_meet
        exact⟨rfl,HA7.out,HM7.out⟩
      case rest=>
       obtain⟨rfl,hA8,hM8⟩:=hcut
       obtain⟨w8,hw8⟩:∃x,x=wc:=⟨_,rfl⟩
       subst hw8
       have HA8:=zY hA8
       have HM8:=zY hM8
       clear hA8 hM8 HA7 HM7
       have d8:=HA8.out.dr.c 8
       have d1:=HA8.out.dr.c 1
       have g0:=HA8.out.eb.c 0
       have g1:=HA8.out.eb.c 1
       have g2:=HA8.out.eb.c 2
       have g3:=HA8.out.eb.c 3
       have g4:=HA8.out.eb.c 4
       have g5:=HA8.out.eb.c 5
       have g6:=HA8.out.eb.c 6
       have HAh:=zY (apply38_any w8 (.slice Ah H.length ch) H 1000000 (Nat.le_refl _) (Hsq.out.h.below HA8.out.bl) (by have:=HHl.out;omega) HHp.out k path tgt dig Av Ax al.length cv xs.length cx size HEb.out.path HEb.out.tgt date)
       go_wp2_with fail
       refine HAh.out.mono ?_
       rintro e9 w9 ⟨⟨v9,m9,n9,rfl,hm9,hl9,hx9⟩,hb9⟩
       have HQ:=zY (HA8.out.below hb9)
       have HMq:=zY (HM8.out.below hb9)
       have HHq:=zY hm9
       have HL9:=zY hl9
       have HX9:=zY hx9
       clear hm9 hl9 hx9 hb9 d8 d1 g0 g1 g2 g3 g4 g5 g6 HAh HA8 HM8
       obtain⟨A9,c9,rfl,_,_⟩:=HHq.out.slice
       obtain⟨wq,hwq⟩:∃x,x=w9:=⟨_,rfl⟩
       subst hwq
       by_cases h9:n9=0
       {
       subst h9
       go_upto_region 26 with fail
       have HCe:=zY (Hsq.out.e.below HQ.out.bl)
       have HRe:Hid (entS.R wq [.int .i64 k,.string path,.slice Av al.length cv,.string tgt,.int .i64 size,.string dig,.slice Ax xs.length cx] (⟨k,path,al,tgt,size,dig,xs⟩:Ent)):=zY ⟨_,_,rfl,HQ.out.al,HQ.out.xs⟩
       have HL0:=zY (HQ.out.dr.c 3)
       have HKS:Hid (∀W,Below wq.heap.size wq W->W.cell? ⟨ge,0,none⟩=some (.int .i64 k)/\W.cell? ⟨ge,1,none⟩=some (.string path)/\W.cell? ⟨ge,2,none⟩=some (.slice Av al.length cv)/\W.cell? ⟨ge,3,none⟩=some (.string tgt)/\W.cell? ⟨ge,4,none⟩=some (.int .i64 size)/\W.cell? ⟨ge,5,none⟩=some (.string dig)/\W.cell? ⟨ge,6,none⟩=some (.slice Ax xs.length cx)):=zY (fun W h=>by
        have hx:=HQ.out.eb.kept h
        exact⟨hx.c 0,hx.c 1,hx.c 2,hx.c 3,hx.c 4,hx.c 5,hx.c 6⟩)
       have HKT:Hid (∀(W:World) (u:Value),Below wq.heap.size wq W->(W.setCell ⟨w.heap.size,3,none⟩ u).cell? ⟨ge,0,none⟩=some (.int .i64 k)/\(W.setCell ⟨w.heap.size,3,none⟩ u).cell? ⟨ge,1,none⟩=some (.string path)/\(W.setCell ⟨w.heap.size,3,none⟩ u).cell? ⟨ge,2,none⟩=some (.slice Av al.length cv)/\(W.setCell ⟨w.heap.size,3,none⟩ u).cell? ⟨ge,3,none⟩=some (.string tgt)/\(W.setCell ⟨w.heap.size,3,none⟩ u).cell? ⟨ge,4,none⟩=some (.int .i64 size)/\(W.setCell ⟨w.heap.size,3,none⟩ u).cell? ⟨ge,5,none⟩=some (.string dig)/\(W.setCell ⟨w.heap.size,3,none⟩ u).cell? ⟨ge,6,none⟩=some (.slice Ax xs.length cx)):=zY (fun W u h=>by
        have hx:=(HQ.out.eb.kept h).far (p:=⟨w.heap.size,3,none⟩) (by show ge≠w.heap.size;have:=HQ.out.hg;omega) u
        exact⟨hx.c 0,hx.c 1,hx.c 2,hx.c 3,hx.c 4,hx.c 5,hx.c 6⟩)
       have HBc:=zY ((Below.refl wq.heap.size wq).drew)
       have HS:=zY (HKS.out _ HBc.out)
       have HL3:Hid (([]:List Ent).length+E.length<=100000000):=zY (by have:=HE.out;simp;omega)
       have HL8:Hid (([]++E).length+1<=100000000):=zY (by have:=HE.out;simp;omega)
       go_cut [5] (fun e wz=>∃(An:Option Addr) (En:List Ent) (cn:Nat),e=.int .i64 0/\En=E++[(⟨k,path,al,tgt,size,dig,xs⟩:Ent)]/\AdF w wz gs [.int .i64 num,.int .i64 date,.string prev,.slice An En.length cn,.slice Ac C.length cc,.int .i64 sn,.string st,.slice At T.length ct,.slice Ah H.length ch] [.slice Ac' C'.length cc',.int .i64 sn,.string st'] (.slice An En.length cn) (.slice Ac' C'.length cc') (.slice A5 m5.length c5) (.slice A9 m9.length c9) En C' m5 m9)
       case first=>
        refine wp_region_held_drew (S:=(fun W=>W.cell? ⟨ge,0,none⟩=some (.int .i64 k)/\W.cell? ⟨ge,1,none⟩=some (.string path)/\W.cell? ⟨ge,2,none⟩=some (.slice Av al.length cv)/\W.cell? ⟨ge,3,none⟩=some (.string tgt)/\W.cell? ⟨ge,4,none⟩=some (.int .i64 size)/\W.cell? ⟨ge,5,none⟩=some (.string dig)/\W.cell? ⟨ge,6,none⟩=some (.slice Ax xs.length cx))) (by kernel_rfl) ?_ (fun hHeld=>?_)
        ·exact HS.out
        refine tk 1 ?_
        refine tk 4 ?_
        refine zEs [0,2,5] (zEc (fun K hK=>?_) (zEc (fun K hK=>?_) (zEc (fun K hK=>?_) AllReadyH.nil)))
        focus
         go_simp
         have HN:=zY (OwnSeq.newAt (ρ:=entS) (t:=182) HBc.out.size)
         first|simp only[World.size_alloc]at HN|skip
         first|(have HX:=zY (HX.out.alloc (.cells #[] 182)))|skip
         have HBc:=zY (HBc.out.alloc HBc.out.size (.cells #[] 182))
         have HS:=zY (HKS.out _ HBc.out)
         refine hko hK (by exact HS.out) (fun _=>?_)
         clear hK K
         refine zEs [2,5] (zEc (fun K hK=>?_) (zEc (fun K hK=>?_) AllReadyH.nil))
         focus
          have q00:=cell_below HBc.out HL0.out
          have q0:(wq.alloc (.cells #[] 182)).cell? ⟨w.heap.size,3,none⟩=some (.slice Ae E.length ce):=q00
          clear q00
          go_simp
          clear q0
          refine hko hK (by exact HS.out) (fun _=>?_)
          clear hK K
          refine zEs [3,5] (zEc (fun K hK=>?_) (zEc (fun K hK=>?_) AllReadyH.nil))
          refine wp_append_seq (ρ:=entS) (w0:=wq) (v:=(.slice (some ⟨_,0,none⟩) 0 0)) Tryz.elemEnt (.tmp 129) (.tmp 131) rfl rfl HN.out rfl (SrcAt.of HCe.out HBc.out) HL3.out HBc.out ?_
          intro vx1 wx1 hob hgb hbb
          first|(have HX:=zY (HX.out.grownB hgb (by simp[Value.ownBlock])))|skip
          have HN:=zY hob
          have HBc:=zY hbb
          clear hob hgb hbb
          have HS:=zY (HKS.out _ HBc.out)
          refine hko hK (by exact HS.out) (fun _=>?_)
          clear hK K
          refine zE1 5 fun K hK=>?_
          go_simp
          have HX:=zY (src1B (ρ:=entS) (w0:=wq) (t:=182) HBc.out [.int .i64 k,.string path,.slice Av al.length cv,.string tgt,.int .i64 size,.string dig,.slice Ax xs.length cx] (⟨k,path,al,tgt,size,dig,xs⟩:Ent) HRe.out)
          first|simp only[World.size_alloc]at HX|skip
          first|(have HN:=zY (HN.out.alloc (.cells #[.int .i64 k,.string path,.slice Av al.length cv,.string tgt,.int .i64 size,.string dig,.slice Ax xs.length cx] 182)))|skip
          have HBc:=zY (HBc.out.alloc HBc.out.size (.cells #[.int .i64 k,.string path,.slice Av al.length cv,.string tgt,.int .i64 size,.string dig,.slice Ax xs.length cx] 182))
          rotate_left
          go_simp
          have HX:=zY (src1B (ρ:=entS) (w0:=wq) (t:=182) HBc.out [.int .i64 k,.string path,.slice Av al.length cv,.string tgt,.int .i64 size,.string dig,.slice Ax xs.length cx] (⟨k,path,al,tgt,size,dig,xs⟩:Ent) HRe.out)
          first|simp only[World.size_alloc]at HX|skip
          first|(have HN:=zY (HN.out.alloc (.cells #[.int .i64 k,.string path,.slice Av al.length cv,.string tgt,.int .i64 size,.string dig,.slice Ax xs.length cx] 182)))|skip
          have HBc:=zY (HBc.out.alloc HBc.out.size (.cells #[.int .i64 k,.string path,.slice Av al.length cv,.string tgt,.int .i64 size,.string dig,.slice Ax xs.length cx] 182))
          have HS:=zY (HKS.out _ HBc.out)
          refine hko hK (by exact HS.out) (fun _=>?_)
          clear hK K
          refine zE1 3 fun K hK=>?_
          refine wp_append_seq (ρ:=entS) (w0:=wq) (v:=(.slice (some ⟨_,0,none⟩) 0 0)) Tryz.elemEnt (.tmp 129) (.tmp 131) rfl rfl HN.out rfl (SrcAt.of HCe.out HBc.out) HL3.out HBc.out ?_
          intro vx1 wx1 hob hgb hbb
          first|(have HX:=zY (HX.out.grownB hgb (by simp[Value.ownBlock])))|skip
          have HN:=zY hob
          have HBc:=zY hbb
          clear hob hgb hbb
          rotate_left
         rotate_left 2
         go_simp
         have HX:=zY (src1B (ρ:=entS) (w0:=wq) (t:=182) HBc.out [.int .i64 k,.string path,.slice Av al.length cv,.string tgt,.int .i64 size,.string dig,.slice Ax xs.length cx] (⟨k,path,al,tgt,size,dig,xs⟩:Ent) HRe.out)
         first|simp only[World.size_alloc]at HX|skip
         first|(have HN:=zY (HN.out.alloc (.cells #[.int .i64 k,.string path,.slice Av al.length cv,.string tgt,.int .i64 size,.string dig,.slice Ax xs.length cx] 182)))|skip
         have HBc:=zY (HBc.out.alloc HBc.out.size (.cells #[.int .i64 k,.string path,.slice Av al.length cv,.string tgt,.int .i64 size,.string dig,.slice Ax xs.length cx] 182))
         have HS:=zY (HKS.out _ HBc.out)
         refine hko hK (by exact HS.out) (fun _=>?_)
         clear hK K
         refine zE1 2 fun K hK=>?_
         have q00:=cell_below HBc.out HL0.out
         have q0:((wq.alloc (.cells #[] 182)).alloc (.cells #[.int .i64 k,.string path,.slice Av al.length cv,.string tgt,.int .i64 size,.string dig,.slice Ax xs.length cx] 182)).cell? ⟨w.heap.size,3,none⟩=some (.slice Ae E.length ce):=q00
         clear q00
         go_simp
         clear q0
         refine hko hK (by exact HS.out) (fun _=>?_)
         clear hK K
         refine zE1 3 fun K hK=>?_
         refine wp_append_seq (ρ:=entS) (w0:=wq) (v:=(.slice (some ⟨_,0,none⟩) 0 0)) Tryz.elemEnt (.tmp 129) (.tmp 131) rfl rfl HN.out rfl (SrcAt.of HCe.out HBc.out) HL3.out HBc.out ?_
         intro vx1 wx1 hob hgb hbb
         first|(have HX:=zY (HX.out.grownB hgb (by simp[Value.ownBlock])))|skip
         have HN:=zY hob
         have HBc:=zY hbb
         clear hob hgb hbb
         rotate_left
        rotate_left 3
        focus
         have q00:=cell_below HBc.out HL0.out
         have q0:wq.cell? ⟨w.heap.size,3,none⟩=some (.slice Ae E.length ce):=q00
         clear q00
         go_simp
         clear q0
         refine hko hK (by exact HS.out) (fun _=>?_)
         clear hK K
         refine zEs [0,5] (zEc (fun K hK=>?_) (zEc (fun K hK=>?_) AllReadyH.nil))
         focus
          go_simp
          have HN:=zY (OwnSeq.newAt (ρ:=entS) (t:=182) HBc.out.size)
          first|simp only[World.size_alloc]at HN|skip
          first|(have HX:=zY (HX.out.alloc (.cells #[] 182)))|skip
          have HBc:=zY (HBc.out.alloc HBc.out.size (.cells #[] 182))
          have HS:=zY (HKS.out _ HBc.out)
          refine hko hK (by exact HS.out) (fun _=>?_)
          clear hK K
          refine zEs [3,5] (zEc (fun K hK=>?_) (zEc (fun K hK=>?_) AllReadyH.nil))
          refine wp_append_seq (ρ:=entS) (w0:=wq) (v:=(.slice (some ⟨_,0,none⟩) 0 0)) Tryz.elemEnt (.tmp 129) (.tmp 131) rfl rfl HN.out rfl (SrcAt.of HCe.out HBc.out) HL3.out HBc.out ?_
          intro vx1 wx1 hob hgb hbb
          first|(have HX:=zY (HX.out.grownB hgb (by simp[Value.ownBlock])))|skip
          have HN:=zY hob
          have HBc:=zY hbb
          clear hob hgb hbb
          have HS:=zY (HKS.out _ HBc.out)
          refine hko hK (by exact HS.out) (fun _=>?_)
          clear hK K
          refine zE1 5 fun K hK=>?_
          go_simp
          have HX:=zY (src1B (ρ:=entS) (w0:=wq) (t:=182) HBc.out [.int .i64 k,.string path,.slice Av al.length cv,.string tgt,.int .i64 size,.string dig,.slice Ax xs.length cx] (⟨k,path,al,tgt,size,dig,xs⟩:Ent) HRe.out)
          first|simp only[World.size_alloc]at HX|skip
          first|(have HN:=zY (HN.out.alloc (.cells #[.int .i64 k,.string path,.slice Av al.length cv,.string tgt,.int .i64 size,.string dig,.slice Ax xs.length cx] 182)))|skip
          have HBc:=zY (HBc.out.alloc HBc.out.size (.cells #[.int .i64 k,.string path,.slice Av al.length cv,.string tgt,.int .i64 size,.string dig,.slice Ax xs.length cx] 182))
          rotate_left
          go_simp
          have HX:=zY (src1B (ρ:=entS) (w0:=wq) (t:=182) HBc.out [.int .i64 k,.string path,.slice Av al.length cv,.string tgt,.int .i64 size,.string dig,.slice Ax xs.length cx] (⟨k,path,al,tgt,size,dig,xs⟩:Ent) HRe.out)
          first|simp only[World.size_alloc]at HX|skip
          first|(have HN:=zY (HN.out.alloc (.cells #[.int .i64 k,.string path,.slice Av al.length cv,.string tgt,.int .i64 size,.string dig,.slice Ax xs.length cx] 182)))|skip
          have HBc:=zY (HBc.out.alloc HBc.out.size (.cells #[.int .i64 k,.string path,.slice Av al.length cv,.string tgt,.int .i64 size,.string dig,.slice Ax xs.length cx] 182))
          have HS:=zY (HKS.out _ HBc.out)
          refine hko hK (by exact HS.out) (fun _=>?_)
          clear hK K
          refine zE1 3 fun K hK=>?_
          refine wp_append_seq (ρ:=entS) (w0:=wq) (v:=(.slice (some ⟨_,0,none⟩) 0 0)) Tryz.elemEnt (.tmp 129) (.tmp 131) rfl rfl HN.out rfl (SrcAt.of HCe.out HBc.out) HL3.out HBc.out ?_
          intro vx1 wx1 hob hgb hbb
          first|(have HX:=zY (HX.out.grownB hgb (by simp[Value.ownBlock])))|skip
          have HN:=zY hob
          have HBc:=zY hbb
          clear hob hgb hbb
          rotate_left
         rotate_left 2
         go_simp
         have HX:=zY (src1B (ρ:=entS) (w0:=wq) (t:=182) HBc.out [.int .i64 k,.string path,.slice Av al.length cv,.string tgt,.int .i64 size,.string dig,.slice Ax xs.length cx] (⟨k,path,al,tgt,size,dig,xs⟩:Ent) HRe.out)
         first|simp only[World.size_alloc]at HX|skip
         first|(have HN:=zY (HN.out.alloc (.cells #[.int .i64 k,.string path,.slice Av al.length cv,.string tgt,.int .i64 size,.string dig,.slice Ax xs.length cx] 182)))|skip
         have HBc:=zY (HBc.out.alloc HBc.out.size (.cells #[.int .i64 k,.string path,.slice Av al.length cv,.string tgt,.int .i64 size,.string dig,.slice Ax xs.length cx] 182))
         have HS:=zY (HKS.out _ HBc.out)
         refine hko hK (by exact HS.out) (fun _=>?_)
         clear hK K
         refine zE1 0 fun K hK=>?_
         go_simp
         have HN:=zY (OwnSeq.newAt (ρ:=entS) (t:=182) HBc.out.size)
         first|simp only[World.size_alloc]at HN|skip
         first|(have HX:=zY (HX.out.alloc (.cells #[] 182)))|skip
         have HBc:=zY (HBc.out.alloc HBc.out.size (.cells #[] 182))
         have HS:=zY (HKS.out _ HBc.out)
         refine hko hK (by exact HS.out) (fun _=>?_)
         clear hK K
         refine zE1 3 fun K hK=>?_
         refine wp_append_seq (ρ:=entS) (w0:=wq) (v:=(.slice (some ⟨_,0,none⟩) 0 0)) Tryz.elemEnt (.tmp 129) (.tmp 131) rfl rfl HN.out rfl (SrcAt.of HCe.out HBc.out) HL3.out HBc.out ?_
         intro vx1 wx1 hob hgb hbb
         first|(have HX:=zY (HX.out.grownB hgb (by simp[Value.ownBlock])))|skip
         have HN:=zY hob
         have HBc:=zY hbb
         clear hob hgb hbb
         rotate_left
        rotate_left 3
        focus
         go_simp
         have HX:=zY (src1B (ρ:=entS) (w0:=wq) (t:=182) HBc.out [.int .i64 k,.string path,.slice Av al.length cv,.string tgt,.int .i64 size,.string dig,.slice Ax xs.length cx] (⟨k,path,al,tgt,size,dig,xs⟩:Ent) HRe.out)
         first|simp only[World.size_alloc]at HX|skip
         first|(have HN:=zY (HN.out.alloc (.cells #[.int .i64 k,.string path,.slice Av al.length cv,.string tgt,.int .i64 size,.string dig,.slice Ax xs.length cx] 182)))|skip
         have HBc:=zY (HBc.out.alloc HBc.out.size (.cells #[.int .i64 k,.string path,.slice Av al.length cv,.string tgt,.int .i64 size,.string dig,.slice Ax xs.length cx] 182))
         have HS:=zY (HKS.out _ HBc.out)
         refine hko hK (by exact HS.out) (fun _=>?_)
         clear hK K
         refine zEs [0,2] (zEc (fun K hK=>?_) (zEc (fun K hK=>?_) AllReadyH.nil))
         go_simp
         have HN:=zY (OwnSeq.newAt (ρ:=entS) (t:=182) HBc.out.size)
         first|simp only[World.size_alloc]at HN|skip
         first|(have HX:=zY (HX.out.alloc (.cells #[] 182)))|skip
         have HBc:=zY (HBc.out.alloc HBc.out.size (.cells #[] 182))
         have HS:=zY (HKS.out _ HBc.out)
         refine hko hK (by exact HS.out) (fun _=>?_)
         clear hK K
         refine zE1 2 fun K hK=>?_
         have q00:=cell_below HBc.out HL0.out
         have q0:((wq.alloc (.cells #[.int .i64 k,.string path,.slice Av al.length cv,.string tgt,.int .i64 size,.string dig,.slice Ax xs.length cx] 182)).alloc (.cells #[] 182)).cell? ⟨w.heap.size,3,none⟩=some (.slice Ae E.length ce):=q00
         clear q00
         go_simp
         clear q0
         rotate_left
         have q00:=cell_below HBc.out HL0.out
         have q0:(wq.alloc (.cells #[.int .i64 k,.string path,.slice Av al.length cv,.string tgt,.int .i64 size,.string dig,.slice Ax xs.length cx] 182)).cell? ⟨w.heap.size,3,none⟩=some (.slice Ae E.length ce):=q00
         clear q00
         go_simp
         clear q0
         refine hko hK (by exact HS.out) (fun _=>?_)
         clear hK K
         refine zE1 0 fun K hK=>?_
         go_simp
         have HN:=zY (OwnSeq.newAt (ρ:=entS) (t:=182) HBc.out.size)
         first|simp only[World.size_alloc]at HN|skip
         first|(have HX:=zY (HX.out.alloc (.cells #[] 182)))|skip
         have HBc:=zY (HBc.out.alloc HBc.out.size (.cells #[] 182))
         have HS:=zY (HKS.out _ HBc.out)
         rotate_left
         all_goals
          refine hko hK (by exact HS.out) (fun _=>?_)
          clear hK K
          refine zE1 3 fun K hK=>?_
          refine wp_append_seq (ρ:=entS) (w0:=wq) (v:=(.slice (some ⟨_,0,none⟩) 0 0)) Tryz.elemEnt (.tmp 129) (.tmp 131) rfl rfl HN.out rfl (SrcAt.of HCe.out HBc.out) HL3.out HBc.out ?_
          intro vx1 wx1 hob hgb hbb
          first|(have HX:=zY (HX.out.grownB hgb (by simp[Value.ownBlock])))|skip
          have HN:=zY hob
          have HBc:=zY hbb
          clear hob hgb hbb
        rotate_left 2
        all_goals
         have HS:=zY (HKS.out _ HBc.out)
         refine hko hK (by exact HS.out) (fun _=>?_)
         clear hK K
         refine zE1 6 fun K hK=>?_
         refine wp_append_seq (ρ:=entS) (w0:=wq) (v:=vx1) Tryz.elemEnt (.tmp 132) (.tmp 134) rfl rfl HN.out rfl HX.out HL8.out HBc.out ?_
         intro vx2 wx2 hob hgb hbb
         have HN:=zY hob
         have HBc:=zY hbb
         clear hob hgb hbb
         have HS:=zY (HKS.out _ HBc.out)
         refine hko hK (by exact HS.out) (fun _=>?_)
         clear hK K
         refine tk 7 ?_
         refine zE1 8 fun K hK=>?_
         obtain⟨En,hEn⟩:=zNm ([]++E++[(⟨k,path,al,tgt,size,dig,xs⟩:Ent)])
         have HEn:Hid (En=E++[(⟨k,path,al,tgt,size,dig,xs⟩:Ent)]):=zY (by rw[<-hEn];simp)
         rw[hEn]at HN
         clear hEn
         obtain⟨An,cn,rfl⟩:=HN.out.slice
         have HQn:=zY (HQ.out.below HBc.out)
         have HMn:=zY (HMq.out.below HBc.out)
         have HHn:=zY (HHq.out.below HBc.out)
         have qc:=HQn.out.dr.c 3
         have qz:=HQn.out.dr.frozen 3
         go_simp
         have HS:=zY (HKT.out _ (.slice An En.length cn) HBc.out)
         clear qc qz
         refine hko hK (by exact HS.out) (fun _=>?_)
         clear hK K
         refine wpAnyH_done (by kernel_rfl) ?_ _
         go_wp2_with fail
         go_meet
         exact⟨An,En,cn,rfl,HEn.out,(HQn.out.setD rfl rfl (HN.out.at HBc.out) HMn.out HHn.out)⟩
       case rest=>
        obtain⟨An,En,cn,rfl,hEn,hF⟩:=hcut
        obtain⟨wv,hwv⟩:∃x,x=wc:=⟨_,rfl⟩
        subst hwv
        have HF:=zY hF
        have HEn:=zY hEn
        clear hF hEn HS HBc HKS HKT HL0 HL3 HL8 HCe HRe HQ HMq HHq
        have s0:=HF.out.sb.c 0
        have s1:=HF.out.sb.c 1
        have s2:=HF.out.sb.c 2
        have d0:=HF.out.dr.c 0
        have d1:=HF.out.dr.c 1
        have d2:=HF.out.dr.c 2
        have d3:=HF.out.dr.c 3
        have d4:=HF.out.dr.c 4
        have d5:=HF.out.dr.c 5
        have d6:=HF.out.dr.c 6
        have d7:=HF.out.dr.c 7
        have d8:=HF.out.dr.c 8
        have y0:=HF.out.dr.frozen 0
        have y1:=HF.out.dr.frozen 1
        have y2:=HF.out.dr.frozen 2
        have y3:=HF.out.dr.frozen 3
        have y4:=HF.out.dr.frozen 4
        have y5:=HF.out.dr.frozen 5
        have y6:=HF.out.dr.frozen 6
        have y7:=HF.out.dr.frozen 7
        have y8:=HF.out.dr.frozen 8
        go_upto_region 28 with fail
        have HF2:Hid (AdF w (((((wv.setCell ⟨w.heap.size,4,none⟩ (.slice Ac' C'.length cc')).setCell ⟨w.heap.size,5,none⟩ (.int .i64 sn)).setCell ⟨w.heap.size,6,none⟩ (.string st')).setCell ⟨w.heap.size,7,none⟩ (.slice A5 m5.length c5)).setCell ⟨w.heap.size,8,none⟩ (.slice A9 m9.length c9)) gs [.int .i64 num,.int .i64 date,.string prev,.slice An En.length cn,.slice Ac' C'.length cc',.int .i64 sn,.string st',.slice A5 m5.length c5,.slice A9 m9.length c9] [.slice Ac' C'.length cc',.int .i64 sn,.string st'] _ _ _ _ _ _ _ _):=zY (HF.out.set rfl 4 [.slice Ac' C'.length cc',.int .i64 sn,.string st',.slice A5 m5.length c5,.slice A9 m9.length c9] rfl)
        generalize (((((wv.setCell ⟨w.heap.size,4,none⟩ (.slice Ac' C'.length cc')).setCell ⟨w.heap.size,5,none⟩ (.int .i64 sn)).setCell ⟨w.heap.size,6,none⟩ (.string st')).setCell ⟨w.heap.size,7,none⟩ (.slice A5 m5.length c5)).setCell ⟨w.heap.size,8,none⟩ (.slice A9 m9.length c9))=wu at *
        clear s0 s1 s2 d0 y0 d1 y1 d2 y2 d3 y3 d4 y4 d5 y5 d6 y6 d7 y7 d8 y8 HF
        have d0:=HF2.out.dr.c 0
        have d1:=HF2.out.dr.c 1
        have d2:=HF2.out.dr.c 2
        have d3:=HF2.out.dr.c 3
        have d4:=HF2.out.dr.c 4
        have d5:=HF2.out.dr.c 5
        have d6:=HF2.out.dr.c 6
        have d7:=HF2.out.dr.c 7
        have d8:=HF2.out.dr.c 8
        have z0:=HF2.out.rs.c 0
        have z1:=HF2.out.rs.c 1
        have z2:=HF2.out.rs.c 2
        have z3:=HF2.out.rs.c 3
        have z4:=HF2.out.rs.c 4
        have z5:=HF2.out.rs.c 5
        have z6:=HF2.out.rs.c 6
        have z7:=HF2.out.rs.c 7
        have z8:=HF2.out.rs.c 8
        have y0:=HF2.out.rs.frozen 0
        have y1:=HF2.out.rs.frozen 1
        have y2:=HF2.out.rs.frozen 2
        have y3:=HF2.out.rs.frozen 3
        have y4:=HF2.out.rs.frozen 4
        have y5:=HF2.out.rs.frozen 5
        have y6:=HF2.out.rs.frozen 6
        have y7:=HF2.out.rs.frozen 7
        have y8:=HF2.out.rs.frozen 8
        have HW:=zY (HF2.out.rs.setAll (i:=0) [.int .i64 num,.int .i64 date,.string prev,.slice An En.length cn,.slice Ac' C'.length cc',.int .i64 sn,.string st',.slice A5 m5.length c5,.slice A9 m9.length c9])
        have HBw:=zY (below_setAll (g:=w.heap.size+2) (by omega) [.int .i64 num,.int .i64 date,.string prev,.slice An En.length cn,.slice Ac' C'.length cc',.int .i64 sn,.string st',.slice A5 m5.length c5,.slice A9 m9.length c9] wu 0 HF2.out.bl)
        have HDw:=zY (HF2.out.sq.box HF2.out.rs (grown_setAll (w.heap.size+2) [.int .i64 num,.int .i64 date,.string prev,.slice An En.length cn,.slice Ac' C'.length cc',.int .i64 sn,.string st',.slice A5 m5.length c5,.slice A9 m9.length c9] wu 0) rfl)
        go_wp2_with fail
        refine bodyPost_ret (results_row_tmp rfl _ _ (w.heap.size+2) 163 _ (0,0) _ rfl HW.out Tryz.underlying163 rfl (by kernel_rfl)) rfl ?_
        refine⟨⟨num,date,prev,_,_,_,_,En,C',sn,st',m5,m9,0,rfl,HDw.out,fun _=>⟨rfl,rfl,rfl,⟨_,HEn.out,HEb.out⟩,HC'.out,Hst'.out,HL5.out,HL9.out,fun x hx=>?_,HX9.out⟩⟩,HBw.out⟩
        rcases HX5.out x hx with rfl|hx
        ·exact HEb.out.path
        ·exact HTp.out x hx}
       {
       have f9:(n9 != 0)=true:=by rw[bne_iff_ne];exact h9
       have d0:=HQ.out.dr.c 0
       have d1:=HQ.out.dr.c 1
       have d2:=HQ.out.dr.c 2
       have d3:=HQ.out.dr.c 3
       have d4:=HQ.out.dr.c 4
       have d5:=HQ.out.dr.c 5
       have d6:=HQ.out.dr.c 6
       have d7:=HQ.out.dr.c 7
       have d8:=HQ.out.dr.c 8
       have z0:=HQ.out.rs.c 0
       have z1:=HQ.out.rs.c 1
       have z2:=HQ.out.rs.c 2
       have z3:=HQ.out.rs.c 3
       have z4:=HQ.out.rs.c 4
       have z5:=HQ.out.rs.c 5
       have z6:=HQ.out.rs.c 6
       have z7:=HQ.out.rs.c 7
       have z8:=HQ.out.rs.c 8
       have y0:=HQ.out.rs.frozen 0
       have y1:=HQ.out.rs.frozen 1
       have y2:=HQ.out.rs.frozen 2
       have y3:=HQ.out.rs.frozen 3
       have y4:=HQ.out.rs.frozen 4
       have y5:=HQ.out.rs.frozen 5
       have y6:=HQ.out.rs.frozen 6
       have y7:=HQ.out.rs.frozen 7
       have y8:=HQ.out.rs.frozen 8
       have HW:=zY (HQ.out.rs.setAll (i:=0) [.int .i64 num,.int .i64 date,.string prev,.slice Ae E.length ce,.slice Ac C.length cc,.int .i64 sn,.string st,.slice At T.length ct,.slice Ah H.length ch])
       have HBw:=zY (below_setAll (g:=w.heap.size+2) (by omega) [.int .i64 num,.int .i64 date,.string prev,.slice Ae E.length ce,.slice Ac C.length cc,.int .i64 sn,.string st,.slice At T.length ct,.slice Ah H.length ch] wq 0 HQ.out.bl)
       have HDw:=zY ((Hsq.out.below HQ.out.bl).box HQ.out.rs (grown_setAll (w.heap.size+2) [.int .i64 num,.int .i64 date,.string prev,.slice Ae E.length ce,.slice Ac C.length cc,.int .i64 sn,.string st,.slice At T.length ct,.slice Ah H.length ch] wq 0) rfl)
       go_wp2_with fail
       refine bodyPost_ret (results_row_tmp rfl _ _ (w.heap.size+2) 163 _ (0,0) _ rfl HW.out Tryz.underlying163 rfl (by kernel_rfl)) rfl ?_
       exact⟨⟨_,_,_,_,_,_,_,E,C,sn,st,T,H,n9,rfl,HDw.out,fun h=>absurd h h9⟩,HBw.out⟩}}
     {
     have f5:(n5 != 0)=true:=by rw[bne_iff_ne];exact h5
     have d0:=HA5.out.dr.c 0
     have d1:=HA5.out.dr.c 1
     have d2:=HA5.out.dr.c 2
     have d3:=HA5.out.dr.c 3
     have d4:=HA5.out.dr.c 4
     have d5:=HA5.out.dr.c 5
     have d6:=HA5.out.dr.c 6
     have d7:=HA5.out.dr.c 7
     have d8:=HA5.out.dr.c 8
     have z0:=HA5.out.rs.c 0
     have z1:=HA5.out.rs.c 1
     have z2:=HA5.out.rs.c 2
     have z3:=HA5.out.rs.c 3
     have z4:=HA5.out.rs.c 4
     have z5:=HA5.out.rs.c 5
     have z6:=HA5.out.rs.c 6
     have z7:=HA5.out.rs.c 7
     have z8:=HA5.out.rs.c 8
     have y0:=HA5.out.rs.frozen 0
     have y1:=HA5.out.rs.frozen 1
     have y2:=HA5.out.rs.frozen 2
     have y3:=HA5.out.rs.frozen 3
     have y4:=HA5.out.rs.frozen 4
     have y5:=HA5.out.rs.frozen 5
     have y6:=HA5.out.rs.frozen 6
     have y7:=HA5.out.rs.frozen 7
     have y8:=HA5.out.rs.frozen 8
     have HW:=zY (HA5.out.rs.setAll (i:=0) [.int .i64 num,.int .i64 date,.string prev,.slice Ae E.length ce,.slice Ac C.length cc,.int .i64 sn,.string st,.slice At T.length ct,.slice Ah H.length ch])
     have HBw:=zY (below_setAll (g:=w.heap.size+2) (by omega) [.int .i64 num,.int .i64 date,.string prev,.slice Ae E.length ce,.slice Ac C.length cc,.int .i64 sn,.string st,.slice At T.length ct,.slice Ah H.length ch] w5 0 HA5.out.bl)
     have HDw:=zY ((Hsq.out.below HA5.out.bl).box HA5.out.rs (grown_setAll (w.heap.size+2) [.int .i64 num,.int .i64 date,.string prev,.slice Ae E.length ce,.slice Ac C.length cc,.int .i64 sn,.string st,.slice At T.length ct,.slice Ah H.length ch] w5 0) rfl)
     go_wp2_with fail
     refine bodyPost_ret (results_row_tmp rfl _ _ (w.heap.size+2) 163 _ (0,0) _ rfl HW.out Tryz.underlying163 rfl (by kernel_rfl)) rfl ?_
     exact⟨⟨_,_,_,_,_,_,_,E,C,sn,st,T,H,n5,rfl,HDw.out,fun h=>absurd h h5⟩,HBw.out⟩}}
   {
   have f0:(n != 0)=true:=by rw[bne_iff_ne];exact h0
   have d0:=HA1.out.dr.c 0
   have d1:=HA1.out.dr.c 1
   have d2:=HA1.out.dr.c 2
   have d3:=HA1.out.dr.c 3
   have d4:=HA1.out.dr.c 4
   have d5:=HA1.out.dr.c 5
   have d6:=HA1.out.dr.c 6
   have d7:=HA1.out.dr.c 7
   have d8:=HA1.out.dr.c 8
   have z0:=HA1.out.rs.c 0
   have z1:=HA1.out.rs.c 1
   have z2:=HA1.out.rs.c 2
   have z3:=HA1.out.rs.c 3
   have z4:=HA1.out.rs.c 4
   have z5:=HA1.out.rs.c 5
   have z6:=HA1.out.rs.c 6
   have z7:=HA1.out.rs.c 7
   have z8:=HA1.out.rs.c 8
   have y0:=HA1.out.rs.frozen 0
   have y1:=HA1.out.rs.frozen 1
   have y2:=HA1.out.rs.frozen 2
   have y3:=HA1.out.rs.frozen 3
   have y4:=HA1.out.rs.frozen 4
   have y5:=HA1.out.rs.frozen 5
   have y6:=HA1.out.rs.frozen 6
   have y7:=HA1.out.rs.frozen 7
   have y8:=HA1.out.rs.frozen 8
   have HW:=zY (HA1.out.rs.setAll (i:=0) [.int .i64 num,.int .i64 date,.string prev,.slice Ae E.length ce,.slice Ac C.length cc,.int .i64 sn,.string st,.slice At T.length ct,.slice Ah H.length ch])
   have HBw:=zY (below_setAll (g:=w.heap.size+2) (by omega) [.int .i64 num,.int .i64 date,.string prev,.slice Ae E.length ce,.slice Ac C.length cc,.int .i64 sn,.string st,.slice At T.length ct,.slice Ah H.length ch] w1 0 HA1.out.bl)
   have HDw:=zY ((Hsq.out.below HA1.out.bl).box HA1.out.rs (grown_setAll (w.heap.size+2) [.int .i64 num,.int .i64 date,.string prev,.slice Ae E.length ce,.slice Ac C.length cc,.int .i64 sn,.string st,.slice At T.length ct,.slice Ah H.length ch] w1 0) rfl)
   go_wp2_with fail
   refine bodyPost_ret (results_row_tmp rfl _ _ (w.heap.size+2) 163 _ (0,0) _ rfl HW.out Tryz.underlying163 rfl (by kernel_rfl)) rfl ?_
   exact⟨⟨_,_,_,_,_,_,_,E,C,sn,st,T,H,n,rfl,HDw.out,fun h=>absurd h h0⟩,HBw.out⟩}
end
end Go.Proofs.YthgenkkkapilhaaGreatDoor
