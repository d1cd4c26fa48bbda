/-
  Joined: VpI VpP VqI VqJ FrD EncC.
-/
import Derived.Test.YthgenkkkapilhaaGreatDoorVSn09
import Derived.Test.YthgenkkkapilhaaGreatDoorVSn13
import Derived.Test.YthgenkkkapilhaaGreatDoorVSn15
set_option linter.all false
set_option maxRecDepth 100000
set_option maxHeartbeats 64000000
namespace Go.Proofs.YthgenkkkapilhaaGreatDoor
section
open Go.RowKit
theorem OwnSeq.newAt {α:Type} {ρ:Shape α} {t:TypeId} {w W:World} (h:w.heap.size<=W.heap.size):OwnSeq ρ t w (W.alloc (.cells #[] t)) (.slice (some ⟨W.heap.size,0,none⟩) 0 0) []:=
 ⟨[],⟨(ownV_new W t ρ.n).1,(ownV_new W t ρ.n).2.imp id fun⟨g,cap,cur,e,hB,r⟩=>⟨g,cap,cur,e,by omega,r⟩⟩,.nil⟩
theorem src1B {α:Type} {ρ:Shape α} {w0 w W:World} {t:TypeId} (_:Below w.heap.size w W) (cs:List Value) (x:α) (hr:ρ.R w0 cs x):SrcAt ρ w0 (W.alloc (.cells cs.toArray t)) (.slice (some ⟨W.heap.size,0,none⟩) 1 1) [x]:=SrcAt.lit hr (Blk.new _ _ _)
theorem SrcAt.below {α:Type} {ρ:Shape α} {w0 W W':World} {v:Value} {us:List α} (h:SrcAt ρ w0 W v us) (hb:Below W.heap.size W W'):SrcAt ρ w0 W' v us:=by
 obtain⟨A,c,e,h⟩:=h
 refine⟨A,c,e,fun i x hx=>?_⟩
 obtain⟨b,o,cs,e1,hr,hc⟩:=h i x hx
 exact⟨b,o,cs,e1,hr,fun j u hu=>cell_below hb (hc j u hu)⟩
theorem SrcAt.alloc {α:Type} {ρ:Shape α} {w0 W:World} {v:Value} {us:List α} (h:SrcAt ρ w0 W v us) (o:Obj):SrcAt ρ w0 (W.alloc o) v us:=h.below ((Below.refl _ _).alloc (Nat.le_refl _) _)
theorem cell_lt {W:World} {b o:Nat} {u:Value} (h:W.cell? ⟨b,o,none⟩=some u):b<W.heap.size:=by
 apply Decidable.byContradiction
 intro hn
 have hz:W.heap[b]?=none:=Array.getElem?_eq_none (by omega)
 simp[World.cell?,hz]at h
theorem SrcAt.grownB {α:Type} {ρ:Shape α} {w0 W W':World} {hb:Nat} {us:List α} {r:Option Nat} (h:SrcAt ρ w0 W (.slice (some ⟨hb,0,none⟩) 1 1) us) (hg:W.grownBy W' r) (hne:r≠some hb):SrcAt ρ w0 W' (.slice (some ⟨hb,0,none⟩) 1 1) us:=by
 obtain⟨A,c,e,h⟩:=h
 refine⟨A,c,e,fun i x hx=>?_⟩
 obtain⟨b,o,cs,e1,hr,hc⟩:=h i x hx
 cases e1
 have eb:b=hb:=by simp at e;exact e.1.1.symm
 refine⟨b,o,cs,rfl,hr,fun j u hu=>?_⟩
 have hl:=cell_lt (hc j u hu)
 exact(World.cell?_of_block (hg.block b hl (by rw[eb];exact hne.symm))).trans (hc j u hu)
theorem Blk.grownB {W W':World} {g:Nat} {t:TypeId} {us:List Value} {r:Option Nat} (h:Blk W g t us) (hg:W.grownBy W' r) (hne:r≠some g):Blk W' g t us:=h.of_heap (hg.block g h.lt hne.symm)
theorem SeqAt.drop {α:Type} {ρ:Shape α} {W:World} {b o n c m:Nat} {xs:List α} (h:SeqAt ρ W (.slice (some ⟨b,o,none⟩) n c) xs) (hm:m<=xs.length):SeqAt ρ W (.slice (some ⟨b,o+m*ρ.n,none⟩) (n-m) (c-m)) (xs.drop m):=by
 obtain⟨A',c',e,h1,h2,h3⟩:=h
 cases e
 refine⟨_,_,by rw[List.length_drop],by rw[List.length_drop];omega,by omega,fun i x hx=>?_⟩
 rw[List.getElem?_drop]at hx
 obtain⟨b',o',cs,e,hr,hc⟩:=h3 (m+i) x hx
 cases e
 refine⟨_,_,cs,rfl,hr,fun j u hu=>?_⟩
 rw[<-hc j u hu]
 congr 2
 rw[Nat.add_mul]
 omega
theorem OwnSeq.neB {α:Type} {ρ:Shape α} {t:TypeId} {w W:World} {v:Value} {xs:List α} (h:OwnSeq ρ t w W v xs) {g:Nat} (hg:g<w.heap.size):v.ownBlock≠some g:=fun e=>by
 have:=h.ge g e
 omega
theorem insert38_any (w:World) (v:Value) (l:List Hol) (hv:SeqAt holS w v l) (hl:l.length<=100000) (hz:∀h∈l,h.p.size<=1000000) (p:ByteArray) (u:Int) (hp:p.size<=1000000):
  Calls Tryz.prog 233 #[v,.agg #[.string p,.int .i64 u]] w fun e w'=>RetHols w w' (fun m=>m.length<=l.length+1/\∀h∈m,h=⟨p,u⟩∨h∈l) e/\Below w.heap.size w w':=by
 have HCm:=zY (fun(W:World) (q:ByteArray) (hq:q.size<=1000000)=>compare31_any W p q hp hq)
 have Hz:=zY hz
 have Hla:=zY hl
 obtain⟨A,c,rfl,h1,h2⟩:=hv.slice
 have hK:=Blk.new w 289 [.string p,.int .i64 u]
 change Blk (w.alloc (.cells #[.string p,.int .i64 u] 289)) _ _ _ at hK
 have HK:=zY hK
 have HKl:Hid (w.heap.size<(w.alloc (.cells #[.string p,.int .i64 u] 289)).heap.size):=zY (by rw[World.size_alloc];omega)
 have HB0:=zY (zBl w (.cells #[.string p,.int .i64 u] 289))
 have Hv:=zY (hv.below HB0.out)
 clear hK hv hz hl
 go_enter Tryz.func233,Tryz.ntmps233
 go_upto_region 1 with fail
 generalize w.alloc (.cells #[.string p,.int .i64 u] 289)=wa at *
 go_wp2
 go_loopw [5] (fun x wr=>∃i:Nat,i<=l.length/\x=.int .i64 (i:Int)/\Below wa.heap.size wa wr) (fun x _=>l.length-(intOf x).toNat)
 case atStart=>exact⟨0,by omega,rfl,Below.refl _ _⟩
 case round=>
  obtain⟨i,hi,rfl,hB⟩:=hrel
  have HBc:=zY hB
  have HKc:=zY (HK.out.kept hB)
  clear hB
  by_cases h:i<l.length
  {
  have hiI:(i:Int)<l.length:=by omega
  obtain⟨x,hx⟩:∃x,l[i]?=some x:=⟨_,List.getElem?_eq_getElem h⟩
  have Hxz:=zY (Hz.out x (List.mem_of_getElem? hx))
  obtain⟨_,_,e9,_,_,h4⟩:=Hv.out
  cases e9
  obtain⟨b,o,cs,rfl,rfl,hc⟩:=h4 i x hx
  have HL0:Hid (wa.cell? ⟨b,o+i*2,none⟩=some (.string x.p)):=zY (hc 0 _ rfl)
  obtain⟨q,uq⟩:=x
  dsimp only at HL0 Hxz
  clear hc h4 hx
  have HT:=zY (Hv.out.take (m:=i) hi)
  have HD:=zY (Hv.out.drop (m:=i) hi)
  have HL4:Hid (([]:List Hol).length+(l.take i).length<=100000000):=zY (by have:=Hla.out;rw[List.length_take];simp;omega)
  have HL7:Hid (([]++l.take i).length+1<=100000000):=zY (by have:=Hla.out;simp;omega)
  have HL11:Hid (([]++l.take i++[(⟨p,u⟩:Hol)]).length+(l.drop i).length<=100000000):=zY (by have:=Hla.out;simp;omega)
  have HFin:Hid ((([]++l.take i++[(⟨p,u⟩:Hol)])++l.drop i).length<=l.length+1/\∀h∈(([]++l.take i++[(⟨p,u⟩:Hol)])++l.drop i),h=⟨p,u⟩∨h∈l):=zY (by
   refine⟨by simp;omega,fun h hh=>?_⟩
   simp only[List.nil_append,List.mem_append,List.mem_singleton]at hh
   rcases hh with(hh|hh)|hh
   ·exact .inr (List.mem_of_mem_take hh)
   ·exact .inl hh
   ·exact .inr (List.mem_of_mem_drop hh))
  obtain⟨r,hr⟩:=zNm (l.length-i)
  have hic:(i:Int)<=c:=by omega
  have hicn:i<=c:=by omega
  have hne:¬c=i:=by omega
  clear hr
  have HKc:=zY HKc.out.drewW
  have HBc:=zY HBc.out.drew
  go_upto_region 4 with fail
  refine wp_region_held_drew (S:=(fun W=>W.cell? ⟨w.heap.size,0,none⟩=some (.string p)/\W.cell? ⟨b,o+i*2,none⟩=some (.string q))) (by kernel_rfl) ?_ (fun hHeld=>?_)
  ·exact⟨HKc.out.c 0,cell_below HBc.out HL0.out⟩
  refine tk 0 ?_
  refine tk 1 ?_
  refine tk 2 ?_
  refine tk 3 ?_
  refine tk 4 ?_
  refine tk 5 ?_
  refine tk 6 ?_
  refine zE1 7 fun K hK=>?_
  go_simp
  refine(HCm.out _ q Hxz.out).mono ?_
  rintro e2 w2 ⟨⟨n,rfl⟩,hb2⟩
  (try go_wp2_with fail)
  have HKc:=zY (HKc.out.kept hb2)
  have HBc:=zYt HBc hb2
  clear hb2
  refine hko hK (by exact⟨HKc.out.c 0,cell_below HBc.out HL0.out⟩) (fun _=>?_)
  clear hK K
  refine tk 8 ?_
  refine wpAnyH_done (by kernel_rfl) ?_ _
  go_wp2_with fail
  {
  have HKc:=zY HKc.out.drewW
  have HBc:=zY HBc.out.drew
  refine wp_region_held_drew (S:=(fun W=>W.cell? ⟨w.heap.size,0,none⟩=some (.string p)/\W.cell? ⟨w.heap.size,1,none⟩=some (.int .i64 u))) (by kernel_rfl) ?_ (fun hHeld=>?_)
  ·exact⟨HKc.out.c 0,HKc.out.c 1⟩
  refine tk 1 ?_
  refine tk 2 ?_
  refine tk 3 ?_
  refine tk 5 ?_
  refine tk 8 ?_
  refine tk 9 ?_
  refine tk 10 ?_
  refine zEs [0,6] (zEc (fun K hK=>?_) (zEc (fun K hK=>?_) AllReadyH.nil))
  focus
   go_simp
   have HN:=zY (OwnSeq.newAt (ρ:=holS) (t:=289) HBc.out.size)
   first|simp only[World.size_alloc]at HN|skip
   first|(have HX:=zY (HX.out.alloc (.cells #[] 289)))|skip
   have HKc:=zY (HKc.out.alloc (.cells #[] 289))
   have HBc:=zY (HBc.out.alloc HBc.out.size (.cells #[] 289))
   refine hko hK (by exact⟨HKc.out.c 0,HKc.out.c 1⟩) (fun _=>?_)
   clear hK K
   refine zEs [4,6] (zEc (fun K hK=>?_) (zEc (fun K hK=>?_) AllReadyH.nil))
   refine wp_append_seq (ρ:=holS) (w0:=wa) (v:=(.slice (some ⟨_,0,none⟩) 0 0)) Tryz.elemHol (.tmp 21) (.tmp 24) rfl rfl HN.out rfl (SrcAt.of HT.out HBc.out) HL4.out HBc.out ?_
   intro vx1 wx1 hob hgb hbb
   first|(have HX:=zY (HX.out.grownB hgb (by simp[Value.ownBlock])))|skip
   have HKc:=zY (HKc.out.grownB hgb (by first|exact HN.out.neB HKl.out|(simp[Value.ownBlock];omega)))
   have HN:=zY hob
   have HBc:=zY hbb
   clear hob hgb hbb
   refine hko hK (by exact⟨HKc.out.c 0,HKc.out.c 1⟩) (fun _=>?_)
   clear hK K
   refine zE1 6 fun K hK=>?_
   go_simp
   have HX:=zY (src1B (ρ:=holS) (w0:=wa) (t:=289) HBc.out [.string p,.int .i64 u] ⟨p,u⟩ rfl)
   first|simp only[World.size_alloc]at HX|skip
   first|(have HN:=zY (HN.out.alloc (.cells #[.string p,.int .i64 u] 289)))|skip
   have HKc:=zY (HKc.out.alloc (.cells #[.string p,.int .i64 u] 289))
   have HBc:=zY (HBc.out.alloc HBc.out.size (.cells #[.string p,.int .i64 u] 289))
   rotate_left
   go_simp
   have HX:=zY (src1B (ρ:=holS) (w0:=wa) (t:=289) HBc.out [.string p,.int .i64 u] ⟨p,u⟩ rfl)
   first|simp only[World.size_alloc]at HX|skip
   first|(have HN:=zY (HN.out.alloc (.cells #[.string p,.int .i64 u] 289)))|skip
   have HKc:=zY (HKc.out.alloc (.cells #[.string p,.int .i64 u] 289))
   have HBc:=zY (HBc.out.alloc HBc.out.size (.cells #[.string p,.int .i64 u] 289))
   refine hko hK (by exact⟨HKc.out.c 0,HKc.out.c 1⟩) (fun _=>?_)
   clear hK K
   refine zE1 4 fun K hK=>?_
   refine wp_append_seq (ρ:=holS) (w0:=wa) (v:=(.slice (some ⟨_,0,none⟩) 0 0)) Tryz.elemHol (.tmp 21) (.tmp 24) rfl rfl HN.out rfl (SrcAt.of HT.out HBc.out) HL4.out HBc.out ?_
   intro vx1 wx1 hob hgb hbb
   first|(have HX:=zY (HX.out.grownB hgb (by simp[Value.ownBlock])))|skip
   have HKc:=zY (HKc.out.grownB hgb (by first|exact HN.out.neB HKl.out|(simp[Value.ownBlock];omega)))
   have HN:=zY hob
   have HBc:=zY hbb
   clear hob hgb hbb
   rotate_left
  rotate_left 2
  go_simp
  have HX:=zY (src1B (ρ:=holS) (w0:=wa) (t:=289) HBc.out [.string p,.int .i64 u] ⟨p,u⟩ rfl)
  first|simp only[World.size_alloc]at HX|skip
  first|(have HN:=zY (HN.out.alloc (.cells #[.string p,.int .i64 u] 289)))|skip
  have HKc:=zY (HKc.out.alloc (.cells #[.string p,.int .i64 u] 289))
  have HBc:=zY (HBc.out.alloc HBc.out.size (.cells #[.string p,.int .i64 u] 289))
  refine hko hK (by exact⟨HKc.out.c 0,HKc.out.c 1⟩) (fun _=>?_)
  clear hK K
  refine zE1 0 fun K hK=>?_
  go_simp
  have HN:=zY (OwnSeq.newAt (ρ:=holS) (t:=289) HBc.out.size)
  first|simp only[World.size_alloc]at HN|skip
  first|(have HX:=zY (HX.out.alloc (.cells #[] 289)))|skip
  have HKc:=zY (HKc.out.alloc (.cells #[] 289))
  have HBc:=zY (HBc.out.alloc HBc.out.size (.cells #[] 289))
  refine hko hK (by exact⟨HKc.out.c 0,HKc.out.c 1⟩) (fun _=>?_)
  clear hK K
  refine zE1 4 fun K hK=>?_
  refine wp_append_seq (ρ:=holS) (w0:=wa) (v:=(.slice (some ⟨_,0,none⟩) 0 0)) Tryz.elemHol (.tmp 21) (.tmp 24) rfl rfl HN.out rfl (SrcAt.of HT.out HBc.out) HL4.out HBc.out ?_
  intro vx1 wx1 hob hgb hbb
  first|(have HX:=zY (HX.out.grownB hgb (by simp[Value.ownBlock])))|skip
  have HKc:=zY (HKc.out.grownB hgb (by first|exact HN.out.neB HKl.out|(simp[Value.ownBlock];omega)))
  have HN:=zY hob
  have HBc:=zY hbb
  clear hob hgb hbb
  rotate_left
  all_goals
   refine hko hK (by exact⟨HKc.out.c 0,HKc.out.c 1⟩) (fun _=>?_)
   clear hK K
   refine zE1 7 fun K hK=>?_
   refine wp_append_seq (ρ:=holS) (w0:=wa) (v:=vx1) Tryz.elemHol (.tmp 25) (.tmp 27) rfl rfl HN.out rfl HX.out HL7.out HBc.out ?_
   intro vx2 wx2 hob hgb hbb
   have HKc:=zY (HKc.out.grownB hgb (by first|exact HN.out.neB HKl.out|(simp[Value.ownBlock];omega)))
   have HN:=zY hob
   have HBc:=zY hbb
   clear hob hgb hbb
   refine hko hK (by exact⟨HKc.out.c 0,HKc.out.c 1⟩) (fun _=>?_)
   clear hK K
   refine zE1 11 fun K hK=>?_
   refine wp_append_seq (ρ:=holS) (w0:=wa) (v:=vx2) Tryz.elemHol (.tmp 28) (.tmp 31) rfl rfl HN.out rfl (SrcAt.of HD.out HBc.out) HL11.out HBc.out ?_
   intro vx3 wx3 hob hgb hbb
   have HKc:=zY (HKc.out.grownB hgb (by first|exact HN.out.neB HKl.out|(simp[Value.ownBlock];omega)))
   have HN:=zY hob
   have HBc:=zY hbb
   clear hob hgb hbb
   refine hko hK (by exact⟨HKc.out.c 0,HKc.out.c 1⟩) (fun _=>?_)
   clear hK K
   refine tk 12 ?_
   refine wpAnyH_done (by kernel_rfl) ?_ _
   go_wp2_with fail
   go_ret
   exact⟨⟨_,_,rfl,HN.out.low flatH (Nat.le_of_lt HKl.out),by first|exact HFin.out|(simp only[List.nil_append];exact HFin.out)⟩,HB0.out.trans (HBc.out.mono HB0.out.size)⟩}
  {
  go_roundw
  case rel=>exact⟨i+1,by omega,by go_num,HBc.out⟩
  case measure=>simp[intOf];omega}}
  {
  obtain rfl:i=l.length:=by omega
  have hiI:¬((l.length:Nat):Int)<(l.length:Int):=by omega
  have HL2:Hid (([]:List Hol).length+l.length<=100000000):=zY (by have:=Hla.out;simp;omega)
  have HL5:Hid (([]++l).length+1<=100000000):=zY (by have:=Hla.out;simp;omega)
  have HFin:Hid (([]++l++[(⟨p,u⟩:Hol)]).length<=l.length+1/\∀h∈([]++l++[(⟨p,u⟩:Hol)]),h=⟨p,u⟩∨h∈l):=zY (by
   refine⟨by simp,fun h hh=>?_⟩
   simp only[List.nil_append,List.mem_append,List.mem_singleton]at hh
   rcases hh with hh|hh
   ·exact .inr hh
   ·exact .inl hh)
  have HKc:=zY HKc.out.drewW
  have HBc:=zY HBc.out.drew
  go_upto_region 6 with fail
  refine wp_region_held_drew (S:=(fun W=>W.cell? ⟨w.heap.size,0,none⟩=some (.string p)/\W.cell? ⟨w.heap.size,1,none⟩=some (.int .i64 u))) (by kernel_rfl) ?_ (fun hHeld=>?_)
  ·exact⟨HKc.out.c 0,HKc.out.c 1⟩
  refine tk 1 ?_
  refine tk 3 ?_
  refine zEs [0,4] (zEc (fun K hK=>?_) (zEc (fun K hK=>?_) AllReadyH.nil))
  focus
   go_simp
   have HN:=zY (OwnSeq.newAt (ρ:=holS) (t:=289) HBc.out.size)
   first|simp only[World.size_alloc]at HN|skip
   first|(have HX:=zY (HX.out.alloc (.cells #[] 289)))|skip
   have HKc:=zY (HKc.out.alloc (.cells #[] 289))
   have HBc:=zY (HBc.out.alloc HBc.out.size (.cells #[] 289))
   refine hko hK (by exact⟨HKc.out.c 0,HKc.out.c 1⟩) (fun _=>?_)
   clear hK K
   refine zEs [2,4] (zEc (fun K hK=>?_) (zEc (fun K hK=>?_) AllReadyH.nil))
   refine wp_append_seq (ρ:=holS) (w0:=wa) (v:=(.slice (some ⟨_,0,none⟩) 0 0)) Tryz.elemHol (.tmp 33) (.tmp 34) rfl rfl HN.out rfl (SrcAt.of Hv.out HBc.out) HL2.out HBc.out ?_
   intro vx1 wx1 hob hgb hbb
   first|(have HX:=zY (HX.out.grownB hgb (by simp[Value.ownBlock])))|skip
   have HKc:=zY (HKc.out.grownB hgb (by first|exact HN.out.neB HKl.out|(simp[Value.ownBlock];omega)))
   have HN:=zY hob
   have HBc:=zY hbb
   clear hob hgb hbb
   refine hko hK (by exact⟨HKc.out.c 0,HKc.out.c 1⟩) (fun _=>?_)
   clear hK K
   refine zE1 4 fun K hK=>?_
   go_simp
   have HX:=zY (src1B (ρ:=holS) (w0:=wa) (t:=289) HBc.out [.string p,.int .i64 u] ⟨p,u⟩ rfl)
   first|simp only[World.size_alloc]at HX|skip
   first|(have HN:=zY (HN.out.alloc (.cells #[.string p,.int .i64 u] 289)))|skip
   have HKc:=zY (HKc.out.alloc (.cells #[.string p,.int .i64 u] 289))
   have HBc:=zY (HBc.out.alloc HBc.out.size (.cells #[.string p,.int .i64 u] 289))
   rotate_left
   go_simp
   have HX:=zY (src1B (ρ:=holS) (w0:=wa) (t:=289) HBc.out [.string p,.int .i64 u] ⟨p,u⟩ rfl)
   first|simp only[World.size_alloc]at HX|skip
   first|(have HN:=zY (HN.out.alloc (.cells #[.string p,.int .i64 u] 289)))|skip
   have HKc:=zY (HKc.out.alloc (.cells #[.string p,.int .i64 u] 289))
   have HBc:=zY (HBc.out.alloc HBc.out.size (.cells #[.string p,.int .i64 u] 289))
   refine hko hK (by exact⟨HKc.out.c 0,HKc.out.c 1⟩) (fun _=>?_)
   clear hK K
   refine zE1 2 fun K hK=>?_
   refine wp_append_seq (ρ:=holS) (w0:=wa) (v:=(.slice (some ⟨_,0,none⟩) 0 0)) Tryz.elemHol (.tmp 33) (.tmp 34) rfl rfl HN.out rfl (SrcAt.of Hv.out HBc.out) HL2.out HBc.out ?_
   intro vx1 wx1 hob hgb hbb
   first|(have HX:=zY (HX.out.grownB hgb (by simp[Value.ownBlock])))|skip
   have HKc:=zY (HKc.out.grownB hgb (by first|exact HN.out.neB HKl.out|(simp[Value.ownBlock];omega)))
   have HN:=zY hob
   have HBc:=zY hbb
   clear hob hgb hbb
   rotate_left
  rotate_left 2
  go_simp
  have HX:=zY (src1B (ρ:=holS) (w0:=wa) (t:=289) HBc.out [.string p,.int .i64 u] ⟨p,u⟩ rfl)
  first|simp only[World.size_alloc]at HX|skip
  first|(have HN:=zY (HN.out.alloc (.cells #[.string p,.int .i64 u] 289)))|skip
  have HKc:=zY (HKc.out.alloc (.cells #[.string p,.int .i64 u] 289))
  have HBc:=zY (HBc.out.alloc HBc.out.size (.cells #[.string p,.int .i64 u] 289))
  refine hko hK (by exact⟨HKc.out.c 0,HKc.out.c 1⟩) (fun _=>?_)
  clear hK K
  refine zE1 0 fun K hK=>?_
  go_simp
  have HN:=zY (OwnSeq.newAt (ρ:=holS) (t:=289) HBc.out.size)
  first|simp only[World.size_alloc]at HN|skip
  first|(have HX:=zY (HX.out.alloc (.cells #[] 289)))|skip
  have HKc:=zY (HKc.out.alloc (.cells #[] 289))
  have HBc:=zY (HBc.out.alloc HBc.out.size (.cells #[] 289))
  refine hko hK (by exact⟨HKc.out.c 0,HKc.out.c 1⟩) (fun _=>?_)
  clear hK K
  refine zE1 2 fun K hK=>?_
  refine wp_append_seq (ρ:=holS) (w0:=wa) (v:=(.slice (some ⟨_,0,none⟩) 0 0)) Tryz.elemHol (.tmp 33) (.tmp 34) rfl rfl HN.out rfl (SrcAt.of Hv.out HBc.out) HL2.out HBc.out ?_
  intro vx1 wx1 hob hgb hbb
  first|(have HX:=zY (HX.out.grownB hgb (by simp[Value.ownBlock])))|skip
  have HKc:=zY (HKc.out.grownB hgb (by first|exact HN.out.neB HKl.out|(simp[Value.ownBlock];omega)))
  have HN:=zY hob
  have HBc:=zY hbb
  clear hob hgb hbb
  rotate_left
  all_goals
   refine hko hK (by exact⟨HKc.out.c 0,HKc.out.c 1⟩) (fun _=>?_)
   clear hK K
   refine zE1 5 fun K hK=>?_
   refine wp_append_seq (ρ:=holS) (w0:=wa) (v:=vx1) Tryz.elemHol (.tmp 35) (.tmp 37) rfl rfl HN.out rfl HX.out HL5.out HBc.out ?_
   intro vx2 wx2 hob hgb hbb
   have HKc:=zY (HKc.out.grownB hgb (by first|exact HN.out.neB HKl.out|(simp[Value.ownBlock];omega)))
   have HN:=zY hob
   have HBc:=zY hbb
   clear hob hgb hbb
   refine hko hK (by exact⟨HKc.out.c 0,HKc.out.c 1⟩) (fun _=>?_)
   clear hK K
   refine tk 6 ?_
   refine wpAnyH_done (by kernel_rfl) ?_ _
   go_wp2_with fail
   go_ret
   exact⟨⟨_,_,rfl,HN.out.low flatH (Nat.le_of_lt HKl.out),by first|exact HFin.out|(simp only[List.nil_append];exact HFin.out)⟩,HB0.out.trans (HBc.out.mono HB0.out.size)⟩}
def kd:Value->Nat
 |.int .i64 _=>1
 |.int .u32 _=>2
 |.string _=>3
 |.slice _ _ _=>4
 |_=>0
def noFit (K:List Nat):List Nat->Bool
 |[]=>true
 |a::r=> !(K.isPrefixOf (a::r))&&noFit K r
theorem isPre {K l:List Nat} (h:∀(j:Nat) (a:Nat),K[j]?=some a->l[j]?=some a):K.isPrefixOf l=true:=by
 induction K generalizing l with
 |nil=>cases l<;>rfl
 |cons a K ih=>
  have h0:=h 0 a rfl
  cases l with
  |nil=>cases h0
  |cons b l=>
   obtain rfl:b=a:=by simpa using h0
   rw[List.isPrefixOf,ih (fun j x hj=>by simpa using h (j+1) x (by simpa using hj))]
   simp
theorem noFit_at {K l:List Nat} (h:noFit K l=true) (hK:K≠[]):∀o:Nat,¬∀(j:Nat) (a:Nat),K[j]?=some a->l[o+j]?=some a:=by
 induction l with
 |nil=>
  intro o hp
  cases K with
  |nil=>exact hK rfl
  |cons a K=>cases hp 0 a rfl
 |cons b l ih=>
  rw[noFit,Bool.and_eq_true]at h
  intro o hp
  cases o with
  |zero=>
   have:=isPre (fun j a hj=>by have:=hp j a hj;rwa [Nat.zero_add]at this)
   rw[this]at h
   cases h.1
  |succ o=>
   refine ih h.2 o fun j a hj=>?_
   have:=hp j a hj
   rw[show o+1+j=o+j+1 by omega]at this
   simpa using this
def Box (W:World) (D:Nat) (ks:List Nat):Prop:=∃t us,Blk W D t us/\us.map kd=ks
def Off {α:Type} (ρ:Shape α) (ks:List Nat):Prop:=∀(W W':World) (D:Nat) (v:Value) (xs:List α),Box W D ks->W.grownBy W' (some D)->SeqAt ρ W v xs->SeqAt ρ W' v xs
theorem Off.of {α:Type} {ρ:Shape α} {ks:List Nat} (K:List Nat) (hK:∀w cs x,ρ.R w cs x->cs.map kd=K) (hK0:K≠[]) (hf:noFit K ks=true) (hR:∀W W' D cs x,Box W D ks->W.grownBy W' (some D)->ρ.R W cs x->ρ.R W' cs x):Off ρ ks:=by
 intro W W' D v xs hB hg ⟨A,c,e,h1,h2,h3⟩
 refine⟨A,c,e,h1,h2,fun i x hx=>?_⟩
 obtain⟨b,o,cs,rfl,hr,h4⟩:=h3 i x hx
 refine⟨b,o,cs,rfl,hR W W' D cs x hB hg hr,fun j u hu=>?_⟩
 have hc:=h4 j u hu
 by_cases hb:b=D
 {
 exfalso
 subst hb
 obtain⟨t,us,hU,rfl⟩:=hB
 refine noFit_at hf hK0 (o+i*ρ.n) fun j' a ha=>?_
 rw[<-hK _ _ _ hr,List.getElem?_map]at ha
 obtain⟨u',hu',rfl⟩:=Option.map_eq_some_iff.1 ha
 have hc':=h4 j' u' hu'
 rw[List.getElem?_map]
 unfold Blk at hU
 have:us[o+i*ρ.n+j']?=some u':=by simpa [World.cell?,hU]using hc'
 rw[this]
 rfl}
 ·exact(World.cell?_of_block (hg.block b (cell_lt hc) (fun e=>hb (Option.some.inj e)))).trans hc
theorem Off.flat {α:Type} {ρ:Shape α} {ks:List Nat} (hF:Flat ρ) (K:List Nat) (hK:∀w cs x,ρ.R w cs x->cs.map kd=K) (hK0:K≠[]) (hf:noFit K ks=true):Off ρ ks:=
 Off.of K hK hK0 hf fun _ _ _ _ _ _ _ h=>hF _ _ _ _ h
theorem flatA:Flat atrS:=fun _ _ _ _ h=>h
theorem SeqAt.kd {α:Type} {ρ:Shape α} {W:World} {v:Value} {xs:List α} (h:SeqAt ρ W v xs):kd v=4:=by
 obtain⟨A,c,rfl,_⟩:=h
 rfl
theorem off_atr {ks:List Nat} (hf:noFit [3,3] ks=true):Off atrS ks:=Off.flat flatA [3,3] (fun _ _ _ h=>by rw[h];rfl) (by decide) hf
theorem off_ext {ks:List Nat} (hf:noFit [1,1,1] ks=true):Off extS ks:=Off.flat flatX [1,1,1] (fun _ _ _ h=>by rw[h];rfl) (by decide) hf
theorem off_chk {ks:List Nat} (hf:noFit [3,1,1,1] ks=true):Off chkS ks:=Off.flat flatC [3,1,1,1] (fun _ _ _ h=>by rw[h];rfl) (by decide) hf
theorem off_hol {ks:List Nat} (hf:noFit [3,1] ks=true):Off holS ks:=Off.flat flatH [3,1] (fun _ _ _ h=>by rw[h];rfl) (by decide) hf
theorem off_ent {ks:List Nat} (hf:noFit [1,3,4,3,1,3,4] ks=true) (hx:noFit [1,1,1] ks=true) (ha:noFit [3,3] ks=true):Off entS ks:=by
 refine Off.of [1,3,4,3,1,3,4] ?_ (by decide) hf ?_
 {
 rintro w cs x ⟨va,vx,rfl,h1,h2⟩
 simp only[List.map_cons,List.map_nil,h1.kd,h2.kd]
 rfl}
 {
 rintro W W' D cs x hB hg ⟨va,vx,rfl,h1,h2⟩
 exact⟨va,vx,rfl,off_atr ha W W' D _ _ hB hg h1,off_ext hx W W' D _ _ hB hg h2⟩}
theorem off_ses {ks:List Nat} (hf:noFit [1,1,3,4,3,3] ks=true) (he:noFit [1,3,4,3,1,3,4] ks=true) (hx:noFit [1,1,1] ks=true) (ha:noFit [3,3] ks=true):Off sesS ks:=by
 refine Off.of [1,1,3,4,3,3] ?_ (by decide) hf ?_
 {
 rintro w cs x ⟨va,rfl,h1⟩
 simp only[List.map_cons,List.map_nil,h1.kd]
 rfl}
 {
 rintro W W' D cs x hB hg ⟨va,rfl,h1⟩
 exact⟨va,rfl,off_ent he hx ha W W' D _ _ hB hg h1⟩
}
theorem grown_set (W:World) (D i:Nat) (u:Value):W.grownBy (W.setCell ⟨D,i,none⟩ u) (some D):=
 ⟨rfl,rfl,rfl,by simp[World.setCell],fun k _ hk=>Below.heap_setCell W ⟨D,i,none⟩ u k (fun e=>hk (by rw[e]))⟩
theorem OwnSeq.neT {α:Type} {ρ:Shape α} {t t':TypeId} {w W:World} {v:Value} {xs:List α} (h:OwnSeq ρ t w W v xs) {D:Nat} {us:List Value} (hB:Blk W D t' us) (ht:t≠t'):v.ownBlock≠some D:=by
 obtain⟨css,ho,_⟩:=h
 rcases ho.2 with⟨rfl,_⟩|⟨g,cap,cur,rfl,_,hg,_⟩
 ·exact fun e=>nomatch e
 {
 intro e
 have:g=D:=by simpa [Value.ownBlock]using e
 subst this
 rw[Blk]at hB
 rw[hB]at hg
 injection hg with hg
 injection hg with _ hg
 exact ht hg.symm}
theorem OwnSeq.neO {α β:Type} {ρ:Shape α} {σ:Shape β} {t t':TypeId} {w w' W:World} {v v':Value} {xs:List α} {ys:List β} (h:OwnSeq ρ t w W v xs) (h':OwnSeq σ t' w' W v' ys) (ht:t≠t'):v.ownBlock=none∨v.ownBlock≠v'.ownBlock:=by
 obtain⟨css,ho,_⟩:=h
 obtain⟨css',ho',_⟩:=h'
 rcases ho.2 with⟨rfl,_⟩|⟨g,cap,cur,rfl,_,hg,_⟩
 ·exact .inl rfl
 {
 refine .inr fun e=>?_
 rcases ho'.2 with⟨rfl,_⟩|⟨g',cap',cur',rfl,_,hg',_⟩
 ·cases e
 {
 have:g=g':=by simpa [Value.ownBlock]using e
 subst this
 rw[hg']at hg
 injection hg with hg
 injection hg with _ hg
 exact ht hg.symm}}
theorem OwnSeq.grown {α:Type} {ρ:Shape α} {t:TypeId} {w W W':World} {v:Value} {xs:List α} {r:Option Nat} (h:OwnSeq ρ t w W v xs) (hg:W.grownBy W' r) (hne:v.ownBlock=none∨v.ownBlock≠r):OwnSeq ρ t w W' v xs:=by
 obtain⟨css,ho,hb⟩:=h
 exact⟨css,ho.kept hg hne,hb⟩
structure Tab (w:World):Prop where
 pow : Lib.TabIs Tryz.prog w "internal/strconv.uint64pow10" .u64 Lib.pow10Tab
 most:∃m:Int,w.cell? ⟨1,0,none⟩=some (.int .i64 m)
theorem var_below {w w':World} {n:String} {cs:Array Value} (h:w.var? Tryz.prog n=some cs) (hb:Below w.heap.size w w'):w'.var? Tryz.prog n=some cs:=by
 unfold World.var? at h⊢
 cases hg:Tryz.prog.globalNamed n with
 |none=>rw[hg]at h;cases h
 |some g=>
  rw[hg]at h
  simp only[Option.bind_some]at h⊢
  have hlt:g<w.heap.size:=by
   rcases Nat.lt_or_ge g w.heap.size with h'|h'
   ·exact h'
   ·rw[Array.getElem?_eq_none h']at h;cases h
  rw[hb.block g hlt]
  exact h
theorem Tab.below {w w':World} (h:Tab w) (hb:Below w.heap.size w w'):Tab w':=⟨var_below h.pow hb,h.most.imp fun _ hm=>cell_below hb hm⟩
theorem blwN {B:Nat} {a w:World} (h:Below B a w) (n:Nat):Below B a (w.drewN n):=h.trans ⟨rfl,rfl,rfl,Nat.le_refl _,fun _ _=>rfl⟩
theorem itoa_any (w:World) (n:Nat) (hn:n<9223372036854775808) (hT:Tab w):Calls Tryz.prog 54 #[.int .i64 (n:Int)] w fun e w'=>e=.returned (.string (strB (digD n)))/\Below w.heap.size w w':=by
 refine(Tryz.strconv_Itoa (n:Int) (by omega) (by omega) w hT.pow).mono ?_
 rintro e w' ⟨rfl,k,os,rfl⟩
 refine⟨by rw[itoaB],rfl,rfl,rfl,?_,fun j hj=>?_⟩
 {
 show w.heap.size<=(w.heap++os).size
 rw[Array.size_append]
 omega}
 {
 show (w.heap++os)[j]?=_
 rw[Array.getElem?_append_left hj]
}
theorem nnumber_any (w:World) (n:Nat) (hn:n<9223372036854775808) (hT:Tab w):Calls Tryz.prog 72 #[.int .i64 (n:Int)] w fun e w'=>e=.returned (.string (strB (numL n)))/\Below w.heap.size w w':=by
 have H1:=zY (itoa_any w n hn hT)
 have hs1:(strB (digD n)).size<=20:=by rw[strB_size];exact digD_len20 (by omega)
 have Hc:Hid (strB (digD n)++⟨#[32]⟩=strB (numL n)):=zY (strB_cat (digD n) [32])
 generalize strB (digD n)=Q at *
 have hcc:¬9223372036854775807<Q.size+1:=by omega
 go_enter Tryz.func72,Tryz.ntmps72
 go_wp2_with fail
 refine H1.out.mono ?_
 rintro e1 w1 ⟨rfl,hb1⟩
 have HB1:=zY hb1
 clear hb1
 go_wp2_with fail
 go_ret
 exact⟨by rw[<-Hc.out]<;>rfl,HB1.out⟩
theorem nnstring_any (w:World) (s:ByteArray) (hs:s.size<=100000000) (hT:Tab w):Calls Tryz.prog 53 #[.string s] w fun e w'=>e=.returned (.string (strB (nstL (bs s))))/\Below w.heap.size w w':=by
 have H1:=zY (itoa_any w s.size (by omega) hT)
 have hs1:(strB (digD s.size)).size<=20:=by rw[strB_size];exact digD_len20 (by omega)
 have hc:strB (digD s.size)++⟨#[58]⟩++s++⟨#[44]⟩=strB (nstL (bs s)):=by
  have e1:=strB_cat (digD s.size) [58]
  have e2:=strB_cat (digD s.size++[58]) (bs s)
  have e3:=strB_cat (digD s.size++[58]++bs s) [44]
  rw[strB_bs]at e2
  rw[<-e1]at e2
  rw[<-e2]at e3
  rw[nstL,bs_len]
  exact e3
 have Hc:=zY hc
 clear hc
 generalize strB (digD s.size)=Q at *
 have hcc:¬9223372036854775807<Q.size+1:=by omega
 have hcd:¬9223372036854775807<Q.size+1+s.size:=by omega
 have hce:¬9223372036854775807<Q.size+1+s.size+1:=by omega
 go_enter Tryz.func53,Tryz.ntmps53
 go_wp2_with fail
 refine H1.out.mono ?_
 rintro e1 w1 ⟨rfl,hb1⟩
 have HB1:=zY hb1
 clear hb1
 go_wp2_with fail
 go_ret
 exact⟨by rw[<-Hc.out]<;>rfl,HB1.out⟩
theorem any_yesS {α:Type} {l:List α} {p:α->Bool} (k:Nat) (y:α) (h:l[k]?=some y) (hy:p y=true):l.any p=true:=
 List.any_eq_true.2 ⟨y,List.mem_of_getElem? h,hy⟩
theorem any_noS {α:Type} {l:List α} {p:α->Bool} (h:∀(k:Nat) (y:α),l[k]?=some y->p y=false):l.any p=false:=by
 rw[List.any_eq_false]
 intro y hy
 obtain⟨k,hk⟩:=List.mem_iff_getElem?.1 hy
 simpa using h k y hk
def JudgeS (g:Nat) (lb:Array Value) (p:ByteArray->Bool) (l:List ByteArray) (w:World):Prop:=
 ∀(W:World) (x:ByteArray),Below w.heap.size w W->x∈l->Calls Tryz.prog g (#[.string x]++lb) W fun e w'=>e=.returned (.bool (p x))/\Below W.heap.size W w'
theorem idxStr_any (w:World) (v:Value) (l:List ByteArray) (hl:SeqAt strS w v l) (g:Nat) (lb:Array Value) (eg:∀args w,(callFunc g args).run Tryz.prog w=.ok (.enter g args) w) (p:ByteArray->Bool) (hp:JudgeS g lb p l w):
  Calls Tryz.prog 297 #[v,.func (.func g) #[] lb] w fun e w'=>(∃n:Int,e=.returned (.int .i64 n)/\(l.any p=true↔0<=n))/\Below w.heap.size w w':=by
 have HL:=zY hl
 obtain⟨A,c,rfl,h1,h2⟩:=hl.slice
 have HP:=zY hp
 obtain⟨R,hR⟩:=zNm (l.any p)
 rw[hR]
 have HR:=zY hR
 clear hl hp hR
 go_enter Tryz.func297,Tryz.ntmps297
 go_wp2
 go_loopw [8] (fun i wr=>∃k:Nat,k<=l.length/\i=.int .i64 k/\(∀(j:Nat) (y:ByteArray),j<k->l[j]?=some y->p y=false)/\Below w.heap.size w wr) (fun i _=>l.length-(intOf i).toNat)
 case atStart=>exact⟨0,Nat.zero_le _,rfl,fun j r h=>absurd h (Nat.not_lt_zero _),Below.refl _ _⟩
 case round=>
  obtain⟨k,hk,rfl,hr,hB⟩:=hrel
  have Hr:=zY hr
  have HB:=zY hB
  clear hr hB
  by_cases hlt:k<l.length
  {
  have hkI:(k:Int)<l.length:=by omega
  obtain⟨x,hx⟩:∃x,l[k]?=some x:=⟨_,List.getElem?_eq_getElem hlt⟩
  have Hx:=zY hx
  obtain⟨_,_,e9,_,_,h4⟩:=HL.out.below HB.out
  cases e9
  obtain⟨b,o,cs,rfl,rfl,hc⟩:=h4 k x hx
  have e0:wr.cell? ⟨b,o+k*1,none⟩=some (.string x):=hc 0 _ rfl
  rw[Nat.mul_one]at e0
  have HC:=zY (HP.out wr x HB.out (List.mem_of_getElem? hx))
  have HPx:Hid (Below w.heap.size w wr):=zY HB.out
  clear hc h4 hx
  obtain⟨q,hq⟩:=zNm (p x)
  have HQ:=zY hq
  rw[hq]at HC
  clear hq
  go_wp2_with fail
  refine HC.out.mono ?_
  rintro e w2 ⟨rfl,hb2⟩
  have HB2:=zYt HPx hb2
  clear hb2
  cases q with
  |true=>
   go_wp2
   go_ret
   exact⟨⟨k,rfl,by rw[<-HR.out,any_yesS k x Hx.out HQ.out];simp⟩,HB2.out⟩
  |false=>
   go_wp2
   go_roundw
   case rel=>
    refine⟨k+1,by omega,by go_num,fun j r hj he=>?_,HB2.out⟩
    rcases Nat.lt_succ_iff_lt_or_eq.1 hj with h|rfl
    ·exact Hr.out j r h he
    {
    rw[Hx.out]at he
    cases he
    exact HQ.out}
   case measure=>simp[intOf];omega}
  {
  have hkI:¬(k:Int)<l.length:=by omega
  go_wp2
  go_ret
  exact⟨⟨-1,rfl,by rw[<-HR.out,any_noS fun j r he=>Hr.out j r (by have:=(List.getElem?_eq_some_iff.1 he).1;omega) he];simp⟩,HB.out⟩
}
theorem contStr_any (w:World) (v:Value) (l:List ByteArray) (hl:SeqAt strS w v l) (g:Nat) (lb:Array Value) (eg:∀args w,(callFunc g args).run Tryz.prog w=.ok (.enter g args) w) (p:ByteArray->Bool) (hp:JudgeS g lb p l w):
  Calls Tryz.prog 235 #[v,.func (.func g) #[] lb] w fun e w'=>e=.returned (.bool (l.any p))/\Below w.heap.size w w':=by
 have H:=zY (idxStr_any w v l hl g lb eg p hp)
 obtain⟨A,c,rfl,h1,h2⟩:=hl.slice
 clear hl hp
 go_enter Tryz.func235,Tryz.ntmps235
 go_wp2_with (go_at_call 297;refine H.out.mono ?_;rintro e w' ⟨⟨n,rfl,hn⟩,hb⟩;have HB:=zY hb;have HN:=zY hn;clear hb hn)
 go_ret
 refine⟨ret_bool' ?_,HB.out⟩
 have hn:=HN.out
 cases hb:l.any p with
 |false=>rw[hb]at hn;exact decide_eq_false (fun h=>by have:=hn.2 h;cases this)
 |true=>rw[hb]at hn;exact decide_eq_true (hn.1 rfl)
theorem allowed_any (w:World) (c:Nat):Calls Tryz.prog 388 #[.int .i32 (c:Int)] w fun e w'=>e=.returned (.bool (okC c))/\w=w':=by
 obtain⟨R,hR⟩:=zNm (okC c)
 rw[hR]
 unfold okC at hR
 have HR:=zY hR
 clear hR
 by_cases a:97<=c
 {
 have ai:(97:Int)<=c:=by omega
 by_cases b:c<=122
 {
 have bi:(c:Int)<=122:=by omega
 have HT:Hid (R=true):=zY (by rw[<-HR.out];exact decide_eq_true (by omega))
 go_enter Tryz.func388,Tryz.ntmps388
 go_wp2
 go_ret
 exact⟨by rw[HT.out]<;>rfl,rfl⟩}
 {
 have bi:¬(c:Int)<=122:=by omega
 have e1:(48:Int)<=c:=by omega
 have e2:¬(c:Int)<=57:=by omega
 have e3:((c:Int)==46)=false:=by rw[beq_eq_false_iff_ne];omega
 have e4:((c:Int)==95)=false:=by rw[beq_eq_false_iff_ne];omega
 have e5:((c:Int)==45)=false:=by rw[beq_eq_false_iff_ne];omega
 have HT:Hid (R=false):=zY (by rw[<-HR.out];exact decide_eq_false (by omega))
 go_enter Tryz.func388,Tryz.ntmps388
 go_wp2
 go_ret
 exact⟨by rw[HT.out]<;>rfl,rfl⟩}}
 {
 have ai:¬(97:Int)<=c:=by omega
 by_cases d:48<=c/\c<=57
 {
 have e1:(48:Int)<=c:=by omega
 have e2:(c:Int)<=57:=by omega
 have HT:Hid (R=true):=zY (by rw[<-HR.out];exact decide_eq_true (by omega))
 go_enter Tryz.func388,Tryz.ntmps388
 go_wp2
 go_ret
 exact⟨by rw[HT.out]<;>rfl,rfl⟩}
 {
 obtain⟨q1,h1⟩:=zNm (((c:Int)==46))
 obtain⟨q2,h2⟩:=zNm (((c:Int)==95))
 obtain⟨q3,h3⟩:=zNm (((c:Int)==45))
 have HT:Hid (R=(q1||(q2||q3))):=zY (by
  rw[<-HR.out,<-h1,<-h2,<-h3,Bool.eq_iff_iff]
  simp only[decide_eq_true_eq,Bool.or_eq_true,beq_iff_eq]
  omega)
 have hz:(¬(48:Int)<=c)∨((48:Int)<=c/\¬(c:Int)<=57):=by omega
 clear d HR
 rcases hz with f1|⟨f1,f2⟩<;>cases q1<;>cases q2<;>cases q3<;>
 {
 go_enter Tryz.func388,Tryz.ntmps388
 go_wp2
 go_ret
 exact⟨by rw[HT.out]<;>rfl,rfl⟩
}}}
theorem comp1_any (w:World) (c:Nat):Calls Tryz.prog 387 #[.int .i32 (c:Int)] w fun e w'=>e=.returned (.bool (!okC c))/\w=w':=by
 have H:=zY (fun W=>allowed_any W c)
 obtain⟨q,hq⟩:=zNm (okC c)
 rw[hq]at H⊢
 go_enter Tryz.func387,Tryz.ntmps387
 go_wp2_with fail
 refine(H.out _).mono ?_
 rintro e1 w1 ⟨rfl,rfl⟩
 go_wp2_with fail
 go_ret
 exact⟨rfl,rfl⟩
theorem okC_lt {c:Nat} (h:okC c=true):c<128:=by
 have:=of_decide_eq_true h
 omega
theorem pcomp_any (w:World) (s:ByteArray) (h:compB (bs s)=true):Calls Tryz.prog 362 #[.string s] w fun e w'=>e=.returned (.bool true)/\Below w.heap.size w w':=by
 rw[compB,Bool.and_eq_true,bs_len]at h
 obtain⟨h1,h2⟩:=h
 obtain⟨a1,a2,a3,a4⟩:=of_decide_eq_true h1
 have hx:∀W,Calls Tryz.prog 386 #[.string s,.func (.func 387) #[] #[]] W fun e w'=>e=.returned (.bool false)/\Below W.heap.size W w':=fun W=>by
  refine(Tryz.strings_ContainsFunc 387 #[] (enters_of Tryz.func387 (by kernel_rfl) rfl) (fun c=> !okC c) s W (fun W' x _=>(comp1_any W' x).mono fun e w' ⟨he,hw⟩=>⟨he,0,hw.symm⟩)).mono ?_
  rintro e w' ⟨rfl,hb⟩
  refine⟨?_,hb⟩
  rw[show Lib.idxFunc (fun c=> !okC c) true s= -1 from idx_none (fun b hb=>?_) _ _]
  ·rfl
  {
  have:=List.all_eq_true.1 h2 b hb
  exact⟨okC_lt this,by rw[this];rfl⟩}
 have HX:=zY hx
 have i1:(1:Int)<=s.size:=by omega
 have i2:(s.size:Int)<=32:=by omega
 have n1:s≠⟨#[46]⟩:=fun e=>a3 (by rw[e];rfl)
 have n2:s≠⟨#[46,46]⟩:=fun e=>a4 (by rw[e];rfl)
 have F1:Hid ((s.toList==[46])=false):=zY (beq_eq_false_iff_ne.2 fun e=>n1 (toListV.1 e))
 have F2:Hid ((s.toList==[46,46])=false):=zY (beq_eq_false_iff_ne.2 fun e=>n2 (toListV.1 e))
 have e1:s.toList≠[46]:=fun e=>n1 (toListV.1 e)
 have e2:s.toList≠[46,46]:=fun e=>n2 (toListV.1 e)
 clear h1 h2 a1 a2 a3 a4 hx n1 n2
 go_enter Tryz.func362,Tryz.ntmps362
 go_wp2_with fail
 refine(HX.out _).mono ?_
 rintro e1 w1 ⟨rfl,hb⟩
 have HB:=zY hb
 clear hb
 go_wp2_with fail
 go_ret
 exact⟨ret_bool' (by rw[F1.out,F2.out];rfl),HB.out⟩
theorem pcheck1_any (w:World) (s:ByteArray) (h:compB (bs s)=true):Calls Tryz.prog 361 #[.string s] w fun e w'=>e=.returned (.bool false)/\Below w.heap.size w w':=by
 have H:=zY (fun W=>pcomp_any W s h)
 clear h
 go_enter Tryz.func361,Tryz.ntmps361
 go_wp2_with fail
 refine(H.out _).mono ?_
 rintro e1 w1 ⟨rfl,hb⟩
 have HB:=zY hb
 clear hb
 go_wp2_with fail
 go_ret
 exact⟨rfl,HB.out⟩
theorem SeqAt.strs (W:World) (L:List ByteArray) (c:Nat) (hc:L.length<=c) (h63:c<=9223372036854775807):SeqAt strS (W.alloc (.cells (L.map Value.string).toArray 9)) (.slice (some ⟨W.heap.size,0,none⟩) L.length c) L:=by
 refine⟨_,_,rfl,hc,h63,fun i x hx=>⟨W.heap.size,0,[.string x],rfl,rfl,fun j u hu=>?_⟩⟩
 cases j with
 |zero=>
  obtain rfl:Value.string x=u:=by simpa using hu
  show (W.alloc _).cell? ⟨W.heap.size,0+i*1+0,none⟩=_
  rw[Nat.zero_add,Nat.mul_one,Nat.add_zero]
  exact(Blk.new W 9 (L.map Value.string)).cell (by rw[List.getElem?_map,hx];rfl)
 |succ j=>simp at hu
theorem pelems_any (w:World) (s:ByteArray) (hs:s.size<=1000000) (hT:Tab w):Calls Tryz.prog 360 #[.string s] w fun e w'=>(∃v,e=.returned v/\SeqAt strS w' v ((elemsL (bs s)).map strB))/\Below w.heap.size w w':=by
 by_cases h0:s.size=0
 {
 have e0:s=⟨#[]⟩:=by
  apply ByteArray.ext
  exact Array.eq_empty_of_size_eq_zero h0
 subst e0
 clear h0
 go_enter Tryz.func360,Tryz.ntmps360
 go_wp2
 go_ret
 first|exact⟨⟨_,rfl,SeqAt.nil _⟩,Below.refl _ _⟩|exact⟨_,rfl,SeqAt.nil _,Below.refl _ _⟩}
 {
 have hb0:s.toList.isEmpty=false:=isEmptyV h0
 obtain⟨m,hm⟩:=hT.most
 have HC:=zY (Tryz.strings_Split s ⟨#[47]⟩ m w (by omega) hm (by decide))
 have HE:Hid ((elemsL (bs s)).map strB=Lib.splitB ⟨#[47]⟩ 0 (Lib.countB s ⟨#[47]⟩) s):=zY (by
  rw[splits_elems,elemsL,if_neg]
  intro e
  have:=congrArg List.length e
  rw[bs_len]at this
  exact h0 (by simpa using this))
 have HN:Hid (Lib.countB s ⟨#[47]⟩+1=(Lib.splitB ⟨#[47]⟩ 0 (Lib.countB s ⟨#[47]⟩) s).length/\Lib.countB s ⟨#[47]⟩<=s.size):=zY ⟨(Lib.splitB_all ⟨#[47]⟩ (by decide) 0 _ s rfl).symm,Lib.countB_le ⟨#[47]⟩ (by decide) s.size s (Nat.le_refl _)⟩
 clear hm h0
 go_enter Tryz.func360,Tryz.ntmps360
 go_wp2_with fail
 refine HC.out.mono ?_
 rintro e1 w1 ⟨rfl,rfl⟩
 go_wp2_with fail
 go_ret
 have key:SeqAt strS (w.alloc (.cells ((Lib.splitB ⟨#[47]⟩ 0 (Lib.countB s ⟨#[47]⟩) s).map Value.string).toArray 9)) (.slice (some ⟨w.heap.size,0,none⟩) (Lib.countB s ⟨#[47]⟩+1:Nat) (Lib.countB s ⟨#[47]⟩+1:Nat)) ((elemsL (bs s)).map strB):=by
  rw[HE.out,HN.out.1]
  exact SeqAt.strs w _ _ (Nat.le_refl _) (by have:=HN.out;omega)
 first|exact⟨⟨_,rfl,key⟩,(Below.refl _ _).alloc (Nat.le_refl _) _⟩|exact⟨_,rfl,key,(Below.refl _ _).alloc (Nat.le_refl _) _⟩
}
theorem pcheck_ok (w:World) (s:ByteArray) (h:pathE (bs s)=0) (hT:Tab w):Calls Tryz.prog 312 #[.string s] w fun e w'=>e=.returned (.int .i64 0)/\Below w.heap.size w w':=by
 unfold pathE at h
 split at h
 ·cases h
 rename_i h1
 split at h
 ·cases h
 rename_i h2
 split at h
 {
 rename_i h3
 rw[bs_len]at h1
 have HE:=zY (pelems_any w s (by omega) hT)
 have HA:Hid (∀x∈(elemsL (bs s)).map strB,compB (bs x)=true):=zY (fun x hx=>by
  obtain⟨l,hl,rfl⟩:=List.mem_map.1 hx
  rw[bs_strB (elemsL_bytes (bs_lt s) l hl)]
  exact List.all_eq_true.1 h3 l hl)
 obtain⟨L,hL⟩:=zNm ((elemsL (bs s)).map strB)
 have hl:L.length<=8:=by rw[<-hL,List.length_map];omega
 rw[hL]at HE HA
 have HF:Hid (L.any (fun _=>false)=false):=zY (by rw[List.any_eq_false];intro x _;decide)
 have i1:¬(200:Int)<s.size:=by omega
 clear h h1 h2 h3 hL
 have i2:¬(8:Int)<L.length:=by omega
 go_enter Tryz.func312,Tryz.ntmps312
 go_wp2_with fail
 refine HE.out.mono ?_
 rintro e1 w1 ⟨⟨v,rfl,hv⟩,hb⟩
 have HB:=zY hb
 have HC:=zY (contStr_any w1 v L hv 361 #[] (enters_of Tryz.func361 (by kernel_rfl) rfl) (fun _=>false) (fun W x _ hx=>pcheck1_any W x (HA.out x hx)))
 rw[HF.out]at HC
 obtain⟨A,c,rfl,_,_⟩:=hv.slice
 clear hb hv
 go_wp2_with fail
 refine HC.out.mono ?_
 rintro e2 w2 ⟨rfl,hb2⟩
 have HB2:=zYt HB hb2
 clear hb2
 go_wp2_with fail
 go_ret
 exact⟨rfl,HB2.out⟩}
 ·cases h
theorem bitsS_01 {u:List Nat} (h:Bits u):B01 (bitsS u):=fun c hc=>by
 obtain⟨x,hx,rfl⟩:=List.mem_map.1 hc
 have:=h x hx
 omega
end
section
open Go.RowKit Go.Shelf
attribute [local go_sem] Oper.semAt_some
theorem Bld.moved {A B:World} {K b:Nat} {l:List Nat} (h:Bld A K b l) (hc:∀(k:Nat) (o:Obj),A.heap[k]?=some o->o.isCells=true->B.heap[k]?=some o):Bld B K b l:=by
 have key:∀p,Lib.BuilderAtF 135 5 K b p (l.map u8V) A->Lib.BuilderAtF 135 5 K b p (l.map u8V) B:=by
  rintro p ⟨hB,v,hb,hown,hne⟩
  refine⟨hB,v,hc _ _ hb rfl,⟨hown.1,?_⟩,hne⟩
  rcases hown.2 with hn|⟨g,cap,cur,fz,hv,hbg,hg,rest⟩
  ·exact .inl hn
  ·exact .inr ⟨g,cap,cur,fz,hv,hbg,hc _ _ hg rfl,rest⟩
 exact Or.elim h (fun x=>.inl (key _ x)) (fun x=>.inr (key _ x))
attribute [local go_sem] Oper.semAt_some
end
end Go.Proofs.YthgenkkkapilhaaGreatDoor
