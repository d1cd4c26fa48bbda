/-
  Joined: VpI VqL VpM VqG VpK.
-/
import Derived.Test.YthgenkkkapilhaaGreatDoorVQn12
import Derived.Test.YthgenkkkapilhaaGreatDoorVQn14
set_option linter.all false
set_option maxRecDepth 100000
set_option maxHeartbeats 64000000
namespace Go.Proofs.YthgenkkkapilhaaGreatDoor
open Go.Proofs.Tryz
section
open Go.RowKit
theorem OwnSeq.newAt {α:Type} {ρ:Shape α} {t:TypeId} {w W:World} (h:w.heap.size<=W.heap.size):OwnSeq ρ t w (W.alloc (.cells #[] t)) (.slice (some ⟨W.heap.size,0,none⟩) 0 0) []:=
 ⟨[],⟨(ownV_new W t ρ.n).1,(ownV_new W t ρ.n).2.imp id fun⟨g,cap,cur,e,hB,r⟩=>⟨g,cap,cur,e,by omega,r⟩⟩,.nil⟩
theorem src1B {α:Type} {ρ:Shape α} {w0 w W:World} {t:TypeId} (_:Below w.heap.size w W) (cs:List Value) (x:α) (hr:ρ.R w0 cs x):SrcAt ρ w0 (W.alloc (.cells cs.toArray t)) (.slice (some ⟨W.heap.size,0,none⟩) 1 1) [x]:=SrcAt.lit hr (Blk.new _ _ _)
theorem SrcAt.below {α:Type} {ρ:Shape α} {w0 W W':World} {v:Value} {us:List α} (h:SrcAt ρ w0 W v us) (hb:Below W.heap.size W W'):SrcAt ρ w0 W' v us:=by
 obtain⟨A,c,e,h⟩:=h;refine⟨A,c,e,fun i x hx=>?_⟩;obtain⟨b,o,cs,e1,hr,hc⟩:=h i x hx;exact⟨b,o,cs,e1,hr,fun j u hu=>cell_below hb (hc j u hu)⟩
theorem SrcAt.alloc {α:Type} {ρ:Shape α} {w0 W:World} {v:Value} {us:List α} (h:SrcAt ρ w0 W v us) (o:Obj):SrcAt ρ w0 (W.alloc o) v us:=h.below ((Below.refl _ _).alloc (Nat.le_refl _) _)
theorem cell_lt {W:World} {b o:Nat} {u:Value} (h:W.cell? ⟨b,o,none⟩=some u):b<W.heap.size:=by
 apply Decidable.byContradiction;intro hn;have hz:W.heap[b]?=none:=Array.getElem?_eq_none (by omega);simp[World.cell?,hz]at h
theorem SrcAt.grownB {α:Type} {ρ:Shape α} {w0 W W':World} {hb:Nat} {us:List α} {r:Option Nat} (h:SrcAt ρ w0 W (.slice (some ⟨hb,0,none⟩) 1 1) us) (hg:W.grownBy W' r) (hne:r≠some hb):SrcAt ρ w0 W' (.slice (some ⟨hb,0,none⟩) 1 1) us:=by
 obtain⟨A,c,e,h⟩:=h;refine⟨A,c,e,fun i x hx=>?_⟩;obtain⟨b,o,cs,e1,hr,hc⟩:=h i x hx;cases e1;have eb:b=hb:=by simp at e;exact e.1.1.symm
 refine⟨b,o,cs,rfl,hr,fun j u hu=>?_⟩;have hl:=cell_lt (hc j u hu);exact(World.cell?_of_block (hg.block b hl (by rw[eb];exact hne.symm))).trans (hc j u hu)
theorem Blk.grownB {W W':World} {g:Nat} {t:TypeId} {us:List Value} {r:Option Nat} (h:Blk W g t us) (hg:W.grownBy W' r) (hne:r≠some g):Blk W' g t us:=h.of_heap (hg.block g h.lt hne.symm)
theorem SeqAt.drop {α:Type} {ρ:Shape α} {W:World} {b o n c m:Nat} {xs:List α} (h:SeqAt ρ W (.slice (some ⟨b,o,none⟩) n c) xs) (hm:m<=xs.length):SeqAt ρ W (.slice (some ⟨b,o+m*ρ.n,none⟩) (n-m) (c-m)) (xs.drop m):=by
 obtain⟨A',c',e,h1,h2,h3⟩:=h;cases e;refine⟨_,_,by rw[List.length_drop],by rw[List.length_drop];omega,by omega,fun i x hx=>?_⟩;rw[List.getElem?_drop]at hx;obtain⟨b',o',cs,e,hr,hc⟩:=h3 (m+i) x hx;cases e;refine⟨_,_,cs,rfl,hr,fun j u hu=>?_⟩;rw[<-hc j u hu];congr 2;rw[Nat.add_mul];omega
theorem OwnSeq.neB {α:Type} {ρ:Shape α} {t:TypeId} {w W:World} {v:Value} {xs:List α} (h:OwnSeq ρ t w W v xs) {g:Nat} (hg:g<w.heap.size):v.ownBlock≠some g:=fun e=>by
 have:=h.ge g e
 omega
theorem insert38_any (w:World) (v:Value) (l:List Hol) (hv:SeqAt holS w v l) (hl:l.length<=100000) (hz:∀h∈l,h.p.size<=1000000) (p:ByteArray) (u:Int) (hp:p.size<=1000000):
  Calls prog 233 #[v,.agg #[.string p,.int .i64 u]] w fun e w'=>RetHols w w' (fun m=>m.length<=l.length+1/\∀h∈m,h=⟨p,u⟩∨h∈l) e/\Below w.heap.size w w':=by
 have HCm:=zY (fun(W:World) (q:ByteArray) (hq:q.size<=1000000)=>compare31_any W p q hp hq);have Hz:=zY hz;have Hla:=zY hl;obtain⟨A,c,rfl,h1,h2⟩:=hv.slice;have hK:=Blk.new w 289 [.string p,.int .i64 u];change Blk (w.alloc (.cells #[.string p,.int .i64 u] 289)) _ _ _ at hK;have HK:=zY hK;have HKl:Hid (w.heap.size<(w.alloc (.cells #[.string p,.int .i64 u] 289)).heap.size):=zY (by rw[World.size_alloc];omega);have HB0:=zY (zBl w (.cells #[.string p,.int .i64 u] 289));have Hv:=zY (hv.below HB0.out);clear hK hv hz hl;go_enter func233,ntmps233;go_upto_region 1 with fail;generalize w.alloc (.cells #[.string p,.int .i64 u] 289)=wa at *;go_wp2;go_loopw [5] (fun x wr=>∃i:Nat,i<=l.length/\x=.int .i64 (i:Int)/\Below wa.heap.size wa wr) (fun x _=>l.length-(intOf x).toNat);case atStart=>exact⟨0,by omega,rfl,Below.refl _ _⟩
 case round=>
 obtain⟨i,hi,rfl,hB⟩:=hrel;have HBc:=zY hB;have HKc:=zY (HK.kept hB);clear hB;by_cases h:i<l.length;{
 have hiI:(i:Int)<l.length:=by omega
 obtain⟨x,hx⟩:∃x,l[i]?=some x:=⟨_,List.getElem?_eq_getElem h⟩;have Hxz:=zY (Hz.out x (List.mem_of_getElem? hx));obtain⟨_,_,e9,_,_,h4⟩:=Hv.out;cases e9;obtain⟨b,o,cs,rfl,rfl,hc⟩:=h4 i x hx;have HL0:Hid (wa.cell? ⟨b,o+i*2,none⟩=some (.string x.p)):=zY (hc 0 _ rfl);obtain⟨q,uq⟩:=x;dsimp only at HL0 Hxz;clear hc h4 hx;have HT:=zY (Hv.take (m:=i) hi);have HD:=zY (Hv.drop (m:=i) hi);have HL4:Hid (([]:List Hol).length+(l.take i).length<=100000000):=zY (by have:=Hla.out;rw[List.length_take];simp;omega);have HL7:Hid (([]++l.take i).length+1<=100000000):=zY (by have:=Hla.out;simp;omega);have HL11:Hid (([]++l.take i++[(⟨p,u⟩:Hol)]).length+(l.drop i).length<=100000000):=zY (by have:=Hla.out;simp;omega);have HFin:Hid ((([]++l.take i++[(⟨p,u⟩:Hol)])++l.drop i).length<=l.length+1/\∀h∈(([]++l.take i++[(⟨p,u⟩:Hol)])++l.drop i),h=⟨p,u⟩∨h∈l):=zY (by
  refine⟨by simp;omega,fun h hh=>?_⟩
  simp only[List.nil_append,List.mem_append,List.mem_singleton]at hh
  rcases hh with(hh|hh)|hh
  ·exact .inr (List.mem_of_mem_take hh)
  ·exact .inl hh
  ·exact .inr (List.mem_of_mem_drop hh));obtain⟨r,hr⟩:=zNm (l.length-i);have hic:(i:Int)<=c:=by omega
 have hicn:i<=c:=by omega
 have hne:¬c=i:=by omega
 clear hr;have HKc:=zY HKc.drewW;have HBc:=zY HBc.drew;go_upto_region 4 with fail;refine wp_region_held_drew (S:=(fun W=>W.cell? ⟨w.heap.size,0,none⟩=some (.string p)/\W.cell? ⟨b,o+i*2,none⟩=some (.string q))) (by kernel_rfl) ?_ (fun hHeld=>?_);{exact⟨HKc.c 0,cell_below HBc.out HL0.out⟩};refine tk 0 ?_;refine tk 1 ?_;refine tk 2 ?_;refine tk 3 ?_;refine tk 4 ?_;refine tk 5 ?_;refine tk 6 ?_;refine zE1 7 fun K hK=>?_;go_simp;refine(HCm.out _ q Hxz.out).mono ?_;rintro e2 w2 ⟨⟨n,rfl⟩,hb2⟩;(try go_wp2_with fail);have HKc:=zY (HKc.kept hb2);have HBc:=zYt HBc hb2;clear hb2;refine hko hK (by exact⟨HKc.c 0,cell_below HBc.out HL0.out⟩) (fun _=>?_);clear hK K;refine tk 8 ?_;refine wpAnyH_done (by kernel_rfl) ?_ _;go_wp2_with fail;{
 have HKc:=zY HKc.drewW;have HBc:=zY HBc.drew;refine wp_region_held_drew (S:=(fun W=>W.cell? ⟨w.heap.size,0,none⟩=some (.string p)/\W.cell? ⟨w.heap.size,1,none⟩=some (.int .i64 u))) (by kernel_rfl) ?_ (fun hHeld=>?_);{exact⟨HKc.c 0,HKc.c 1⟩};refine tk 1 ?_;refine tk 2 ?_;refine tk 3 ?_;refine tk 5 ?_;refine tk 8 ?_;refine tk 9 ?_;refine tk 10 ?_;refine zEs [0,6] (zEc (fun K hK=>?_) (zEc (fun K hK=>?_) AllReadyH.nil));focus(
 go_simp;have HN:=zY (OwnSeq.newAt (ρ:=holS) (t:=289) HBc.size);first|simp only[World.size_alloc]at HN|skip
 first|(have HX:=zY (HX.alloc (.cells #[] 289)))|skip
 have HKc:=zY (HKc.alloc (.cells #[] 289));have HBc:=zY (HBc.alloc HBc.size (.cells #[] 289));refine hko hK (by exact⟨HKc.c 0,HKc.c 1⟩) (fun _=>?_);clear hK K;refine zEs [4,6] (zEc (fun K hK=>?_) (zEc (fun K hK=>?_) AllReadyH.nil));refine wp_append_seq (ρ:=holS) (w0:=wa) (v:=(.slice (some ⟨_,0,none⟩) 0 0)) Tryz.elemHol (.tmp 21) (.tmp 24) rfl rfl HN.out rfl (SrcAt.of HT.out HBc.out) HL4.out HBc.out ?_;intro vx1 wx1 hob hgb hbb;first|(have HX:=zY (HX.grownB hgb (by simp[Value.ownBlock])))|skip
 have HKc:=zY (HKc.grownB hgb (by first|exact HN.neB HKl.out|(simp[Value.ownBlock];omega)));have HN:=zY hob;have HBc:=zY hbb;clear hob hgb hbb;refine hko hK (by exact⟨HKc.c 0,HKc.c 1⟩) (fun _=>?_);clear hK K;refine zE1 6 fun K hK=>?_;go_simp;have HX:=zY (src1B (ρ:=holS) (w0:=wa) (t:=289) HBc.out [.string p,.int .i64 u] ⟨p,u⟩ rfl);first|simp only[World.size_alloc]at HX|skip
 first|(have HN:=zY (HN.alloc (.cells #[.string p,.int .i64 u] 289)))|skip
 have HKc:=zY (HKc.alloc (.cells #[.string p,.int .i64 u] 289));have HBc:=zY (HBc.alloc HBc.size (.cells #[.string p,.int .i64 u] 289));rotate_left;go_simp;have HX:=zY (src1B (ρ:=holS) (w0:=wa) (t:=289) HBc.out [.string p,.int .i64 u] ⟨p,u⟩ rfl);first|simp only[World.size_alloc]at HX|skip
 first|(have HN:=zY (HN.alloc (.cells #[.string p,.int .i64 u] 289)))|skip
 have HKc:=zY (HKc.alloc (.cells #[.string p,.int .i64 u] 289));have HBc:=zY (HBc.alloc HBc.size (.cells #[.string p,.int .i64 u] 289));refine hko hK (by exact⟨HKc.c 0,HKc.c 1⟩) (fun _=>?_);clear hK K;refine zE1 4 fun K hK=>?_;refine wp_append_seq (ρ:=holS) (w0:=wa) (v:=(.slice (some ⟨_,0,none⟩) 0 0)) Tryz.elemHol (.tmp 21) (.tmp 24) rfl rfl HN.out rfl (SrcAt.of HT.out HBc.out) HL4.out HBc.out ?_;intro vx1 wx1 hob hgb hbb;first|(have HX:=zY (HX.grownB hgb (by simp[Value.ownBlock])))|skip
 have HKc:=zY (HKc.grownB hgb (by first|exact HN.neB HKl.out|(simp[Value.ownBlock];omega)));have HN:=zY hob;have HBc:=zY hbb;clear hob hgb hbb;rotate_left)
 rotate_left 2;go_simp;have HX:=zY (src1B (ρ:=holS) (w0:=wa) (t:=289) HBc.out [.string p,.int .i64 u] ⟨p,u⟩ rfl);first|simp only[World.size_alloc]at HX|skip
 first|(have HN:=zY (HN.alloc (.cells #[.string p,.int .i64 u] 289)))|skip
 have HKc:=zY (HKc.alloc (.cells #[.string p,.int .i64 u] 289));have HBc:=zY (HBc.alloc HBc.size (.cells #[.string p,.int .i64 u] 289));refine hko hK (by exact⟨HKc.c 0,HKc.c 1⟩) (fun _=>?_);clear hK K;refine zE1 0 fun K hK=>?_;go_simp;have HN:=zY (OwnSeq.newAt (ρ:=holS) (t:=289) HBc.size);first|simp only[World.size_alloc]at HN|skip
 first|(have HX:=zY (HX.alloc (.cells #[] 289)))|skip
 have HKc:=zY (HKc.alloc (.cells #[] 289));have HBc:=zY (HBc.alloc HBc.size (.cells #[] 289));refine hko hK (by exact⟨HKc.c 0,HKc.c 1⟩) (fun _=>?_);clear hK K;refine zE1 4 fun K hK=>?_;refine wp_append_seq (ρ:=holS) (w0:=wa) (v:=(.slice (some ⟨_,0,none⟩) 0 0)) Tryz.elemHol (.tmp 21) (.tmp 24) rfl rfl HN.out rfl (SrcAt.of HT.out HBc.out) HL4.out HBc.out ?_;intro vx1 wx1 hob hgb hbb;first|(have HX:=zY (HX.grownB hgb (by simp[Value.ownBlock])))|skip
 have HKc:=zY (HKc.grownB hgb (by first|exact HN.neB HKl.out|(simp[Value.ownBlock];omega)));have HN:=zY hob;have HBc:=zY hbb;clear hob hgb hbb;rotate_left;all_goals
 refine hko hK (by exact⟨HKc.c 0,HKc.c 1⟩) (fun _=>?_);clear hK K;refine zE1 7 fun K hK=>?_;refine wp_append_seq (ρ:=holS) (w0:=wa) (v:=vx1) Tryz.elemHol (.tmp 25) (.tmp 27) rfl rfl HN.out rfl HX.out HL7.out HBc.out ?_;intro vx2 wx2 hob hgb hbb;have HKc:=zY (HKc.grownB hgb (by first|exact HN.neB HKl.out|(simp[Value.ownBlock];omega)));have HN:=zY hob;have HBc:=zY hbb;clear hob hgb hbb;refine hko hK (by exact⟨HKc.c 0,HKc.c 1⟩) (fun _=>?_);clear hK K;refine zE1 11 fun K hK=>?_;refine wp_append_seq (ρ:=holS) (w0:=wa) (v:=vx2) Tryz.elemHol (.tmp 28) (.tmp 31) rfl rfl HN.out rfl (SrcAt.of HD.out HBc.out) HL11.out HBc.out ?_;intro vx3 wx3 hob hgb hbb;have HKc:=zY (HKc.grownB hgb (by first|exact HN.neB HKl.out|(simp[Value.ownBlock];omega)));have HN:=zY hob;have HBc:=zY hbb;clear hob hgb hbb;refine hko hK (by exact⟨HKc.c 0,HKc.c 1⟩) (fun _=>?_);clear hK K;refine tk 12 ?_;refine wpAnyH_done (by kernel_rfl) ?_ _;go_wp2_with fail;go_ret;exact⟨⟨_,_,rfl,HN.low flatH (Nat.le_of_lt HKl.out),by first|exact HFin.out|(simp only[List.nil_append];exact HFin.out)⟩,HB0.trans (HBc.mono HB0.size)⟩};{
 go_roundw;case rel=>exact⟨i+1,by omega,by go_num,HBc.out⟩
 case measure=>simp[intOf];omega}};{
 obtain rfl:i=l.length:=by omega
 have hiI:¬((l.length:Nat):Int)<(l.length:Int):=by omega
 have HL2:Hid (([]:List Hol).length+l.length<=100000000):=zY (by have:=Hla.out;simp;omega);have HL5:Hid (([]++l).length+1<=100000000):=zY (by have:=Hla.out;simp;omega);have HFin:Hid (([]++l++[(⟨p,u⟩:Hol)]).length<=l.length+1/\∀h∈([]++l++[(⟨p,u⟩:Hol)]),h=⟨p,u⟩∨h∈l):=zY (by
  refine⟨by simp,fun h hh=>?_⟩
  simp only[List.nil_append,List.mem_append,List.mem_singleton]at hh
  rcases hh with hh|hh
  ·exact .inr hh
  ·exact .inl hh);have HKc:=zY HKc.drewW;have HBc:=zY HBc.drew;go_upto_region 6 with fail;refine wp_region_held_drew (S:=(fun W=>W.cell? ⟨w.heap.size,0,none⟩=some (.string p)/\W.cell? ⟨w.heap.size,1,none⟩=some (.int .i64 u))) (by kernel_rfl) ?_ (fun hHeld=>?_);{exact⟨HKc.c 0,HKc.c 1⟩};refine tk 1 ?_;refine tk 3 ?_;refine zEs [0,4] (zEc (fun K hK=>?_) (zEc (fun K hK=>?_) AllReadyH.nil));focus(
 go_simp;have HN:=zY (OwnSeq.newAt (ρ:=holS) (t:=289) HBc.size);first|simp only[World.size_alloc]at HN|skip
 first|(have HX:=zY (HX.alloc (.cells #[] 289)))|skip
 have HKc:=zY (HKc.alloc (.cells #[] 289));have HBc:=zY (HBc.alloc HBc.size (.cells #[] 289));refine hko hK (by exact⟨HKc.c 0,HKc.c 1⟩) (fun _=>?_);clear hK K;refine zEs [2,4] (zEc (fun K hK=>?_) (zEc (fun K hK=>?_) AllReadyH.nil));refine wp_append_seq (ρ:=holS) (w0:=wa) (v:=(.slice (some ⟨_,0,none⟩) 0 0)) Tryz.elemHol (.tmp 33) (.tmp 34) rfl rfl HN.out rfl (SrcAt.of Hv.out HBc.out) HL2.out HBc.out ?_;intro vx1 wx1 hob hgb hbb;first|(have HX:=zY (HX.grownB hgb (by simp[Value.ownBlock])))|skip
 have HKc:=zY (HKc.grownB hgb (by first|exact HN.neB HKl.out|(simp[Value.ownBlock];omega)));have HN:=zY hob;have HBc:=zY hbb;clear hob hgb hbb;refine hko hK (by exact⟨HKc.c 0,HKc.c 1⟩) (fun _=>?_);clear hK K;refine zE1 4 fun K hK=>?_;go_simp;have HX:=zY (src1B (ρ:=holS) (w0:=wa) (t:=289) HBc.out [.string p,.int .i64 u] ⟨p,u⟩ rfl);first|simp only[World.size_alloc]at HX|skip
 first|(have HN:=zY (HN.alloc (.cells #[.string p,.int .i64 u] 289)))|skip
 have HKc:=zY (HKc.alloc (.cells #[.string p,.int .i64 u] 289));have HBc:=zY (HBc.alloc HBc.size (.cells #[.string p,.int .i64 u] 289));rotate_left;go_simp;have HX:=zY (src1B (ρ:=holS) (w0:=wa) (t:=289) HBc.out [.string p,.int .i64 u] ⟨p,u⟩ rfl);first|simp only[World.size_alloc]at HX|skip
 first|(have HN:=zY (HN.alloc (.cells #[.string p,.int .i64 u] 289)))|skip
 have HKc:=zY (HKc.alloc (.cells #[.string p,.int .i64 u] 289));have HBc:=zY (HBc.alloc HBc.size (.cells #[.string p,.int .i64 u] 289));refine hko hK (by exact⟨HKc.c 0,HKc.c 1⟩) (fun _=>?_);clear hK K;refine zE1 2 fun K hK=>?_;refine wp_append_seq (ρ:=holS) (w0:=wa) (v:=(.slice (some ⟨_,0,none⟩) 0 0)) Tryz.elemHol (.tmp 33) (.tmp 34) rfl rfl HN.out rfl (SrcAt.of Hv.out HBc.out) HL2.out HBc.out ?_;intro vx1 wx1 hob hgb hbb;first|(have HX:=zY (HX.grownB hgb (by simp[Value.ownBlock])))|skip
 have HKc:=zY (HKc.grownB hgb (by first|exact HN.neB HKl.out|(simp[Value.ownBlock];omega)));have HN:=zY hob;have HBc:=zY hbb;clear hob hgb hbb;rotate_left)
 rotate_left 2;go_simp;have HX:=zY (src1B (ρ:=holS) (w0:=wa) (t:=289) HBc.out [.string p,.int .i64 u] ⟨p,u⟩ rfl);first|simp only[World.size_alloc]at HX|skip
 first|(have HN:=zY (HN.alloc (.cells #[.string p,.int .i64 u] 289)))|skip
 have HKc:=zY (HKc.alloc (.cells #[.string p,.int .i64 u] 289));have HBc:=zY (HBc.alloc HBc.size (.cells #[.string p,.int .i64 u] 289));refine hko hK (by exact⟨HKc.c 0,HKc.c 1⟩) (fun _=>?_);clear hK K;refine zE1 0 fun K hK=>?_;go_simp;have HN:=zY (OwnSeq.newAt (ρ:=holS) (t:=289) HBc.size);first|simp only[World.size_alloc]at HN|skip
 first|(have HX:=zY (HX.alloc (.cells #[] 289)))|skip
 have HKc:=zY (HKc.alloc (.cells #[] 289));have HBc:=zY (HBc.alloc HBc.size (.cells #[] 289));refine hko hK (by exact⟨HKc.c 0,HKc.c 1⟩) (fun _=>?_);clear hK K;refine zE1 2 fun K hK=>?_;refine wp_append_seq (ρ:=holS) (w0:=wa) (v:=(.slice (some ⟨_,0,none⟩) 0 0)) Tryz.elemHol (.tmp 33) (.tmp 34) rfl rfl HN.out rfl (SrcAt.of Hv.out HBc.out) HL2.out HBc.out ?_;intro vx1 wx1 hob hgb hbb;first|(have HX:=zY (HX.grownB hgb (by simp[Value.ownBlock])))|skip
 have HKc:=zY (HKc.grownB hgb (by first|exact HN.neB HKl.out|(simp[Value.ownBlock];omega)));have HN:=zY hob;have HBc:=zY hbb;clear hob hgb hbb;rotate_left;all_goals
 refine hko hK (by exact⟨HKc.c 0,HKc.c 1⟩) (fun _=>?_);clear hK K;refine zE1 5 fun K hK=>?_;refine wp_append_seq (ρ:=holS) (w0:=wa) (v:=vx1) Tryz.elemHol (.tmp 35) (.tmp 37) rfl rfl HN.out rfl HX.out HL5.out HBc.out ?_;intro vx2 wx2 hob hgb hbb;have HKc:=zY (HKc.grownB hgb (by first|exact HN.neB HKl.out|(simp[Value.ownBlock];omega)));have HN:=zY hob;have HBc:=zY hbb;clear hob hgb hbb;refine hko hK (by exact⟨HKc.c 0,HKc.c 1⟩) (fun _=>?_);clear hK K;refine tk 6 ?_;refine wpAnyH_done (by kernel_rfl) ?_ _;go_wp2_with fail;go_ret;exact⟨⟨_,_,rfl,HN.low flatH (Nat.le_of_lt HKl.out),by first|exact HFin.out|(simp only[List.nil_append];exact HFin.out)⟩,HB0.trans (HBc.mono HB0.size)⟩}
theorem digD_val:∀{p:List Nat},p≠[]->p.all digB=true->(1<p.length->cf p 0≠48)->digD (valD p)=p:=by
 intro p;induction hn:p.length generalizing p with
 |zero=>intro h;exact absurd (List.length_eq_zero_iff.1 hn) h
 |succ n ih=>
 intro h hd h0;obtain⟨q,c,rfl⟩:∃q c,p=q++[c]:=⟨p.dropLast,p.getLast h,(List.dropLast_concat_getLast h).symm⟩;have hql:q.length=n:=by simpa using hn
 rw[List.all_append,Bool.and_eq_true]at hd;have hc':digB c=true:=by simpa using hd.2
 have hc:48<=c/\c<=57:=of_decide_eq_true hc';have hv:valD (q++[c])=10*valD q+(c-48):=by rw[valD,List.foldl_append];rfl
 rw[hv];by_cases hq:q=[];{
 subst hq;have:valD []=0:=rfl;rw[this,Nat.mul_zero,Nat.zero_add,digD_small (by omega),List.nil_append];congr 1;omega};{
 have hq0:cf q 0≠48:=by have hl:0<q.length:=List.length_pos_iff.2 hq;have:=h0 (by simp;omega);rwa [cf,List.getElem?_append_left hl]at this
 have e:=ih hql hq hd.1 (fun _=>hq0);have h1:valD q≠0:=fun e0=>by
  rw[e0,digD_small (by decide)]at e
  rw[<-e]at hq0
  exact hq0 rfl
 rw[digD_great (by omega),show (10*valD q+(c-48))/10=valD q by omega,show (10*valD q+(c-48))%10=c-48 by omega,e,digD_small (by omega)];congr 1;simp;omega}
theorem atoi_val {l:List UInt8} (h:natL l≠[]) (hd:(natL l).all digB=true):Lib.atoi l=some ((valD (natL l):Nat):Int):=by
 have key:∀(l:List UInt8) (a:Nat),(natL l).all digB=true->Lib.decFrom a l=some ((natL l).foldl (fun n c=>10*n+(c-48)) a):=by{
 intro l;induction l with
 |nil=>intro a _;rfl
 |cons b r ih=>
 intro a hd;have hd':digB b.toNat=true/\(natL r).all digB=true:=by have:((b.toNat::natL r).all digB)=true:=hd;rwa [List.all_cons,Bool.and_eq_true]at this
 have hb:48<=b.toNat/\b.toNat<=57:=of_decide_eq_true hd'.1;have e:Lib.digitVal b=some (b.toNat-48):=by rw[Lib.digitVal,if_pos hb]
 rw[Lib.decFrom,e];show Lib.decFrom (a*10+(b.toNat-48)) r=_;rw[ih _ hd'.2,Nat.mul_comm];rfl};cases l with
 |nil=>exact absurd rfl h
 |cons b r=>
 have hd':digB b.toNat=true:=by have:((b.toNat::natL r).all digB)=true:=hd;rw[List.all_cons,Bool.and_eq_true]at this;exact this.1
 have hb:48<=b.toNat/\b.toNat<=57:=of_decide_eq_true hd';have n1:¬(b==45)=true:=fun e=>by rw[beq_iff_eq.1 e]at hb;exact absurd hb.1 (by decide)
 have n2:¬(b==43)=true:=fun e=>by rw[beq_iff_eq.1 e]at hb;exact absurd hb.1 (by decide)
 rw[Lib.atoi,if_neg n1,if_neg n2,Lib.decNat,if_neg (by simp),key _ 0 hd];rfl
theorem below_bytes (w:World) (e:TypeId) (t:ByteArray):Below w.heap.size w (Lib.bytesWorld w e t):=
 ⟨rfl,rfl,rfl,by rw[Lib.bytesWorld_size];omega,fun k hk=>Lib.bytesWorld_at_old w e t k hk⟩
theorem atoi_date (w:World) (s:ByteArray) (h:dateB (bs s)=true):∃n:Nat,n<=1000000000/\strB (digD n)=s/\Calls prog 209 #[.string s] w fun e w'=>e=.returned (.tuple #[.int .i64 (n:Int),.nilIface])/\Below w.heap.size w w':=by
 rw[dateB,Bool.and_eq_true,Bool.and_eq_true]at h;obtain⟨h1,h2,h3⟩:=h;have h1:=of_decide_eq_true h1;have h3:=of_decide_eq_true h3;have hne:bs s≠[]:=fun e=>by rw[e]at h1;exact absurd h1.1 (by decide)
 refine⟨valD (bs s),h3,?_,?_⟩;{rw[digD_val hne h2 (fun h=>fun e=>h1.2.2 ⟨h,e⟩),strB_bs]};{
 refine(Tryz.strconv_Atoi s _ ?_ (atoi_val (l:=s.data.toList) hne h2) w).mono ?_;{
 have:=h1.2.1;rw[bs_len]at this;omega};{
 rintro e w' ⟨rfl,t,rfl⟩;exact⟨rfl,below_bytes _ _ _⟩}}
theorem isdate_ok (w:World) (s:ByteArray) (h:dateB (bs s)=true) (hT:Tab w):Calls prog 365 #[.string s] w fun e w'=>e=.returned (.bool true)/\Below w.heap.size w w':=by
 obtain⟨n,hn,hd,hc⟩:=atoi_date w s h;have HC:=zY hc;have HI:Hid (∀W,Below w.heap.size w W->Calls prog 54 #[.int .i64 (n:Int)] W fun e w'=>e=.returned (.string s)/\Below W.heap.size W w'):=zY (fun W hb=>by
  have:=itoa_any W n (by omega) (hT.below hb)
  rwa [hd]at this);have i1:(0:Int)<=n:=by omega
 have i2:(n:Int)<=1000000000:=by omega
 clear hc hd h hn;go_enter func365,ntmps365;go_wp2_with fail;refine HC.mono ?_;rintro e1 w1 ⟨rfl,hb1⟩;have HB1:=zY hb1;clear hb1;go_wp2_with fail;refine(HI.out _ HB1.out).mono ?_;rintro e2 w2 ⟨rfl,hb2⟩;have HB2:=zYt HB1 hb2;clear hb2;go_wp2_with fail;go_ret;first|exact⟨rfl,HB2.out⟩|exact⟨ret_bool' (by simp),HB2.out⟩
theorem entarget_ok (w:World) (e:Ent) (va vx:Value) (h:tgtB e=true) (hT:Tab w):Calls prog 314 #[entV e va vx] w fun r w'=>r=.returned (.bool true)/\Below w.heap.size w w':=by
 obtain⟨k,path,attrs,t,size,dig,exts⟩:=e;rw[tgtB]at h;dsimp only at h;rw[entV];dsimp only;have hK:=Blk.new w 182 [.int .i64 k,.string path,va,.string t,.int .i64 size,.string dig,vx];change Blk (w.alloc (.cells #[.int .i64 k,.string path,va,.string t,.int .i64 size,.string dig,vx] 182)) _ _ _ at hK;have c0:=hK.c 0;have c3:=hK.c 3;have HB:=zY (zBl w (.cells #[.int .i64 k,.string path,va,.string t,.int .i64 size,.string dig,vx] 182));clear hK;by_cases h3:k=3;{
 have i1:(k==3)=true:=by rw[h3];rfl
 rw[if_pos h3]at h;clear h3;have h:=of_decide_eq_true h;have i2:t.toList.isEmpty=false:=isEmptyV (by omega);have i3:(t.size:Int)<=200:=by omega
 clear h;go_enter func314,ntmps314;go_wp2;go_ret;exact⟨rfl,HB.out⟩};{
 have i1:(k==3)=false:=by rw[beq_eq_false_iff_ne];exact h3
 rw[if_neg h3]at h;clear h3;by_cases h5:k=5;{
 have i2:(k==5)=true:=by rw[h5];rfl
 rw[if_pos h5]at h;clear h5;have HD:=zY (isdate_ok _ t h (hT.below HB.out));clear h;go_enter func314,ntmps314;go_wp2_with fail;refine HD.mono ?_;rintro e1 w1 ⟨rfl,hb⟩;have HB1:=zYt HB hb;clear hb;go_wp2_with fail;go_ret;exact⟨rfl,HB1.out⟩};{
 have i2:(k==5)=false:=by rw[beq_eq_false_iff_ne];exact h5
 rw[if_neg h5]at h;clear h5;have e0:t=⟨#[]⟩:=by apply ByteArray.ext;exact Array.eq_empty_of_size_eq_zero (of_decide_eq_true h)
 subst e0;clear h;go_enter func314,ntmps314;go_wp2;go_ret;exact⟨rfl,HB.out⟩}}
def RetSeq {α:Type} (ρ:Shape α) (t:TypeId) (w w':World) (xs:List α) (e:Ending):Prop:=∃v,e=.returned v/\OwnSeq ρ t w w' v xs
theorem streams_any (w:World) (id d s:Int) (v:Value) (L:List Ses) (hv:SeqAt sesS w v L) (hl:L.length<=1000):Calls prog 215 #[.agg #[.int .u32 id,.int .i64 d,.int .i64 s,v]] w fun e w'=>RetSeq strS 9 w w' (L.map (·.str)) e/\Below w.heap.size w w':=by
 obtain⟨A,c,rfl,h1,h2⟩:=hv.slice;have hK:=Blk.new w 28 [.int .u32 id,.int .i64 d,.int .i64 s,.slice A L.length c];change Blk (w.alloc (.cells #[.int .u32 id,.int .i64 d,.int .i64 s,.slice A L.length c] 28)) _ _ _ at hK;have HK:=zY hK;have HB0:=zY (zBl w (.cells #[.int .u32 id,.int .i64 d,.int .i64 s,.slice A L.length c] 28));have Hv:=zY (hv.below HB0.out);have Hl:=zY hl;clear hK hv hl;go_enter func215,ntmps215;go_upto_region 1 with fail;generalize w.alloc (.cells #[.int .u32 id,.int .i64 d,.int .i64 s,.slice A L.length c] 28)=wa at *;go_wp2;go_loopw [3,4] (fun y x wr=>∃i:Nat,i<=L.length/\x=.int .i64 (i:Int)/\OwnSeq strS 9 wa wr y ((L.take i).map (·.str))/\Below wa.heap.size wa wr) (fun _ x _=>L.length-(intOf x).toNat);case atStart=>exact⟨0,by omega,rfl,OwnSeq.new _,(Below.refl _ _).alloc (Nat.le_refl _) _⟩
 case round=>
 obtain⟨i,hi,rfl,ho,hB⟩:=hrel;have HB:=zY hB;have HO:=zY ho;have HKr:=zY (HK.kept hB);clear ho hB;have c3:=HKr.c 3;by_cases h:i<L.length;{
 have hiI:(i:Int)<L.length:=by omega
 obtain⟨x,hx⟩:∃x,L[i]?=some x:=⟨_,List.getElem?_eq_getElem h⟩;have Hx:Hid ((L.take (i+1)).map (·.str)=(L.take i).map (·.str)++[x.str]):=zY (by rw[List.take_add_one,hx,List.map_append];rfl);obtain⟨_,_,e9,_,_,h4⟩:=Hv.out;cases e9;obtain⟨b,o,cs,rfl,⟨ve,rfl,_⟩,hc⟩:=h4 i x hx;have e4:=cell_below HB.out (show wa.cell? ⟨b,o+i*6+4,none⟩=some (.string x.str) from hc 4 _ rfl);have Hl1:Hid (((L.take i).map (·.str)).length+1<=100000000):=zY (by have:=Hl.out;simp;omega);generalize x.str=X at *;clear hc h4 hx;go_wp2_with (at_builtin;refine append_seq (ρ:=strS) (w0:=wa) Tryz.elemStr rfl _ _ rfl rfl (HO.alloc _) rfl (src1 (ρ:=strS) [.string X] X rfl rfl) Hl1.out (HB.alloc HB.size _) ?_;intro va1 wa1 hob _ hbb;have KU:=zY hob;have KB:=zY hbb;clear hob hbb);go_roundw;case rel=>exact⟨i+1,by omega,by go_num,by rw[Hx.out];exact KU.out,KB.out⟩
 case measure=>simp[intOf];omega};{
 obtain rfl:i=L.length:=by omega
 have hiI:¬((L.length:Nat):Int)<(L.length:Int):=by omega
 have HF:=zY (by have:=HO.low flatS HB0.size;rwa [List.take_length]at this:OwnSeq strS 9 w _ _ (L.map (·.str)));go_wp2;go_ret;exact⟨⟨_,rfl,HF.out⟩,HB0.trans (HB.mono HB0.size)⟩}
theorem close39_any (w:World) (num date sn:Int) (prev st:ByteArray) (Ae Ac At Ah:Option Addr) (ne ce nc cc nt ct nh ch:Nat):Calls prog 83 #[.agg #[.int .i64 num,.int .i64 date,.string prev,.slice Ae ne ce,.slice Ac nc cc,.int .i64 sn,.string st,.slice At nt ct,.slice Ah nh ch]] w fun e w'=>e=.returned (.agg #[.int .i64 num,.int .i64 date,.string prev,.slice Ae ne ce,.string st,.string ⟨#[]⟩])/\Below w.heap.size w w':=by
 have hK:=Blk.new w 163 [.int .i64 num,.int .i64 date,.string prev,.slice Ae ne ce,.slice Ac nc cc,.int .i64 sn,.string st,.slice At nt ct,.slice Ah nh ch];change Blk (w.alloc (.cells #[.int .i64 num,.int .i64 date,.string prev,.slice Ae ne ce,.slice Ac nc cc,.int .i64 sn,.string st,.slice At nt ct,.slice Ah nh ch] 163)) _ _ _ at hK;have HB1:=zY (zBl w (.cells #[.int .i64 num,.int .i64 date,.string prev,.slice Ae ne ce,.slice Ac nc cc,.int .i64 sn,.string st,.slice At nt ct,.slice Ah nh ch] 163));have HK1:=zY hK;have HSz:Hid ((w.alloc (.cells #[.int .i64 num,.int .i64 date,.string prev,.slice Ae ne ce,.slice Ac nc cc,.int .i64 sn,.string st,.slice At nt ct,.slice Ah nh ch] 163)).heap.size=w.heap.size+1):=zY (World.size_alloc _ _);clear hK;have HZ:Hid (∀W:World,W.heap.size=w.heap.size+1->Blk (W.alloc (.cells #[.int .i64 0,.int .i64 0,.string ⟨#[]⟩,.slice none 0 0,.string ⟨#[]⟩,.string ⟨#[]⟩] 45)) (w.heap.size+1) 45 [.int .i64 0,.int .i64 0,.string ⟨#[]⟩,.slice none 0 0,.string ⟨#[]⟩,.string ⟨#[]⟩]):=zY (fun W h=>by rw[<-h];exact Blk.new _ _ _);have HZ1:=zY (HZ.out _ HSz.out);have HB:=zY (HB1.alloc HB1.size (.cells #[.int .i64 0,.int .i64 0,.string ⟨#[]⟩,.slice none 0 0,.string ⟨#[]⟩,.string ⟨#[]⟩] 45));have HK:=zY (HK1.alloc (.cells #[.int .i64 0,.int .i64 0,.string ⟨#[]⟩,.slice none 0 0,.string ⟨#[]⟩,.string ⟨#[]⟩] 45));clear HZ HSz HB1 HK1;go_enter func83,ntmps83;go_upto_region 1 with fail
 generalize (w.alloc (.cells #[.int .i64 num,.int .i64 date,.string prev,.slice Ae ne ce,.slice Ac nc cc,.int .i64 sn,.string st,.slice At nt ct,.slice Ah nh ch] 163)).alloc (.cells #[.int .i64 0,.int .i64 0,.string ⟨#[]⟩,.slice none 0 0,.string ⟨#[]⟩,.string ⟨#[]⟩] 45)=wa at *;have c0:=HK.c 0;have c1:=HK.c 1;have c2:=HK.c 2;have c3:=HK.c 3;have c6:=HK.c 6;have z0:=HZ1.c 0;have z1:=HZ1.c 1;have z2:=HZ1.c 2;have z3:=HZ1.c 3;have z4:=HZ1.c 4;have z5:=HZ1.c 5;have y0:=HZ1.frozen 0;have y1:=HZ1.frozen 1;have y2:=HZ1.frozen 2;have y3:=HZ1.frozen 3;have y4:=HZ1.frozen 4;have y5:=HZ1.frozen 5;have HW:=zY ((((((HZ1.set 0 (.int .i64 num)).set 1 (.int .i64 date)).set 2 (.string prev)).set 3 (.slice Ae ne ce)).set 4 (.string st)).set 5 (.string ⟨#[]⟩));have hle:w.heap.size<=w.heap.size+1:=by omega
 have HBw:=zY ((((((HB.setCell (p:=⟨w.heap.size+1,0,none⟩) hle (.int .i64 num)).setCell (p:=⟨w.heap.size+1,1,none⟩) hle (.int .i64 date)).setCell (p:=⟨w.heap.size+1,2,none⟩) hle (.string prev)).setCell (p:=⟨w.heap.size+1,3,none⟩) hle (.slice Ae ne ce)).setCell (p:=⟨w.heap.size+1,4,none⟩) hle (.string st)).setCell (p:=⟨w.heap.size+1,5,none⟩) hle (.string ⟨#[]⟩));clear hle;go_wp2_with fail;refine bodyPost_ret (results_cell_row rfl _ _ (w.heap.size+1) 45 _ (0,0) _ rfl HW.out underlying45 rfl (by kernel_rfl)) rfl ?_;exact⟨rfl,HBw.out⟩
def partB (s:ByteArray) (k:Nat):ByteArray:=s.extract (28*k) (min (28*k+28) s.size)
def partsB (s:ByteArray):List ByteArray:=(List.range ((s.size+27)/28)).map (partB s)
def RetHE (w':World) (n B:Nat) (e:Ending):Prop:=∃v m k,e=.returned (.tuple #[v,.int .i64 k])/\SeqAt holS w' v m/\m.length<=n/\∀h∈m,h.p.size<=B
theorem apply38_any (w:World) (v:Value) (l:List Hol) (B:Nat) (hB:B<=1000000) (hv:SeqAt holS w v l) (hl:l.length<=1000) (hz:∀h∈l,h.p.size<=B) (k:Int) (path tgt dig:ByteArray) (Aa Ax:Option Addr) (na ca nx cx:Nat) (size:Int) (hp:path.size<=B) (ht:tgt.size<=1000000) (date:Int):
  Calls prog 157 #[v,.agg #[.int .i64 k,.string path,.slice Aa na ca,.string tgt,.int .i64 size,.string dig,.slice Ax nx cx],.int .i64 date] w fun e w'=>RetHE w' (l.length+1) B e/\Below w.heap.size w w':=by
 have hK:=Blk.new w 182 [.int .i64 k,.string path,.slice Aa na ca,.string tgt,.int .i64 size,.string dig,.slice Ax nx cx];change Blk (w.alloc (.cells #[.int .i64 k,.string path,.slice Aa na ca,.string tgt,.int .i64 size,.string dig,.slice Ax nx cx] 182)) _ _ _ at hK;have HK:=zY hK;have HB0:=zY (zBl w (.cells #[.int .i64 k,.string path,.slice Aa na ca,.string tgt,.int .i64 size,.string dig,.slice Ax nx cx] 182));have Hv:=zY (hv.below HB0.out);obtain⟨A,c,rfl,h1,h2⟩:=hv.slice;have HA:=zY (fun(W:World) (h:SeqAt holS W (.slice A l.length c) l)=>active_any W (.slice A l.length c) l h (by omega) date);have HD:=zY (fun(W:World)=>date38_any W tgt ht);have Hz:=zY hz;have HBz:=zY hB;have Hl:=zY hl;clear hK hv hz hB hl;go_enter func157,ntmps157;go_upto_region 1 with fail;generalize w.alloc (.cells #[.int .i64 k,.string path,.slice Aa na ca,.string tgt,.int .i64 size,.string dig,.slice Ax nx cx] 182)=wa at *;go_wp2_with fail;refine(HA.out _ Hv.out).mono ?_;rintro e1 w1 ⟨⟨v1,l1,rfl,ho1,hn1,hm1⟩,hb1⟩;have Hn1:=zY hn1;have Hm1:=zY hm1;have HB1:=zYt HB0 hb1;have HK1:=zY (HK.kept hb1);have Hv1:=zY (ho1.at hb1);clear hb1 ho1 hn1 hm1 HK Hv HB0;obtain⟨A1,c1,rfl,_,_⟩:=Hv1.slice;have d0:=HK1.c 0;have d1:=HK1.c 1;have d3:=HK1.c 3;have Hz1:Hid (∀h∈l1,h.p.size<=B):=zY (fun h hh=>Hz.out h (Hm1.out h hh));have HW:=zY (fun(W:World) (h:SeqAt holS W (.slice A1 l1.length c1) l1)=>without_any W (.slice A1 l1.length c1) l1 h (by have:=Hn1.out;have:=Hl.out;omega) path);have hk:k=5∨k=6∨(k≠5/\k≠6):=by omega
 rcases hk with rfl|rfl|⟨k1,k2⟩;{
 go_wp2_with fail;refine(HD.out _).mono ?_;rintro e2 w2 ⟨⟨n,rfl⟩,rfl⟩;by_cases hn:n<0;{
 have HE:=zY ((OwnSeq.new (ρ:=holS) (t:=289) w1).at ((Below.refl _ _).alloc (Nat.le_refl _) _));have HB2:=zY (HB1.alloc HB1.size (.cells #[] 289));go_wp2_with fail;go_ret2;exact⟨⟨_,[],3,rfl,HE.out,by simp,fun h hh=>nomatch hh⟩,HB2.out⟩};{
 go_wp2_with fail;refine(HW.out _ Hv1.out).mono ?_;rintro e3 w3 ⟨⟨v3,l3,q,rfl,ho3,hn3,hm3⟩,hb3⟩;have Hn3:=zY hn3;have Hm3:=zY hm3;have Hv3:=zY (ho3.at hb3);have HB3:=zYt HB1 hb3;have HK3:=zY (HK1.kept hb3);have HI:=zY (fun(u:Int)=>insert38_any w3 v3 l3 (ho3.at hb3) (by have:=Hn1.out;have:=Hl.out;omega) (fun h hh=>Nat.le_trans (Hz1.out h (hm3 h hh)) HBz.out) path u (Nat.le_trans hp HBz.out));clear hb3 ho3 hn3 hm3 d0 d1 d3;obtain⟨A3,c3,rfl,_,_⟩:=Hv3.slice;have g1:=HK3.c 1;by_cases hq:n<q;all_goals
 go_wp2_with fail;refine(HI.out _).mono ?_;rintro e4 w4 ⟨⟨v4,l4,rfl,ho4,hn4,hm4⟩,hb4⟩;go_wp2_with fail;go_ret2;exact⟨⟨v4,l4,0,rfl,ho4.at hb4,by have:=Hn1.out;have:=Hn3.out;omega,fun h hh=>by
  rcases hm4 h hh with rfl|hh
  ·exact hp
  ·exact Hz1.out h (Hm3.out h hh)⟩,HB3.trans (hb4.mono HB3.size)⟩}};{
 go_wp2_with fail;refine(HW.out _ Hv1.out).mono ?_;rintro e3 w3 ⟨⟨v3,l3,q,rfl,ho3,hn3,hm3⟩,hb3⟩;have HB3:=zYt HB1 hb3;have Hn3:=zY hn3;have Hm3:=zY hm3;have Hv3:=zY (ho3.at hb3);clear hb3 ho3 hn3 hm3;by_cases hq:q<0;{
 have HE:=zY ((OwnSeq.new (ρ:=holS) (t:=289) w3).at ((Below.refl _ _).alloc (Nat.le_refl _) _));have HB2:=zY (HB3.alloc HB3.size (.cells #[] 289));go_wp2_with fail;go_ret2;exact⟨⟨_,[],9,rfl,HE.out,by simp,fun h hh=>nomatch hh⟩,HB2.out⟩};{
 go_wp2_with fail;go_ret2;exact⟨⟨v3,l3,0,rfl,Hv3.out,by have:=Hn1.out;have:=Hn3.out;omega,fun h hh=>Hz1.out h (Hm3.out h hh)⟩,HB3.out⟩}};{
 have f1:(k==5)=false:=by rw[beq_eq_false_iff_ne];exact k1
 have f2:(k==6)=false:=by rw[beq_eq_false_iff_ne];exact k2
 clear k1 k2;go_wp2_with fail;go_ret2;exact⟨⟨_,l1,0,rfl,Hv1.out,by have:=Hn1.out;omega,Hz1.out⟩,HB1.out⟩}
end
end Go.Proofs.YthgenkkkapilhaaGreatDoor