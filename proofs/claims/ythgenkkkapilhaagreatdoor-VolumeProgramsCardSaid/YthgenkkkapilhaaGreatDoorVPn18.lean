/-
  Joined: VpI VpP VpM VqF FrD VtA VtB.
-/
import Derived.Test.YthgenkkkapilhaaGreatDoorVPn10
import Derived.Test.YthgenkkkapilhaaGreatDoorVPn12
import Derived.Test.YthgenkkkapilhaaGreatDoorVPn14
set_option linter.all false
set_option maxRecDepth 100000
set_option maxHeartbeats 64000000
namespace Go.Proofs.YthgenkkkapilhaaGreatDoor
open Go.Proofs.Tryz
section
open Go.RowKit
theorem OwnSeq.newAt {α:Type} {ρ:Shape α} {t:TypeId} {w W:World} (h:w.heap.size<=W.heap.size):OwnSeq ρ t w (W.alloc (.cells #[] t)) (.slice (some ⟨W.heap.size,0,none⟩) 0 0) []:=
 ⟨[],⟨(ownV_new W t ρ.n).1,(ownV_new W t ρ.n).2.imp id fun⟨g,cap,cur,e,hB,r⟩=>⟨g,cap,cur,e,by omega,r⟩⟩,.nil⟩
theorem src1B {α:Type} {ρ:Shape α} {w0 w W:World} {t:TypeId} (_:Below w.heap.size w W) (cs:List Value) (x:α) (hr:ρ.R w0 cs x):SrcAt ρ w0 (W.alloc (.cells cs.toArray t)) (.slice (some ⟨W.heap.size,0,none⟩) 1 1) [x]:=SrcAt.lit hr (Blk.new _ _ _)
theorem SrcAt.below {α:Type} {ρ:Shape α} {w0 W W':World} {v:Value} {us:List α} (h:SrcAt ρ w0 W v us) (hb:Below W.heap.size W W'):SrcAt ρ w0 W' v us:=by
 obtain⟨A,c,e,h⟩:=h;refine⟨A,c,e,fun i x hx=>?_⟩;obtain⟨b,o,cs,e1,hr,hc⟩:=h i x hx;exact⟨b,o,cs,e1,hr,fun j u hu=>cell_below hb (hc j u hu)⟩
theorem SrcAt.alloc {α:Type} {ρ:Shape α} {w0 W:World} {v:Value} {us:List α} (h:SrcAt ρ w0 W v us) (o:Obj):SrcAt ρ w0 (W.alloc o) v us:=h.below ((Below.refl _ _).alloc (Nat.le_refl _) _)
theorem cell_lt {W:World} {b o:Nat} {u:Value} (h:W.cell? ⟨b,o,none⟩=some u):b<W.heap.size:=by
 apply Decidable.byContradiction;intro hn;have hz:W.heap[b]?=none:=Array.getElem?_eq_none (by omega);simp[World.cell?,hz]at h
theorem SrcAt.grownB {α:Type} {ρ:Shape α} {w0 W W':World} {hb:Nat} {us:List α} {r:Option Nat} (h:SrcAt ρ w0 W (.slice (some ⟨hb,0,none⟩) 1 1) us) (hg:W.grownBy W' r) (hne:r≠some hb):SrcAt ρ w0 W' (.slice (some ⟨hb,0,none⟩) 1 1) us:=by
 obtain⟨A,c,e,h⟩:=h;refine⟨A,c,e,fun i x hx=>?_⟩;obtain⟨b,o,cs,e1,hr,hc⟩:=h i x hx;cases e1;have eb:b=hb:=by simp at e;exact e.1.1.symm
 refine⟨b,o,cs,rfl,hr,fun j u hu=>?_⟩;have hl:=cell_lt (hc j u hu);exact(World.cell?_of_block (hg.block b hl (by rw[eb];exact hne.symm))).trans (hc j u hu)
theorem Blk.grownB {W W':World} {g:Nat} {t:TypeId} {us:List Value} {r:Option Nat} (h:Blk W g t us) (hg:W.grownBy W' r) (hne:r≠some g):Blk W' g t us:=h.of_heap (hg.block g h.lt hne.symm)
theorem SeqAt.drop {α:Type} {ρ:Shape α} {W:World} {b o n c m:Nat} {xs:List α} (h:SeqAt ρ W (.slice (some ⟨b,o,none⟩) n c) xs) (hm:m<=xs.length):SeqAt ρ W (.slice (some ⟨b,o+m*ρ.n,none⟩) (n-m) (c-m)) (xs.drop m):=by
 obtain⟨A',c',e,h1,h2,h3⟩:=h;cases e;refine⟨_,_,by rw[List.length_drop],by rw[List.length_drop];omega,by omega,fun i x hx=>?_⟩;rw[List.getElem?_drop]at hx;obtain⟨b',o',cs,e,hr,hc⟩:=h3 (m+i) x hx;cases e;refine⟨_,_,cs,rfl,hr,fun j u hu=>?_⟩;rw[<-hc j u hu];congr 2;rw[Nat.add_mul];omega
theorem OwnSeq.neB {α:Type} {ρ:Shape α} {t:TypeId} {w W:World} {v:Value} {xs:List α} (h:OwnSeq ρ t w W v xs) {g:Nat} (hg:g<w.heap.size):v.ownBlock≠some g:=fun e=>by
 have:=h.ge g e
 omega
theorem insert38_any (w:World) (v:Value) (l:List Hol) (hv:SeqAt holS w v l) (hl:l.length<=100000) (hz:∀h∈l,h.p.size<=1000000) (p:ByteArray) (u:Int) (hp:p.size<=1000000):
  Calls prog 233 #[v,.agg #[.string p,.int .i64 u]] w fun e w'=>RetHols w w' (fun m=>m.length<=l.length+1/\∀h∈m,h=⟨p,u⟩∨h∈l) e/\Below w.heap.size w w':=by
 have HCm:=zY (fun(W:World) (q:ByteArray) (hq:q.size<=1000000)=>compare31_any W p q hp hq);have Hz:=zY hz;have Hla:=zY hl;obtain⟨A,c,rfl,h1,h2⟩:=hv.slice;have hK:=Blk.new w 289 [.string p,.int .i64 u];change Blk (w.alloc (.cells #[.string p,.int .i64 u] 289)) _ _ _ at hK;have HK:=zY hK;have HKl:Hid (w.heap.size<(w.alloc (.cells #[.string p,.int .i64 u] 289)).heap.size):=zY (by rw[World.size_alloc];omega);have HB0:=zY (zBl w (.cells #[.string p,.int .i64 u] 289));have Hv:=zY (hv.below HB0.out);clear hK hv hz hl;go_enter func233,ntmps233;go_upto_region 1 with fail;generalize w.alloc (.cells #[.string p,.int .i64 u] 289)=wa at *;go_wp2;go_loopw [5] (fun x wr=>∃i:Nat,i<=l.length/\x=.int .i64 (i:Int)/\Below wa.heap.size wa wr) (fun x _=>l.length-(intOf x).toNat);case atStart=>exact⟨0,by omega,rfl,Below.refl _ _⟩
 case round=>
 obtain⟨i,hi,rfl,hB⟩:=hrel;have HBc:=zY hB;have HKc:=zY (HK.kept hB);clear hB;by_cases h:i<l.length;{
 have hiI:(i:Int)<l.length:=by omega
 obtain⟨x,hx⟩:∃x,l[i]?=some x:=⟨_,List.getElem?_eq_getElem h⟩;have Hxz:=zY (Hz.out x (List.mem_of_getElem? hx));obtain⟨_,_,e9,_,_,h4⟩:=Hv.out;cases e9;obtain⟨b,o,cs,rfl,rfl,hc⟩:=h4 i x hx;have HL0:Hid (wa.cell? ⟨b,o+i*2,none⟩=some (.string x.p)):=zY (hc 0 _ rfl);obtain⟨q,uq⟩:=x;dsimp only at HL0 Hxz;clear hc h4 hx;have HT:=zY (Hv.take (m:=i) hi);have HD:=zY (Hv.drop (m:=i) hi);have HL4:Hid (([]:List Hol).length+(l.take i).length<=100000000):=zY (by have:=Hla.out;rw[List.length_take];simp;omega);have HL7:Hid (([]++l.take i).length+1<=100000000):=zY (by have:=Hla.out;simp;omega);have HL11:Hid (([]++l.take i++[(⟨p,u⟩:Hol)]).length+(l.drop i).length<=100000000):=zY (by have:=Hla.out;simp;omega);have HFin:Hid ((([]++l.take i++[(⟨p,u⟩:Hol)])++l.drop i).length<=l.length+1/\∀h∈(([]++l.take i++[(⟨p,u⟩:Hol)])++l.drop i),h=⟨p,u⟩∨h∈l):=zY (by
  refine⟨by simp;omega,fun h hh=>?_⟩
  simp only[List.nil_append,List.mem_append,List.mem_singleton]at hh
  rcases hh with(hh|hh)|hh
  ·exact .inr (List.mem_of_mem_take hh)
  ·exact .inl hh
  ·exact .inr (List.mem_of_mem_drop hh));obtain⟨r,hr⟩:=zNm (l.length-i);have hic:(i:Int)<=c:=by omega
 have hicn:i<=c:=by omega
 have hne:¬c=i:=by omega
 clear hr;have HKc:=zY HKc.drewW;have HBc:=zY HBc.drew;go_upto_region 4 with fail;refine wp_region_held_drew (S:=(fun W=>W.cell? ⟨w.heap.size,0,none⟩=some (.string p)/\W.cell? ⟨b,o+i*2,none⟩=some (.string q))) (by kernel_rfl) ?_ (fun hHeld=>?_);{exact⟨HKc.c 0,cell_below HBc.out HL0.out⟩};refine tk 0 ?_;refine tk 1 ?_;refine tk 2 ?_;refine tk 3 ?_;refine tk 4 ?_;refine tk 5 ?_;refine tk 6 ?_;refine zE1 7 fun K hK=>?_;go_simp;refine(HCm.out _ q Hxz.out).mono ?_;rintro e2 w2 ⟨⟨n,rfl⟩,hb2⟩;(try go_wp2_with fail);have HKc:=zY (HKc.kept hb2);have HBc:=zYt HBc hb2;clear hb2;refine hko hK (by exact⟨HKc.c 0,cell_below HBc.out HL0.out⟩) (fun _=>?_);clear hK K;refine tk 8 ?_;refine wpAnyH_done (by kernel_rfl) ?_ _;go_wp2_with fail;{
 have HKc:=zY HKc.drewW;have HBc:=zY HBc.drew;refine wp_region_held_drew (S:=(fun W=>W.cell? ⟨w.heap.size,0,none⟩=some (.string p)/\W.cell? ⟨w.heap.size,1,none⟩=some (.int .i64 u))) (by kernel_rfl) ?_ (fun hHeld=>?_);{exact⟨HKc.c 0,HKc.c 1⟩};refine tk 1 ?_;refine tk 2 ?_;refine tk 3 ?_;refine tk 5 ?_;refine tk 8 ?_;refine tk 9 ?_;refine tk 10 ?_;refine zEs [0,6] (zEc (fun K hK=>?_) (zEc (fun K hK=>?_) AllReadyH.nil));focus(
 go_simp;have HN:=zY (OwnSeq.newAt (ρ:=holS) (t:=289) HBc.size);first|simp only[World.size_alloc]at HN|skip
 first|(have HX:=zY (HX.alloc (.cells #[] 289)))|skip
 have HKc:=zY (HKc.alloc (.cells #[] 289));have HBc:=zY (HBc.alloc HBc.size (.cells #[] 289));refine hko hK (by exact⟨HKc.c 0,HKc.c 1⟩) (fun _=>?_);clear hK K;refine zEs [4,6] (zEc (fun K hK=>?_) (zEc (fun K hK=>?_) AllReadyH.nil));refine wp_append_seq (ρ:=holS) (w0:=wa) (v:=(.slice (some ⟨_,0,none⟩) 0 0)) Tryz.elemHol (.tmp 21) (.tmp 24) rfl rfl HN.out rfl (SrcAt.of HT.out HBc.out) HL4.out HBc.out ?_;intro vx1 wx1 hob hgb hbb;first|(have HX:=zY (HX.grownB hgb (by simp[Value.ownBlock])))|skip
 have HKc:=zY (HKc.grownB hgb (by first|exact HN.neB HKl.out|(simp[Value.ownBlock];omega)));have HN:=zY hob;have HBc:=zY hbb;clear hob hgb hbb;refine hko hK (by exact⟨HKc.c 0,HKc.c 1⟩) (fun _=>?_);clear hK K;refine zE1 6 fun K hK=>?_;go_simp;have HX:=zY (src1B (ρ:=holS) (w0:=wa) (t:=289) HBc.out [.string p,.int .i64 u] ⟨p,u⟩ rfl);first|simp only[World.size_alloc]at HX|skip
 first|(have HN:=zY (HN.alloc (.cells #[.string p,.int .i64 u] 289)))|skip
 have HKc:=zY (HKc.alloc (.cells #[.string p,.int .i64 u] 289));have HBc:=zY (HBc.alloc HBc.size (.cells #[.string p,.int .i64 u] 289));rotate_left;go_simp;have HX:=zY (src1B (ρ:=holS) (w0:=wa) (t:=289) HBc.out [.string p,.int .i64 u] ⟨p,u⟩ rfl);first|simp only[World.size_alloc]at HX|skip
 first|(have HN:=zY (HN.alloc (.cells #[.string p,.int .i64 u] 289)))|skip
 have HKc:=zY (HKc.alloc (.cells #[.string p,.int .i64 u] 289));have HBc:=zY (HBc.alloc HBc.size (.cells #[.string p,.int .i64 u] 289));refine hko hK (by exact⟨HKc.c 0,HKc.c 1⟩) (fun _=>?_);clear hK K;refine zE1 4 fun K hK=>?_;refine wp_append_seq (ρ:=holS) (w0:=wa) (v:=(.slice (some ⟨_,0,none⟩) 0 0)) Tryz.elemHol (.tmp 21) (.tmp 24) rfl rfl HN.out rfl (SrcAt.of HT.out HBc.out) HL4.out HBc.out ?_;intro vx1 wx1 hob hgb hbb;first|(have HX:=zY (HX.grownB hgb (by simp[Value.ownBlock])))|skip
 have HKc:=zY (HKc.grownB hgb (by first|exact HN.neB HKl.out|(simp[Value.ownBlock];omega)));have HN:=zY hob;have HBc:=zY hbb;clear hob hgb hbb;rotate_left)
 rotate_left 2;go_simp;have HX:=zY (src1B (ρ:=holS) (w0:=wa) (t:=289) HBc.out [.string p,.int .i64 u] ⟨p,u⟩ rfl);first|simp only[World.size_alloc]at HX|skip
 first|(have HN:=zY (HN.alloc (.cells #[.string p,.int .i64 u] 289)))|skip
 have HKc:=zY (HKc.alloc (.cells #[.string p,.int .i64 u] 289));have HBc:=zY (HBc.alloc HBc.size (.cells #[.string p,.int .i64 u] 289));refine hko hK (by exact⟨HKc.c 0,HKc.c 1⟩) (fun _=>?_);clear hK K;refine zE1 0 fun K hK=>?_;go_simp;have HN:=zY (OwnSeq.newAt (ρ:=holS) (t:=289) HBc.size);first|simp only[World.size_alloc]at HN|skip
 first|(have HX:=zY (HX.alloc (.cells #[] 289)))|skip
 have HKc:=zY (HKc.alloc (.cells #[] 289));have HBc:=zY (HBc.alloc HBc.size (.cells #[] 289));refine hko hK (by exact⟨HKc.c 0,HKc.c 1⟩) (fun _=>?_);clear hK K;refine zE1 4 fun K hK=>?_;refine wp_append_seq (ρ:=holS) (w0:=wa) (v:=(.slice (some ⟨_,0,none⟩) 0 0)) Tryz.elemHol (.tmp 21) (.tmp 24) rfl rfl HN.out rfl (SrcAt.of HT.out HBc.out) HL4.out HBc.out ?_;intro vx1 wx1 hob hgb hbb;first|(have HX:=zY (HX.grownB hgb (by simp[Value.ownBlock])))|skip
 have HKc:=zY (HKc.grownB hgb (by first|exact HN.neB HKl.out|(simp[Value.ownBlock];omega)));have HN:=zY hob;have HBc:=zY hbb;clear hob hgb hbb;rotate_left;all_goals
 refine hko hK (by exact⟨HKc.c 0,HKc.c 1⟩) (fun _=>?_);clear hK K;refine zE1 7 fun K hK=>?_;refine wp_append_seq (ρ:=holS) (w0:=wa) (v:=vx1) Tryz.elemHol (.tmp 25) (.tmp 27) rfl rfl HN.out rfl HX.out HL7.out HBc.out ?_;intro vx2 wx2 hob hgb hbb;have HKc:=zY (HKc.grownB hgb (by first|exact HN.neB HKl.out|(simp[Value.ownBlock];omega)));have HN:=zY hob;have HBc:=zY hbb;clear hob hgb hbb;refine hko hK (by exact⟨HKc.c 0,HKc.c 1⟩) (fun _=>?_);clear hK K;refine zE1 11 fun K hK=>?_;refine wp_append_seq (ρ:=holS) (w0:=wa) (v:=vx2) Tryz.elemHol (.tmp 28) (.tmp 31) rfl rfl HN.out rfl (SrcAt.of HD.out HBc.out) HL11.out HBc.out ?_;intro vx3 wx3 hob hgb hbb;have HKc:=zY (HKc.grownB hgb (by first|exact HN.neB HKl.out|(simp[Value.ownBlock];omega)));have HN:=zY hob;have HBc:=zY hbb;clear hob hgb hbb;refine hko hK (by exact⟨HKc.c 0,HKc.c 1⟩) (fun _=>?_);clear hK K;refine tk 12 ?_;refine wpAnyH_done (by kernel_rfl) ?_ _;go_wp2_with fail;go_ret;exact⟨⟨_,_,rfl,HN.low flatH (Nat.le_of_lt HKl.out),by first|exact HFin.out|(simp only[List.nil_append];exact HFin.out)⟩,HB0.trans (HBc.mono HB0.size)⟩};{
 go_roundw;case rel=>exact⟨i+1,by omega,by go_num,HBc.out⟩
 case measure=>simp[intOf];omega}};{
 obtain rfl:i=l.length:=by omega
 have hiI:¬((l.length:Nat):Int)<(l.length:Int):=by omega
 have HL2:Hid (([]:List Hol).length+l.length<=100000000):=zY (by have:=Hla.out;simp;omega);have HL5:Hid (([]++l).length+1<=100000000):=zY (by have:=Hla.out;simp;omega);have HFin:Hid (([]++l++[(⟨p,u⟩:Hol)]).length<=l.length+1/\∀h∈([]++l++[(⟨p,u⟩:Hol)]),h=⟨p,u⟩∨h∈l):=zY (by
  refine⟨by simp,fun h hh=>?_⟩
  simp only[List.nil_append,List.mem_append,List.mem_singleton]at hh
  rcases hh with hh|hh
  ·exact .inr hh
  ·exact .inl hh);have HKc:=zY HKc.drewW;have HBc:=zY HBc.drew;go_upto_region 6 with fail;refine wp_region_held_drew (S:=(fun W=>W.cell? ⟨w.heap.size,0,none⟩=some (.string p)/\W.cell? ⟨w.heap.size,1,none⟩=some (.int .i64 u))) (by kernel_rfl) ?_ (fun hHeld=>?_);{exact⟨HKc.c 0,HKc.c 1⟩};refine tk 1 ?_;refine tk 3 ?_;refine zEs [0,4] (zEc (fun K hK=>?_) (zEc (fun K hK=>?_) AllReadyH.nil));focus(
 go_simp;have HN:=zY (OwnSeq.newAt (ρ:=holS) (t:=289) HBc.size);first|simp only[World.size_alloc]at HN|skip
 first|(have HX:=zY (HX.alloc (.cells #[] 289)))|skip
 have HKc:=zY (HKc.alloc (.cells #[] 289));have HBc:=zY (HBc.alloc HBc.size (.cells #[] 289));refine hko hK (by exact⟨HKc.c 0,HKc.c 1⟩) (fun _=>?_);clear hK K;refine zEs [2,4] (zEc (fun K hK=>?_) (zEc (fun K hK=>?_) AllReadyH.nil));refine wp_append_seq (ρ:=holS) (w0:=wa) (v:=(.slice (some ⟨_,0,none⟩) 0 0)) Tryz.elemHol (.tmp 33) (.tmp 34) rfl rfl HN.out rfl (SrcAt.of Hv.out HBc.out) HL2.out HBc.out ?_;intro vx1 wx1 hob hgb hbb;first|(have HX:=zY (HX.grownB hgb (by simp[Value.ownBlock])))|skip
 have HKc:=zY (HKc.grownB hgb (by first|exact HN.neB HKl.out|(simp[Value.ownBlock];omega)));have HN:=zY hob;have HBc:=zY hbb;clear hob hgb hbb;refine hko hK (by exact⟨HKc.c 0,HKc.c 1⟩) (fun _=>?_);clear hK K;refine zE1 4 fun K hK=>?_;go_simp;have HX:=zY (src1B (ρ:=holS) (w0:=wa) (t:=289) HBc.out [.string p,.int .i64 u] ⟨p,u⟩ rfl);first|simp only[World.size_alloc]at HX|skip
 first|(have HN:=zY (HN.alloc (.cells #[.string p,.int .i64 u] 289)))|skip
 have HKc:=zY (HKc.alloc (.cells #[.string p,.int .i64 u] 289));have HBc:=zY (HBc.alloc HBc.size (.cells #[.string p,.int .i64 u] 289));rotate_left;go_simp;have HX:=zY (src1B (ρ:=holS) (w0:=wa) (t:=289) HBc.out [.string p,.int .i64 u] ⟨p,u⟩ rfl);first|simp only[World.size_alloc]at HX|skip
 first|(have HN:=zY (HN.alloc (.cells #[.string p,.int .i64 u] 289)))|skip
 have HKc:=zY (HKc.alloc (.cells #[.string p,.int .i64 u] 289));have HBc:=zY (HBc.alloc HBc.size (.cells #[.string p,.int .i64 u] 289));refine hko hK (by exact⟨HKc.c 0,HKc.c 1⟩) (fun _=>?_);clear hK K;refine zE1 2 fun K hK=>?_;refine wp_append_seq (ρ:=holS) (w0:=wa) (v:=(.slice (some ⟨_,0,none⟩) 0 0)) Tryz.elemHol (.tmp 33) (.tmp 34) rfl rfl HN.out rfl (SrcAt.of Hv.out HBc.out) HL2.out HBc.out ?_;intro vx1 wx1 hob hgb hbb;first|(have HX:=zY (HX.grownB hgb (by simp[Value.ownBlock])))|skip
 have HKc:=zY (HKc.grownB hgb (by first|exact HN.neB HKl.out|(simp[Value.ownBlock];omega)));have HN:=zY hob;have HBc:=zY hbb;clear hob hgb hbb;rotate_left)
 rotate_left 2;go_simp;have HX:=zY (src1B (ρ:=holS) (w0:=wa) (t:=289) HBc.out [.string p,.int .i64 u] ⟨p,u⟩ rfl);first|simp only[World.size_alloc]at HX|skip
 first|(have HN:=zY (HN.alloc (.cells #[.string p,.int .i64 u] 289)))|skip
 have HKc:=zY (HKc.alloc (.cells #[.string p,.int .i64 u] 289));have HBc:=zY (HBc.alloc HBc.size (.cells #[.string p,.int .i64 u] 289));refine hko hK (by exact⟨HKc.c 0,HKc.c 1⟩) (fun _=>?_);clear hK K;refine zE1 0 fun K hK=>?_;go_simp;have HN:=zY (OwnSeq.newAt (ρ:=holS) (t:=289) HBc.size);first|simp only[World.size_alloc]at HN|skip
 first|(have HX:=zY (HX.alloc (.cells #[] 289)))|skip
 have HKc:=zY (HKc.alloc (.cells #[] 289));have HBc:=zY (HBc.alloc HBc.size (.cells #[] 289));refine hko hK (by exact⟨HKc.c 0,HKc.c 1⟩) (fun _=>?_);clear hK K;refine zE1 2 fun K hK=>?_;refine wp_append_seq (ρ:=holS) (w0:=wa) (v:=(.slice (some ⟨_,0,none⟩) 0 0)) Tryz.elemHol (.tmp 33) (.tmp 34) rfl rfl HN.out rfl (SrcAt.of Hv.out HBc.out) HL2.out HBc.out ?_;intro vx1 wx1 hob hgb hbb;first|(have HX:=zY (HX.grownB hgb (by simp[Value.ownBlock])))|skip
 have HKc:=zY (HKc.grownB hgb (by first|exact HN.neB HKl.out|(simp[Value.ownBlock];omega)));have HN:=zY hob;have HBc:=zY hbb;clear hob hgb hbb;rotate_left;all_goals
 refine hko hK (by exact⟨HKc.c 0,HKc.c 1⟩) (fun _=>?_);clear hK K;refine zE1 5 fun K hK=>?_;refine wp_append_seq (ρ:=holS) (w0:=wa) (v:=vx1) Tryz.elemHol (.tmp 35) (.tmp 37) rfl rfl HN.out rfl HX.out HL5.out HBc.out ?_;intro vx2 wx2 hob hgb hbb;have HKc:=zY (HKc.grownB hgb (by first|exact HN.neB HKl.out|(simp[Value.ownBlock];omega)));have HN:=zY hob;have HBc:=zY hbb;clear hob hgb hbb;refine hko hK (by exact⟨HKc.c 0,HKc.c 1⟩) (fun _=>?_);clear hK K;refine tk 6 ?_;refine wpAnyH_done (by kernel_rfl) ?_ _;go_wp2_with fail;go_ret;exact⟨⟨_,_,rfl,HN.low flatH (Nat.le_of_lt HKl.out),by first|exact HFin.out|(simp only[List.nil_append];exact HFin.out)⟩,HB0.trans (HBc.mono HB0.size)⟩}
def kd:Value->Nat
 |.int .i64 _=>1
 |.int .u32 _=>2
 |.string _=>3
 |.slice _ _ _=>4
 |_=>0
def noFit (K:List Nat):List Nat->Bool
 |[]=>true
 |a::r=> !(K.isPrefixOf (a::r))&&noFit K r
theorem isPre {K l:List Nat} (h:∀(j:Nat) (a:Nat),K[j]?=some a->l[j]?=some a):K.isPrefixOf l=true:=by
 induction K generalizing l with
 |nil=>cases l<;>rfl
 |cons a K ih=>
 have h0:=h 0 a rfl;cases l with
 |nil=>cases h0
 |cons b l=>
 obtain rfl:b=a:=by simpa using h0
 rw[List.isPrefixOf,ih (fun j x hj=>by simpa using h (j+1) x (by simpa using hj))];simp
theorem noFit_at {K l:List Nat} (h:noFit K l=true) (hK:K≠[]):∀o:Nat,¬∀(j:Nat) (a:Nat),K[j]?=some a->l[o+j]?=some a:=by
 induction l with
 |nil=>(
 intro o hp;cases K with
 |nil=>exact hK rfl
 |cons a K=>cases hp 0 a rfl)
 |cons b l ih=>
 rw[noFit,Bool.and_eq_true]at h;intro o hp;cases o with
 |zero=>have:=isPre (fun j a hj=>by have:=hp j a hj;rwa [Nat.zero_add]at this);rw[this]at h;cases h.1
 |succ o=>
 refine ih h.2 o fun j a hj=>?_;have:=hp j a hj;rw[show o+1+j=o+j+1 by omega]at this;simpa using this
def Box (W:World) (D:Nat) (ks:List Nat):Prop:=∃t us,Blk W D t us/\us.map kd=ks
def Off {α:Type} (ρ:Shape α) (ks:List Nat):Prop:=∀(W W':World) (D:Nat) (v:Value) (xs:List α),Box W D ks->W.grownBy W' (some D)->SeqAt ρ W v xs->SeqAt ρ W' v xs
theorem Off.of {α:Type} {ρ:Shape α} {ks:List Nat} (K:List Nat) (hK:∀w cs x,ρ.R w cs x->cs.map kd=K) (hK0:K≠[]) (hf:noFit K ks=true) (hR:∀W W' D cs x,Box W D ks->W.grownBy W' (some D)->ρ.R W cs x->ρ.R W' cs x):Off ρ ks:=by
 intro W W' D v xs hB hg ⟨A,c,e,h1,h2,h3⟩;refine⟨A,c,e,h1,h2,fun i x hx=>?_⟩;obtain⟨b,o,cs,rfl,hr,h4⟩:=h3 i x hx;refine⟨b,o,cs,rfl,hR W W' D cs x hB hg hr,fun j u hu=>?_⟩;have hc:=h4 j u hu;by_cases hb:b=D;{
 exfalso;subst hb;obtain⟨t,us,hU,rfl⟩:=hB;refine noFit_at hf hK0 (o+i*ρ.n) fun j' a ha=>?_;rw[<-hK _ _ _ hr,List.getElem?_map]at ha;obtain⟨u',hu',rfl⟩:=Option.map_eq_some_iff.1 ha;have hc':=h4 j' u' hu';rw[List.getElem?_map];unfold Blk at hU;have:us[o+i*ρ.n+j']?=some u':=by simpa [World.cell?,hU]using hc'
 rw[this];rfl};{exact(World.cell?_of_block (hg.block b (cell_lt hc) (fun e=>hb (Option.some.inj e)))).trans hc}
theorem Off.flat {α:Type} {ρ:Shape α} {ks:List Nat} (hF:Flat ρ) (K:List Nat) (hK:∀w cs x,ρ.R w cs x->cs.map kd=K) (hK0:K≠[]) (hf:noFit K ks=true):Off ρ ks:=
 Off.of K hK hK0 hf fun _ _ _ _ _ _ _ h=>hF _ _ _ _ h
theorem flatA:Flat atrS:=fun _ _ _ _ h=>h
theorem SeqAt.kd {α:Type} {ρ:Shape α} {W:World} {v:Value} {xs:List α} (h:SeqAt ρ W v xs):kd v=4:=by
 obtain⟨A,c,rfl,_⟩:=h;rfl
theorem off_atr {ks:List Nat} (hf:noFit [3,3] ks=true):Off atrS ks:=Off.flat flatA [3,3] (fun _ _ _ h=>by rw[h];rfl) (by decide) hf
theorem off_ext {ks:List Nat} (hf:noFit [1,1,1] ks=true):Off extS ks:=Off.flat flatX [1,1,1] (fun _ _ _ h=>by rw[h];rfl) (by decide) hf
theorem off_chk {ks:List Nat} (hf:noFit [3,1,1,1] ks=true):Off chkS ks:=Off.flat flatC [3,1,1,1] (fun _ _ _ h=>by rw[h];rfl) (by decide) hf
theorem off_hol {ks:List Nat} (hf:noFit [3,1] ks=true):Off holS ks:=Off.flat flatH [3,1] (fun _ _ _ h=>by rw[h];rfl) (by decide) hf
theorem off_ent {ks:List Nat} (hf:noFit [1,3,4,3,1,3,4] ks=true) (hx:noFit [1,1,1] ks=true) (ha:noFit [3,3] ks=true):Off entS ks:=by
 refine Off.of [1,3,4,3,1,3,4] ?_ (by decide) hf ?_;{
 rintro w cs x ⟨va,vx,rfl,h1,h2⟩;simp only[List.map_cons,List.map_nil,h1.kd,h2.kd];rfl};{
 rintro W W' D cs x hB hg ⟨va,vx,rfl,h1,h2⟩;exact⟨va,vx,rfl,off_atr ha W W' D _ _ hB hg h1,off_ext hx W W' D _ _ hB hg h2⟩}
theorem off_ses {ks:List Nat} (hf:noFit [1,1,3,4,3,3] ks=true) (he:noFit [1,3,4,3,1,3,4] ks=true) (hx:noFit [1,1,1] ks=true) (ha:noFit [3,3] ks=true):Off sesS ks:=by
 refine Off.of [1,1,3,4,3,3] ?_ (by decide) hf ?_;{
 rintro w cs x ⟨va,rfl,h1⟩;simp only[List.map_cons,List.map_nil,h1.kd];rfl};{
 rintro W W' D cs x hB hg ⟨va,rfl,h1⟩;exact⟨va,rfl,off_ent he hx ha W W' D _ _ hB hg h1⟩}
theorem grown_set (W:World) (D i:Nat) (u:Value):W.grownBy (W.setCell ⟨D,i,none⟩ u) (some D):=
 ⟨rfl,rfl,rfl,by simp[World.setCell],fun k _ hk=>Below.heap_setCell W ⟨D,i,none⟩ u k (fun e=>hk (by rw[e]))⟩
theorem OwnSeq.neT {α:Type} {ρ:Shape α} {t t':TypeId} {w W:World} {v:Value} {xs:List α} (h:OwnSeq ρ t w W v xs) {D:Nat} {us:List Value} (hB:Blk W D t' us) (ht:t≠t'):v.ownBlock≠some D:=by
 obtain⟨css,ho,_⟩:=h;rcases ho.2 with⟨rfl,_⟩|⟨g,cap,cur,rfl,_,hg,_⟩;{exact fun e=>nomatch e};{
 intro e;have:g=D:=by simpa [Value.ownBlock]using e
 subst this;rw[Blk]at hB;rw[hB]at hg;injection hg with hg;injection hg with _ hg;exact ht hg.symm}
theorem OwnSeq.neO {α β:Type} {ρ:Shape α} {σ:Shape β} {t t':TypeId} {w w' W:World} {v v':Value} {xs:List α} {ys:List β} (h:OwnSeq ρ t w W v xs) (h':OwnSeq σ t' w' W v' ys) (ht:t≠t'):v.ownBlock=none∨v.ownBlock≠v'.ownBlock:=by
 obtain⟨css,ho,_⟩:=h;obtain⟨css',ho',_⟩:=h';rcases ho.2 with⟨rfl,_⟩|⟨g,cap,cur,rfl,_,hg,_⟩;{exact .inl rfl};{
 refine .inr fun e=>?_;rcases ho'.2 with⟨rfl,_⟩|⟨g',cap',cur',rfl,_,hg',_⟩;{cases e};{
 have:g=g':=by simpa [Value.ownBlock]using e
 subst this;rw[hg']at hg;injection hg with hg;injection hg with _ hg;exact ht hg.symm}}
theorem OwnSeq.grown {α:Type} {ρ:Shape α} {t:TypeId} {w W W':World} {v:Value} {xs:List α} {r:Option Nat} (h:OwnSeq ρ t w W v xs) (hg:W.grownBy W' r) (hne:v.ownBlock=none∨v.ownBlock≠r):OwnSeq ρ t w W' v xs:=by
 obtain⟨css,ho,hb⟩:=h;exact⟨css,ho.kept hg hne,hb⟩
def RetSeq {α:Type} (ρ:Shape α) (t:TypeId) (w w':World) (xs:List α) (e:Ending):Prop:=∃v,e=.returned v/\OwnSeq ρ t w w' v xs
theorem streams_any (w:World) (id d s:Int) (v:Value) (L:List Ses) (hv:SeqAt sesS w v L) (hl:L.length<=1000):Calls prog 215 #[.agg #[.int .u32 id,.int .i64 d,.int .i64 s,v]] w fun e w'=>RetSeq strS 9 w w' (L.map (·.str)) e/\Below w.heap.size w w':=by
 obtain⟨A,c,rfl,h1,h2⟩:=hv.slice;have hK:=Blk.new w 28 [.int .u32 id,.int .i64 d,.int .i64 s,.slice A L.length c];change Blk (w.alloc (.cells #[.int .u32 id,.int .i64 d,.int .i64 s,.slice A L.length c] 28)) _ _ _ at hK;have HK:=zY hK;have HB0:=zY (zBl w (.cells #[.int .u32 id,.int .i64 d,.int .i64 s,.slice A L.length c] 28));have Hv:=zY (hv.below HB0.out);have Hl:=zY hl;clear hK hv hl;go_enter func215,ntmps215;go_upto_region 1 with fail;generalize w.alloc (.cells #[.int .u32 id,.int .i64 d,.int .i64 s,.slice A L.length c] 28)=wa at *;go_wp2;go_loopw [3,4] (fun y x wr=>∃i:Nat,i<=L.length/\x=.int .i64 (i:Int)/\OwnSeq strS 9 wa wr y ((L.take i).map (·.str))/\Below wa.heap.size wa wr) (fun _ x _=>L.length-(intOf x).toNat);case atStart=>exact⟨0,by omega,rfl,OwnSeq.new _,(Below.refl _ _).alloc (Nat.le_refl _) _⟩
 case round=>
 obtain⟨i,hi,rfl,ho,hB⟩:=hrel;have HB:=zY hB;have HO:=zY ho;have HKr:=zY (HK.kept hB);clear ho hB;have c3:=HKr.c 3;by_cases h:i<L.length;{
 have hiI:(i:Int)<L.length:=by omega
 obtain⟨x,hx⟩:∃x,L[i]?=some x:=⟨_,List.getElem?_eq_getElem h⟩;have Hx:Hid ((L.take (i+1)).map (·.str)=(L.take i).map (·.str)++[x.str]):=zY (by rw[List.take_add_one,hx,List.map_append];rfl);obtain⟨_,_,e9,_,_,h4⟩:=Hv.out;cases e9;obtain⟨b,o,cs,rfl,⟨ve,rfl,_⟩,hc⟩:=h4 i x hx;have e4:=cell_below HB.out (show wa.cell? ⟨b,o+i*6+4,none⟩=some (.string x.str) from hc 4 _ rfl);have Hl1:Hid (((L.take i).map (·.str)).length+1<=100000000):=zY (by have:=Hl.out;simp;omega);generalize x.str=X at *;clear hc h4 hx;go_wp2_with (at_builtin;refine append_seq (ρ:=strS) (w0:=wa) Tryz.elemStr rfl _ _ rfl rfl (HO.alloc _) rfl (src1 (ρ:=strS) [.string X] X rfl rfl) Hl1.out (HB.alloc HB.size _) ?_;intro va1 wa1 hob _ hbb;have KU:=zY hob;have KB:=zY hbb;clear hob hbb);go_roundw;case rel=>exact⟨i+1,by omega,by go_num,by rw[Hx.out];exact KU.out,KB.out⟩
 case measure=>simp[intOf];omega};{
 obtain rfl:i=L.length:=by omega
 have hiI:¬((L.length:Nat):Int)<(L.length:Int):=by omega
 have HF:=zY (by have:=HO.low flatS HB0.size;rwa [List.take_length]at this:OwnSeq strS 9 w _ _ (L.map (·.str)));go_wp2;go_ret;exact⟨⟨_,rfl,HF.out⟩,HB0.trans (HB.mono HB0.size)⟩}
theorem close39_any (w:World) (num date sn:Int) (prev st:ByteArray) (Ae Ac At Ah:Option Addr) (ne ce nc cc nt ct nh ch:Nat):Calls prog 83 #[.agg #[.int .i64 num,.int .i64 date,.string prev,.slice Ae ne ce,.slice Ac nc cc,.int .i64 sn,.string st,.slice At nt ct,.slice Ah nh ch]] w fun e w'=>e=.returned (.agg #[.int .i64 num,.int .i64 date,.string prev,.slice Ae ne ce,.string st,.string ⟨#[]⟩])/\Below w.heap.size w w':=by
 have hK:=Blk.new w 163 [.int .i64 num,.int .i64 date,.string prev,.slice Ae ne ce,.slice Ac nc cc,.int .i64 sn,.string st,.slice At nt ct,.slice Ah nh ch];change Blk (w.alloc (.cells #[.int .i64 num,.int .i64 date,.string prev,.slice Ae ne ce,.slice Ac nc cc,.int .i64 sn,.string st,.slice At nt ct,.slice Ah nh ch] 163)) _ _ _ at hK;have HB1:=zY (zBl w (.cells #[.int .i64 num,.int .i64 date,.string prev,.slice Ae ne ce,.slice Ac nc cc,.int .i64 sn,.string st,.slice At nt ct,.slice Ah nh ch] 163));have HK1:=zY hK;have HSz:Hid ((w.alloc (.cells #[.int .i64 num,.int .i64 date,.string prev,.slice Ae ne ce,.slice Ac nc cc,.int .i64 sn,.string st,.slice At nt ct,.slice Ah nh ch] 163)).heap.size=w.heap.size+1):=zY (World.size_alloc _ _);clear hK;have HZ:Hid (∀W:World,W.heap.size=w.heap.size+1->Blk (W.alloc (.cells #[.int .i64 0,.int .i64 0,.string ⟨#[]⟩,.slice none 0 0,.string ⟨#[]⟩,.string ⟨#[]⟩] 45)) (w.heap.size+1) 45 [.int .i64 0,.int .i64 0,.string ⟨#[]⟩,.slice none 0 0,.string ⟨#[]⟩,.string ⟨#[]⟩]):=zY (fun W h=>by rw[<-h];exact Blk.new _ _ _);have HZ1:=zY (HZ.out _ HSz.out);have HB:=zY (HB1.alloc HB1.size (.cells #[.int .i64 0,.int .i64 0,.string ⟨#[]⟩,.slice none 0 0,.string ⟨#[]⟩,.string ⟨#[]⟩] 45));have HK:=zY (HK1.alloc (.cells #[.int .i64 0,.int .i64 0,.string ⟨#[]⟩,.slice none 0 0,.string ⟨#[]⟩,.string ⟨#[]⟩] 45));clear HZ HSz HB1 HK1;go_enter func83,ntmps83;go_upto_region 1 with fail
 generalize (w.alloc (.cells #[.int .i64 num,.int .i64 date,.string prev,.slice Ae ne ce,.slice Ac nc cc,.int .i64 sn,.string st,.slice At nt ct,.slice Ah nh ch] 163)).alloc (.cells #[.int .i64 0,.int .i64 0,.string ⟨#[]⟩,.slice none 0 0,.string ⟨#[]⟩,.string ⟨#[]⟩] 45)=wa at *;have c0:=HK.c 0;have c1:=HK.c 1;have c2:=HK.c 2;have c3:=HK.c 3;have c6:=HK.c 6;have z0:=HZ1.c 0;have z1:=HZ1.c 1;have z2:=HZ1.c 2;have z3:=HZ1.c 3;have z4:=HZ1.c 4;have z5:=HZ1.c 5;have y0:=HZ1.frozen 0;have y1:=HZ1.frozen 1;have y2:=HZ1.frozen 2;have y3:=HZ1.frozen 3;have y4:=HZ1.frozen 4;have y5:=HZ1.frozen 5;have HW:=zY ((((((HZ1.set 0 (.int .i64 num)).set 1 (.int .i64 date)).set 2 (.string prev)).set 3 (.slice Ae ne ce)).set 4 (.string st)).set 5 (.string ⟨#[]⟩));have hle:w.heap.size<=w.heap.size+1:=by omega
 have HBw:=zY ((((((HB.setCell (p:=⟨w.heap.size+1,0,none⟩) hle (.int .i64 num)).setCell (p:=⟨w.heap.size+1,1,none⟩) hle (.int .i64 date)).setCell (p:=⟨w.heap.size+1,2,none⟩) hle (.string prev)).setCell (p:=⟨w.heap.size+1,3,none⟩) hle (.slice Ae ne ce)).setCell (p:=⟨w.heap.size+1,4,none⟩) hle (.string st)).setCell (p:=⟨w.heap.size+1,5,none⟩) hle (.string ⟨#[]⟩));clear hle;go_wp2_with fail;refine bodyPost_ret (results_cell_row rfl _ _ (w.heap.size+1) 45 _ (0,0) _ rfl HW.out underlying45 rfl (by kernel_rfl)) rfl ?_;exact⟨rfl,HBw.out⟩
def layE (d s:Int):Int:=if d<1∨8<d∨s<0∨7<s then 2 else 0
theorem laycheck_any (w:World) (d s:Int):Calls prog 45 #[.agg #[.int .i64 d,.int .i64 s]] w fun e w'=>e=.returned (.int .i64 (layE d s))/\Below w.heap.size w w':=by
 have hK:=Blk.new w 24 [.int .i64 d,.int .i64 s];change Blk (w.alloc (.cells #[.int .i64 d,.int .i64 s] 24)) _ _ _ at hK;have HK:=zY hK;have HB:=zY (zBl w (.cells #[.int .i64 d,.int .i64 s] 24));obtain⟨R,hR⟩:=zNm (layE d s);rw[hR];unfold layE at hR;have HR:=zY hR;clear hK hR;go_enter func45,ntmps45;go_upto_region 1 with fail;generalize w.alloc (.cells #[.int .i64 d,.int .i64 s] 24)=wa at *;have c0:=HK.c 0;have c1:=HK.c 1;by_cases h1:d<1;{
 go_wp2;go_ret;exact⟨by rw[<-HR.out,if_pos (by omega)];rfl,HB.out⟩};{
 by_cases h2:8<d;{
 go_wp2;go_ret;exact⟨by rw[<-HR.out,if_pos (by omega)];rfl,HB.out⟩};{
 by_cases h3:s<0;{
 go_wp2;go_ret;exact⟨by rw[<-HR.out,if_pos (by omega)];rfl,HB.out⟩};{
 by_cases h4:7<s;{
 go_wp2;go_ret;exact⟨by rw[<-HR.out,if_pos (by omega)];rfl,HB.out⟩};{
 go_wp2;go_ret;exact⟨by rw[<-HR.out,if_neg (by omega)];rfl,HB.out⟩}}}}
theorem bitsS_01 {u:List Nat} (h:Bits u):B01 (bitsS u):=fun c hc=>by
 obtain⟨x,hx,rfl⟩:=List.mem_map.1 hc
 have:=h x hx
 omega
theorem rprintable_any (w:World) (s:ByteArray) (hs:s.size<=1000000):Calls prog 97 #[.string s] w fun e w'=>e=.returned (.bool (prtL (bs s)))/\w'=w:=by
 obtain⟨R,hR⟩:=zNm (prtL (bs s));have HRt:Hid ((∀i (hi:i<s.size),32<=(s[i]'hi).toNat/\(s[i]'hi).toNat<=126)->R=true):=zY (fun h=>by rw[<-hR];exact prt_true h);have HRf:Hid (∀i (hi:i<s.size),¬(32<=(s[i]'hi).toNat/\(s[i]'hi).toNat<=126)->R=false):=zY (fun i hi h=>by rw[<-hR];exact prt_false hi h);rw[hR];clear hR;go_enter func97,ntmps97;go_wp2;go_loopw [3] (fun x wr=>∃i:Nat,i<=s.size/\x=.int .i64 (i:Int)/\Hid (∀j (hj:j<s.size),j<i->32<=(s[j]'hj).toNat/\(s[j]'hj).toNat<=126)/\wr=w) (fun x _=>s.size-(intOf x).toNat);case atStart=>exact⟨0,by omega,rfl,zY (fun j _ h=>by omega),rfl⟩
 case round=>
 obtain⟨i,hi,rfl,HA,rfl⟩:=hrel;by_cases h:i<s.size;{
 have hiI:(i:Int)<s.size:=by omega
 have HB:=zY (HRf.out i h);have HN:Hid (32<=(s[i]'h).toNat->(s[i]'h).toNat<=126->∀j (hj:j<s.size),j<i+1->32<=(s[j]'hj).toNat/\(s[j]'hj).toNat<=126):=zY (fun h1 h2 j hj hji=>by
  by_cases e:j=i
  ·subst e;exact⟨h1,h2⟩
  ·exact HA.out j hj (by omega));obtain⟨b,hb⟩:=zNm ((s[i]'h).toNat);rw[hb]at HB HN;have hb8:b<256:=by rw[<-hb];exact UInt8.toNat_lt _
 by_cases h1:b<32;{
 have h1I:(b:Int)<32:=by omega
 have hr:=HB.out (by omega);subst hr;clear HB HN;go_wp2;go_ret;first|exact⟨rfl,rfl⟩|exact⟨rfl,trivial⟩};{
 have h1I:¬(b:Int)<32:=by omega
 by_cases h2:126<b;{
 have h2I:(126:Int)<b:=by omega
 have hr:=HB.out (by omega);subst hr;clear HB HN;go_wp2;go_ret;first|exact⟨rfl,rfl⟩|exact⟨rfl,trivial⟩};{
 have h2I:¬(126:Int)<b:=by omega
 have HN:=zY (HN.out (by omega) (by omega));clear HB;go_wp2;go_roundw;case rel=>exact⟨i+1,by omega,by go_num,HN,by first|rfl|trivial⟩
 case measure=>simp[intOf];omega}}};{
 obtain rfl:i=s.size:=by omega
 have hiI:¬((s.size:Nat):Int)<(s.size:Int):=by omega
 have hr:=HRt.out (fun j hj=>HA.out j hj hj);subst hr;go_wp2;go_ret;first|exact⟨rfl,rfl⟩|exact⟨rfl,trivial⟩}
def digs:Nat->Nat->List Nat
 |0,_=>[]
 |k+1,n=>digs k (n/10)++[48+n%10]
theorem digs_zero:∀k,digs k 0=List.replicate k 48
 |0=>rfl
 |k+1=>by
  rw[digs,Nat.zero_div,digs_zero k,List.replicate_succ']
theorem digs_pad:∀(k n:Nat),(digD n).length<=k->digs k n=padL k n
 |0,n,h=>by
  by_cases c:n<10
  ·rw[digD_small c]at h;simp at h
  ·rw[digD_great c,digD_small (show n%10<10 by omega)]at h;simp at h
 |k+1,n,h=>by
  rw[digs,padL]
  by_cases c:n<10
  {
  rw[digD_small c,Nat.div_eq_of_lt c,digs_zero,Nat.mod_eq_of_lt c]
  simp}
  {
  have e:=digD_great c
  rw[digD_small (show n%10<10 by omega)]at e
  have hl:(digD n).length=(digD (n/10)).length+1:=by rw[e,List.length_append];rfl
  rw[digs_pad k (n/10) (by omega),padL,hl,e,<-List.append_assoc]
  congr 3
  omega}
theorem rdigits_any (w:World) (n k:Nat) (hn:n<18446744073709551616) (hk:k<=100) (hd:(digD n).length<=k):Calls prog 192 #[.int .u64 (n:Int),.int .i64 (k:Int)] w fun e w'=>e=.returned (.string (strB (padL k n)))/\Below w.heap.size w w':=by
 rw[<-digs_pad k n hd];clear hd;have HK:=zY hk;go_enter func192,ntmps192;go_wp2;go_loopw [0,5] (fun m s wr=>∃(j v:Nat) (l:List Nat),j<=k/\v<18446744073709551616/\m=.int .u64 (v:Int)/\s=.string (strB l)/\l.length=j/\digs k n=digs (k-j) v++l/\Below w.heap.size w wr) (fun _ s _=>k-strSize s);case atStart=>exact⟨0,n,[],by omega,hn,rfl,rfl,rfl,by simp,Below.refl _ _⟩
 case round=>
 obtain⟨j,v,l,hj,hv,rfl,rfl,hl,he,hB⟩:=hrel;have HE:=zY he;have HB:=zY hB;have HL:=zY hl;clear he hB;obtain⟨S,hS⟩:=zNm (strB l);have hSz:S.size=j:=by rw[<-hS,strB_size,hl]
 rw[hS];by_cases h:j<k;{
 have hI:(S.size:Int)<(k:Int):=by omega
 obtain⟨m,hm⟩:=zNm (v/10);obtain⟨r,hr⟩:=zNm (v%10);have hr1:Int.tmod (v:Int) 10=(r:Int):=by rw[<-hr];rfl
 have hm1:Int.tdiv (v:Int) 10=(m:Int):=by rw[<-hm];rfl
 have hw1:IntKind.u64.wrap (r:Int)=(r:Int):=IntWalk.u64_in _ (by omega);have hw2:IntKind.u64.wrap ((48:Int)+(r:Int))=((48+r:Nat):Int):=by rw[IntWalk.u64_in _ (by omega)];omega
 have hw3:IntKind.u8.wrap ((48+r:Nat):Int)=((48+r:Nat):Int):=by rw[IntKind.wrap_u8];omega
 have hm64:m<18446744073709551616:=by omega
 have hw4:IntKind.u64.wrap (m:Int)=(m:Int):=IntWalk.u64_in _ (by omega);obtain⟨c,hc⟩:=zNm (48+r);rw[hc]at hw2 hw3;have hc2:(48:Int)+(r:Int)=(c:Int):=by omega
 have hc3:(c:Int)%256=(c:Int):=by omega
 have HC:Hid (∀W:World,(convert 117 9 (.slice (some ⟨W.heap.size,0,none⟩) 1 1)).run prog (W.alloc (.cells #[.int .u8 (c:Int)] 5))=.ok (.string (strB [c])) (W.alloc (.cells #[.int .u8 (c:Int)] 5))):=zY (fun W=>run_toStr (BytesAt.one W c) rfl);have hC:=HC.out wr;have hcc:¬9223372036854775807<(strB [c]).size+S.size:=by rw[strB_size];simp;omega
 have HBn:=zY (HB.alloc HB.size (.cells #[.int .u8 (c:Int)] 5));have HS2:Hid (strB [c]++S=strB (c::l)):=zY (by rw[<-hS,strB_cat];rfl);have HE2:Hid (digs k n=digs (k-(j+1)) m++(c::l)):=zY (by
  rw[HE.out,show k-j=(k-(j+1))+1 by omega,digs,hm,hr,hc]
  simp);obtain⟨T,hT⟩:=zNm (strB [c]);rw[hT]at hC hcc HS2;clear hm hr hc hS hT;go_wp2;go_roundw;case rel=>exact⟨j+1,m,c::l,by omega,hm64,rfl,by rw[HS2.out],by rw[List.length_cons,HL.out],HE2.out,HBn.out⟩
 case measure=>show k-(T++S).size<k-S.size;rw[HS2.out,strB_size,List.length_cons,HL.out];omega};{
 obtain rfl:j=k:=by omega
 have hI:¬(S.size:Int)<(j:Int):=by omega
 have HR:Hid (strB (digs j n)=S):=zY (by rw[HE.out,Nat.sub_self,digs,List.nil_append,hS]);clear hS;go_wp2;go_ret;exact⟨by rw[HR.out]<;>rfl,HB.out⟩}
theorem digD_ten {u:Nat} (h:u<4294967296):(digD u).length<=10:=by
 have g:∀k u:Nat,u<10^(k+1)->(digD u).length<=k+1:=by{
 intro k;induction k with
 |zero=>intro u hu;rw[digD_small (by simpa using hu)];simp
 |succ k ih=>
 intro u hu;by_cases c:u<10;{rw[digD_small c];simp};{
 have e:=digD_great c;rw[digD_small (show u%10<10 by omega)]at e;have:=ih (u/10) (by rw[Nat.pow_succ]at hu;omega);rw[e,List.length_append];simp;omega}};exact g 9 u (by omega)
theorem rseal_any (w:World) (l:List Nat) (hl:l.length<=1000):Calls prog 121 #[.string (strB l)] w fun e w'=>e=.returned (.string (strB (padL 10 (sumL [strB l]))))/\Below w.heap.size w w':=by
 have HCr:Hid (∀W:World,Calls prog 193 #[.slice (some ⟨W.heap.size,0,none⟩) 1 1] (W.alloc (.cells #[.string (strB l)] 9)) fun e w'=>e=.returned (.int .u32 (sumL [strB l]:Nat))/\W.alloc (.cells #[.string (strB l)] 9)=w'):=zY (fun W=>
  rsum_any _ _ [strB l] (Blk.slAt (f:=strV) (xs:=[strB l]) (Blk.new W 9 [.string (strB l)]) (c:=1) (by simp) (by omega)) (by intro x hx;rw[List.mem_singleton.1 hx,strB_size];omega) (by simp));have hcl:=sumL_lt [strB l];obtain⟨c,hc⟩:=zNm (sumL [strB l]);rw[hc]at HCr hcl⊢;have hcw:IntKind.u64.wrap (c:Int)=c:=IntWalk.u64_in _ (by omega);have HD:=zY (fun(W:World)=>rdigits_any W c 10 (by omega) (by omega) (digD_ten hcl));generalize strB l=M at *;clear hc hl;go_enter func121,ntmps121;go_wp2_with fail;refine(HCr.out _).mono ?_;rintro e2 w2 ⟨rfl,e2⟩;have HB2:Hid (Below w.heap.size w w2):=zY (e2▸zBl w _);clear e2;go_wp2_with fail;refine(HD.out _).mono ?_;rintro e3 w3 ⟨rfl,hb3⟩;have HB3:=zYt HB2 hb3;clear hb3;go_wp2;go_ret;exact⟨rfl,HB3.out⟩
theorem rcheck26_ok (w:World) (a i t:Nat) (x:ByteArray) (h:PlnOk a i t x):Calls prog 123 #[.agg #[.int .u32 (a:Int),.int .i64 (i:Int),.int .i64 (t:Int),.string x]] w fun e w'=>e=.returned (.int .i64 0)/\Below w.heap.size w w':=by
 have HP:=zY (fun W=>rprintable_any W x (by have:=h.hx;omega));rw[h.hp]at HP;have h1:=h.it;have h2:=h.ht;have h3:=h.hx;have h4:¬(t:Int)<1:=by omega
 have h5:¬(99999:Int)<t:=by omega
 have h6:¬(i:Int)<0:=by omega
 have h7:¬(t:Int)<=i:=by omega
 have h8:(x.size:Int)=64:=by omega
 have h9:((x.size:Int) != 64)=false:=by rw[h8];rfl
 have HK:=zY (Blk.new w 124 [.int .u32 (a:Int),.int .i64 (i:Int),.int .i64 (t:Int),.string x]);have HK:Hid (Blk (w.alloc (.cells #[.int .u32 (a:Int),.int .i64 (i:Int),.int .i64 (t:Int),.string x] 124)) w.heap.size 124 [.int .u32 (a:Int),.int .i64 (i:Int),.int .i64 (t:Int),.string x]):=zY HK.out;have HB:=zY (zBl w (.cells #[.int .u32 (a:Int),.int .i64 (i:Int),.int .i64 (t:Int),.string x] 124));have H3:=zY h3;clear h h1 h2 h3;go_enter func123,ntmps123;go_upto_region 1 with fail;generalize w.alloc (.cells #[.int .u32 (a:Int),.int .i64 (i:Int),.int .i64 (t:Int),.string x] 124)=wa at *;have c1:=HK.c 1;have c2:=HK.c 2;have c3:=HK.c 3;go_wp2_with fail;refine(HP.out _).mono ?_;rintro e1 w1 ⟨rfl,rfl⟩;go_wp2;go_ret;exact⟨rfl,HB.out⟩
end
end Go.Proofs.YthgenkkkapilhaaGreatDoor