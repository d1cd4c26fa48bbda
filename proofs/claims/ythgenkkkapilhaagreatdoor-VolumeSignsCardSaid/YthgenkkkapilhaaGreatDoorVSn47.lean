/-
  Joined: SgE SgF SgC SgG SgH SgI SgK SgL LvsA.
-/
import Derived.Test.YthgenkkkapilhaaGreatDoorVSn46
set_option linter.all false
set_option maxRecDepth 100000
set_option maxHeartbeats 64000000
namespace Go.Proofs.YthgenkkkapilhaaGreatDoor
section
open Go.RowKit
def nextL (l:List ByteArray):List ByteArray:=(List.range (l.length/2)).map fun i=>nodeS (l.getD (2*i) ⟨#[]⟩) (l.getD (2*i+1) ⟨#[]⟩)
def lvlsL:Nat->List ByteArray->List (List ByteArray)
 |0,l=>[l]
 |k+1,l=>l::lvlsL k (nextL l)
theorem nextL_len (l:List ByteArray):(nextL l).length=l.length/2:=by simp[nextL]
theorem lvlsL_len:∀(k:Nat) (l:List ByteArray),(lvlsL k l).length=k+1
 |0,_=>rfl
 |k+1,l=>by rw[lvlsL,List.length_cons,lvlsL_len k]
theorem nextL_get {l:List ByteArray} {i:Nat} {x y:ByteArray} (hx:l[2*i]?=some x) (hy:l[2*i+1]?=some y):(nextL l)[i]?=some (nodeS x y):=by
 have h:=(List.getElem?_eq_some_iff.1 hy).1
 rw[nextL,List.getElem?_map,List.getElem?_range (by omega)]
 rw[Option.map_some,List.getD_eq_getElem?_getD,List.getD_eq_getElem?_getD,hx,hy]
 rfl
theorem nextL_size {l:List ByteArray}:∀x∈nextL l,x.size=16:=by
 intro x hx
 obtain⟨i,_,rfl⟩:=List.mem_map.1 hx
 exact hshB_size _
theorem OwnRows.boxed {t t' t2:TypeId} {w0 W W':World} {v:Value} {xss:List (List ByteArray)} {D:Nat} {us:List Value} (h:OwnRows t t' w0 W v xss) (hB:Blk W D t2 us) (hg:W.grownBy W' (some D)) (ht:t≠t2) (ht':t'≠t2):OwnRows t t' w0 W' v xss:=by
 obtain⟨rs,h1,h2⟩:=h
 exact⟨rs,h1.grown hg (.inr (h1.neT hB ht)),h2.mono fun r x h=>h.grown hg (.inr (h.neT hB ht'))⟩
theorem kbuild_any (w0:World) (hT:Tab w0) (go gb:Nat) (hgo:w0.heap.size<=go) (hgn:go≠gb):∀(k:Nat),k<=10->∀(w:World) (v vo:Value) (l:List ByteArray) (O:List (List ByteArray)),l.length=2^k->(∀x∈l,x.size<=1000)->OwnSeq strS 9 w0 w v l->Blk w go 96 [vo]->OwnRows 51 9 w0 w vo O->Blk w gb 214 [.func (.func 138) #[] #[.pointer (some ⟨go,0,none⟩),.pointer (some ⟨gb,0,none⟩)]]->Below w0.heap.size w0 w->O.length+k<=100 ->
  Calls Tryz.prog 138 #[v,.pointer (some ⟨go,0,none⟩),.pointer (some ⟨gb,0,none⟩)] w fun e w'=>e=.returned (.tuple #[])/\∃vo',Blk w' go 96 [vo']/\OwnRows 51 9 w0 w' vo' (O++lvlsL k l)/\Below w0.heap.size w0 w':=by
 have HT:=zY hT
 have HGo:=zY hgo
 have HGn:=zY hgn
 clear hT hgo hgn
 intro k
 induction k with
 |zero=>
  intro hk w v vo l O hl hz hv hbo ho hbb hB hO
  have HV:=zY hv
  have HBo:=zY hbo
  have HB:=zY hB
  obtain⟨A,c,rfl⟩:=hv.slice
  obtain⟨rs,hr1,hr2⟩:=ho
  have HR1:=zY hr1
  have HR2:=zY hr2
  obtain⟨Ao,co,rfl⟩:=hr1.slice
  have hl1:l.length=1:=hl
  have Hl1:Hid (rs.length+1<=100000000):=zY (by have:=hr2.len;omega)
  rw[hl1]at HV⊢
  have c0:=hbo.c 0
  clear hv hbo hbb hB hr1 hr2 hl hz
  go_enter Tryz.func138,Tryz.ntmps138
  have HW0:=zY (HB.out.alloc HB.out.size (.cells #[.slice A 1 c] 51))
  have HBo1:=zY (HBo.out.alloc (.cells #[.slice A 1 c] 51))
  have HR11:=zY (HR1.out.alloc (.cells #[.slice A 1 c] 51))
  have HV1:=zY (HV.out.alloc (.cells #[.slice A 1 c] 51))
  have HR21:Hid (Both (fun r x=>OwnSeq strS 9 w0 (w.alloc (.cells #[.slice A 1 c] 51)) r x) rs O):=zY (HR2.out.mono fun r x h=>h.alloc _)
  go_upto_region 1 with(at_builtin;refine append_seq (ρ:=valS) (w0:=w0) (us:=[.slice A 1 c]) Tryz.elemStrs rfl _ _ rfl rfl HR11.out rfl (src1 (ρ:=valS) [.slice A 1 c] (.slice A 1 c) ⟨rfl,rfl⟩ rfl) Hl1.out HW0.out ?_;intro va wn hob hgb hbb;obtain⟨Aa,ca,e⟩:=hob.slice;generalize (rs++[(.slice A 1 c:Value)]).length=nl at e;subst e;have KBo:=zY (HBo1.out.grownB hgb (HR11.out.neT HBo1.out (by decide)));have KO:=zY (OwnRows.snoc (by decide) HR11.out HR21.out HV1.out hob hgb);have KV:=zY (HV1.out.grown hgb (HV1.out.neO HR11.out (by decide)));have KB:=zY hbb;have q0:=KBo.out.c 0;have z0:=KBo.out.frozen 0;clear hob hgb hbb)
  have HBz:=zY (KBo.out.set 0 (.slice Aa nl ca))
  have HOz:=zY (KO.out.boxed KBo.out (grown_set wn go 0 (.slice Aa nl ca)) (by decide) (by decide))
  have HBw:=zY (KB.out.setCell (p:=⟨go,0,none⟩) HGo.out (.slice Aa nl ca))
  clear q0 z0 c0
  generalize wn.setCell ⟨go,0,none⟩ (.slice Aa nl ca)=wn at *
  go_wp2
  first|refine bodyPost_end (results_none rfl _ _ _) rfl ?_|refine bodyPost_ret (results_none rfl _ _ _) rfl ?_
  exact⟨rfl,_,HBz.out,HOz.out,HBw.out⟩
 |succ k ih=>
  intro hk w v vo l O hl hz hv hbo ho hbb hB hO
  have HIh:=zY ih
  have HV:=zY hv
  have HBo:=zY hbo
  have HBb:=zY hbb
  have HB:=zY hB
  have HZ:=zY hz
  obtain⟨A,c,rfl⟩:=hv.slice
  obtain⟨rs,hr1,hr2⟩:=ho
  have HR1:=zY hr1
  have HR2:=zY hr2
  obtain⟨Ao,co,rfl⟩:=hr1.slice
  obtain⟨h,hh⟩:=zNm (2^k)
  have hl2:l.length=2*h:=by rw[hl,Nat.pow_succ,hh];omega
  have hp:0<h:=by rw[<-hh];exact Nat.pow_pos (by decide)
  have hmax:h<=1024:=by rw[<-hh];exact Nat.pow_le_pow_right (by decide) (show k<=10 by omega)
  have Hlh:Hid (l.length=2*h):=zY hl2
  have Hhh:=zY hh
  have Hl1:Hid (rs.length+1<=100000000):=zY (by have:=hr2.len;omega)
  have hne1:((l.length:Int)==1)=false:=by rw[beq_eq_false_iff_ne];omega
  have c0:=hbo.c 0
  clear hv hbo hbb hB hr1 hr2 hl hz ih hh hl2
  go_enter Tryz.func138,Tryz.ntmps138
  have HW0:=zY (HB.out.alloc HB.out.size (.cells #[.slice A l.length c] 51))
  have HBo1:=zY (HBo.out.alloc (.cells #[.slice A l.length c] 51))
  have HR11:=zY (HR1.out.alloc (.cells #[.slice A l.length c] 51))
  have HV1:=zY (HV.out.alloc (.cells #[.slice A l.length c] 51))
  have HR21:Hid (Both (fun r x=>OwnSeq strS 9 w0 (w.alloc (.cells #[.slice A l.length c] 51)) r x) rs O):=zY (HR2.out.mono fun r x h=>h.alloc _)
  have HBb1:=zY (HBb.out.alloc (.cells #[.slice A l.length c] 51))
  go_upto_region 1 with(at_builtin;refine append_seq (ρ:=valS) (w0:=w0) (us:=[.slice A l.length c]) Tryz.elemStrs rfl _ _ rfl rfl HR11.out rfl (src1 (ρ:=valS) [.slice A l.length c] (.slice A l.length c) ⟨rfl,rfl⟩ rfl) Hl1.out HW0.out ?_;intro va wn hob hgb hbb;obtain⟨Aa,ca,e⟩:=hob.slice;generalize (rs++[(.slice A l.length c:Value)]).length=nl at e;subst e;have KBo:=zY (HBo1.out.grownB hgb (HR11.out.neT HBo1.out (by decide)));have KO:=zY (OwnRows.snoc (by decide) HR11.out HR21.out HV1.out hob hgb);have KV:=zY (HV1.out.grown hgb (HV1.out.neO HR11.out (by decide)));have KBb:=zY (HBb1.out.grownB hgb (HR11.out.neT HBb1.out (by decide)));have KB:=zY hbb;have q0:=KBo.out.c 0;have z0:=KBo.out.frozen 0;clear hob hgb hbb)
  have HBz:=zY (KBo.out.set 0 (.slice Aa nl ca))
  have HOz:=zY (KO.out.boxed KBo.out (grown_set wn go 0 (.slice Aa nl ca)) (by decide) (by decide))
  have HBw:=zY (KB.out.setCell (p:=⟨go,0,none⟩) HGo.out (.slice Aa nl ca))
  have HVz:=zY (KV.out.grown (grown_set wn go 0 (.slice Aa nl ca)) (.inr (KV.out.neT KBo.out (by decide))))
  have HBbz:=zY (KBb.out.far (p:=⟨go,0,none⟩) (Ne.symm HGn.out) (.slice Aa nl ca))
  clear q0 z0 c0
  generalize wn.setCell ⟨go,0,none⟩ (.slice Aa nl ca)=wn at *
  go_upto_region 3 with fail
  obtain⟨w1,hw1⟩:=zNm (wn)
  rw[hw1]at HBz HOz HBw HVz HBbz⊢
  clear hw1
  have HSv:=zY (HVz.out.atF flatS HBw.out.size)
  have HTw:Hid (Tab w1):=zY (HT.out.below HBw.out)
  go_wp2
  go_loopw [4,5] (fun y t wr=>∃i:Nat,i<=h/\t=.int .i64 ((2*i:Nat):Int)/\OwnSeq strS 9 w1 wr y ((nextL l).take i)/\Below w1.heap.size w1 wr) (fun _ t _=>l.length-(intOf t).toNat)
  case atStart=>exact⟨0,by omega,rfl,OwnSeq.nil _,Below.refl _ _⟩
  case round=>
   obtain⟨i,hi,rfl,ho,hBr⟩:=hrel
   have HO:=zY ho
   have HBr:=zY hBr
   clear ho hBr
   obtain⟨a,ha⟩:=zNm (2*i)
   obtain⟨a1,ha1⟩:=zNm (a+1)
   rw[ha]
   by_cases hlt:i<h
   {
   have hli:a<l.length:=by have:=Hlh.out;omega
   have hli1:a1<l.length:=by have:=Hlh.out;omega
   have hiI:(a:Int)<l.length:=by omega
   have hiJ:(a1:Int)<l.length:=by omega
   have hw1:IntKind.i64.wrap ((a:Int)+1)=(a1:Int):=by rw[zIw (by omega)];omega
   have hw2:(a:Int)+1=(a1:Int):=by omega
   have hw3:IntKind.i64.wrap (a1:Int)=(a1:Int):=zIw (by omega)
   obtain⟨x,hx⟩:∃x,l[a]?=some x:=⟨_,List.getElem?_eq_getElem hli⟩
   obtain⟨y,hy⟩:∃y,l[a1]?=some y:=⟨_,List.getElem?_eq_getElem hli1⟩
   have hg:=nextL_get (l:=l) (i:=i) (x:=x) (y:=y) (by rw[ha];exact hx) (by rw[ha,ha1];exact hy)
   have HSu:Hid ((nextL l).take (i+1)=(nextL l).take i++[nodeS x y]):=zY (by rw[List.take_add_one,hg];rfl)
   have hzx:=HZ.out x (List.mem_of_getElem? hx)
   have hzy:=HZ.out y (List.mem_of_getElem? hy)
   have HNd:=zY (fun(W:World) (hW:Below w1.heap.size w1 W)=>knode_any W x y (by omega) (by omega) (HTw.out.below hW))
   obtain⟨_,_,e9,_,_,h4⟩:=HSv.out
   cases e9
   obtain⟨b,o,cs,rfl,rfl,hc⟩:=h4 a x hx
   obtain⟨_,_,cs',e8,rfl,hc'⟩:=h4 a1 y hy
   cases e8
   have e0:w1.cell? ⟨b,o+a*1,none⟩=some (.string x):=hc 0 _ rfl
   have e1:w1.cell? ⟨b,o+a1*1,none⟩=some (.string y):=hc' 0 _ rfl
   rw[Nat.mul_one]at e0 e1
   have HKc:Hid (∀W,Below w1.heap.size w1 W->W.cell? ⟨b,o+a,none⟩=some (.string x)/\W.cell? ⟨b,o+a1,none⟩=some (.string y)):=zY (fun W hW=>⟨cell_below hW e0,cell_below hW e1⟩)
   have Hl1:Hid (((nextL l).take i).length+1<=100000000):=zY (by rw[List.length_take];omega)
   obtain⟨X,hX⟩:=zNm (nodeS x y)
   rw[hX]at HNd HSu
   obtain⟨Ay,cy,rfl⟩:=HO.out.slice
   have htk:((nextL l).take i).length=i:=by rw[List.length_take,nextL_len,Hlh.out];omega
   rw[htk]at HO⊢
   clear htk
   clear hc hc' h4 hx hy hg e0 e1 hX
   go_upto_region 6 with fail
   have HO:=zY HO.out.drew
   have HBc:=zY HBr.out.drew
   refine wp_region_held_drew (S:=(fun W=>W.cell? ⟨b,o+a,none⟩=some (.string x)/\W.cell? ⟨b,o+a1,none⟩=some (.string y))) (by kernel_rfl) ?_ (fun hHeld=>?_)
   ·exact HKc.out _ HBc.out
   refine tk 0 ?_
   refine tk 1 ?_
   refine tk 2 ?_
   refine tk 3 ?_
   refine tk 4 ?_
   refine tk 5 ?_
   refine tk 6 ?_
   refine tk 7 ?_
   refine tk 8 ?_
   refine tk 9 ?_
   refine zE1 10 fun K hK=>?_
   go_simp
   refine(HNd.out _ HBc.out).mono ?_
   rintro e5 w5 ⟨rfl,hb5⟩
   (try go_wp2_with fail)
   have HO:=zY (HO.out.below hb5)
   have HBc:=zYt HBc hb5
   clear hb5
   refine hko hK (by exact HKc.out _ HBc.out) (fun _=>?_)
   clear hK K
   refine zE1 11 fun K hK=>?_
   go_simp
   have HX:=zY (src1B (ρ:=strS) (w0:=w1) (t:=9) HBc.out [.string X] X rfl)
   have HO:=zY (HO.out.alloc (.cells #[.string X] 9))
   have HBc:=zY (HBc.out.alloc HBc.out.size (.cells #[.string X] 9))
   refine hko hK (by exact HKc.out _ HBc.out) (fun _=>?_)
   clear hK K
   refine zE1 12 fun K hK=>?_
   refine wp_append_seq (ρ:=strS) (w0:=w1) Tryz.elemStr (.tmp 19) (.tmp 30) rfl rfl HO.out rfl HX.out Hl1.out HBc.out ?_
   intro v7 w7 hob hgb hbb
   have HO:=zY hob
   have HBc:=zY hbb
   clear hob hgb hbb
   refine hko hK (by exact HKc.out _ HBc.out) (fun _=>?_)
   clear hK K
   refine tk 13 ?_
   refine wpAnyH_done (by kernel_rfl) ?_ _
   go_wp2_with fail
   go_roundw
   case rel=>exact⟨i+1,by omega,by rw[show 2*(i+1)=a+2 by omega];go_num,by rw[HSu.out];exact HO.out,HBc.out⟩
   case measure=>simp[intOf];omega}
   {
   obtain rfl:i=h:=by omega
   have hli:¬(a:Int)<(l.length:Int):=by have:=Hlh.out;omega
   have hnl:(nextL l).take i=nextL l:=List.take_of_length_le (by rw[nextL_len];omega)
   rw[hnl]at HO
   have HBbr:=zY (HBbz.out.kept HBr.out)
   have b0:=HBbr.out.c 0
   have HBor:=zY (HBz.out.kept HBr.out)
   have HOr:=zY (HOz.out.kept HBr.out)
   have HBn:=zY (HBw.out.trans (HBr.out.mono HBw.out.size))
   have HRec:=zY (HIh.out (by omega) wr _ _ (nextL l) (O++[l]) (by rw[nextL_len,Hlh.out,Hhh.out];omega) (fun x hx=>by rw[nextL_size x hx];decide) (HO.out.low flatS HBw.out.size) HBor.out HOr.out HBbr.out HBn.out (by rw[List.length_append];simp;omega))
   clear hnl
   go_wp2_with fail
   refine HRec.out.mono ?_
   rintro e3 w3 ⟨rfl,vo3,hbo3,ho3,hb3⟩
   have HBo3:=zY hbo3
   have HO3:=zY ho3
   have HB3:=zY hb3
   clear hbo3 ho3 hb3
   go_wp2
   first|refine bodyPost_end (results_none rfl _ _ _) rfl ?_|refine bodyPost_ret (results_none rfl _ _ _) rfl ?_
   exact⟨rfl,_,HBo3.out,by rw[lvlsL,<-List.singleton_append,<-List.append_assoc];exact HO3.out,HB3.out⟩}
def leafL (seed:ByteArray) (n:Nat):List ByteArray:=(List.range n).map (wpubB seed)
theorem leafL_succ (seed:ByteArray) (n:Nat):leafL seed (n+1)=leafL seed n++[wpubB seed n]:=by
 rw[leafL,List.range_succ,List.map_append]
 rfl
theorem leafL_len (seed:ByteArray) (n:Nat):(leafL seed n).length=n:=by simp[leafL]
theorem wpubB_size (seed:ByteArray) (n:Nat):(wpubB seed n).size=16:=hshB_size _
theorem klevels_any (w:World) (seed:ByteArray) (h:Nat) (hh:h<=2) (hs:seed.size<=1000) (hT:Tab w):Calls Tryz.prog 74 #[.string seed,.int .i64 (h:Int)] w fun e w'=>(∃v,e=.returned v/\OwnRows 51 9 w w' v (lvlsL h (leafL seed (2^h))))/\Below w.heap.size w w':=by
 have HT:=zY hT
 have h0:(0:Int)<=(h:Int):=by omega
 obtain⟨N,hN⟩:=zNm (2^h)
 have hN4:N<=4:=by
  rcases (by omega:h=0∨h=1∨h=2)with rfl|rfl|rfl<;>(rw[<-hN];decide)
 have HNe:Hid (wrap64 ((2:Int)^h)=(N:Int)):=zY (by
  rcases (by omega:h=0∨h=1∨h=2)with rfl|rfl|rfl<;>(rw[<-hN];decide +kernel))
 have HN:=zY hN
 have HP:=zY (fun(W:World) (i:Nat) (hi:i<4) (hT:Tab W)=>wpublic_any W seed i (by omega) (by omega) hT)
 rw[hN]
 clear hT hN
 go_enter Tryz.func74,Tryz.ntmps74
 go_upto_region 3 with fail
 rw[HNe.out]
 go_loopw [5,11] (fun y t wr=>∃i:Nat,i<=N/\t=.int .i64 (i:Int)/\OwnSeq strS 9 w wr y (leafL seed i)/\Below w.heap.size w wr) (fun _ t _=>N-(intOf t).toNat)
 case atStart=>exact⟨0,by omega,rfl,OwnSeq.nil _,Below.refl _ _⟩
 case round=>
  obtain⟨i,hi,rfl,ho,hB⟩:=hrel
  have HO:=zY ho
  have HB:=zY hB
  obtain⟨Ay,cy,rfl⟩:=ho.slice
  rw[leafL_len]at HO⊢
  clear ho hB
  by_cases hlt:i<N
  {
  have hiI:(i:Int)<N:=by omega
  have HPi:=zY (HP.out wr i (by omega) (HT.out.below HB.out))
  have HSu:=zY (leafL_succ seed i)
  have Hl1:Hid ((leafL seed i).length+1<=100000000):=zY (by rw[leafL_len];omega)
  obtain⟨X,hX⟩:=zNm (wpubB seed i)
  rw[hX]at HPi HSu
  clear hX
  go_wp2_with fail
  refine HPi.out.mono ?_
  rintro e1 w1 ⟨rfl,hb1⟩
  have HO1:=zY (HO.out.below hb1)
  have HB1:=zYt HB hb1
  clear hb1
  go_wp2_with (at_builtin;refine append_seq (w0:=w) (us:=[X]) Tryz.elemStr rfl _ _ rfl rfl (HO1.out.alloc _) rfl (src1 (ρ:=strS) [.string X] X rfl rfl) Hl1.out (HB1.out.alloc HB1.out.size _) ?_;intro va wa hob _ hbb;have KU:=zY hob;have KB:=zY hbb;clear hob hbb)
  go_roundw
  case rel=>exact⟨i+1,by omega,by go_num,by rw[HSu.out];exact KU.out,KB.out⟩
  case measure=>simp[intOf];omega}
  {
  obtain rfl:i=N:=by omega
  have hiI:¬((i:Nat):Int)<(i:Int):=by omega
  have hG:Blk (wr.alloc (.cells #[.slice none 0 0] 96)) wr.heap.size 96 [.slice none 0 0]:=Blk.new _ _ _
  have HGo:=zY (hG.alloc (.cells #[.nilFunc] 214))
  have hGb:Blk ((wr.alloc (.cells #[.slice none 0 0] 96)).alloc (.cells #[.nilFunc] 214)) (wr.alloc (.cells #[.slice none 0 0] 96)).heap.size 214 [.nilFunc]:=Blk.new _ _ _
  rw[World.size_alloc]at hGb
  have HGb:=zY hGb
  have HOx:=zY ((HO.out.alloc (.cells #[.slice none 0 0] 96)).alloc (.cells #[.nilFunc] 214))
  have HBx:=zY ((HB.out.alloc HB.out.size (.cells #[.slice none 0 0] 96)).alloc (HB.out.alloc HB.out.size (.cells #[.slice none 0 0] 96)).size (.cells #[.nilFunc] 214))
  have HLe:Hid (w.heap.size<=wr.heap.size):=zY HB.out.size
  clear hG hGb
  go_upto_region 9 with fail
  generalize (wr.alloc (.cells #[.slice none 0 0] 96)).alloc (.cells #[.nilFunc] 214)=w4 at *
  obtain⟨go,hgo⟩:=zNm (wr.heap.size)
  rw[hgo]at HGo HGb HLe⊢
  clear hgo
  have q0:=HGb.out.c 0
  have z0:=HGb.out.frozen 0
  obtain⟨F,hF⟩:∃F:Value,.func (.func 138) #[] #[.pointer (some ⟨go,0,none⟩),.pointer (some ⟨go+1,0,none⟩)]=F:=⟨_,rfl⟩
  have HGb2:=zY (HGb.out.set 0 (.func (.func 138) #[] #[.pointer (some ⟨go,0,none⟩),.pointer (some ⟨go+1,0,none⟩)]))
  have HGo2:=zY (HGo.out.far (p:=⟨go+1,0,none⟩) (show go≠go+1 by omega) (.func (.func 138) #[] #[.pointer (some ⟨go,0,none⟩),.pointer (some ⟨go+1,0,none⟩)]))
  have HO2:=zY (HOx.out.grown (grown_set w4 (go+1) 0 (.func (.func 138) #[] #[.pointer (some ⟨go,0,none⟩),.pointer (some ⟨go+1,0,none⟩)])) (.inr (HOx.out.neT HGb.out (by decide))))
  have HB2:=zY (HBx.out.setCell (p:=⟨go+1,0,none⟩) (show w.heap.size<=go+1 by have:=HLe.out;omega) (.func (.func 138) #[] #[.pointer (some ⟨go,0,none⟩),.pointer (some ⟨go+1,0,none⟩)]))
  have hst:(store ⟨go+1,0,none⟩ F).run Tryz.prog w4=.ok () (w4.setCell ⟨go+1,0,none⟩ F):=by
   rw[run_store _ _ _ _ _ (by rw[<-hF];rfl),q0,z0]
   rfl
  rw[<-hF]at hst
  clear hF F
  go_upto_region 10 with fail
  generalize w4.setCell ⟨go+1,0,none⟩ (.func (.func 138) #[] #[.pointer (some ⟨go,0,none⟩),.pointer (some ⟨go+1,0,none⟩)])=w5 at *
  have HRec:=zY (kbuild_any w HT.out go (go+1) HLe.out (by omega) h (by omega) w5 _ _ (leafL seed i) [] (by rw[leafL_len,HN.out]) (fun x hx=>by
   obtain⟨j,_,rfl⟩:=List.mem_map.1 hx
   rw[wpubB_size]
   decide) HO2.out HGo2.out (OwnRows.nil _) HGb2.out HB2.out (by simp;omega))
  have c0:=HGb2.out.c 0
  clear q0 z0 hst
  go_wp2_with fail
  refine HRec.out.mono ?_
  rintro e6 w6 ⟨rfl,vo,hbo,hor,hb6⟩
  have c1:=hbo.c 0
  have HOr:=zY hor
  have HB6:=zY hb6
  clear hbo hor hb6 c0
  go_wp2
  go_ret
  exact⟨⟨_,rfl,HOr.out⟩,HB6.out⟩}
theorem OwnSeq.others {α:Type} {ρ:Shape α} {t:TypeId} {w0 W W':World} {v:Value} {xs:List α} {b:Nat} (h:OwnSeq ρ t w0 W v xs) (ho:Lib.OthersKept 5 (some b) W W') (hb:b<w0.heap.size) (ht:t≠5):OwnSeq ρ t w0 W' v xs:=by
 obtain⟨css,hr,hB⟩:=h
 refine⟨css,⟨hr.1,?_⟩,hB⟩
 rcases hr.2 with h0|⟨g,cap,cur,rfl,h1,h2,rest⟩
 ·exact .inl h0
 ·exact .inr ⟨g,cap,cur,rfl,h1,ho g _ h2 (fun e=>by have:=Option.some.inj e;omega) (fun c fz e=>ht (by cases e;rfl)),rest⟩
theorem wdgM_get {m:ByteArray} {i:Nat} (h:i<35):∃d,(wdgM m)[i]?=some d/\d<16/\(wdgM m).getD i 0=d:=by
 have hl:i<(wdgM m).length:=by rw[wdgM_len];exact h
 have e:=List.getElem?_eq_getElem hl
 exact⟨_,e,wdgM_lt m _ (List.mem_of_getElem? e),by rw[List.getD_eq_getElem?_getD,e];rfl⟩
def sgnL (seed:ByteArray) (key:Nat) (m:ByteArray) (n:Nat):List Nat:=(List.range n).flatMap fun i=>bs (walkB (secB seed key i) ((wdgM m).getD i 0))
theorem sgnL_succ (seed:ByteArray) (key:Nat) (m:ByteArray) (n:Nat):sgnL seed key m (n+1)=sgnL seed key m n++bs (walkB (secB seed key n) ((wdgM m).getD n 0)):=by
 rw[sgnL,List.range_succ,List.flatMap_append]
 simp[sgnL]
theorem walkS_size (seed:ByteArray) (key i n:Nat):(walkB (secB seed key i) n).size=16:=by
 cases n with
 |zero=>exact hshB_size _
 |succ n=>exact hshB_size _
theorem sgnL_len (seed:ByteArray) (key:Nat) (m:ByteArray):∀n,(sgnL seed key m n).length=16*n
 |0=>rfl
 |n+1=>by rw[sgnL_succ,List.length_append,sgnL_len seed key m n,bs_len,walkS_size];omega
theorem sgnL_lt (seed:ByteArray) (key:Nat) (m:ByteArray) (n:Nat):∀b∈sgnL seed key m n,b<256:=by
 intro b hb
 obtain⟨i,_,h⟩:=List.mem_flatMap.1 hb
 exact bs_lt _ b h
def sgnB (seed:ByteArray) (key:Nat) (m:ByteArray):ByteArray:=strB (sgnL seed key m 35)
theorem sgnB_size (seed:ByteArray) (key:Nat) (m:ByteArray):(sgnB seed key m).size=560:=by rw[sgnB,strB_size,sgnL_len]
theorem sgnL_cut (seed:ByteArray) (key:Nat) (m:ByteArray) (i:Nat):∀n,i<n->((sgnL seed key m n).take (16*i+16)).drop (16*i)=bs (walkB (secB seed key i) ((wdgM m).getD i 0))
 |0,h=>absurd h (Nat.not_lt_zero _)
 |n+1,h=>by
  rw[sgnL_succ]
  have hl:=sgnL_len seed key m n
  have hz:(bs (walkB (secB seed key n) ((wdgM m).getD n 0))).length=16:=by rw[bs_len,walkS_size]
  by_cases e:i=n
  {
  subst e
  rw[List.take_of_length_le (by rw[List.length_append,hl,hz];exact Nat.le_refl _),<-hl,List.drop_left]}
  {
  rw[List.take_append_of_le_length (by rw[hl];omega)]
  exact sgnL_cut seed key m i n (by omega)}
theorem sgnB_cut (seed:ByteArray) (key:Nat) (m:ByteArray) {i:Nat} (h:i<35):(sgnB seed key m).extract (i*16) ((i+1)*16)=walkB (secB seed key i) ((wdgM m).getD i 0):=by
 rw[<-strB_bs ((sgnB seed key m).extract (i*16) ((i+1)*16)),bs_extract,sgnB,bs_strB (sgnL_lt _ _ _ _),show (i+1)*16=16*i+16 by omega,Nat.mul_comm i 16,sgnL_cut seed key m i 35 h,strB_bs]
theorem wsign_any (w:World) (seed:ByteArray) (key:Nat) (m:ByteArray) (hs:seed.size<=1000000) (hk:key<=1000000) (hm:m.size<=1000000) (hT:Tab w):
  Calls Tryz.prog 73 #[.string seed,.int .i64 (key:Int),.string m] w fun e w'=>e=.returned (.string (sgnB seed key m))/\Below w.heap.size w w':=by
 have HT:=zY hT
 have i0:¬(key:Int)<0:=by omega
 have HS:=zY (fun(W:World) (i:Nat) (hi:i<=35) (hT:Tab W)=>wsecret_any W seed key i hs hk (by omega) hT)
 have HW:=zY (fun(W:World) (i d:Nat) (hd:d<16) (hT:Tab W)=>wwalk_any W (secB seed key i) d (by omega) (by rw[secB,hshB_size];decide) hT)
 have HBl0:Hid (Bld (w.alloc (.cells #[.pointer none,.slice none 0 0] 135)) w.heap.size w.heap.size []):=zY (Bld.new w)
 have HB0:=zY (zBl w (.cells #[.pointer none,.slice none 0 0] 135))
 have Hlt:Hid (w.heap.size<(w.alloc (.cells #[.pointer none,.slice none 0 0] 135)).heap.size):=zY (by simp)
 have HDg:=zY (wdigits_any _ m hm (hT.below HB0.out))
 clear hT hs
 go_enter Tryz.func73,Tryz.ntmps73
 go_upto_region 4 with fail
 generalize w.alloc (.cells #[.pointer none,.slice none 0 0] 135)=w1 at *
 go_wp2_with fail
 refine HDg.out.mono ?_
 rintro e2 w2 ⟨⟨vd,rfl,hvd⟩,hb2⟩
 have HVd:=zY hvd
 have HBl2:=zY (HBl0.out.below hb2)
 have HB2:=zYt HB0 hb2
 have HLe:Hid (w1.heap.size<=w2.heap.size):=zY hb2.size
 obtain⟨Ad,cd,rfl⟩:=hvd.slice
 rw[wdgM_len]
 clear hvd hb2 HDg HBl0 HB0
 go_wp2
 go_loopw [15] (fun t wr=>∃i:Nat,i<=35/\t=.int .i64 (i:Int)/\Bld wr w.heap.size w.heap.size (sgnL seed key m i)/\OwnSeq natI 3 w1 wr (.slice Ad (wdgM m).length cd) (wdgM m)/\w1.heap.size<=wr.heap.size/\Below w.heap.size w wr) (fun t _=>35-(intOf t).toNat)
 case atStart=>exact⟨0,by omega,rfl,HBl2.out,HVd.out,HLe.out,HB2.out⟩
 case round=>
  obtain⟨i,hi,rfl,hbl,hvd,hle,hB⟩:=hrel
  have HBl:=zY hbl
  have HVr:=zY hvd
  have HB:=zY hB
  have HLr:=zY hle
  clear hbl hvd hB hle
  by_cases h:i<35
  {
  have hiI:(i:Int)<35:=by omega
  obtain⟨d,hd,hd16,hdg⟩:=wdgM_get (m:=m) h
  have HSu:=zY (sgnL_succ seed key m i)
  rw[hdg]at HSu
  obtain⟨_,_,e9,_,_,h4⟩:=HVr.out.atF flatNI HLr.out
  rw[wdgM_len]at e9
  cases e9
  obtain⟨b,o,cs,rfl,rfl,hc⟩:=h4 i d hd
  have e0:wr.cell? ⟨b,o+i*1,none⟩=some (.int .i64 (d:Int)):=hc 0 _ rfl
  rw[Nat.mul_one]at e0
  have HSi:=zY (HS.out wr i hi (HT.out.below HB.out))
  have HWi:=zY (fun(W:World) (hT:Tab W)=>HW.out W i d hd16 hT)
  obtain⟨S,hS⟩:=zNm (secB seed key i)
  rw[hS]at HSi HWi HSu
  obtain⟨X,hX⟩:=zNm (walkB S d)
  have hXz:X.size<=100:=by rw[<-hX,<-hS,walkS_size];decide
  rw[hX]at HWi HSu
  have hsl:(sgnL seed key m i).length<=1000:=by rw[sgnL_len];omega
  clear hc h4 hd hdg hS hX
  go_wp2_with fail
  refine HSi.out.mono ?_
  rintro e3 w3 ⟨rfl,hb3⟩
  have HBl3:=zY (HBl.out.below hb3)
  have HV3:=zY (HVr.out.below hb3)
  have HB3:=zYt HB hb3
  have HL3:Hid (w1.heap.size<=w3.heap.size):=zY (Nat.le_trans HLr.out hb3.size)
  clear hb3
  go_wp2_with fail
  refine(HWi.out w3 (HT.out.below HB3.out)).mono ?_
  rintro e5 w5 ⟨rfl,hb5⟩
  have HBl5:=zY (HBl3.out.below hb5)
  have HV5:=zY (HV3.out.below hb5)
  have HB5:=zYt HB3 hb5
  have HL5:Hid (w1.heap.size<=w5.heap.size):=zY (Nat.le_trans HL3.out hb5.size)
  have HWs:=zY (wsK w5 w.heap.size w.heap.size _ X HBl5.out (by omega) (by omega) HB5.out.size)
  clear hb5
  go_wp2_with fail
  refine HWs.out.mono ?_
  rintro e6 w6 ⟨rfl,hbl6,hb6,ho6⟩
  have HBl6:=zY hbl6
  have HV6:=zY (HV5.out.others ho6 Hlt.out (by decide))
  have HB6:=zY (HB5.out.trans hb6)
  have HL6:Hid (w1.heap.size<=w6.heap.size):=zY (by
   have h1:=HL5.out
   rcases Nat.lt_or_ge w6.heap.size w5.heap.size with h2|h2
   ·exact absurd hb6 (fun hb=>by have:=hb.size;exact absurd h2 (by omega))
   ·omega)
  clear hbl6 hb6 ho6
  go_wp2
  go_roundw
  case rel=>exact⟨i+1,by omega,by go_num,by rw[HSu.out];exact HBl6.out,HV6.out,HL6.out,HB6.out⟩
  case measure=>simp[intOf];omega}
  {
  obtain rfl:i=35:=by omega
  have hiI:¬(35:Int)<35:=by omega
  have HSt:=zY (str_any wr w.heap.size w.heap.size _ (sgnL_lt _ _ _ _) HBl.out HB.out.size)
  go_wp2_with fail
  refine HSt.out.mono ?_
  rintro e2 w3 ⟨rfl,_,hb3⟩
  have HB3:=zY (HB.out.trans hb3)
  clear hb3
  go_wp2
  go_ret
  exact⟨rfl,HB3.out⟩
}
theorem wrecover_any (w:World) (m sig:ByteArray) (hm:m.size<=1000000) (hz:sig.size=560) (R:ByteArray) (hR:hshB (pubB::(List.range 35).map fun i=>walkB (sig.extract (i*16) ((i+1)*16)) (15-(wdgM m).getD i 0))=R) (hT:Tab w):
  Calls Tryz.prog 77 #[.string m,.string sig] w fun e w'=>e=.returned (.tuple #[.string R,.int .i64 0])/\Below w.heap.size w w':=by
 have HT:=zY hT
 have HR:=zY hR
 have HDg:=zY (wdigits_any w m hm hT)
 have HW:=zY (fun(W:World) (x:ByteArray) (hx:x.size<=560) (d:Nat) (hd:d<16) (hT:Tab W)=>wwalk_any W x d (by omega) (by omega) hT)
 have hzI:((sig.size:Int) != 560)=false:=by rw[hz];rfl
 clear hT hR
 go_enter Tryz.func77,Tryz.ntmps77
 go_wp2_with fail
 refine HDg.out.mono ?_
 rintro e2 w2 ⟨⟨vd,rfl,hvd⟩,hb2⟩
 have HVd:=zY (hvd.at hb2)
 have HB2:=zY hb2
 obtain⟨Ad,cd,rfl⟩:=hvd.slice
 rw[wdgM_len]at HVd⊢
 clear hvd hb2 HDg
 obtain⟨f,hf⟩:∃f:Nat->ByteArray,f=fun i=>walkB (sig.extract (i*16) ((i+1)*16)) (15-(wdgM m).getD i 0):=⟨_,rfl⟩
 rw[<-hf]at HR
 have Hf:=zY hf
 clear hf
 go_wp2
 go_loopw [6,15] (fun y t wr=>∃i:Nat,i<=35/\t=.int .i64 (i:Int)/\OwnSeq strS 9 w2 wr y ((List.range i).map f)/\Below w2.heap.size w2 wr) (fun _ t _=>35-(intOf t).toNat)
 case atStart=>exact⟨0,by omega,rfl,OwnSeq.nil _,Below.refl _ _⟩
 case round=>
  obtain⟨i,hi,rfl,ho,hB⟩:=hrel
  have HO:=zY ho
  have HB:=zY hB
  obtain⟨Ao,co,rfl⟩:=ho.slice
  clear ho hB
  have hrl:((List.range i).map f).length=i:=by simp
  rw[hrl]at HO⊢
  by_cases h:i<35
  {
  have hiI:(i:Int)<35:=by omega
  obtain⟨d,hd,hd16,hdg⟩:=wdgM_get (m:=m) h
  obtain⟨_,_,e9,_,_,h4⟩:=HVd.out.below HB.out
  rw[wdgM_len]at e9
  cases e9
  obtain⟨b,o,cs,rfl,rfl,hc⟩:=h4 i d hd
  have e0:wr.cell? ⟨b,o+i*1,none⟩=some (.int .i64 (d:Int)):=hc 0 _ rfl
  rw[Nat.mul_one]at e0
  obtain⟨a,ha⟩:=zNm (i*16)
  obtain⟨c2,hc2⟩:=zNm ((i+1)*16)
  obtain⟨q,hq⟩:=zNm (15-d)
  have ha1:IntKind.i64.wrap ((i:Int)*16)=(a:Int):=by rw[zIw (by omega)];omega
  have hi1:IntKind.i64.wrap ((i:Int)+1)=(i:Int)+1:=zIw (by omega)
  have hc1:IntKind.i64.wrap (((i:Int)+1)*16)=(c2:Int):=by rw[zIw (by omega)];omega
  have hq1:IntKind.i64.wrap ((15:Int)-(d:Int))=(q:Int):=by rw[zIw (by omega)];omega
  have ha2:(i:Int)*16=(a:Int):=by omega
  have hc3:((i:Int)+1)*16=(c2:Int):=by omega
  have hq2:(15:Int)-(d:Int)=(q:Int):=by omega
  have hac:a<=c2:=by omega
  have hcz:c2<=sig.size:=by omega
  have hacI:(a:Int)<=(c2:Int):=by omega
  have hczI:(c2:Int)<=(sig.size:Int):=by omega
  have hq16:q<16:=by omega
  have HFi:Hid (f i=walkB (sig.extract a c2) q):=zY (by rw[Hf.out];dsimp only;rw[hdg,ha,hc2,hq])
  have HSu:Hid ((List.range (i+1)).map f=(List.range i).map f++[walkB (sig.extract a c2) q]):=zY (by rw[List.range_succ,List.map_append,<-HFi.out];rfl)
  have hXz:(sig.extract a c2).size<=560:=by rw[ByteArray.size_extract];omega
  have HWi:=zY (HW.out wr (sig.extract a c2) hXz q hq16 (HT.out.below (HB2.out.trans (HB.out.mono HB2.out.size))))
  obtain⟨X,hX⟩:=zNm (walkB (sig.extract a c2) q)
  rw[hX]at HWi HSu
  have Hl1:Hid (((List.range i).map f).length+1<=100000000):=zY (by rw[hrl];omega)
  clear hrl hc h4 hd hdg ha hc2 hq hX
  go_wp2_with fail
  refine HWi.out.mono ?_
  rintro e3 w3 ⟨rfl,hb3⟩
  have HO3:=zY (HO.out.below hb3)
  have HB3:=zYt HB hb3
  clear hb3
  go_wp2_with (at_builtin;refine append_seq (w0:=w2) (us:=[X]) Tryz.elemStr rfl _ _ rfl rfl (HO3.out.alloc _) rfl (src1 (ρ:=strS) [.string X] X rfl rfl) Hl1.out (HB3.out.alloc HB3.out.size _) ?_;intro va wa hob _ hbb;have KU:=zY hob;have KB:=zY hbb;clear hob hbb)
  go_roundw
  case rel=>exact⟨i+1,by omega,by go_num,by rw[HSu.out];exact KU.out,KB.out⟩
  case measure=>simp[intOf];omega}
  {
  obtain rfl:i=35:=by omega
  have hiI:¬(35:Int)<35:=by omega
  have HP:=zY (wpub_any wr _ _ (HO.out.at HB.out) (by simp) (fun s hs'=>by
   obtain⟨j,_,rfl⟩:=List.mem_map.1 hs'
   rw[Hf.out]
   exact walkB_size (by rw[ByteArray.size_extract];omega) (by decide) _) (HT.out.below (HB2.out.trans (HB.out.mono HB2.out.size))))
  rw[HR.out]at HP
  go_wp2_with fail
  refine HP.out.mono ?_
  rintro e3 w3 ⟨rfl,hb3⟩
  have HB3:=zY (HB2.out.trans ((HB.out.trans (hb3.mono HB.out.size)).mono HB2.out.size))
  clear hb3
  go_wp2
  go_ret2
  exact⟨rfl,HB3.out⟩}
theorem recover_own (seed:ByteArray) (key:Nat) (m:ByteArray):hshB (pubB::(List.range 35).map fun i=>walkB ((sgnB seed key m).extract (i*16) ((i+1)*16)) (15-(wdgM m).getD i 0))=wpubB seed key:=by
 have e:((List.range 35).map fun i=>walkB ((sgnB seed key m).extract (i*16) ((i+1)*16)) (15-(wdgM m).getD i 0))=endsB seed key 35:=by
  rw[endsB]
  refine List.map_congr_left fun i hi=>?_
  have h:=List.mem_range.1 hi
  obtain⟨d,_,hd,e⟩:=wdgM_get (m:=m) h
  have h2:d+(15-d)=15:=by omega
  rw[sgnB_cut seed key m h,walkB_add,e,h2]
 exact congrArg (fun l=>hshB (pubB::l)) e
theorem lvlsL_zero:∀(k:Nat) (l:List ByteArray),(lvlsL k l).getD 0 []=l
 |0,_=>rfl
 |_+1,_=>rfl
theorem lvlsL_next:∀(k:Nat) (l:List ByteArray) (j:Nat),j<k->(lvlsL k l).getD (j+1) []=nextL ((lvlsL k l).getD j [])
 |0,_,_,h=>absurd h (Nat.not_lt_zero _)
 |k+1,l,0,_=>by
  show (lvlsL k (nextL l)).getD 0 []=nextL l
  exact lvlsL_zero k _
 |k+1,l,j+1,h=>by
  show (lvlsL k (nextL l)).getD (j+1) []=nextL ((lvlsL k (nextL l)).getD j [])
  exact lvlsL_next k _ j (by omega)
theorem lvlsL_row:∀(k:Nat) (l:List ByteArray) (j:Nat),j<=k->l.length=2^k->((lvlsL k l).getD j []).length=2^(k-j)
 |k,l,0,_,hl=>by rw[lvlsL_zero];exact hl
 |0,_,j+1,h,_=>absurd h (by omega)
 |k+1,l,j+1,h,hl=>by
  show ((lvlsL k (nextL l)).getD j []).length=2^(k+1-(j+1))
  rw[lvlsL_row k _ j (by omega) (by rw[nextL_len,hl,Nat.pow_succ];omega)]
  congr 1
  omega
theorem nextL_getD {l:List ByteArray} {i:Nat} (h:i<l.length/2):(nextL l).getD i ⟨#[]⟩=nodeS (l.getD (2*i) ⟨#[]⟩) (l.getD (2*i+1) ⟨#[]⟩):=by
 rw[List.getD_eq_getElem?_getD,nextL,List.getElem?_map,List.getElem?_range h]
 rfl
def lvls (seed:ByteArray) (h:Nat):List (List ByteArray):=lvlsL h (leafL seed (2^h))
def atN (seed:ByteArray) (h key j:Nat):ByteArray:=((lvls seed h).getD j []).getD (key/2^j) ⟨#[]⟩
def sibN (seed:ByteArray) (h key j:Nat):ByteArray:=((lvls seed h).getD j []).getD ((key/2^j)^^^1) ⟨#[]⟩
def rootB (seed:ByteArray) (h:Nat):ByteArray:=((lvls seed h).getD h []).getD 0 ⟨#[]⟩
theorem lvls_row (seed:ByteArray) {h j:Nat} (hj:j<=h):((lvls seed h).getD j []).length=2^(h-j):=lvlsL_row h _ j hj (leafL_len _ _)
theorem xor_one {a:Nat} (h:a<4):a^^^1=(if a%2=0 then a+1 else a-1):=by
 rcases (by omega:a=0∨a=1∨a=2∨a=3)with rfl|rfl|rfl|rfl<;>rfl
theorem key_lt {h key j:Nat} (hk:key<2^h) (hj:j<=h):key/2^j<2^(h-j):=by
 apply Nat.div_lt_of_lt_mul
 rw[<-Nat.pow_add,Nat.add_sub_cancel' hj]
 exact hk
theorem pow_le4 {h:Nat} (hh:h<=2):2^h<=4:=Nat.pow_le_pow_right (by decide) hh
theorem at_step (seed:ByteArray) {h key j:Nat} (hh:h<=2) (hk:key<2^h) (hj:j<h):atN seed h key (j+1)=if key/2^j%2=0 then nodeS (atN seed h key j) (sibN seed h key j) else nodeS (sibN seed h key j) (atN seed h key j):=by
 have h1:=key_lt hk (Nat.le_of_lt hj)
 have h2:=lvls_row seed (Nat.le_of_lt hj)
 have h3:(2:Nat)^(h-j)=2*2^(h-j-1):=by
  rw[<-Nat.pow_succ']
  congr 1
  omega
 have h4:(2:Nat)^(h-j)<=4:=pow_le4 (by omega)
 have h5:key/2^(j+1)=key/2^j/2:=by rw[Nat.pow_succ,Nat.div_div_eq_div_mul]
 obtain⟨a,ha⟩:=zNm (key/2^j)
 rw[atN,show (lvls seed h).getD (j+1) []=nextL ((lvls seed h).getD j []) from lvlsL_next h _ j hj,h5,atN,sibN,ha]
 rw[ha]at h1
 obtain⟨R,hR⟩:=zNm ((lvls seed h).getD j [])
 rw[hR]at h2⊢
 rw[nextL_getD (by omega),xor_one (by omega)]
 by_cases c:a%2=0
 ·rw[if_pos c,if_pos c,show 2*(a/2)=a by omega]
 ·rw[if_neg c,if_neg c,show 2*(a/2)=a-1 by omega,show a-1+1=a by omega]
theorem at_zero (seed:ByteArray) {h key:Nat} (hk:key<2^h):atN seed h key 0=wpubB seed key:=by
 rw[atN,show (lvls seed h).getD 0 []=leafL seed (2^h) from lvlsL_zero h _,Nat.pow_zero,Nat.div_one,leafL,List.getD_eq_getElem?_getD,List.getElem?_map,List.getElem?_range hk]
 rfl
theorem at_root (seed:ByteArray) {h key:Nat} (hk:key<2^h):atN seed h key h=rootB seed h:=by
 rw[atN,rootB,Nat.div_eq_of_lt hk]
theorem lvls_size (seed:ByteArray) (h:Nat):∀(j:Nat),j<=h->∀x∈(lvls seed h).getD j [],x.size=16
 |0,_,x,hx=>by
  rw[show (lvls seed h).getD 0 []=leafL seed (2^h) from lvlsL_zero h _]at hx
  obtain⟨i,_,rfl⟩:=List.mem_map.1 hx
  exact wpubB_size _ _
 |j+1,hj,x,hx=>by
  rw[show (lvls seed h).getD (j+1) []=nextL ((lvls seed h).getD j []) from lvlsL_next h _ j (by omega)]at hx
  exact nextL_size x hx
theorem sib_get (seed:ByteArray) {h key j:Nat} (hh:h<=2) (hk:key<2^h) (hj:j<h):((lvls seed h).getD j [])[(key/2^j)^^^1]?=some (sibN seed h key j)/\(sibN seed h key j).size=16:=by
 have h1:=key_lt hk (Nat.le_of_lt hj)
 have h2:=lvls_row seed (Nat.le_of_lt hj)
 have h3:(2:Nat)^(h-j)=2*2^(h-j-1):=by
  rw[<-Nat.pow_succ']
  congr 1
  omega
 have h4:(2:Nat)^(h-j)<=4:=pow_le4 (by omega)
 have h5:(key/2^j)^^^1<((lvls seed h).getD j []).length:=by
  obtain⟨a,ha⟩:=zNm (key/2^j)
  rw[ha]at h1⊢
  rw[xor_one (by omega),h2]
  split<;>omega
 have h6:=List.getElem?_eq_getElem h5
 have h7:sibN seed h key j=((lvls seed h).getD j [])[(key/2^j)^^^1]:=by rw[sibN,List.getD_eq_getElem?_getD,h6];rfl
 rw[h7]
 exact⟨h6,lvls_size seed h j (by omega) _ (List.getElem_mem h5)⟩
def sibL (seed:ByteArray) (h key n:Nat):List ByteArray:=(List.range n).map (sibN seed h key)
theorem sibL_succ (seed:ByteArray) (h key n:Nat):sibL seed h key (n+1)=sibL seed h key n++[sibN seed h key n]:=by
 rw[sibL,List.range_succ,List.map_append]
 rfl
def partsS (seed:ByteArray) (h key:Nat) (m:ByteArray):List ByteArray:=sgnB seed key m::sibL seed h key h
def sealN (seed:ByteArray) (h key:Nat) (m:ByteArray) (n:Nat):List Nat:=numL key++numL h++nstL (bs (sgnB seed key m))++nstsL (sibL seed h key n)
theorem sealN_eq (seed:ByteArray) (h key:Nat) (m:ByteArray):sealN seed h key m h=numL key++(numL h++nstsL (partsS seed h key m)):=by
 rw[sealN,partsS]
 simp[nstsL]
theorem kroot_ok (w:World) (seed:ByteArray) (h:Nat) (hh:h<=2) (hs:seed.size<=1000) (hT:Tab w):Calls Tryz.prog 32 #[.string seed,.int .i64 (h:Int)] w fun e w'=>e=.returned (.tuple #[.string (rootB seed h),.int .i64 0])/\Below w.heap.size w w':=by
 have HL:=zY (klevels_any w seed h hh hs hT)
 have i1:¬(h:Int)<0:=by omega
 have i2:¬(6:Int)<h:=by omega
 have hl:(lvls seed h).length=h+1:=lvlsL_len h _
 have hr:=lvls_row seed (Nat.le_refl h)
 rw[Nat.sub_self]at hr
 obtain⟨X,hX⟩:=zNm (rootB seed h)
 have HRo:=zY (show ((lvls seed h).getD h []).getD 0 ⟨#[]⟩=X from hX)
 rw[hX]
 clear hT hs hX
 go_enter Tryz.func32,Tryz.ntmps32
 go_wp2_with fail
 refine HL.out.mono ?_
 rintro e1 w1 ⟨⟨v,rfl,hv⟩,hb1⟩
 have HB1:=zY hb1
 have hq:SeqAt rowS w1 v (lvls seed h):=hv.at hb1.size
 obtain⟨A,c,rfl,_,_,h4⟩:=hq
 have hg:(lvls seed h)[h]?=some ((lvls seed h).getD h []):=by rw[List.getD_eq_getElem?_getD,List.getElem?_eq_getElem (by omega)];rfl
 obtain⟨b,o,cs,rfl,⟨vr,rfl,hvr⟩,hc⟩:=h4 h _ hg
 have e0:w1.cell? ⟨b,o+h*1,none⟩=some vr:=hc 0 _ rfl
 obtain⟨R,hR⟩:=zNm ((lvls seed h).getD h [])
 rw[hR]at hvr hr HRo
 have hr1:R.length=1:=hr
 have hx:R[0]?=some (R.getD 0 ⟨#[]⟩):=by rw[List.getD_eq_getElem?_getD,List.getElem?_eq_getElem (by omega)];rfl
 obtain⟨A2,c2,rfl,_,_,h5⟩:=hvr
 obtain⟨b2,o2,cs2,rfl,rfl,hc2⟩:=h5 0 _ hx
 have e1:w1.cell? ⟨b2,o2+0*1+0,none⟩=some (.string (R.getD 0 ⟨#[]⟩)):=hc2 0 _ rfl
 simp only[Nat.zero_mul,Nat.add_zero]at e1
 rw[Nat.mul_one]at e0
 rw[hl]
 rw[hr1]at e0
 rw[HRo.out]at e1
 have hhI:(h:Int)<((h+1:Nat):Int):=by omega
 clear h4 hc h5 hc2 hv hb1 hg hR hr hr1 hx hl HRo HL
 go_wp2
 go_ret2
 exact⟨rfl,HB1.out⟩
theorem pow_wrap {h:Nat} (hh:h<=2):wrap64 ((2:Int)^h)=((2^h:Nat):Int):=by
 rcases (by omega:h=0∨h=1∨h=2)with rfl|rfl|rfl<;>decide +kernel
theorem xorI_one {a:Nat} (h:a<4):bits .xor .i64 (a:Int) 1=((a^^^1:Nat):Int):=by
 rcases (by omega:a=0∨a=1∨a=2∨a=3)with rfl|rfl|rfl|rfl<;>decide +kernel
theorem sealN_succ (seed:ByteArray) (h key:Nat) (m:ByteArray) (n:Nat):sealN seed h key m (n+1)=sealN seed h key m n++nstL (bs (sibN seed h key n)):=by
 rw[sealN,sealN,sibL_succ,nstsL,nstsL,List.flatMap_append]
 simp
theorem ksign_ok (w:World) (seed:ByteArray) (h key:Nat) (hh:h<=2) (hk:key<2^h) (m:ByteArray) (hs:seed.size<=1000) (hm:m.size<=1000) (hT:Tab w):
  Calls Tryz.prog 30 #[.string seed,.int .i64 (h:Int),.int .i64 (key:Int),.string m] w fun e w'=>e=.returned (.tuple #[.string (strB (sealN seed h key m h)),.int .i64 0])/\Below w.heap.size w w':=by
 have HT:=zY hT
 have h4:=pow_le4 hh
 have i1:¬(h:Int)<0:=by omega
 have i2:¬(6:Int)<h:=by omega
 have i3:¬(key:Int)<0:=by omega
 obtain⟨N,hN⟩:=zNm (2^h)
 have hpw:wrap64 ((2:Int)^h)=(N:Int):=by rw[<-hN];exact pow_wrap hh
 have i4:¬(N:Int)<=(key:Int):=by omega
 have i0:(0:Int)<=(h:Int):=by omega
 have H1:=zY (nnumber_any w key (by omega) hT)
 have H2:=zY (fun(W:World) (hT:Tab W)=>nnumber_any W h (by omega) hT)
 have H3:=zY (fun(W:World) (hT:Tab W)=>wsign_any W seed key m (by omega) (by omega) (by omega) hT)
 have H4:=zY (fun(W:World) (hT:Tab W)=>nnstring_any W (sgnB seed key m) (by rw[sgnB_size];decide) hT)
 have H5:=zY (fun(W:World) (hT:Tab W)=>klevels_any W seed h hh hs hT)
 have hz1:=numL_len key (by omega)
 have hz2:=numL_len h (by omega)
 have hz3:=nstL_len (sgnB seed key m) (by rw[sgnB_size];decide)
 rw[sgnB_size]at hz3
 have HS0:Hid (strB (numL key)++strB (numL h)++strB (nstL (bs (sgnB seed key m)))=strB (sealN seed h key m 0)):=zY (by
  rw[strB_cat,strB_cat,sealN]
  simp[sibL,nstsL])
 have HSt:=zY (fun(j:Nat) (hj:j<h)=>sib_get seed hh hk hj)
 have HSu:=zY (fun n=>sealN_succ seed h key m n)
 have HKl:=zY (fun(j:Nat) (hj:j<=h)=>Nat.lt_of_lt_of_le (key_lt hk hj) (Nat.le_trans (Nat.pow_le_pow_right (by decide) (Nat.sub_le h j)) h4))
 have HRw:=zY (fun(j:Nat) (hj:j<=h)=>lvls_row seed hj)
 have HSz:Hid (∀n,n<=h->(sealN seed h key m n).length<=1000+n*100):=zY (fun n hn=>by
  induction n with
  |zero=>
   have:=congrArg ByteArray.size HS0.out
   rw[ByteArray.size_append,ByteArray.size_append,strB_size (sealN _ _ _ _ _)]at this
   omega
  |succ n ih=>
   have h1:=ih (by omega)
   have h2:=nstL_len (sibN seed h key n) (by rw[(HSt.out n (by omega)).2];decide)
   rw[strB_size,(HSt.out n (by omega)).2]at h2
   rw[HSu.out,List.length_append]
   omega)
 obtain⟨K,hK⟩:=zNm (strB (numL key))
 obtain⟨H,hH⟩:=zNm (strB (numL h))
 obtain⟨G,hG⟩:=zNm (strB (nstL (bs (sgnB seed key m))))
 obtain⟨S,hS⟩:=zNm (sgnB seed key m)
 rw[hK]at H1 HS0 hz1
 rw[hH]at H2 HS0 hz2
 rw[hG]at H4 HS0 hz3
 rw[hS]at H3 H4
 have hc1:¬9223372036854775807<K.size+H.size:=by omega
 have hc2:¬9223372036854775807<K.size+H.size+G.size:=by omega
 have hKe:key/2^0=key:=by rw[Nat.pow_zero,Nat.div_one]
 clear hT hs hK hH hG hS hk hN h4
 go_enter Tryz.func30,Tryz.ntmps30
 go_wp2_with fail
 refine H1.out.mono ?_
 rintro e1 w1 ⟨rfl,hb1⟩
 have HB1:=zY hb1
 clear hb1
 go_wp2_with fail
 refine(H2.out w1 (HT.out.below HB1.out)).mono ?_
 rintro e2 w2 ⟨rfl,hb2⟩
 have HB2:=zYt HB1 hb2
 clear hb2
 go_wp2_with fail
 refine(H3.out w2 (HT.out.below HB2.out)).mono ?_
 rintro e3 w3 ⟨rfl,hb3⟩
 have HB3:=zYt HB2 hb3
 clear hb3
 go_wp2_with fail
 refine(H4.out w3 (HT.out.below HB3.out)).mono ?_
 rintro e4 w4 ⟨rfl,hb4⟩
 have HB4:=zYt HB3 hb4
 clear hb4
 go_wp2_with fail
 refine(H5.out w4 (HT.out.below HB4.out)).mono ?_
 rintro e5 w5 ⟨⟨v,rfl,hv⟩,hb5⟩
 have HB5:=zYt HB4 hb5
 have hq:SeqAt rowS w5 v (lvls seed h):=hv.at hb5.size
 have hl:(lvls seed h).length=h+1:=lvlsL_len h _
 obtain⟨A,c,rfl,hc,hc3⟩:=hq.slice
 have HQ:=zY hq
 rw[hl]at HQ hc⊢
 have hhc:(h:Int)<=(c:Int):=by omega
 have hhc2:h<=c:=by omega
 clear hv hb5 hq H1 H2 H3 H4 H5
 go_wp2
 rw[HS0.out]
 go_loopw [10,11,48] (fun o a t wr=>∃j:Nat,j<=h/\t=.int .i64 (j:Int)/\a=.int .i64 ((key/2^j:Nat):Int)/\o=.string (strB (sealN seed h key m j))/\Below w5.heap.size w5 wr) (fun _ _ t _=>h-(intOf t).toNat)
 case atStart=>exact⟨0,by omega,rfl,by rw[hKe],rfl,Below.refl _ _⟩
 case round=>
  obtain⟨j,hj,rfl,rfl,rfl,hB⟩:=hrel
  have HB:=zY hB
  clear hB
  have hsz:=HSz.out j hj
  have HSj:=zY (HSu.out j)
  have ha4:=HKl.out j hj
  have HA2:Hid (key/2^(j+1)=key/2^j/2):=zY (by rw[Nat.pow_succ,Nat.div_div_eq_div_mul])
  by_cases hlt:j<h
  {
  have hjI:(j:Int)<h:=by omega
  obtain⟨hx,hxz⟩:=HSt.out j hlt
  have hrl:=HRw.out j hj
  obtain⟨a,ha⟩:=zNm (key/2^j)
  rw[ha]at hx ha4 HA2⊢
  have hxr:=xorI_one ha4
  obtain⟨q,hq⟩:=zNm (a^^^1)
  rw[hq]at hxr hx
  have hqw:IntKind.i64.wrap (q:Int)=(q:Int):=by
   have:=xor_one ha4
   rw[hq]at this
   refine IntWalk.i64_in _ ?_
   split at this<;>omega
  obtain⟨a2,ha2⟩:=zNm (a/2)
  have hd1:Int.tdiv (a:Int) 2=(a2:Int):=by rw[<-ha2];rfl
  have hd2:IntKind.i64.wrap (a2:Int)=(a2:Int):=zIw (by omega)
  rw[ha2]at HA2
  have hlj:j<(lvls seed h).length:=by rw[show (lvls seed h).length=h+1 from lvlsL_len h _];omega
  have hg:(lvls seed h)[j]?=some ((lvls seed h).getD j []):=by rw[List.getD_eq_getElem?_getD,List.getElem?_eq_getElem hlj];rfl
  obtain⟨_,_,e9,_,_,h4⟩:=HQ.out.below HB.out
  rw[show (lvls seed h).length=h+1 from lvlsL_len h _]at e9
  cases e9
  obtain⟨b,o,cs,rfl,⟨vr,rfl,hvr⟩,hcc⟩:=h4 j _ hg
  have e0:wr.cell? ⟨b,o+j*1,none⟩=some vr:=hcc 0 _ rfl
  obtain⟨R,hR⟩:=zNm ((lvls seed h).getD j [])
  rw[hR]at hvr hx
  obtain⟨X,hX⟩:=zNm (sibN seed h key j)
  rw[hX]at hx hxz HSj
  obtain⟨A2,c2,rfl,_,_,h5⟩:=hvr
  have hqR:=(List.getElem?_eq_some_iff.1 hx).1
  have hqI:(q:Int)<(R.length:Int):=by omega
  obtain⟨b2,o2,cs2,rfl,rfl,hc2⟩:=h5 q _ hx
  have e1:wr.cell? ⟨b2,o2+q*1,none⟩=some (.string X):=hc2 0 _ rfl
  rw[Nat.mul_one]at e0 e1
  have HN:=zY (nnstring_any wr X (by omega) (HT.out.below (HB5.out.trans (HB.out.mono HB5.out.size))))
  have hz5:=nstL_len X (by omega)
  obtain⟨P,hP⟩:=zNm (strB (sealN seed h key m j))
  have hPz:P.size=(sealN seed h key m j).length:=by rw[<-hP,strB_size]
  obtain⟨Y,hY⟩:=zNm (strB (nstL (bs X)))
  have HCt:Hid (P++Y=strB (sealN seed h key m (j+1))):=zY (by rw[HSj.out,<-strB_cat,hP,hY])
  rw[hY]at HN hz5
  rw[hP]
  have hcc2:¬9223372036854775807<P.size+Y.size:=by omega
  clear hx hrl ha hq ha2 hlj hg h4 hcc hR hX h5 hc2 hP hY hqR hsz hPz
  go_wp2_with fail
  refine HN.out.mono ?_
  rintro e6 w6 ⟨rfl,hb6⟩
  have HB6:=zYt HB hb6
  clear hb6
  go_wp2_with fail
  go_roundw
  case rel=>exact⟨j+1,by omega,by go_num,by rw[HA2.out],by rw[HCt.out],HB6.out⟩
  case measure=>simp[intOf];omega}
  {
  obtain rfl:j=h:=by omega
  have hjI:¬((j:Nat):Int)<(j:Int):=by omega
  go_wp2
  go_ret2
  exact⟨rfl,HB5.out.trans (HB.out.mono HB5.out.size)⟩}
theorem kparse_ok (w:World) (s:ByteArray) (key h:Nat) (parts:List ByteArray) (hs:bs s=numL key++(numL h++nstsL parts)) (hp:parts.length=h+1) (hh:h<=2) (hk:key<2^h) (hx:∀x∈parts,x.size<=100000) (hz:s.size<=100000000):
  Calls Tryz.prog 76 #[.string s] w fun e w'=>(∃v,e=.returned (.tuple #[.int .i64 (key:Int),v,.bool true])/\OwnSeq strS 9 w w' v parts)/\Below w.heap.size w w':=by
 have h4:=pow_le4 hh
 have H1:=zY (nrdnum_ok w s 0 key _ hs (by omega) (by omega))
 obtain⟨a,ha⟩:=zNm ((numL key).length)
 have hd1:(bs s).drop a=numL h++nstsL parts:=by rw[hs,<-ha,List.drop_left]
 have H2:=zY (fun W=>nrdnum_ok W s a h _ hd1 (by omega) (by omega))
 obtain⟨b,hb⟩:=zNm (a+(numL h).length)
 have hd2:(bs s).drop b=nstsL parts:=by rw[<-hb,<-List.drop_drop,hd1,List.drop_left]
 have hsz:b<=s.size:=by
  have:=congrArg List.length hs
  rw[bs_len,List.length_append,List.length_append]at this
  omega
 have hbX:bs (s.extract b s.size)=nstsL parts:=by rw[<-hd2];exact drop_extract hsz
 have H3:=zY (fun W=>nrdstrs_ok W (s.extract b s.size) parts hbX (by omega) hx (by rw[ByteArray.size_extract];omega))
 rw[Nat.zero_add,ha]at H1
 rw[hb]at H2
 obtain⟨N,hN⟩:=zNm (2^h)
 have hpw:wrap64 ((2:Int)^h)=(N:Int):=by rw[<-hN];exact pow_wrap hh
 have i1:¬(h:Int)<0:=by omega
 have i2:¬(6:Int)<h:=by omega
 have i3:¬(key:Int)<0:=by omega
 have i4:¬(N:Int)<=(key:Int):=Int.not_le.2 (Int.ofNat_lt.2 (by rw[<-hN];exact hk))
 have i0:(0:Int)<=(h:Int):=by omega
 have hbI:(b:Int)<=(s.size:Int):=by omega
 have hw1:IntKind.i64.wrap ((h:Int)+1)=((h+1:Nat):Int):=by rw[zIw (by omega)];omega
 have HPl:=zY hp
 clear hs hd1 hd2 hbX ha hb hN h4 hk hp
 go_enter Tryz.func76,Tryz.ntmps76
 go_wp2_with fail
 refine H1.out.mono ?_
 rintro e1 w1 ⟨rfl,hb1⟩
 have HB1:=zY hb1
 clear hb1
 go_wp2_with fail
 refine(H2.out w1).mono ?_
 rintro e2 w2 ⟨rfl,hb2⟩
 have HB2:=zYt HB1 hb2
 clear hb2
 go_wp2_with fail
 refine(H3.out w2).mono ?_
 rintro e3 w3 ⟨⟨v,rfl,hv⟩,hb3⟩
 have HB3:=zYt HB2 hb3
 have HV:=zY (hv.low flatS HB2.out.size)
 obtain⟨A,c,rfl⟩:=hv.slice
 rw[HPl.out]at HV⊢
 clear hv hb3
 have he:(((h+1:Nat):Int)==((h+1:Nat):Int))=true:=by simp
 go_wp2
 go_ret3
 exact⟨⟨_,by first|rfl|simp,HV.out⟩,HB3.out⟩
theorem shr_and {key j:Nat} (hk:key<4) (hj:j<2):bits .and .i64 ((key/2^j:Nat):Int) 1=((key/2^j%2:Nat):Int):=by
 rcases (by omega:key=0∨key=1∨key=2∨key=3)with rfl|rfl|rfl|rfl<;>rcases (by omega:j=0∨j=1)with rfl|rfl<;>decide +kernel
theorem shr_bit {key j:Nat} (hk:key<4) (hj:j<2):(bits .and .i64 ((key:Int)/2^j) 1==0)=decide (key/2^j%2=0):=by
 have h:=shr_and hk hj
 rw[Int.natCast_ediv,Int.natCast_pow]at h
 rw[show ((2:Int)^j)=((2:Nat):Int)^j from rfl,h]
 by_cases c:key/2^j%2=0
 ·rw[c];rfl
 {
 rw[decide_eq_false c,beq_eq_false_iff_ne]
 omega}
theorem lvls_at_size (seed:ByteArray) {h key j:Nat} (hk:key<2^h) (hj:j<=h):(atN seed h key j).size=16:=by
 have h1:=key_lt hk hj
 rw[<-lvls_row seed hj]at h1
 rw[atN,List.getD_eq_getElem?_getD,List.getElem?_eq_getElem h1]
 exact lvls_size seed h j hj _ (List.getElem_mem h1)
theorem kverify_ok (w:World) (seed:ByteArray) (n key:Nat) (hh:n<=2) (hk:key<2^n) (m:ByteArray) (hm:m.size<=1000) (hT:Tab w):
  Calls Tryz.prog 33 #[.string (rootB seed n),.string m,.string (strB (sealN seed n key m n))] w fun e w'=>e=.returned (.tuple #[.int .i64 (key:Int),.int .i64 0])/\Below w.heap.size w w':=by
 have HT:=zY hT
 have h4:=pow_le4 hh
 have hps:∀x∈partsS seed n key m,x.size<=100000:=fun x hx=>by
  rcases List.mem_cons.1 hx with rfl|hx
  ·rw[sgnB_size];decide
  {
  obtain⟨j,hj,rfl⟩:=List.mem_map.1 hx
  rw[(sib_get seed hh hk (List.mem_range.1 hj)).2]
  decide}
 have hlt:∀b∈sealN seed n key m n,b<256:=by
  rw[sealN_eq]
  intro b hb
  rcases List.mem_append.1 hb with hb|hb
  ·exact numL_lt _ b hb
  {
  rcases List.mem_append.1 hb with hb|hb
  ·exact numL_lt _ b hb
  ·exact nstsL_lt _ b hb}
 have hbs:=bs_strB hlt
 have hpl:(partsS seed n key m).length=n+1:=by simp[partsS,sibL]
 obtain⟨Sl,hSl⟩:=zNm (strB (sealN seed n key m n))
 have hz:Sl.size<=100000000:=by
  rw[<-hSl,strB_size,sealN_eq,List.length_append,List.length_append]
  have h1:=numL_len key (by omega)
  have h2:=numL_len n (by omega)
  rw[strB_size]at h1 h2
  have h3:=nstsL_len (l:=partsS seed n key m) (m:=100000) (by omega) hps
  rw[hpl]at h3
  have h5:(n+1)*(100000+22)<=3*(100000+22):=Nat.mul_le_mul_right _ (by omega)
  omega
 rw[hSl]at hbs
 have H1:=zY (kparse_ok w Sl key n (partsS seed n key m) (by rw[hbs,sealN_eq]) hpl hh hk hps hz)
 have H2:=zY (fun(W:World) (hT:Tab W)=>wrecover_any W m (sgnB seed key m) (by omega) (sgnB_size _ _ _) _ (recover_own seed key m) hT)
 have hA0:=at_zero seed (h:=n) hk
 have HAr:=zY (at_root seed hk)
 have HAs:=zY (fun(j:Nat) (hj:j<n)=>at_step seed hh hk hj)
 have HSz:=zY (fun(j:Nat) (hj:j<n)=>(sib_get seed hh hk hj).2)
 have HAz:=zY (fun(j:Nat) (hj:j<=n)=>lvls_at_size seed hk hj)
 have hk4:key<4:=by omega
 rw[<-hA0]at H2
 obtain⟨G,hG⟩:=zNm (sgnB seed key m)
 rw[partsS,hG]at H1
 rw[hG]at H2
 rw[hSl]
 have hsl:(sibL seed n key n).length=n:=by simp[sibL]
 have HSl:=zY hsl
 obtain⟨Rt,hRt⟩:=zNm (rootB seed n)
 rw[hRt]at HAr⊢
 clear hT hps hlt hbs hpl hz hSl hA0 hG hk h4 hRt
 go_enter Tryz.func33,Tryz.ntmps33
 go_wp2_with fail
 refine H1.out.mono ?_
 rintro e1 w1 ⟨⟨v,rfl,hv⟩,hb1⟩
 have HB1:=zY hb1
 have hq:=hv.at hb1
 obtain⟨A,c,rfl,hc1,hc2,h4⟩:=hq
 obtain⟨b,o,cs,rfl,rfl,hc⟩:=h4 0 G rfl
 have e0:w1.cell? ⟨b,o+0*1+0,none⟩=some (.string G):=hc 0 _ rfl
 simp only[Nat.zero_mul,Nat.add_zero]at e0
 have HQ:=zY (hv.at hb1)
 rw[List.length_cons,hsl]at HQ hc1⊢
 have h0l:0<n+1:=by omega
 have h0I:(0:Int)<((n+1:Nat):Int):=by omega
 clear hc h4 hv hb1 hsl H1
 go_wp2_with fail
 refine(H2.out w1 (HT.out.below HB1.out)).mono ?_
 rintro e2 w2 ⟨rfl,hb2⟩
 have HB2:=zYt HB1 hb2
 have HQ2:=zY ((HQ.out.below hb2).drop (m:=1) (by simp))
 clear hb2 e0 HQ H2
 have HQ3:Hid (SeqAt strS w2 (.slice (some ⟨b,o+1,none⟩) n (c-1)) (sibL seed n key n)):=zY HQ2.out
 clear HQ2
 go_wp2
 case inl=>
  obtain rfl:n=0:=by omega
  go_loopw [11,36] (fun a t wr=>t=.int .i64 (0:Int)/\a=.string (atN seed 0 key 0)/\Below w2.heap.size w2 wr) (fun _ _ _=>0)
  case atStart=>exact⟨rfl,rfl,Below.refl _ _⟩
  case round=>
   obtain⟨rfl,rfl,hB⟩:=hrel
   have HB:=zY hB
   clear hB
   rw[HAr.out]
   have hr1:(Rt != Rt)=false:=bneV_false rfl
   go_wp2
   go_ret2
   exact⟨rfl,HB2.out.trans (HB.out.mono HB2.out.size)⟩
 case inr=>
  go_loopw [11,36] (fun a t wr=>∃j:Nat,j<=n/\t=.int .i64 (j:Int)/\a=.string (atN seed n key j)/\Below w2.heap.size w2 wr) (fun _ t _=>n-(intOf t).toNat)
  case atStart=>exact⟨0,by omega,rfl,rfl,Below.refl _ _⟩
  case round=>
   obtain⟨j,hj,rfl,rfl,hB⟩:=hrel
   have HB:=zY hB
   clear hB
   have hz1:=HAz.out j hj
   by_cases hlt:j<n
   {
   have hjI:(j:Int)<n:=by omega
   have hz2:=HSz.out j hlt
   have hst:=HAs.out j hlt
   obtain⟨_,_,e9,_,_,h4⟩:=HQ3.out.below HB.out
   rw[HSl.out]at e9
   cases e9
   have hg:(sibL seed n key n)[j]?=some (sibN seed n key j):=by rw[sibL,List.getElem?_map,List.getElem?_range hlt];rfl
   obtain⟨_,_,cs,e8,rfl,hc⟩:=h4 j _ hg
   cases e8
   have e0:wr.cell? ⟨b,o+1+j*1,none⟩=some (.string (sibN seed n key j)):=hc 0 _ rfl
   rw[Nat.mul_one]at e0
   obtain⟨X,hX⟩:=zNm (sibN seed n key j)
   rw[hX]at e0 hz2 hst
   obtain⟨Y,hY⟩:=zNm (atN seed n key j)
   rw[hY]at hz1 hst⊢
   have hne:((X.size:Int) != 16)=false:=by rw[hz2];rfl
   have hbt:=shr_bit hk4 (j:=j) (by omega)
   have HT2:=zY (HT.out.below (HB2.out.trans (HB.out.mono HB2.out.size)))
   clear h4 hg hc hX hY
   by_cases hc0:key/2^j%2=0
   {
   rw[if_pos hc0]at hst
   rw[decide_eq_true hc0]at hbt
   have Hst:=zY hst
   have HN:=zY (knode_any wr Y X (by omega) (by omega) HT2.out)
   clear hst hc0
   go_wp2_with fail
   refine HN.out.mono ?_
   rintro e3 w3 ⟨rfl,hb3⟩
   have HB3:=zYt HB hb3
   clear hb3
   go_wp2_with fail
   go_roundw
   case rel=>exact⟨j+1,by omega,by go_num,by rw[Hst.out],HB3.out⟩
   case measure=>simp[intOf];omega}
   {
   rw[if_neg hc0]at hst
   rw[decide_eq_false hc0]at hbt
   have Hst:=zY hst
   have HN:=zY (knode_any wr X Y (by omega) (by omega) HT2.out)
   clear hst hc0
   go_wp2_with fail
   refine HN.out.mono ?_
   rintro e3 w3 ⟨rfl,hb3⟩
   have HB3:=zYt HB hb3
   clear hb3
   go_wp2_with fail
   go_roundw
   case rel=>exact⟨j+1,by omega,by go_num,by rw[Hst.out],HB3.out⟩
   case measure=>simp[intOf];omega}}
   {
   obtain rfl:j=n:=by omega
   have hjI:¬((j:Nat):Int)<(j:Int):=by omega
   rw[HAr.out]
   have hr1:(Rt != Rt)=false:=bneV_false rfl
   go_wp2
   go_ret2
   exact⟨rfl,HB2.out.trans (HB.out.mono HB2.out.size)⟩}
def digS (x:Ses):ByteArray:=strB (digL (signL x))
theorem digS_size (x:Ses):(digS x).size=32:=by rw[digS,strB_size,digL_len]
theorem dirdigest_ok (w:World) (x:Ses) (ve:Value) (hve:SeqAt entS w ve x.ents) (h:SesV x) (hz:(signL x).length<=1000000000) (hT:Tab w):Calls Tryz.prog 29 #[.agg #[.int .i64 x.num,.int .i64 x.date,.string x.prev,ve,.string x.str,.string x.sig]] w fun r w'=>r=.returned (.tuple #[.string (digS x),.int .i64 0])/\Below w.heap.size w w':=by
 obtain⟨A,c,rfl,_,_⟩:=hve.slice
 have HB0:=zY (zBl w (.cells #[.int .i64 x.num,.int .i64 x.date,.string x.prev,.slice A x.ents.length c,.string x.str,.string x.sig] 45))
 have HS:=zY (dirsigned_ok _ x _ (hve.below HB0.out) h (hT.below HB0.out))
 have HK:Hid (Blk (w.alloc (.cells #[.int .i64 x.num,.int .i64 x.date,.string x.prev,.slice A x.ents.length c,.string x.str,.string x.sig] 45)) w.heap.size 45 [.int .i64 x.num,.int .i64 x.date,.string x.prev,.slice A x.ents.length c,.string x.str,.string x.sig]):=zY (Blk.new w _ _)
 have hbs:bs (strB (signL x))=signL x:=bs_strB (signL_lt x)
 obtain⟨X,hX⟩:=zNm (strB (signL x))
 have hXz:X.size<=1000000000:=by rw[<-hX,strB_size];exact hz
 rw[hX]at HS hbs
 have HD:=zY (fun(W:World) (v:Value) (hv:SeqAt strS W v [X])=>bsum_any W v X hv hXz)
 rw[hbs]at HD
 obtain⟨D,hD⟩:=zNm (strB (digL (signL x)))
 rw[hD]at HD
 rw[digS,hD]
 obtain⟨num,date,prev,ents,str,sig⟩:=x
 dsimp only at HB0 HS HK⊢
 have a0:=HK.out.c 0
 have a1:=HK.out.c 1
 have a2:=HK.out.c 2
 have a3:=HK.out.c 3
 have a4:=HK.out.c 4
 have a5:=HK.out.c 5
 change (w.alloc (.cells #[.int .i64 num,.int .i64 date,.string prev,.slice A ents.length c,.string str,.string sig] 45)).cell? _=_ at a0 a1 a2 a3 a4 a5
 clear hve h hT hX hXz hbs hD hz
 go_enter Tryz.func29,Tryz.ntmps29
 go_wp2_with fail
 refine HS.out.mono ?_
 rintro e1 w1 ⟨rfl,hb1⟩
 have HB1:=zYt HB0 hb1
 have HV:=zY (SeqAt.strs w1 [X] 1 (Nat.le_refl _) (by decide))
 have HB2:=zY (HB1.out.alloc HB1.out.size (.cells #[.string X] 9))
 clear hb1 a0 a1 a2 a3 a4 a5
 go_wp2_with fail
 refine(HD.out _ _ HV.out).mono ?_
 rintro e2 w2 ⟨rfl,hb2⟩
 have HB3:=zYt HB2 hb2
 clear hb2
 go_wp2
 go_ret2
 exact⟨rfl,HB3.out⟩
def keyE (h key:Int):Int:=if h<0 then 2 else if key<0∨(2:Int)^h.toNat<=key then 1 else 0
theorem ksign_no (w:World) (seed m:ByteArray) (h key:Int) (hh:h<=2) (he:keyE h key≠0):
  Calls Tryz.prog 30 #[.string seed,.int .i64 h,.int .i64 key,.string m] w fun e w'=>e=.returned (.tuple #[.string ⟨#[]⟩,.int .i64 (keyE h key)])/\w'=w:=by
 by_cases h0:h<0
 {
 have e1:keyE h key=2:=by rw[keyE,if_pos h0]
 rw[e1]
 clear he e1
 go_enter Tryz.func30,Tryz.ntmps30
 go_wp2
 go_ret2
 exact⟨rfl,rfl⟩}
 {
 have i2:¬(6:Int)<h:=by omega
 have i3:(0:Int)<=h:=by omega
 have e0:key<0∨(2:Int)^h.toNat<=key:=by
  refine Decidable.byContradiction fun hn=>he ?_
  rw[keyE,if_neg h0,if_neg hn]
 have e1:keyE h key=1:=by rw[keyE,if_neg h0,if_pos e0]
 rw[e1]
 obtain⟨n,rfl⟩:∃n:Nat,h=(n:Int):=⟨h.toNat,by omega⟩
 rw[Int.toNat_natCast]at e0
 have hpw:=pow_wrap (h:=n) (by omega)
 obtain⟨N,hN⟩:=zNm (2^n)
 rw[hN]at hpw
 have hN2:(2:Int)^n=(N:Int):=by rw[<-hN,Int.natCast_pow];rfl
 rw[hN2]at e0
 clear he e1 hN
 by_cases k0:key<0
 {
 clear e0 hN2
 go_enter Tryz.func30,Tryz.ntmps30
 go_wp2
 go_ret2
 exact⟨rfl,rfl⟩}
 {
 have k1:(N:Int)<=key:=by omega
 clear e0 hN2
 go_enter Tryz.func30,Tryz.ntmps30
 go_wp2
 go_ret2
 exact⟨rfl,rfl⟩
}}
def sesZ:Value:=.agg #[.int .i64 0,.int .i64 0,.string ⟨#[]⟩,.slice none 0 0,.string ⟨#[]⟩,.string ⟨#[]⟩]
theorem volsign_any (w:World) (x:Ses) (ve:Value) (hve:SeqAt entS w ve x.ents) (h:SesV x) (hT:Tab w) (seed:ByteArray) (hgt key er:Int) (S:ByteArray) (her:er=0∨er=1∨er=2)
  (hk:∀W,Below w.heap.size w W->Calls Tryz.prog 30 #[.string seed,.int .i64 hgt,.int .i64 key,.string (digS x)] W fun e w'=>e=.returned (.tuple #[.string S,.int .i64 er])/\Below W.heap.size W w'):
  Calls Tryz.prog 28 #[.agg #[.int .i64 x.num,.int .i64 x.date,.string x.prev,ve,.string x.str,.string x.sig],.string seed,.int .i64 hgt,.int .i64 key] w fun r w'=>r=.returned (.tuple #[if er=0 then .agg #[.int .i64 x.num,.int .i64 x.date,.string x.prev,ve,.string x.str,.string S] else sesZ,.int .i64 er])/\Below w.heap.size w w':=by
 have HKs:=zY hk
 have HD0:=zY (fun(W:World) (hW:Below w.heap.size w W)=>dirdigest_ok W x ve (hve.below hW) h (by have:=signL_len h;omega) (hT.below hW))
 obtain⟨A,c,rfl,_,_⟩:=hve.slice
 obtain⟨D,hD⟩:=zNm (digS x)
 rw[hD]at HKs HD0
 obtain⟨num,date,prev,ents,str,sig⟩:=x
 dsimp only at HD0⊢
 have hK1:Blk (w.alloc (.cells #[.int .i64 num,.int .i64 date,.string prev,.slice A ents.length c,.string str,.string sig] 45)) w.heap.size 45 [.int .i64 num,.int .i64 date,.string prev,.slice A ents.length c,.string str,.string sig]:=Blk.new w _ _
 have hB1:=zBl w (.cells #[.int .i64 num,.int .i64 date,.string prev,.slice A ents.length c,.string str,.string sig] 45)
 have HK:=zY (hK1.alloc (.cells #[.int .i64 0,.int .i64 0,.string ⟨#[]⟩,.slice none 0 0,.string ⟨#[]⟩,.string ⟨#[]⟩] 45))
 have hK2:Blk ((w.alloc (.cells #[.int .i64 num,.int .i64 date,.string prev,.slice A ents.length c,.string str,.string sig] 45)).alloc (.cells #[.int .i64 0,.int .i64 0,.string ⟨#[]⟩,.slice none 0 0,.string ⟨#[]⟩,.string ⟨#[]⟩] 45)) (w.alloc (.cells #[.int .i64 num,.int .i64 date,.string prev,.slice A ents.length c,.string str,.string sig] 45)).heap.size 45 [.int .i64 0,.int .i64 0,.string ⟨#[]⟩,.slice none 0 0,.string ⟨#[]⟩,.string ⟨#[]⟩]:=Blk.new _ _ _
 rw[World.size_alloc]at hK2
 have HR:=zY hK2
 have HB:=zY (hB1.alloc hB1.size (.cells #[.int .i64 0,.int .i64 0,.string ⟨#[]⟩,.slice none 0 0,.string ⟨#[]⟩,.string ⟨#[]⟩] 45))
 clear hve h hT hk hD hK1 hB1 hK2
 go_enter Tryz.func28,Tryz.ntmps28
 go_upto_region 1 with fail
 generalize (w.alloc (.cells #[.int .i64 num,.int .i64 date,.string prev,.slice A ents.length c,.string str,.string sig] 45)).alloc (.cells #[.int .i64 0,.int .i64 0,.string ⟨#[]⟩,.slice none 0 0,.string ⟨#[]⟩,.string ⟨#[]⟩] 45)=w1 at *
 have a0:=HK.out.c 0
 have a1:=HK.out.c 1
 have a2:=HK.out.c 2
 have a3:=HK.out.c 3
 have a4:=HK.out.c 4
 have a5:=HK.out.c 5
 go_wp2_with fail
 refine(HD0.out w1 HB.out).mono ?_
 rintro e2 w2 ⟨rfl,hb2⟩
 have HK:=zY (HK.out.kept hb2)
 have HR:=zY (HR.out.kept hb2)
 have HB2:=zYt HB hb2
 clear hb2 HB a0 a1 a2 a3 a4 a5
 go_wp2_with fail
 refine(HKs.out w2 HB2.out).mono ?_
 rintro e3 w3 ⟨rfl,hb3⟩
 have HK:=zY (HK.out.kept hb3)
 have HR:=zY (HR.out.kept hb3)
 have HB3:=zYt HB2 hb3
 clear hb3 HB2
 have z0:=HR.out.c 0
 have z1:=HR.out.c 1
 have z2:=HR.out.c 2
 have z3:=HR.out.c 3
 have z4:=HR.out.c 4
 have z5:=HR.out.c 5
 have y0:=HR.out.frozen 0
 have y1:=HR.out.frozen 1
 have y2:=HR.out.frozen 2
 have y3:=HR.out.frozen 3
 have y4:=HR.out.frozen 4
 have y5:=HR.out.frozen 5
 rcases her with rfl|rfl|rfl
 {
 skip
 have HKx:=zY (HK.out.set 5 (.string S))
 have HRx:=zY (HR.out.far (p:=⟨w.heap.size,5,none⟩) (show w.heap.size+1≠w.heap.size by omega) (.string S))
 have HBx:=zY (HB3.out.setCell (p:=⟨w.heap.size,5,none⟩) (Nat.le_refl _) (.string S))
 have a5:=HK.out.c 5
 have f5:=HK.out.frozen 5
 clear z0 z1 z2 z3 z4 z5 y0 y1 y2 y3 y4 y5
 go_upto_region 8 with fail
 generalize w3.setCell ⟨w.heap.size,5,none⟩ (.string S)=w4 at *
 change Hid (Blk w4 w.heap.size 45 [.int .i64 num,.int .i64 date,.string prev,.slice A ents.length c,.string str,.string S])at HKx
 clear a5 f5
 have a0:=HKx.out.c 0
 have a1:=HKx.out.c 1
 have a2:=HKx.out.c 2
 have a3:=HKx.out.c 3
 have a4:=HKx.out.c 4
 have a5:=HKx.out.c 5
 have z0:=HRx.out.c 0
 have z1:=HRx.out.c 1
 have z2:=HRx.out.c 2
 have z3:=HRx.out.c 3
 have z4:=HRx.out.c 4
 have z5:=HRx.out.c 5
 have y0:=HRx.out.frozen 0
 have y1:=HRx.out.frozen 1
 have y2:=HRx.out.frozen 2
 have y3:=HRx.out.frozen 3
 have y4:=HRx.out.frozen 4
 have y5:=HRx.out.frozen 5
 have HW:=zY (HRx.out.setAll (i:=0) [.int .i64 num,.int .i64 date,.string prev,.slice A ents.length c,.string str,.string S])
 have HBw:=zY (below_setAll (g:=w.heap.size+1) (by omega) [.int .i64 num,.int .i64 date,.string prev,.slice A ents.length c,.string str,.string S] w4 0 HBx.out)
 go_wp2
 refine bodyPost_ret (results_row_tmp rfl _ _ (w.heap.size+1) 45 _ (0,0) _ rfl HW.out Tryz.underlying45 rfl (by kernel_rfl)) rfl ?_
 exact⟨rfl,HBw.out⟩}
 {
 clear z0 z1 z2 z3 z4 z5 y0 y1 y2 y3 y4 y5
 have HBw:=zY (below_setRow HB3.out (show w.heap.size<=w.heap.size+1 by omega) #[.int .i64 0,.int .i64 0,.string ⟨#[]⟩,.slice none 0 0,.string ⟨#[]⟩,.string ⟨#[]⟩])
 have hbt:(Tryz.prog.built 45 [])=some #[.int .i64 0,.int .i64 0,.string ⟨#[]⟩,.slice none 0 0,.string ⟨#[]⟩,.string ⟨#[]⟩]:=by kernel_rfl
 have hmap:∀f:Nat×Operand->Nat×Value,(Array.map f #[]).toList=[]:=fun f=>by simp
 go_upto_region 6 with fail
 refine wp_region_lit ?_
 refine wpList_build rfl 45 #[] rfl (by rw[hmap,hbt];rfl) ?_
 rw[hmap,hbt]
 clear hbt hmap
 refine wpList_plain rfl fun K hK=>?_
 go_simp
 refine hK _ _ ?_
 refine wpList_store_row rfl 45 (.tmp 8) (.tmp 32) rfl (w.heap.size+1) #[.int .i64 0,.int .i64 0,.string ⟨#[]⟩,.slice none 0 0,.string ⟨#[]⟩,.string ⟨#[]⟩] rfl rfl 45 _ HR.out (by kernel_rfl) rfl (by simp[Value.oneCell']) ?_
 go_wp2_with fail
 refine bodyPost_ret (results_row_tmp rfl _ _ (w.heap.size+1) 45 _ (0,0) _ rfl (setRow_heap _ _ _ _ _ _ HR.out) Tryz.underlying45 rfl (by kernel_rfl)) rfl ?_
 exact⟨rfl,HBw.out⟩}
 {
 clear z0 z1 z2 z3 z4 z5 y0 y1 y2 y3 y4 y5
 have HBw:=zY (below_setRow HB3.out (show w.heap.size<=w.heap.size+1 by omega) #[.int .i64 0,.int .i64 0,.string ⟨#[]⟩,.slice none 0 0,.string ⟨#[]⟩,.string ⟨#[]⟩])
 have hbt:(Tryz.prog.built 45 [])=some #[.int .i64 0,.int .i64 0,.string ⟨#[]⟩,.slice none 0 0,.string ⟨#[]⟩,.string ⟨#[]⟩]:=by kernel_rfl
 have hmap:∀f:Nat×Operand->Nat×Value,(Array.map f #[]).toList=[]:=fun f=>by simp
 go_upto_region 6 with fail
 refine wp_region_lit ?_
 refine wpList_build rfl 45 #[] rfl (by rw[hmap,hbt];rfl) ?_
 rw[hmap,hbt]
 clear hbt hmap
 refine wpList_plain rfl fun K hK=>?_
 go_simp
 refine hK _ _ ?_
 refine wpList_store_row rfl 45 (.tmp 8) (.tmp 32) rfl (w.heap.size+1) #[.int .i64 0,.int .i64 0,.string ⟨#[]⟩,.slice none 0 0,.string ⟨#[]⟩,.string ⟨#[]⟩] rfl rfl 45 _ HR.out (by kernel_rfl) rfl (by simp[Value.oneCell']) ?_
 go_wp2_with fail
 refine bodyPost_ret (results_row_tmp rfl _ _ (w.heap.size+1) 45 _ (0,0) _ rfl (setRow_heap _ _ _ _ _ _ HR.out) Tryz.underlying45 rfl (by kernel_rfl)) rfl ?_
 exact⟨rfl,HBw.out⟩}
theorem lawsigns_any (w:World) (v:Value) (l:List Bat) (hv:SeqAt batS w v l) (seed:ByteArray) (hgt key:Int) (hT:Tab w):Calls Tryz.prog 9 #[v,.string seed,.int .i64 hgt,.int .i64 key] w fun e w'=>e=.returned (.bool true)/\Below w.heap.size w w':=by
 have HT:=zY hT
 have HM:=zY (made_any w v l hv 0 (by decide))
 obtain⟨Av,cv,rfl,_,_⟩:=hv.slice
 generalize l.length=ll at *
 clear hv hT
 go_enter Tryz.func9,Tryz.ntmps9
 go_upto_region 1 with fail
 go_wp2_with fail
 refine HM.out.mono ?_
 rintro e1 w1 ⟨⟨d,s,va,L,ok,rfl,hd1,hd3,hs2,hva,hok⟩,hb1⟩
 obtain⟨A,c,rfl,_,_⟩:=hva.slice
 have HVa:=zY hva
 have HOk:=zY hok
 have HB1:=zY hb1
 clear hva hok hb1 HM
 go_upto_region 2 with fail
 have hA:=Blk.new w1 28 [.int .u32 7,.int .i64 (d:Int),.int .i64 (s:Int),.slice A L.length c]
 have HA:Hid (Blk (w1.alloc (.cells #[.int .u32 7,.int .i64 (d:Int),.int .i64 (s:Int),.slice A L.length c] 28)) w1.heap.size 28 [.int .u32 7,.int .i64 (d:Int),.int .i64 (s:Int),.slice A L.length c]):=zY hA
 have HVb:=zY (HVa.out.below (zBl w1 (.cells #[.int .u32 7,.int .i64 (d:Int),.int .i64 (s:Int),.slice A L.length c] 28)))
 have HB2:=zY (HB1.out.alloc HB1.out.size (.cells #[.int .u32 7,.int .i64 (d:Int),.int .i64 (s:Int),.slice A L.length c] 28))
 clear hA HB1 HVa
 generalize w1.alloc (.cells #[.int .u32 7,.int .i64 (d:Int),.int .i64 (s:Int),.slice A L.length c] 28)=w2 at *
 obtain⟨ga,hga⟩:=zNm (w1.heap.size)
 rw[hga]at HA⊢
 clear hga
 cases ok with
 |false=>
  have HAw:=zY (awake43_any w2 (HT.out.below HB2.out))
  go_wp2_with fail
  refine HAw.out.mono ?_
  rintro e3 w3 ⟨rfl,hb3⟩
  have HB3:=zYt HB2 hb3
  clear hb3
  go_wp2
  go_ret
  exact⟨rfl,HB3.out⟩
 |true=>
  have HMo:=zY (HOk.out rfl)
  have a3:=HA.out.c 3
  by_cases hL1:L.length=1
  {
  have hne:((L.length:Int) != 1)=false:=by rw[hL1];rfl
  by_cases hh2:hgt<=2
  {
  have hhI:¬(2:Int)<hgt:=by omega
  by_cases hsz:seed.size<=30
  {
  have hszI:¬(30:Int)<(seed.size:Int):=by omega
  have hL0:L.length=1:=hL1
  obtain⟨y,rfl⟩:∃y,L=[y]:=List.length_eq_one_iff.1 hL1
  have hV:SesV y:=(HMo.out.all 0 y rfl).2.1
  have hsig:y.sig=⟨#[]⟩:=(HMo.out.ok y (by simp)).sig
  obtain⟨_,_,e9,_,_,h4⟩:=HVb.out
  cases e9
  obtain⟨b,o,cs,rfl,⟨ve,rfl,hve⟩,hc⟩:=h4 0 y rfl
  have HVe:=zY hve
  obtain⟨Ae,ce,rfl,_,_⟩:=hve.slice
  have hq:∀j u,[Value.int .i64 y.num,.int .i64 y.date,.string y.prev,.slice Ae y.ents.length ce,.string y.str,.string y.sig][j]?=some u->w2.cell? ⟨b,o+j,none⟩=some u:=fun j u hu=>by
   have:=hc j u hu
   rwa [Nat.zero_mul,Nat.add_zero]at this
  have HCs:Hid (∀W,Below w2.heap.size w2 W->(W.cell? ⟨ga,3,none⟩=some (.slice (some ⟨b,o,none⟩) 1 c)/\W.cell? ⟨b,o,none⟩=some (.int .i64 y.num)/\W.cell? ⟨b,o+1,none⟩=some (.int .i64 y.date)/\W.cell? ⟨b,o+2,none⟩=some (.string y.prev)/\W.cell? ⟨b,o+3,none⟩=some (.slice Ae y.ents.length ce)/\W.cell? ⟨b,o+4,none⟩=some (.string y.str)/\W.cell? ⟨b,o+5,none⟩=some (.string y.sig))):=zY (fun W hW=>⟨(HA.out.kept hW).c 3,cell_below hW (hq 0 _ rfl),cell_below hW (hq 1 _ rfl),cell_below hW (hq 2 _ rfl),cell_below hW (hq 3 _ rfl),cell_below hW (hq 4 _ rfl),cell_below hW (hq 5 _ rfl)⟩)
  have HTw:=zY (fun(W:World) (hW:Below w2.heap.size w2 W)=>HT.out.below (HB2.out.trans (hW.mono HB2.out.size)))
  have HDg:=zY (fun(W:World) (hW:Below w2.heap.size w2 W)=>dirdigest_ok W y _ (HVe.out.below hW) hV (by have:=signL_len hV;omega) (HTw.out W hW))
  have HVs:=zY (fun(W:World) (hW:Below w2.heap.size w2 W) (er:Int) (S:ByteArray) (her:er=0∨er=1∨er=2) (hk:∀W',Below W.heap.size W W'->Calls Tryz.prog 30 #[.string seed,.int .i64 hgt,.int .i64 key,.string (digS y)] W' fun e w'=>e=.returned (.tuple #[.string S,.int .i64 er])/\Below W'.heap.size W' w')=>volsign_any W y _ (HVe.out.below hW) hV (HTw.out W hW) seed hgt key er S her hk)
  have HDz:=zY (digS_size y)
  obtain⟨D,hD⟩:=zNm (digS y)
  rw[hD]at HDg HVs HDz
  have hs30:seed.size<=1000:=by omega
  obtain⟨num,date,prev,ents,str,sig⟩:=y
  dsimp only at HCs HDg HVs HVe hsig
  subst hsig
  clear hc h4 hq hve HVb hV HOk HMo hD a3
  have HBr:=zY (Below.refl w2.heap.size w2)
  by_cases he:keyE hgt key=0
  {
  have h0:0<=hgt:=by
   rcases Int.lt_or_le hgt 0 with h|h
   {
   rw[keyE,if_pos h]at he
   exact absurd he (by decide)}
   ·exact h
  obtain⟨n,rfl⟩:∃n:Nat,hgt=(n:Int):=⟨hgt.toNat,by omega⟩
  have hkk:¬(key<0∨(2:Int)^n<=key):=fun hn=>by
   rw[keyE,if_neg (by omega),Int.toNat_natCast,if_pos hn]at he
   exact absurd he (by decide)
  obtain⟨k,rfl⟩:∃k:Nat,key=(k:Int):=⟨key.toNat,by omega⟩
  have hk2:k<2^n:=by
   have h1:((2^n:Nat):Int)=(2:Int)^n:=by rw[Int.natCast_pow];rfl
   refine Decidable.byContradiction fun hn=>hkk (.inr ?_)
   rw[<-h1]
   omega
  have hn2:n<=2:=by omega
  have HKb:=zY (fun(W:World) (hW:Below w2.heap.size w2 W)=>ksign_ok W seed n k hn2 hk2 D hs30 (by rw[HDz.out];decide) (HTw.out W hW))
  have HRt:=zY (fun(W:World) (hW:Below w2.heap.size w2 W)=>kroot_ok W seed n hn2 hs30 (HTw.out W hW))
  have HVf:=zY (fun(W:World) (hW:Below w2.heap.size w2 W)=>kverify_ok W seed n k hn2 hk2 D (by rw[HDz.out];decide) (HTw.out W hW))
  obtain⟨S,hS⟩:=zNm (strB (sealN seed n k D n))
  obtain⟨Rt,hRt⟩:=zNm (rootB seed n)
  rw[hS]at HKb HVf
  rw[hRt]at HRt HVf
  have HV1:=zY (HVs.out w2 HBr.out 0 S (.inl rfl) (fun W hW=>HKb.out W hW))
  rw[if_pos rfl]at HV1
  clear he hkk hS hRt hk2 h0 hs30
  obtain⟨a3,e0,e1,e2,e3,e4,e5⟩:=HCs.out w2 HBr.out
  go_wp2_with fail
  refine HV1.out.mono ?_
  rintro r3 w3 ⟨rfl,hb3⟩
  have HB3:=zY hb3
  clear hb3 a3 e0 e1 e2 e3 e4 e5
  have HK:Hid (Blk (w3.alloc (.cells #[.int .i64 num,.int .i64 date,.string prev,.slice Ae ents.length ce,.string str,.string S] 45)) w3.heap.size 45 [.int .i64 num,.int .i64 date,.string prev,.slice Ae ents.length ce,.string str,.string S]):=zY (Blk.new w3 _ _)
  have HB4:=zY (HB3.out.alloc HB3.out.size (.cells #[.int .i64 num,.int .i64 date,.string prev,.slice Ae ents.length ce,.string str,.string S] 45))
  go_upto_region 5 with fail
  generalize w3.alloc (.cells #[.int .i64 num,.int .i64 date,.string prev,.slice Ae ents.length ce,.string str,.string S] 45)=w4 at *
  obtain⟨gs,hgs⟩:=zNm (w3.heap.size)
  have HGs:Hid (w2.heap.size<=gs):=zY (by rw[<-hgs];exact HB3.out.size)
  rw[hgs]at HK⊢
  clear hgs
  obtain⟨a3,e0,e1,e2,e3,e4,e5⟩:=HCs.out w4 HB4.out
  go_wp2_with fail
  refine(HDg.out w4 HB4.out).mono ?_
  rintro r5 w5 ⟨rfl,hb5⟩
  have HK5:=zY (HK.out.kept hb5)
  have HB5:=zYt HB4 hb5
  clear hb5 a3 e0 e1 e2 e3 e4 e5
  go_wp2_with fail
  refine(HKb.out w5 HB5.out).mono ?_
  rintro r6 w6 ⟨rfl,hb6⟩
  have HK6:=zY (HK5.out.kept hb6)
  have HB6:=zYt HB5 hb6
  clear hb6
  go_wp2_with fail
  refine(HRt.out w6 HB6.out).mono ?_
  rintro r7 w7 ⟨rfl,hb7⟩
  have HK7:=zY (HK6.out.kept hb7)
  have HB7:=zYt HB6 hb7
  clear hb7
  have z5:=HK7.out.c 5
  go_wp2_with fail
  refine(HVf.out w7 HB7.out).mono ?_
  rintro r8 w8 ⟨rfl,hb8⟩
  have HK8:=zY (HK7.out.kept hb8)
  have HB8:=zYt HB7 hb8
  clear hb8 z5
  have z5:=HK8.out.c 5
  have f5:=HK8.out.frozen 5
  have HK9:=zY (HK8.out.set 5 (.string ⟨#[]⟩))
  have HB9:=zY (HB8.out.setCell (p:=⟨gs,5,none⟩) HGs.out (.string ⟨#[]⟩))
  go_upto_region 14 with fail
  generalize w8.setCell ⟨gs,5,none⟩ (.string ⟨#[]⟩)=w9 at *
  change Hid (Blk w9 gs 45 [.int .i64 num,.int .i64 date,.string prev,.slice Ae ents.length ce,.string str,.string ⟨#[]⟩])at HK9
  clear z5 f5
  have HSs:=zY (fun(W:World) (hW:Below w2.heap.size w2 W)=>same39s_any W ⟨num,date,prev,ents,str,⟨#[]⟩⟩ _ (HVe.out.below hW))
  have HAw:=zY (fun(W:World) (hW:Below w2.heap.size w2 W)=>awake43_any W (HTw.out W hW))
  have hkq:((k:Int)==(k:Int))=true:=by simp
  have HKc:=zY HK9.out.drewV
  have HBc:=zY HB9.out.drew
  have HSt:Hid (∀W,Below w2.heap.size w2 W->Blk W gs 45 [.int .i64 num,.int .i64 date,.string prev,.slice Ae ents.length ce,.string str,.string ⟨#[]⟩]->W.cell? ⟨gs,0,none⟩=some (.int .i64 num)/\W.cell? ⟨gs,1,none⟩=some (.int .i64 date)/\W.cell? ⟨gs,2,none⟩=some (.string prev)/\W.cell? ⟨gs,3,none⟩=some (.slice Ae ents.length ce)/\W.cell? ⟨gs,4,none⟩=some (.string str)/\W.cell? ⟨gs,5,none⟩=some (.string ⟨#[]⟩)/\W.cell? ⟨ga,3,none⟩=some (.slice (some ⟨b,o,none⟩) 1 c)/\W.cell? ⟨b,o,none⟩=some (.int .i64 num)/\W.cell? ⟨b,o+1,none⟩=some (.int .i64 date)/\W.cell? ⟨b,o+2,none⟩=some (.string prev)/\W.cell? ⟨b,o+3,none⟩=some (.slice Ae ents.length ce)/\W.cell? ⟨b,o+4,none⟩=some (.string str)/\W.cell? ⟨b,o+5,none⟩=some (.string ⟨#[]⟩)):=zY (fun W hW hK=>by
   obtain⟨a3,e0,e1,e2,e3,e4,e5⟩:=HCs.out W hW
   exact⟨hK.c 0,hK.c 1,hK.c 2,hK.c 3,hK.c 4,hK.c 5,a3,e0,e1,e2,e3,e4,e5⟩)
  refine wp_region_held_drew (S:=(fun W=>W.cell? ⟨gs,0,none⟩=some (.int .i64 num)/\W.cell? ⟨gs,1,none⟩=some (.int .i64 date)/\W.cell? ⟨gs,2,none⟩=some (.string prev)/\W.cell? ⟨gs,3,none⟩=some (.slice Ae ents.length ce)/\W.cell? ⟨gs,4,none⟩=some (.string str)/\W.cell? ⟨gs,5,none⟩=some (.string ⟨#[]⟩)/\W.cell? ⟨ga,3,none⟩=some (.slice (some ⟨b,o,none⟩) 1 c)/\W.cell? ⟨b,o,none⟩=some (.int .i64 num)/\W.cell? ⟨b,o+1,none⟩=some (.int .i64 date)/\W.cell? ⟨b,o+2,none⟩=some (.string prev)/\W.cell? ⟨b,o+3,none⟩=some (.slice Ae ents.length ce)/\W.cell? ⟨b,o+4,none⟩=some (.string str)/\W.cell? ⟨b,o+5,none⟩=some (.string ⟨#[]⟩))) (by kernel_rfl) ?_ (fun hHeld=>?_)
  ·exact HSt.out _ HBc.out HKc.out
  refine tk 0 ?_
  refine tk 1 ?_
  refine tk 2 ?_
  refine tk 3 ?_
  refine tk 4 ?_
  refine tk 5 ?_
  refine tk 6 ?_
  refine tk 7 ?_
  refine tk 8 ?_
  refine tk 9 ?_
  refine tk 10 ?_
  refine tk 11 ?_
  refine tk 12 ?_
  refine tk 13 ?_
  refine tk 14 ?_
  refine tk 15 ?_
  refine tk 16 ?_
  refine zE1 17 fun K hK=>?_
  go_simp
  refine(HSs.out _ HBc.out).mono ?_
  rintro r10 w10 ⟨rfl,hb10⟩
  (try go_wp2_with fail)
  have HKc:=zY (HKc.out.kept hb10)
  have HBc:=zYt HBc hb10
  clear hb10
  refine hko hK (by exact HSt.out _ HBc.out HKc.out) (fun _=>?_)
  clear hK K
  refine tk 18 ?_
  refine tk 19 ?_
  refine zE1 20 fun K hK=>?_
  go_simp
  refine(HAw.out _ HBc.out).mono ?_
  rintro r11 w11 ⟨rfl,hb11⟩
  (try go_wp2_with fail)
  have HKc:=zY (HKc.out.kept hb11)
  have HBc:=zYt HBc hb11
  clear hb11
  refine hko hK (by exact HSt.out _ HBc.out HKc.out) (fun _=>?_)
  clear hK K
  refine tk 21 ?_
  refine tk 22 ?_
  refine wpAnyH_done (by kernel_rfl) ?_ _
  go_wp2_with fail
  go_ret
  exact⟨rfl,HB2.out.trans (HBc.out.mono HB2.out.size)⟩}
  {
  have HKs:=zY (fun(W:World)=>ksign_no W seed D hgt key hh2 he)
  obtain⟨er,her⟩:=zNm (keyE hgt key)
  have her2:er=0∨er=1∨er=2:=by
   rw[<-her,keyE]
   split
   ·exact .inr (.inr rfl)
   {
   split
   ·exact .inr (.inl rfl)
   ·exact .inl rfl}
  rw[her]at he HKs
  have HKb:Hid (∀W:World,Calls Tryz.prog 30 #[.string seed,.int .i64 hgt,.int .i64 key,.string D] W fun e w'=>e=.returned (.tuple #[.string ⟨#[]⟩,.int .i64 er])/\Below W.heap.size W w'):=zY (fun W=>(HKs.out W).mono fun e w' h=>⟨h.1,by rw[h.2];exact Below.refl _ _⟩)
  have HV1:=zY (HVs.out w2 HBr.out er ⟨#[]⟩ her2 (fun W _=>HKb.out W))
  rw[if_neg he,sesZ]at HV1
  have he1:(er != 0)=true:=by rw[bne_iff_ne];exact he
  have he2:(er != er)=false:=by simp
  clear he her HKs
  obtain⟨a3,e0,e1,e2,e3,e4,e5⟩:=HCs.out w2 HBr.out
  go_wp2_with fail
  refine HV1.out.mono ?_
  rintro r3 w3 ⟨rfl,hb3⟩
  have HB3:=zY hb3
  clear hb3 a3 e0 e1 e2 e3 e4 e5
  have HK:Hid (Blk (w3.alloc (.cells #[.int .i64 0,.int .i64 0,.string ⟨#[]⟩,.slice none 0 0,.string ⟨#[]⟩,.string ⟨#[]⟩] 45)) w3.heap.size 45 [.int .i64 0,.int .i64 0,.string ⟨#[]⟩,.slice none 0 0,.string ⟨#[]⟩,.string ⟨#[]⟩]):=zY (Blk.new w3 _ _)
  have HB4:=zY (HB3.out.alloc HB3.out.size (.cells #[.int .i64 0,.int .i64 0,.string ⟨#[]⟩,.slice none 0 0,.string ⟨#[]⟩,.string ⟨#[]⟩] 45))
  go_upto_region 5 with fail
  generalize w3.alloc (.cells #[.int .i64 0,.int .i64 0,.string ⟨#[]⟩,.slice none 0 0,.string ⟨#[]⟩,.string ⟨#[]⟩] 45)=w4 at *
  obtain⟨gs,hgs⟩:=zNm (w3.heap.size)
  rw[hgs]at HK⊢
  clear hgs
  obtain⟨a3,e0,e1,e2,e3,e4,e5⟩:=HCs.out w4 HB4.out
  go_wp2_with fail
  refine(HDg.out w4 HB4.out).mono ?_
  rintro r5 w5 ⟨rfl,hb5⟩
  have HK5:=zY (HK.out.kept hb5)
  have HB5:=zYt HB4 hb5
  clear hb5 a3 e0 e1 e2 e3 e4 e5
  go_wp2_with fail
  refine(HKb.out w5).mono ?_
  rintro r6 w6 ⟨rfl,hb6⟩
  have HK6:=zY (HK5.out.kept hb6)
  have HB6:=zYt HB5 hb6
  clear hb6
  have z0:=HK6.out.c 0
  have z1:=HK6.out.c 1
  have z2:=HK6.out.c 2
  have z3:=HK6.out.c 3
  have z4:=HK6.out.c 4
  have z5:=HK6.out.c 5
  have HSs:=zY (same39s_any w6 ⟨0,0,⟨#[]⟩,[],⟨#[]⟩,⟨#[]⟩⟩ (.slice none 0 0) (SeqAt.nil _))
  go_wp2_with fail
  refine HSs.out.mono ?_
  rintro r7 w7 ⟨rfl,hb7⟩
  have HB7:=zYt HB6 hb7
  clear hb7 z0 z1 z2 z3 z4 z5
  have HAw:=zY (awake43_any w7 (HTw.out w7 HB7.out))
  go_wp2_with fail
  refine HAw.out.mono ?_
  rintro r8 w8 ⟨rfl,hb8⟩
  have HB8:=zY (HB2.out.trans ((HB7.out.trans (hb8.mono HB7.out.size)).mono HB2.out.size))
  clear hb8
  go_wp2
  go_ret
  exact⟨rfl,HB8.out⟩}}
  {
  have hszI:(30:Int)<(seed.size:Int):=by omega
  have HAw:=zY (awake43_any w2 (HT.out.below HB2.out))
  go_wp2_with fail
  refine HAw.out.mono ?_
  rintro e3 w3 ⟨rfl,hb3⟩
  have HB3:=zYt HB2 hb3
  clear hb3
  go_wp2
  go_ret
  exact⟨rfl,HB3.out⟩}}
  {
  have hhI:(2:Int)<hgt:=by omega
  have HAw:=zY (awake43_any w2 (HT.out.below HB2.out))
  go_wp2_with fail
  refine HAw.out.mono ?_
  rintro e3 w3 ⟨rfl,hb3⟩
  have HB3:=zYt HB2 hb3
  clear hb3
  go_wp2
  go_ret
  exact⟨rfl,HB3.out⟩}}
  {
  have hne:((L.length:Int) != 1)=true:=by rw[bne_iff_ne];omega
  have HAw:=zY (awake43_any w2 (HT.out.below HB2.out))
  go_wp2_with fail
  refine HAw.out.mono ?_
  rintro e3 w3 ⟨rfl,hb3⟩
  have HB3:=zYt HB2 hb3
  clear hb3
  go_wp2
  go_ret
  exact⟨rfl,HB3.out⟩}
end
end Go.Proofs.YthgenkkkapilhaaGreatDoor
namespace Go.Proofs.YthgenkkkapilhaaGreatDoor.lawVoSigns
section
open Go.ChangeShapes Go.WideShapes Go.ChangeAt Go.RowKit
theorem lifted (os:Os) (started:os.Started) (H:Type) (enc:TypeId×Value->H):
  ReturnsInHanded {} Tryz.checked os 9 .any (fun w args=>(Rows.volumeSignsSpec.pre enc Tryz.prog Tryz.f9 Rows.volumeSignsRow.domain false w args/\laidMetH Tryz.prog Rows.volumeSignsRow.laid w)/\sizedMet enc Tryz.prog Tryz.f9 (OpenSpec.ofChange Rows.volumeSignsSpec) false w args)
   (Rows.volumeSignsSpec.post enc Tryz.prog Tryz.f9 false true false false):=by
 refine returns_shaped (C:=Tryz.checked) (X:=fun w _=>laidMetH Tryz.prog Rows.volumeSignsRow.laid w) (fun _ _ _ hh h=>h.of_heap hh) ownN started (by kernel_rfl) Tryz.func9
  (ChangeSpec.witness_shaped (enc:=enc) (C:=Tryz.checked) (os:=os) (X:=fun w _=>laidMetH Tryz.prog Rows.volumeSignsRow.laid w) false (World.laidAll Tryz.prog os Rows.volumeSignsRow.laid) #[.slice none 0 0,.string ⟨#[]⟩,.int .i64 0,.int .i64 0] 8 (World.laidAll_os _ _ _)
   (World.shaped_of_ZipB (by kernel_rfl) (by kernel_rfl)) (by kernel_rfl) (by kernel_rfl) (by kernel_rfl)
   (by rw[MakeChecks.laidMetH_plain _ _ _ (by kernel_rfl)];exact laidMet_laidAll _ (by kernel_rfl) (by kernel_rfl))) ?_
 intro W base args ds gs before hval0 hW hc _ hL hsh _
 have hT:Tab W:=tab_of hL (by kernel_rfl) hsh
 have hval:∀(j:Nat) t v,Tryz.f9.params[j]?=some t->args[j]?=some v->Value.okWide Tryz.prog W .any base t v:=hval0
 have hW':=hW
 obtain⟨p,q,hA0,hV,rfl,_,_⟩:=hW
 have hA:DataW.TrodAll enc Tryz.prog W 0 (fun _=>true) true Tryz.f9.params.toList args.toList ds p:=hA0
 rw[Tryz.params9]at hA hval
 obtain⟨v0,vs0,d0,ds0,p0,q0,hargs,rfl,rfl,h0,r0⟩:=trodAll_cons hA
 obtain⟨v1,vs1,d1,ds1,p1,q1,rfl,rfl,rfl,h1,r1⟩:=trodAll_cons r0
 obtain⟨v2,vs2,d2,ds2,p2,q2,rfl,rfl,rfl,h2,r2⟩:=trodAll_cons r1
 obtain⟨v3,vs3,d3,ds3,p3,q3,rfl,rfl,rfl,h3,r3⟩:=trodAll_cons r2
 obtain⟨rfl,rfl,rfl⟩:=trodAll_nil r3
 obtain rfl:args= #[v0,v1,v2,v3]:=by cases args;simp_all
 obtain⟨rfl,rfl⟩:=trodVars_none hV
 have k0:=h0
 have lt0:∀x∈p0,x.block<W.heap.size:=by obtain⟨m,hm⟩:=k0;exact DataW.trod_lt m _ _ _ hm
 have k1:=h1
 have lt1:∀x∈p1,x.block<W.heap.size:=by obtain⟨m,hm⟩:=k1;exact DataW.trod_lt m _ _ _ hm
 have k2:=h2
 have lt2:∀x∈p2,x.block<W.heap.size:=by obtain⟨m,hm⟩:=k2;exact DataW.trod_lt m _ _ _ hm
 have k3:=h3
 have lt3:∀x∈p3,x.block<W.heap.size:=by obtain⟨m,hm⟩:=k3;exact DataW.trod_lt m _ _ _ hm
 obtain⟨x0,hx0⟩:=open_bats (hval 0 22 v0 rfl rfl) h0
 obtain⟨x1,rfl,_⟩:=Go.ChangeMaps.open_string Tryz.underlying9 (hval 1 9 v1 rfl rfl) h1
 obtain⟨x2,rfl,_,_,_⟩:=open_int Tryz.underlying3 (hval 2 3 v2 rfl rfl) h2
 obtain⟨x3,rfl,_,_,_⟩:=open_int Tryz.underlying3 (hval 3 3 v3 rfl rfl) h3
 clear hA0 hval0 hL
 refine(lawsigns_any W v0 x0 hx0 x1 x2 x3 hT).mono fun e W' ⟨he,bel⟩=>?_
 subst he
 exact⟨_,rfl,_,_,_,[],_,[],hW',trodAll_mk1 (shut_bool Tryz.underlying4 _),(trodAll_cons_mk (Below.trod laidN (by kernel_rfl) (of_decide_eq_true (by kernel_rfl)) k0 bel lt0) (trodAll_cons_mk (Below.trod laidN (by kernel_rfl) (of_decide_eq_true (by kernel_rfl)) k1 bel lt1) (trodAll_cons_mk (Below.trod laidN (by kernel_rfl) (of_decide_eq_true (by kernel_rfl)) k2 bel lt2) (trodAll_cons_mk (Below.trod laidN (by kernel_rfl) (of_decide_eq_true (by kernel_rfl)) k3 bel lt3) trodAll_mk0)))),rfl,bel.frame _,fun h=>by cases h⟩
end
end Go.Proofs.YthgenkkkapilhaaGreatDoor.lawVoSigns
