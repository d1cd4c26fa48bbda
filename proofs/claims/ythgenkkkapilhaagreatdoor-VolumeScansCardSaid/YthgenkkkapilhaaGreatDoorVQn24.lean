/-
  Joined: VpQ.
-/
import Derived.Test.YthgenkkkapilhaaGreatDoorVQn11
import Derived.Test.YthgenkkkapilhaaGreatDoorVQn15
import Derived.Test.YthgenkkkapilhaaGreatDoorVQn18
import Derived.Test.YthgenkkkapilhaaGreatDoorVQn19
set_option linter.all false
set_option maxRecDepth 100000
set_option maxHeartbeats 64000000
namespace Go.Proofs.YthgenkkkapilhaaGreatDoor
open Go.Proofs.Tryz
section
open Go.RowKit
theorem results_row_tmp2 {P:Program} {fn:Func} {p u u2:Tmp} {ty:TypeId} (h:fn.results= #[.cell p ty,.tmp u,.tmp u2]) (tmps:Array Value) (w:World) (g:Nat) (t:TypeId) (cs:Array Value) (fr:Nat×Nat) (d:TypeDesc)
  (hp:tmps.getD p undef=.pointer (some ⟨g,0,none⟩)) (hg:w.heap[g]?=some (.cells cs t fr))
  (hu:P.underlying ty=some d) (hd:(match d with|.struct _|.array _ _=>true|_=>false)=true) (hi:(P.info? ty).map (·.size)=some cs.size):
  (results fn tmps).run P w=.ok (.tuple #[.agg cs,tmps.getD u undef,tmps.getD u2 undef]) w:=by
 have hp':tmps[p]?.getD undef=.pointer (some ⟨g,0,none⟩):=by simpa using hp
 simp only[results,h];simp[Sem.run_bind,hp',asAddr,Result.andThen,run_loadVar_row w g t ty cs fr d hg hu hd hi]
theorem strs_own {W:World} {B:World} {v:Value} {l:List ByteArray} (h:W.ownsRow B.heap.size 9 1 v l.length (l.map .string)):OwnSeq strS 9 B W v l:=by
 refine⟨l.map fun s=>[.string s],?_,?_⟩;{
 have e:∀l:List ByteArray,(l.map fun s=>[Value.string s]).flatten=l.map .string:=fun l=>by
  induction l with
  |nil=>rfl
  |cons s r ih=>rw[List.map_cons,List.flatten_cons,ih];rfl
 rw[e];exact h};{
 clear h;induction l with
 |nil=>exact .nil
 |cons s r ih=>exact .cons rfl ih}
theorem sizes_take (l:List ByteArray):∀{k:Nat} {p:ByteArray},l[k]?=some p->sizes (l.take (k+1))=sizes (l.take k)+p.size:=by
 intro k p h;rw[List.take_add_one,h,sizes_app];simp[sizes]
theorem segSum_take (l:List Seg):∀{k:Nat} {x:Seg},l[k]?=some x->segSum (l.take (k+1))=segSum (l.take k)+x.n.toNat+x.d.size:=by
 intro k p h;rw[List.take_add_one,h,segSum_app];simp[segSum];omega
theorem sizes_ge (l:List ByteArray) (h:∀x∈l,0<x.size):l.length<=sizes l:=by
 induction l with
 |nil=>exact Nat.le_refl _
 |cons x r ih=>
 have h1:=h x List.mem_cons_self;have h2:=ih fun y hy=>h y (List.mem_cons_of_mem _ hy);rw[List.length_cons,sizes];omega
structure PutI (w W:World) (vc:Value) (C:List Cnk) (sn:Int) (st:ByteArray) (vs:Value) (L:List Seg) (vp:Value) (P:List ByteArray) (y:Value) (out:List Ext):Prop where
 bx:Blk W w.heap.size 160 [vc,.int .i64 sn,.string st]
 rs:Blk W (w.heap.size+1) 160 [.slice none 0 0,.int .i64 0,.string ⟨#[]⟩]
 ck:SeqAt chkS w vc C∨OwnSeq chkS 298 w W vc C
 sg:OwnSeq segS 293 w W vs L
 pa:OwnSeq strS 9 w W vp P
 ou:OwnSeq extS 252 w W y out
 bl:Below w.heap.size w W
section
variable {w W W':World} {vc vc' vs vp vp' y y':Value} {C C':List Cnk} {sn:Int} {st st':ByteArray} {L:List Seg} {P P':List ByteArray} {out out':List Ext}
theorem PutI.below (h:PutI w W vc C sn st vs L vp P y out) (hb:Below W.heap.size W W'):PutI w W' vc C sn st vs L vp P y out:=
 ⟨h.bx.kept hb,h.rs.kept hb,h.ck.imp id (·.below hb),h.sg.below hb,h.pa.below hb,h.ou.below hb,h.bl.trans (hb.mono h.bl.size)⟩
theorem PutI.chk (h:PutI w W vc C sn st vs L vp P y out):SeqAt chkS W vc C:=h.ck.elim (fun h'=>h'.below h.bl) (fun h'=>h'.at h.bl)
theorem PutI.add (h:PutI w W vc C sn st vs L vp P y out) (hg:W.grownBy W' y.ownBlock) (ho:OwnSeq extS 252 w W' y' out') (hb:Below w.heap.size w W'):PutI w W' vc C sn st vs L vp P y' out':=
 ⟨h.bx.grownB hg (h.ou.neT h.bx (by decide)),h.rs.grownB hg (h.ou.neT h.rs (by decide)),h.ck.imp id (fun h'=>h'.grown hg (h'.neO h.ou (by decide))),h.sg.grown hg (h.sg.neO h.ou (by decide)),h.pa.grown hg (h.pa.neO h.ou (by decide)),ho,hb⟩
theorem PutI.setS (h:PutI w W vc C sn st vs L vp P y out) (st':ByteArray):PutI w (W.setCell ⟨w.heap.size,2,none⟩ (.string st')) vc C sn st' vs L vp P y out:=
 ⟨h.bx.set 2 _,h.rs.far (p:=⟨w.heap.size,2,none⟩) (by show w.heap.size+1≠w.heap.size;omega) _,h.ck.imp id (fun h'=>h'.grown (grown_set _ _ _ _) (.inr (h'.neT h.bx (by decide)))),h.sg.grown (grown_set _ _ _ _) (.inr (h.sg.neT h.bx (by decide))),
  h.pa.grown (grown_set _ _ _ _) (.inr (h.pa.neT h.bx (by decide))),h.ou.grown (grown_set _ _ _ _) (.inr (h.ou.neT h.bx (by decide))),h.bl.setCell (p:=⟨w.heap.size,2,none⟩) (Nat.le_refl _) _⟩
theorem PutI.setC (h:PutI w W vc C sn st vs L vp P y out) (ho:OwnSeq chkS 298 w W vc' C'):PutI w (W.setCell ⟨w.heap.size,0,none⟩ vc') vc' C' sn st vs L vp P y out:=
 ⟨h.bx.set 0 _,h.rs.far (p:=⟨w.heap.size,0,none⟩) (by show w.heap.size+1≠w.heap.size;omega) _,.inr (ho.grown (grown_set _ _ _ _) (.inr (ho.neT h.bx (by decide)))),h.sg.grown (grown_set _ _ _ _) (.inr (h.sg.neT h.bx (by decide))),
  h.pa.grown (grown_set _ _ _ _) (.inr (h.pa.neT h.bx (by decide))),h.ou.grown (grown_set _ _ _ _) (.inr (h.ou.neT h.bx (by decide))),h.bl.setCell (p:=⟨w.heap.size,0,none⟩) (Nat.le_refl _) _⟩
theorem PutI.parts (h:PutI w W vc C sn st vs L vp P y out) (ho:OwnSeq strS 9 w W vp' P'):PutI w W vc C sn st vs L vp' P' y out:=⟨h.bx,h.rs,h.ck,h.sg,ho,h.ou,h.bl⟩
theorem PutI.part {g n c:Nat} (h:PutI w W vc C sn st vs L (.slice (some ⟨g,0,none⟩) n c) P y out) {k:Nat} {p:ByteArray} (hk:P[k]?=some p):W.cell? ⟨g,k,none⟩=some (.string p):=by
 obtain⟨_,_,e,_,_,h4⟩:=h.pa.at h.bl;cases e;obtain⟨b,o,cs,e,rfl,hc⟩:=h4 k p hk;cases e;simpa [strS]using hc 0 _ rfl
theorem PutI.seg {g n c:Nat} (h:PutI w W vc C sn st (.slice (some ⟨g,0,none⟩) n c) L vp P y out) {k:Nat} {x:Seg} (hk:L[k]?=some x):W.cell? ⟨g,k*2,none⟩=some (.int .i64 x.n)/\W.cell? ⟨g,k*2+1,none⟩=some (.string x.d):=by
 obtain⟨_,_,e,_,_,h4⟩:=h.sg.at h.bl;cases e;obtain⟨b,o,cs,e,rfl,hc⟩:=h4 k x hk;cases e;exact⟨by simpa [segS]using hc 0 _ rfl,by simpa [segS]using hc 1 _ rfl⟩
theorem PutI.res (h:PutI w W vc C sn st vs L vp P y out) (u0 u1 u2:Value):Blk (((W.setCell ⟨w.heap.size+1,0,none⟩ u0).setCell ⟨w.heap.size+1,1,none⟩ u1).setCell ⟨w.heap.size+1,2,none⟩ u2) (w.heap.size+1) 160 [u0,u1,u2] /\
  SeqAt chkS (((W.setCell ⟨w.heap.size+1,0,none⟩ u0).setCell ⟨w.heap.size+1,1,none⟩ u1).setCell ⟨w.heap.size+1,2,none⟩ u2) vc C/\SeqAt extS (((W.setCell ⟨w.heap.size+1,0,none⟩ u0).setCell ⟨w.heap.size+1,1,none⟩ u1).setCell ⟨w.heap.size+1,2,none⟩ u2) y out /\
  Below w.heap.size w (((W.setCell ⟨w.heap.size+1,0,none⟩ u0).setCell ⟨w.heap.size+1,1,none⟩ u1).setCell ⟨w.heap.size+1,2,none⟩ u2):=by
 have hle:w.heap.size<=w.heap.size+1:=by omega
 have hb:=((h.bl.setCell (p:=⟨w.heap.size+1,0,none⟩) hle u0).setCell (p:=⟨w.heap.size+1,1,none⟩) hle u1).setCell (p:=⟨w.heap.size+1,2,none⟩) hle u2;have r0:=h.rs.set 0 u0;have r1:=r0.set 1 u1;have r2:=r1.set 2 u2;have o1:=((h.ou.grown (grown_set W (w.heap.size+1) 0 u0) (.inr (h.ou.neT h.rs (by decide)))));have o2:=o1.grown (grown_set _ (w.heap.size+1) 1 u1) (.inr (o1.neT r0 (by decide)));have o3:=o2.grown (grown_set _ (w.heap.size+1) 2 u2) (.inr (o2.neT r1 (by decide)));refine⟨r2,?_,o3.at hb,hb⟩;rcases h.ck with hk|hk;{exact hk.below hb};{
 have k1:=((hk.grown (grown_set W (w.heap.size+1) 0 u0) (.inr (hk.neT h.rs (by decide)))));have k2:=k1.grown (grown_set _ (w.heap.size+1) 1 u1) (.inr (k1.neT r0 (by decide)));have k3:=k2.grown (grown_set _ (w.heap.size+1) 2 u2) (.inr (k2.neT r1 (by decide)));exact k3.at hb}
end
def RetPut (w':World) (sn:Int) (n0:Nat) (m0 m:Nat) (e:Ending):Prop:=∃(vc vx:Value) (C:List Cnk) (st:ByteArray) (l:List Ext) (k:Int),e=.returned (.tuple #[.agg #[vc,.int .i64 sn,.string st],vx,.int .i64 k])/\SeqAt chkS w' vc C/\SeqAt extS w' vx l/\C.length<=n0+m/\st.size<=m0+m/\l.length<=3*m+1
theorem put35_any (w:World) (v:Value) (C0:List Cnk) (sn:Int) (st0 s:ByteArray) (hv:SeqAt chkS w v C0) (hC:C0.length<=50000000) (hst:st0.size<=1000000000) (hs:s.size<=100000):
  Calls prog 152 #[.agg #[v,.int .i64 sn,.string st0],.string s] w fun e w'=>RetPut w' sn C0.length st0.size s.size e/\Below w.heap.size w w':=by
 have HSp:=zY (fun(W:World)=>split34_any W s hs);have HCs:=zY (fun(W:World) (d:ByteArray) (hd:d.size<=1000000)=>split33_any W d hd);have HSm:=zY (fun(W:World) (u:Value) (p:ByteArray) (hp:p.size<=1000000000) (h:SeqAt strS W u [p])=>sum1_any comp_spec W u p h hp);obtain⟨Av,cv,rfl,_,_⟩:=hv.slice;have hK:=Blk.new w 160 [.slice Av C0.length cv,.int .i64 sn,.string st0];change Blk (w.alloc (.cells #[.slice Av C0.length cv,.int .i64 sn,.string st0] 160)) _ _ _ at hK;have hZ:=Blk.new (w.alloc (.cells #[.slice Av C0.length cv,.int .i64 sn,.string st0] 160)) 160 [.slice none 0 0,.int .i64 0,.string ⟨#[]⟩];change Blk ((w.alloc (.cells #[.slice Av C0.length cv,.int .i64 sn,.string st0] 160)).alloc (.cells #[.slice none 0 0,.int .i64 0,.string ⟨#[]⟩] 160)) _ _ _ at hZ;rw[World.size_alloc]at hZ;have hB0:=((zBl w (.cells #[.slice Av C0.length cv,.int .i64 sn,.string st0] 160)).alloc (by simp) (.cells #[.slice none 0 0,.int .i64 0,.string ⟨#[]⟩] 160));have HP0:Hid (PutI w _ _ C0 sn st0 (.slice none 0 0) [] (.slice none 0 0) [] (.slice none 0 0) []):=zY ⟨hK.alloc (.cells #[.slice none 0 0,.int .i64 0,.string ⟨#[]⟩] 160),hZ,.inl hv,OwnSeq.nil _,OwnSeq.nil _,OwnSeq.nil _,hB0⟩;have HC:=zY hC;have HSt:=zY hst;clear hK hZ hB0 hv hC hst;go_enter func152,ntmps152;go_upto_region 1 with fail;generalize (w.alloc (.cells #[.slice Av C0.length cv,.int .i64 sn,.string st0] 160)).alloc (.cells #[.slice none 0 0,.int .i64 0,.string ⟨#[]⟩] 160)=wa at *;have c0:=HP0.bx.c 0;have c1:=HP0.bx.c 1;have c2:=HP0.bx.c 2;have z0:=HP0.rs.c 0;have z1:=HP0.rs.c 1;have z2:=HP0.rs.c 2;have y0:=HP0.rs.frozen 0
 have y1:=HP0.rs.frozen 1;have y2:=HP0.rs.frozen 2;have HW:=zY (HP0.res (.slice Av C0.length cv) (.int .i64 sn) (.string st0));by_cases h1:sn<1;{
 go_wp2_with fail;refine bodyPost_ret (results_row_tmp2 rfl _ _ (w.heap.size+1) 160 _ (0,0) _ rfl HW.1 underlying160 rfl (by kernel_rfl)) rfl ?_;exact⟨⟨_,_,C0,st0,[],1,rfl,HW.2.1,SeqAt.nil _,by omega,by omega,by simp⟩,HW.2.2.2⟩};{
 by_cases h2:255<sn;{
 go_wp2_with fail;refine bodyPost_ret (results_row_tmp2 rfl _ _ (w.heap.size+1) 160 _ (0,0) _ rfl HW.1 underlying160 rfl (by kernel_rfl)) rfl ?_;exact⟨⟨_,_,C0,st0,[],1,rfl,HW.2.1,SeqAt.nil _,by omega,by omega,by simp⟩,HW.2.2.2⟩};{
 by_cases h3:65536<s.size;{
 have h3I:(65536:Int)<s.size:=by omega
 go_wp2_with fail;refine bodyPost_ret (results_row_tmp2 rfl _ _ (w.heap.size+1) 160 _ (0,0) _ rfl HW.1 underlying160 rfl (by kernel_rfl)) rfl ?_;exact⟨⟨_,_,C0,st0,[],6,rfl,HW.2.1,SeqAt.nil _,by omega,by omega,by simp⟩,HW.2.2.2⟩};{
 have h3I:¬(65536:Int)<s.size:=by omega
 go_wp2_with fail;refine(HSp.out _).mono ?_;rintro e1 w1 ⟨⟨vs,L,rfl,ho1,hok1⟩,hb1⟩;clear c0 c1 c2 z0 z1 z2 y0 y1 y2 HW;have HP1:Hid (PutI w w1 _ C0 sn st0 vs L (.slice none 0 0) [] (.slice (some ⟨wa.heap.size,0,none⟩) 0 0) []):=zY (by
  have hw1:=(HP0.below ((Below.refl _ wa).alloc (Nat.le_refl _) (.cells #[] 252))).below hb1
  refine⟨hw1.bx,hw1.rs,hw1.ck,ho1.low flatG ?_,hw1.pa,?_,hw1.bl⟩
  {
  have:=HP0.bl.size
  rw[World.size_alloc]
  omega}
  ·exact(OwnSeq.newAt (HP0.bl.size)).below hb1);have HLn:=zY hok1;have hLl:L.length<=2*s.size+1:=hok1.1;clear hb1 ho1 hok1 HP0;obtain⟨As,cs',rfl⟩:=HP1.sg.slice;go_wp2;go_loopw [7,9,10,11,12,13,14] (fun y x _ _ _ _ _ wr=>∃(i:Nat) (vc:Value) (C:List Cnk) (st:ByteArray) (vp:Value) (P:List ByteArray) (out:List Ext),i<=L.length/\x=.int .i64 (i:Int)/\PutI w wr vc C sn st (.slice As L.length cs') L vp P y out/\st.size<=st0.size+segSum (L.take i)/\out.length<=i+segSum (L.take i)/\C.length<=C0.length+segSum (L.take i)) (fun _ x _ _ _ _ _ _=>L.length-(intOf x).toNat);case atStart=>exact⟨0,_,C0,st0,_,[],[],by omega,rfl,HP1.out,by omega,by simp,by omega⟩
 case round=>
 obtain⟨i,vc,C,st,vp,P,out,hi,rfl,hp,hst,hou,hcl⟩:=hrel;have HP:=zY hp;have Hst:=zY hst;have Hou:=zY hou;have Hcl:=zY hcl;clear hp hst hou hcl;obtain⟨Ac,cc,rfl,_,_⟩:=HP.chk.slice;obtain⟨Ay,cy,rfl⟩:=HP.ou.slice;by_cases h:i<L.length;{
 have hiI:(i:Int)<L.length:=by omega
 obtain⟨x,hx⟩:∃x,L[i]?=some x:=⟨_,List.getElem?_eq_getElem h⟩;obtain⟨gs,cs2,e,_⟩:=HP.sg.addr (by omega);cases e;obtain⟨e0,e1⟩:=HP.seg hx;have HT:=zY (segSum_take L hx);have HM:=zY (SegOk.mem HLn.out (List.mem_of_getElem? hx));have Hts:Hid (segSum (L.take (i+1))<=s.size):=zY (by
  have h1:=HLn.2.1
  have h2:=segSum_app (L.take (i+1)) (L.drop (i+1))
  rw[List.take_append_drop]at h2
  omega);obtain⟨xn,xd⟩:=x;dsimp only at e0 e1 HT HM;clear hx;by_cases hd:xd.size=0;{
 obtain rfl:xd=⟨#[]⟩:=by apply ByteArray.ext;exact Array.eq_empty_of_size_eq_zero hd
 have f0:=isEmptyV0;have HA:=zY (add35_any w wr _ out HP.ou HP.bl (by have:=Hou.out;have:=HT.out;have:=Hts.out;omega) ⟨0,0,xn⟩);dsimp only at HA;go_wp2_with fail;refine HA.mono ?_;rintro e2 w2 ⟨v2,l2,rfl,ho2,hn2,_,hb2,hg2⟩;have HP2:=zY (HP.add hg2 ho2 hb2);clear ho2 hb2 hg2;go_wp2_with fail;go_roundw;case rel=>exact⟨i+1,_,C,st,_,P,l2,by omega,by go_num,HP2.out,by have:=Hst.out;have:=HT.out;omega,by have:=Hou.out;have:=HT.out;omega,by have:=Hcl.out;have:=HT.out;omega⟩
 case measure=>simp[intOf];omega};{
 have f0:xd.toList.isEmpty=false:=isEmptyV hd;have HSl:=zY (HCs.out wr xd (by have:=HT.out;have:=Hts.out;omega));go_wp2_with fail;refine HSl.mono ?_;rintro e2 w2 ⟨⟨vp2,P2,rfl,ho2,hz2,hl2,hs2⟩,hb2⟩;have HP2:=zY ((HP.below hb2).parts ((strs_own ho2).low flatS HP.bl.size));have Hz2:=zY hz2;have Hs2:=zY hs2;clear ho2 hb2 hz2 hs2 HP e0 e1;obtain⟨Ap,cp,rfl⟩:=HP2.pa.slice;go_wp2;go_loopw [7,11,12,13,14] (fun y x _ _ _ wq=>∃(k:Nat) (vc:Value) (C':List Cnk) (st':ByteArray) (out':List Ext),k<=P2.length/\x=.int .i64 (k:Int)/\PutI w wq vc C' sn st' (.slice (some ⟨gs,0,none⟩) L.length cs') L (.slice Ap P2.length cp) P2 y out'/\st'.size<=st.size+sizes (P2.take k)/\out'.length<=out.length+k/\C'.length<=C.length+k) (fun _ x _ _ _ _=>P2.length-(intOf x).toNat);case atStart=>exact⟨0,_,C,st,out,by omega,rfl,HP2.out,by omega,by omega,by omega⟩
 case round=>
 obtain⟨k,vc,C',st',out',hk,rfl,hp,hst',hou',hcl'⟩:=hrel;have HP:=zY hp;have Hst':=zY hst';have Hou':=zY hou';have Hcl':=zY hcl';clear hp hst' hou' hcl';obtain⟨Ac',cc',rfl,_,_⟩:=HP.chk.slice;obtain⟨Ay',cy',rfl⟩:=HP.ou.slice;by_cases h:k<P2.length;{
 have hkI:(k:Int)<P2.length:=by omega
 obtain⟨p,hp⟩:∃p,P2[k]?=some p:=⟨_,List.getElem?_eq_getElem h⟩;obtain⟨gp,cp2,e,_⟩:=HP.pa.addr (by omega);cases e;have p0:=HP.part hp;have Hp:=zY hp;have HT2:=zY (sizes_take P2 hp);have HTs:Hid (sizes (P2.take (k+1))<=xd.size):=zY (by
  have h1:=Hs2.out
  have h2:=sizes_app (P2.take (k+1)) (P2.drop (k+1))
  rw[List.take_append_drop]at h2
  omega);have hpz:=Hz2.out p (List.mem_of_getElem? hp);have hxz:xd.size<=s.size:=by have:=HT.out;have:=Hts.out;omega
 have HTi:Hid (k+1<=sizes (P2.take (k+1))):=zY (by
  have h1:=sizes_ge (P2.take (k+1)) (fun x hx=>(Hz2.out x (List.mem_of_mem_take hx)).1)
  rw[List.length_take]at h1
  omega);have HSu:=zY (fun(W:World) (u:Value) (h:SeqAt strS W u [p])=>HSm.out W u p (by omega) h);have HV:=zY (str1 HP.bl p);have HPa:=zY (HP.below ((Below.refl _ wr).alloc (Nat.le_refl _) (.cells #[.string p] 9)));clear hp;go_wp2_with fail;refine(HSu.out _ _ HV.out).mono ?_;rintro e3 w3 ⟨rfl,hb3⟩;generalize strB (digL (bs p))=d at *;have HP3:=zY (HPa.below hb3);clear hb3 p0 HPa HV HSu;have c0:=HP3.bx.c 0;have c1:=HP3.bx.c 1;have c2:=HP3.bx.c 2;have HF:=zY (find_any w3 _ C' HP3.chk sn st' d);go_wp2_with fail;refine HF.mono ?_;rintro e4 w4 ⟨⟨⟨xs,xo,xl⟩,b,rfl⟩,hb4⟩;dsimp only;have HP4:=zY (HP3.below hb4);clear hb4 c0 c1 c2 HF;have hX:=Blk.new w4 252 [.int .i64 xs,.int .i64 xo,.int .i64 xl];change Blk (w4.alloc (.cells #[.int .i64 xs,.int .i64 xo,.int .i64 xl] 252)) _ _ _ at hX;have HX:=zY hX;have HB5:=zY (zBl w4 (.cells #[.int .i64 xs,.int .i64 xo,.int .i64 xl] 252));have HP5:=zY (HP4.below HB5.out);have HXn:Hid (w.heap.size<w4.heap.size):=zY HP4.bx.lt;clear hX;go_upto_region 18 with fail;generalize w4.alloc (.cells #[.int .i64 xs,.int .i64 xo,.int .i64 xl] 252)=w5 at *;cases b with
 |true=>(
 have k0:=HX.c 0;have k1:=HX.c 1;have k2:=HX.c 2;have HA:=zY (add35_any w w5 _ out' HP5.ou HP5.bl (by have:=Hou'.out;have:=Hou.out;have:=HT2.out;have:=HTs.out;have:=HTi.out;have:=HT.out;have:=Hts.out;omega) ⟨xs,xo,xl⟩);dsimp only at HA;go_wp2_with fail;refine HA.mono ?_;rintro e9 w9 ⟨v9,l9,rfl,ho9,hn9,_,hb9,hg9⟩;have HP9:=zY (HP5.add hg9 ho9 hb9);clear ho9 hb9 hg9;go_wp2_with fail;go_roundw;case rel=>exact⟨k+1,_,C',st',l9,by omega,by go_num,HP9.out,by have:=Hst'.out;have:=HT2.out;omega,by have:=Hou'.out;omega,by have:=Hcl'.out;omega⟩
 case measure=>simp[intOf];omega)
 |false=>
 have c1:=HP5.bx.c 1;have c2:=HP5.bx.c 2;have p5:=HP5.part Hp.out;have k0:=HX.c 0;have k1:=HX.c 1;have k2:=HX.c 2;have f0:=HX.frozen 0;have f1:=HX.frozen 1;have f2:=HX.frozen 2;have hstz:st'.size<=1000200000:=by have:=Hst'.out;have:=Hst.out;have:=HSt.out;have:=HT2.out;have:=HTs.out;have:=Hts.out;have:=HT.out;omega
 have hsw:IntKind.i64.wrap (st'.size:Int)=st'.size:=zIw (by omega);have hpw:IntKind.i64.wrap (p.size:Int)=p.size:=zIw (by omega);go_upto_region 19 with fail;go_still_tail 11,(by kernel_rfl);go_upto_region 20 with fail;have HB6:=zY ((((HB5.setCell (p:=⟨w4.heap.size,0,none⟩) (Nat.le_refl _) (.int .i64 sn)).setCell (p:=⟨w4.heap.size,1,none⟩) (Nat.le_refl _) (.int .i64 (st'.size:Int))).setCell (p:=⟨w4.heap.size,2,none⟩) (Nat.le_refl _) (.int .i64 (p.size:Int))).drew);have HX6:=zY ((((HX.set 0 (.int .i64 sn)).set 1 (.int .i64 (st'.size:Int))).set 2 (.int .i64 (p.size:Int))).drewW);generalize (((w5.setCell ⟨w4.heap.size,0,none⟩ (.int .i64 sn)).setCell ⟨w4.heap.size,1,none⟩ (.int .i64 (st'.size:Int))).setCell ⟨w4.heap.size,2,none⟩ (.int .i64 (p.size:Int))).drew=w6 at *;have HP6:=zY (HP4.below HB6.out);clear c1 c2 p5 k0 k1 k2 f0 f1 f2 HB6 HX HP5 HB5;have c2:=HP6.bx.c 2;have z2:=HP6.bx.frozen 2;have p6:=HP6.part Hp.out;have hcc:¬9223372036854775807<st'.size+p.size:=by omega
 go_upto_region 20 with fail;go_still_tail 8,(by kernel_rfl);go_upto_region 21 with fail;have HPz:=zY ((HP6.setS (st'++p)).below (Below.refl _ _).drew);have HX7:=zY ((HX6.far (p:=⟨w.heap.size,2,none⟩) (by show w4.heap.size≠w.heap.size;have:=HXn.out;omega) (.string (st'++p))).drewW);generalize (w6.setCell ⟨w.heap.size,2,none⟩ (.string (st'++p))).drew=wz at *;clear c2 z2 p6 HP6 HX6;have HCk:=zY HPz.chk;have HL0:=zY (HPz.bx.c 0);have HKS:Hid (∀W,Below wz.heap.size wz W->W.cell? ⟨w4.heap.size,0,none⟩=some (.int .i64 sn)/\W.cell? ⟨w4.heap.size,1,none⟩=some (.int .i64 (st'.size:Int))/\W.cell? ⟨w4.heap.size,2,none⟩=some (.int .i64 (p.size:Int))):=zY (fun W h=>⟨cell_below h (HX7.c 0),cell_below h (HX7.c 1),cell_below h (HX7.c 2)⟩);have HKT:Hid (∀(W:World) (u:Value),Below wz.heap.size wz W->(W.setCell ⟨w.heap.size,0,none⟩ u).cell? ⟨w4.heap.size,0,none⟩=some (.int .i64 sn)/\(W.setCell ⟨w.heap.size,0,none⟩ u).cell? ⟨w4.heap.size,1,none⟩=some (.int .i64 (st'.size:Int))/\(W.setCell ⟨w.heap.size,0,none⟩ u).cell? ⟨w4.heap.size,2,none⟩=some (.int .i64 (p.size:Int))):=zY (fun W u h=>by
  have hx:=(HX7.kept h).far (p:=⟨w.heap.size,0,none⟩) (by show w4.heap.size≠w.heap.size;have:=HXn.out;omega) u
  exact⟨hx.c 0,hx.c 1,hx.c 2⟩);have HBc:=zY ((Below.refl wz.heap.size wz).drew);have HS:=zY (HKS.out _ HBc.out);have HCb:Hid (C'.length<=60000000):=zY (by have:=Hcl'.out;have:=Hcl.out;have:=HC.out;have:=HT2.out;have:=HTs.out;have:=HTi.out;have:=HT.out;have:=Hts.out;omega);have HL3:Hid (([]:List Cnk).length+C'.length<=100000000):=zY (by have:=HCb.out;simp;omega);have HL8:Hid (([]++C').length+1<=100000000):=zY (by have:=HCb.out;simp;omega);clear hsw hpw hcc;refine wp_region_held_drew (S:=(fun W=>W.cell? ⟨w4.heap.size,0,none⟩=some (.int .i64 sn)/\W.cell? ⟨w4.heap.size,1,none⟩=some (.int .i64 (st'.size:Int))/\W.cell? ⟨w4.heap.size,2,none⟩=some (.int .i64 (p.size:Int)))) (by kernel_rfl) ?_ (fun hHeld=>?_);{exact HS.out};refine tk 1 ?_;refine tk 4 ?_;refine tk 5 ?_;refine tk 6 ?_;refine zEs [0,2,7] (zEc (fun K hK=>?_) (zEc (fun K hK=>?_) (zEc (fun K hK=>?_) AllReadyH.nil)));focus(
 go_simp;have HN:=zY (OwnSeq.newAt (ρ:=chkS) (t:=298) HBc.size);first|simp only[World.size_alloc]at HN|skip
 first|(have HX:=zY (HX.alloc (.cells #[] 298)))|skip
 have HBc:=zY (HBc.alloc HBc.size (.cells #[] 298));have HS:=zY (HKS.out _ HBc.out);refine hko hK (by exact HS.out) (fun _=>?_);clear hK K;refine zEs [2,7] (zEc (fun K hK=>?_) (zEc (fun K hK=>?_) AllReadyH.nil));focus(
 have q00:=cell_below HBc.out HL0.out;have q0:(wz.alloc (.cells #[] 298)).cell? ⟨w.heap.size,0,none⟩=some (.slice Ac' C'.length cc'):=q00;clear q00;go_simp;clear q0;refine hko hK (by exact HS.out) (fun _=>?_);clear hK K;refine zEs [3,7] (zEc (fun K hK=>?_) (zEc (fun K hK=>?_) AllReadyH.nil));refine wp_append_seq (ρ:=chkS) (w0:=wz) (v:=(.slice (some ⟨_,0,none⟩) 0 0)) Tryz.elemChk (.tmp 96) (.tmp 98) rfl rfl HN.out rfl (SrcAt.of HCk.out HBc.out) HL3.out HBc.out ?_;intro vx1 wx1 hob hgb hbb;first|(have HX:=zY (HX.grownB hgb (by simp[Value.ownBlock])))|skip
 have HN:=zY hob;have HBc:=zY hbb;clear hob hgb hbb;have HS:=zY (HKS.out _ HBc.out);refine hko hK (by exact HS.out) (fun _=>?_);clear hK K;refine zE1 7 fun K hK=>?_;go_simp;have HX:=zY (src1B (ρ:=chkS) (w0:=wz) (t:=298) HBc.out [.string d,.int .i64 sn,.int .i64 (st'.size:Int),.int .i64 (p.size:Int)] ⟨d,⟨sn,st'.size,p.size⟩⟩ rfl);first|simp only[World.size_alloc]at HX|skip
 first|(have HN:=zY (HN.alloc (.cells #[.string d,.int .i64 sn,.int .i64 (st'.size:Int),.int .i64 (p.size:Int)] 298)))|skip
 have HBc:=zY (HBc.alloc HBc.size (.cells #[.string d,.int .i64 sn,.int .i64 (st'.size:Int),.int .i64 (p.size:Int)] 298));rotate_left;go_simp;have HX:=zY (src1B (ρ:=chkS) (w0:=wz) (t:=298) HBc.out [.string d,.int .i64 sn,.int .i64 (st'.size:Int),.int .i64 (p.size:Int)] ⟨d,⟨sn,st'.size,p.size⟩⟩ rfl);first|simp only[World.size_alloc]at HX|skip
 first|(have HN:=zY (HN.alloc (.cells #[.string d,.int .i64 sn,.int .i64 (st'.size:Int),.int .i64 (p.size:Int)] 298)))|skip
 have HBc:=zY (HBc.alloc HBc.size (.cells #[.string d,.int .i64 sn,.int .i64 (st'.size:Int),.int .i64 (p.size:Int)] 298));have HS:=zY (HKS.out _ HBc.out);refine hko hK (by exact HS.out) (fun _=>?_);clear hK K;refine zE1 3 fun K hK=>?_;refine wp_append_seq (ρ:=chkS) (w0:=wz) (v:=(.slice (some ⟨_,0,none⟩) 0 0)) Tryz.elemChk (.tmp 96) (.tmp 98) rfl rfl HN.out rfl (SrcAt.of HCk.out HBc.out) HL3.out HBc.out ?_;intro vx1 wx1 hob hgb hbb;first|(have HX:=zY (HX.grownB hgb (by simp[Value.ownBlock])))|skip
 have HN:=zY hob;have HBc:=zY hbb;clear hob hgb hbb;rotate_left)
 rotate_left 2;go_simp;have HX:=zY (src1B (ρ:=chkS) (w0:=wz) (t:=298) HBc.out [.string d,.int .i64 sn,.int .i64 (st'.size:Int),.int .i64 (p.size:Int)] ⟨d,⟨sn,st'.size,p.size⟩⟩ rfl);first|simp only[World.size_alloc]at HX|skip
 first|(have HN:=zY (HN.alloc (.cells #[.string d,.int .i64 sn,.int .i64 (st'.size:Int),.int .i64 (p.size:Int)] 298)))|skip
 have HBc:=zY (HBc.alloc HBc.size (.cells #[.string d,.int .i64 sn,.int .i64 (st'.size:Int),.int .i64 (p.size:Int)] 298));have HS:=zY (HKS.out _ HBc.out);refine hko hK (by exact HS.out) (fun _=>?_);clear hK K;refine zE1 2 fun K hK=>?_;have q00:=cell_below HBc.out HL0.out;have q0:((wz.alloc (.cells #[] 298)).alloc (.cells #[.string d,.int .i64 sn,.int .i64 (st'.size:Int),.int .i64 (p.size:Int)] 298)).cell? ⟨w.heap.size,0,none⟩=some (.slice Ac' C'.length cc'):=q00;clear q00;go_simp;clear q0;refine hko hK (by exact HS.out) (fun _=>?_);clear hK K;refine zE1 3 fun K hK=>?_;refine wp_append_seq (ρ:=chkS) (w0:=wz) (v:=(.slice (some ⟨_,0,none⟩) 0 0)) Tryz.elemChk (.tmp 96) (.tmp 98) rfl rfl HN.out rfl (SrcAt.of HCk.out HBc.out) HL3.out HBc.out ?_;intro vx1 wx1 hob hgb hbb;first|(have HX:=zY (HX.grownB hgb (by simp[Value.ownBlock])))|skip
 have HN:=zY hob;have HBc:=zY hbb;clear hob hgb hbb;rotate_left)
 rotate_left 3;focus(
 have q00:=cell_below HBc.out HL0.out;have q0:wz.cell? ⟨w.heap.size,0,none⟩=some (.slice Ac' C'.length cc'):=q00;clear q00;go_simp;clear q0;refine hko hK (by exact HS.out) (fun _=>?_);clear hK K;refine zEs [0,7] (zEc (fun K hK=>?_) (zEc (fun K hK=>?_) AllReadyH.nil));focus(
 go_simp;have HN:=zY (OwnSeq.newAt (ρ:=chkS) (t:=298) HBc.size);first|simp only[World.size_alloc]at HN|skip
 first|(have HX:=zY (HX.alloc (.cells #[] 298)))|skip
 have HBc:=zY (HBc.alloc HBc.size (.cells #[] 298));have HS:=zY (HKS.out _ HBc.out);refine hko hK (by exact HS.out) (fun _=>?_);clear hK K;refine zEs [3,7] (zEc (fun K hK=>?_) (zEc (fun K hK=>?_) AllReadyH.nil));refine wp_append_seq (ρ:=chkS) (w0:=wz) (v:=(.slice (some ⟨_,0,none⟩) 0 0)) Tryz.elemChk (.tmp 96) (.tmp 98) rfl rfl HN.out rfl (SrcAt.of HCk.out HBc.out) HL3.out HBc.out ?_;intro vx1 wx1 hob hgb hbb;first|(have HX:=zY (HX.grownB hgb (by simp[Value.ownBlock])))|skip
 have HN:=zY hob;have HBc:=zY hbb;clear hob hgb hbb;have HS:=zY (HKS.out _ HBc.out);refine hko hK (by exact HS.out) (fun _=>?_);clear hK K;refine zE1 7 fun K hK=>?_;go_simp;have HX:=zY (src1B (ρ:=chkS) (w0:=wz) (t:=298) HBc.out [.string d,.int .i64 sn,.int .i64 (st'.size:Int),.int .i64 (p.size:Int)] ⟨d,⟨sn,st'.size,p.size⟩⟩ rfl);first|simp only[World.size_alloc]at HX|skip
 first|(have HN:=zY (HN.alloc (.cells #[.string d,.int .i64 sn,.int .i64 (st'.size:Int),.int .i64 (p.size:Int)] 298)))|skip
 have HBc:=zY (HBc.alloc HBc.size (.cells #[.string d,.int .i64 sn,.int .i64 (st'.size:Int),.int .i64 (p.size:Int)] 298));rotate_left;go_simp;have HX:=zY (src1B (ρ:=chkS) (w0:=wz) (t:=298) HBc.out [.string d,.int .i64 sn,.int .i64 (st'.size:Int),.int .i64 (p.size:Int)] ⟨d,⟨sn,st'.size,p.size⟩⟩ rfl);first|simp only[World.size_alloc]at HX|skip
 first|(have HN:=zY (HN.alloc (.cells #[.string d,.int .i64 sn,.int .i64 (st'.size:Int),.int .i64 (p.size:Int)] 298)))|skip
 have HBc:=zY (HBc.alloc HBc.size (.cells #[.string d,.int .i64 sn,.int .i64 (st'.size:Int),.int .i64 (p.size:Int)] 298));have HS:=zY (HKS.out _ HBc.out);refine hko hK (by exact HS.out) (fun _=>?_);clear hK K;refine zE1 3 fun K hK=>?_;refine wp_append_seq (ρ:=chkS) (w0:=wz) (v:=(.slice (some ⟨_,0,none⟩) 0 0)) Tryz.elemChk (.tmp 96) (.tmp 98) rfl rfl HN.out rfl (SrcAt.of HCk.out HBc.out) HL3.out HBc.out ?_;intro vx1 wx1 hob hgb hbb;first|(have HX:=zY (HX.grownB hgb (by simp[Value.ownBlock])))|skip
 have HN:=zY hob;have HBc:=zY hbb;clear hob hgb hbb;rotate_left)
 rotate_left 2;go_simp;have HX:=zY (src1B (ρ:=chkS) (w0:=wz) (t:=298) HBc.out [.string d,.int .i64 sn,.int .i64 (st'.size:Int),.int .i64 (p.size:Int)] ⟨d,⟨sn,st'.size,p.size⟩⟩ rfl);first|simp only[World.size_alloc]at HX|skip
 first|(have HN:=zY (HN.alloc (.cells #[.string d,.int .i64 sn,.int .i64 (st'.size:Int),.int .i64 (p.size:Int)] 298)))|skip
 have HBc:=zY (HBc.alloc HBc.size (.cells #[.string d,.int .i64 sn,.int .i64 (st'.size:Int),.int .i64 (p.size:Int)] 298));have HS:=zY (HKS.out _ HBc.out);refine hko hK (by exact HS.out) (fun _=>?_);clear hK K;refine zE1 0 fun K hK=>?_;go_simp;have HN:=zY (OwnSeq.newAt (ρ:=chkS) (t:=298) HBc.size);first|simp only[World.size_alloc]at HN|skip
 first|(have HX:=zY (HX.alloc (.cells #[] 298)))|skip
 have HBc:=zY (HBc.alloc HBc.size (.cells #[] 298));have HS:=zY (HKS.out _ HBc.out);refine hko hK (by exact HS.out) (fun _=>?_);clear hK K;refine zE1 3 fun K hK=>?_;refine wp_append_seq (ρ:=chkS) (w0:=wz) (v:=(.slice (some ⟨_,0,none⟩) 0 0)) Tryz.elemChk (.tmp 96) (.tmp 98) rfl rfl HN.out rfl (SrcAt.of HCk.out HBc.out) HL3.out HBc.out ?_;intro vx1 wx1 hob hgb hbb;first|(have HX:=zY (HX.grownB hgb (by simp[Value.ownBlock])))|skip
 have HN:=zY hob;have HBc:=zY hbb;clear hob hgb hbb;rotate_left)
 rotate_left 3;focus(
 go_simp;have HX:=zY (src1B (ρ:=chkS) (w0:=wz) (t:=298) HBc.out [.string d,.int .i64 sn,.int .i64 (st'.size:Int),.int .i64 (p.size:Int)] ⟨d,⟨sn,st'.size,p.size⟩⟩ rfl);first|simp only[World.size_alloc]at HX|skip
 first|(have HN:=zY (HN.alloc (.cells #[.string d,.int .i64 sn,.int .i64 (st'.size:Int),.int .i64 (p.size:Int)] 298)))|skip
 have HBc:=zY (HBc.alloc HBc.size (.cells #[.string d,.int .i64 sn,.int .i64 (st'.size:Int),.int .i64 (p.size:Int)] 298));have HS:=zY (HKS.out _ HBc.out);refine hko hK (by exact HS.out) (fun _=>?_);clear hK K;refine zEs [0,2] (zEc (fun K hK=>?_) (zEc (fun K hK=>?_) AllReadyH.nil));go_simp;have HN:=zY (OwnSeq.newAt (ρ:=chkS) (t:=298) HBc.size);first|simp only[World.size_alloc]at HN|skip
 first|(have HX:=zY (HX.alloc (.cells #[] 298)))|skip
 have HBc:=zY (HBc.alloc HBc.size (.cells #[] 298));have HS:=zY (HKS.out _ HBc.out);refine hko hK (by exact HS.out) (fun _=>?_);clear hK K;refine zE1 2 fun K hK=>?_;have q00:=cell_below HBc.out HL0.out;have q0:((wz.alloc (.cells #[.string d,.int .i64 sn,.int .i64 (st'.size:Int),.int .i64 (p.size:Int)] 298)).alloc (.cells #[] 298)).cell? ⟨w.heap.size,0,none⟩=some (.slice Ac' C'.length cc'):=q00;clear q00;go_simp;clear q0;rotate_left;have q00:=cell_below HBc.out HL0.out;have q0:(wz.alloc (.cells #[.string d,.int .i64 sn,.int .i64 (st'.size:Int),.int .i64 (p.size:Int)] 298)).cell? ⟨w.heap.size,0,none⟩=some (.slice Ac' C'.length cc'):=q00;clear q00;go_simp;clear q0;refine hko hK (by exact HS.out) (fun _=>?_);clear hK K;refine zE1 0 fun K hK=>?_;go_simp;have HN:=zY (OwnSeq.newAt (ρ:=chkS) (t:=298) HBc.size);first|simp only[World.size_alloc]at HN|skip
 first|(have HX:=zY (HX.alloc (.cells #[] 298)))|skip
 have HBc:=zY (HBc.alloc HBc.size (.cells #[] 298));have HS:=zY (HKS.out _ HBc.out);rotate_left;all_goals
 refine hko hK (by exact HS.out) (fun _=>?_);clear hK K;refine zE1 3 fun K hK=>?_;refine wp_append_seq (ρ:=chkS) (w0:=wz) (v:=(.slice (some ⟨_,0,none⟩) 0 0)) Tryz.elemChk (.tmp 96) (.tmp 98) rfl rfl HN.out rfl (SrcAt.of HCk.out HBc.out) HL3.out HBc.out ?_;intro vx1 wx1 hob hgb hbb;first|(have HX:=zY (HX.grownB hgb (by simp[Value.ownBlock])))|skip
 have HN:=zY hob;have HBc:=zY hbb;clear hob hgb hbb)
 rotate_left 2;all_goals
 have HS:=zY (HKS.out _ HBc.out);refine hko hK (by exact HS.out) (fun _=>?_);clear hK K;refine zE1 8 fun K hK=>?_;refine wp_append_seq (ρ:=chkS) (w0:=wz) (v:=vx1) Tryz.elemChk (.tmp 99) (.tmp 103) rfl rfl HN.out rfl HX.out HL8.out HBc.out ?_;intro vx2 wx2 hob hgb hbb;have HN:=zY hob;have HBc:=zY hbb;clear hob hgb hbb;have HS:=zY (HKS.out _ HBc.out);refine hko hK (by exact HS.out) (fun _=>?_);clear hK K;refine tk 9 ?_;refine zE1 10 fun K hK=>?_;obtain⟨Cn,hCn⟩:=zNm ([]++C'++[(⟨d,⟨sn,st'.size,p.size⟩⟩:Cnk)]);have HLn2:Hid (Cn.length=C'.length+1):=zY (by rw[<-hCn];simp);rw[hCn]at HN;clear hCn;obtain⟨An,cn,rfl⟩:=HN.slice;have HPn:=zY ((HPz.below HBc.out).setC (HN.low flatC HPz.bl.size));have HPc:=zY ((HPz.below HBc.out).bx);have qc:=HPc.c 0;have qz:=HPc.frozen 0;go_simp;have HS:=zY (HKT.out _ (.slice An Cn.length cn) HBc.out);clear qc qz HPc;refine hko hK (by exact HS.out) (fun _=>?_);clear hK K;refine wpAnyH_done (by kernel_rfl) ?_ _;obtain⟨k0,k1,k2⟩:=HS.out;have HA:=zY (add35_any w _ _ out' HPn.ou HPn.bl (by have:=Hou'.out;have:=Hou.out;have:=HT2.out;have:=HTs.out;have:=HTi.out;have:=HT.out;have:=Hts.out;omega) ⟨sn,st'.size,p.size⟩);dsimp only at HA;go_wp2_with fail;refine HA.mono ?_;rintro e9 w9 ⟨v9,l9,rfl,ho9,hn9,_,hb9,hg9⟩;have HP9:=zY (HPn.add hg9 ho9 hb9);clear ho9 hb9 hg9;go_wp2_with fail;go_roundw;case rel=>exact⟨k+1,_,Cn,(st'++p),l9,by omega,by go_num,HP9.out,by have:=Hst'.out;have:=HT2.out;rw[ByteArray.size_append];omega,by have:=Hou'.out;omega,by have:=Hcl'.out;have:=HLn2.out;omega⟩
 case measure=>simp[intOf];omega};{
 obtain rfl:k=P2.length:=by omega
 have hkI:¬((P2.length:Nat):Int)<(P2.length:Int):=by omega
 have HTl:Hid (sizes (P2.take P2.length)=sizes P2):=zY (by rw[List.take_length]);have Hl2:=zY hl2;clear hl2;go_wp2;go_roundw;case rel=>exact⟨i+1,_,C',st',_,P2,out',by omega,by go_num,HP.out,by have:=Hst'.out;have:=Hst.out;have:=HTl.out;have:=Hs2.out;have:=HT.out;omega,by have:=Hou'.out;have:=Hou.out;have:=Hl2.out;have:=HT.out;omega,by have:=Hcl'.out;have:=Hcl.out;have:=Hl2.out;have:=HT.out;omega⟩
 case measure=>simp[intOf];omega}}};{
 obtain rfl:i=L.length:=by omega
 have hiI:¬((L.length:Nat):Int)<(L.length:Int):=by omega
 have HTl:Hid (segSum (L.take L.length)=segSum L):=zY (by rw[List.take_length]);have c0:=HP.bx.c 0;have c1:=HP.bx.c 1;have c2:=HP.bx.c 2;have z0:=HP.rs.c 0;have z1:=HP.rs.c 1;have z2:=HP.rs.c 2;have y0:=HP.rs.frozen 0;have y1:=HP.rs.frozen 1;have y2:=HP.rs.frozen 2;have HW:=zY (HP.res (.slice Ac C.length cc) (.int .i64 sn) (.string st));have Hll:=zY hLl;clear hLl;go_wp2_with fail;refine bodyPost_ret (results_row_tmp2 rfl _ _ (w.heap.size+1) 160 _ (0,0) _ rfl HW.1 underlying160 rfl (by kernel_rfl)) rfl ?_;have hh:=HLn.2.1;exact⟨⟨_,_,C,st,out,0,rfl,HW.2.1,HW.2.2.1,by have:=Hcl.out;have:=HTl.out;omega,by have:=Hst.out;have:=HTl.out;omega,by have:=Hou.out;have:=HTl.out;have:=Hll.out;omega⟩,HW.2.2.2⟩}}}}
end
end Go.Proofs.YthgenkkkapilhaaGreatDoor