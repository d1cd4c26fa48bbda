/-
  Joined: VpE VpF VrA OpnV LvfB LvfD.
-/
import Derived.Test.YthgenkkkapilhaaGreatDoorVFk08
import Derived.Test.YthgenkkkapilhaaGreatDoorVFk10
import Derived.Sort.CutIn
import Derived.HandedShaped
import Derived.Test.YthgenkkkapilhaaGreatDoorCards
set_option linter.all false
set_option maxRecDepth 100000
set_option maxHeartbeats 64000000
namespace Go.Proofs.YthgenkkkapilhaaGreatDoor
section
open Go.RowKit
theorem flat_set {n:Nat}:∀{css:List (List Value)} {i:Nat} {cs:List Value},(∀c∈css,c.length=n)->css[i]?=some cs->∀j,j<n->∀u,css.flatten.set (i*n+j) u=(css.set i (cs.set j u)).flatten
 |[],_,_,_,h,_,_,_=>by simp at h
 |c::r,0,cs,hl,h,j,hj,u=>by
  obtain rfl:c=cs:=by simpa using h
  rw[List.flatten_cons,Nat.zero_mul,Nat.zero_add,List.set_append,if_pos (by rw[hl c List.mem_cons_self];omega)]
  rfl
 |c::r,i+1,cs,hl,h,j,hj,u=>by
  have hc:=hl c List.mem_cons_self
  rw[List.flatten_cons,List.set_append,if_neg (by rw[hc,Nat.add_mul];omega),show (i+1)*n+j-c.length=i*n+j by rw[hc,Nat.add_mul];omega]
  rw[flat_set (fun x hx=>hl x (List.mem_cons_of_mem _ hx)) (by simpa using h) j hj u]
  rfl
theorem Both.set {β γ:Type} {r:β->γ->Prop} {l:List β} {m:List γ} (h:Both r l m) {i:Nat} {x:β} {y:γ} (hr:r x y):Both r (l.set i x) (m.set i y):=by
 induction h generalizing i with
 |nil=>exact .nil
 | @cons a b l m h1 _ ih=>
  cases i with
  |zero=>exact .cons hr ‹_›
  |succ i=>exact .cons h1 ih
section
variable {α:Type} {ρ:Shape α} {w0 w w' W:World} {v:Value} {xs:List α}
theorem OwnSeq.setc {t:TypeId} {g c n:Nat} (h:OwnSeq ρ t w0 W (.slice (some ⟨g,0,none⟩) n c) xs) {i j:Nat} {x y:α} (hx:xs[i]?=some x) (hj:j<ρ.n) (u:Value) (hy:∀cs,ρ.R w0 cs x->ρ.R w0 (cs.set j u) y):OwnSeq ρ t w0 (W.setCell ⟨g,i*ρ.n+j,none⟩ u) (.slice (some ⟨g,0,none⟩) n c) (xs.set i y):=by
 obtain⟨css,h,hB⟩:=h
 obtain⟨cs,hcs,hr⟩:=hB.at hx
 refine⟨css.set i (cs.set j u),?_,hB.set (hy cs hr)⟩
 obtain⟨hl,h⟩:=h
 have hi:i<xs.length:=(List.getElem?_eq_some_iff.1 hx).1
 have hm:(i+1)*ρ.n<=xs.length*ρ.n:=Nat.mul_le_mul (by omega) (Nat.le_refl _)
 rw[Nat.add_mul,Nat.one_mul]at hm
 rw[<-flat_set hB.lens hcs j hj u,List.length_set]
 refine⟨by rw[List.length_set];exact hl,?_⟩
 rcases h with⟨e,h0⟩|⟨g',cap,cur,e,hb,hg,h1,h2,h3,h4⟩
 ·cases e
 {
 cases e
 refine .inr ⟨g,c,cur.setIfInBounds (i*ρ.n+j) u,rfl,hb,?_,h1,h2,by simpa using h3,?_⟩
 ·simp[World.setCell,Array.getElem?_modify,hg]
 ·rw[Array.toList_setIfInBounds,List.take_set,h4]}
def Flat (ρ:Shape α):Prop:=∀(w w':World) (cs:List Value) (x:α),ρ.R w cs x->ρ.R w' cs x
end
end
section
open Go.RowKit
theorem flatX:Flat extS:=fun _ _ _ _ h=>h
theorem flatC:Flat chkS:=fun _ _ _ _ h=>h
theorem flatG:Flat segS:=fun _ _ _ _ h=>h
theorem flatS:Flat strS:=fun _ _ _ _ h=>h
theorem flatH:Flat holS:=fun _ _ _ _ h=>h
section
variable {α:Type} {ρ:Shape α} {w0 w1 w w' W:World} {v:Value} {xs:List α}
theorem OwnSeq.low {t:TypeId} (h:OwnSeq ρ t w1 W v xs) (hF:Flat ρ) (hs:w0.heap.size<=w1.heap.size):OwnSeq ρ t w0 W v xs:=by
 obtain⟨css,ho,hb⟩:=h
 exact⟨css,⟨ho.1,ho.2.imp id fun⟨g,cap,cur,e,hB,r⟩=>⟨g,cap,cur,e,by omega,r⟩⟩,hb.mono fun _ _ h=>hF _ _ _ _ h⟩
theorem OwnSeq.fro {t:TypeId} {g n c:Nat} (h:OwnSeq ρ t w0 W (.slice (some ⟨g,0,none⟩) n c) xs) (i:Nat):W.frozen? ⟨g,i,none⟩=false:=by
 obtain⟨css,ho,_⟩:=h
 rcases ho.2 with⟨e,_⟩|⟨g',cap,cur,e,hB,hg,_⟩
 ·cases e
 {
 cases e
 simp[World.frozen?,hg]}
theorem OwnSeq.addr {t:TypeId} (h:OwnSeq ρ t w0 W v xs) (h0:0<xs.length):∃g c,v=.slice (some ⟨g,0,none⟩) xs.length c/\w0.heap.size<=g:=by
 obtain⟨css,ho,_⟩:=h
 exact ownV_at ho h0
theorem OwnSeq.lt {t:TypeId} (h:OwnSeq ρ t w0 W v xs) {g:Nat} (hg:v.ownBlock=some g):g<W.heap.size:=by
 obtain⟨css,ho,_⟩:=h
 exact(ho.lt g hg).2
end
theorem append_seqO {α:Type} {ρ:Shape α} {w0 w:World} {v:Value} {xs us:List α} {P:Program} {ops:Array Oper} {rest:List Oper} {o:Oper} {a:Act} {Q:Exit->Act->World->Prop} {TS T:TypeId} {b:Nat} {z:Value} (E:Elem P TS T ρ.n b z) (hgd:o.guard=none) (s x:Operand) (ho:o.op=.call { callee:=.builtin .append,args:= #[s,x],argTypes:= #[TS,TS] })
  (hs:a.eval s=v) (hown:OwnSeq ρ T w0 w v xs) {vx:Value} (hx:a.eval x=vx) (hv:SrcAt ρ w0 w vx us) (hn:xs.length+us.length<=100000000) (hB:Below w0.heap.size w0 w)
  (h:∀v' w',OwnSeq ρ T w0 w' v' (xs++us)->w.grownBy w' v.ownBlock->(v'.ownBlock=v.ownBlock∨v'.ownBlock=some w.heap.size)->Below w0.heap.size w0 w'->wpList P ops Q rest (a.put o.dst v') w'):wpList P ops Q (o::rest) a w:=by
 obtain⟨v',w',hr,g1,g2,g4,g3⟩:=run_appendS E o.type hown hv hn hB
 refine wpList_plain hgd fun K hK=>?_
 unfold Oper.wp execOp
 simp only[ho,resolve,invoke,builtin,Sem.run_bind,Sem.run_pure,Result.andThen_ok,List.map_toArray,List.map_cons,List.map_nil,hs,hx,hr]
 exact hK _ _ (h v' w' g1 g2 g4 g3)
def Grow {α:Type} (ρ:Shape α) (t:TypeId) (w0 w:World) (v:Value) (m:Nat) (e:Ending) (w':World):Prop:=
 ∃v' l',e=.returned v'/\OwnSeq ρ t w0 w' v' l'/\l'.length<=m/\(v'.ownBlock=v.ownBlock∨∃k,v'.ownBlock=some k/\w.heap.size<=k)/\Below w0.heap.size w0 w'/\w.grownBy w' v.ownBlock
theorem grownBy_below {w w':World} {r:Option Nat} (h:Below w.heap.size w w'):w.grownBy w' r:=⟨h.os,h.tape,h.output,h.size,fun k hk _=>h.block k hk⟩
theorem grownBy_trans {a b c:World} {r:Option Nat} (h:a.grownBy b r) (k:b.grownBy c r):a.grownBy c r:=
 ⟨k.os.trans h.os,k.tape.trans h.tape,k.output.trans h.output,Nat.le_trans h.size k.size,fun i hi hn=>(k.block i (Nat.lt_of_lt_of_le hi h.size) hn).trans (h.block i hi hn)⟩
theorem add35_any (w0 w:World) (v:Value) (l:List Ext) (ho:OwnSeq extS 252 w0 w v l) (hb0:Below w0.heap.size w0 w) (hl:l.length<=900000) (x:Ext):
  Calls Tryz.prog 219 #[v,.agg #[.int .i64 x.s,.int .i64 x.o,.int .i64 x.l]] w fun e w'=>Grow extS 252 w0 w v (l.length+1) e w':=by
 obtain⟨xs,xo,xl⟩:=x
 dsimp only
 have hK:=Blk.new w 252 [.int .i64 xs,.int .i64 xo,.int .i64 xl]
 change Blk (w.alloc (.cells #[.int .i64 xs,.int .i64 xo,.int .i64 xl] 252)) _ _ _ at hK
 have HK:=zY hK
 have HG:=zY (grownBy_below (r:=v.ownBlock) (zBl w (.cells #[.int .i64 xs,.int .i64 xo,.int .i64 xl] 252)))
 have HBO:=zY hb0
 have HBW:=zY (zBl w (.cells #[.int .i64 xs,.int .i64 xo,.int .i64 xl] 252))
 have HB:=zY (hb0.alloc hb0.size (.cells #[.int .i64 xs,.int .i64 xo,.int .i64 xl] 252))
 have Ho:=zY (ho.alloc (.cells #[.int .i64 xs,.int .i64 xo,.int .i64 xl] 252))
 have hsz:(w.alloc (.cells #[.int .i64 xs,.int .i64 xo,.int .i64 xl] 252)).heap.size=w.heap.size+1:=World.size_alloc _ _
 have HSz:=zY hsz
 have Hl1:Hid (l.length+1<=100000000):=zY (by omega)
 obtain⟨Av,cv,rfl⟩:=ho.slice
 clear hK hb0 ho hsz
 go_enter Tryz.func219,Tryz.ntmps219
 go_upto_region 2 with fail
 generalize w.alloc (.cells #[.int .i64 xs,.int .i64 xo,.int .i64 xl] 252)=wa at *
 have c0:=HK.out.c 0
 have c1:=HK.out.c 1
 have c2:=HK.out.c 2
 have HQ:=zY (fun n=>Ho.out.below (zBd (Below.refl _ wa) n))
 have HQB:=zY (fun n=>zBd HB.out n)
 have HQG:=zY (fun n=>grownBy_trans HG.out (grownBy_below (r:=Value.ownBlock (.slice Av l.length cv)) (zBd (Below.refl wa.heap.size wa) n)))
 have HWs:Hid (∀k,k=wa.heap.size->w.heap.size<=k):=zY (fun k hk=>by have:=HSz.out;omega)
 by_cases h0:l.length=0
 {
 have f0:decide ((0:Int)<(l.length:Int))=false:=by rw[h0];rfl
 have f1:¬0<l.length:=by omega
 have f2:decide (0<l.length)=false:=decide_eq_false f1
 clear h0
 go_quiet (fail)
 go_wp2_with (at_builtin;refine append_seqO (ρ:=extS) (w0:=w0) (v:=.slice Av l.length cv) Tryz.elemExt rfl _ _ rfl rfl ((HQ.out _).alloc _) rfl (src1 (ρ:=extS) [.int .i64 xs,.int .i64 xo,.int .i64 xl] ⟨xs,xo,xl⟩ rfl rfl) Hl1.out ((HQB.out _).alloc (HQB.out _).size _) ?_;intro va wv hob hgb hnb hbb;have KU:=zY hob;have KB:=zY hbb;have KN:=zY hnb;have KG:=zY (grownBy_trans (grownBy_trans (HQG.out _) (grownBy_below ((Below.refl _ _).alloc (Nat.le_refl _) _))) hgb);clear hob hgb hbb hnb)
 go_ret
 exact⟨va,_,rfl,KU.out,by simp,KN.out.imp id fun e=>⟨_,e,by have:=HSz.out;simp;omega⟩,KB.out,KG.out⟩}
 {
 have f0:decide ((0:Int)<(l.length:Int))=true:=decide_eq_true (by omega)
 have f2:decide (0<l.length)=true:=decide_eq_true (by omega)
 by_cases h1:xs=0
 {
 have f3:(xs != 0)=false:=by rw[h1];rfl
 have f4:(xs==0)=true:=by rw[h1];rfl
 clear h1
 go_quiet (fail)
 go_wp2_with (at_builtin;refine append_seqO (ρ:=extS) (w0:=w0) (v:=.slice Av l.length cv) Tryz.elemExt rfl _ _ rfl rfl ((HQ.out _).alloc _) rfl (src1 (ρ:=extS) [.int .i64 xs,.int .i64 xo,.int .i64 xl] ⟨xs,xo,xl⟩ rfl rfl) Hl1.out ((HQB.out _).alloc (HQB.out _).size _) ?_;intro va wv hob hgb hnb hbb;have KU:=zY hob;have KB:=zY hbb;have KN:=zY hnb;have KG:=zY (grownBy_trans (grownBy_trans (HQG.out _) (grownBy_below ((Below.refl _ _).alloc (Nat.le_refl _) _))) hgb);clear hob hgb hbb hnb)
 go_ret
 exact⟨va,_,rfl,KU.out,by simp,KN.out.imp id fun e=>⟨_,e,by have:=HSz.out;simp;omega⟩,KB.out,KG.out⟩}
 {
 have f3:(xs != 0)=true:=by rw[bne_iff_ne];exact h1
 obtain⟨m,hm⟩:∃m,l.length=m+1:=⟨l.length-1,by omega⟩
 have hmI:(l.length:Int)-1=m:=by omega
 have hmw:IntKind.i64.wrap ((l.length:Int)-1)=m:=by rw[hmI];exact zIw (by omega)
 have hml:m<l.length:=by omega
 have hmL:(m:Int)<l.length:=by omega
 obtain⟨g,c',e,hg⟩:=Ho.out.addr (by omega)
 cases e
 obtain⟨y,hy⟩:∃y,l[m]?=some y:=⟨_,List.getElem?_eq_getElem hml⟩
 have Hy:=zY hy
 obtain⟨_,_,e9,_,_,h4⟩:=Ho.out.at HB.out
 cases e9
 obtain⟨b,o,cs,e8,rfl,hc⟩:=h4 m y hy
 cases e8
 obtain⟨ys,yo,yl⟩:=y
 have d0:wa.cell? ⟨g,m*3,none⟩=some (.int .i64 ys):=by simpa [extS]using hc 0 _ rfl
 have d1:wa.cell? ⟨g,m*3+1,none⟩=some (.int .i64 yo):=by simpa [extS]using hc 1 _ rfl
 have d2:wa.cell? ⟨g,m*3+2,none⟩=some (.int .i64 yl):=by simpa [extS]using hc 2 _ rfl
 clear hc h4 hy hm h0 h1 hg
 by_cases h2:ys=xs
 {
 have f5:(ys==xs)=true:=by rw[beq_iff_eq];exact h2
 obtain⟨z,hz⟩:=zNm (IntKind.i64.wrap (yo+yl))
 clear h2
 by_cases h3:z=xo
 {
 have f6:(z==xo)=true:=by rw[beq_iff_eq];exact h3
 clear h3
 have HNew:=zY (fun n=>OwnSeq.new (ρ:=extS) (t:=252) (wa.drewN n))
 have HSe:=zY (fun n=>(Ho.out.at HB.out).below (zBd (Below.refl _ wa) n))
 have Hl2:Hid (([]:List Ext).length+l.length<=100000000):=zY (by have:=Hl1.out;simp;omega)
 go_quiet (fail)
 go_wp2_with (at_builtin;refine append_seqO (ρ:=extS) (v:=.slice (some ⟨wa.heap.size,0,none⟩) 0 0) Tryz.elemExt rfl _ _ rfl rfl (HNew.out _) rfl (SrcAt.of (HSe.out _) ((Below.refl _ _).alloc (Nat.le_refl _) _)) Hl2.out ((Below.refl _ _).alloc (Nat.le_refl _) _) ?_;intro va wv hob _ _ hbb;have KU:=zY hob;have KB:=zY hbb;clear hob hbb)
 obtain⟨wn,hwn⟩:=zNm (wa.drewN nq)
 rw[hwn]at KU KB
 have HWn:Hid (Below wa.heap.size wa wn/\wn.heap.size=wa.heap.size):=zY (by rw[<-hwn];exact⟨zBd (Below.refl _ wa) nq,rfl⟩)
 clear hwn
 obtain⟨g2,c2',e,hg2⟩:=KU.out.addr (by simp;omega)
 rw[show (([]:List Ext)++l).length=l.length by simp]at e
 subst e
 have Kl:Hid (OwnSeq extS 252 wn wv (.slice (some ⟨g2,0,none⟩) l.length c2') l):=zY (by have:=KU.out;rwa [List.nil_append]at this)
 obtain⟨_,_,e9,_,_,h4⟩:=Kl.out.at KB.out
 cases e9
 obtain⟨b,o,cs,e8,rfl,hc⟩:=h4 m _ Hy.out
 cases e8
 have k2:wv.cell? ⟨g2,m*3+2,none⟩=some (.int .i64 yl):=by simpa [extS]using hc 2 _ rfl
 have kf:=Kl.out.fro (m*3+2)
 have HK2:=zY (HK.out.kept (HWn.out.1.trans (KB.out.mono (by rw[HWn.out.2];exact Nat.le_refl _))))
 have x2:=HK2.out.c 2
 obtain⟨zz,hzz⟩:=zNm (IntKind.i64.wrap (yl+xl))
 have HF:Hid (OwnSeq extS 252 w0 (wv.setCell ⟨g2,m*3+2,none⟩ (.int .i64 zz)).drew (.slice (some ⟨g2,0,none⟩) l.length c2') (l.set m ⟨ys,yo,zz⟩)):=zY
  ((((Kl.out.setc Hy.out (show 2<extS.n by decide) (.int .i64 zz) (y:=⟨ys,yo,zz⟩) (fun cs h=>by
   have h':cs=[.int .i64 ys,.int .i64 yo,.int .i64 yl]:=h
   rw[h']
   rfl))).drew).low flatX (by rw[HWn.out.2];exact HB.out.size))
 have hsz2:=HSz.out
 have HBw:Hid (Below w.heap.size w (wv.setCell ⟨g2,m*3+2,none⟩ (.int .i64 zz)).drew):=zY
  ((((HBW.out.trans (HWn.out.1.mono (by omega))).trans (KB.out.mono (by rw[HWn.out.2];omega))).setCell (by show w.heap.size<=g2;have:=HWn.out.2;omega) _).drew)
 have HB0:Hid (Below w0.heap.size w0 (wv.setCell ⟨g2,m*3+2,none⟩ (.int .i64 zz)).drew):=zY (HBO.out.trans (HBw.out.mono HBO.out.size))
 have Hg2:Hid (w.heap.size<=g2):=zY (by have:=HWn.out.2;omega)
 clear hc h4 hg2 hsz2 c0 c1 c2 d0 d1 d2 KU
 have hmv:IntKind.i64.wrap (m:Int)=m:=zIw (by omega)
 go_still_tail 14,(by kernel_rfl)
 go_wp2
 go_ret
 exact⟨_,_,rfl,HF.out,by rw[List.length_set];omega,.inr ⟨g2,rfl,Hg2.out⟩,HB0.out,grownBy_below HBw.out⟩}
 {
 have f6:(z==xo)=false:=by rw[beq_eq_false_iff_ne];exact h3
 clear h3
 go_quiet (fail)
 go_wp2_with (at_builtin;refine append_seqO (ρ:=extS) (w0:=w0) (v:=.slice (some ⟨g,0,none⟩) l.length cv) Tryz.elemExt rfl _ _ rfl rfl ((HQ.out _).alloc _) rfl (src1 (ρ:=extS) [.int .i64 xs,.int .i64 xo,.int .i64 xl] ⟨xs,xo,xl⟩ rfl rfl) Hl1.out ((HQB.out _).alloc (HQB.out _).size _) ?_;intro va wv hob hgb hnb hbb;have KU:=zY hob;have KB:=zY hbb;have KN:=zY hnb;have KG:=zY (grownBy_trans (grownBy_trans (HQG.out _) (grownBy_below ((Below.refl _ _).alloc (Nat.le_refl _) _))) hgb);clear hob hgb hbb hnb)
 go_ret
 exact⟨va,_,rfl,KU.out,by simp,KN.out.imp id fun e=>⟨_,e,by have:=HSz.out;simp;omega⟩,KB.out,KG.out⟩}}
 {
 have f5:(ys==xs)=false:=by rw[beq_eq_false_iff_ne];exact h2
 clear h2
 go_quiet (fail)
 go_wp2_with (at_builtin;refine append_seqO (ρ:=extS) (w0:=w0) (v:=.slice (some ⟨g,0,none⟩) l.length cv) Tryz.elemExt rfl _ _ rfl rfl ((HQ.out _).alloc _) rfl (src1 (ρ:=extS) [.int .i64 xs,.int .i64 xo,.int .i64 xl] ⟨xs,xo,xl⟩ rfl rfl) Hl1.out ((HQB.out _).alloc (HQB.out _).size _) ?_;intro va wv hob hgb hnb hbb;have KU:=zY hob;have KB:=zY hbb;have KN:=zY hnb;have KG:=zY (grownBy_trans (grownBy_trans (HQG.out _) (grownBy_below ((Below.refl _ _).alloc (Nat.le_refl _) _))) hgb);clear hob hgb hbb hnb)
 go_ret
 exact⟨va,_,rfl,KU.out,by simp,KN.out.imp id fun e=>⟨_,e,by have:=HSz.out;simp;omega⟩,KB.out,KG.out⟩}}}
end
end Go.Proofs.YthgenkkkapilhaaGreatDoor
namespace Go.Proofs.YthgenkkkapilhaaGreatDoor.rangeStr
section
open Go.RowKit Go.Proofs.YthgenkkkapilhaaGreatDoor.rangeOwn
def IterX {α:Type} (P:Program) (g:Nat) (lb:Array Value) (Rd:α->Array Value->World->Prop) (old X:Nat->Prop) (xs:List α) (W0:World):Prop:=
 ∀(l:Nat) (J:List α->World->Prop) (W:World),Below W0.heap.size W0 W ->
  (∀s A B,J s A->W.heap.size<=A.heap.size->rangeOwn.Aside X W.heap.size A B->J s B) ->
  (∀pre x args W1,J pre W1->Rd x args W1->(pre++[x]) <+: xs->YieldAt Fence.wide 0 P l args W1 fun e W'=>e=.returned (.bool true)/\J (pre++[x]) W'/\Kept old W1 W') ->
  J [] W ->
  CallsIn Fence.wide 0 P g (#[.func (.yield l) #[] #[]]++lb) W fun e W'=>(∃v,e=.returned v)/\J xs W'
theorem wpIn_rangeFunc_boxX {α:Type} {P:Program} {g:Operand} {ps:Array Tmp} {assign body:Code} {Q:Exit->Act->World->Prop} {a:Act} {w:World}
  {gf:Nat} {lb:Array Value} (hg:a.eval g=.func (.func gf) #[] lb) (eg:∀args w,(callFunc gf args).run P w=.ok (.enter gf args) w)
  {Rd:α->Array Value->World->Prop} {old X:Nat->Prop} {xs:List α} (hseq:IterX P gf lb Rd old X xs w)
  (hX:∀k,X k->k<w.heap.size) (hps:∀x args W,Rd x args W->args.size=ps.size)
  (a₁:Array Value->World->Act) (w₁:Array Value->World->World) (hw₁:∀args W,Below W.heap.size W (w₁ args W))
  (I:List α->World->Prop) (Bd:α->Array Value->Act->World->Prop) (hBd:∀pre x args W,w.heap.size+2<=W.heap.size->I pre W->Rd x args W->Bd x args (a₁ args W) (w₁ args W)) (hBdA:∀x args a A B,Bd x args a A->w.heap.size<=A.heap.size->rangeOwn.Aside X w.heap.size A B->Bd x args a B)
  (hI:∀s A B,I s A->w.heap.size<=A.heap.size->rangeOwn.Aside X w.heap.size A B->I s B) (h0:I [] w)
  (hassign:∀(l:Nat) (x:α) (args:Array Value) (W:World) (K:Act->World->Prop),Rd x args W->K (a₁ args W) (w₁ args W) ->
   assign.wpIn (Fence.wide.inRound l) 0 P (Exit.then K (fun _ _ _=>False)) { tmps:=(ps.zip args).foldl (fun t (p,v)=>t.setIfInBounds p v) a.tmps,defers:=[] } W)
  (hbody:∀(l:Nat) (pre:List α) (x:α) (args:Array Value) (a':Act) (W:World),w.heap.size+2<=W.heap.size->I pre W->Bd x args a' W->(pre++[x]) <+: xs ->
   body.wpIn (Fence.wide.inRound l) 0 P (goesOn old I (pre++[x]) W) a' W)
  (hdone:∀(D:Nat) (W:World),w.heap.size<=D->I xs W->W.heap[D]?=some (.deferred (some []))->Q .normal { a with defers:={ target:=.collected D,args:= #[] }::a.defers } W):
  (Code.rangeFunc g ps assign body).wpIn Fence.wide 0 P Q a w:=by
 refine wpIn_rangeFunc ?_
 intro fn _
 obtain⟨rec,hrec⟩:∃rec:LoopState->Option Code->Loop,rec=fun st pe=>{ state:=st,pending:=pe,fn,tmps:=a.tmps,params:=ps,assign,body,defers:=w.heap.size }:=⟨_,rfl⟩
 obtain⟨W1,hW1⟩:=zNm ((w.alloc (.deferred (some []))).alloc (.loop (rec .ready none)))
 have hs1:W1.heap.size=w.heap.size+2:=by rw[<-hW1];simp
 have hL1:W1.heap[w.heap.size+1]?=some (.loop (rec .ready none)):=by
  rw[<-hW1];have:=World.alloc_heap_new (w.alloc (.deferred (some []))) (.loop (rec .ready none));rwa [World.size_alloc]at this
 have hK1:W1.heap[w.heap.size]?=some (.deferred (some [])):=by
  rw[<-hW1];exact(Below.heap_alloc _ _ _ (by simp)).trans (World.alloc_heap_new w _)
 have hb1:Below w.heap.size w W1:=by rw[<-hW1];exact((Below.refl _ w).alloc (Nat.le_refl _) _).alloc (by simp) _
 have hI1:I [] W1:=hI _ _ _ h0 (Nat.le_refl _) (rangeOwn.Aside.of_below hb1 (Nat.le_refl _))
 refine⟨w.heap.size+1,[{ target:=.collected w.heap.size,args:= #[] }],W1,{ target:=.fn (.func gf) lb,args:= #[.func (.yield (w.heap.size+1)) #[] #[]] },W1,gf,
  #[.func (.yield (w.heap.size + 1)) #[] #[]] ++ lb, W1, ?_, ?_, fun _ _ => trivial, ?_, (fun h => by cases h), ?_⟩
 ·rw[<-hW1,hrec];exact run_enterLoop_outer _ _ _ _ _
 {
 simp only[resolve,hg]
 simp[go_sem]}
 ·simp[invoke,go_sem,eg]
 {
 refine(hseq (w.heap.size+1)
  (fun pre W=>w.heap.size+2<=W.heap.size/\I pre W/\W.heap[w.heap.size+1]?=some (.loop (rec .ready none))/\W.heap[w.heap.size]?=some (.deferred (some [])))
  W1 hb1 (fun s A B hs hsz hAB=>⟨Nat.le_trans hs.1 hAB.size,hI _ _ _ hs.2.1 (by omega) (hAB.mono (by omega)),(hAB.low _ (by omega) (fun h=>by have:=hX _ h;omega)).trans hs.2.2.1,(hAB.low _ (by omega) (fun h=>by have:=hX _ h;omega)).trans hs.2.2.2⟩)
  ?_ ⟨by omega,hI1,hL1,hK1⟩).mono ?_
 {
 rintro pre x args W ⟨hsz,hi,hl,hk⟩ hrd hpre
 have hy:=run_yield (P:=P) (args:=args) hl (by rw[hrec];exact hps x args W hrd)
 rw[hrec]at hy
 obtain⟨W0,hW0⟩:=zNm (w₁ args W)
 have hb0:Below W.heap.size W W0:=by rw[<-hW0];exact hw₁ args W
 have hl0:W0.heap[w.heap.size+1]?=some (.loop (rec .ready none)):=(hb0.block _ (by omega)).trans hl
 have hk0:W0.heap[w.heap.size]?=some (.deferred (some [])):=(hb0.block _ (by omega)).trans hk
 have hz0:=hb0.size
 have hi0:I pre W0:=hI _ _ _ hi (by omega) (rangeOwn.Aside.of_below hb0 (by omega))
 have hbd0:Bd x args (a₁ args W) W0:=by rw[<-hW0];exact hBd pre x args W hsz hi hrd
 refine⟨fn,_,assign,body,hy,roundIn_of_wpIn trivial (hassign _ x args W _ hrd ⟨_,by rw[hW0];exact run_beginRound hl0 (by rw[hrec]),?_⟩)⟩
 obtain⟨W2,hW2⟩:=zNm (W0.putObj (w.heap.size+1) (.loop { rec .ready none with state:=.busy }))
 have hA2:rangeOwn.Aside X w.heap.size W0 W2:=by rw[<-hW2];exact rangeOwn.Aside.putObj _ (by omega) hl0 rfl
 have hl2:W2.heap[w.heap.size+1]?=some (.loop { rec .ready none with state:=.busy }):=by rw[<-hW2];exact World.putObj_heap_same (by omega)
 have hk2:W2.heap[w.heap.size]?=some (.deferred (some [])):=by rw[<-hW2];exact(World.putObj_heap_other (by omega)).trans hk0
 have hs2:W2.heap.size=W0.heap.size:=by rw[<-hW2];simp
 rw[hW2]
 refine wpIn_mono (hbody _ pre x args _ W2 (by omega) (hI _ _ _ hi0 (by omega) hA2) (hBdA _ _ _ _ _ hbd0 (by omega) hA2) hpre) ?_
 rintro e a3 W3 hp
 cases e with
 |normal=>
  obtain⟨hk3,hi3⟩:=hp
  have hl3:W3.heap[w.heap.size+1]?=some (.loop { rec .ready none with state:=.busy }):=hk3.2 _ _ hl2 (.inl rfl)
  have hd3:W3.heap[w.heap.size]?=some (.deferred (some [])):=hk3.2 _ _ hk2 (.inl rfl)
  have hs3:=hk3.1
  have hr:=run_endRound (P:=P) none hl3
  rw[hrec]at hr
  have hA4:rangeOwn.Aside X w.heap.size W3 (W3.putObj (w.heap.size+1) (.loop (rec .ready none))):=rangeOwn.Aside.putObj _ (by omega) hl3 rfl
  rw[hrec]at hA4
  refine⟨_,_,hr,rfl,⟨by simp;omega,hI _ _ _ hi3 (by omega) hA4,?_,?_⟩,by simp;omega,fun k o hko hkS=>?_⟩
  ·rw[hrec];exact World.putObj_heap_same (by omega)
  ·exact(World.putObj_heap_other (by omega)).trans hd3
  {
  by_cases hkne:k=w.heap.size+1
  {
  subst hkne
  rw[hl]at hko
  rw[<-hko,hrec]
  exact World.putObj_heap_same (by omega)}
  {
  have hko0:W0.heap[k]?=some o:=(hb0.block k (Array.getElem?_eq_some_iff.1 hko).1).trans hko
  refine(World.putObj_heap_other hkne).trans (hk3.2 k o ?_ hkS)
  rw[<-hW2]
  exact(World.putObj_heap_other hkne).trans hko0}}
 |_=>exact hp.elim}
 {
 rintro e W2 ⟨⟨v,rfl⟩,hsz,hi,hl,hk⟩
 refine⟨none,_,by have:=run_endLoop (P:=P) hl (by rw[hrec];simp);rw[hrec]at this;exact this,hdone _ _ (Nat.le_refl _) (hI _ _ _ hi (by omega) (rangeOwn.Aside.putObj _ (by omega) hl rfl)) ((World.putObj_heap_other (by omega)).trans hk)⟩
}}
end
end Go.Proofs.YthgenkkkapilhaaGreatDoor.rangeStr
namespace Go.Proofs.YthgenkkkapilhaaGreatDoor
section
open Go.ChangeShapes Go.WideShapes Go.ChangeAt Go.RowKit Go.Deep
theorem cellsBat:Tryz.prog.cellsOf 88=2:=by kernel_rfl
theorem cellsCha:Tryz.prog.cellsOf 91=5:=by kernel_rfl
theorem cellsAtr:Tryz.prog.cellsOf 93=2:=by kernel_rfl
theorem cellsAtrs:Tryz.prog.cellsOf 89=1:=by kernel_rfl
theorem cellsChas:Tryz.prog.cellsOf 86=1:=by kernel_rfl
instance:Inhabited Atr:=⟨⟨⟨#[]⟩,⟨#[]⟩⟩⟩
instance:Inhabited Cha:=⟨⟨0,⟨#[]⟩,[],⟨#[]⟩,⟨#[]⟩⟩⟩
instance:Inhabited Bat:=⟨⟨0,[]⟩⟩
theorem list5 {α:Type} {l:List α} (h:l.length=5):∃c0 c1 c2 c3 c4,l=[c0,c1,c2,c3,c4]:=by
 match l,h with
 |[c0,c1,c2,c3,c4],_=>exact⟨c0,c1,c2,c3,c4,rfl⟩
theorem list2 {α:Type} {l:List α} (h:l.length=2):∃c0 c1,l=[c0,c1]:=by
 match l,h with
 |[c0,c1],_=>exact⟨c0,c1,rfl⟩
section
variable {H:Type} {enc:TypeId×Value->H} {w:World}
theorem seq_of {α:Type} [Inhabited α] {ρ:Shape α} {TS T:TypeId} (hu:Tryz.prog.underlying TS=some (.slice T)) (hc:Tryz.prog.cellsOf T=ρ.n) (hn:0<ρ.n)
  (hcell:∀{fuel:Nat} {cs:List Value} {y:DataW H×List MemPlace},cs.length=ρ.n->DataW.trod enc Tryz.prog w 0 (fun _=>true) true fuel T cs=some y->∃x,ρ.R w cs x)
  {fuel:Nat} {c:Value} {y:DataW H×List MemPlace} (hf:DataW.trod enc Tryz.prog w 0 (fun _=>true) true fuel TS [c]=some y):∃xs,SeqAt ρ w c xs:=by
 rcases open_slice hu hf with⟨hcs,_⟩|⟨a,len,cap,m,n,D,Pl,hcs,_,hl,hm,hmm,_,hx⟩
 {
 simp only[List.cons.injEq,and_true]at hcs
 subst hcs
 exact⟨[],SeqAt.nil _⟩}
 {
 simp only[List.cons.injEq,and_true]at hcs
 have hmc:m=cap:=by simpa using hmm
 rw[hc]at hx
 obtain⟨F,hF⟩:=choose_lt (α:=α) (n:=len) (p:=fun i x=>∃cs,ρ.R w cs x/\∀j u,cs[j]?=some u->w.cell? ((a.add (i*ρ.n)).add j)=some u) fun i hi=>by
  obtain⟨cs',hcc,ht⟩:=hx i (by omega)
  obtain⟨_,hcl,hat⟩:=World.cells?_some hcc
  obtain⟨x,hr⟩:=hcell hcl ht
  exact⟨x,cs',hr,fun j u hu=>by
   have hj:j<ρ.n:=by
    have:=(List.getElem?_eq_some_iff.1 hu).1
    rwa [hcl]at this
   rw[hat j hj,hu]⟩
 obtain⟨b,o,spt⟩:=a
 refine⟨(List.range len).map F,some ⟨b,o,spt⟩,cap,by simpa using hcs,by simpa using hl,by unfold maxLen at hm;omega,fun i x hi=>?_⟩
 rw[List.getElem?_map]at hi
 obtain⟨j,hj,rfl⟩:=Option.map_eq_some_iff.1 hi
 obtain⟨h1,h2⟩:=List.getElem?_eq_some_iff.1 hj
 simp at h1 h2
 subst h2
 obtain⟨cs,hr,hcs2⟩:=hF i h1
 have hspot:spt=none:=by
  obtain⟨cs0,hr0,hc0⟩:=hF 0 (by omega)
  have h0:0<cs0.length:=by rw[ρ.len hr0];exact hn
  have h3:=hc0 0 _ (List.getElem?_eq_getElem h0)
  simpa [Addr.add]using World.cell?_spot h3
 subst hspot
 exact⟨b,o,cs,rfl,hr,fun j u hu=>by
  have h:=hcs2 j u hu
  rwa [Addr.add_lit,Addr.add_lit]at h⟩
}
theorem atr_cells {fuel:Nat} {cs:List Value} {y:DataW H×List MemPlace} (hl:cs.length=2) (hf:DataW.trod enc Tryz.prog w 0 (fun _=>true) true fuel 93 cs=some y):∃x:Atr,atrS.R w cs x:=by
 obtain⟨c0,c1,rfl⟩:=list2 hl
 obtain⟨xs,n,_,_,_,hlen,hfs⟩:=DataW.trod_struct Tryz.underlying93 hf
 obtain⟨y0,y1,rfl⟩:=list2 (l:=xs) hlen
 have f0:DataW.trod enc Tryz.prog w 0 (fun _=>true) true n 9 (([c0,c1].drop 0).take (Tryz.prog.cellsOf 9))=some y0:=hfs 0 _ rfl
 have f1:DataW.trod enc Tryz.prog w 0 (fun _=>true) true n 9 (([c0,c1].drop 1).take (Tryz.prog.cellsOf 9))=some y1:=hfs 1 _ rfl
 rw[cellsS]at f0 f1
 replace f0:DataW.trod enc Tryz.prog w 0 (fun _=>true) true n 9 [c0]=some y0:=f0
 replace f1:DataW.trod enc Tryz.prog w 0 (fun _=>true) true n 9 [c1]=some y1:=f1
 obtain⟨k,e0,_,_⟩:=DataW.trod_string Tryz.underlying9 f0
 obtain⟨v,e1,_,_⟩:=DataW.trod_string Tryz.underlying9 f1
 have h0:c0=.string k:=by simpa [Value.cells]using e0
 have h1:c1=.string v:=by simpa [Value.cells]using e1
 subst h0 h1
 exact⟨⟨k,v⟩,rfl⟩
theorem cha_cells {fuel:Nat} {cs:List Value} {y:DataW H×List MemPlace} (hl:cs.length=5) (hf:DataW.trod enc Tryz.prog w 0 (fun _=>true) true fuel 91 cs=some y):∃x:Cha,chaS.R w cs x:=by
 obtain⟨c0,c1,c2,c3,c4,rfl⟩:=list5 hl
 obtain⟨xs,n,_,_,_,hlen,hfs⟩:=DataW.trod_struct Tryz.underlying91 hf
 obtain⟨y0,y1,y2,y3,y4,rfl⟩:=list5 (l:=xs) hlen
 have f0:DataW.trod enc Tryz.prog w 0 (fun _=>true) true n 3 (([c0,c1,c2,c3,c4].drop 0).take (Tryz.prog.cellsOf 3))=some y0:=hfs 0 _ rfl
 have f1:DataW.trod enc Tryz.prog w 0 (fun _=>true) true n 9 (([c0,c1,c2,c3,c4].drop 1).take (Tryz.prog.cellsOf 9))=some y1:=hfs 1 _ rfl
 have f2:DataW.trod enc Tryz.prog w 0 (fun _=>true) true n 89 (([c0,c1,c2,c3,c4].drop 2).take (Tryz.prog.cellsOf 89))=some y2:=hfs 2 _ rfl
 have f3:DataW.trod enc Tryz.prog w 0 (fun _=>true) true n 9 (([c0,c1,c2,c3,c4].drop 3).take (Tryz.prog.cellsOf 9))=some y3:=hfs 3 _ rfl
 have f4:DataW.trod enc Tryz.prog w 0 (fun _=>true) true n 9 (([c0,c1,c2,c3,c4].drop 4).take (Tryz.prog.cellsOf 9))=some y4:=hfs 4 _ rfl
 rw[cellsI]at f0
 rw[cellsS]at f1 f3 f4
 rw[cellsAtrs]at f2
 replace f0:DataW.trod enc Tryz.prog w 0 (fun _=>true) true n 3 [c0]=some y0:=f0
 replace f1:DataW.trod enc Tryz.prog w 0 (fun _=>true) true n 9 [c1]=some y1:=f1
 replace f2:DataW.trod enc Tryz.prog w 0 (fun _=>true) true n 89 [c2]=some y2:=f2
 replace f3:DataW.trod enc Tryz.prog w 0 (fun _=>true) true n 9 [c3]=some y3:=f3
 replace f4:DataW.trod enc Tryz.prog w 0 (fun _=>true) true n 9 [c4]=some y4:=f4
 obtain⟨k0,e0,_,_⟩:=DataW.trod_int Tryz.underlying3 f0
 obtain⟨k1,e1,_,_⟩:=DataW.trod_string Tryz.underlying9 f1
 obtain⟨al,h2⟩:=seq_of (ρ:=atrS) Tryz.underlying89 cellsAtr (by decide) atr_cells f2
 obtain⟨k3,e3,_,_⟩:=DataW.trod_string Tryz.underlying9 f3
 obtain⟨k4,e4,_,_⟩:=DataW.trod_string Tryz.underlying9 f4
 have h0:c0=.int .i64 k0:=by simpa [Value.cells]using e0
 have h1:c1=.string k1:=by simpa [Value.cells]using e1
 have h3:c3=.string k3:=by simpa [Value.cells]using e3
 have h4:c4=.string k4:=by simpa [Value.cells]using e4
 subst h0 h1 h3 h4
 exact⟨⟨k0,k1,al,k3,k4⟩,c2,rfl,h2⟩
theorem bat_cells {fuel:Nat} {cs:List Value} {y:DataW H×List MemPlace} (hl:cs.length=2) (hf:DataW.trod enc Tryz.prog w 0 (fun _=>true) true fuel 88 cs=some y):∃x:Bat,batS.R w cs x:=by
 obtain⟨c0,c1,rfl⟩:=list2 hl
 obtain⟨xs,n,_,_,_,hlen,hfs⟩:=DataW.trod_struct Tryz.underlying88 hf
 obtain⟨y0,y1,rfl⟩:=list2 (l:=xs) hlen
 have f0:DataW.trod enc Tryz.prog w 0 (fun _=>true) true n 3 (([c0,c1].drop 0).take (Tryz.prog.cellsOf 3))=some y0:=hfs 0 _ rfl
 have f1:DataW.trod enc Tryz.prog w 0 (fun _=>true) true n 86 (([c0,c1].drop 1).take (Tryz.prog.cellsOf 86))=some y1:=hfs 1 _ rfl
 rw[cellsI]at f0
 rw[cellsChas]at f1
 replace f0:DataW.trod enc Tryz.prog w 0 (fun _=>true) true n 3 [c0]=some y0:=f0
 replace f1:DataW.trod enc Tryz.prog w 0 (fun _=>true) true n 86 [c1]=some y1:=f1
 obtain⟨k0,e0,_,_⟩:=DataW.trod_int Tryz.underlying3 f0
 obtain⟨cs',h1⟩:=seq_of (ρ:=chaS) Tryz.underlying86 cellsCha (by decide) cha_cells f1
 have h0:c0=.int .i64 k0:=by simpa [Value.cells]using e0
 subst h0
 exact⟨⟨k0,cs'⟩,c1,rfl,h1⟩
theorem open_bats {v:Value} {d:DataW H} {p:List MemPlace} {b0:Nat} (hv:Value.okWide Tryz.prog w .any b0 22 v) (h:DataW.Trod enc Tryz.prog w 0 (fun _=>true) true 22 v d p):∃l,SeqAt batS w v l:=by
 obtain⟨a0,len0,cap0,rfl⟩:=okWide_slice Tryz.underlying22 hv
 obtain⟨fuel,hf⟩:=h
 exact seq_of (ρ:=batS) Tryz.underlying22 cellsBat (by decide) bat_cells (by simpa [Value.cells]using hf)
theorem open_layout {v:Value} {d:DataW H} {p:List MemPlace} {b0:Nat} (hval:Value.okWide Tryz.prog w .any b0 24 v) (hd:DataW.Trod enc Tryz.prog w 0 (fun _=>true) true 24 v d p):
  ∃a b:Int,v=.agg #[.int .i64 a,.int .i64 b]:=by
 obtain⟨⟨cs⟩,rfl,hsz⟩:=okWide_struct Tryz.underlying24 hval
 rw[cellsL]at hsz
 obtain⟨c0,c1,rfl⟩:=list2 hsz
 obtain⟨fuel,hf⟩:=hd
 obtain⟨z0,z1,m,_,_,g0,g1⟩:=trod_struct2 Tryz.underlying24 hf
 replace g0:DataW.trod enc Tryz.prog w 0 (fun _=>true) true m 3 (([c0,c1].drop 0).take (Tryz.prog.cellsOf 3))=some z0:=g0
 replace g1:DataW.trod enc Tryz.prog w 0 (fun _=>true) true m 3 (([c0,c1].drop 1).take (Tryz.prog.cellsOf 3))=some z1:=g1
 rw[cellsI]at g0 g1
 replace g0:DataW.trod enc Tryz.prog w 0 (fun _=>true) true m 3 [c0]=some z0:=g0
 replace g1:DataW.trod enc Tryz.prog w 0 (fun _=>true) true m 3 [c1]=some z1:=g1
 obtain⟨k0,e0,_,_⟩:=DataW.trod_int Tryz.underlying3 g0
 obtain⟨k1,e1,_,_⟩:=DataW.trod_int Tryz.underlying3 g1
 have h0:c0=.int .i64 k0:=by simpa [Value.cells]using e0
 have h1:c1=.int .i64 k1:=by simpa [Value.cells]using e1
 subst h0 h1
 exact⟨k0,k1,rfl⟩
end
theorem tab_of {W : World} {L : List (String × DataW Unit)} (hL : laidMetH Tryz.prog L W) (hk : (L.filter fun x => x.1 == "internal/strconv.uint64pow10") = [("internal/strconv.uint64pow10", Lib.tabData .u64 Lib.pow10Tab)]) (hsh : W.ShapedOpen Tryz.prog) : Tab W := by
 have h1 := hL.filter fun x => x.1 == "internal/strconv.uint64pow10"
 rw[hk,MakeChecks.laidMetH_plain _ _ _ (by kernel_rfl)]at h1
 refine⟨?_,?_⟩
 ·exact Lib.tabIs_of_head (g:=0) (t:=356) (e:=211) (n:=20) (by kernel_rfl) (by kernel_rfl) Tryz.underlying356 Tryz.underlying211 (by kernel_rfl) (by kernel_rfl) h1
 {
 exact cell_of_shapedOpen_int (P:=Tryz.prog) (g:=1) (t:=3) (zero:= #[.int .i64 0]) hsh (of_decide_eq_true (by kernel_rfl)) (by kernel_rfl) rfl (by kernel_rfl) (by kernel_rfl) Tryz.underlying3
}
theorem returns_shaped {H:Type} {enc:TypeId×Value->H} {a:Assume} {C:Checked} {os:Os} {f:FuncId} {fn:Func} {s:ChangeSpec} {conds:List PathCond} {apart fresh handsOn again:Bool} {X:World->Array Value->Prop}
  (hX:∀(w w':World) (args:Array Value),w.heap=w'.heap->X w args->X w' args)
  (own:ownKnob C.prog.godebug=none) (started:os.Started) (noInit:C.prog.inits.idxOf? f=none) (hfn:C.prog.funcs[f]?=some fn)
  (witness:∃(w:World) (tape:Tape) (i:Input),w.os=os/\(w.forCall tape i).Shaped C.prog/\i.vars=[]/\Input.okWide C.prog (w.forCall tape i) .any w.heap.size f i /\
   ((s.pre enc C.prog fn conds apart (w.forCall tape i).memory i.args/\X (w.forCall tape i).memory i.args)/\sizedMet enc C.prog fn (OpenSpec.ofChange s) apart (w.forCall tape i).memory i.args)/\a.holds C.prog (lone (Frame.enter C.prog f i.args .normal) [] (w.forCall tape i)))
  (contract:∀(W:World) (base:Nat) (args:Array Value) (ds gs:List (DataW H)) (before:List MemPlace),
   (∀(j:Nat) t v,fn.params[j]?=some t->args[j]?=some v->Value.okWide C.prog W .any base t v) ->
   DataW.Whole enc C.prog fn.params.toList s.vars apart W args.toList ds gs before ->
   conds.all (PathCond.test C.prog ⟨fn.params.toList,ds,s.plain.varTypes C.prog,gs⟩)=true ->
   (DataW.weightsEach C.prog (fn.params.toList++s.plain.varTypes C.prog) (ds++gs)).all (· <= reachBytes)=true->X W args->W.ShapedOpen C.prog ->
   a.holds C.prog (lone (Frame.enter C.prog f args .normal) [] W) ->
   Calls C.prog f args W fun e W'=>∃v,e=.returned v/\s.post enc C.prog fn apart fresh handsOn again W args v W'):
  ReturnsInHanded a C os f .any (fun w args=>(s.pre enc C.prog fn conds apart w args/\X w args)/\sizedMet enc C.prog fn (OpenSpec.ofChange s) apart w args) (s.post enc C.prog fn apart fresh handsOn again):=by
 refine returnsInHanded_of_calls own started noInit witness ?_
 intro w tape i _ hsh _ hok hpre hholds
 obtain⟨_,_,_,fn',hfn',_,_,_,_,hval⟩:=hok
 have e:fn'=fn:=Option.some.inj (hfn'.symm.trans hfn)
 subst e
 obtain⟨⟨⟨ds,gs,before,hw,hc⟩,hx⟩,hz⟩:=hpre
 have hw':=DataW.Whole.of_heap (w':=w.forCall tape i) (by rfl) hw
 refine(contract (w.forCall tape i) w.heap.size i.args ds gs before hval hw' hc (hz.weights hw) (hX _ _ _ (by rfl) hx) hsh hholds).mono fun e W' ⟨v,he,hp⟩=>?_
 subst he
 exact ChangeSpec.post_blind hp
end
end Go.Proofs.YthgenkkkapilhaaGreatDoor
namespace Go.Proofs.YthgenkkkapilhaaGreatDoor.lawVoFrames
section
open Go.ChangeShapes Go.WideShapes Go.ChangeAt Go.RowKit
theorem closed:joinedFacts Tryz.prog 3 Tryz.f3 Rows.volumeFramesSpec Rows.volumeFramesRow=true:=by
 unfold joinedFacts
 simp only[Bool.and_eq_true]
 repeat' apply And.intro
 all_goals as_aux_lemma=>kernel_rfl
theorem wfT:Rows.volumeFramesRow.wfByText (OpenSpec.ofChange Rows.volumeFramesSpec)=true:=by kernel_rfl
theorem looksT:true=Tryz.prog.looks []:=by kernel_rfl
theorem goesF:false=Rows.volumeFramesRow.goesBy Tryz.prog:=by kernel_rfl
theorem mainT : Tryz.prog.mainIs = some (true, "174266067ec6230a6e948b97ff1584906e8abc8bea5e33ca035a81317c67f444".toList) := by kernel_rfl
theorem fnT : Tryz.prog.funcNamed "stele/stelelaw43.VolumeFrames" = some 3 := by kernel_rfl
end
end Go.Proofs.YthgenkkkapilhaaGreatDoor.lawVoFrames
