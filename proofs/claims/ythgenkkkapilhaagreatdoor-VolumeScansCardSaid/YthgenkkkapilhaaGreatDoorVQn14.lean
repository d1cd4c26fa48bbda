/-
  Joined: VpE VpF VrA VoS VoT.
-/
import Derived.Test.YthgenkkkapilhaaGreatDoorVQn08
import Derived.Test.YthgenkkkapilhaaGreatDoorVQn10
import Derived.Sort.CutIn
set_option linter.all false
set_option maxRecDepth 100000
set_option maxHeartbeats 64000000
namespace Go.Proofs.YthgenkkkapilhaaGreatDoor
open Go.Proofs.Tryz
section
open Go.RowKit
theorem flat_set {n:Nat}:∀{css:List (List Value)} {i:Nat} {cs:List Value},(∀c∈css,c.length=n)->css[i]?=some cs->∀j,j<n->∀u,css.flatten.set (i*n+j) u=(css.set i (cs.set j u)).flatten
 |[],_,_,_,h,_,_,_=>by simp at h
 |c::r,0,cs,hl,h,j,hj,u=>by
  obtain rfl:c=cs:=by simpa using h
  rw[List.flatten_cons,Nat.zero_mul,Nat.zero_add,List.set_append,if_pos (by rw[hl c List.mem_cons_self];omega)]
  rfl
 |c::r,i+1,cs,hl,h,j,hj,u=>by
  have hc:=hl c List.mem_cons_self
  rw[List.flatten_cons,List.set_append,if_neg (by rw[hc,Nat.add_mul];omega),show (i+1)*n+j-c.length=i*n+j by rw[hc,Nat.add_mul];omega]
  rw[flat_set (fun x hx=>hl x (List.mem_cons_of_mem _ hx)) (by simpa using h) j hj u]
  rfl
theorem Both.set {β γ:Type} {r:β->γ->Prop} {l:List β} {m:List γ} (h:Both r l m) {i:Nat} {x:β} {y:γ} (hr:r x y):Both r (l.set i x) (m.set i y):=by
 induction h generalizing i with
 |nil=>exact .nil
 | @cons a b l m h1 _ ih=>
 cases i with
 |zero=>exact .cons hr ‹_›
 |succ i=>exact .cons h1 ih
section
variable {α:Type} {ρ:Shape α} {w0 w w' W:World} {v:Value} {xs:List α}
theorem OwnSeq.setc {t:TypeId} {g c n:Nat} (h:OwnSeq ρ t w0 W (.slice (some ⟨g,0,none⟩) n c) xs) {i j:Nat} {x y:α} (hx:xs[i]?=some x) (hj:j<ρ.n) (u:Value) (hy:∀cs,ρ.R w0 cs x->ρ.R w0 (cs.set j u) y):OwnSeq ρ t w0 (W.setCell ⟨g,i*ρ.n+j,none⟩ u) (.slice (some ⟨g,0,none⟩) n c) (xs.set i y):=by
 obtain⟨css,h,hB⟩:=h;obtain⟨cs,hcs,hr⟩:=hB.at hx;refine⟨css.set i (cs.set j u),?_,hB.set (hy cs hr)⟩;obtain⟨hl,h⟩:=h;have hi:i<xs.length:=(List.getElem?_eq_some_iff.1 hx).1;have hm:(i+1)*ρ.n<=xs.length*ρ.n:=Nat.mul_le_mul (by omega) (Nat.le_refl _);rw[Nat.add_mul,Nat.one_mul]at hm;rw[<-flat_set hB.lens hcs j hj u,List.length_set];refine⟨by rw[List.length_set];exact hl,?_⟩;rcases h with⟨e,h0⟩|⟨g',cap,cur,e,hb,hg,h1,h2,h3,h4⟩;{cases e};{
 cases e;refine .inr ⟨g,c,cur.setIfInBounds (i*ρ.n+j) u,rfl,hb,?_,h1,h2,by simpa using h3,?_⟩;{simp[World.setCell,Array.getElem?_modify,hg]};{rw[Array.toList_setIfInBounds,List.take_set,h4]}}
def Flat (ρ:Shape α):Prop:=∀(w w':World) (cs:List Value) (x:α),ρ.R w cs x->ρ.R w' cs x
end
end
section
open Go.RowKit
theorem flatX:Flat extS:=fun _ _ _ _ h=>h
theorem flatC:Flat chkS:=fun _ _ _ _ h=>h
theorem flatG:Flat segS:=fun _ _ _ _ h=>h
theorem flatS:Flat strS:=fun _ _ _ _ h=>h
theorem flatH:Flat holS:=fun _ _ _ _ h=>h
section
variable {α:Type} {ρ:Shape α} {w0 w1 w w' W:World} {v:Value} {xs:List α}
theorem OwnSeq.low {t:TypeId} (h:OwnSeq ρ t w1 W v xs) (hF:Flat ρ) (hs:w0.heap.size<=w1.heap.size):OwnSeq ρ t w0 W v xs:=by
 obtain⟨css,ho,hb⟩:=h;exact⟨css,⟨ho.1,ho.2.imp id fun⟨g,cap,cur,e,hB,r⟩=>⟨g,cap,cur,e,by omega,r⟩⟩,hb.mono fun _ _ h=>hF _ _ _ _ h⟩
theorem OwnSeq.fro {t:TypeId} {g n c:Nat} (h:OwnSeq ρ t w0 W (.slice (some ⟨g,0,none⟩) n c) xs) (i:Nat):W.frozen? ⟨g,i,none⟩=false:=by
 obtain⟨css,ho,_⟩:=h;rcases ho.2 with⟨e,_⟩|⟨g',cap,cur,e,hB,hg,_⟩;{cases e};{
 cases e;simp[World.frozen?,hg]}
theorem OwnSeq.addr {t:TypeId} (h:OwnSeq ρ t w0 W v xs) (h0:0<xs.length):∃g c,v=.slice (some ⟨g,0,none⟩) xs.length c/\w0.heap.size<=g:=by
 obtain⟨css,ho,_⟩:=h;exact ownV_at ho h0
theorem OwnSeq.lt {t:TypeId} (h:OwnSeq ρ t w0 W v xs) {g:Nat} (hg:v.ownBlock=some g):g<W.heap.size:=by
 obtain⟨css,ho,_⟩:=h;exact(ho.lt g hg).2
end
theorem append_seqO {α:Type} {ρ:Shape α} {w0 w:World} {v:Value} {xs us:List α} {P:Program} {ops:Array Oper} {rest:List Oper} {o:Oper} {a:Act} {Q:Exit->Act->World->Prop} {TS T:TypeId} {b:Nat} {z:Value} (E:Elem P TS T ρ.n b z) (hgd:o.guard=none) (s x:Operand) (ho:o.op=.call { callee:=.builtin .append,args:= #[s,x],argTypes:= #[TS,TS] })
  (hs:a.eval s=v) (hown:OwnSeq ρ T w0 w v xs) {vx:Value} (hx:a.eval x=vx) (hv:SrcAt ρ w0 w vx us) (hn:xs.length+us.length<=100000000) (hB:Below w0.heap.size w0 w)
  (h:∀v' w',OwnSeq ρ T w0 w' v' (xs++us)->w.grownBy w' v.ownBlock->(v'.ownBlock=v.ownBlock∨v'.ownBlock=some w.heap.size)->Below w0.heap.size w0 w'->wpList P ops Q rest (a.put o.dst v') w'):wpList P ops Q (o::rest) a w:=by
 obtain⟨v',w',hr,g1,g2,g4,g3⟩:=run_appendS E o.type hown hv hn hB;refine wpList_plain hgd fun K hK=>?_;unfold Oper.wp execOp;simp only[ho,resolve,invoke,builtin,Sem.run_bind,Sem.run_pure,Result.andThen_ok,List.map_toArray,List.map_cons,List.map_nil,hs,hx,hr];exact hK _ _ (h v' w' g1 g2 g4 g3)
def Grow {α:Type} (ρ:Shape α) (t:TypeId) (w0 w:World) (v:Value) (m:Nat) (e:Ending) (w':World):Prop:=
 ∃v' l',e=.returned v'/\OwnSeq ρ t w0 w' v' l'/\l'.length<=m/\(v'.ownBlock=v.ownBlock∨∃k,v'.ownBlock=some k/\w.heap.size<=k)/\Below w0.heap.size w0 w'/\w.grownBy w' v.ownBlock
theorem grownBy_below {w w':World} {r:Option Nat} (h:Below w.heap.size w w'):w.grownBy w' r:=⟨h.os,h.tape,h.output,h.size,fun k hk _=>h.block k hk⟩
theorem grownBy_trans {a b c:World} {r:Option Nat} (h:a.grownBy b r) (k:b.grownBy c r):a.grownBy c r:=
 ⟨k.os.trans h.os,k.tape.trans h.tape,k.output.trans h.output,Nat.le_trans h.size k.size,fun i hi hn=>(k.block i (Nat.lt_of_lt_of_le hi h.size) hn).trans (h.block i hi hn)⟩
theorem add35_any (w0 w:World) (v:Value) (l:List Ext) (ho:OwnSeq extS 252 w0 w v l) (hb0:Below w0.heap.size w0 w) (hl:l.length<=900000) (x:Ext):
  Calls prog 219 #[v,.agg #[.int .i64 x.s,.int .i64 x.o,.int .i64 x.l]] w fun e w'=>Grow extS 252 w0 w v (l.length+1) e w':=by
 obtain⟨xs,xo,xl⟩:=x;dsimp only;have hK:=Blk.new w 252 [.int .i64 xs,.int .i64 xo,.int .i64 xl];change Blk (w.alloc (.cells #[.int .i64 xs,.int .i64 xo,.int .i64 xl] 252)) _ _ _ at hK;have HK:=zY hK;have HG:=zY (grownBy_below (r:=v.ownBlock) (zBl w (.cells #[.int .i64 xs,.int .i64 xo,.int .i64 xl] 252)));have HBO:=zY hb0;have HBW:=zY (zBl w (.cells #[.int .i64 xs,.int .i64 xo,.int .i64 xl] 252));have HB:=zY (hb0.alloc hb0.size (.cells #[.int .i64 xs,.int .i64 xo,.int .i64 xl] 252));have Ho:=zY (ho.alloc (.cells #[.int .i64 xs,.int .i64 xo,.int .i64 xl] 252));have hsz:(w.alloc (.cells #[.int .i64 xs,.int .i64 xo,.int .i64 xl] 252)).heap.size=w.heap.size+1:=World.size_alloc _ _;have HSz:=zY hsz;have Hl1:Hid (l.length+1<=100000000):=zY (by omega);obtain⟨Av,cv,rfl⟩:=ho.slice;clear hK hb0 ho hsz;go_enter func219,ntmps219;go_upto_region 2 with fail;generalize w.alloc (.cells #[.int .i64 xs,.int .i64 xo,.int .i64 xl] 252)=wa at *;have c0:=HK.c 0;have c1:=HK.c 1;have c2:=HK.c 2;have HQ:=zY (fun n=>Ho.below (zBd (Below.refl _ wa) n));have HQB:=zY (fun n=>zBd HB.out n);have HQG:=zY (fun n=>grownBy_trans HG.out (grownBy_below (r:=Value.ownBlock (.slice Av l.length cv)) (zBd (Below.refl wa.heap.size wa) n)));have HWs:Hid (∀k,k=wa.heap.size->w.heap.size<=k):=zY (fun k hk=>by have:=HSz.out;omega);by_cases h0:l.length=0;{
 have f0:decide ((0:Int)<(l.length:Int))=false:=by rw[h0];rfl
 have f1:¬0<l.length:=by omega
 have f2:decide (0<l.length)=false:=decide_eq_false f1;clear h0;go_quiet (fail);go_wp2_with (at_builtin;refine append_seqO (ρ:=extS) (w0:=w0) (v:=.slice Av l.length cv) Tryz.elemExt rfl _ _ rfl rfl ((HQ.out _).alloc _) rfl (src1 (ρ:=extS) [.int .i64 xs,.int .i64 xo,.int .i64 xl] ⟨xs,xo,xl⟩ rfl rfl) Hl1.out ((HQB.out _).alloc (HQB.out _).size _) ?_;intro va wv hob hgb hnb hbb;have KU:=zY hob;have KB:=zY hbb;have KN:=zY hnb;have KG:=zY (grownBy_trans (grownBy_trans (HQG.out _) (grownBy_below ((Below.refl _ _).alloc (Nat.le_refl _) _))) hgb);clear hob hgb hbb hnb);go_ret;exact⟨va,_,rfl,KU.out,by simp,KN.out.imp id fun e=>⟨_,e,by have:=HSz.out;simp;omega⟩,KB.out,KG.out⟩};{
 have f0:decide ((0:Int)<(l.length:Int))=true:=decide_eq_true (by omega);have f2:decide (0<l.length)=true:=decide_eq_true (by omega);by_cases h1:xs=0;{
 have f3:(xs != 0)=false:=by rw[h1];rfl
 have f4:(xs==0)=true:=by rw[h1];rfl
 clear h1;go_quiet (fail);go_wp2_with (at_builtin;refine append_seqO (ρ:=extS) (w0:=w0) (v:=.slice Av l.length cv) Tryz.elemExt rfl _ _ rfl rfl ((HQ.out _).alloc _) rfl (src1 (ρ:=extS) [.int .i64 xs,.int .i64 xo,.int .i64 xl] ⟨xs,xo,xl⟩ rfl rfl) Hl1.out ((HQB.out _).alloc (HQB.out _).size _) ?_;intro va wv hob hgb hnb hbb;have KU:=zY hob;have KB:=zY hbb;have KN:=zY hnb;have KG:=zY (grownBy_trans (grownBy_trans (HQG.out _) (grownBy_below ((Below.refl _ _).alloc (Nat.le_refl _) _))) hgb);clear hob hgb hbb hnb);go_ret;exact⟨va,_,rfl,KU.out,by simp,KN.out.imp id fun e=>⟨_,e,by have:=HSz.out;simp;omega⟩,KB.out,KG.out⟩};{
 have f3:(xs != 0)=true:=by rw[bne_iff_ne];exact h1
 obtain⟨m,hm⟩:∃m,l.length=m+1:=⟨l.length-1,by omega⟩;have hmI:(l.length:Int)-1=m:=by omega
 have hmw:IntKind.i64.wrap ((l.length:Int)-1)=m:=by rw[hmI];exact zIw (by omega)
 have hml:m<l.length:=by omega
 have hmL:(m:Int)<l.length:=by omega
 obtain⟨g,c',e,hg⟩:=Ho.addr (by omega);cases e;obtain⟨y,hy⟩:∃y,l[m]?=some y:=⟨_,List.getElem?_eq_getElem hml⟩;have Hy:=zY hy;obtain⟨_,_,e9,_,_,h4⟩:=Ho.at HB.out;cases e9;obtain⟨b,o,cs,e8,rfl,hc⟩:=h4 m y hy;cases e8;obtain⟨ys,yo,yl⟩:=y;have d0:wa.cell? ⟨g,m*3,none⟩=some (.int .i64 ys):=by simpa [extS]using hc 0 _ rfl
 have d1:wa.cell? ⟨g,m*3+1,none⟩=some (.int .i64 yo):=by simpa [extS]using hc 1 _ rfl
 have d2:wa.cell? ⟨g,m*3+2,none⟩=some (.int .i64 yl):=by simpa [extS]using hc 2 _ rfl
 clear hc h4 hy hm h0 h1 hg;by_cases h2:ys=xs;{
 have f5:(ys==xs)=true:=by rw[beq_iff_eq];exact h2
 obtain⟨z,hz⟩:=zNm (IntKind.i64.wrap (yo+yl));clear h2;by_cases h3:z=xo;{
 have f6:(z==xo)=true:=by rw[beq_iff_eq];exact h3
 clear h3;have HNew:=zY (fun n=>OwnSeq.new (ρ:=extS) (t:=252) (wa.drewN n));have HSe:=zY (fun n=>(Ho.at HB.out).below (zBd (Below.refl _ wa) n));have Hl2:Hid (([]:List Ext).length+l.length<=100000000):=zY (by have:=Hl1.out;simp;omega);go_quiet (fail);go_wp2_with (at_builtin;refine append_seqO (ρ:=extS) (v:=.slice (some ⟨wa.heap.size,0,none⟩) 0 0) Tryz.elemExt rfl _ _ rfl rfl (HNew.out _) rfl (SrcAt.of (HSe.out _) ((Below.refl _ _).alloc (Nat.le_refl _) _)) Hl2.out ((Below.refl _ _).alloc (Nat.le_refl _) _) ?_;intro va wv hob _ _ hbb;have KU:=zY hob;have KB:=zY hbb;clear hob hbb);obtain⟨wn,hwn⟩:=zNm (wa.drewN nq);rw[hwn]at KU KB;have HWn:Hid (Below wa.heap.size wa wn/\wn.heap.size=wa.heap.size):=zY (by rw[<-hwn];exact⟨zBd (Below.refl _ wa) nq,rfl⟩);clear hwn;obtain⟨g2,c2',e,hg2⟩:=KU.out.addr (by simp;omega);rw[show (([]:List Ext)++l).length=l.length by simp]at e;subst e;have Kl:Hid (OwnSeq extS 252 wn wv (.slice (some ⟨g2,0,none⟩) l.length c2') l):=zY (by have:=KU.out;rwa [List.nil_append]at this);obtain⟨_,_,e9,_,_,h4⟩:=Kl.out.at KB.out;cases e9;obtain⟨b,o,cs,e8,rfl,hc⟩:=h4 m _ Hy.out;cases e8;have k2:wv.cell? ⟨g2,m*3+2,none⟩=some (.int .i64 yl):=by simpa [extS]using hc 2 _ rfl
 have kf:=Kl.out.fro (m*3+2);have HK2:=zY (HK.kept (HWn.1.trans (KB.out.mono (by rw[HWn.2];exact Nat.le_refl _))));have x2:=HK2.c 2;obtain⟨zz,hzz⟩:=zNm (IntKind.i64.wrap (yl+xl));have HF:Hid (OwnSeq extS 252 w0 (wv.setCell ⟨g2,m*3+2,none⟩ (.int .i64 zz)).drew (.slice (some ⟨g2,0,none⟩) l.length c2') (l.set m ⟨ys,yo,zz⟩)):=zY
  ((((Kl.out.setc Hy.out (show 2<extS.n by decide) (.int .i64 zz) (y:=⟨ys,yo,zz⟩) (fun cs h=>by
   have h':cs=[.int .i64 ys,.int .i64 yo,.int .i64 yl]:=h
   rw[h']
   rfl))).drew).low flatX (by rw[HWn.2];exact HB.size));have hsz2:=HSz.out;have HBw:Hid (Below w.heap.size w (wv.setCell ⟨g2,m*3+2,none⟩ (.int .i64 zz)).drew):=zY
  ((((HBW.trans (HWn.1.mono (by omega))).trans (KB.out.mono (by rw[HWn.2];omega))).setCell (by show w.heap.size<=g2;have:=HWn.2;omega) _).drew);have HB0:Hid (Below w0.heap.size w0 (wv.setCell ⟨g2,m*3+2,none⟩ (.int .i64 zz)).drew):=zY (HBO.trans (HBw.mono HBO.size));have Hg2:Hid (w.heap.size<=g2):=zY (by have:=HWn.2;omega);clear hc h4 hg2 hsz2 c0 c1 c2 d0 d1 d2 KU;have hmv:IntKind.i64.wrap (m:Int)=m:=zIw (by omega);go_still_tail 14,(by kernel_rfl);go_wp2;go_ret;exact⟨_,_,rfl,HF.out,by rw[List.length_set];omega,.inr ⟨g2,rfl,Hg2.out⟩,HB0.out,grownBy_below HBw.out⟩};{
 have f6:(z==xo)=false:=by rw[beq_eq_false_iff_ne];exact h3
 clear h3;go_quiet (fail);go_wp2_with (at_builtin;refine append_seqO (ρ:=extS) (w0:=w0) (v:=.slice (some ⟨g,0,none⟩) l.length cv) Tryz.elemExt rfl _ _ rfl rfl ((HQ.out _).alloc _) rfl (src1 (ρ:=extS) [.int .i64 xs,.int .i64 xo,.int .i64 xl] ⟨xs,xo,xl⟩ rfl rfl) Hl1.out ((HQB.out _).alloc (HQB.out _).size _) ?_;intro va wv hob hgb hnb hbb;have KU:=zY hob;have KB:=zY hbb;have KN:=zY hnb;have KG:=zY (grownBy_trans (grownBy_trans (HQG.out _) (grownBy_below ((Below.refl _ _).alloc (Nat.le_refl _) _))) hgb);clear hob hgb hbb hnb);go_ret;exact⟨va,_,rfl,KU.out,by simp,KN.out.imp id fun e=>⟨_,e,by have:=HSz.out;simp;omega⟩,KB.out,KG.out⟩}};{
 have f5:(ys==xs)=false:=by rw[beq_eq_false_iff_ne];exact h2
 clear h2;go_quiet (fail);go_wp2_with (at_builtin;refine append_seqO (ρ:=extS) (w0:=w0) (v:=.slice (some ⟨g,0,none⟩) l.length cv) Tryz.elemExt rfl _ _ rfl rfl ((HQ.out _).alloc _) rfl (src1 (ρ:=extS) [.int .i64 xs,.int .i64 xo,.int .i64 xl] ⟨xs,xo,xl⟩ rfl rfl) Hl1.out ((HQB.out _).alloc (HQB.out _).size _) ?_;intro va wv hob hgb hnb hbb;have KU:=zY hob;have KB:=zY hbb;have KN:=zY hnb;have KG:=zY (grownBy_trans (grownBy_trans (HQG.out _) (grownBy_below ((Below.refl _ _).alloc (Nat.le_refl _) _))) hgb);clear hob hgb hbb hnb);go_ret;exact⟨va,_,rfl,KU.out,by simp,KN.out.imp id fun e=>⟨_,e,by have:=HSz.out;simp;omega⟩,KB.out,KG.out⟩}}}
end
end Go.Proofs.YthgenkkkapilhaaGreatDoor
namespace Go.Proofs.YthgenkkkapilhaaGreatDoor.rangeStr
open Go.Proofs.Tryz
section
open Go.RowKit Go.Proofs.YthgenkkkapilhaaGreatDoor.rangeOwn
def IterX {α:Type} (P:Program) (g:Nat) (lb:Array Value) (Rd:α->Array Value->World->Prop) (old X:Nat->Prop) (xs:List α) (W0:World):Prop:=
 ∀(l:Nat) (J:List α->World->Prop) (W:World),Below W0.heap.size W0 W ->
  (∀s A B,J s A->W.heap.size<=A.heap.size->rangeOwn.Aside X W.heap.size A B->J s B) ->
  (∀pre x args W1,J pre W1->Rd x args W1->(pre++[x]) <+: xs->YieldAt Fence.wide 0 P l args W1 fun e W'=>e=.returned (.bool true)/\J (pre++[x]) W'/\Kept old W1 W') ->
  J [] W ->
  CallsIn Fence.wide 0 P g (#[.func (.yield l) #[] #[]]++lb) W fun e W'=>(∃v,e=.returned v)/\J xs W'
theorem wpIn_rangeFunc_boxX {α:Type} {P:Program} {g:Operand} {ps:Array Tmp} {assign body:Code} {Q:Exit->Act->World->Prop} {a:Act} {w:World}
  {gf:Nat} {lb:Array Value} (hg:a.eval g=.func (.func gf) #[] lb) (eg:∀args w,(callFunc gf args).run P w=.ok (.enter gf args) w)
  {Rd:α->Array Value->World->Prop} {old X:Nat->Prop} {xs:List α} (hseq:IterX P gf lb Rd old X xs w)
  (hX:∀k,X k->k<w.heap.size) (hps:∀x args W,Rd x args W->args.size=ps.size)
  (a₁:Array Value->World->Act) (w₁:Array Value->World->World) (hw₁:∀args W,Below W.heap.size W (w₁ args W))
  (I:List α->World->Prop) (Bd:α->Array Value->Act->World->Prop) (hBd:∀pre x args W,w.heap.size+2<=W.heap.size->I pre W->Rd x args W->Bd x args (a₁ args W) (w₁ args W)) (hBdA:∀x args a A B,Bd x args a A->w.heap.size<=A.heap.size->rangeOwn.Aside X w.heap.size A B->Bd x args a B)
  (hI:∀s A B,I s A->w.heap.size<=A.heap.size->rangeOwn.Aside X w.heap.size A B->I s B) (h0:I [] w)
  (hassign:∀(l:Nat) (x:α) (args:Array Value) (W:World) (K:Act->World->Prop),Rd x args W->K (a₁ args W) (w₁ args W) ->
   assign.wpIn (Fence.wide.inRound l) 0 P (Exit.then K (fun _ _ _=>False)) { tmps:=(ps.zip args).foldl (fun t (p,v)=>t.setIfInBounds p v) a.tmps,defers:=[] } W)
  (hbody:∀(l:Nat) (pre:List α) (x:α) (args:Array Value) (a':Act) (W:World),w.heap.size+2<=W.heap.size->I pre W->Bd x args a' W->(pre++[x]) <+: xs ->
   body.wpIn (Fence.wide.inRound l) 0 P (goesOn old I (pre++[x]) W) a' W)
  (hdone:∀(D:Nat) (W:World),w.heap.size<=D->I xs W->W.heap[D]?=some (.deferred (some []))->Q .normal { a with defers:={ target:=.collected D,args:= #[] }::a.defers } W):
  (Code.rangeFunc g ps assign body).wpIn Fence.wide 0 P Q a w:=by
 refine wpIn_rangeFunc ?_;intro fn _;obtain⟨rec,hrec⟩:∃rec:LoopState->Option Code->Loop,rec=fun st pe=>{ state:=st,pending:=pe,fn,tmps:=a.tmps,params:=ps,assign,body,defers:=w.heap.size }:=⟨_,rfl⟩;obtain⟨W1,hW1⟩:=zNm ((w.alloc (.deferred (some []))).alloc (.loop (rec .ready none)));have hs1:W1.heap.size=w.heap.size+2:=by rw[<-hW1];simp
 have hL1:W1.heap[w.heap.size+1]?=some (.loop (rec .ready none)):=by rw[<-hW1];have:=World.alloc_heap_new (w.alloc (.deferred (some []))) (.loop (rec .ready none));rwa [World.size_alloc]at this
 have hK1:W1.heap[w.heap.size]?=some (.deferred (some [])):=by rw[<-hW1];exact(Below.heap_alloc _ _ _ (by simp)).trans (World.alloc_heap_new w _)
 have hb1:Below w.heap.size w W1:=by rw[<-hW1];exact((Below.refl _ w).alloc (Nat.le_refl _) _).alloc (by simp) _
 have hI1:I [] W1:=hI _ _ _ h0 (Nat.le_refl _) (rangeOwn.Aside.of_below hb1 (Nat.le_refl _));refine⟨w.heap.size+1,[{ target:=.collected w.heap.size,args:= #[] }],W1,{ target:=.fn (.func gf) lb,args:= #[.func (.yield (w.heap.size+1)) #[] #[]] },W1,gf,
  #[.func (.yield (w.heap.size + 1)) #[] #[]] ++ lb, W1, ?_, ?_, fun _ _ => trivial, ?_, (fun h => by cases h), ?_⟩;{rw[<-hW1,hrec];exact run_enterLoop_outer _ _ _ _ _};{
 simp only[resolve,hg];simp[go_sem]};{simp[invoke,go_sem,eg]};{
 refine(hseq (w.heap.size+1)
  (fun pre W=>w.heap.size+2<=W.heap.size/\I pre W/\W.heap[w.heap.size+1]?=some (.loop (rec .ready none))/\W.heap[w.heap.size]?=some (.deferred (some [])))
  W1 hb1 (fun s A B hs hsz hAB=>⟨Nat.le_trans hs.1 hAB.size,hI _ _ _ hs.2.1 (by omega) (hAB.mono (by omega)),(hAB.low _ (by omega) (fun h=>by have:=hX _ h;omega)).trans hs.2.2.1,(hAB.low _ (by omega) (fun h=>by have:=hX _ h;omega)).trans hs.2.2.2⟩)
  ?_ ⟨by omega,hI1,hL1,hK1⟩).mono ?_;{
 rintro pre x args W ⟨hsz,hi,hl,hk⟩ hrd hpre;have hy:=run_yield (P:=P) (args:=args) hl (by rw[hrec];exact hps x args W hrd);rw[hrec]at hy;obtain⟨W0,hW0⟩:=zNm (w₁ args W);have hb0:Below W.heap.size W W0:=by rw[<-hW0];exact hw₁ args W
 have hl0:W0.heap[w.heap.size+1]?=some (.loop (rec .ready none)):=(hb0.block _ (by omega)).trans hl;have hk0:W0.heap[w.heap.size]?=some (.deferred (some [])):=(hb0.block _ (by omega)).trans hk;have hz0:=hb0.size;have hi0:I pre W0:=hI _ _ _ hi (by omega) (rangeOwn.Aside.of_below hb0 (by omega));have hbd0:Bd x args (a₁ args W) W0:=by rw[<-hW0];exact hBd pre x args W hsz hi hrd
 refine⟨fn,_,assign,body,hy,roundIn_of_wpIn trivial (hassign _ x args W _ hrd ⟨_,by rw[hW0];exact run_beginRound hl0 (by rw[hrec]),?_⟩)⟩;obtain⟨W2,hW2⟩:=zNm (W0.putObj (w.heap.size+1) (.loop { rec .ready none with state:=.busy }));have hA2:rangeOwn.Aside X w.heap.size W0 W2:=by rw[<-hW2];exact rangeOwn.Aside.putObj _ (by omega) hl0 rfl
 have hl2:W2.heap[w.heap.size+1]?=some (.loop { rec .ready none with state:=.busy }):=by rw[<-hW2];exact World.putObj_heap_same (by omega)
 have hk2:W2.heap[w.heap.size]?=some (.deferred (some [])):=by rw[<-hW2];exact(World.putObj_heap_other (by omega)).trans hk0
 have hs2:W2.heap.size=W0.heap.size:=by rw[<-hW2];simp
 rw[hW2];refine wpIn_mono (hbody _ pre x args _ W2 (by omega) (hI _ _ _ hi0 (by omega) hA2) (hBdA _ _ _ _ _ hbd0 (by omega) hA2) hpre) ?_;rintro e a3 W3 hp;cases e with
 |normal=>(
 obtain⟨hk3,hi3⟩:=hp;have hl3:W3.heap[w.heap.size+1]?=some (.loop { rec .ready none with state:=.busy }):=hk3.2 _ _ hl2 (.inl rfl);have hd3:W3.heap[w.heap.size]?=some (.deferred (some [])):=hk3.2 _ _ hk2 (.inl rfl);have hs3:=hk3.1;have hr:=run_endRound (P:=P) none hl3;rw[hrec]at hr;have hA4:rangeOwn.Aside X w.heap.size W3 (W3.putObj (w.heap.size+1) (.loop (rec .ready none))):=rangeOwn.Aside.putObj _ (by omega) hl3 rfl;rw[hrec]at hA4;refine⟨_,_,hr,rfl,⟨by simp;omega,hI _ _ _ hi3 (by omega) hA4,?_,?_⟩,by simp;omega,fun k o hko hkS=>?_⟩;{rw[hrec];exact World.putObj_heap_same (by omega)};{exact(World.putObj_heap_other (by omega)).trans hd3};{
 by_cases hkne:k=w.heap.size+1;{
 subst hkne;rw[hl]at hko;rw[<-hko,hrec];exact World.putObj_heap_same (by omega)};{
 have hko0:W0.heap[k]?=some o:=(hb0.block k (Array.getElem?_eq_some_iff.1 hko).1).trans hko;refine(World.putObj_heap_other hkne).trans (hk3.2 k o ?_ hkS);rw[<-hW2];exact(World.putObj_heap_other hkne).trans hko0}})
 |_=>exact hp.elim};{
 rintro e W2 ⟨⟨v,rfl⟩,hsz,hi,hl,hk⟩;refine⟨none,_,by have:=run_endLoop (P:=P) hl (by rw[hrec];simp);rw[hrec]at this;exact this,hdone _ _ (Nat.le_refl _) (hI _ _ _ hi (by omega) (rangeOwn.Aside.putObj _ (by omega) hl rfl)) ((World.putObj_heap_other (by omega)).trans hk)⟩}}
end
end Go.Proofs.YthgenkkkapilhaaGreatDoor.rangeStr
namespace Go.Proofs.YthgenkkkapilhaaGreatDoor
open Go.Proofs.Tryz
section
open Go.RowKit
def EntCells (cs:List Value):Prop:=∃(k sz:Int) (p t d:ByteArray) (A B:Option Addr) (n m c e:Nat),cs=[.int .i64 k,.string p,.slice A n c,.string t,.int .i64 sz,.string d,.slice B m e]
def RetEB (e:Ending):Prop:=∃cs b,EntCells cs/\e=.returned (.tuple #[.agg cs.toArray,.bool b])
theorem get37_any (w:World) (v:Value) (l:List Ent) (hv:SeqAt entS w v l) (s:ByteArray):Calls prog 155 #[v,.string s] w fun e w'=>RetEB e/\Below w.heap.size w w':=by
 have Hv:=zY hv;obtain⟨A,c,rfl,h1,h2⟩:=hv.slice;clear hv;have hZ:=Blk.new w 182 [.int .i64 0,.string ⟨#[]⟩,.slice none 0 0,.string ⟨#[]⟩,.int .i64 0,.string ⟨#[]⟩,.slice none 0 0];change Blk (w.alloc (.cells #[.int .i64 0,.string ⟨#[]⟩,.slice none 0 0,.string ⟨#[]⟩,.int .i64 0,.string ⟨#[]⟩,.slice none 0 0] 182)) _ _ _ at hZ;have HZ0:=zY hZ;have HB0:=zY (zBl w (.cells #[.int .i64 0,.string ⟨#[]⟩,.slice none 0 0,.string ⟨#[]⟩,.int .i64 0,.string ⟨#[]⟩,.slice none 0 0] 182));clear hZ;go_enter func155,ntmps155;go_upto_region 1 with fail;generalize w.alloc (.cells #[.int .i64 0,.string ⟨#[]⟩,.slice none 0 0,.string ⟨#[]⟩,.int .i64 0,.string ⟨#[]⟩,.slice none 0 0] 182)=wa at *;go_wp2;go_loopw [7,10] (fun _ x wr=>∃i:Nat,i<=l.length/\x=.int .i64 (i:Int)/\Below wa.heap.size wa wr) (fun _ x _=>l.length-(intOf x).toNat);case atStart=>exact⟨0,by omega,rfl,Below.refl _ _⟩
 case round=>
 obtain⟨i,hi,rfl,hB⟩:=hrel;have HB:=zY hB;have HZ:=zY (HZ0.kept hB);clear hB;by_cases h:i<l.length;{
 have hiI:(i:Int)<l.length:=by omega
 obtain⟨x,hx⟩:∃x,l[i]?=some x:=⟨_,List.getElem?_eq_getElem h⟩;obtain⟨_,_,e9,_,_,h4⟩:=Hv.below (HB0.trans (HB.mono HB0.size));cases e9;obtain⟨b,o,cs,rfl,⟨va,vx,rfl,ra,rx⟩,hc⟩:=h4 i x hx;obtain⟨Aa,ca,rfl,_,_⟩:=ra.slice;obtain⟨Ax,cx,rfl,_,_⟩:=rx.slice;obtain⟨k,p,attrs,t,sz,d,exts⟩:=x;dsimp only at hc;generalize attrs.length=na at *;generalize exts.length=nx at *;have e0:wr.cell? ⟨b,o+i*7,none⟩=some (.int .i64 k):=hc 0 _ rfl;have e1:wr.cell? ⟨b,o+i*7+1,none⟩=some (.string p):=hc 1 _ rfl;have e2:wr.cell? ⟨b,o+i*7+2,none⟩=some (.slice Aa na ca):=hc 2 _ rfl;have e3:wr.cell? ⟨b,o+i*7+3,none⟩=some (.string t):=hc 3 _ rfl;have e4:wr.cell? ⟨b,o+i*7+4,none⟩=some (.int .i64 sz):=hc 4 _ rfl;have e5:wr.cell? ⟨b,o+i*7+5,none⟩=some (.string d):=hc 5 _ rfl;have e6:wr.cell? ⟨b,o+i*7+6,none⟩=some (.slice Ax nx cx):=hc 6 _ rfl;clear hc h4 hx ra rx;have hF:=Blk.new wr 182 [.int .i64 k,.string p,.slice Aa na ca,.string t,.int .i64 sz,.string d,.slice Ax nx cx];change Blk (wr.alloc (.cells #[.int .i64 k,.string p,.slice Aa na ca,.string t,.int .i64 sz,.string d,.slice Ax nx cx] 182)) _ _ _ at hF;have HBz:=zY (HB.alloc HB.size (.cells #[.int .i64 k,.string p,.slice Aa na ca,.string t,.int .i64 sz,.string d,.slice Ax nx cx] 182));have HZz:=zY (HZ.alloc (.cells #[.int .i64 k,.string p,.slice Aa na ca,.string t,.int .i64 sz,.string d,.slice Ax nx cx] 182));go_upto_region 4 with fail;clear e0 e1 e2 e3 e4 e5 e6;generalize wr.alloc (.cells #[.int .i64 k,.string p,.slice Aa na ca,.string t,.int .i64 sz,.string d,.slice Ax nx cx] 182)=wz at *;have hg1:=hF.c 1;have HFz:=zY hF;clear hF;by_cases hps:p=s;{
 subst hps;go_upto_region 5 with fail;refine wp_region_lit ?_;refine wpList_load_row rfl 182 (.tmp 7) rfl wr.heap.size rfl 182 _ (0,0) _ HFz.out underlying182 rfl (by kernel_rfl) ?_;refine wpList_store_row rfl 182 (.tmp 4) (.tmp 18) rfl w.heap.size _ rfl rfl 182 _ HZz.out (by kernel_rfl) rfl (by simp[Value.oneCell']) ?_;clear hg1;go_wp2_with fail;refine bodyPost_ret (results_row_tmp rfl _ _ w.heap.size 182 _ (0,0) _ rfl (setRow_heap _ _ _ _ _ _ HZz.out) underlying182 rfl (by kernel_rfl)) rfl ?_;exact⟨⟨_,true,⟨k,sz,p,t,d,Aa,Ax,na,nx,ca,cx,rfl⟩,rfl⟩,below_setRow (HB0.trans (HBz.mono HB0.size)) (Nat.le_refl _) _⟩};{
 have b3:¬p.toList=s.toList:=fun e=>hps (by rw[ByteArray.toList_eq,ByteArray.toList_eq]at e;exact ByteArray.ext (Array.toList_inj.1 e));have b4:(p.toList==s.toList)=false:=by rw[beq_eq_false_iff_ne];exact b3
 clear hps;go_wp2;go_roundw;case rel=>exact⟨i+1,by omega,by go_num,HBz.out⟩
 case measure=>simp[intOf];omega}};{
 have hiI:¬(i:Int)<l.length:=by omega
 have hbt:(prog.built 182 [])=some #[.int .i64 0,.string ⟨#[]⟩,.slice none 0 0,.string ⟨#[]⟩,.int .i64 0,.string ⟨#[]⟩,.slice none 0 0]:=by kernel_rfl
 have hmap:∀f:Nat×Operand->Nat×Value,(Array.map f #[]).toList=[]:=fun f=>by simp
 go_upto_region 7 with fail;refine wp_region_lit ?_;refine wpList_build rfl 182 #[] rfl (by rw[hmap,hbt];rfl) ?_;rw[hmap,hbt];refine wpList_store_row rfl 182 (.tmp 4) (.tmp 20) rfl w.heap.size #[.int .i64 0,.string ⟨#[]⟩,.slice none 0 0,.string ⟨#[]⟩,.int .i64 0,.string ⟨#[]⟩,.slice none 0 0] rfl rfl 182 _ HZ.out (by kernel_rfl) rfl (by simp[Value.oneCell']) ?_;go_wp2_with fail;refine bodyPost_ret (results_row_tmp rfl _ _ w.heap.size 182 _ (0,0) _ rfl (setRow_heap _ _ _ _ _ _ HZ.out) underlying182 rfl (by kernel_rfl)) rfl ?_;exact⟨⟨[.int .i64 0,.string ⟨#[]⟩,.slice none 0 0,.string ⟨#[]⟩,.int .i64 0,.string ⟨#[]⟩,.slice none 0 0],false,⟨0,0,_,_,_,none,none,0,0,0,0,rfl⟩,rfl⟩,below_setRow (HB0.trans (HB.mono HB0.size)) (Nat.le_refl _) _⟩}
theorem dir37_any (w:World) (v:Value) (l:List Ent) (hv:SeqAt entS w v l) (s:ByteArray):Calls prog 228 #[v,.string s] w fun e w'=>RetI e/\Below w.heap.size w w':=by
 have HG:=zY (get37_any w v l hv s);obtain⟨A,c,rfl,h1,h2⟩:=hv.slice;clear hv;by_cases h0:s.size=0;{
 have f0:s.toList.isEmpty=true:=by rw[show s=⟨#[]⟩ by apply ByteArray.ext;exact Array.eq_empty_of_size_eq_zero h0];exact isEmptyV0
 clear h0;go_enter func228,ntmps228;go_wp2_with fail;go_ret;exact⟨RetI.of 0,Below.refl _ _⟩};{
 have f0:s.toList.isEmpty=false:=isEmptyV h0;clear h0;go_enter func228,ntmps228;go_wp2_with fail;refine HG.mono ?_;rintro e1 w1 ⟨⟨cs,b,⟨k,sz,p,t,d,Aa,Ax,na,nx,ca,cx,rfl⟩,rfl⟩,hb⟩;have HB:=zY hb;have hF:=Blk.new w1 182 [.int .i64 k,.string p,.slice Aa na ca,.string t,.int .i64 sz,.string d,.slice Ax nx cx];change Blk (w1.alloc (.cells #[.int .i64 k,.string p,.slice Aa na ca,.string t,.int .i64 sz,.string d,.slice Ax nx cx] 182)) _ _ _ at hF;have HBz:=zY (HB.alloc HB.size (.cells #[.int .i64 k,.string p,.slice Aa na ca,.string t,.int .i64 sz,.string d,.slice Ax nx cx] 182));have c0:=hF.c 0;clear hb hF HG HB;cases b with
 |false=>go_wp2_with fail;go_ret;exact⟨RetI.of 9,HBz.out⟩
 |true=>
 by_cases hk:k=2;{
 subst hk;go_wp2_with fail;go_ret;exact⟨RetI.of 0,HBz.out⟩};{
 have f1:(k != 2)=true:=by rw[bne_iff_ne];exact hk
 clear hk;go_wp2_with fail;go_ret;exact⟨RetI.of 10,HBz.out⟩}}
end
end Go.Proofs.YthgenkkkapilhaaGreatDoor