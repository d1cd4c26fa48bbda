/- Texts, joined. -/
import Derived.Test.YthgenkkkapilhaaGreatDoorVTn15
set_option linter.all false
set_option maxRecDepth 100000
set_option maxHeartbeats 64000000
namespace Go.Proofs.YthgenkkkapilhaaGreatDoor
open Go.Proofs.Tryz
section
open Go.RowKit
theorem flatX:Flat extS:=fun _ _ _ _ h=>h
theorem flatC:Flat chkS:=fun _ _ _ _ h=>h
theorem flatG:Flat segS:=fun _ _ _ _ h=>h
theorem flatS:Flat strS:=fun _ _ _ _ h=>h
theorem flatH:Flat holS:=fun _ _ _ _ h=>h
section
variable {α:Type} {ρ:Shape α} {w0 w1 w w' W:World} {v:Value} {xs:List α}
theorem OwnSeq.low {t:TypeId} (h:OwnSeq ρ t w1 W v xs) (hF:Flat ρ) (hs:w0.heap.size<=w1.heap.size):OwnSeq ρ t w0 W v xs:=by
 obtain⟨css,ho,hb⟩:=h;exact⟨css,⟨ho.1,ho.2.imp id fun⟨g,cap,cur,e,hB,r⟩=>⟨g,cap,cur,e,by omega,r⟩⟩,hb.mono fun _ _ h=>hF _ _ _ _ h⟩
theorem OwnSeq.fro {t:TypeId} {g n c:Nat} (h:OwnSeq ρ t w0 W (.slice (some ⟨g,0,none⟩) n c) xs) (i:Nat):W.frozen? ⟨g,i,none⟩=false:=by
 obtain⟨css,ho,_⟩:=h;rcases ho.2 with⟨e,_⟩|⟨g',cap,cur,e,hB,hg,_⟩;{cases e};{
 cases e;simp[World.frozen?,hg]}
theorem OwnSeq.addr {t:TypeId} (h:OwnSeq ρ t w0 W v xs) (h0:0<xs.length):∃g c,v=.slice (some ⟨g,0,none⟩) xs.length c/\w0.heap.size<=g:=by
 obtain⟨css,ho,_⟩:=h;exact ownV_at ho h0
theorem OwnSeq.lt {t:TypeId} (h:OwnSeq ρ t w0 W v xs) {g:Nat} (hg:v.ownBlock=some g):g<W.heap.size:=by
 obtain⟨css,ho,_⟩:=h;exact(ho.lt g hg).2
end
theorem append_seqO {α:Type} {ρ:Shape α} {w0 w:World} {v:Value} {xs us:List α} {P:Program} {ops:Array Oper} {rest:List Oper} {o:Oper} {a:Act} {Q:Exit->Act->World->Prop} {TS T:TypeId} {b:Nat} {z:Value} (E:Elem P TS T ρ.n b z) (hgd:o.guard=none) (s x:Operand) (ho:o.op=.call { callee:=.builtin .append,args:= #[s,x],argTypes:= #[TS,TS] })
  (hs:a.eval s=v) (hown:OwnSeq ρ T w0 w v xs) {vx:Value} (hx:a.eval x=vx) (hv:SrcAt ρ w0 w vx us) (hn:xs.length+us.length<=100000000) (hB:Below w0.heap.size w0 w)
  (h:∀v' w',OwnSeq ρ T w0 w' v' (xs++us)->w.grownBy w' v.ownBlock->(v'.ownBlock=v.ownBlock∨v'.ownBlock=some w.heap.size)->Below w0.heap.size w0 w'->wpList P ops Q rest (a.put o.dst v') w'):wpList P ops Q (o::rest) a w:=by
 obtain⟨v',w',hr,g1,g2,g4,g3⟩:=run_appendS E o.type hown hv hn hB;refine wpList_plain hgd fun K hK=>?_;unfold Oper.wp execOp;simp only[ho,resolve,invoke,builtin,Sem.run_bind,Sem.run_pure,Result.andThen_ok,List.map_toArray,List.map_cons,List.map_nil,hs,hx,hr];exact hK _ _ (h v' w' g1 g2 g4 g3)
def Grow {α:Type} (ρ:Shape α) (t:TypeId) (w0 w:World) (v:Value) (m:Nat) (e:Ending) (w':World):Prop:=
 ∃v' l',e=.returned v'/\OwnSeq ρ t w0 w' v' l'/\l'.length<=m/\(v'.ownBlock=v.ownBlock∨∃k,v'.ownBlock=some k/\w.heap.size<=k)/\Below w0.heap.size w0 w'/\w.grownBy w' v.ownBlock
theorem grownBy_below {w w':World} {r:Option Nat} (h:Below w.heap.size w w'):w.grownBy w' r:=⟨h.os,h.tape,h.output,h.size,fun k hk _=>h.block k hk⟩
theorem grownBy_trans {a b c:World} {r:Option Nat} (h:a.grownBy b r) (k:b.grownBy c r):a.grownBy c r:=
 ⟨k.os.trans h.os,k.tape.trans h.tape,k.output.trans h.output,Nat.le_trans h.size k.size,fun i hi hn=>(k.block i (Nat.lt_of_lt_of_le hi h.size) hn).trans (h.block i hi hn)⟩
theorem add35_any (w0 w:World) (v:Value) (l:List Ext) (ho:OwnSeq extS 252 w0 w v l) (hb0:Below w0.heap.size w0 w) (hl:l.length<=900000) (x:Ext):
  Calls prog 219 #[v,.agg #[.int .i64 x.s,.int .i64 x.o,.int .i64 x.l]] w fun e w'=>Grow extS 252 w0 w v (l.length+1) e w':=by
 obtain⟨xs,xo,xl⟩:=x;dsimp only;have hK:=Blk.new w 252 [.int .i64 xs,.int .i64 xo,.int .i64 xl];change Blk (w.alloc (.cells #[.int .i64 xs,.int .i64 xo,.int .i64 xl] 252)) _ _ _ at hK;have HK:=zY hK;have HG:=zY (grownBy_below (r:=v.ownBlock) (zBl w (.cells #[.int .i64 xs,.int .i64 xo,.int .i64 xl] 252)));have HBO:=zY hb0;have HBW:=zY (zBl w (.cells #[.int .i64 xs,.int .i64 xo,.int .i64 xl] 252));have HB:=zY (hb0.alloc hb0.size (.cells #[.int .i64 xs,.int .i64 xo,.int .i64 xl] 252));have Ho:=zY (ho.alloc (.cells #[.int .i64 xs,.int .i64 xo,.int .i64 xl] 252));have hsz:(w.alloc (.cells #[.int .i64 xs,.int .i64 xo,.int .i64 xl] 252)).heap.size=w.heap.size+1:=World.size_alloc _ _;have HSz:=zY hsz;have Hl1:Hid (l.length+1<=100000000):=zY (by omega);obtain⟨Av,cv,rfl⟩:=ho.slice;clear hK hb0 ho hsz;go_enter func219,ntmps219;go_upto_region 2 with fail;generalize w.alloc (.cells #[.int .i64 xs,.int .i64 xo,.int .i64 xl] 252)=wa at *;have c0:=HK.c 0;have c1:=HK.c 1;have c2:=HK.c 2;have HQ:=zY (fun n=>Ho.below (zBd (Below.refl _ wa) n));have HQB:=zY (fun n=>zBd HB.out n);have HQG:=zY (fun n=>grownBy_trans HG.out (grownBy_below (r:=Value.ownBlock (.slice Av l.length cv)) (zBd (Below.refl wa.heap.size wa) n)));have HWs:Hid (∀k,k=wa.heap.size->w.heap.size<=k):=zY (fun k hk=>by have:=HSz.out;omega);by_cases h0:l.length=0;{
 have f0:decide ((0:Int)<(l.length:Int))=false:=by rw[h0];rfl
 have f1:¬0<l.length:=by omega
 have f2:decide (0<l.length)=false:=decide_eq_false f1;clear h0;go_quiet (fail);go_wp2_with (at_builtin;refine append_seqO (ρ:=extS) (w0:=w0) (v:=.slice Av l.length cv) Tryz.elemExt rfl _ _ rfl rfl ((HQ.out _).alloc _) rfl (src1 (ρ:=extS) [.int .i64 xs,.int .i64 xo,.int .i64 xl] ⟨xs,xo,xl⟩ rfl rfl) Hl1.out ((HQB.out _).alloc (HQB.out _).size _) ?_;intro va wv hob hgb hnb hbb;have KU:=zY hob;have KB:=zY hbb;have KN:=zY hnb;have KG:=zY (grownBy_trans (grownBy_trans (HQG.out _) (grownBy_below ((Below.refl _ _).alloc (Nat.le_refl _) _))) hgb);clear hob hgb hbb hnb);go_ret;exact⟨va,_,rfl,KU.out,by simp,KN.out.imp id fun e=>⟨_,e,by have:=HSz.out;simp;omega⟩,KB.out,KG.out⟩};{
 have f0:decide ((0:Int)<(l.length:Int))=true:=decide_eq_true (by omega);have f2:decide (0<l.length)=true:=decide_eq_true (by omega);by_cases h1:xs=0;{
 have f3:(xs != 0)=false:=by rw[h1];rfl
 have f4:(xs==0)=true:=by rw[h1];rfl
 clear h1;go_quiet (fail);go_wp2_with (at_builtin;refine append_seqO (ρ:=extS) (w0:=w0) (v:=.slice Av l.length cv) Tryz.elemExt rfl _ _ rfl rfl ((HQ.out _).alloc _) rfl (src1 (ρ:=extS) [.int .i64 xs,.int .i64 xo,.int .i64 xl] ⟨xs,xo,xl⟩ rfl rfl) Hl1.out ((HQB.out _).alloc (HQB.out _).size _) ?_;intro va wv hob hgb hnb hbb;have KU:=zY hob;have KB:=zY hbb;have KN:=zY hnb;have KG:=zY (grownBy_trans (grownBy_trans (HQG.out _) (grownBy_below ((Below.refl _ _).alloc (Nat.le_refl _) _))) hgb);clear hob hgb hbb hnb);go_ret;exact⟨va,_,rfl,KU.out,by simp,KN.out.imp id fun e=>⟨_,e,by have:=HSz.out;simp;omega⟩,KB.out,KG.out⟩};{
 have f3:(xs != 0)=true:=by rw[bne_iff_ne];exact h1
 obtain⟨m,hm⟩:∃m,l.length=m+1:=⟨l.length-1,by omega⟩;have hmI:(l.length:Int)-1=m:=by omega
 have hmw:IntKind.i64.wrap ((l.length:Int)-1)=m:=by rw[hmI];exact zIw (by omega)
 have hml:m<l.length:=by omega
 have hmL:(m:Int)<l.length:=by omega
 obtain⟨g,c',e,hg⟩:=Ho.addr (by omega);cases e;obtain⟨y,hy⟩:∃y,l[m]?=some y:=⟨_,List.getElem?_eq_getElem hml⟩;have Hy:=zY hy;obtain⟨_,_,e9,_,_,h4⟩:=Ho.at HB.out;cases e9;obtain⟨b,o,cs,e8,rfl,hc⟩:=h4 m y hy;cases e8;obtain⟨ys,yo,yl⟩:=y;have d0:wa.cell? ⟨g,m*3,none⟩=some (.int .i64 ys):=by simpa [extS]using hc 0 _ rfl
 have d1:wa.cell? ⟨g,m*3+1,none⟩=some (.int .i64 yo):=by simpa [extS]using hc 1 _ rfl
 have d2:wa.cell? ⟨g,m*3+2,none⟩=some (.int .i64 yl):=by simpa [extS]using hc 2 _ rfl
 clear hc h4 hy hm h0 h1 hg;by_cases h2:ys=xs;{
 have f5:(ys==xs)=true:=by rw[beq_iff_eq];exact h2
 obtain⟨z,hz⟩:=zNm (IntKind.i64.wrap (yo+yl));clear h2;by_cases h3:z=xo;{
 have f6:(z==xo)=true:=by rw[beq_iff_eq];exact h3
 clear h3;have HNew:=zY (fun n=>OwnSeq.new (ρ:=extS) (t:=252) (wa.drewN n));have HSe:=zY (fun n=>(Ho.at HB.out).below (zBd (Below.refl _ wa) n));have Hl2:Hid (([]:List Ext).length+l.length<=100000000):=zY (by have:=Hl1.out;simp;omega);go_quiet (fail);go_wp2_with (at_builtin;refine append_seqO (ρ:=extS) (v:=.slice (some ⟨wa.heap.size,0,none⟩) 0 0) Tryz.elemExt rfl _ _ rfl rfl (HNew.out _) rfl (SrcAt.of (HSe.out _) ((Below.refl _ _).alloc (Nat.le_refl _) _)) Hl2.out ((Below.refl _ _).alloc (Nat.le_refl _) _) ?_;intro va wv hob _ _ hbb;have KU:=zY hob;have KB:=zY hbb;clear hob hbb);obtain⟨wn,hwn⟩:=zNm (wa.drewN nq);rw[hwn]at KU KB;have HWn:Hid (Below wa.heap.size wa wn/\wn.heap.size=wa.heap.size):=zY (by rw[<-hwn];exact⟨zBd (Below.refl _ wa) nq,rfl⟩);clear hwn;obtain⟨g2,c2',e,hg2⟩:=KU.out.addr (by simp;omega);rw[show (([]:List Ext)++l).length=l.length by simp]at e;subst e;have Kl:Hid (OwnSeq extS 252 wn wv (.slice (some ⟨g2,0,none⟩) l.length c2') l):=zY (by have:=KU.out;rwa [List.nil_append]at this);obtain⟨_,_,e9,_,_,h4⟩:=Kl.out.at KB.out;cases e9;obtain⟨b,o,cs,e8,rfl,hc⟩:=h4 m _ Hy.out;cases e8;have k2:wv.cell? ⟨g2,m*3+2,none⟩=some (.int .i64 yl):=by simpa [extS]using hc 2 _ rfl
 have kf:=Kl.out.fro (m*3+2);have HK2:=zY (HK.kept (HWn.1.trans (KB.out.mono (by rw[HWn.2];exact Nat.le_refl _))));have x2:=HK2.c 2;obtain⟨zz,hzz⟩:=zNm (IntKind.i64.wrap (yl+xl));have HF:Hid (OwnSeq extS 252 w0 (wv.setCell ⟨g2,m*3+2,none⟩ (.int .i64 zz)).drew (.slice (some ⟨g2,0,none⟩) l.length c2') (l.set m ⟨ys,yo,zz⟩)):=zY
  ((((Kl.out.setc Hy.out (show 2<extS.n by decide) (.int .i64 zz) (y:=⟨ys,yo,zz⟩) (fun cs h=>by
   have h':cs=[.int .i64 ys,.int .i64 yo,.int .i64 yl]:=h
   rw[h']
   rfl))).drew).low flatX (by rw[HWn.2];exact HB.size));have hsz2:=HSz.out;have HBw:Hid (Below w.heap.size w (wv.setCell ⟨g2,m*3+2,none⟩ (.int .i64 zz)).drew):=zY
  ((((HBW.trans (HWn.1.mono (by omega))).trans (KB.out.mono (by rw[HWn.2];omega))).setCell (by show w.heap.size<=g2;have:=HWn.2;omega) _).drew);have HB0:Hid (Below w0.heap.size w0 (wv.setCell ⟨g2,m*3+2,none⟩ (.int .i64 zz)).drew):=zY (HBO.trans (HBw.mono HBO.size));have Hg2:Hid (w.heap.size<=g2):=zY (by have:=HWn.2;omega);clear hc h4 hg2 hsz2 c0 c1 c2 d0 d1 d2 KU;have hmv:IntKind.i64.wrap (m:Int)=m:=zIw (by omega);go_still_tail 14,(by kernel_rfl);go_wp2;go_ret;exact⟨_,_,rfl,HF.out,by rw[List.length_set];omega,.inr ⟨g2,rfl,Hg2.out⟩,HB0.out,grownBy_below HBw.out⟩};{
 have f6:(z==xo)=false:=by rw[beq_eq_false_iff_ne];exact h3
 clear h3;go_quiet (fail);go_wp2_with (at_builtin;refine append_seqO (ρ:=extS) (w0:=w0) (v:=.slice (some ⟨g,0,none⟩) l.length cv) Tryz.elemExt rfl _ _ rfl rfl ((HQ.out _).alloc _) rfl (src1 (ρ:=extS) [.int .i64 xs,.int .i64 xo,.int .i64 xl] ⟨xs,xo,xl⟩ rfl rfl) Hl1.out ((HQB.out _).alloc (HQB.out _).size _) ?_;intro va wv hob hgb hnb hbb;have KU:=zY hob;have KB:=zY hbb;have KN:=zY hnb;have KG:=zY (grownBy_trans (grownBy_trans (HQG.out _) (grownBy_below ((Below.refl _ _).alloc (Nat.le_refl _) _))) hgb);clear hob hgb hbb hnb);go_ret;exact⟨va,_,rfl,KU.out,by simp,KN.out.imp id fun e=>⟨_,e,by have:=HSz.out;simp;omega⟩,KB.out,KG.out⟩}};{
 have f5:(ys==xs)=false:=by rw[beq_eq_false_iff_ne];exact h2
 clear h2;go_quiet (fail);go_wp2_with (at_builtin;refine append_seqO (ρ:=extS) (w0:=w0) (v:=.slice (some ⟨g,0,none⟩) l.length cv) Tryz.elemExt rfl _ _ rfl rfl ((HQ.out _).alloc _) rfl (src1 (ρ:=extS) [.int .i64 xs,.int .i64 xo,.int .i64 xl] ⟨xs,xo,xl⟩ rfl rfl) Hl1.out ((HQB.out _).alloc (HQB.out _).size _) ?_;intro va wv hob hgb hnb hbb;have KU:=zY hob;have KB:=zY hbb;have KN:=zY hnb;have KG:=zY (grownBy_trans (grownBy_trans (HQG.out _) (grownBy_below ((Below.refl _ _).alloc (Nat.le_refl _) _))) hgb);clear hob hgb hbb hnb);go_ret;exact⟨va,_,rfl,KU.out,by simp,KN.out.imp id fun e=>⟨_,e,by have:=HSz.out;simp;omega⟩,KB.out,KG.out⟩}}}
end
end Go.Proofs.YthgenkkkapilhaaGreatDoor