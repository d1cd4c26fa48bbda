/-
  Joined: VpL.
-/
import Derived.Test.YthgenkkkapilhaaGreatDoorVQn16
set_option linter.all false
set_option maxRecDepth 100000
set_option maxHeartbeats 64000000
namespace Go.Proofs.YthgenkkkapilhaaGreatDoor
open Go.Proofs.Tryz
section
open Go.RowKit
def RetTE (w':World) (l:List Ent) (e:Ent) (r:Ending):Prop:=∃v m n,r=.returned (.tuple #[v,.int .i64 n])/\SeqAt entS w' v m/\m.length<=l.length+1/\∀x∈m,x=e∨x∈l
theorem RetTE.none {w':World} {l:List Ent} {e:Ent} (n:Int):RetTE w' l e (.returned (.tuple #[.slice none 0 0,.int .i64 n])):=⟨_,[],n,rfl,SeqAt.nil _,by simp,fun x hx=>nomatch hx⟩
theorem apply37_any (w:World) (v va vx:Value) (l:List Ent) (e:Ent) (hv:SeqAt entS w v l) (hva:SeqAt atrS w va e.attrs) (hvx:SeqAt extS w vx e.exts) (hl:l.length<=1000) (hz:∀x∈l,x.path.size<=1000000) (hp:e.path.size<=1000000) (ht:e.tgt.size<=1000000) (ha:∀a∈e.attrs,a.k.size<=1000000) (hx:e.exts.length<=100000):
  Calls prog 154 #[v,entV e va vx] w fun r w'=>RetTE w' l e r/\Below w.heap.size w w':=by
 have HCk:=zY (fun(W:World) (h:Below w.heap.size w W)=>check36_any W e va vx (hva.below h) (hvx.below h) hp ht ha hx);have Hva:=zY hva;have Hvx:=zY hvx;have Hv:=zY hv;have Hz:=zY hz;have Hl:=zY hl;have HHp:=zY hp;obtain⟨k,path,attrs,tgt,size,dig,exts⟩:=e;obtain⟨Aa,ca,rfl,_,_⟩:=hva.slice;obtain⟨Ax,cx,rfl,_,_⟩:=hvx.slice;obtain⟨A,c,rfl,h1,h2⟩:=hv.slice;rw[entV]at HCk⊢;dsimp only at HCk HHp⊢;generalize attrs.length=na at *;generalize exts.length=nx at *;have HG:=zY (fun(W:World) (h:SeqAt entS W (.slice A l.length c) l)=>get37_any W (.slice A l.length c) l h path);have hK:=Blk.new w 182 [.int .i64 k,.string path,.slice Aa na ca,.string tgt,.int .i64 size,.string dig,.slice Ax nx cx];change Blk (w.alloc (.cells #[.int .i64 k,.string path,.slice Aa na ca,.string tgt,.int .i64 size,.string dig,.slice Ax nx cx] 182)) _ _ _ at hK;have HK:=zY hK;have HB0:=zY (zBl w (.cells #[.int .i64 k,.string path,.slice Aa na ca,.string tgt,.int .i64 size,.string dig,.slice Ax nx cx] 182));clear hK hv hva hvx hz hl hp ht ha hx;go_enter func154,ntmps154;go_upto_region 1 with fail;generalize w.alloc (.cells #[.int .i64 k,.string path,.slice Aa na ca,.string tgt,.int .i64 size,.string dig,.slice Ax nx cx] 182)=wa at *;have c0:=HK.c 0;have c1:=HK.c 1;have c2:=HK.c 2;have c3:=HK.c 3;have c4:=HK.c 4;have c5:=HK.c 5;have c6:=HK.c 6;go_wp2_with fail;refine(HCk.out _ HB0.out).mono ?_;rintro e1 w1 ⟨⟨n1,rfl,hck⟩,hb1⟩;clear hck;have HB1:=zYt HB0 hb1;have HK1:=zY (HK.kept hb1);clear hb1 c0 c1 c2 c3 c4 c5 c6 HK HB0 HCk;by_cases hn1:n1=0;{
 subst hn1;have c1:=HK1.c 1;go_upto_region 4 with fail;go_wp2_with fail;refine(HG.out _ (Hv.below HB1.out)).mono ?_;rintro e2 w2 ⟨⟨cs,bt,⟨ok_,osz,op,ot,od,oA,oX,ona,onx,oca,ocx,rfl⟩,rfl⟩,hb2⟩;have HB2:=zYt HB1 hb2;have HK2:=zY (HK1.kept hb2);clear hb2 c1 HK1 HB1;have hF:=Blk.new w2 182 [.int .i64 ok_,.string op,.slice oA ona oca,.string ot,.int .i64 osz,.string od,.slice oX onx ocx];change Blk (w2.alloc (.cells #[.int .i64 ok_,.string op,.slice oA ona oca,.string ot,.int .i64 osz,.string od,.slice oX onx ocx] 182)) _ _ _ at hF;have HF:=zY hF;have HB3:=zY (HB2.alloc HB2.size (.cells #[.int .i64 ok_,.string op,.slice oA ona oca,.string ot,.int .i64 osz,.string od,.slice oX onx ocx] 182));have HK3:=zY (HK2.alloc (.cells #[.int .i64 ok_,.string op,.slice oA ona oca,.string ot,.int .i64 osz,.string od,.slice oX onx ocx] 182));clear hF HB2 HK2;go_upto_region 5 with fail;generalize w2.alloc (.cells #[.int .i64 ok_,.string op,.slice oA ona oca,.string ot,.int .i64 osz,.string od,.slice oX onx ocx] 182)=wb at *;generalize w2.heap.size=gb at *;have HN:=zY (OwnSeq.new (ρ:=entS) (t:=182) wb);have Hvb:=zY (Hv.below HB3.out);have d0:=HK3.c 0;have d1:=HK3.c 1;have x0:=HF.c 0;go_upto_region 6 with fail;have HNB:Hid (Below wb.heap.size wb (wb.alloc (.cells #[] 182))):=zY ((Below.refl _ _).alloc (Nat.le_refl _) _);have HK4:=zY (HK3.alloc (.cells #[] 182));have HF4:=zY (HF.alloc (.cells #[] 182));generalize wb.alloc (.cells #[] 182)=wn at *;generalize (Value.slice (some ⟨wb.heap.size,0,none⟩) 0 0)=vn at *;clear d0 d1 x0;have d0:=HK4.c 0;have d1:=HK4.c 1;have x0:=HF4.c 0
 have HSrc:Hid (∀(xk xsz:Int) (xp xt xd:ByteArray) (xA xX:Option Addr) (xna xca xnx xcx:Nat) (xat:List Atr) (xex:List Ext),xat.length=xna->xex.length=xnx->SeqAt atrS wb (.slice xA xna xca) xat->SeqAt extS wb (.slice xX xnx xcx) xex->entS.R wb [.int .i64 xk,.string xp,.slice xA xna xca,.string xt,.int .i64 xsz,.string xd,.slice xX xnx xcx] ⟨xk,xp,xat,xt,xsz,xd,xex⟩):=zY (fun xk xsz xp xt xd xA xX xna xca xnx xcx xat xex _ _ h3 h4=>⟨_,_,rfl,h3,h4⟩);have hk:k=4∨(k=5∨k=6)∨(k≠4/\k≠5/\k≠6):=by omega
 have he:path.size=0∨path.size≠0:=by omega
 have HEr:Hid (∀(W:World) (n:Int),Below wb.heap.size wb W->RetTE W l ⟨k,path,attrs,tgt,size,dig,exts⟩ (.returned (.tuple #[.slice none 0 0,.int .i64 n]))/\Below w.heap.size w W):=zY (fun W n h=>⟨RetTE.none n,HB3.trans (h.mono HB3.size)⟩);have HUn:=zY (fun(W:World) (q:ByteArray) (hq:q.size<=1000000)=>under_any W q path hq HHp.out);rcases hk with rfl|hk|⟨k4,k5,k6⟩;{
 have hgo:(bt=false/\path.toList.isEmpty=false)∨(bt=true∨(bt=false/\path.toList.isEmpty=true)):=by{
 cases bt;{
 cases path.toList.isEmpty;{exact .inl ⟨rfl,rfl⟩};{exact .inr (.inr ⟨rfl,rfl⟩)}};{exact .inr (.inl rfl)}};rcases hgo with⟨rfl,hne⟩|hgo;{
 go_wp2_with fail;go_ret2;exact HEr.out _ _ HNB.out};{
 rcases hgo with rfl|⟨rfl,hne⟩;all_goals
 go_wp2;go_loopw [9,46] (fun y x wr=>∃(i:Nat) (m:List Ent),i<=l.length/\x=.int .i64 (i:Int)/\m.length<=i/\(∀z∈m,z∈l)/\OwnSeq entS 182 wb wr y m/\Below wb.heap.size wb wr) (fun _ x _=>l.length-(intOf x).toNat);case atStart=>exact⟨0,[],by omega,rfl,by simp,(fun z hz=>nomatch hz),HN.out,HNB.out⟩
 case round=>
 obtain⟨i,m,hi,rfl,hm,hall,ho,hB⟩:=hrel;have HBr:=zY hB;have Hall:=zY hall;have HO:=zY ho;have Hl1:Hid (m.length+1<=100000000):=zY (by have:=Hl.out;omega);clear hB hall ho;by_cases h:i<l.length;{
 have hiI:(i:Int)<l.length:=by omega
 obtain⟨x,hx⟩:∃x,l[i]?=some x:=⟨_,List.getElem?_eq_getElem h⟩;have Hxm:=zY (List.mem_of_getElem? hx);have Hxz:=zY (Hz.out x (List.mem_of_getElem? hx));obtain⟨_,_,e9,_,_,h4⟩:=Hvb.out;cases e9;obtain⟨b,o,cs,rfl,⟨yva,yvx,rfl,ra,rx⟩,hc⟩:=h4 i x hx;have Hra:=zY ra;have Hrx:=zY rx;obtain⟨xA,xca,rfl,_,_⟩:=ra.slice;obtain⟨xX,xcx,rfl,_,_⟩:=rx.slice;obtain⟨xk,xp,xat,xt,xsz,xd,xex⟩:=x;dsimp only at hc Hra Hrx Hxz;generalize hxna:xat.length=xna at *;generalize hxnx:xex.length=xnx at *;have Hx1:=zY hxna;have Hx2:=zY hxnx;have e0:=cell_below HBr.out (show wb.cell? ⟨b,o+i*7,none⟩=some (.int .i64 xk) from hc 0 _ rfl);have e1:=cell_below HBr.out (show wb.cell? ⟨b,o+i*7+1,none⟩=some (.string xp) from hc 1 _ rfl);have e2:=cell_below HBr.out (show wb.cell? ⟨b,o+i*7+2,none⟩=some (.slice xA xna xca) from hc 2 _ rfl);have e3:=cell_below HBr.out (show wb.cell? ⟨b,o+i*7+3,none⟩=some (.string xt) from hc 3 _ rfl);have e4:=cell_below HBr.out (show wb.cell? ⟨b,o+i*7+4,none⟩=some (.int .i64 xsz) from hc 4 _ rfl);have e5:=cell_below HBr.out (show wb.cell? ⟨b,o+i*7+5,none⟩=some (.string xd) from hc 5 _ rfl);have e6:=cell_below HBr.out (show wb.cell? ⟨b,o+i*7+6,none⟩=some (.slice xX xnx xcx) from hc 6 _ rfl);clear hc h4 hx ra rx hxna hxnx;have HXf:Hid (Blk (wr.alloc (.cells #[.int .i64 xk,.string xp,.slice xA xna xca,.string xt,.int .i64 xsz,.string xd,.slice xX xnx xcx] 182)) wr.heap.size 182 [.int .i64 xk,.string xp,.slice xA xna xca,.string xt,.int .i64 xsz,.string xd,.slice xX xnx xcx]):=zY (Blk.new _ _ _)
 have HBz:=zY (HBr.alloc HBr.size (.cells #[.int .i64 xk,.string xp,.slice xA xna xca,.string xt,.int .i64 xsz,.string xd,.slice xX xnx xcx] 182));have HOz:=zY (HO.alloc (.cells #[.int .i64 xk,.string xp,.slice xA xna xca,.string xt,.int .i64 xsz,.string xd,.slice xX xnx xcx] 182));go_upto_region 15 with fail;clear e0 e1 e2 e3 e4 e5 e6;generalize wr.alloc (.cells #[.int .i64 xk,.string xp,.slice xA xna xca,.string xt,.int .i64 xsz,.string xd,.slice xX xnx xcx] 182)=wz at *;generalize wr.heap.size=gx at *;have HKz:=zY (HK3.kept HBz.out);have d0:=HKz.c 0;have d1:=HKz.c 1;have x0:=HXf.c 0;have x1:=HXf.c 1;have x2:=HXf.c 2;have x3:=HXf.c 3;have x4:=HXf.c 4;have x5:=HXf.c 5;have x6:=HXf.c 6;go_wp2_with fail;refine(HUn.out _ xp Hxz.out).mono ?_;rintro e5 w5 ⟨⟨r,rfl⟩,hb5⟩;have HOy:=zY (HOz.below hb5);have HBy:=zYt HBz hb5;have HXg:=zY (HXf.kept hb5);clear hb5 x0 x1 x2 x3 x4 x5 x6 d0 d1;have x0:=HXg.c 0;have x1:=HXg.c 1;have x2:=HXg.c 2;have x3:=HXg.c 3;have x4:=HXg.c 4;have x5:=HXg.c 5;have x6:=HXg.c 6;cases r with
 |true=>(
 go_wp2_with fail;go_roundw;case rel=>exact⟨i+1,m,by omega,by go_num,by omega,Hall.out,HOy.out,HBy.out⟩
 case measure=>simp[intOf];omega)
 |false=>
 go_wp2_with (at_builtin;refine append_seq (ρ:=entS) (w0:=wb) Tryz.elemEnt rfl _ _ rfl rfl (HOy.alloc _) rfl (src1 (ρ:=entS) [.int .i64 xk,.string xp,.slice xA xna xca,.string xt,.int .i64 xsz,.string xd,.slice xX xnx xcx] (⟨xk,xp,xat,xt,xsz,xd,xex⟩:Ent) ⟨_,_,rfl,Hra.out,Hrx.out⟩ rfl) Hl1.out (HBy.alloc HBy.size _) ?_;intro va1 wa1 hob _ hbb;have KU1:=zY hob;have KB1:=zY hbb;clear hob hbb);go_roundw;case rel=>exact⟨i+1,_,by omega,by go_num,by simp;omega,(fun z hz=>by
  rcases List.mem_append.1 hz with hz|hz
  ·exact Hall.out z hz
  ·rw[List.mem_singleton.1 hz];exact Hxm.out),KU1.out,KB1.out⟩
 case measure=>simp[intOf];omega};{
 have hiI:¬(i:Int)<l.length:=by omega
 go_wp2_with fail;go_ret2;exact⟨⟨_,m,0,rfl,HO.at HBr.out,by omega,fun z hz=>.inr (Hall.out z hz)⟩,HB3.trans (HBr.mono HB3.size)⟩}}};{
 have f4:(k==4)=false:=by rw[beq_eq_false_iff_ne];omega
 have f4n:(k != 4)=true:=by rw[bne_iff_ne];omega
 have f56:(k==5)=true∨((k==5)=false/\(k==6)=true):=by rcases hk with rfl|rfl;{exact .inl rfl};{exact .inr ⟨rfl,rfl⟩}
 clear hk;have hgo:(bt=false/\path.toList.isEmpty=false)∨(bt=true∨(bt=false/\path.toList.isEmpty=true)):=by{
 cases bt;{
 cases path.toList.isEmpty;{exact .inl ⟨rfl,rfl⟩};{exact .inr (.inr ⟨rfl,rfl⟩)}};{exact .inr (.inl rfl)}};rcases hgo with⟨rfl,hne⟩|hgo;{
 rcases f56 with f5|⟨f5,f6⟩;all_goals
 go_wp2_with fail;go_ret2;exact HEr.out _ _ HNB.out};{
 have hx1:True:=trivial;rcases f56 with f5|⟨f5,f6⟩;all_goals
 rcases hgo with rfl|⟨rfl,hne⟩;all_goals
 go_wp2;go_loopw [9,46] (fun y x wr=>∃(i:Nat) (m:List Ent),i<=l.length/\x=.int .i64 (i:Int)/\m.length<=i/\(∀z∈m,z∈l)/\OwnSeq entS 182 wb wr y m/\Below wb.heap.size wb wr) (fun _ x _=>l.length-(intOf x).toNat);case atStart=>exact⟨0,[],by omega,rfl,by simp,(fun z hz=>nomatch hz),HN.out,HNB.out⟩
 case round=>
 obtain⟨i,m,hi,rfl,hm,hall,ho,hB⟩:=hrel;have HBr:=zY hB;have Hall:=zY hall;have HO:=zY ho;have Hl1:Hid (m.length+1<=100000000):=zY (by have:=Hl.out;omega);clear hB hall ho;by_cases h:i<l.length;{
 have hiI:(i:Int)<l.length:=by omega
 obtain⟨x,hx⟩:∃x,l[i]?=some x:=⟨_,List.getElem?_eq_getElem h⟩;have Hxm:=zY (List.mem_of_getElem? hx);have Hxz:=zY (Hz.out x (List.mem_of_getElem? hx));obtain⟨_,_,e9,_,_,h4⟩:=Hvb.out;cases e9;obtain⟨b,o,cs,rfl,⟨yva,yvx,rfl,ra,rx⟩,hc⟩:=h4 i x hx;have Hra:=zY ra;have Hrx:=zY rx;obtain⟨xA,xca,rfl,_,_⟩:=ra.slice;obtain⟨xX,xcx,rfl,_,_⟩:=rx.slice;obtain⟨xk,xp,xat,xt,xsz,xd,xex⟩:=x;dsimp only at hc Hra Hrx Hxz;generalize hxna:xat.length=xna at *;generalize hxnx:xex.length=xnx at *;have Hx1:=zY hxna;have Hx2:=zY hxnx;have e0:=cell_below HBr.out (show wb.cell? ⟨b,o+i*7,none⟩=some (.int .i64 xk) from hc 0 _ rfl);have e1:=cell_below HBr.out (show wb.cell? ⟨b,o+i*7+1,none⟩=some (.string xp) from hc 1 _ rfl);have e2:=cell_below HBr.out (show wb.cell? ⟨b,o+i*7+2,none⟩=some (.slice xA xna xca) from hc 2 _ rfl);have e3:=cell_below HBr.out (show wb.cell? ⟨b,o+i*7+3,none⟩=some (.string xt) from hc 3 _ rfl);have e4:=cell_below HBr.out (show wb.cell? ⟨b,o+i*7+4,none⟩=some (.int .i64 xsz) from hc 4 _ rfl);have e5:=cell_below HBr.out (show wb.cell? ⟨b,o+i*7+5,none⟩=some (.string xd) from hc 5 _ rfl);have e6:=cell_below HBr.out (show wb.cell? ⟨b,o+i*7+6,none⟩=some (.slice xX xnx xcx) from hc 6 _ rfl);clear hc h4 hx ra rx hxna hxnx;have HXf:Hid (Blk (wr.alloc (.cells #[.int .i64 xk,.string xp,.slice xA xna xca,.string xt,.int .i64 xsz,.string xd,.slice xX xnx xcx] 182)) wr.heap.size 182 [.int .i64 xk,.string xp,.slice xA xna xca,.string xt,.int .i64 xsz,.string xd,.slice xX xnx xcx]):=zY (Blk.new _ _ _)
 have HBz:=zY (HBr.alloc HBr.size (.cells #[.int .i64 xk,.string xp,.slice xA xna xca,.string xt,.int .i64 xsz,.string xd,.slice xX xnx xcx] 182));have HOz:=zY (HO.alloc (.cells #[.int .i64 xk,.string xp,.slice xA xna xca,.string xt,.int .i64 xsz,.string xd,.slice xX xnx xcx] 182));go_upto_region 15 with fail;clear e0 e1 e2 e3 e4 e5 e6;generalize wr.alloc (.cells #[.int .i64 xk,.string xp,.slice xA xna xca,.string xt,.int .i64 xsz,.string xd,.slice xX xnx xcx] 182)=wz at *;generalize wr.heap.size=gx at *;have HKz:=zY (HK3.kept HBz.out);have d0:=HKz.c 0;have d1:=HKz.c 1;have x0:=HXf.c 0;have x1:=HXf.c 1;have x2:=HXf.c 2;have x3:=HXf.c 3;have x4:=HXf.c 4;have x5:=HXf.c 5;have x6:=HXf.c 6;go_wp2_with (at_builtin;refine append_seq (ρ:=entS) (w0:=wb) Tryz.elemEnt rfl _ _ rfl rfl (HOz.alloc _) rfl (src1 (ρ:=entS) [.int .i64 xk,.string xp,.slice xA xna xca,.string xt,.int .i64 xsz,.string xd,.slice xX xnx xcx] (⟨xk,xp,xat,xt,xsz,xd,xex⟩:Ent) ⟨_,_,rfl,Hra.out,Hrx.out⟩ rfl) Hl1.out (HBz.alloc HBz.size _) ?_;intro va1 wa1 hob _ hbb;have KU1:=zY hob;have KB1:=zY hbb;clear hob hbb);go_roundw;case rel=>exact⟨i+1,_,by omega,by go_num,by simp;omega,(fun z hz=>by
  rcases List.mem_append.1 hz with hz|hz
  ·exact Hall.out z hz
  ·rw[List.mem_singleton.1 hz];exact Hxm.out),KU1.out,KB1.out⟩
 case measure=>simp[intOf];omega};{
 have hiI:¬(i:Int)<l.length:=by omega
 go_wp2_with fail;go_ret2;exact⟨⟨_,m,0,rfl,HO.at HBr.out,by omega,fun z hz=>.inr (Hall.out z hz)⟩,HB3.trans (HBr.mono HB3.size)⟩}}};{
 have f4:(k==4)=false:=by rw[beq_eq_false_iff_ne];exact k4
 have f5:(k==5)=false:=by rw[beq_eq_false_iff_ne];exact k5
 have f6:(k==6)=false:=by rw[beq_eq_false_iff_ne];exact k6
 clear k4 k5 k6;have HPa:=zY (fun(W:World)=>parent31_any W path HHp.out);have HDi:=zY (fun(W:World) (u:ByteArray) (h:SeqAt entS W (.slice A l.length c) l)=>dir37_any W (.slice A l.length c) l h u);have HCm:=zY (fun(W:World) (q:ByteArray) (hq:q.size<=1000000)=>compare31_any W path q HHp.out hq);have HRe:Hid (entS.R wb [.int .i64 k,.string path,.slice Aa na ca,.string tgt,.int .i64 size,.string dig,.slice Ax nx cx] ⟨k,path,attrs,tgt,size,dig,exts⟩):=zY ⟨_,_,rfl,Hva.below HB3.out,Hvx.below HB3.out⟩;go_wp2_with fail;refine(HPa.out _).mono ?_;rintro e5 w5 ⟨⟨up,n5,rfl,_⟩,hb5⟩;have HK5:=zY (HK4.kept hb5);have HF5:=zY (HF4.kept hb5);have HN5:=zY (HN.below hb5);have HB5:=zYt HNB hb5;clear hb5 d0 d1 x0 HK4 HF4 HN HNB;go_wp2_with fail;refine(HDi.out _ up (Hvb.below HB5.out)).mono ?_;rintro e6 w6 ⟨⟨n6,rfl⟩,hb6⟩;have HK6:=zY (HK5.kept hb6);have HF6:=zY (HF5.kept hb6);have HN6:=zY (HN5.below hb6);have HB6:=zYt HB5 hb6;clear hb6 HK5 HF5 HN5 HB5;have d0:=HK6.c 0;have x0:=HF6.c 0;by_cases h6:n6=0;{
 subst h6;have hl5:l.length<=1000:=Hl.out;have hl5n:¬5000<=l.length:=by omega
 have hl5i:¬(5000:Int)<=l.length:=by omega
 have hl5d:decide (5000<=l.length)=false:=decide_eq_false hl5n;have hq:(bt=true/\((ok_==2)=true/\(k==2)=false∨(ok_==2)=false/\(k==2)=true))∨(bt=false∨(bt=true/\(ok_==2)=true/\(k==2)=true)∨(bt=true/\(ok_==2)=false/\(k==2)=false)):=by cases bt<;>cases (ok_==2)<;>cases (k==2)<;>simp
 rcases hq with⟨rfl,hq⟩|hq;{
 rcases hq with⟨q1,q2⟩|⟨q1,q2⟩;all_goals
 go_wp2_with fail;go_ret2;exact HEr.out _ _ HB6.out};{
 rcases hq with rfl|⟨rfl,q1,q2⟩|⟨rfl,q1,q2⟩;all_goals
 go_wp2;go_loopw [9,15,98] (fun y d x wr=>∃(i:Nat) (m:List Ent) (dn:Bool),i<=l.length/\x=.int .i64 (i:Int)/\d=.bool dn/\m.length<=i+(if dn then 1 else 0)/\(∀z∈m,z=⟨k,path,attrs,tgt,size,dig,exts⟩∨z∈l)/\OwnSeq entS 182 wb wr y m/\Below wb.heap.size wb wr) (fun _ _ x _=>l.length-(intOf x).toNat);case atStart=>exact⟨0,[],false,by omega,rfl,rfl,by simp,(fun z hz=>nomatch hz),HN6.out,HB6.out⟩
 case round=>
 obtain⟨i,m,dn,hi,rfl,rfl,hm,hall,ho,hB⟩:=hrel;have HBr:=zY hB;have Hall:=zY hall;have HO:=zY ho;have HNe:=zY (fun g hg=>HO.lt (g:=g) hg);have Hm:=zY hm;have Hl1:Hid (m.length+1<=100000000):=zY (by have:=Hl.out;have:=hm;split at this<;>omega);have HKr:=zY (HK3.kept hB);clear hB hall ho hm d0 x0;by_cases h:i<l.length;{
 have hiI:(i:Int)<l.length:=by omega
 obtain⟨x,hx⟩:∃x,l[i]?=some x:=⟨_,List.getElem?_eq_getElem h⟩;have Hxm:=zY (List.mem_of_getElem? hx);have Hxz:=zY (Hz.out x (List.mem_of_getElem? hx));obtain⟨_,_,e9,_,_,h4⟩:=Hvb.out;cases e9;obtain⟨b,o,cs,rfl,⟨yva,yvx,rfl,ra,rx⟩,hc⟩:=h4 i x hx;have Hra:=zY ra;have Hrx:=zY rx;obtain⟨xA,xca,rfl,_,_⟩:=ra.slice;obtain⟨xX,xcx,rfl,_,_⟩:=rx.slice;obtain⟨xk,xp,xat,xt,xsz,xd,xex⟩:=x;dsimp only at hc Hra Hrx Hxz;generalize hxna:xat.length=xna at *;generalize hxnx:xex.length=xnx at *;have Hx1:=zY hxna;have Hx2:=zY hxnx;have e0:=cell_below HBr.out (show wb.cell? ⟨b,o+i*7,none⟩=some (.int .i64 xk) from hc 0 _ rfl);have e1:=cell_below HBr.out (show wb.cell? ⟨b,o+i*7+1,none⟩=some (.string xp) from hc 1 _ rfl);have e2:=cell_below HBr.out (show wb.cell? ⟨b,o+i*7+2,none⟩=some (.slice xA xna xca) from hc 2 _ rfl);have e3:=cell_below HBr.out (show wb.cell? ⟨b,o+i*7+3,none⟩=some (.string xt) from hc 3 _ rfl);have e4:=cell_below HBr.out (show wb.cell? ⟨b,o+i*7+4,none⟩=some (.int .i64 xsz) from hc 4 _ rfl);have e5:=cell_below HBr.out (show wb.cell? ⟨b,o+i*7+5,none⟩=some (.string xd) from hc 5 _ rfl);have e6:=cell_below HBr.out (show wb.cell? ⟨b,o+i*7+6,none⟩=some (.slice xX xnx xcx) from hc 6 _ rfl);clear hc h4 hx ra rx hxna hxnx;have HXf:Hid (Blk (wr.alloc (.cells #[.int .i64 xk,.string xp,.slice xA xna xca,.string xt,.int .i64 xsz,.string xd,.slice xX xnx xcx] 182)) wr.heap.size 182 [.int .i64 xk,.string xp,.slice xA xna xca,.string xt,.int .i64 xsz,.string xd,.slice xX xnx xcx]):=zY (Blk.new _ _ _)
 have HBz:=zY (HBr.alloc HBr.size (.cells #[.int .i64 xk,.string xp,.slice xA xna xca,.string xt,.int .i64 xsz,.string xd,.slice xX xnx xcx] 182));have HOz:=zY (HO.alloc (.cells #[.int .i64 xk,.string xp,.slice xA xna xca,.string xt,.int .i64 xsz,.string xd,.slice xX xnx xcx] 182));go_upto_region 31 with fail;clear e0 e1 e2 e3 e4 e5 e6;generalize wr.alloc (.cells #[.int .i64 xk,.string xp,.slice xA xna xca,.string xt,.int .i64 xsz,.string xd,.slice xX xnx xcx] 182)=wz at *;generalize wr.heap.size=gx at *;have HKz:=zY (HK3.kept HBz.out);have d0:=HKz.c 0;have d1:=HKz.c 1;have d2:=HKz.c 2;have d3:=HKz.c 3;have d4:=HKz.c 4;have d5:=HKz.c 5;have d6:=HKz.c 6;have x0:=HXf.c 0;have x1:=HXf.c 1;have x2:=HXf.c 2;have x3:=HXf.c 3;have x4:=HXf.c 4;have x5:=HXf.c 5;have x6:=HXf.c 6;cases dn with
 |true=>(
 by_cases hxp:xp=path;{
 subst hxp;have b1:(xp != xp)=false:=bneV_false rfl;have b2:(xp==xp)=true:=beqV_true rfl;go_wp2_with fail;go_roundw;case rel=>exact⟨i+1,_,true,by omega,by go_num,rfl,by have:=Hm.out;simp at this⊢;omega,Hall.out,HOz.out,HBz.out⟩
 case measure=>simp[intOf];omega};{
 have b1:(xp != path)=true:=bneV_true hxp;have b2:(xp==path)=false:=beqV_false hxp;have b3:¬xp.toList=path.toList:=fun e=>hxp (by rw[ByteArray.toList_eq,ByteArray.toList_eq]at e;exact ByteArray.ext (Array.toList_inj.1 e));have b4:(xp.toList==path.toList)=false:=by rw[beq_eq_false_iff_ne];exact b3
 clear hxp;go_wp2_with (at_builtin;(refine append_seq (ρ:=entS) (w0:=wb) Tryz.elemEnt rfl _ _ rfl rfl (HOz.alloc _) rfl (src1 (ρ:=entS) [.int .i64 xk,.string xp,.slice xA xna xca,.string xt,.int .i64 xsz,.string xd,.slice xX xnx xcx] (⟨xk,xp,xat,xt,xsz,xd,xex⟩:Ent) ⟨_,_,rfl,Hra.out,Hrx.out⟩ rfl) Hl1.out (HBz.alloc HBz.size _) ?_;intro va2 wa2 hob _ hbb;have KU2:=zY hob;have KB2:=zY hbb;clear hob hbb));go_roundw;case rel=>exact⟨i+1,_,true,by omega,by go_num,rfl,by have:=Hm.out;simp at this⊢;omega,(fun z hz=>by
  rcases List.mem_append.1 hz with hz|hz
  ·exact Hall.out z hz
  ·rw[List.mem_singleton.1 hz];exact .inr Hxm.out),KU2.out,KB2.out⟩
 case measure=>simp[intOf];omega})
 |false=>
 go_wp2_with fail;refine(HCm.out _ xp Hxz.out).mono ?_;rintro e7 w7 ⟨⟨n7,rfl⟩,hb7⟩;have HOy:=zY (HOz.below hb7);have HBy:=zYt HBz hb7;have HXg:=zY (HXf.kept hb7);have HKg:=zY (HKz.kept hb7);clear hb7 x0 d0 x1 d1 x2 d2 x3 d3 x4 d4 x5 d5 x6 d6;have d0:=HKg.c 0;have d1:=HKg.c 1;have d2:=HKg.c 2;have d3:=HKg.c 3;have d4:=HKg.c 4;have d5:=HKg.c 5;have d6:=HKg.c 6;have x0:=HXg.c 0;have x1:=HXg.c 1;have x2:=HXg.c 2;have x3:=HXg.c 3;have x4:=HXg.c 4;have x5:=HXg.c 5;have x6:=HXg.c 6;by_cases h7:n7<=0;{
 go_upto_region 34 with(at_builtin;(refine append_seq (ρ:=entS) (w0:=wb) Tryz.elemEnt rfl _ _ rfl rfl (HOy.alloc _) rfl (src1 (ρ:=entS) [.int .i64 k,.string path,.slice Aa na ca,.string tgt,.int .i64 size,.string dig,.slice Ax nx cx] (⟨k,path,attrs,tgt,size,dig,exts⟩:Ent) HRe.out rfl) Hl1.out (HBy.alloc HBy.size _) ?_;intro va1 wa1 hob hgb hbb;have KU1:=zY hob;have KB1:=zY hbb;have KG1:=zY hgb;clear hob hgb hbb))
 have HXh:=zY ((HXg.alloc (.cells #[.int .i64 k,.string path,.slice Aa na ca,.string tgt,.int .i64 size,.string dig,.slice Ax nx cx] 182)).grownB KG1.out (fun e=>Nat.lt_irrefl _ (HNe.out _ e)));have HKh:=zY (HK3.kept KB1.out);have Hall2:Hid (∀z∈m++[(⟨k,path,attrs,tgt,size,dig,exts⟩:Ent)],z=⟨k,path,attrs,tgt,size,dig,exts⟩∨z∈l):=zY (fun z hz=>by
  rcases List.mem_append.1 hz with hz|hz
  ·exact Hall.out z hz
  ·rw[List.mem_singleton.1 hz];exact .inl rfl);have Hl2:Hid ((m++[(⟨k,path,attrs,tgt,size,dig,exts⟩:Ent)]).length+1<=100000000):=zY (by have:=Hl.out;have:=Hm.out;simp at this⊢;omega);clear x0 d0 x1 d1 x2 d2 x3 d3 x4 d4 x5 d5 x6 d6;have d0:=HKh.c 0;have d1:=HKh.c 1;have d2:=HKh.c 2;have d3:=HKh.c 3;have d4:=HKh.c 4;have d5:=HKh.c 5;have d6:=HKh.c 6;have x0:=HXh.c 0;have x1:=HXh.c 1;have x2:=HXh.c 2;have x3:=HXh.c 3;have x4:=HXh.c 4;have x5:=HXh.c 5;have x6:=HXh.c 6;by_cases hxp:xp=path;{
 subst hxp;have b1:(xp != xp)=false:=bneV_false rfl;have b2:(xp==xp)=true:=beqV_true rfl;go_wp2_with fail;go_roundw;case rel=>exact⟨i+1,_,true,by omega,by go_num,rfl,by have:=Hm.out;simp at this⊢;omega,Hall2.out,KU1.out,KB1.out⟩
 case measure=>simp[intOf];omega};{
 have b1:(xp != path)=true:=bneV_true hxp;have b2:(xp==path)=false:=beqV_false hxp;have b3:¬xp.toList=path.toList:=fun e=>hxp (by rw[ByteArray.toList_eq,ByteArray.toList_eq]at e;exact ByteArray.ext (Array.toList_inj.1 e));have b4:(xp.toList==path.toList)=false:=by rw[beq_eq_false_iff_ne];exact b3
 clear hxp;go_wp2_with (at_builtin;(refine append_seq (ρ:=entS) (w0:=wb) Tryz.elemEnt rfl _ _ rfl rfl (KU1.out.alloc _) rfl (src1 (ρ:=entS) [.int .i64 xk,.string xp,.slice xA xna xca,.string xt,.int .i64 xsz,.string xd,.slice xX xnx xcx] (⟨xk,xp,xat,xt,xsz,xd,xex⟩:Ent) ⟨_,_,rfl,Hra.out,Hrx.out⟩ rfl) Hl2.out (KB1.out.alloc KB1.out.size _) ?_;intro va2 wa2 hob _ hbb;have KU2:=zY hob;have KB2:=zY hbb;clear hob hbb));go_roundw;case rel=>exact⟨i+1,_,true,by omega,by go_num,rfl,by have:=Hm.out;simp at this⊢;omega,(fun z hz=>by
  rcases List.mem_append.1 hz with hz|hz
  ·exact Hall2.out z hz
  ·rw[List.mem_singleton.1 hz];exact .inr Hxm.out),KU2.out,KB2.out⟩
 case measure=>simp[intOf];omega}};{
 have h7':¬n7<=0:=h7;by_cases hxp:xp=path;{
 subst hxp;have b1:(xp != xp)=false:=bneV_false rfl;have b2:(xp==xp)=true:=beqV_true rfl;go_wp2_with fail;go_roundw;case rel=>exact⟨i+1,_,false,by omega,by go_num,rfl,by have:=Hm.out;simp at this⊢;omega,Hall.out,HOy.out,HBy.out⟩
 case measure=>simp[intOf];omega};{
 have b1:(xp != path)=true:=bneV_true hxp;have b2:(xp==path)=false:=beqV_false hxp;have b3:¬xp.toList=path.toList:=fun e=>hxp (by rw[ByteArray.toList_eq,ByteArray.toList_eq]at e;exact ByteArray.ext (Array.toList_inj.1 e));have b4:(xp.toList==path.toList)=false:=by rw[beq_eq_false_iff_ne];exact b3
 clear hxp;go_wp2_with (at_builtin;(refine append_seq (ρ:=entS) (w0:=wb) Tryz.elemEnt rfl _ _ rfl rfl (HOy.alloc _) rfl (src1 (ρ:=entS) [.int .i64 xk,.string xp,.slice xA xna xca,.string xt,.int .i64 xsz,.string xd,.slice xX xnx xcx] (⟨xk,xp,xat,xt,xsz,xd,xex⟩:Ent) ⟨_,_,rfl,Hra.out,Hrx.out⟩ rfl) Hl1.out (HBy.alloc HBy.size _) ?_;intro va2 wa2 hob _ hbb;have KU2:=zY hob;have KB2:=zY hbb;clear hob hbb));go_roundw;case rel=>exact⟨i+1,_,false,by omega,by go_num,rfl,by have:=Hm.out;simp at this⊢;omega,(fun z hz=>by
  rcases List.mem_append.1 hz with hz|hz
  ·exact Hall.out z hz
  ·rw[List.mem_singleton.1 hz];exact .inr Hxm.out),KU2.out,KB2.out⟩
 case measure=>simp[intOf];omega}}};{
 have hiI:¬(i:Int)<l.length:=by omega
 have d0:=HKr.c 0;have d1:=HKr.c 1;have d2:=HKr.c 2;have d3:=HKr.c 3;have d4:=HKr.c 4;have d5:=HKr.c 5;have d6:=HKr.c 6;cases dn with
 |true=>go_wp2_with fail;go_ret2;exact⟨⟨_,m,0,rfl,HO.at HBr.out,by have:=Hm.out;simp at this;omega,Hall.out⟩,HB3.trans (HBr.mono HB3.size)⟩
 |false=>
 go_wp2_with (at_builtin;(refine append_seq (ρ:=entS) (w0:=wb) Tryz.elemEnt rfl _ _ rfl rfl (HO.alloc _) rfl (src1 (ρ:=entS) [.int .i64 k,.string path,.slice Aa na ca,.string tgt,.int .i64 size,.string dig,.slice Ax nx cx] (⟨k,path,attrs,tgt,size,dig,exts⟩:Ent) HRe.out rfl) Hl1.out (HBr.alloc HBr.size _) ?_;intro va1 wa1 hob hgb hbb;have KU1:=zY hob;have KB1:=zY hbb;have KG1:=zY hgb;clear hob hgb hbb));go_ret2;exact⟨⟨_,_,0,rfl,KU1.out.at KB1.out,by have:=Hm.out;simp at this⊢;omega,fun z hz=>by
  rcases List.mem_append.1 hz with hz|hz
  ·exact Hall.out z hz
  ·rw[List.mem_singleton.1 hz];exact .inl rfl⟩,HB3.trans (KB1.out.mono HB3.size)⟩}}};{
 have f7:(n6 != 0)=true:=by rw[bne_iff_ne];exact h6
 go_wp2_with fail;go_ret2;exact HEr.out _ _ HB6.out}}};{
 have f1:(n1 != 0)=true:=by rw[bne_iff_ne];exact hn1
 go_wp2_with fail;go_ret2;exact⟨RetTE.none _,HB1.out⟩}
end
end Go.Proofs.YthgenkkkapilhaaGreatDoor