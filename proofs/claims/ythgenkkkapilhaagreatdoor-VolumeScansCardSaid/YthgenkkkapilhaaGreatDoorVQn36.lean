/-
  Joined: VpZ.
-/
import Derived.Test.YthgenkkkapilhaaGreatDoorVQn35
set_option linter.all false
set_option maxRecDepth 100000
set_option maxHeartbeats 64000000
namespace Go.Proofs.YthgenkkkapilhaaGreatDoor
open Go.Proofs.Tryz
section
open Go.RowKit
structure MadeI (l:List Bat) (i:Nat) (L:List Ses):Prop where
 len:L.length<=i
 num:∀(j:Nat) (x:Ses),L[j]?=some x->x.num=(j:Int)+1
 ok:∀x∈L,SesOk x
 ents:entN L<=cntB (l.take i)
 str:∀x∈L,x.str.size<=661360
theorem MadeI.next {l:List Bat} {i:Nat} {L L':List Ses} {b:Bat} (h:MadeI l i L) (hb:l[i]?=some b/\cntB l<=10) (hL:L'=L∨∃x,L'=L++[x]/\SesOk x/\x.num=L.length+1/\x.ents.length<=b.l.length/\x.str.size<=65536*entN L+600*b.l.length):MadeI l (i+1) L':=by
 have hc:cntB (l.take (i+1))=cntB (l.take i)+b.l.length:=by rw[List.take_add_one,hb.1,cntB_app];simp[cntB]
 have hc2:cntB (l.take (i+1))<=cntB l:=by have h:=cntB_app (l.take (i+1)) (l.drop (i+1));rw[List.take_append_drop]at h;omega
 have h1:=h.ents;have h2:=h.len;rcases hL with rfl|⟨x,rfl,hx,hn,he,hs⟩;{exact⟨by omega,h.num,h.ok,by omega,h.str⟩};{
 refine⟨by simp;omega,fun j y hy=>?_,fun y hy=>?_,?_,fun y hy=>?_⟩;{
 by_cases hj:j<L.length;{
 rw[List.getElem?_append_left hj]at hy;exact h.num j y hy};{
 rw[List.getElem?_append_right (by omega)]at hy;have hj0:j-L.length=0:=by apply Decidable.byContradiction;intro hne;rw[List.getElem?_eq_none (by simp;omega)]at hy;cases hy
 rw[hj0]at hy;obtain rfl:x=y:=by simpa using hy
 rw[hn,show j=L.length by omega]}};{
 rcases List.mem_append.1 hy with hy|hy;{exact h.ok y hy};{rw[List.mem_singleton.1 hy];exact hx}};{
 rw[entN_app];simp only[entN];omega};{
 rcases List.mem_append.1 hy with hy|hy;{exact h.str y hy};{rw[List.mem_singleton.1 hy];omega}}}
structure MaI (w W:World) (ac:List Value):Prop where
 rs:Blk W w.heap.size 28 [.int .u32 0,.int .i64 0,.int .i64 0,.slice none 0 0]
 ar:Blk W (w.heap.size+1) 28 ac
 bl:Below w.heap.size w W
section
variable {w W W':World} {ac ac':List Value}
theorem MaI.below (h:MaI w W ac) (hb:Below W.heap.size W W'):MaI w W' ac:=⟨h.rs.kept hb,h.ar.kept hb,h.bl.trans (hb.mono h.bl.size)⟩
theorem MaI.setA (h:MaI w W ac) (ac':List Value):MaI w (W.setRow (w.heap.size+1) ac'.toArray) ac':=
 ⟨h.rs.grownN (grown_setRow W (w.heap.size+1) ac'.toArray) (by omega),h.ar.setRow ac',below_setRow h.bl (by omega) _⟩
end
structure MadeOk (L:List Ses):Prop where
 len:L.length<=2
 num:∀(j:Nat) (x:Ses),L[j]?=some x->x.num=(j:Int)+1
 ok:∀x∈L,SesOk x
 ents:entN L<=10
 str:∀x∈L,x.str.size<=661360
def RetMade (w':World) (e:Ending):Prop:=∃(d s:Nat) (v:Value) (L:List Ses) (b:Bool),e=.returned (.tuple #[.agg #[.int .u32 7,.int .i64 (d:Int),.int .i64 (s:Int),v],.bool b])/\1<=d/\d<=3/\s<=2/\SeqAt sesS w' v L/\(b=true->MadeOk L)
def RetMade2 (m:Nat) (w':World) (e:Ending):Prop:=∃(d s:Nat) (v:Value) (L:List Ses) (b:Bool),e=.returned (.tuple #[.agg #[.int .u32 7,.int .i64 (d:Int),.int .i64 (s:Int),v],.bool b])/\1<=d/\d<=3/\s<=2/\SeqAt sesS w' v L/\(b=true->MadeOk L/\L.length<=m)
theorem made_len (w:World) (v:Value) (l:List Bat) (hv:SeqAt batS w v l) (x:Nat) (hx:x<256):Calls prog 11 #[v,.int .u8 (x:Int)] w fun e w'=>RetMade2 l.length w' e/\Below w.heap.size w w':=by
 have HGr:=zY (fun(W:World) (h:Below w.heap.size w W)=>great39_any W v l (hv.below h));have Hv:=zY hv;obtain⟨A0,c0,rfl,_,_⟩:=hv.slice;obtain⟨d,hd⟩:∃d:Nat,1+x%3=d:=⟨_,rfl⟩;obtain⟨s,hs⟩:∃s:Nat,x/3%3=s:=⟨_,rfl⟩;have Hds:Hid (1<=d/\d<=3/\s<=2):=zY (by omega);have hdI:(1:Int)+(x:Int)%3=d:=by omega
 have hsI:(x:Int)/3%3=s:=by omega
 have hR:=Blk.new w 28 [.int .u32 0,.int .i64 0,.int .i64 0,.slice none 0 0];change Blk (w.alloc (.cells #[.int .u32 0,.int .i64 0,.int .i64 0,.slice none 0 0] 28)) _ _ _ at hR;have hA:=Blk.new (w.alloc (.cells #[.int .u32 0,.int .i64 0,.int .i64 0,.slice none 0 0] 28)) 28 [.int .u32 7,.int .i64 (d:Int),.int .i64 (s:Int),.slice none 0 0];change Blk ((w.alloc (.cells #[.int .u32 0,.int .i64 0,.int .i64 0,.slice none 0 0] 28)).alloc (.cells #[.int .u32 7,.int .i64 (d:Int),.int .i64 (s:Int),.slice none 0 0] 28)) _ _ _ at hA;rw[World.size_alloc]at hA;have hB1:=zBl w (.cells #[.int .u32 0,.int .i64 0,.int .i64 0,.slice none 0 0] 28);have HI0:Hid (MaI w ((w.alloc (.cells #[.int .u32 0,.int .i64 0,.int .i64 0,.slice none 0 0] 28)).alloc (.cells #[.int .u32 7,.int .i64 (d:Int),.int .i64 (s:Int),.slice none 0 0] 28)) [.int .u32 7,.int .i64 (d:Int),.int .i64 (s:Int),.slice none 0 0]):=zY ⟨hR.alloc _,hA,hB1.alloc hB1.size _⟩;clear hR hA hB1 hv hd hs;go_enter func11,ntmps11;go_upto_region 2 with fail;generalize ((w.alloc (.cells #[.int .u32 0,.int .i64 0,.int .i64 0,.slice none 0 0] 28)).alloc (.cells #[.int .u32 7,.int .i64 (d:Int),.int .i64 (s:Int),.slice none 0 0] 28))=wa at *;have HG:=zY (HGr.out _ HI0.bl);go_wp2_with fail;refine HG.mono ?_;rintro e1 w1 ⟨⟨n,rfl,hn⟩,hb1⟩;have HI:=zY (HI0.below hb1);clear hb1 HG HI0 hdI hsI;have hret:0<n∨(n=0/\GreatOk l):=hn.imp (fun e=>by omega) (fun h=>h);clear hn;have HRet:Hid (∀W,MaI w W [.int .u32 7,.int .i64 (d:Int),.int .i64 (s:Int),.slice none 0 0]->True):=zY (fun _ _=>trivial);clear HRet;have a0:=HI.ar.c 0;have a1:=HI.ar.c 1
 have a2:=HI.ar.c 2;have a3:=HI.ar.c 3;have z0:=HI.rs.c 0;have z1:=HI.rs.c 1;have z2:=HI.rs.c 2;have z3:=HI.rs.c 3;have y0:=HI.rs.frozen 0;have y1:=HI.rs.frozen 1;have y2:=HI.rs.frozen 2;have y3:=HI.rs.frozen 3;by_cases hbad:0<n∨2<l.length;{
 have HW:=zY (HI.rs.setAll (i:=0) [.int .u32 7,.int .i64 (d:Int),.int .i64 (s:Int),.slice none 0 0]);have HBw:=zY (below_setAll (g:=w.heap.size) (Nat.le_refl _) [.int .u32 7,.int .i64 (d:Int),.int .i64 (s:Int),.slice none 0 0] w1 0 HI.bl);clear hret;by_cases h0:0<n;{
 go_wp2_with fail;refine bodyPost_ret (results_row_tmp rfl _ _ w.heap.size 28 _ (0,0) _ rfl HW.out underlying28 rfl (by kernel_rfl)) rfl ?_;exact⟨⟨d,s,_,[],false,rfl,Hds.1,Hds.2.1,Hds.2.2,SeqAt.nil _,fun h=>by cases h⟩,HBw.out⟩};{
 have h2:(2:Int)<l.length:=by omega
 go_wp2_with fail;refine bodyPost_ret (results_row_tmp rfl _ _ w.heap.size 28 _ (0,0) _ rfl HW.out underlying28 rfl (by kernel_rfl)) rfl ?_;exact⟨⟨d,s,_,[],false,rfl,Hds.1,Hds.2.1,Hds.2.2,SeqAt.nil _,fun h=>by cases h⟩,HBw.out⟩}};{
 obtain⟨rfl,hgo⟩:n=0/\GreatOk l:=by rcases hret with h|h;{exact absurd (.inl h) hbad};{exact h}
 have HGo:=zY hgo;have hl2:l.length<=2:=by omega
 have h2:¬(2:Int)<l.length:=by omega
 clear hret hbad hgo a0 a1 a2 a3 z0 z1 z2 z3 y0 y1 y2 y3;have HM0:Hid (MadeI l 0 []):=zY ⟨by simp,(fun j x hx=>by simp at hx),(fun x hx=>nomatch hx),by simp[entN],(fun x hx=>nomatch hx)⟩;go_wp2;go_loopw [7,34] (fun y z wr=>∃(i:Nat) (n:Int) (v:Value) (L:List Ses),i<=l.length/\y=.int .i64 n/\z=.int .i64 (i:Int)/\MaI w wr [.int .u32 7,.int .i64 (d:Int),.int .i64 (s:Int),v]/\SeqAt sesS wr v L/\MadeI l i L) (fun _ z _=>l.length-(intOf z).toNat);case atStart=>exact⟨0,0,_,[],by omega,rfl,rfl,HI.out,SeqAt.nil _,HM0.out⟩
 case round=>
 clear HI HM0;obtain⟨i,n,v,L,hi,rfl,rfl,hI,hV,hM⟩:=hrel;obtain⟨A,c,rfl,_,_⟩:=hV.slice;have HI:=zY hI;have HV:=zY hV;have HM:=zY hM;clear hI hV hM;obtain⟨wo,rfl⟩:∃x,x=wr:=⟨_,rfl⟩;by_cases h:i<l.length;{
 have hiI:(i:Int)<l.length:=by omega
 obtain⟨bx,hbx⟩:∃x,l[i]?=some x:=⟨_,List.getElem?_eq_getElem h⟩;have Hbx:Hid (l[i]?=some bx/\cntB l<=10):=zY ⟨hbx,HGo.1⟩;have HCo:=zY (fun c (hc:c∈bx.l)=>HGo.2.1 bx (List.mem_of_getElem? hbx) c hc);have Hcn:Hid (bx.l.length<=10):=zY (by
  have h1:=HGo.1
  have h2:=cntB_app (l.take i) (l.drop i)
  rw[List.take_append_drop,show l.drop i=bx::l.drop (i+1) by rw[List.drop_eq_getElem_cons h];congr 1;exact Option.some.inj ((List.getElem?_eq_getElem h).symm.trans hbx)]at h2
  simp only[cntB]at h2
  omega);obtain⟨_,_,e9,_,_,h44⟩:=Hv.out;cases e9;obtain⟨b,o,cs,rfl,⟨va,rfl,hva⟩,hc⟩:=h44 i bx hbx;have HVa:=zY hva;obtain⟨Ac,cc,rfl,_,_⟩:=hva.slice;have HKb:Hid (∀W,Below w.heap.size w W->W.cell? ⟨b,o+i*2,none⟩=some (.int .i64 bx.date)/\W.cell? ⟨b,o+i*2+1,none⟩=some (.slice Ac bx.l.length cc)):=zY (fun W h=>⟨cell_below h (hc 0 _ rfl),cell_below h (hc 1 _ rfl)⟩);clear hc h44 hbx hva;obtain⟨date,bl⟩:=bx;dsimp only at HCo Hcn HVa HKb;obtain⟨c0,c1⟩:=HKb.out wo HI.bl;go_wp2;go_loopw [7,43] (fun y z wr=>∃(j:Nat) (n:Int),j<=bl.length/\y=.int .i64 n/\z=.int .i64 (j:Int)/\Below wo.heap.size wo wr) (fun _ z _=>bl.length-(intOf z).toNat);case atStart=>exact⟨0,n,by omega,rfl,rfl,Below.refl _ _⟩
 case round=>
 obtain⟨j,n2,hj,rfl,rfl,hB⟩:=hrel;have HB:=zY hB;clear hB c0 c1;obtain⟨wp,rfl⟩:∃x,x=wr:=⟨_,rfl⟩;by_cases hj2:j<bl.length;{
 have hjI:(j:Int)<bl.length:=by omega
 obtain⟨x,hx⟩:∃x,bl[j]?=some x:=⟨_,List.getElem?_eq_getElem hj2⟩;have HX:=zY (HCo.out x (List.mem_of_getElem? hx));have HBw:=zY (HI.bl.trans (HB.mono HI.bl.size));obtain⟨_,_,e9,_,_,h44⟩:=HVa.below HBw.out;cases e9;obtain⟨b2,o2,cs,rfl,⟨va,rfl,hva⟩,hc⟩:=h44 j x hx;obtain⟨k,path,al,tgt,cont⟩:=x;dsimp only at hc hva HX;have HAa:=zY hva;obtain⟨Aa,ca,rfl,_,_⟩:=hva.slice;have e0:wp.cell? ⟨b2,o2+j*5,none⟩=some (.int .i64 k):=hc 0 _ rfl;have e1:wp.cell? ⟨b2,o2+j*5+1,none⟩=some (.string path):=hc 1 _ rfl;have e2:wp.cell? ⟨b2,o2+j*5+2,none⟩=some (.slice Aa al.length ca):=hc 2 _ rfl;have e3:wp.cell? ⟨b2,o2+j*5+3,none⟩=some (.string tgt):=hc 3 _ rfl;have e4:wp.cell? ⟨b2,o2+j*5+4,none⟩=some (.string cont):=hc 4 _ rfl;clear hc h44 hx hva;have hK:=Blk.new wp 91 [.int .i64 k,.string path,.slice Aa al.length ca,.string tgt,.string cont];change Blk (wp.alloc (.cells #[.int .i64 k,.string path,.slice Aa al.length ca,.string tgt,.string cont] 91)) _ _ _ at hK;have HK:=zY hK;have HBk:=zY (zBl wp (.cells #[.int .i64 k,.string path,.slice Aa al.length ca,.string tgt,.string cont] 91));have HAk:=zY (HAa.below HBk.out);clear hK;go_upto_region 11 with fail;clear e0 e1 e2 e3 e4;generalize wp.alloc (.cells #[.int .i64 k,.string path,.slice Aa al.length ca,.string tgt,.string cont] 91)=wk at *;have k2:=HK.c 2;have k3:=HK.c 3;have k4:=HK.c 4;go_wp2;go_loopw [7,60] (fun y z wr=>∃(q:Nat) (n:Int),q<=al.length/\y=.int .i64 n/\z=.int .i64 (q:Int)/\Below wk.heap.size wk wr) (fun _ z _=>al.length-(intOf z).toNat);case atStart=>exact⟨0,_,by omega,rfl,rfl,Below.refl _ _⟩
 case round=>
 clear k2 k3 k4;obtain⟨q,n3,hq,rfl,rfl,hB3⟩:=hrel;have HB3:=zY hB3;clear hB3;by_cases hq2:q<al.length;{
 have hqI:(q:Int)<al.length:=by omega
 obtain⟨y,hy⟩:∃y,al[q]?=some y:=⟨_,List.getElem?_eq_getElem hq2⟩;obtain⟨_,_,e9,_,_,h44⟩:=HAk.below HB3.out;cases e9;obtain⟨b3,o3,cs,rfl,rfl,hc⟩:=h44 q y hy;have q0:wr.cell? ⟨b3,o3+q*2,none⟩=some (.string y.k):=hc 0 _ rfl;have q1:wr.cell? ⟨b3,o3+q*2+1,none⟩=some (.string y.v):=hc 1 _ rfl;have hT:=Blk.new wr 93 [.string y.k,.string y.v];change Blk (wr.alloc (.cells #[.string y.k,.string y.v] 93)) _ _ _ at hT;have t0:=hT.c 0;have t1:=hT.c 1;have HBt:=zY (HB3.alloc HB3.size (.cells #[.string y.k,.string y.v] 93));clear hc h44 hy hT;go_wp2;go_roundw;case rel=>exact⟨q+1,_,by omega,rfl,by go_num,HBt.out⟩
 case measure=>simp[intOf];omega};{
 obtain rfl:q=al.length:=by omega
 have hqI:¬((al.length:Nat):Int)<(al.length:Int):=by omega
 go_wp2;go_roundw;case rel=>exact⟨j+1,_,by omega,rfl,by go_num,HB.trans ((HBk.trans (HB3.mono HBk.size)).mono HB.size)⟩
 case measure=>simp[intOf];omega}};{
 obtain rfl:j=bl.length:=by omega
 have hjI:¬((bl.length:Nat):Int)<(bl.length:Int):=by omega
 have HIp:=zY (HI.below HB.out);have HVp:=zY (HV.below HB.out);clear HI HV HB;have HI:=zY HIp.out;have HV:=zY HVp.out;clear HIp HVp;have HWr:=zY (fun(W:World) (h:Below wp.heap.size wp W)=>write39_any W 7 (d:Int) (s:Int) (.slice A L.length c) L (HV.below h) (by have:=HM.len;omega) (by have:=HM.ents;have h1:=cntB_app (l.take i) (l.drop i);rw[List.take_append_drop]at h1;have:=Hbx.2;omega) HM.ok date (.slice Ac bl.length cc) bl (HVa.below (HI.bl.trans (h.mono HI.bl.size))) Hcn.out HCo.out);have Hbl:Hid ((⟨date,bl⟩:Bat).l.length=bl.length):=zY rfl;have HKS:Hid (∀W,Below wp.heap.size wp W->W.cell? ⟨b,o+i*2,none⟩=some (.int .i64 date)/\W.cell? ⟨b,o+i*2+1,none⟩=some (.slice Ac bl.length cc)):=zY (fun W h=>HKb.out W (HI.bl.trans (h.mono HI.bl.size)));have HKT:Hid (∀(W:World) (u:Array Value),Below wp.heap.size wp W->(W.setRow (w.heap.size+1) u).cell? ⟨b,o+i*2,none⟩=some (.int .i64 date)/\(W.setRow (w.heap.size+1) u).cell? ⟨b,o+i*2+1,none⟩=some (.slice Ac bl.length cc)):=zY (fun W u h=>by
  have hx:=HKb.out _ ((below_setRow (HI.bl.trans (h.mono HI.bl.size)) (show w.heap.size<=w.heap.size+1 by omega) u))
  exact hx);have HBc:=zY ((Below.refl wp.heap.size wp).drew);have HS:=zY (HKS.out _ HBc.out);go_upto_region 18 with fail;refine wp_region_held_drew (S:=(fun W=>W.cell? ⟨b,o+i*2,none⟩=some (.int .i64 date)/\W.cell? ⟨b,o+i*2+1,none⟩=some (.slice Ac bl.length cc))) (by kernel_rfl) ?_ (fun hHeld=>?_);{exact HS.out};refine tk 1 ?_;refine tk 2 ?_;refine tk 3 ?_;refine tk 4 ?_;refine tk 5 ?_;refine tk 6 ?_;refine tk 7 ?_;refine tk 8 ?_;refine tk 9 ?_;refine tk 10 ?_;refine zE1 0 fun K hK=>?_;refine wp_load_row 28 (.tmp 6) rfl (w.heap.size+1) rfl 28 _ (0,0) _ (HI.ar.kept HBc.out) underlying28 rfl (by kernel_rfl) ?_;refine hko hK (by exact HS.out) (fun _=>?_);clear hK K;refine zE1 11 fun K hK=>?_;go_simp;refine(HWr.out _ HBc.out).mono ?_;rintro e5 w5 ⟨⟨v4,L4,n4,k4,rfl,hv4,hL4⟩,hb5⟩;obtain⟨A4,c4,rfl,_,_⟩:=hv4.slice;(try go_wp2_with fail);have HV4:=zY hv4;have HL4:=zY hL4;have HBc:=zYt HBc hb5;clear hv4 hL4 hb5;have HS:=zY (HKS.out _ HBc.out);refine hko hK (by exact HS.out) (fun _=>?_);clear hK K;refine tk 12 ?_;refine tk 13 ?_;refine tk 14 ?_;refine tk 15 ?_;refine zE1 16 fun K hK=>?_;have HI4:=zY (HI.below HBc.out);refine wp_store_row 28 (.tmp 6) (.tmp 88) rfl _ _ rfl rfl 28 _ HI4.ar (by kernel_rfl) rfl (by simp[Value.oneCell']) ?_;have HI5:=zY (HI4.setA [.int .u32 7,.int .i64 (d:Int),.int .i64 (s:Int),.slice A4 L4.length c4]);have HV5:=zY (off_ses rfl rfl rfl rfl _ _ _ _ _ ⟨_,_,HI4.ar,rfl⟩ (grown_setRow _ _ #[.int .u32 7,.int .i64 (d:Int),.int .i64 (s:Int),.slice A4 L4.length c4]) HV4.out)
 have HS:=zY (HKT.out _ #[.int .u32 7,.int .i64 (d:Int),.int .i64 (s:Int),.slice A4 L4.length c4] HBc.out);refine hko hK (by exact HS.out) (fun _=>?_);clear hK K;refine wpAnyH_done (by kernel_rfl) ?_ _;go_wp2_with fail;go_roundw;case rel=>exact⟨i+1,_,_,L4,by omega,rfl,by go_num,HI5.out,HV5.out,HM.next Hbx.out HL4.out⟩
 case measure=>simp[intOf];omega}};{
 obtain rfl:i=l.length:=by omega
 have hiI:¬((l.length:Nat):Int)<(l.length:Int):=by omega
 have HMo:Hid (MadeOk L):=zY ⟨by have:=HM.len;omega,HM.num,HM.ok,by have:=HM.ents;rw[List.take_length]at this;have:=HGo.1;omega,HM.str⟩;have a0:=HI.ar.c 0;have a1:=HI.ar.c 1;have a2:=HI.ar.c 2;have a3:=HI.ar.c 3;have z0:=HI.rs.c 0;have z1:=HI.rs.c 1;have z2:=HI.rs.c 2;have z3:=HI.rs.c 3;have y0:=HI.rs.frozen 0;have y1:=HI.rs.frozen 1;have y2:=HI.rs.frozen 2;have y3:=HI.rs.frozen 3;have HW:=zY (HI.rs.setAll (i:=0) [.int .u32 7,.int .i64 (d:Int),.int .i64 (s:Int),.slice A L.length c]);have HBw:=zY (below_setAll (g:=w.heap.size) (Nat.le_refl _) [.int .u32 7,.int .i64 (d:Int),.int .i64 (s:Int),.slice A L.length c] wo 0 HI.bl);have HDw:=zY (off_ses rfl rfl rfl rfl wo _ w.heap.size _ _ ⟨_,_,HI.rs,rfl⟩ (grown_setAll w.heap.size [.int .u32 7,.int .i64 (d:Int),.int .i64 (s:Int),.slice A L.length c] wo 0) HV.out);go_wp2_with fail;refine bodyPost_ret (results_row_tmp rfl _ _ w.heap.size 28 _ (0,0) _ rfl HW.out underlying28 rfl (by kernel_rfl)) rfl ?_;exact⟨⟨d,s,_,L,_,rfl,Hds.1,Hds.2.1,Hds.2.2,HDw.out,fun _=>⟨HMo.out,by have:=HM.len;omega⟩⟩,HBw.out⟩}}
theorem made_any (w:World) (v:Value) (l:List Bat) (hv:SeqAt batS w v l) (x:Nat) (hx:x<256):Calls prog 11 #[v,.int .u8 (x:Int)] w fun e w'=>RetMade w' e/\Below w.heap.size w w':=
 (made_len w v l hv x hx).mono fun _ _ ⟨⟨d,s,va,L,ok,he,h1,h2,h3,h4,h5⟩,hb⟩=>⟨⟨d,s,va,L,ok,he,h1,h2,h3,h4,fun h=>(h5 h).1⟩,hb⟩
end
end Go.Proofs.YthgenkkkapilhaaGreatDoor