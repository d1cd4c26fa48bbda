/-
  Joined: VpZ VrX VsA PgB.
-/
import Derived.Test.YthgenkkkapilhaaGreatDoorVPn39
import Derived.Test.YthgenkkkapilhaaGreatDoorVPn41
set_option linter.all false
set_option maxRecDepth 100000
set_option maxHeartbeats 64000000
namespace Go.Proofs.YthgenkkkapilhaaGreatDoor
open Go.Proofs.Tryz
section
open Go.RowKit
structure MadeI (l:List Bat) (i:Nat) (L:List Ses):Prop where
 len:L.length<=i
 num:∀(j:Nat) (x:Ses),L[j]?=some x->x.num=(j:Int)+1
 ok:∀x∈L,SesOk x
 ents:entN L<=cntB (l.take i)
 str:∀x∈L,x.str.size<=661360
theorem MadeI.next {l:List Bat} {i:Nat} {L L':List Ses} {b:Bat} (h:MadeI l i L) (hb:l[i]?=some b/\cntB l<=10) (hL:L'=L∨∃x,L'=L++[x]/\SesOk x/\x.num=L.length+1/\x.ents.length<=b.l.length/\x.str.size<=65536*entN L+600*b.l.length):MadeI l (i+1) L':=by
 have hc:cntB (l.take (i+1))=cntB (l.take i)+b.l.length:=by rw[List.take_add_one,hb.1,cntB_app];simp[cntB]
 have hc2:cntB (l.take (i+1))<=cntB l:=by have h:=cntB_app (l.take (i+1)) (l.drop (i+1));rw[List.take_append_drop]at h;omega
 have h1:=h.ents;have h2:=h.len;rcases hL with rfl|⟨x,rfl,hx,hn,he,hs⟩;{exact⟨by omega,h.num,h.ok,by omega,h.str⟩};{
 refine⟨by simp;omega,fun j y hy=>?_,fun y hy=>?_,?_,fun y hy=>?_⟩;{
 by_cases hj:j<L.length;{
 rw[List.getElem?_append_left hj]at hy;exact h.num j y hy};{
 rw[List.getElem?_append_right (by omega)]at hy;have hj0:j-L.length=0:=by apply Decidable.byContradiction;intro hne;rw[List.getElem?_eq_none (by simp;omega)]at hy;cases hy
 rw[hj0]at hy;obtain rfl:x=y:=by simpa using hy
 rw[hn,show j=L.length by omega]}};{
 rcases List.mem_append.1 hy with hy|hy;{exact h.ok y hy};{rw[List.mem_singleton.1 hy];exact hx}};{
 rw[entN_app];simp only[entN];omega};{
 rcases List.mem_append.1 hy with hy|hy;{exact h.str y hy};{rw[List.mem_singleton.1 hy];omega}}}
structure MaI (w W:World) (ac:List Value):Prop where
 rs:Blk W w.heap.size 28 [.int .u32 0,.int .i64 0,.int .i64 0,.slice none 0 0]
 ar:Blk W (w.heap.size+1) 28 ac
 bl:Below w.heap.size w W
section
variable {w W W':World} {ac ac':List Value}
theorem MaI.below (h:MaI w W ac) (hb:Below W.heap.size W W'):MaI w W' ac:=⟨h.rs.kept hb,h.ar.kept hb,h.bl.trans (hb.mono h.bl.size)⟩
theorem MaI.setA (h:MaI w W ac) (ac':List Value):MaI w (W.setRow (w.heap.size+1) ac'.toArray) ac':=
 ⟨h.rs.grownN (grown_setRow W (w.heap.size+1) ac'.toArray) (by omega),h.ar.setRow ac',below_setRow h.bl (by omega) _⟩
end
structure MadeOk (L:List Ses):Prop where
 len:L.length<=2
 num:∀(j:Nat) (x:Ses),L[j]?=some x->x.num=(j:Int)+1
 ok:∀x∈L,SesOk x
 ents:entN L<=10
 str:∀x∈L,x.str.size<=661360
def RetMade2 (m:Nat) (w':World) (e:Ending):Prop:=∃(d s:Nat) (v:Value) (L:List Ses) (b:Bool),e=.returned (.tuple #[.agg #[.int .u32 7,.int .i64 (d:Int),.int .i64 (s:Int),v],.bool b])/\1<=d/\d<=3/\s<=2/\SeqAt sesS w' v L/\(b=true->MadeOk L/\L.length<=m)
theorem made_len (w:World) (v:Value) (l:List Bat) (hv:SeqAt batS w v l) (x:Nat) (hx:x<256):Calls prog 11 #[v,.int .u8 (x:Int)] w fun e w'=>RetMade2 l.length w' e/\Below w.heap.size w w':=by
 have HGr:=zY (fun(W:World) (h:Below w.heap.size w W)=>great39_any W v l (hv.below h));have Hv:=zY hv;obtain⟨A0,c0,rfl,_,_⟩:=hv.slice;obtain⟨d,hd⟩:∃d:Nat,1+x%3=d:=⟨_,rfl⟩;obtain⟨s,hs⟩:∃s:Nat,x/3%3=s:=⟨_,rfl⟩;have Hds:Hid (1<=d/\d<=3/\s<=2):=zY (by omega);have hdI:(1:Int)+(x:Int)%3=d:=by omega
 have hsI:(x:Int)/3%3=s:=by omega
 have hR:=Blk.new w 28 [.int .u32 0,.int .i64 0,.int .i64 0,.slice none 0 0];change Blk (w.alloc (.cells #[.int .u32 0,.int .i64 0,.int .i64 0,.slice none 0 0] 28)) _ _ _ at hR;have hA:=Blk.new (w.alloc (.cells #[.int .u32 0,.int .i64 0,.int .i64 0,.slice none 0 0] 28)) 28 [.int .u32 7,.int .i64 (d:Int),.int .i64 (s:Int),.slice none 0 0];change Blk ((w.alloc (.cells #[.int .u32 0,.int .i64 0,.int .i64 0,.slice none 0 0] 28)).alloc (.cells #[.int .u32 7,.int .i64 (d:Int),.int .i64 (s:Int),.slice none 0 0] 28)) _ _ _ at hA;rw[World.size_alloc]at hA;have hB1:=zBl w (.cells #[.int .u32 0,.int .i64 0,.int .i64 0,.slice none 0 0] 28);have HI0:Hid (MaI w ((w.alloc (.cells #[.int .u32 0,.int .i64 0,.int .i64 0,.slice none 0 0] 28)).alloc (.cells #[.int .u32 7,.int .i64 (d:Int),.int .i64 (s:Int),.slice none 0 0] 28)) [.int .u32 7,.int .i64 (d:Int),.int .i64 (s:Int),.slice none 0 0]):=zY ⟨hR.alloc _,hA,hB1.alloc hB1.size _⟩;clear hR hA hB1 hv hd hs;go_enter func11,ntmps11;go_upto_region 2 with fail;generalize ((w.alloc (.cells #[.int .u32 0,.int .i64 0,.int .i64 0,.slice none 0 0] 28)).alloc (.cells #[.int .u32 7,.int .i64 (d:Int),.int .i64 (s:Int),.slice none 0 0] 28))=wa at *;have HG:=zY (HGr.out _ HI0.bl);go_wp2_with fail;refine HG.mono ?_;rintro e1 w1 ⟨⟨n,rfl,hn⟩,hb1⟩;have HI:=zY (HI0.below hb1);clear hb1 HG HI0 hdI hsI;have hret:0<n∨(n=0/\GreatOk l):=hn.imp (fun e=>by omega) (fun h=>h);clear hn;have HRet:Hid (∀W,MaI w W [.int .u32 7,.int .i64 (d:Int),.int .i64 (s:Int),.slice none 0 0]->True):=zY (fun _ _=>trivial);clear HRet;have a0:=HI.ar.c 0;have a1:=HI.ar.c 1
 have a2:=HI.ar.c 2;have a3:=HI.ar.c 3;have z0:=HI.rs.c 0;have z1:=HI.rs.c 1;have z2:=HI.rs.c 2;have z3:=HI.rs.c 3;have y0:=HI.rs.frozen 0;have y1:=HI.rs.frozen 1;have y2:=HI.rs.frozen 2;have y3:=HI.rs.frozen 3;by_cases hbad:0<n∨2<l.length;{
 have HW:=zY (HI.rs.setAll (i:=0) [.int .u32 7,.int .i64 (d:Int),.int .i64 (s:Int),.slice none 0 0]);have HBw:=zY (below_setAll (g:=w.heap.size) (Nat.le_refl _) [.int .u32 7,.int .i64 (d:Int),.int .i64 (s:Int),.slice none 0 0] w1 0 HI.bl);clear hret;by_cases h0:0<n;{
 go_wp2_with fail;refine bodyPost_ret (results_row_tmp rfl _ _ w.heap.size 28 _ (0,0) _ rfl HW.out underlying28 rfl (by kernel_rfl)) rfl ?_;exact⟨⟨d,s,_,[],false,rfl,Hds.1,Hds.2.1,Hds.2.2,SeqAt.nil _,fun h=>by cases h⟩,HBw.out⟩};{
 have h2:(2:Int)<l.length:=by omega
 go_wp2_with fail;refine bodyPost_ret (results_row_tmp rfl _ _ w.heap.size 28 _ (0,0) _ rfl HW.out underlying28 rfl (by kernel_rfl)) rfl ?_;exact⟨⟨d,s,_,[],false,rfl,Hds.1,Hds.2.1,Hds.2.2,SeqAt.nil _,fun h=>by cases h⟩,HBw.out⟩}};{
 obtain⟨rfl,hgo⟩:n=0/\GreatOk l:=by rcases hret with h|h;{exact absurd (.inl h) hbad};{exact h}
 have HGo:=zY hgo;have hl2:l.length<=2:=by omega
 have h2:¬(2:Int)<l.length:=by omega
 clear hret hbad hgo a0 a1 a2 a3 z0 z1 z2 z3 y0 y1 y2 y3;have HM0:Hid (MadeI l 0 []):=zY ⟨by simp,(fun j x hx=>by simp at hx),(fun x hx=>nomatch hx),by simp[entN],(fun x hx=>nomatch hx)⟩;go_wp2;go_loopw [7,34] (fun y z wr=>∃(i:Nat) (n:Int) (v:Value) (L:List Ses),i<=l.length/\y=.int .i64 n/\z=.int .i64 (i:Int)/\MaI w wr [.int .u32 7,.int .i64 (d:Int),.int .i64 (s:Int),v]/\SeqAt sesS wr v L/\MadeI l i L) (fun _ z _=>l.length-(intOf z).toNat);case atStart=>exact⟨0,0,_,[],by omega,rfl,rfl,HI.out,SeqAt.nil _,HM0.out⟩
 case round=>
 clear HI HM0;obtain⟨i,n,v,L,hi,rfl,rfl,hI,hV,hM⟩:=hrel;obtain⟨A,c,rfl,_,_⟩:=hV.slice;have HI:=zY hI;have HV:=zY hV;have HM:=zY hM;clear hI hV hM;obtain⟨wo,rfl⟩:∃x,x=wr:=⟨_,rfl⟩;by_cases h:i<l.length;{
 have hiI:(i:Int)<l.length:=by omega
 obtain⟨bx,hbx⟩:∃x,l[i]?=some x:=⟨_,List.getElem?_eq_getElem h⟩;have Hbx:Hid (l[i]?=some bx/\cntB l<=10):=zY ⟨hbx,HGo.1⟩;have HCo:=zY (fun c (hc:c∈bx.l)=>HGo.2.1 bx (List.mem_of_getElem? hbx) c hc);have Hcn:Hid (bx.l.length<=10):=zY (by
  have h1:=HGo.1
  have h2:=cntB_app (l.take i) (l.drop i)
  rw[List.take_append_drop,show l.drop i=bx::l.drop (i+1) by rw[List.drop_eq_getElem_cons h];congr 1;exact Option.some.inj ((List.getElem?_eq_getElem h).symm.trans hbx)]at h2
  simp only[cntB]at h2
  omega);obtain⟨_,_,e9,_,_,h44⟩:=Hv.out;cases e9;obtain⟨b,o,cs,rfl,⟨va,rfl,hva⟩,hc⟩:=h44 i bx hbx;have HVa:=zY hva;obtain⟨Ac,cc,rfl,_,_⟩:=hva.slice;have HKb:Hid (∀W,Below w.heap.size w W->W.cell? ⟨b,o+i*2,none⟩=some (.int .i64 bx.date)/\W.cell? ⟨b,o+i*2+1,none⟩=some (.slice Ac bx.l.length cc)):=zY (fun W h=>⟨cell_below h (hc 0 _ rfl),cell_below h (hc 1 _ rfl)⟩);clear hc h44 hbx hva;obtain⟨date,bl⟩:=bx;dsimp only at HCo Hcn HVa HKb;obtain⟨c0,c1⟩:=HKb.out wo HI.bl;go_wp2;go_loopw [7,43] (fun y z wr=>∃(j:Nat) (n:Int),j<=bl.length/\y=.int .i64 n/\z=.int .i64 (j:Int)/\Below wo.heap.size wo wr) (fun _ z _=>bl.length-(intOf z).toNat);case atStart=>exact⟨0,n,by omega,rfl,rfl,Below.refl _ _⟩
 case round=>
 obtain⟨j,n2,hj,rfl,rfl,hB⟩:=hrel;have HB:=zY hB;clear hB c0 c1;obtain⟨wp,rfl⟩:∃x,x=wr:=⟨_,rfl⟩;by_cases hj2:j<bl.length;{
 have hjI:(j:Int)<bl.length:=by omega
 obtain⟨x,hx⟩:∃x,bl[j]?=some x:=⟨_,List.getElem?_eq_getElem hj2⟩;have HX:=zY (HCo.out x (List.mem_of_getElem? hx));have HBw:=zY (HI.bl.trans (HB.mono HI.bl.size));obtain⟨_,_,e9,_,_,h44⟩:=HVa.below HBw.out;cases e9;obtain⟨b2,o2,cs,rfl,⟨va,rfl,hva⟩,hc⟩:=h44 j x hx;obtain⟨k,path,al,tgt,cont⟩:=x;dsimp only at hc hva HX;have HAa:=zY hva;obtain⟨Aa,ca,rfl,_,_⟩:=hva.slice;have e0:wp.cell? ⟨b2,o2+j*5,none⟩=some (.int .i64 k):=hc 0 _ rfl;have e1:wp.cell? ⟨b2,o2+j*5+1,none⟩=some (.string path):=hc 1 _ rfl;have e2:wp.cell? ⟨b2,o2+j*5+2,none⟩=some (.slice Aa al.length ca):=hc 2 _ rfl;have e3:wp.cell? ⟨b2,o2+j*5+3,none⟩=some (.string tgt):=hc 3 _ rfl;have e4:wp.cell? ⟨b2,o2+j*5+4,none⟩=some (.string cont):=hc 4 _ rfl;clear hc h44 hx hva;have hK:=Blk.new wp 91 [.int .i64 k,.string path,.slice Aa al.length ca,.string tgt,.string cont];change Blk (wp.alloc (.cells #[.int .i64 k,.string path,.slice Aa al.length ca,.string tgt,.string cont] 91)) _ _ _ at hK;have HK:=zY hK;have HBk:=zY (zBl wp (.cells #[.int .i64 k,.string path,.slice Aa al.length ca,.string tgt,.string cont] 91));have HAk:=zY (HAa.below HBk.out);clear hK;go_upto_region 11 with fail;clear e0 e1 e2 e3 e4;generalize wp.alloc (.cells #[.int .i64 k,.string path,.slice Aa al.length ca,.string tgt,.string cont] 91)=wk at *;have k2:=HK.c 2;have k3:=HK.c 3;have k4:=HK.c 4;go_wp2;go_loopw [7,60] (fun y z wr=>∃(q:Nat) (n:Int),q<=al.length/\y=.int .i64 n/\z=.int .i64 (q:Int)/\Below wk.heap.size wk wr) (fun _ z _=>al.length-(intOf z).toNat);case atStart=>exact⟨0,_,by omega,rfl,rfl,Below.refl _ _⟩
 case round=>
 clear k2 k3 k4;obtain⟨q,n3,hq,rfl,rfl,hB3⟩:=hrel;have HB3:=zY hB3;clear hB3;by_cases hq2:q<al.length;{
 have hqI:(q:Int)<al.length:=by omega
 obtain⟨y,hy⟩:∃y,al[q]?=some y:=⟨_,List.getElem?_eq_getElem hq2⟩;obtain⟨_,_,e9,_,_,h44⟩:=HAk.below HB3.out;cases e9;obtain⟨b3,o3,cs,rfl,rfl,hc⟩:=h44 q y hy;have q0:wr.cell? ⟨b3,o3+q*2,none⟩=some (.string y.k):=hc 0 _ rfl;have q1:wr.cell? ⟨b3,o3+q*2+1,none⟩=some (.string y.v):=hc 1 _ rfl;have hT:=Blk.new wr 93 [.string y.k,.string y.v];change Blk (wr.alloc (.cells #[.string y.k,.string y.v] 93)) _ _ _ at hT;have t0:=hT.c 0;have t1:=hT.c 1;have HBt:=zY (HB3.alloc HB3.size (.cells #[.string y.k,.string y.v] 93));clear hc h44 hy hT;go_wp2;go_roundw;case rel=>exact⟨q+1,_,by omega,rfl,by go_num,HBt.out⟩
 case measure=>simp[intOf];omega};{
 obtain rfl:q=al.length:=by omega
 have hqI:¬((al.length:Nat):Int)<(al.length:Int):=by omega
 go_wp2;go_roundw;case rel=>exact⟨j+1,_,by omega,rfl,by go_num,HB.trans ((HBk.trans (HB3.mono HBk.size)).mono HB.size)⟩
 case measure=>simp[intOf];omega}};{
 obtain rfl:j=bl.length:=by omega
 have hjI:¬((bl.length:Nat):Int)<(bl.length:Int):=by omega
 have HIp:=zY (HI.below HB.out);have HVp:=zY (HV.below HB.out);clear HI HV HB;have HI:=zY HIp.out;have HV:=zY HVp.out;clear HIp HVp;have HWr:=zY (fun(W:World) (h:Below wp.heap.size wp W)=>write39_any W 7 (d:Int) (s:Int) (.slice A L.length c) L (HV.below h) (by have:=HM.len;omega) (by have:=HM.ents;have h1:=cntB_app (l.take i) (l.drop i);rw[List.take_append_drop]at h1;have:=Hbx.2;omega) HM.ok date (.slice Ac bl.length cc) bl (HVa.below (HI.bl.trans (h.mono HI.bl.size))) Hcn.out HCo.out);have Hbl:Hid ((⟨date,bl⟩:Bat).l.length=bl.length):=zY rfl;have HKS:Hid (∀W,Below wp.heap.size wp W->W.cell? ⟨b,o+i*2,none⟩=some (.int .i64 date)/\W.cell? ⟨b,o+i*2+1,none⟩=some (.slice Ac bl.length cc)):=zY (fun W h=>HKb.out W (HI.bl.trans (h.mono HI.bl.size)));have HKT:Hid (∀(W:World) (u:Array Value),Below wp.heap.size wp W->(W.setRow (w.heap.size+1) u).cell? ⟨b,o+i*2,none⟩=some (.int .i64 date)/\(W.setRow (w.heap.size+1) u).cell? ⟨b,o+i*2+1,none⟩=some (.slice Ac bl.length cc)):=zY (fun W u h=>by
  have hx:=HKb.out _ ((below_setRow (HI.bl.trans (h.mono HI.bl.size)) (show w.heap.size<=w.heap.size+1 by omega) u))
  exact hx);have HBc:=zY ((Below.refl wp.heap.size wp).drew);have HS:=zY (HKS.out _ HBc.out);go_upto_region 18 with fail;refine wp_region_held_drew (S:=(fun W=>W.cell? ⟨b,o+i*2,none⟩=some (.int .i64 date)/\W.cell? ⟨b,o+i*2+1,none⟩=some (.slice Ac bl.length cc))) (by kernel_rfl) ?_ (fun hHeld=>?_);{exact HS.out};refine tk 1 ?_;refine tk 2 ?_;refine tk 3 ?_;refine tk 4 ?_;refine tk 5 ?_;refine tk 6 ?_;refine tk 7 ?_;refine tk 8 ?_;refine tk 9 ?_;refine tk 10 ?_;refine zE1 0 fun K hK=>?_;refine wp_load_row 28 (.tmp 6) rfl (w.heap.size+1) rfl 28 _ (0,0) _ (HI.ar.kept HBc.out) underlying28 rfl (by kernel_rfl) ?_;refine hko hK (by exact HS.out) (fun _=>?_);clear hK K;refine zE1 11 fun K hK=>?_;go_simp;refine(HWr.out _ HBc.out).mono ?_;rintro e5 w5 ⟨⟨v4,L4,n4,k4,rfl,hv4,hL4⟩,hb5⟩;obtain⟨A4,c4,rfl,_,_⟩:=hv4.slice;(try go_wp2_with fail);have HV4:=zY hv4;have HL4:=zY hL4;have HBc:=zYt HBc hb5;clear hv4 hL4 hb5;have HS:=zY (HKS.out _ HBc.out);refine hko hK (by exact HS.out) (fun _=>?_);clear hK K;refine tk 12 ?_;refine tk 13 ?_;refine tk 14 ?_;refine tk 15 ?_;refine zE1 16 fun K hK=>?_;have HI4:=zY (HI.below HBc.out);refine wp_store_row 28 (.tmp 6) (.tmp 88) rfl _ _ rfl rfl 28 _ HI4.ar (by kernel_rfl) rfl (by simp[Value.oneCell']) ?_;have HI5:=zY (HI4.setA [.int .u32 7,.int .i64 (d:Int),.int .i64 (s:Int),.slice A4 L4.length c4]);have HV5:=zY (off_ses rfl rfl rfl rfl _ _ _ _ _ ⟨_,_,HI4.ar,rfl⟩ (grown_setRow _ _ #[.int .u32 7,.int .i64 (d:Int),.int .i64 (s:Int),.slice A4 L4.length c4]) HV4.out)
 have HS:=zY (HKT.out _ #[.int .u32 7,.int .i64 (d:Int),.int .i64 (s:Int),.slice A4 L4.length c4] HBc.out);refine hko hK (by exact HS.out) (fun _=>?_);clear hK K;refine wpAnyH_done (by kernel_rfl) ?_ _;go_wp2_with fail;go_roundw;case rel=>exact⟨i+1,_,_,L4,by omega,rfl,by go_num,HI5.out,HV5.out,HM.next Hbx.out HL4.out⟩
 case measure=>simp[intOf];omega}};{
 obtain rfl:i=l.length:=by omega
 have hiI:¬((l.length:Nat):Int)<(l.length:Int):=by omega
 have HMo:Hid (MadeOk L):=zY ⟨by have:=HM.len;omega,HM.num,HM.ok,by have:=HM.ents;rw[List.take_length]at this;have:=HGo.1;omega,HM.str⟩;have a0:=HI.ar.c 0;have a1:=HI.ar.c 1;have a2:=HI.ar.c 2;have a3:=HI.ar.c 3;have z0:=HI.rs.c 0;have z1:=HI.rs.c 1;have z2:=HI.rs.c 2;have z3:=HI.rs.c 3;have y0:=HI.rs.frozen 0;have y1:=HI.rs.frozen 1;have y2:=HI.rs.frozen 2;have y3:=HI.rs.frozen 3;have HW:=zY (HI.rs.setAll (i:=0) [.int .u32 7,.int .i64 (d:Int),.int .i64 (s:Int),.slice A L.length c]);have HBw:=zY (below_setAll (g:=w.heap.size) (Nat.le_refl _) [.int .u32 7,.int .i64 (d:Int),.int .i64 (s:Int),.slice A L.length c] wo 0 HI.bl);have HDw:=zY (off_ses rfl rfl rfl rfl wo _ w.heap.size _ _ ⟨_,_,HI.rs,rfl⟩ (grown_setAll w.heap.size [.int .u32 7,.int .i64 (d:Int),.int .i64 (s:Int),.slice A L.length c] wo 0) HV.out);go_wp2_with fail;refine bodyPost_ret (results_row_tmp rfl _ _ w.heap.size 28 _ (0,0) _ rfl HW.out underlying28 rfl (by kernel_rfl)) rfl ?_;exact⟨⟨d,s,_,L,_,rfl,Hds.1,Hds.2.1,Hds.2.2,HDw.out,fun _=>⟨HMo.out,by have:=HM.len;omega⟩⟩,HBw.out⟩}}
end
section
open Go.RowKit
theorem entN_mem {L:List Ses} {i:Nat} {x:Ses} (h:L[i]?=some x):x.ents.length<=entN L:=by
 have h1:=entN_take L h;have h2:=entN_le L (i+1);omega
theorem MadeOk.all {L:List Ses} (h:MadeOk L):SesAll L:=fun i x hx=>by
 have hm:=List.mem_of_getElem? hx
 have ho:=h.ok x hm
 have hn:=h.num i x hx
 have hi:=(List.getElem?_eq_some_iff.1 hx).1
 have hl:=h.len
 have h1:=entN_mem hx
 have h2:=h.ents
 have h3:=h.str x hm
 exact⟨hn,⟨by omega,ho.date,ho.prev,ho.str,by omega,fun e he=>(ho.ok e he).ok,by rw[ho.sig];decide⟩,by omega⟩
theorem entsL_small {l:List Ent} (h:∀e∈l,EntB e):(entsL l).length<=l.length*131000:=by
 induction l with
 |nil=>simp[entsL]
 |cons a l ih=>
 have h1:=encL_len (h a List.mem_cons_self).ok;have h2:=(h a List.mem_cons_self).exs;have h3:=ih fun e he=>h e (List.mem_cons_of_mem _ he);have e:entsL (a::l)=encL a++entsL l:=rfl;rw[e,List.length_append,List.length_cons,Nat.succ_mul];omega
theorem dir_small {L:List Ses} (h:MadeOk L) {j:Nat} {x:Ses} (hx:L[j]?=some x):(dirL x).length<=1400000:=by
 have hm:=List.mem_of_getElem? hx;have ho:=h.ok x hm;have hv:=(h.all j x hx).2.1;have hn:=entN_mem hx;have he:=h.ents;have h1:=numL_len x.num.toNat (by have:=hv.num;omega);have h2:=numL_len x.date.toNat (by have:=hv.date;omega);have h3:=nstL_len x.prev (by have:=ho.prev;omega);have h4:=numL_len x.str.size (by have:=hv.str;omega);have h5:=nstL_len (strB (digL (bs x.str))) (by rw[strB_size,digL_len];decide);have h6:=numL_len x.ents.length (by omega);have h7:=entsL_small ho.ok;have h8:=nstL_len x.sig (by rw[ho.sig];decide);have h9:=ho.prev;have ha:x.sig.size=0:=by rw[ho.sig];rfl
 rw[strB_size]at h1 h2 h3 h4 h5 h6 h8;rw[strB_size,digL_len]at h5;have e:x.ents.length*131000<=10*131000:=Nat.mul_le_mul_right _ (by omega);simp only[dirL,restL,signL,List.length_append,dig8_len];omega
theorem partsB_len (s:ByteArray):(partsB s).length=(s.size+27)/28:=by rw[partsB,List.length_map,List.length_range]
theorem parts_small {L:List Ses} (h:MadeOk L) {j:Nat} {x:Ses} (hx:L[j]?=some x):(partsB (strB (dirL x))).length<=65536:=by
 have:=dir_small h hx;rw[partsB_len,strB_size];omega
theorem contE_made {L:List Ses} (h:MadeOk L) {j:Nat} {x:Ses} (hx:L[j]?=some x) {d s:Nat} (hd:1<=d/\d<=3) (hs:s<=2):contE d s L x.num=0/\L[(x.num-1).toNat]?=some x:=by
 have hn:=h.num j x hx;have hj:=(List.getElem?_eq_some_iff.1 hx).1;have e:(x.num-1).toNat=j:=by omega
 have hp:=parts_small h hx;refine⟨?_,by rw[e];exact hx⟩;unfold contE layE;rw[if_neg (by rw[if_neg (by omega)];simp),if_neg (by omega),e,hx];dsimp only;rw[if_neg (by omega)]
def markPS:ByteArray:=⟨#[48,48,48,48,48,49,49,48,48,49,48,49,48,49,49,49]⟩
theorem markPS_bs:bs markPS=markP:=rfl
def plAtB (l:List Nat) (k:Nat):Bool:=(l.drop k).take 16==markP
theorem plAt_ext (s:ByteArray) (k:Nat):s.extract k (k+16)=markPS↔plAtB (bs s) k=true:=by
 have e:bs (s.extract k (k+16))=((bs s).drop k).take 16:=by rw[bs_extract,List.drop_take];congr 1;omega
 rw[plAtB,beq_iff_eq,<-e,<-markPS_bs];exact⟨fun h=>by rw[h],bs_inj⟩
theorem smplain_any (w:World) (s:ByteArray) (k:Nat) (hk:k+16<=s.size) (hs:s.size<=100000000):Calls prog 125 #[.string s,.int .i64 (k:Int)] w fun e w'=>e=.returned (.bool (plAtB (bs s) k))/\w=w':=by
 have i1:(0:Int)<=(k:Int):=by omega
 have i2:(k:Int)<=(s.size:Int):=by omega
 have i3:(16:Int)<=(s.size:Int)-(k:Int):=by omega
 have HW:Hid (∀W:World,Calls prog 194 #[.string s,.int .i64 (k:Int)] W fun e w'=>e=.returned (.bool true)/\W=w'):=zY (fun W=>by
  go_enter func194,ntmps194
  go_wp2
  go_ret
  exact⟨rfl,rfl⟩);have hw:IntKind.i64.wrap ((k:Int)+16)=((k+16:Nat):Int):=by rw[zIw (by omega)];omega
 have i4:(k:Int)+16=((k+16:Nat):Int):=by omega
 have i5:((k+16:Nat):Int)<=(s.size:Int):=by omega
 have i6:(k:Int)<=((k+16:Nat):Int):=by omega
 obtain⟨T,hT⟩:=zNm (s.extract k (k+16));have hI:=plAt_ext s k;rw[hT]at hI;obtain⟨b,hb⟩:=zNm (plAtB (bs s) k);rw[hb]at hI⊢;clear hb;have hk1:k<=k+16:=by omega
 generalize k+16=q at *;go_enter func125,ntmps125;go_wp2_with fail;refine(HW.out _).mono ?_;rintro e w1 ⟨rfl,rfl⟩;cases b with
 |true=>have hT2:=hI.2 rfl;have hL:T.toList=[48,48,48,48,48,49,49,48,48,49,48,49,48,49,49,49]:=toListV.2 hT2;clear hI hT2;go_wp2;go_ret;first|exact⟨rfl,rfl⟩|exact⟨ret_bool' (by simp[hL]),rfl⟩
 |false=>
 have hT2:¬T=markPS:=fun e=>by have:=hI.1 e;cases this
 have hL:¬T.toList=[48,48,48,48,48,49,49,48,48,49,48,49,48,49,49,49]:=fun e=>hT2 (toListV.1 e);clear hI hT2;go_wp2;go_ret;first|exact⟨rfl,rfl⟩|exact⟨ret_bool' (by simp[hL]),rfl⟩
theorem rfar26_any (w:World) (s:ByteArray) (k:Nat) (hk:k<s.size):Calls prog 115 #[.string s,.int .i64 (k:Int)] w fun e w'=>e=.returned (.bool false)/\w=w':=by
 have h1:decide ((k:Int)< -16)=false:=decide_eq_false (by omega);have h2:¬((s.size:Int)<=k):=by omega
 go_enter func115,ntmps115;go_wp2;go_ret;exact⟨rfl,rfl⟩
theorem rcell26_any (w:World) (s:ByteArray) (k:Nat) (hk:k<s.size):Calls prog 116 #[.string s,.int .i64 (k:Int)] w fun e w'=>e=.returned (.int .u8 ((s[k]'hk).toNat:Nat))/\w=w':=by
 have h1:decide ((k:Int)<0)=false:=decide_eq_false (by omega);have h2:¬((s.size:Int)<=k):=by omega
 have h3:(k:Int)<s.size:=by omega
 go_enter func116,ntmps116;go_wp2;go_ret;exact⟨rfl,rfl⟩
theorem r12pm_any (w:World):Calls prog 117 #[] w fun e w'=>e=.returned (.string ⟨#[48,48,48,48,48,49,49,48,48,49,48,49,48,49,49,49]⟩)/\w=w':=by
 go_enter func117,ntmps117;go_wp2;go_ret;exact⟨rfl,rfl⟩
theorem markP_at:∀i,(h:i<16)->((⟨#[48,48,48,48,48,49,49,48,48,49,48,49,48,49,49,49]⟩:ByteArray)[i]'h).toNat=cf markP i:=by decide
theorem plAtB_false {l:List Nat} {k i:Nat} (hi:i<16) (h:cf l (k+i)≠cf markP i):plAtB l k=false:=by
 cases e:plAtB l k with
 |false=>rfl
 |true=>
 rw[plAtB,beq_iff_eq]at e;refine absurd ?_ h;rw[<-e];unfold cf;rw[List.getElem?_take,if_pos hi,List.getElem?_drop]
theorem plAtB_true {l:List Nat} {k:Nat} (hk:k+16<=l.length) (h:∀i,i<16->cf l (k+i)=cf markP i):plAtB l k=true:=by
 rw[plAtB,beq_iff_eq];refine List.ext_getElem (by rw[List.length_take,List.length_drop];show _=16;omega) fun i h1 h2=>?_;have h3:i<16:=h2;have:=h i h3;rw[cf_get (List.getElem?_eq_getElem (by omega)),cf_get (List.getElem?_eq_getElem h2)]at this;rw[List.getElem_take,List.getElem_drop];exact this
theorem risplain_any (w:World) (s:ByteArray) (k:Nat) (hk:k+16<=s.size) (hs:s.size<=100000000):Calls prog 61 #[.string s,.int .i64 (k:Int)] w fun e w'=>e=.returned (.bool (plAtB (bs s) k))/\w=w':=by
 have HF:=zY (fun W=>rfar26_any W s k (by omega));have HM:=zY (fun W=>r12pm_any W);go_enter func61,ntmps61;go_wp2_with (go_at_call 115;refine(HF.out _).mono ?_;rintro e w1 ⟨rfl,rfl⟩);go_loop [5] (fun x=>∃i:Nat,i<=16/\x=.int .i64 (i:Int)/\∀j,j<i->cf (bs s) (k+j)=cf markP j) (fun x=>16-(intOf x).toNat);case atStart=>exact⟨0,by omega,rfl,fun j hj=>absurd hj (by omega)⟩
 case round=>
 obtain⟨i,hi,rfl,hall⟩:=hrel;have HA:=zY hall;clear hall;by_cases h:i<16;{
 have hiI:(i:Int)<16:=by omega
 have hki:k+i<s.size:=by omega
 have hx:=bsc s (k+i) hki;have hy:=markP_at i h;have HC:Hid (∀W:World,Calls prog 116 #[.string s,.int .i64 ((k:Int)+i)] W fun e w'=>e=.returned (.int .u8 ((s[k+i]'hki).toNat:Nat))/\W=w'):=zY (fun W=>by
  have h:=rcell26_any W s (k+i) hki
  rw[show (((k+i:Nat):Int))=(k:Int)+i by omega]at h
  exact h);have hmz:(⟨#[48,48,48,48,48,49,49,48,48,49,48,49,48,49,49,49]⟩:ByteArray).size=16:=rfl;have ht1:IntKind.i64.wrap ((k:Int)+i)=(k:Int)+i:=zIw (by omega);by_cases he:(s[k+i]'hki).toNat=((⟨#[48,48,48,48,48,49,49,48,48,49,48,49,48,49,49,49]⟩:ByteArray)[i]'h).toNat;{
 have hcmp:((((s[k+i]'hki).toNat:Nat):Int) != (((⟨#[48,48,48,48,48,49,49,48,48,49,48,49,48,49,49,49]⟩:ByteArray)[i]'h).toNat:Int))=false:=by rw[bne_eq_false_iff_eq,he]
 have HS:Hid (∀j,j<i+1->cf (bs s) (k+j)=cf markP j):=zY (fun j hj=>by
  by_cases e:j=i
  ·subst e;rw[hx,he,hy]
  ·exact HA.out j (by omega));clear hx hy he hk;go_wp2_with (first|(go_at_call 116;refine(HC.out _).mono ?_;rintro e w1 ⟨rfl,rfl⟩)|(go_at_call 117;refine(HM.out _).mono ?_;rintro e w1 ⟨rfl,rfl⟩));go_round;case rel=>exact⟨i+1,by omega,by go_num,HS.out⟩
 case measure=>simp[intOf];omega};{
 have hcmp:((((s[k+i]'hki).toNat:Nat):Int) != (((⟨#[48,48,48,48,48,49,49,48,48,49,48,49,48,49,49,49]⟩:ByteArray)[i]'h).toNat:Int))=true:=by rw[bne_iff_ne];omega
 have HN:Hid (plAtB (bs s) k=false):=zY (plAtB_false h (by rw[hx,<-hy];exact he));clear hx hy he hk;go_wp2_with (first|(go_at_call 116;refine(HC.out _).mono ?_;rintro e w1 ⟨rfl,rfl⟩)|(go_at_call 117;refine(HM.out _).mono ?_;rintro e w1 ⟨rfl,rfl⟩));go_ret;exact⟨by rw[HN.out]<;>rfl,rfl⟩}};{
 obtain rfl:i=16:=by omega
 have HN:Hid (plAtB (bs s) k=true):=zY (plAtB_true (by rw[bs_len];exact hk) HA.out);go_wp2;go_ret;exact⟨by rw[HN.out]<;>rfl,rfl⟩}
end
end Go.Proofs.YthgenkkkapilhaaGreatDoor