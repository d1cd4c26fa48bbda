/-
  Joined: VoL.
-/
import Derived.Test.YthgenkkkapilhaaGreatDoorVQn07
set_option linter.all false
set_option maxRecDepth 100000
set_option maxHeartbeats 64000000
namespace Go.Proofs.YthgenkkkapilhaaGreatDoor
open Go.Proofs.Tryz
section
open Go.RowKit
def u32V (x:Int):Value:=.int .u32 x
def getW (V:List Int) (i:Nat):Int:=(V[i]?).getD 0
theorem Blk.drewW {W:World} {g:Nat} {t:TypeId} {us:List Value} (h:Blk W g t us):Blk W.drew g t us:=h
theorem Blk.word {W:World} {g:Nat} {t:TypeId} {V:List Int} (h:Blk W g t (V.map u32V)) {i:Nat} (hi:i<V.length):W.cell? ⟨g,i,none⟩=some (.int .u32 (getW V i)):=by
 rw[h.cell (i:=i) (u:=.int .u32 (getW V i))];rw[List.getElem?_map,List.getElem?_eq_getElem hi,getW,List.getElem?_eq_getElem hi];rfl
theorem Blk.store {W:World} {g:Nat} {t:TypeId} {V:List Int} (h:Blk W g t (V.map u32V)) {i:Nat} {z:Int} (_:i<V.length):Blk (W.setCell ⟨g,i,none⟩ (.int .u32 z)) g t ((V.set i z).map u32V):=by
 have:=h.set i (.int .u32 z);rwa [show (V.map u32V).set i (.int .u32 z)=(V.set i z).map u32V by rw[List.map_set];rfl]at this
theorem Blk.farW {W:World} {g:Nat} {t:TypeId} {us:List Value} (h:Blk W (g+1) t us) {i:Nat} {z:Int}:Blk (W.setCell ⟨g,i,none⟩ (.int .u32 z)) (g+1) t us:=h.far (p:=⟨g,i,none⟩) (by simp) (.int .u32 z)
def mixW (V0:List Int) (a b c d:Nat) (x y:Int):List Int:=
 let V1:=V0.set a (((getW V0 a+getW V0 b)%4294967296+x)%4294967296)
 let V2:=V1.set d (rotI (bits .xor .u32 (getW V1 d) (getW V1 a)) 65536 65536)
 let V3:=V2.set c ((getW V2 c+getW V2 d)%4294967296)
 let V4:=V3.set b (rotI (bits .xor .u32 (getW V3 b) (getW V3 c)) 4096 1048576)
 let V5:=V4.set a (((getW V4 a+getW V4 b)%4294967296+y)%4294967296)
 let V6:=V5.set d (rotI (bits .xor .u32 (getW V5 d) (getW V5 a)) 256 16777216)
 let V7:=V6.set c ((getW V6 c+getW V6 d)%4294967296)
 let V8:=V7.set b (rotI (bits .xor .u32 (getW V7 b) (getW V7 c)) 128 33554432)
 V8
theorem mixW_eq {V0 V1 V2 V3 V4 V5 V6 V7 V8:List Int} {a b c d:Nat} {x y:Int} (e1:V0.set a (((getW V0 a+getW V0 b)%4294967296+x)%4294967296)=V1) (e2:V1.set d (rotI (bits .xor .u32 (getW V1 d) (getW V1 a)) 65536 65536)=V2) (e3:V2.set c ((getW V2 c+getW V2 d)%4294967296)=V3) (e4:V3.set b (rotI (bits .xor .u32 (getW V3 b) (getW V3 c)) 4096 1048576)=V4) (e5:V4.set a (((getW V4 a+getW V4 b)%4294967296+y)%4294967296)=V5) (e6:V5.set d (rotI (bits .xor .u32 (getW V5 d) (getW V5 a)) 256 16777216)=V6) (e7:V6.set c ((getW V6 c+getW V6 d)%4294967296)=V7) (e8:V7.set b (rotI (bits .xor .u32 (getW V7 b) (getW V7 c)) 128 33554432)=V8):mixW V0 a b c d x y=V8:=by
 subst e1 e2 e3 e4 e5 e6 e7 e8;rfl
theorem mixW_len {V:List Int} {a b c d:Nat} {x y:Int}:(mixW V a b c d x y).length=V.length:=by
 simp[mixW]
theorem mix_any (w:World) (V0:List Int) (hV:V0.length=16) (a b c d:Nat) (ha16:a<16) (hb16:b<16) (hc16:c<16) (hd16:d<16) (x y:Int):
  Calls prog 300 #[.agg (V0.map u32V).toArray,.int .i64 (a:Int),.int .i64 (b:Int),.int .i64 (c:Int),.int .i64 (d:Int),.int .u32 x,.int .u32 y] w fun e w'=>e=.returned (.agg ((mixW V0 a b c d x y).map u32V).toArray)/\Below w.heap.size w w':=by
 obtain⟨R,hR⟩:=zNm (mixW V0 a b c d x y);rw[hR];have HR:=zY hR;clear hR;have haI:(a:Int)<16:=by omega
 have hbI:(b:Int)<16:=by omega
 have hcI:(c:Int)<16:=by omega
 have hdI:(d:Int)<16:=by omega
 have l0:V0.length=16:=hV;have ha:a<V0.length:=by omega
 have hb:b<V0.length:=by omega
 have hc:c<V0.length:=by omega
 have hd:d<V0.length:=by omega
 have hA:=Blk.new w 269 (V0.map u32V);have hA2:=(hA.alloc (.cells (List.replicate 16 (.int .u32 0)).toArray 269));have hZ:=Blk.new (w.alloc (.cells (V0.map u32V).toArray 269)) 269 (List.replicate 16 (.int .u32 0));have hB:=((zBl w (.cells (V0.map u32V).toArray 269)).alloc (by simp) (.cells (List.replicate 16 (.int .u32 0)).toArray 269));have H0:=zY hA2;have Z0:Hid (Blk ((w.alloc (.cells (V0.map u32V).toArray 269)).alloc (.cells (List.replicate 16 (.int .u32 0)).toArray 269)) (w.heap.size+1) 269 (List.replicate 16 (.int .u32 0))):=zY (by simpa using hZ);have B0:=zY hB;clear hA hA2 hZ hB;go_enter func300,ntmps300;go_upto_region 1 with fail;change Code.wp _ _ _ _ ((w.alloc (.cells (V0.map u32V).toArray 269)).alloc (.cells (List.replicate 16 (.int .u32 0)).toArray 269));generalize (w.alloc (.cells (V0.map u32V).toArray 269)).alloc (.cells (List.replicate 16 (.int .u32 0)).toArray 269)=wa at *;have ca:=H0.word ha;have cb:=H0.word hb;have fa:=H0.frozen a;have h1:=H0.store (z:=((getW V0 a+getW V0 b)%4294967296+x)%4294967296) ha;have h2:=(Z0.out.farW (i:=a) (z:=((getW V0 a+getW V0 b)%4294967296+x)%4294967296));have h3:=B0.out.setCell (p:=⟨w.heap.size,a,none⟩) (Nat.le_refl _) (.int .u32 (((getW V0 a+getW V0 b)%4294967296+x)%4294967296));go_still_tail 11,(by kernel_rfl);go_upto_region 2 with fail;have H1:=zY h1.drewW;have Z1:=zY h2.drewW;have B1:=zY h3.drew;clear ca cb fa h1 h2 h3 H0 Z0 B0;obtain⟨V1,hV1⟩:=zNm (V0.set a (((getW V0 a+getW V0 b)%4294967296+x)%4294967296));rw[hV1]at H1;have E1:=zY hV1
 generalize (wa.setCell ⟨w.heap.size,a,none⟩ (.int .u32 (((getW V0 a+getW V0 b)%4294967296+x)%4294967296))).drew=w1 at *;have l1:V1.length=16:=by rw[<-hV1,List.length_set];assumption
 clear hV1 ha hb hc hd;have ha:a<V1.length:=by omega
 have hb:b<V1.length:=by omega
 have hc:c<V1.length:=by omega
 have hd:d<V1.length:=by omega
 have cd:=H1.word hd;have ca:=H1.word ha;have fd:=H1.frozen d;have h1:=H1.store (z:=rotI (bits .xor .u32 (getW V1 d) (getW V1 a)) 65536 65536) hd;have h2:=(Z1.out.farW (i:=d) (z:=rotI (bits .xor .u32 (getW V1 d) (getW V1 a)) 65536 65536));have h3:=B1.out.setCell (p:=⟨w.heap.size,d,none⟩) (Nat.le_refl _) (.int .u32 (rotI (bits .xor .u32 (getW V1 d) (getW V1 a)) 65536 65536));have HR:=zY (fun W X=>rot_any W X (r:=16) (a:=65536) (b:=65536) (by simp));go_still_tail 10,(by kernel_rfl);still_call (still_of (HR.out _ _));repeat still_step
 refine wpStill_nil ?_;go_upto_region 3 with fail;have H2:=zY h1.drewW;have Z2:=zY h2.drewW;have B2:=zY h3.drew;clear cd ca fd h1 h2 h3 H1 Z1 B1 HR;obtain⟨V2,hV2⟩:=zNm (V1.set d (rotI (bits .xor .u32 (getW V1 d) (getW V1 a)) 65536 65536));rw[hV2]at H2;have E2:=zY hV2;generalize (w1.setCell ⟨w.heap.size,d,none⟩ (.int .u32 (rotI (bits .xor .u32 (getW V1 d) (getW V1 a)) 65536 65536))).drew=w2 at *;have l2:V2.length=16:=by rw[<-hV2,List.length_set];assumption
 clear hV2 ha hb hc hd;have ha:a<V2.length:=by omega
 have hb:b<V2.length:=by omega
 have hc:c<V2.length:=by omega
 have hd:d<V2.length:=by omega
 have cc:=H2.word hc;have cd:=H2.word hd;have fc:=H2.frozen c;have h1:=H2.store (z:=(getW V2 c+getW V2 d)%4294967296) hc;have h2:=(Z2.out.farW (i:=c) (z:=(getW V2 c+getW V2 d)%4294967296));have h3:=B2.out.setCell (p:=⟨w.heap.size,c,none⟩) (Nat.le_refl _) (.int .u32 ((getW V2 c+getW V2 d)%4294967296));go_still_tail 9,(by kernel_rfl);go_upto_region 4 with fail;have H3:=zY h1.drewW;have Z3:=zY h2.drewW;have B3:=zY h3.drew;clear cc cd fc h1 h2 h3 H2 Z2 B2;obtain⟨V3,hV3⟩:=zNm (V2.set c ((getW V2 c+getW V2 d)%4294967296));rw[hV3]at H3;have E3:=zY hV3;generalize (w2.setCell ⟨w.heap.size,c,none⟩ (.int .u32 ((getW V2 c+getW V2 d)%4294967296))).drew=w3 at *;have l3:V3.length=16:=by rw[<-hV3,List.length_set];assumption
 clear hV3 ha hb hc hd;have ha:a<V3.length:=by omega
 have hb:b<V3.length:=by omega
 have hc:c<V3.length:=by omega
 have hd:d<V3.length:=by omega
 have cb:=H3.word hb;have cc:=H3.word hc;have fb:=H3.frozen b;have h1:=H3.store (z:=rotI (bits .xor .u32 (getW V3 b) (getW V3 c)) 4096 1048576) hb;have h2:=(Z3.out.farW (i:=b) (z:=rotI (bits .xor .u32 (getW V3 b) (getW V3 c)) 4096 1048576));have h3:=B3.out.setCell (p:=⟨w.heap.size,b,none⟩) (Nat.le_refl _) (.int .u32 (rotI (bits .xor .u32 (getW V3 b) (getW V3 c)) 4096 1048576));have HR:=zY (fun W X=>rot_any W X (r:=12) (a:=4096) (b:=1048576) (by simp));go_still_tail 10,(by kernel_rfl);still_call (still_of (HR.out _ _));repeat still_step
 refine wpStill_nil ?_;go_upto_region 5 with fail;have H4:=zY h1.drewW;have Z4:=zY h2.drewW;have B4:=zY h3.drew;clear cb cc fb h1 h2 h3 H3 Z3 B3 HR;obtain⟨V4,hV4⟩:=zNm (V3.set b (rotI (bits .xor .u32 (getW V3 b) (getW V3 c)) 4096 1048576));rw[hV4]at H4;have E4:=zY hV4;generalize (w3.setCell ⟨w.heap.size,b,none⟩ (.int .u32 (rotI (bits .xor .u32 (getW V3 b) (getW V3 c)) 4096 1048576))).drew=w4 at *;have l4:V4.length=16:=by rw[<-hV4,List.length_set];assumption
 clear hV4 ha hb hc hd;have ha:a<V4.length:=by omega
 have hb:b<V4.length:=by omega
 have hc:c<V4.length:=by omega
 have hd:d<V4.length:=by omega
 have ca:=H4.word ha;have cb:=H4.word hb;have fa:=H4.frozen a;have h1:=H4.store (z:=((getW V4 a+getW V4 b)%4294967296+y)%4294967296) ha;have h2:=(Z4.out.farW (i:=a) (z:=((getW V4 a+getW V4 b)%4294967296+y)%4294967296));have h3:=B4.out.setCell (p:=⟨w.heap.size,a,none⟩) (Nat.le_refl _) (.int .u32 (((getW V4 a+getW V4 b)%4294967296+y)%4294967296));go_still_tail 11,(by kernel_rfl);go_upto_region 6 with fail;have H5:=zY h1.drewW;have Z5:=zY h2.drewW;have B5:=zY h3.drew;clear ca cb fa h1 h2 h3 H4 Z4 B4;obtain⟨V5,hV5⟩:=zNm (V4.set a (((getW V4 a+getW V4 b)%4294967296+y)%4294967296));rw[hV5]at H5;have E5:=zY hV5;generalize (w4.setCell ⟨w.heap.size,a,none⟩ (.int .u32 (((getW V4 a+getW V4 b)%4294967296+y)%4294967296))).drew=w5 at *;have l5:V5.length=16:=by rw[<-hV5,List.length_set];assumption
 clear hV5 ha hb hc hd;have ha:a<V5.length:=by omega
 have hb:b<V5.length:=by omega
 have hc:c<V5.length:=by omega
 have hd:d<V5.length:=by omega
 have cd:=H5.word hd;have ca:=H5.word ha;have fd:=H5.frozen d;have h1:=H5.store (z:=rotI (bits .xor .u32 (getW V5 d) (getW V5 a)) 256 16777216) hd;have h2:=(Z5.out.farW (i:=d) (z:=rotI (bits .xor .u32 (getW V5 d) (getW V5 a)) 256 16777216));have h3:=B5.out.setCell (p:=⟨w.heap.size,d,none⟩) (Nat.le_refl _) (.int .u32 (rotI (bits .xor .u32 (getW V5 d) (getW V5 a)) 256 16777216));have HR:=zY (fun W X=>rot_any W X (r:=8) (a:=256) (b:=16777216) (by simp));go_still_tail 10,(by kernel_rfl);still_call (still_of (HR.out _ _));repeat still_step
 refine wpStill_nil ?_;go_upto_region 7 with fail;have H6:=zY h1.drewW;have Z6:=zY h2.drewW;have B6:=zY h3.drew;clear cd ca fd h1 h2 h3 H5 Z5 B5 HR;obtain⟨V6,hV6⟩:=zNm (V5.set d (rotI (bits .xor .u32 (getW V5 d) (getW V5 a)) 256 16777216));rw[hV6]at H6;have E6:=zY hV6;generalize (w5.setCell ⟨w.heap.size,d,none⟩ (.int .u32 (rotI (bits .xor .u32 (getW V5 d) (getW V5 a)) 256 16777216))).drew=w6 at *;have l6:V6.length=16:=by rw[<-hV6,List.length_set];assumption
 clear hV6 ha hb hc hd;have ha:a<V6.length:=by omega
 have hb:b<V6.length:=by omega
 have hc:c<V6.length:=by omega
 have hd:d<V6.length:=by omega
 have cc:=H6.word hc;have cd:=H6.word hd;have fc:=H6.frozen c;have h1:=H6.store (z:=(getW V6 c+getW V6 d)%4294967296) hc;have h2:=(Z6.out.farW (i:=c) (z:=(getW V6 c+getW V6 d)%4294967296));have h3:=B6.out.setCell (p:=⟨w.heap.size,c,none⟩) (Nat.le_refl _) (.int .u32 ((getW V6 c+getW V6 d)%4294967296));go_still_tail 9,(by kernel_rfl);go_upto_region 8 with fail;have H7:=zY h1.drewW;have Z7:=zY h2.drewW;have B7:=zY h3.drew;clear cc cd fc h1 h2 h3 H6 Z6 B6;obtain⟨V7,hV7⟩:=zNm (V6.set c ((getW V6 c+getW V6 d)%4294967296));rw[hV7]at H7;have E7:=zY hV7;generalize (w6.setCell ⟨w.heap.size,c,none⟩ (.int .u32 ((getW V6 c+getW V6 d)%4294967296))).drew=w7 at *;have l7:V7.length=16:=by rw[<-hV7,List.length_set];assumption
 clear hV7 ha hb hc hd;have ha:a<V7.length:=by omega
 have hb:b<V7.length:=by omega
 have hc:c<V7.length:=by omega
 have hd:d<V7.length:=by omega
 have cb:=H7.word hb;have cc:=H7.word hc;have fb:=H7.frozen b;have h1:=H7.store (z:=rotI (bits .xor .u32 (getW V7 b) (getW V7 c)) 128 33554432) hb;have h2:=(Z7.out.farW (i:=b) (z:=rotI (bits .xor .u32 (getW V7 b) (getW V7 c)) 128 33554432));have h3:=B7.out.setCell (p:=⟨w.heap.size,b,none⟩) (Nat.le_refl _) (.int .u32 (rotI (bits .xor .u32 (getW V7 b) (getW V7 c)) 128 33554432));have HR:=zY (fun W X=>rot_any W X (r:=7) (a:=128) (b:=33554432) (by simp));go_still_tail 10,(by kernel_rfl);still_call (still_of (HR.out _ _));repeat still_step
 refine wpStill_nil ?_;go_upto_region 9 with fail;have H8:=zY h1.drewW;have Z8:=zY h2.drewW;have B8:=zY h3.drew;clear cb cc fb h1 h2 h3 H7 Z7 B7 HR;obtain⟨V8,hV8⟩:=zNm (V7.set b (rotI (bits .xor .u32 (getW V7 b) (getW V7 c)) 128 33554432));rw[hV8]at H8;have E8:=zY hV8;generalize (w7.setCell ⟨w.heap.size,b,none⟩ (.int .u32 (rotI (bits .xor .u32 (getW V7 b) (getW V7 c)) 128 33554432))).drew=w8 at *;have l8:V8.length=16:=by rw[<-hV8,List.length_set];assumption
 clear hV8 ha hb hc hd;have ha:a<V8.length:=by omega
 have hb:b<V8.length:=by omega
 have hc:c<V8.length:=by omega
 have hd:d<V8.length:=by omega
 refine wp_region_lit ?_;refine wpList_load_row rfl 269 (.tmp 7) rfl w.heap.size rfl 269 (V8.map u32V).toArray (0,0) _ H8.out underlying269 rfl (by rw[show (V8.map u32V).toArray.size=16 by simp[l8]];kernel_rfl) ?_;refine wpList_store_row rfl 269 (.tmp 14) (.tmp 95) rfl (w.heap.size+1) (V8.map u32V).toArray rfl rfl 269 _ Z8.out (by rw[show (V8.map u32V).toArray.size=16 by simp[l8]];kernel_rfl) (by simp[l8]) (by simp[u32V,Value.oneCell']) ?_;go_wp2_with fail;have hcs:(V8.map u32V).toArray.size=16:=by simp[l8]
 refine bodyPost_ret (results_cell_row rfl _ _ (w.heap.size+1) 269 (V8.map u32V).toArray (0,0) _ rfl (setRow_heap _ _ _ _ _ _ Z8.out) underlying269 rfl (by rw[hcs];kernel_rfl)) rfl ?_;exact⟨by rw[<-HR.out,mixW_eq E1.out E2.out E3.out E4.out E5.out E6.out E7.out E8.out],below_setRow B8.out (by omega) _⟩
end
end Go.Proofs.YthgenkkkapilhaaGreatDoor