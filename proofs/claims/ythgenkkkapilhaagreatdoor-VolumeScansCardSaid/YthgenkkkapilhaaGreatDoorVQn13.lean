/-
  Joined: VpB.
-/
import Derived.Test.YthgenkkkapilhaaGreatDoorVQn12
set_option linter.all false
set_option maxRecDepth 100000
set_option maxHeartbeats 64000000
namespace Go.Proofs.YthgenkkkapilhaaGreatDoor
open Go.Proofs.Tryz
section
open Go.RowKit
structure CSt (w wr:World) (H M:List Int):Prop where
 below:Below w.heap.size w wr
 h:Blk wr w.heap.size 207 (H.map u32V)
 r:Blk wr (w.heap.size+1) 207 ((List.replicate 8 0).map u32V)
 m:Blk wr (w.heap.size+1+1) 269 (M.map u32V)
theorem CSt.drew {w wr:World} {H M:List Int} (h:CSt w wr H M):CSt w wr.drew H M:=⟨h.1.drew,h.2,h.3,h.4⟩
theorem CSt.set {w wr:World} {H M:List Int} (h:CSt w wr H M) {i:Nat} (hi:i<M.length) (z:Int):CSt w (wr.setCell ⟨w.heap.size+1+1,i,none⟩ (.int .u32 z)) H (M.set i z):=
 ⟨h.1.setCell (by show w.heap.size<=w.heap.size+1+1;omega) _,h.2.far (by show w.heap.size≠w.heap.size+1+1;omega) _,h.3.far (by show w.heap.size+1≠w.heap.size+1+1;omega) _,h.4.store hi⟩
theorem Tryz.sizeV16 {L:List Int} (h:L.length=16):(prog.info? 269).map (·.size)=some (L.map u32V).toArray.size:=by
 rw[show (L.map u32V).toArray.size=16 by simp[h]];kernel_rfl
structure DSt (w wr:World) (G:Nat) (H M V:List Int):Prop extends CSt w wr H M where
 iv:Blk wr G 207 (initW.map u32V)
 v:Blk wr (G+1) 269 (V.map u32V)
 hG:w.heap.size+1+1<G
theorem DSt.start {w wx w1:World} {H M:List Int} (h:CSt w wx H M) (hb:Below wx.heap.size wx w1) (hH:H.length=8):DSt w ((w1.alloc (.cells (initW.map u32V).toArray 207)).alloc (.cells ((List.replicate 16 (0:Int)).map u32V).toArray 269)) w1.heap.size H M (vrunW H 0):=by
 have hlt:=h.m.lt;have hs:=hb.size;have b1:=Blk.new w1 207 (initW.map u32V);have b2:=Blk.new (w1.alloc (.cells (initW.map u32V).toArray 207)) 269 ((List.replicate 16 (0:Int)).map u32V);rw[World.size_alloc]at b2;have h0:=h.below.trans (hb.mono h.below.size);exact⟨⟨(h0.alloc h0.size _).alloc (by simp;have:=h0.size;omega) _,((h.h.kept hb).alloc _).alloc _,((h.r.kept hb).alloc _).alloc _,((h.m.kept hb).alloc _).alloc _⟩,b1.alloc _,b2,by omega⟩
theorem DSt.drew {w wr:World} {G:Nat} {H M V:List Int} (h:DSt w wr G H M V):DSt w wr.drew G H M V:=⟨h.toCSt.drew,h.iv,h.v,h.hG⟩
theorem DSt.setV {w wr:World} {G:Nat} {H M V:List Int} (h:DSt w wr G H M V) {i:Nat} (hi:i<V.length) (z:Int):DSt w (wr.setCell ⟨G+1,i,none⟩ (.int .u32 z)) G H M (V.set i z):=by
 have:=h.hG;exact⟨⟨h.below.setCell (by show w.heap.size<=G+1;omega) _,h.h.far (by show w.heap.size≠G+1;omega) _,h.r.far (by show w.heap.size+1≠G+1;omega) _,h.m.far (by show w.heap.size+1+1≠G+1;omega) _⟩,h.iv.far (by show G≠G+1;omega) _,h.v.store hi,h.hG⟩
theorem DSt.setH {w wr:World} {G:Nat} {H M V:List Int} (h:DSt w wr G H M V) {i:Nat} (hi:i<H.length) (z:Int):DSt w (wr.setCell ⟨w.heap.size,i,none⟩ (.int .u32 z)) G (H.set i z) M V:=by
 have:=h.hG;exact⟨⟨h.below.setCell (Nat.le_refl _) _,h.h.store hi,h.r.far (by show w.heap.size+1≠w.heap.size;omega) _,h.m.far (by show w.heap.size+1+1≠w.heap.size;omega) _⟩,h.iv.far (by show G≠w.heap.size;omega) _,h.v.far (by show G+1≠w.heap.size;omega) _,h.hG⟩
theorem DSt.kept {w wr w':World} {G:Nat} {H M V:List Int} (h:DSt w wr G H M V) (hb:Below wr.heap.size wr w'):DSt w w' G H M V:=
 ⟨⟨h.below.trans (hb.mono h.below.size),h.h.kept hb,h.r.kept hb,h.m.kept hb⟩,h.iv.kept hb,h.v.kept hb,h.hG⟩
theorem DSt.rowV {w wr:World} {G:Nat} {H M V V':List Int} (h:DSt w wr G H M V):DSt w (wr.setRow (G+1) (V'.map u32V).toArray) G H M V':=by
 have:=h.hG;have hr:Below (G+1) wr (wr.setRow (G+1) (V'.map u32V).toArray):=below_setRow (Below.refl _ _) (Nat.le_refl _) _;exact⟨⟨h.below.trans (hr.mono (by omega)),h.h.below hr (by omega),h.r.below hr (by omega),h.m.below hr (by omega)⟩,h.iv.below hr (by omega),setRow_heap _ _ _ _ _ _ h.v,h.hG⟩
theorem compress_any (w:World) (H:List Int) (hH:H.length=8) (s:ByteArray) (hs:s.size=64) (cnt:Nat) (hcnt:cnt<18446744073709551616) (last:Bool):
  Calls prog 239 #[.agg (H.map u32V).toArray,.string s,.int .u64 (cnt:Int),.bool last] w fun e w'=>e=.returned (.tuple #[.agg ((comW H (bs s) cnt last).map u32V).toArray,.int .i64 0])/\Below w.heap.size w w':=by
 obtain⟨R,hR⟩:=zNm (comW H (bs s) cnt last);rw[hR];have HR:=zY hR;have HH:=zY hH;clear hR hH;have h1:Hid (CSt w (((w.alloc (.cells (H.map u32V).toArray 207)).alloc (.cells (List.replicate 8 (.int .u32 0)).toArray 207)).alloc (.cells (List.replicate 16 (.int .u32 0)).toArray 269)) H (mrunW (bs s) 0)):=zY (by
  have b1:=Blk.new w 207 (H.map u32V)
  have b2:=Blk.new (w.alloc (.cells (H.map u32V).toArray 207)) 207 (List.replicate 8 (.int .u32 0))
  have b3:=Blk.new ((w.alloc (.cells (H.map u32V).toArray 207)).alloc (.cells (List.replicate 8 (.int .u32 0)).toArray 207)) 269 (List.replicate 16 (.int .u32 0))
  refine⟨((zBl w _).alloc (by simp) _).alloc (by simp;omega) _,(b1.alloc _).alloc _,?_,?_⟩
  {
  have:=b2.alloc (.cells (List.replicate 16 (.int .u32 0)).toArray 269)
  simpa [u32V]using this}
  ·simpa [u32V,mrunW]using b3);go_enter func239,ntmps239;go_upto_region 4 with fail;change Code.wp _ _ _ _ (((w.alloc (.cells (H.map u32V).toArray 207)).alloc (.cells (List.replicate 8 (.int .u32 0)).toArray 207)).alloc (.cells (List.replicate 16 (.int .u32 0)).toArray 269));generalize ((w.alloc (.cells (H.map u32V).toArray 207)).alloc (.cells (List.replicate 8 (.int .u32 0)).toArray 207)).alloc (.cells (List.replicate 16 (.int .u32 0)).toArray 269)=wa at *;go_wp2;go_loopw [11] (fun x wr=>∃i:Nat,i<=64/\x=.int .i64 (i:Int)/\CSt w wr H (mrunW (bs s) i)) (fun x _=>64-(intOf x).toNat);case atStart=>exact⟨0,by omega,rfl,h1.out⟩
 case round=>
 obtain⟨i,hi,rfl,hst⟩:=hrel;have HS:=zY hst;clear hst h1;by_cases h:i<64;{
 have hiI:(i:Int)<64:=by omega
 have his:i<s.size:=by omega
 have hisI:(i:Int)<s.size:=by omega
 obtain⟨q,hq⟩:=zNm (i/4);have hqI:(i:Int)/4=q:=by omega
 have hqT:Int.tdiv (i:Int) 4=q:=by rw[Int.tdiv_eq_ediv_of_nonneg (by omega)];exact hqI
 have hq16:(q:Int)<16:=by omega
 have HqW:Hid (IntKind.i64.wrap (q:Int)=q):=zY (zIw (by omega));have hqn:q<16:=by omega
 have cq:=HS.m.word (i:=q) (by rw[mrunW_len];exact hqn);have fq:=HS.m.frozen q;obtain⟨b,hb⟩:=zNm ((s[i]'his).toNat);have hb256:b<256:=by rw[<-hb];exact(s[i]'his).toNat_lt
 have Hcf:Hid ((bs s).getD i 0=b):=zY (by
  rw[List.getD_eq_getElem?_getD]
  have:=bsc s i his
  unfold cf at this
  rw[this,hb]);have hbI:(b:Int)%4294967296=b:=by omega
 obtain⟨M,hM⟩:=zNm (mrunW (bs s) i);have HM:Hid (M.length=16/\mrunW (bs s) (i+1)=M.set q (bits .or .u32 (getW M q) (plc b (i%4)))):=zY (by
  rw[<-hM]
  refine⟨mrunW_len _ _,?_⟩
  rw[mrunW,hq,Hcf.out]);rw[hM]at HS cq;generalize hz:getW M q=z at *;have Hz:=zY hz;have hr:i%4=0∨i%4=1∨i%4=2∨i%4=3:=by omega
 clear hM hq hz;rcases hr with hr|hr|hr|hr;{
 have hrI:(i:Int)%4=0:=by omega
 have hrT:Int.tmod (i:Int) 4=0:=by rw[Int.tmod_eq_emod_of_nonneg (by omega)];exact hrI
 have hrW:IntKind.i64.wrap 0=0:=by decide
 have hrX:IntKind.i64.wrap 0=0:=by decide
 have HPl:Hid (plc b (i%4)=(b:Int)):=zY (by rw[hr];unfold plc;omega);have hqW:=HqW.out;clear hr;go_upto_region 7 with fail;go_still_tail 17,(by kernel_rfl);go_wp2;go_roundw;case rel=>exact⟨i+1,by omega,by go_num,by rw[HM.2,HPl.out];exact(HS.set (by rw[HM.1];exact hqn) _).drew⟩
 case measure=>simp[intOf];omega};{
 have hrI:(i:Int)%4=1:=by omega
 have hrT:Int.tmod (i:Int) 4=1:=by rw[Int.tmod_eq_emod_of_nonneg (by omega)];exact hrI
 have hrW:IntKind.i64.wrap 1=1:=by decide
 have hrX:IntKind.i64.wrap 8=8:=by decide
 have HPl:Hid (plc b (i%4)=(b:Int)*256%4294967296):=zY (by rw[hr];unfold plc;omega);have hqW:=HqW.out;clear hr;go_upto_region 7 with fail;go_still_tail 17,(by kernel_rfl);go_wp2;go_roundw;case rel=>exact⟨i+1,by omega,by go_num,by rw[HM.2,HPl.out];exact(HS.set (by rw[HM.1];exact hqn) _).drew⟩
 case measure=>simp[intOf];omega};{
 have hrI:(i:Int)%4=2:=by omega
 have hrT:Int.tmod (i:Int) 4=2:=by rw[Int.tmod_eq_emod_of_nonneg (by omega)];exact hrI
 have hrW:IntKind.i64.wrap 2=2:=by decide
 have hrX:IntKind.i64.wrap 16=16:=by decide
 have HPl:Hid (plc b (i%4)=(b:Int)*65536%4294967296):=zY (by rw[hr];unfold plc;omega);have hqW:=HqW.out;clear hr;go_upto_region 7 with fail;go_still_tail 17,(by kernel_rfl);go_wp2;go_roundw;case rel=>exact⟨i+1,by omega,by go_num,by rw[HM.2,HPl.out];exact(HS.set (by rw[HM.1];exact hqn) _).drew⟩
 case measure=>simp[intOf];omega};{
 have hrI:(i:Int)%4=3:=by omega
 have hrT:Int.tmod (i:Int) 4=3:=by rw[Int.tmod_eq_emod_of_nonneg (by omega)];exact hrI
 have hrW:IntKind.i64.wrap 3=3:=by decide
 have hrX:IntKind.i64.wrap 24=24:=by decide
 have HPl:Hid (plc b (i%4)=(b:Int)*16777216%4294967296):=zY (by rw[hr];unfold plc;omega);have hqW:=HqW.out;clear hr;go_upto_region 7 with fail;go_still_tail 17,(by kernel_rfl);go_wp2;go_roundw;case rel=>exact⟨i+1,by omega,by go_num,by rw[HM.2,HPl.out];exact(HS.set (by rw[HM.1];exact hqn) _).drew⟩
 case measure=>simp[intOf];omega}};{
 obtain rfl:i=64:=by omega
 have hiI:¬((64:Nat):Int)<64:=by omega
 have HS2:Hid (CSt w wr H (msgW (bs s))):=zY (by have:=HS.out;rwa [mrunW_all (bs_lt s)]at this);obtain⟨wx,rfl⟩:∃x,x=wr:=⟨_,rfl⟩;have HML:=zY (msgW_len (bs s));have HR1:Hid (outW H (rndW (msgW (bs s)) (headW H cnt last) 80)=R):=zY HR.out;generalize msgW (bs s)=M at *;clear HS HR hs;go_wp2_with fail;refine(init_lit _).mono ?_;rintro e1 w1 ⟨rfl,hb1⟩;have HD0:=zY (DSt.start HS2.out hb1 HH.out);clear hb1 HS2;go_upto_region 10 with fail;change Code.wp _ _ _ _ ((w1.alloc (.cells (initW.map u32V).toArray 207)).alloc (.cells ((List.replicate 16 (0:Int)).map u32V).toArray 269));generalize (w1.alloc (.cells (initW.map u32V).toArray 207)).alloc (.cells ((List.replicate 16 (0:Int)).map u32V).toArray 269)=wb at *;generalize w1.heap.size=G at *;go_wp2;go_loopw [14] (fun x wr=>∃i:Nat,i<=8/\x=.int .i64 (i:Int)/\DSt w wr G H M (vrunW H i)) (fun x _=>8-(intOf x).toNat);case atStart=>exact⟨0,by omega,rfl,HD0.out⟩
 case round=>
 obtain⟨i,hi,rfl,hst⟩:=hrel;have HD:=zY hst;clear hst HD0;by_cases h:i<8;{
 have hiI:(i:Int)<8:=by omega
 have hi16:(i:Int)<16:=by omega
 obtain⟨j,hj⟩:=zNm (i+8);have hjI:(i:Int)+8=j:=by omega
 have hj16:(j:Int)<16:=by omega
 have cH:=HD.h.word (i:=i) (by rw[HH.out];exact h);have cI:=HD.iv.word (i:=i) (by show i<8;exact h);have cV:=HD.v.word (i:=i) (by rw[vrunW_len];omega);have cV2:=HD.v.word (i:=j) (by rw[vrunW_len];omega);have fV:=HD.v.frozen i;have fV2:=HD.v.frozen j;have HN:Hid (DSt w ((wr.setCell ⟨G+1,i,none⟩ (.int .u32 (getW H i))).setCell ⟨G+1,j,none⟩ (.int .u32 (getW initW i))) G H M (vrunW H (i+1))):=zY (by
  have h1:=HD.setV (i:=i) (by rw[vrunW_len];omega) (getW H i)
  have h2:=h1.setV (i:=j) (by rw[List.length_set,vrunW_len];omega) (getW initW i)
  rw[vrunW,hj]
  exact h2);have cI2:=(HD.setV (i:=i) (by rw[vrunW_len];omega) (getW H i)).iv.word (i:=i) (by show i<8;exact h);have cV3:=(HD.setV (i:=i) (by rw[vrunW_len];omega) (getW H i)).v.word (i:=j) (by rw[List.length_set,vrunW_len];omega);have fV3:=(HD.setV (i:=i) (by rw[vrunW_len];omega) (getW H i)).v.frozen j;generalize getW H i=a1 at *;generalize getW initW i=a2 at *;clear hj;go_wp2;go_roundw;case rel=>exact⟨i+1,by omega,by go_num,HN.out⟩
 case measure=>simp[intOf];omega};{
 obtain rfl:i=8:=by omega
 have hiI:¬((8:Nat):Int)<8:=by omega
 have HD2:Hid (DSt w wr G H M (H++initW)):=zY (by have:=HD.out;rwa [vrunW_all HH.out]at this);obtain⟨wy,rfl⟩:∃x,x=wr:=⟨_,rfl⟩;clear HD;obtain⟨V0,hV0⟩:=zNm (H++initW);have l0:V0.length=16:=by rw[<-hV0,List.length_append,HH.out];rfl
 rw[hV0]at HD2;have HV0:=zY hV0;have L0:=zY l0;clear hV0 l0;have c12:=HD2.v.word (i:=12) (by rw[L0.out];omega);have f12:=HD2.v.frozen 12;go_upto_region 16 with fail;have HD3:=zY (HD2.setV (i:=12) (by rw[L0.out];omega) (bits .xor .u32 (getW V0 12) ((cnt:Int)%4294967296)));generalize hW1:wy.setCell ⟨G+1,12,none⟩ (.int .u32 (bits .xor .u32 (getW V0 12) ((cnt:Int)%4294967296)))=wz at *;clear hW1;obtain⟨V1,hV1⟩:=zNm (V0.set 12 (bits .xor .u32 (getW V0 12) ((cnt:Int)%4294967296)));have HV1:=zY hV1;have L1:Hid (V1.length=16):=zY (by rw[<-hV1,List.length_set,L0.out]);rw[hV1]at HD3;clear hV1 c12 f12 HD2;have c13:=HD3.v.word (i:=13) (by rw[L1.out];omega);have f13:=HD3.v.frozen 13;go_upto_region 17 with fail;have HD4:=zY (HD3.setV (i:=13) (by rw[L1.out];omega) (bits .xor .u32 (getW V1 13) ((cnt:Int)/4294967296)));generalize hW1:wz.setCell ⟨G+1,13,none⟩ (.int .u32 (bits .xor .u32 (getW V1 13) ((cnt:Int)/4294967296)))=wu at *;clear hW1;obtain⟨V2,hV2⟩:=zNm (V1.set 13 (bits .xor .u32 (getW V1 13) ((cnt:Int)/4294967296)));have L2:Hid (V2.length=16):=zY (by rw[<-hV2,List.length_set,L1.out]);have HV2:Hid (headW H cnt last=flipW last V2):=zY (by rw[<-hV2,<-HV1.out,<-HV0.out];rfl);rw[hV2]at HD4;clear hV2 HV1 HV0 c13 f13 HD3;go_upto_if 74 with fail;go_cut [] (fun wx=>DSt w wx G H M (headW H cnt last));case first=>(
 cases last with
 |false=>go_wp2;go_meet;rw[HV2.out];exact HD4.out
 |true=>
 have c14:=HD4.v.word (i:=14) (by rw[L2.out];omega);have f14:=HD4.v.frozen 14;have HD5:=zY (HD4.setV (i:=14) (by rw[L2.out];omega) (bits .xor .u32 IntKind.u32.max (getW V2 14)));have hx14:True:=trivial;go_wp2;go_meet;rw[HV2.out];exact HD5.out)
 case rest=>
 obtain⟨Vh,hVh⟩:=zNm (headW H cnt last);have LVh:Hid (Vh.length=16):=zY (by rw[<-hVh];exact headW_len HH.out _ _);rw[hVh]at hcut HR1;have HD6:=zY hcut;clear hcut hVh HV2 L2 HD4 L0 L1;go_wp2;go_loopw [15,16,17,18] (fun x _ _ _ wr=>∃r:Nat,r<=10/\x=.int .i64 (r:Int)/\DSt w wr G H M (rndW M Vh (8*r))) (fun x _ _ _ _=>10-(intOf x).toNat);case atStart=>exact⟨0,by omega,rfl,HD6.out⟩
 case round=>
 obtain⟨r,hr,rfl,hst⟩:=hrel;have HD:=zY hst;clear hst HD6;by_cases h:r<10;{
 have hrI:(r:Int)<10:=by omega
 have HPm:=zY (fun W=>perm_any W r h);obtain⟨P,hP⟩:=zNm (permB r);have hP16:P.size=16:=by rw[<-hP];exact perm_size r
 have HPx:Hid (∀j (hj:j<P.size),48<=(P[j]'hj).toNat/\(P[j]'hj).toNat<=57∨97<=(P[j]'hj).toNat/\(P[j]'hj).toNat<=102):=zY (fun j hj=>by
  have h1:=perm_hex r h j (by omega)
  rw[hP]at h1
  have h2:=bsc P j hj
  rw[List.getD_eq_getElem?_getD]at h1
  unfold cf at h2
  rwa [h2]at h1);have HPs:Hid (∀j (hj:j<P.size),hexN ((P[j]'hj).toNat)=sigN r j):=zY (fun j hj=>by
  have h2:=bsc P j hj
  unfold cf at h2
  unfold sigN
  rw[hP,List.getD_eq_getElem?_getD,h2]);rw[hP]at HPm;have HPz:=zY hP16;clear hP hP16;go_wp2_with fail;refine(HPm.out _).mono ?_;rintro e2 w2 ⟨rfl,rfl⟩;obtain⟨wq,rfl⟩:∃x,x=wr:=⟨_,rfl⟩;go_wp2;go_loopw [17,18] (fun x _ wr=>∃k:Nat,k<=8/\x=.int .i64 (k:Int)/\DSt w wr G H M (rndW M Vh (8*r+k))) (fun x _ _=>8-(intOf x).toNat);case atStart=>exact⟨0,by omega,rfl,HD.out⟩
 case round=>
 obtain⟨k,hk,rfl,hst⟩:=hrel;have HDk:=zY hst;clear hst HD;by_cases hk8:k<8;{
 have hkI:(k:Int)<8:=by omega
 have HCo:=zY (fun W=>columns_any W k hk8);obtain⟨a4,ha4⟩:=zNm ((colW k).getD 0 0);obtain⟨b4,hb4⟩:=zNm ((colW k).getD 1 0);obtain⟨c4,hc4⟩:=zNm ((colW k).getD 2 0);obtain⟨d4,hd4⟩:=zNm ((colW k).getD 3 0);have hcl:=colW_lt k hk8;have hcf:=colW_four k hk8;rw[ha4,hb4,hc4,hd4]at hcl hcf;have HCl:=zY hcl;have HCo2:Hid (∀W,Calls prog 299 #[.int .i64 (k:Int)] W fun e w'=>e=.returned (.agg #[.int .i64 (a4:Int),.int .i64 (b4:Int),.int .i64 (c4:Int),.int .i64 (d4:Int)])/\Below W.heap.size W w'):=zY (fun W=>by have:=HCo.out W;rw[hcf]at this;exact this);have HSt:Hid (∀V,stepW M V r k=mixW V a4 b4 c4 d4 (getW M (sigN r (2*k))) (getW M (sigN r (2*k+1)))):=zY (fun V=>by unfold stepW;rw[ha4,hb4,hc4,hd4]);clear ha4 hb4 hc4 hd4 hcl hcf HCo;have LV:Hid ((rndW M Vh (8*r+k)).length=16):=zY (by rw[rndW_len,LVh.out]);have HRn:Hid (rndW M Vh (8*r+(k+1))=stepW M (rndW M Vh (8*r+k)) r k):=zY (rndW_step hk8);generalize rndW M Vh (8*r+k)=V at *;go_wp2_with fail;refine(HCo2.out _).mono ?_;rintro e3 w3 ⟨rfl,hb3⟩;have HDa:=zY ((HDk.kept hb3).kept ((Below.refl _ w3).alloc (Nat.le_refl _) (.cells #[.int .i64 (a4:Int),.int .i64 (b4:Int),.int .i64 (c4:Int),.int .i64 (d4:Int)] 273)));have HEa:Hid (Blk (w3.alloc (.cells #[.int .i64 (a4:Int),.int .i64 (b4:Int),.int .i64 (c4:Int),.int .i64 (d4:Int)] 273)) w3.heap.size 273 [.int .i64 (a4:Int),.int .i64 (b4:Int),.int .i64 (c4:Int),.int .i64 (d4:Int)]):=zY (Blk.new _ _ _);have HGE:Hid (G+1<w3.heap.size):=zY (HDk.kept hb3).v.lt;clear hb3 HDk;go_upto_region 27 with fail
 generalize w3.alloc (.cells #[.int .i64 (a4:Int),.int .i64 (b4:Int),.int .i64 (c4:Int),.int .i64 (d4:Int)] 273)=wz at *;generalize w3.heap.size=Ee at *;obtain⟨p1,hp1⟩:=zNm (2*k);obtain⟨p2,hp2⟩:=zNm (p1+1);have q1:(2:Int)*k=p1:=by omega
 have q1w:IntKind.i64.wrap ((2:Int)*k)=p1:=by rw[q1];exact zIw (by omega)
 have q2:(p1:Int)+1=p2:=by omega
 have q1v:IntKind.i64.wrap (p1:Int)=p1:=zIw (by omega);have q2v:IntKind.i64.wrap (p2:Int)=p2:=zIw (by omega);have q2w:IntKind.i64.wrap ((p1:Int)+1)=p2:=by rw[q2];exact zIw (by omega)
 have hl1:p1<P.size:=by rw[HPz.out];omega
 have hl2:p2<P.size:=by rw[HPz.out];omega
 have hl1I:(p1:Int)<P.size:=by omega
 have hl2I:(p2:Int)<P.size:=by omega
 have hx1:=HPx.out p1 hl1;have hx2:=HPx.out p2 hl2;have hs1:=HPs.out p1 hl1;have hs2:=HPs.out p2 hl2;obtain⟨y1,hy1⟩:=zNm ((P[p1]'hl1).toNat);obtain⟨y2,hy2⟩:=zNm ((P[p2]'hl2).toNat);rw[hy1]at hx1 hs1;rw[hy2]at hx2 hs2;have HG1:=zY (fun W=>digit_any W y1 hx1);have HG2:=zY (fun W=>digit_any W y2 hx2);obtain⟨s1,es1⟩:=zNm (sigN r p1);obtain⟨s2,es2⟩:=zNm (sigN r p2);have b1:s1<16:=by rw[<-es1];exact sigN_lt r h p1 (by omega)
 have b2:s2<16:=by rw[<-es2];exact sigN_lt r h p2 (by omega)
 have b1I:(s1:Int)<16:=by omega
 have b2I:(s2:Int)<16:=by omega
 have e1:(if 97<=y1 then y1-87 else y1-48:Nat)=s1:=by rw[<-es1,<-hs1];rfl
 have e2:(if 97<=y2 then y2-87 else y2-48:Nat)=s2:=by rw[<-es2,<-hs2];rfl
 rw[e1]at HG1;rw[e2]at HG2;have HSt2:Hid (stepW M V r k=mixW V a4 b4 c4 d4 (getW M s1) (getW M s2)):=zY (by rw[HSt.out,hp1,es1,hp2,es2]);have HB12:=zY (And.intro b1 b2);obtain⟨x1,hxx1⟩:=zNm (getW M s1);obtain⟨x2,hxx2⟩:=zNm (getW M s2);rw[hxx1,hxx2]at HSt2;have HMw:Hid (∀W V',DSt w W G H M V'->W.cell? ⟨w.heap.size+1+1,s1,none⟩=some (.int .u32 x1)/\W.cell? ⟨w.heap.size+1+1,s2,none⟩=some (.int .u32 x2))   :=zY (fun W V' hD=>by
  rw[<-hxx1,<-hxx2]
  exact⟨hD.m.word (by rw[HML.out];omega),hD.m.word (by rw[HML.out];omega)⟩);have hS0:(fun W=>W.cell? ⟨Ee,0,none⟩=some (.int .i64 (a4:Int))/\W.cell? ⟨Ee,1,none⟩=some (.int .i64 (b4:Int))/\W.cell? ⟨Ee,2,none⟩=some (.int .i64 (c4:Int))/\W.cell? ⟨Ee,3,none⟩=some (.int .i64 (d4:Int))/\W.cell? ⟨w.heap.size+1+1,s1,none⟩=some (.int .u32 x1)/\W.cell? ⟨w.heap.size+1+1,s2,none⟩=some (.int .u32 x2)) wz:=⟨HEa.c 0,HEa.c 1,HEa.c 2,HEa.c 3,(HMw.out _ _ HDa.out).1,(HMw.out _ _ HDa.out).2⟩;have HS0:=zY hS0;clear hS0 hxx1 hxx2 hp1 hp2 hx1 hx2 hs1 hs2 es1 es2 e1 e2 b1 b2 HSt HPx HPs;refine wp_region_held_drew (S:=(fun W=>W.cell? ⟨Ee,0,none⟩=some (.int .i64 (a4:Int))/\W.cell? ⟨Ee,1,none⟩=some (.int .i64 (b4:Int))/\W.cell? ⟨Ee,2,none⟩=some (.int .i64 (c4:Int))/\W.cell? ⟨Ee,3,none⟩=some (.int .i64 (d4:Int))/\W.cell? ⟨w.heap.size+1+1,s1,none⟩=some (.int .u32 x1)/\W.cell? ⟨w.heap.size+1+1,s2,none⟩=some (.int .u32 x2))) (by kernel_rfl) ?_ (fun hHeld=>?_);{first|exact HS0.out|exact⟨HEb.c 0,HEb.c 1,HEb.c 2,HEb.c 3,(HMw.out _ _ HDb.out).1,(HMw.out _ _ HDb.out).2⟩|exact⟨(HEr.out _).c 0,(HEr.out _).c 1,(HEr.out _).c 2,(HEr.out _).c 3,(HMw.out _ _ HDf.out).1,(HMw.out _ _ HDf.out).2⟩};refine tk 1 ?_;refine tk 2 ?_;refine tk 3 ?_;refine tk 4 ?_;refine tk 5 ?_;refine tk 6 ?_;refine tk 7 ?_;refine tk 8 ?_;refine tk 9 ?_;refine tk 10 ?_;refine tk 11 ?_;refine tk 12 ?_;refine take_call (i:=13) (oi:=_) (v:=(.int .i64 (s1:Int))) rfl (by kernel_rfl) (by kernel_rfl) (by kernel_rfl) (fun _ _ _ h=>h) (And.intro (by rfl) ?hy13) (by assumption) ?rest13
 case hy13=>intro W hSw;exact⟨301,#[.int .u8 (y1:Int)],by go_simp,HG1.out W⟩
 try simp only[Act.put,List.setIfInBounds_toArray,List.set_cons_zero,List.set_cons_succ]
 try simp only[List.getElem_toArray,List.getElem_cons_zero,List.getElem_cons_succ]
 refine tk 14 ?_;refine tk 15 ?_;refine tk 16 ?_;refine tk 17 ?_;refine tk 18 ?_;refine tk 19 ?_;refine tk 20 ?_;refine take_call (i:=21) (oi:=_) (v:=(.int .i64 (s2:Int))) rfl (by kernel_rfl) (by kernel_rfl) (by kernel_rfl) (fun _ _ _ h=>h) (And.intro (by rfl) ?hy21) (by assumption) ?rest21;case hy21=>intro W hSw;exact⟨301,#[.int .u8 (y2:Int)],by go_simp,HG2.out W⟩
 try simp only[Act.put,List.setIfInBounds_toArray,List.set_cons_zero,List.set_cons_succ]
 try simp only[List.getElem_toArray,List.getElem_cons_zero,List.getElem_cons_succ]
 refine tk 22 ?_;refine tk 23 ?_;refine zE1 0 fun K hK=>?_;refine wp_load_row 269 (.tmp 13) rfl (G+1) rfl 269 _ (0,0) _ HDa.v underlying269 rfl (Tryz.sizeV16 LV.out) ?_;refine hko hK (by first|exact HS0.out|exact⟨HEb.c 0,HEb.c 1,HEb.c 2,HEb.c 3,(HMw.out _ _ HDb.out).1,(HMw.out _ _ HDb.out).2⟩|exact⟨(HEr.out _).c 0,(HEr.out _).c 1,(HEr.out _).c 2,(HEr.out _).c 3,(HMw.out _ _ HDf.out).1,(HMw.out _ _ HDf.out).2⟩) (fun _=>?_);clear hK K;refine zE1 24 fun K hK=>?_;go_simp;refine(mix_any _ V LV.out a4 b4 c4 d4 HCl.1 HCl.2.1 HCl.2.2.1 HCl.2.2.2 x1 x2).mono ?_;rintro e4 w4 ⟨rfl,hb4⟩;(try go_wp2_with fail);have hbw:Below wz.heap.size wz w4:=(Below.refl _ wz).drew.trans hb4;have HDb:=zY (HDa.kept hbw);have HEb:=zY (HEa.kept hbw);clear hbw hb4;refine hko hK (by first|exact HS0.out|exact⟨HEb.c 0,HEb.c 1,HEb.c 2,HEb.c 3,(HMw.out _ _ HDb.out).1,(HMw.out _ _ HDb.out).2⟩|exact⟨(HEr.out _).c 0,(HEr.out _).c 1,(HEr.out _).c 2,(HEr.out _).c 3,(HMw.out _ _ HDf.out).1,(HMw.out _ _ HDf.out).2⟩) (fun _=>?_);clear hK K;refine zE1 25 fun K hK=>?_;refine wp_store_row 269 (.tmp 13) (.tmp 115) rfl (G+1) _ rfl rfl 269 _ HDb.v (Tryz.sizeV16 (by rw[mixW_len];exact LV.out)) (by simp[mixW_len]) (u32_one _) ?_;have HDf:=zY (HDb.rowV (V':=mixW V a4 b4 c4 d4 x1 x2));have HEr:=zY (fun cs=>Blk.of_heap (w':=w4.setRow (G+1) cs) (setRow_other w4 (G+1) Ee cs (by have:=HGE.out;omega)) HEb.out)
 refine hko hK (by first|exact HS0.out|exact⟨HEb.c 0,HEb.c 1,HEb.c 2,HEb.c 3,(HMw.out _ _ HDb.out).1,(HMw.out _ _ HDb.out).2⟩|exact⟨(HEr.out _).c 0,(HEr.out _).c 1,(HEr.out _).c 2,(HEr.out _).c 3,(HMw.out _ _ HDf.out).1,(HMw.out _ _ HDf.out).2⟩) (fun _=>?_);clear hK K;refine wpAnyH_done (by kernel_rfl) ?_ _;go_wp2_with fail;go_roundw;case rel=>exact⟨k+1,by omega,by go_num,by rw[HRn.out,HSt2.out];exact HDf.out⟩
 case measure=>simp[intOf];omega};{
 obtain rfl:k=8:=by omega
 have hkI:¬((8:Nat):Int)<8:=by omega
 go_wp2;go_roundw;case rel=>exact⟨r+1,by omega,by go_num,by rw[show 8*(r+1)=8*r+8 by omega];exact HDk.out⟩
 case measure=>simp[intOf];omega}};{
 obtain rfl:r=10:=by omega
 have hrI:¬((10:Nat):Int)<10:=by omega
 obtain⟨Vf,hVf⟩:=zNm (rndW M Vh (8*10));have LVf:Hid (Vf.length=16):=zY (by rw[<-hVf,rndW_len,LVh.out]);have HR2:Hid (orunW H Vf 8=R):=zY (by rw[orunW_all HH.out,<-hVf];exact HR1.out);rw[hVf]at HD;clear hVf HR1;obtain⟨wq,rfl⟩:∃x,x=wr:=⟨_,rfl⟩;go_wp2;go_loopw [19] (fun x wr=>∃i:Nat,i<=8/\x=.int .i64 (i:Int)/\DSt w wr G (orunW H Vf i) M Vf) (fun x _=>8-(intOf x).toNat);case atStart=>exact⟨0,by omega,rfl,HD.out⟩
 case round=>
 obtain⟨i,hi,rfl,hst⟩:=hrel;have HDi:=zY hst;clear hst HD;by_cases h:i<8;{
 have hiI:(i:Int)<8:=by omega
 obtain⟨j,hj⟩:=zNm (i+8);have hi16:(i:Int)<16:=by omega
 have hjI:(i:Int)+8=j:=by omega
 have hjw:IntKind.i64.wrap (j:Int)=j:=zIw (by omega);have hjw2:IntKind.i64.wrap ((i:Int)+8)=j:=by rw[hjI];exact hjw
 have hj16:(j:Int)<16:=by omega
 have HLh:Hid ((orunW H Vf i).length=8):=zY (by rw[orunW_len,HH.out]);have cH:=HDi.h.word (i:=i) (by rw[HLh.out];exact h);have fH:=HDi.h.frozen i;have cV:=HDi.v.word (i:=i) (by rw[LVf.out];omega);have cV2:=HDi.v.word (i:=j) (by rw[LVf.out];omega);have HNx:Hid (orunW H Vf (i+1)=(orunW H Vf i).set i (bits .xor .u32 (bits .xor .u32 (getW (orunW H Vf i) i) (getW Vf i)) (getW Vf j))):=zY (by rw[orunW,hj]);generalize orunW H Vf i=Hi at *;have HDn:=zY ((HDi.setH (i:=i) (by rw[HLh.out];exact h) (bits .xor .u32 (bits .xor .u32 (getW Hi i) (getW Vf i)) (getW Vf j))).drew);generalize getW Hi i=t1 at *;generalize getW Vf i=t2 at *;generalize getW Vf j=t3 at *;clear hj;go_upto_region 31 with fail;go_still_tail 14,(by kernel_rfl);go_wp2;go_roundw;case rel=>exact⟨i+1,by omega,by go_num,by rw[HNx.out];exact HDn.out⟩
 case measure=>simp[intOf];omega};{
 obtain rfl:i=8:=by omega
 have hiI:¬((8:Nat):Int)<8:=by omega
 rw[HR2.out]at HDi;have HLR:Hid (R.length=8):=zY (by rw[<-HR2.out,orunW_len,HH.out]);go_upto_region 32 with fail;refine wp_region_lit ?_;refine wpList_load_row rfl 207 (.tmp 4) rfl w.heap.size rfl 207 _ (0,0) _ HDi.h underlying207 rfl (Tryz.sizeV8 HLR.out) ?_;refine wpList_store_row rfl 207 (.tmp 8) (.tmp 134) rfl (w.heap.size+1) _ rfl rfl 207 _ HDi.r (Tryz.sizeV8 HLR.out) (by simp[HLR.out]) (u32_one _) ?_;go_wp2_with fail;refine bodyPost_ret (results_row_tmp rfl _ _ (w.heap.size+1) 207 _ (0,0) _ rfl (setRow_heap _ _ _ _ _ _ HDi.r) underlying207 rfl (Tryz.sizeV8 HLR.out)) rfl ?_;exact⟨rfl,below_setRow HDi.below (by omega) _⟩}}}}
theorem comp_spec:CompSpec:=fun w H s cnt last hH hs hc=>compress_any w H hH s hs cnt hc last
end
end Go.Proofs.YthgenkkkapilhaaGreatDoor