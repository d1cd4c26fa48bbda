/- Texts, joined. -/
import Derived.Test.YthgenkkkapilhaaGreatDoorVTn43
import Derived.Test.YthgenkkkapilhaaGreatDoorVTn45
set_option linter.all false
set_option maxRecDepth 100000
set_option maxHeartbeats 64000000
namespace Go.Proofs.YthgenkkkapilhaaGreatDoor
open Go.Proofs.Tryz
section
open Go.RowKit
theorem r43fill_any (w:World) (p:ByteArray) (hp:p.size<=28):Calls prog 92 #[.string p] w fun e w'=>e=.returned (.string (fillB p))/\Below w.heap.size w w':=by
 obtain⟨j,hj⟩:=zNm (28-p.size);have hjI:(28:Int)-p.size=j:=by omega
 have hjw:IntKind.i64.wrap ((28:Int)-p.size)=j:=by rw[hjI];exact zIw (by omega)
 obtain⟨cs,hcs⟩:=zNm (List.replicate j 0);have hcl:cs.length=j:=by rw[<-hcs,List.length_replicate]
 have hmk:∀W:World,(Instr.makeSlice 117 (.int .i64 (j:Int)) (.int .i64 (j:Int))).run prog W=.ok (.slice (some ⟨W.heap.size,0,none⟩) j j) (W.alloc (.cells (arrB cs) 5)):=fun W=>by
  rw[<-hcs]
  exact make_u8 j j (Nat.le_refl _) (by omega) W
 have hcv:(convert 117 9 (.slice (some ⟨w.heap.size,0,none⟩) j j)).run prog (w.alloc (.cells (arrB cs) 5))=.ok (.string (strB cs)) (w.alloc (.cells (arrB cs) 5)):=run_toStr (p:=cs) ((U8B.new w cs).bytes hcl.symm (Nat.le_refl _) (by omega)) hcl.symm;have HB:=zY (zBl w (.cells (arrB cs) 5));obtain⟨Z,hZ⟩:=zNm (strB cs);have hZz:Z.size=j:=by rw[<-hZ,strB_size,hcl]
 have hcc:¬9223372036854775807<p.size+Z.size:=by omega
 have HF:Hid (fillB p=p++Z):=zY (by rw[fillB,hj,hcs,hZ]);rw[hZ]at hcv;rw[HF.out];clear hj hcs hcl hZ hZz;go_enter func92,ntmps92;go_wp2_with fail;try rw[hmk]
 clear hmk;go_wp2;go_ret;exact⟨rfl,HB.out⟩
theorem r43used_any (w:World) (st:ByteArray) (q:Nat) (hq:q<=1000000) (hst:st.size<=1000000000):Calls prog 93 #[.string st,.int .i64 (q:Int)] w fun e w'=>e=.returned (.int .i64 ((min (st.size-q*28) 28:Nat):Int))/\w'=w:=by
 obtain⟨n,hn⟩:=zNm (st.size);have hnI:(st.size:Int)=n:=by omega
 obtain⟨p,hp⟩:=zNm (q*28);have hpI:(q:Int)*28=p:=by omega
 have hpw:IntKind.i64.wrap ((q:Int)*28)=p:=by rw[hpI];exact zIw (by omega)
 rw[hn,hp];by_cases h1:n<p;{
 have hsw:IntKind.i64.wrap ((n:Int)-p)=(n:Int)-p:=zIw (by omega);have h2:(n:Int)-p<0:=by omega
 have he:min (n-p) 28=0:=by omega
 rw[he];clear hn hp;go_enter func93,ntmps93;go_wp2;go_ret;first|exact⟨rfl,rfl⟩|exact⟨rfl,trivial⟩};{
 obtain⟨m,hm⟩:=zNm (n-p);have hmI:(n:Int)-p=m:=by omega
 have hsw:IntKind.i64.wrap ((n:Int)-p)=m:=by rw[hmI];exact zIw (by omega)
 have h2:¬(m:Int)<0:=by omega
 rw[hm];by_cases h3:28<m;{
 have h4:(28:Int)<m:=by omega
 have he:min m 28=28:=by omega
 rw[he];clear hn hp hm;go_enter func93,ntmps93;go_wp2;go_ret;first|exact⟨rfl,rfl⟩|exact⟨rfl,trivial⟩};{
 have h4:¬(28:Int)<m:=by omega
 have he:min m 28=m:=by omega
 rw[he];clear hn hp hm;go_enter func93,ntmps93;go_wp2;go_ret;first|exact⟨rfl,rfl⟩|exact⟨rfl,trivial⟩}}
theorem r43on_any (w:World) (id d s n xd:Int) (xp st xg:ByteArray) (r:Nat) (v ve vp vs:Value) (P:List ByteArray) (S:List (List ByteArray)) (hv:v.oneCell'=true) (hve:ve.oneCell'=true) (hp:SeqAt strS w vp P) (hs:SeqAt rowS w vs S) (hP:P.length<=65536) (hPz:∀p∈P,p.size<=28) (hS:S.length<=65537) (hSr:∀x∈S,r<x.length) (hd:1<=d/\d<=8) (hr:r<=15) (hst:st.size<=1000000000):
  Calls prog 44 #[.agg #[.int .u32 id,.int .i64 d,.int .i64 s,v],.agg #[.int .i64 n,.int .i64 xd,.string xp,ve,.string st,.string xg],vp,vs,.int .i64 (r:Int)] w fun e w'=>RetSeq frmS 49 w w' (reelL id d s n r P S st) e/\Below w.heap.size w w':=by
 have Hp:=zY hp;have Hs:=zY hs;have HPz:=zY hPz;have HSr:=zY hSr;obtain⟨Ap,cp,rfl,_,_⟩:=hp.slice;obtain⟨As,cs,rfl,_,_⟩:=hs.slice;have hK0:=Blk.new w 28 [.int .u32 id,.int .i64 d,.int .i64 s,v];have HK:Hid (Blk ((w.alloc (.cells #[.int .u32 id,.int .i64 d,.int .i64 s,v] 28)).alloc (.cells #[.int .i64 n,.int .i64 xd,.string xp,ve,.string st,.string xg] 45)) w.heap.size 28 [.int .u32 id,.int .i64 d,.int .i64 s,v]):=zY (hK0.alloc _);have HC:Hid (Blk ((w.alloc (.cells #[.int .u32 id,.int .i64 d,.int .i64 s,v] 28)).alloc (.cells #[.int .i64 n,.int .i64 xd,.string xp,ve,.string st,.string xg] 45)) (w.heap.size+1) 45 [.int .i64 n,.int .i64 xd,.string xp,ve,.string st,.string xg]):=zY (by
  have h:=Blk.new (w.alloc (.cells #[.int .u32 id,.int .i64 d,.int .i64 s,v] 28)) 45 [.int .i64 n,.int .i64 xd,.string xp,ve,.string st,.string xg]
  rw[World.size_alloc]at h
  exact h);have HB0:=zY ((zBl w (.cells #[.int .u32 id,.int .i64 d,.int .i64 s,v] 28)).alloc (by simp) (.cells #[.int .i64 n,.int .i64 xd,.string xp,ve,.string st,.string xg] 45));clear hp hs hPz hSr hK0;go_enter func44,ntmps44;go_upto_region 1 with fail;generalize (w.alloc (.cells #[.int .u32 id,.int .i64 d,.int .i64 s,v] 28)).alloc (.cells #[.int .i64 n,.int .i64 xd,.string xp,ve,.string st,.string xg] 45)=wa at *;have HKS:Hid (∀W,Below wa.heap.size wa W->W.cell? ⟨w.heap.size,0,none⟩=some (.int .u32 id)/\W.cell? ⟨w.heap.size,1,none⟩=some (.int .i64 d)/\W.cell? ⟨w.heap.size,2,none⟩=some (.int .i64 s)/\W.cell? ⟨w.heap.size+1,0,none⟩=some (.int .i64 n)/\W.cell? ⟨w.heap.size+1,4,none⟩=some (.string st)):=zY (fun W hb=>by
  have h1:=HK.kept hb
  have h2:=HC.kept hb
  exact⟨h1.c 0,h1.c 1,h1.c 2,h2.c 0,h2.c 4⟩);clear HK HC;have HNw:=zY (OwnSeq.new (ρ:=frmS) (t:=49) wa);have HBn:=zY (zBl wa (.cells #[] 49));go_wp2;go_loopw [11,12] (fun y x wr=>∃i:Nat,i<=P.length/\x=.int .i64 (i:Int)/\OwnSeq frmS 49 wa wr y ((partsF id d s n r P).take i)/\Below wa.heap.size wa wr) (fun _ x _=>P.length-(intOf x).toNat);case atStart=>exact⟨0,by omega,rfl,HNw.out,HBn.out⟩
 case round=>
 obtain⟨i,hi,rfl,ho,hB⟩:=hrel;have HO:=zY ho;have HB:=zY hB;obtain⟨Ao,co,rfl⟩:=ho.slice;clear ho hB HNw HBn;generalize hno:((partsF id d s n r P).take i).length=no at *;have Hno:=zY hno;clear hno;by_cases h:i<P.length;{
 have hiI:(i:Int)<P.length:=by omega
 obtain⟨x,hx⟩:∃x,P[i]?=some x:=⟨_,List.getElem?_eq_getElem h⟩;have hxz:=HPz.out x (List.mem_of_getElem? hx);obtain⟨_,_,e9,_,_,h4⟩:=Hp.out;cases e9;obtain⟨b,o,cs0,rfl,rfl,hc⟩:=h4 i x hx;have hc0:w.cell? ⟨b,o+i,none⟩=some (.string x):=by have:=hc 0 _ rfl;rwa [show o+i*strS.n+0=o+i by show o+i*1+0=o+i;omega]at this
 have HPc:Hid (∀W,Below wa.heap.size wa W->W.cell? ⟨b,o+i,none⟩=some (.string x)):=zY (fun W hb=>cell_below (HB0.trans (hb.mono HB0.size)) hc0);have HF:Hid ((partsF id d s n r P).take (i+1)=(partsF id d s n r P).take i++[⟨68,r,n,i,x.size,d,s,id,fillB x⟩]):=zY (by
  have:=range_step (fun i=>partF id d s n r i (P.getD i ⟨#[]⟩)) hx
  simp only[List.getD,hx,Option.getD_some]at this
  exact this);have HFi:=zY (fun W=>r43fill_any W x hxz);obtain⟨T,hT⟩:=zNm (fillB x);rw[hT]at HF HFi;have Hl1:Hid (((partsF id d s n r P).take i).length+1<=100000000):=zY (by rw[List.length_take];omega);obtain⟨z,hz⟩:=zNm (x.size);rw[hz]at HF;clear hc h4 hx hc0 hT hxz;go_upto_region 5 with fail;have HB:=zY HB.drew;have HO:=zY HO.drew;have HS:=zY (And.intro (HKS.out _ HB.out) (HPc.out _ HB.out));refine wp_region_held_drew (S:=(fun W=>(W.cell? ⟨w.heap.size,0,none⟩=some (.int .u32 id)/\W.cell? ⟨w.heap.size,1,none⟩=some (.int .i64 d)/\W.cell? ⟨w.heap.size,2,none⟩=some (.int .i64 s)/\W.cell? ⟨w.heap.size+1,0,none⟩=some (.int .i64 n)/\W.cell? ⟨w.heap.size+1,4,none⟩=some (.string st))/\W.cell? ⟨b,o+i,none⟩=some (.string x))) (by kernel_rfl) ?_ (fun hHeld=>?_);{exact HS.out};refine tk 0 ?_;refine tk 1 ?_;refine tk 2 ?_;refine tk 3 ?_;refine tk 4 ?_;refine tk 5 ?_;refine tk 6 ?_;refine tk 7 ?_;refine tk 8 ?_;refine tk 9 ?_;refine tk 10 ?_;refine tk 11 ?_;refine tk 12 ?_;refine tk 13 ?_;refine tk 14 ?_;refine tk 15 ?_;refine tk 16 ?_;refine tk 17 ?_;refine zE1 18 fun K hK=>?_;go_simp;refine(HFi.out _).mono ?_;rintro e6 w6 ⟨rfl,hb⟩;(try go_wp2_with fail);have HO:=zY (HO.stay (W':=w6) fun k o _ ho _=>(hb.block k (Array.getElem?_eq_some_iff.1 ho).1).trans ho);have HB:=zYt HB hb;clear hb;have HS:=zY (And.intro (HKS.out _ HB.out) (HPc.out _ HB.out));refine hko hK (by exact HS.out) (fun _=>?_);clear hK K;refine tk 19 ?_;refine zE1 20 fun K hK=>?_;go_simp
 have HX:Hid (SrcAt frmS wa (w6.alloc (.cells (Frm.cells ⟨68,r,n,i,z,d,s,id,T⟩).toArray 49)) (.slice (some ⟨w6.heap.size,0,none⟩) 1 1) [⟨68,r,n,i,z,d,s,id,T⟩]):=zY (src1 (ρ:=frmS) (wr:=w6) (Frm.cells ⟨68,r,n,i,z,d,s,id,T⟩) ⟨68,r,n,i,z,d,s,id,T⟩ rfl rfl);have HO:=zY (HO.alloc (.cells (Frm.cells ⟨68,r,n,i,z,d,s,id,T⟩).toArray 49));have HB:=zY (HB.alloc HB.size (.cells (Frm.cells ⟨68,r,n,i,z,d,s,id,T⟩).toArray 49));have HS:=zY (And.intro (HKS.out _ HB.out) (HPc.out _ HB.out));refine hko hK (by exact HS.out) (fun _=>?_);clear hK K;refine zE1 21 fun K hK=>?_;refine wp_append_seq (ρ:=frmS) (w0:=wa) Tryz.elemFrm (.tmp 22) (.tmp 42) rfl rfl HO.out rfl HX.out Hl1.out HB.out ?_;intro vb wb hob hgb hbb;have KV:=zY hob;have KC:=zY hbb;have HB:=zY hbb;clear hob hbb hgb;have HS:=zY (And.intro (HKS.out _ HB.out) (HPc.out _ HB.out));refine hko hK (by exact HS.out) (fun _=>?_);clear hK K;refine tk 22 ?_;refine wpAnyH_done (by kernel_rfl) ?_ _;go_wp2_with fail;go_roundw;case rel=>exact⟨i+1,by omega,by go_num,by rw[HF.out];exact KV.out,KC.out⟩
 case measure=>simp[intOf];omega};{
 obtain rfl:i=P.length:=by omega
 have hiI:¬((P.length:Nat):Int)<(P.length:Int):=by omega
 have hall:(partsF id d s n r P).take P.length=partsF id d s n r P:=List.take_of_length_le (by simp[partsF]);rw[hall]at HO;clear hall;go_wp2;obtain⟨wx,hwx⟩:∃x,x=wr:=⟨_,rfl⟩;subst hwx;go_loopw [11,13] (fun y x wr=>∃i:Nat,i<=S.length/\x=.int .i64 (i:Int)/\OwnSeq frmS 49 wa wr y (partsF id d s n r P++(stripsF id d s n r st S).take i)/\Below wa.heap.size wa wr) (fun _ x _=>S.length-(intOf x).toNat);case atStart=>exact⟨0,by omega,rfl,by rw[List.take_zero,List.append_nil];exact HO.out,HB.out⟩
 case round=>
 obtain⟨i,hi,rfl,ho,hB⟩:=hrel;have HO:=zY ho;have HB:=zY hB;obtain⟨Ao,co,rfl⟩:=ho.slice;clear ho hB;generalize hno:(partsF id d s n r P++(stripsF id d s n r st S).take i).length=no at *;have Hno:=zY hno;clear hno;by_cases h:i<S.length;{
 have hiI:(i:Int)<S.length:=by omega
 obtain⟨x,hx⟩:∃x,S[i]?=some x:=⟨_,List.getElem?_eq_getElem h⟩;have hxr:=HSr.out x (List.mem_of_getElem? hx);obtain⟨_,_,e9,_,_,h4⟩:=Hs.out;cases e9;obtain⟨b,o,cs0,rfl,⟨rv,rfl,hrv⟩,hc⟩:=h4 i x hx;have hc0:w.cell? ⟨b,o+i,none⟩=some rv:=by have:=hc 0 _ rfl;rwa [show o+i*rowS.n+0=o+i by show o+i*1+0=o+i;omega]at this
 obtain⟨y,hy⟩:∃y,x[r]?=some y:=⟨_,List.getElem?_eq_getElem hxr⟩;obtain⟨Ax,cx,rfl,_,_,h5⟩:=hrv;obtain⟨sb,so,cs1,rfl,rfl,hc1⟩:=h5 r y hy;have hq0:w.cell? ⟨sb,so+r,none⟩=some (.string y):=by have:=hc1 0 _ rfl;rwa [show so+r*strS.n+0=so+r by show so+r*1+0=so+r;omega]at this
 generalize hxl:x.length=xl at *;have hrI:(r:Int)<xl:=by omega
 have HPc:Hid (∀W,Below wa.heap.size wa W->W.cell? ⟨b,o+i,none⟩=some (.slice (some ⟨sb,so,none⟩) xl cx)/\W.cell? ⟨sb,so+r,none⟩=some (.string y)):=zY (fun W hb=>⟨cell_below (HB0.trans (hb.mono HB0.size)) hc0,cell_below (HB0.trans (hb.mono HB0.size)) hq0⟩);obtain⟨u,hu⟩:=zNm (usedF d.toNat r i st.size);have HF:Hid (partsF id d s n r P++(stripsF id d s n r st S).take (i+1)=partsF id d s n r P++(stripsF id d s n r st S).take i++[⟨66,r,n,i,u,d,s,id,y⟩]):=zY (by
  rw[List.append_assoc]
  have h1:=range_step (fun i=>stripF id d s n r st i (S.getD i [])) hx
  simp only[List.getD,hx,Option.getD_some]at h1
  have h2:stripF id d s n r st i x=⟨66,r,n,i,u,d,s,id,y⟩:=by rw[stripF,hu,List.getD,hy,Option.getD_some]
  rw[h2]at h1
  exact congrArg _ h1);have Hl1:Hid ((partsF id d s n r P++(stripsF id d s n r st S).take i).length+1<=100000000):=zY (by rw[List.length_append,List.length_take,partsF,List.length_map,List.length_range];omega);obtain⟨k0,k1,k2,k3,k4⟩:=HKS.out _ HB.out;clear hc hc1 h4 h5 hx hy hc0 hq0 hxl;go_upto_if 54 with fail;go_cut [14] (fun c wz=>c=.int .i64 (u:Int)/\wr=wz);case first=>(
 by_cases hdr:(r:Int)<d;{
 obtain⟨q,hq⟩:=zNm (i*d.toNat+r);have hue:u=min (st.size-q*28) 28:=by rw[<-hu,usedF,if_neg (by omega),hq]
 have hmul:(i:Int)*d=((i*d.toNat:Nat):Int):=by rw[Int.natCast_mul,Int.toNat_of_nonneg (by omega)]
 have hid8:i*d.toNat<=65537*8:=Nat.mul_le_mul (by omega) (by omega);obtain⟨qq,hqq⟩:=zNm (i*d.toNat);rw[hqq]at hmul hq hid8;have g1:IntKind.i64.wrap ((i:Int)*d)=qq:=by rw[hmul];exact zIw (by omega)
 have g2:(qq:Int)+r=q:=by omega
 have g3:IntKind.i64.wrap ((qq:Int)+r)=q:=by rw[g2];exact zIw (by omega)
 have HUs:=zY (r43used_any wr st q (by omega) hst);rw[<-hue]at HUs;clear hu hue hq hqq hid8 hmul g2;go_wp2_with fail;refine HUs.mono ?_;rintro e5 w5 ⟨rfl,rfl⟩;go_wp2;go_meet;exact⟨rfl,rfl⟩};{
 have hue:u=28:=by rw[<-hu,usedF,if_pos (by omega)]
 subst hue;clear hu;go_wp2;go_meet;exact⟨rfl,rfl⟩})
 case rest=>
 obtain⟨rfl,rfl⟩:=hcut;clear k0 k1 k2 k3 k4 hu;go_upto_region 12 with fail;have HB:=zY HB.drew;have HO:=zY HO.drew;have HS:=zY (And.intro (HKS.out _ HB.out) (HPc.out _ HB.out));refine wp_region_held_drew (S:=(fun W=>(W.cell? ⟨w.heap.size,0,none⟩=some (.int .u32 id)/\W.cell? ⟨w.heap.size,1,none⟩=some (.int .i64 d)/\W.cell? ⟨w.heap.size,2,none⟩=some (.int .i64 s)/\W.cell? ⟨w.heap.size+1,0,none⟩=some (.int .i64 n)/\W.cell? ⟨w.heap.size+1,4,none⟩=some (.string st))/\W.cell? ⟨b,o+i,none⟩=some (.slice (some ⟨sb,so,none⟩) xl cx)/\W.cell? ⟨sb,so+r,none⟩=some (.string y))) (by kernel_rfl) ?_ (fun hHeld=>?_);{exact HS.out};refine tk 0 ?_;refine tk 1 ?_;refine tk 2 ?_;refine tk 3 ?_;refine tk 4 ?_;refine tk 5 ?_;refine tk 6 ?_;refine tk 7 ?_;refine tk 8 ?_;refine tk 9 ?_;refine tk 10 ?_;refine tk 11 ?_;refine tk 12 ?_;refine tk 13 ?_;refine tk 14 ?_;refine tk 15 ?_;refine tk 16 ?_;refine tk 17 ?_;refine zE1 18 fun K hK=>?_;go_simp;have HX:Hid (SrcAt frmS wa (wr.drew.alloc (.cells (Frm.cells ⟨66,r,n,i,u,d,s,id,y⟩).toArray 49)) (.slice (some ⟨wr.heap.size,0,none⟩) 1 1) [⟨66,r,n,i,u,d,s,id,y⟩]):=zY (src1 (ρ:=frmS) (wr:=wr.drew) (Frm.cells ⟨66,r,n,i,u,d,s,id,y⟩) ⟨66,r,n,i,u,d,s,id,y⟩ rfl rfl);have HO:=zY (HO.alloc (.cells (Frm.cells ⟨66,r,n,i,u,d,s,id,y⟩).toArray 49));have HB:=zY (HB.alloc HB.size (.cells (Frm.cells ⟨66,r,n,i,u,d,s,id,y⟩).toArray 49));have HS:=zY (And.intro (HKS.out _ HB.out) (HPc.out _ HB.out));refine hko hK (by exact HS.out) (fun _=>?_);clear hK K;refine zE1 19 fun K hK=>?_
 refine wp_append_seq (ρ:=frmS) (w0:=wa) Tryz.elemFrm (.tmp 65) (.tmp 83) rfl rfl HO.out rfl HX.out Hl1.out HB.out ?_;intro vb wb hob hgb hbb;have KV:=zY hob;have KC:=zY hbb;have HB:=zY hbb;clear hob hbb hgb;have HS:=zY (And.intro (HKS.out _ HB.out) (HPc.out _ HB.out));refine hko hK (by exact HS.out) (fun _=>?_);clear hK K;refine tk 20 ?_;refine wpAnyH_done (by kernel_rfl) ?_ _;go_wp2_with fail;go_roundw;case rel=>exact⟨i+1,by omega,by go_num,by rw[HF.out];exact KV.out,KC.out⟩
 case measure=>simp[intOf];omega};{
 obtain rfl:i=S.length:=by omega
 have hiI:¬((S.length:Nat):Int)<(S.length:Int):=by omega
 have hall:partsF id d s n r P++(stripsF id d s n r st S).take S.length=reelL id d s n r P S st:=by rw[List.take_of_length_le (by simp[stripsF])];rfl
 rw[hall]at HO;clear hall;go_wp2;go_ret;exact⟨⟨_,rfl,HO.low flatFrm HB0.size⟩,HB0.trans (HB.mono HB0.size)⟩}}
theorem rframes_any (w:World) (id d s:Int) (v:Value) (L:List Ses) (n:Int) (hv:SeqAt sesS w v L) (hl:L.length<=1000) (hL:SesAll L):Calls prog 14 #[.agg #[.int .u32 id,.int .i64 d,.int .i64 s,v],.int .i64 n] w fun e w'=>(∃vf,e=.returned (.tuple #[vf,.int .i64 (contE d s L n)])/\OwnSeq frmS 49 w w' vf (framesF id d s L n))/\Below w.heap.size w w':=by
 have Hv:=zY hv;have HL:=zY hL;obtain⟨A,c,rfl,_,_⟩:=hv.slice;have hK:=Blk.new w 28 [.int .u32 id,.int .i64 d,.int .i64 s,.slice A L.length c];have HK:Hid (Blk (w.alloc (.cells #[.int .u32 id,.int .i64 d,.int .i64 s,.slice A L.length c] 28)) w.heap.size 28 [.int .u32 id,.int .i64 d,.int .i64 s,.slice A L.length c]):=zY hK;have HB0:=zY (zBl w (.cells #[.int .u32 id,.int .i64 d,.int .i64 s,.slice A L.length c] 28));obtain⟨k,hk⟩:=zNm (contE d s L n);rw[hk];have Hk:=zY hk;clear hv hL hK hk;go_enter func14,ntmps14;go_upto_region 1 with fail;generalize w.alloc (.cells #[.int .u32 id,.int .i64 d,.int .i64 s,.slice A L.length c] 28)=wa at *;have c1:=HK.c 1;have c2:=HK.c 2;go_wp2_with fail;refine(check16_any _ d s).mono ?_;rintro e1 w1 ⟨rfl,hb1⟩;have HK1:=zY (HK.kept hb1);have HB1:=zYt HB0 hb1;clear hb1 c1 c2 HK HB0;obtain⟨q,hq⟩:=zNm (layE d s);rw[hq];by_cases h0:q=0;{
 subst h0;have hds:1<=d/\d<=8/\0<=s/\s<=7:=by{
 by_cases hc:d<1∨8<d∨s<0∨7<s;{
 rw[layE,if_pos hc]at hq;cases hq};{omega}};have a3:=HK1.c 3;by_cases h1:n<1;{
 obtain rfl:k=9:=by rw[<-Hk.out,contE,hq,if_neg (by decide),if_pos (.inl h1)]
 have HF:=zY (framesF_err (id:=id) (by rw[Hk.out];decide:contE d s L n≠0));clear hq Hk;go_wp2;go_ret2;exact⟨⟨_,rfl,by rw[HF.out];exact OwnSeq.nil _⟩,HB1.out⟩};{
 by_cases h2:(L.length:Int)<n;{
 obtain rfl:k=9:=by rw[<-Hk.out,contE,hq,if_neg (by decide),if_pos (.inr h2)]
 have HF:=zY (framesF_err (id:=id) (by rw[Hk.out];decide:contE d s L n≠0));clear hq Hk;go_wp2;go_ret2;exact⟨⟨_,rfl,by rw[HF.out];exact OwnSeq.nil _⟩,HB1.out⟩};{
 obtain⟨m,hm⟩:∃m:Nat,n=(m:Int)+1:=⟨(n-1).toNat,by omega⟩;have hmI:n-1=m:=by omega
 have hmw:IntKind.i64.wrap (n-1)=m:=by rw[hmI];exact zIw (by omega)
 have hml:m<L.length:=by omega
 have hmL:(m:Int)<L.length:=by omega
 obtain⟨x,hx⟩:∃x,L[m]?=some x:=⟨_,List.getElem?_eq_getElem hml⟩;obtain⟨hnum,hV,hstr⟩:=HL.out m x hx;have Hx:=zY hx;have HSV:=zY hV;have HSt:=zY hstr;obtain⟨_,_,e9,_,_,h4⟩:=Hv.out;cases e9;obtain⟨b,o,cs,rfl,⟨ve,rfl,hve⟩,hc⟩:=h4 m x hx;have HVe:=zY hve;obtain⟨Ae,ce,rfl,_,_⟩:=hve.slice;have e0:w1.cell? ⟨b,o+m*6,none⟩=some (.int .i64 x.num):=cell_below HB1.out (hc 0 _ rfl);have e1:w1.cell? ⟨b,o+m*6+1,none⟩=some (.int .i64 x.date):=cell_below HB1.out (hc 1 _ rfl);have e2:w1.cell? ⟨b,o+m*6+2,none⟩=some (.string x.prev):=cell_below HB1.out (hc 2 _ rfl);have e3:w1.cell? ⟨b,o+m*6+3,none⟩=some (.slice Ae x.ents.length ce):=cell_below HB1.out (hc 3 _ rfl);have e4:w1.cell? ⟨b,o+m*6+4,none⟩=some (.string x.str):=cell_below HB1.out (hc 4 _ rfl);have e5:w1.cell? ⟨b,o+m*6+5,none⟩=some (.string x.sig):=cell_below HB1.out (hc 5 _ rfl);clear hc h4 hx hve hV hstr;have hnn:x.num=n:=by omega
 rw[hnn]at e0;generalize hNe:x.ents.length=ne at *;have HNe:=zY hNe;obtain⟨xd,hxd⟩:=zNm (x.date);obtain⟨xp,hxp⟩:=zNm (x.prev);obtain⟨xs,hxs⟩:=zNm (x.str);obtain⟨xg,hxg⟩:=zNm (x.sig);rw[hxd]at e1;rw[hxp]at e2;rw[hxs]at e4;rw[hxg]at e5;have HF:=zY (And.intro hxd (And.intro hxp (And.intro hxs (And.intro hxg hnn))));have hnt:((m:Nat):Int).toNat=m:=rfl;have HmN:Hid ((n-1).toNat=m):=zY (by omega);have HC0:Hid (k=if 65536<(partsB (strB (dirL x))).length then 6 else 0):=zY (by rw[<-Hk.out,contE,hq,if_neg (by decide),if_neg (by omega),hmI,hnt,Hx.out]);have HFF:Hid (k=0->framesF id d s L n=(reelsL id d s n x).flatten):=zY (fun h=>framesF_ok (Hk.trans h) (by rw[HmN.out];exact Hx.out));have HFE:Hid (k≠0->framesF id d s L n=[]):=zY (fun h=>framesF_err (by rw[Hk.out];exact h));clear hNe hxd hxp hxs hxg hnn hnum hnt hq hm Hk;go_upto_region 7 with fail;have HSe:=zY (Blk.new w1 45 [.int .i64 n,.int .i64 xd,.string xp,.slice Ae ne ce,.string xs,.string xg]);have HSb:Hid (Blk (w1.alloc (.cells #[.int .i64 n,.int .i64 xd,.string xp,.slice Ae ne ce,.string xs,.string xg] 45)) w1.heap.size 45 [.int .i64 n,.int .i64 xd,.string xp,.slice Ae ne ce,.string xs,.string xg]):=zY HSe.out;have HKb:=zY (HK1.alloc (.cells #[.int .i64 n,.int .i64 xd,.string xp,.slice Ae ne ce,.string xs,.string xg] 45));have HBb:=zY (HB1.alloc HB1.size (.cells #[.int .i64 n,.int .i64 xd,.string xp,.slice Ae ne ce,.string xs,.string xg] 45));generalize w1.alloc (.cells #[.int .i64 n,.int .i64 xd,.string xp,.slice Ae ne ce,.string xs,.string xg] 45)=wb at *;obtain⟨T,hT⟩:=zNm (strB (dirL x));have HTe:=zY hT
 have HTz:Hid (T.size<=1000000000):=zY (by rw[<-hT,strB_size];have:=dirL_len HSV.out;omega);have HDe:Hid (∀W,Below w.heap.size w W->Calls prog 41 #[.agg #[.int .i64 n,.int .i64 xd,.string xp,.slice Ae ne ce,.string xs,.string xg]] W fun r w'=>r=.returned (.tuple #[.string T,.int .i64 0])/\Below W.heap.size W w'):=zY (fun W hW=>by
  have h:=encode40_ok W x _ (HVe.below hW) HSV.out
  rw[HF.1,HF.2.1,HF.2.2.1,HF.2.2.2.1,HF.2.2.2.2,hT]at h
  exact h);rw[hT]at HC0;have s0:=HSb.c 0;have s1:=HSb.c 1;have s2:=HSb.c 2;have s3:=HSb.c 3;have s4:=HSb.c 4;have s5:=HSb.c 5;clear e0 e1 e2 e3 e4 e5 a3 hT HSe HK1 HB1 hmI hmw hml hmL;go_wp2_with fail;refine(HDe.out _ HBb.out).mono ?_;rintro e6 w6 ⟨rfl,hb6⟩;have HSc:=zY (HSb.kept hb6);have HKc:=zY (HKb.kept hb6);have HBc:=zYt HBb hb6;clear hb6 s0 s1 s2 s3 s4 s5 HSb HKb HBb HDe;obtain⟨PT,hPT⟩:=zNm (partsB T);obtain⟨np,hnp⟩:=zNm (PT.length);rw[hPT,hnp]at HC0;have HPT:=zY (And.intro hPT hnp);have HPc:=zY (parts40_any w6 T HTz.out);rw[hPT]at HPc;clear hPT hnp;go_upto_region 12 with fail;go_wp2_with fail;refine HPc.mono ?_;rintro e7 w7 ⟨⟨vp,rfl,hvp⟩,hb7⟩;obtain⟨Ap,cp,rfl⟩:=hvp.slice;have HSd:=zY (HSc.kept hb7);have HKd:=zY (HKc.kept hb7);have HBd:=zYt HBc hb7;have HP:=zY (hvp.atF flatS hb7.size);rw[HPT.2]at HP⊢;clear hvp hb7 HSc HKc HBc HPc;have d1:=HKd.c 1;have d2:=HKd.c 2;have t4:=HSd.c 4;have HSs:=zY (r16stripes_ok w7 d.toNat s.toNat xs ⟨by omega,by omega⟩ (by omega) (by rw[<-HF.2.2.1];exact HSt.out));rw[show ((d.toNat:Nat):Int)=d by omega,show ((s.toNat:Nat):Int)=s by omega]at HSs;go_upto_region 13 with fail;go_wp2_with fail;refine HSs.mono ?_;rintro e8 w8 ⟨⟨vs,rfl,hvs⟩,hb8⟩;obtain⟨As,cS,rfl⟩:∃As cS,vs=.slice As (rowsL d.toNat s.toNat xs).length cS:=by obtain⟨As,cS,e,_⟩:=(hvs.at hb8.size).slice;exact⟨As,cS,e⟩
 have HSf:=zY (HSd.kept hb8);have HKf:=zY (HKd.kept hb8);have HBf:=zYt HBd hb8;have HPf:=zY (HP.below hb8);have HSr:=zY (hvs.at hb8.size);clear hvs hb8 HSd HKd HBd HP d1 d2 t4 HSs;by_cases hbig:65536<np;{
 obtain rfl:k=6:=by rw[HC0.out,if_pos hbig]
 have hbI:(65536:Int)<np:=by omega
 go_wp2;go_ret2;exact⟨⟨_,rfl,by rw[HFE.out (by decide)];exact OwnSeq.nil _⟩,HBf.out⟩};{
 obtain rfl:k=0:=by rw[HC0.out,if_neg hbig]
 have hbI:¬(65536:Int)<(PT.length:Int):=by rw[HPT.2];omega
 have HFt:=zY (HFF.out rfl);have HPl:Hid (PT.length<=65536):=zY (by rw[HPT.2];omega);have HPz:Hid (∀p∈PT,p.size<=28):=zY (by rw[<-HPT.1];exact partsB_size T);have HSl:Hid ((rowsL d.toNat s.toNat xs).length<=65537):=zY (rowsL_len (by omega) (by rw[<-HF.2.2.1];exact HSt.out));have HSm:Hid (∀y∈rowsL d.toNat s.toNat xs,y.length=d.toNat+s.toNat):=zY (fun y hy=>rowsL_mem hy);have HSz:Hid (xs.size<=1000000000):=zY (by have:=HSt.out;rw[HF.2.2.1]at this;omega);obtain⟨RL,hRL⟩:∃RL,RL=reelsL id d s n x:=⟨_,rfl⟩;have HRl:Hid (RL.length=d.toNat+s.toNat):=zY (by rw[hRL];simp[reelsL]);have HRg:Hid (∀i,i<d.toNat+s.toNat->RL[i]?=some (reelL id d s n i PT (rowsL d.toNat s.toNat xs) xs)):=zY (fun i hi=>by rw[hRL,reelsL,List.getElem?_map,List.getElem?_range hi,<-HPT.1,<-HTe.out,<-HF.2.2.1];rfl);have HRz:Hid (∀y∈RL,y.length<=131073):=zY (by
  rw[hRL]
  intro y hy
  obtain⟨r,_,rfl⟩:=List.mem_map.1 hy
  have h1:=HPl.out
  have h2:=HSl.out
  rw[<-HPT.1,<-HTe.out]at h1
  rw[<-HF.2.2.1]at h2
  rw[reelL_len]
  omega);rw[<-hRL]at HFt;clear hRL hbig HC0 HFF HFE;generalize rowsL d.toNat s.toNat xs=S at *;have hone:(Value.slice (some ⟨b,o,none⟩) L.length c).oneCell'=true:=rfl;have hone2:(Value.slice Ae ne ce).oneCell'=true:=rfl;rw[<-HPT.2]at HPf⊢;have HOn:Hid (∀(V:World) (r:Nat),Below w8.heap.size w8 V->r<d.toNat+s.toNat->Calls prog 44 #[.agg #[.int .u32 id,.int .i64 d,.int .i64 s,.slice (some ⟨b,o,none⟩) L.length c],.agg #[.int .i64 n,.int .i64 xd,.string xp,.slice Ae ne ce,.string xs,.string xg],.slice Ap PT.length cp,.slice As S.length cS,.int .i64 (r:Int)] V fun e w'=>RetSeq frmS 49 V w' (reelL id d s n r PT S xs) e/\Below V.heap.size V w'):=zY (fun V r hV hr=>r43on_any V id d s n xd xp xs xg r _ _ _ _ PT S hone hone2 (HPf.below hV) (HSr.below hV) HPl.out HPz.out HSl.out (fun y hy=>by rw[HSm.out y hy];exact hr) ⟨hds.1,hds.2.1⟩ (by omega) HSz.out);have hdsI:d+s=((d.toNat+s.toNat:Nat):Int):=by omega
 obtain⟨N,hN⟩:=zNm (d.toNat+s.toNat);rw[hN]at hdsI HRl HRg HOn;have hN15:N<=15:=by omega
 have hdsw:IntKind.i64.wrap (d+s)=N:=by rw[hdsI];exact zIw (by omega)
 have HNw:=zY (OwnSeq.new (ρ:=frmS) (t:=49) w8);have HBn:=zY (zBl w8 (.cells #[] 49));have HP2:=zY HPT.2;clear hone hone2 hN hdsI;generalize PT.length=pl at *;go_wp2;go_loopw [13,14] (fun y x wr=>∃i:Nat,i<=N/\x=.int .i64 (i:Int)/\OwnSeq frmS 49 w8 wr y (RL.take i).flatten/\Below w8.heap.size w8 wr) (fun _ x _=>N-(intOf x).toNat);case atStart=>exact⟨0,by omega,rfl,HNw.out,HBn.out⟩
 case round=>
 obtain⟨i,hi,rfl,ho,hB⟩:=hrel;have HO:=zY ho;have HB:=zY hB;clear HNw HBn;have HKr:=zY (HKf.kept hB);have HCr:=zY (HSf.kept hB);have a0:=HKr.c 0;have a1:=HKr.c 1;have a2:=HKr.c 2;have a3:=HKr.c 3;by_cases h:i<N;{
 obtain⟨Ao,co,rfl⟩:=ho.slice;clear ho hB;have hiI:(i:Int)<N:=by omega
 have hx:=HRg.out i h;obtain⟨F,hF⟩:=zNm (reelL id d s n i PT S xs);rw[hF]at hx;have HT:Hid ((RL.take (i+1)).flatten=(RL.take i).flatten++F):=zY (by rw[List.take_add_one,hx,List.flatten_append];simp);have hzz:∀(l:List (List Frm)),(∀y∈l,y.length<=131073)->l.flatten.length<=l.length*131073:=by{
 intro l;induction l with
 |nil=>intro _;simp
 |cons y r ih=>
 intro h;have h1:=ih fun z hz=>h z (List.mem_cons_of_mem _ hz);have h2:=h y List.mem_cons_self;rw[List.flatten_cons,List.length_append,List.length_cons,Nat.add_mul];omega};have hz1:=hzz (RL.take i) fun y hy=>HRz.out y (List.mem_of_mem_take hy);have hz2:=HRz.out F (List.mem_of_getElem? hx);rw[List.length_take]at hz1;have Hl1:Hid ((RL.take i).flatten.length+F.length<=100000000):=zY (by
  have:min i RL.length*131073<=15*131073:=Nat.mul_le_mul (by omega) (Nat.le_refl _)
  omega);have HCl:=zY (HOn.out wr i HB.out h);rw[hF]at HCl;have k0:=HCr.c 0;have k1:=HCr.c 1;have k2:=HCr.c 2;have k3:=HCr.c 3;have k4:=HCr.c 4;have k5:=HCr.c 5;generalize hno:(RL.take i).flatten.length=no at *;have Hno:=zY hno;have Hl1:Hid ((RL.take i).flatten.length+F.length<=100000000):=zY (by rw[hno];exact Hl1.out);clear hno hzz hz1 hz2 hx hF HKr HCr;go_wp2_with fail;refine HCl.mono ?_;rintro e5 w5 ⟨⟨vf,rfl,hf⟩,hb5⟩;have HB5:=zYt HB hb5;have HO5:=zY (HO.stay (W':=w5) fun k o _ ho _=>(hb5.block k (Array.getElem?_eq_some_iff.1 ho).1).trans ho);have HSr:Hid (SrcAt frmS w8 w5 vf F):=zY (SrcAt.flat flatFrm (hf.at hb5));clear hf hb5 a0 a1 a2 a3 k0 k1 k2 k3 k4 k5 HCl;go_wp2_with (at_builtin;refine append_seq (w0:=w8) Tryz.elemFrm rfl _ _ rfl rfl HO5.out rfl HSr.out Hl1.out HB5.out ?_;intro vb w6 hob _ hbb;have KV:=zY hob;have KC:=zY hbb;clear hob hbb);go_roundw;case rel=>exact⟨i+1,by omega,by go_num,by rw[HT.out];exact KV.out,KC.out⟩
 case measure=>simp[intOf];omega};{
 obtain rfl:i=N:=by omega
 have hiI:¬((i:Nat):Int)<(i:Int):=by omega
 have hall:(RL.take i).flatten=framesF id d s L n:=by rw[HFt.out,List.take_of_length_le (by rw[HRl.out];exact Nat.le_refl _)]
 rw[hall]at HO;clear hall ho hB;go_wp2;go_ret2;exact⟨⟨_,rfl,HO.low flatFrm HBf.size⟩,HBf.trans (HB.mono HBf.size)⟩}}}}};{
 have h0b:(q==0)=false:=by rw[beq_eq_false_iff_ne];exact h0
 obtain rfl:k=q:=by rw[<-Hk.out,contE,hq,if_pos h0]
 have HF:=zY (framesF_err (id:=id) (by rw[Hk.out];exact h0:contE d s L n≠0));clear hq Hk;go_wp2;go_ret2;exact⟨⟨_,rfl,by rw[HF.out];exact OwnSeq.nil _⟩,HB1.out⟩}
end
end Go.Proofs.YthgenkkkapilhaaGreatDoor