/- Texts, joined. -/
import Derived.Test.YthgenkkkapilhaaGreatDoorVTn38
import Derived.Test.YthgenkkkapilhaaGreatDoorVTn42
set_option linter.all false
set_option maxRecDepth 100000
set_option maxHeartbeats 64000000
namespace Go.Proofs.YthgenkkkapilhaaGreatDoor
open Go.Proofs.Tryz
section
open Go.RowKit
theorem r15at_any (w:World) (vx v:Value) (xs:List Nat) (bl:List ByteArray) (hvx:BytesAt w vx xs) (hv:SeqAt strS w v bl) (x n:Nat) (hx:x<256) (hb:∀i,cf xs i<256) (hd:∀k i,k<xs.length->i<xs.length->i≠k->cf xs k≠cf xs i) (hn:∀b∈bl,b.size=n) (hl:bl.length=xs.length) (h0:1<=xs.length) (h15:xs.length<=15) (hn2:n<=1000):
  Calls prog 164 #[vx,v,.int .u8 (x:Int)] w fun e w'=>e=.returned (.string (strB (atE xs (bl.map bs) n x)))/\Below w.heap.size w w':=by
 obtain⟨R,hR⟩:=zNm (atE xs (bl.map bs) n x);rw[hR];have HR:=zY hR;have Hv:=zY hv;have Hn:=zY hn;have Hl:=zY hl;have HWg:Hid (∀(W:World) (k:Nat),Below w.heap.size w W->k<xs.length->Calls prog 242 #[vx,.int .i64 (k:Int),.int .u8 (x:Int)] W fun e w'=>e=.returned (.int .u8 ((wgt xs x k:Nat):Int))/\Below W.heap.size W w'):=zY (fun W k hW hk=>r15weight_any W vx xs k x (BytesAt.belowV hvx hW) hx hk h15 hb fun i hi hne=>hd k i hk hi hne);obtain⟨A,c,rfl,h1,h2⟩:=hv.slice;obtain⟨Ax,cx,rfl,_,_⟩:=hvx.sliceV;have hb0:0<bl.length:=by omega
 have hb0I:(0:Int)<bl.length:=by omega
 have hb1I:((bl.length:Int)==0)=false:=by rw[beq_eq_false_iff_ne];omega
 have hb2I:¬(bl.length:Int)=0:=by omega
 obtain⟨_,_,e9,_,_,h5⟩:=hv;cases e9;obtain⟨b0,o0,cs,rfl,rfl,hc⟩:=h5 0 bl[0] (List.getElem?_eq_getElem hb0);have q0:w.cell? ⟨b0,o0+0*1+0,none⟩=some (.string bl[0]):=hc 0 _ rfl;simp only[Nat.zero_mul,Nat.add_zero]at q0;obtain⟨B0,hB0⟩:=zNm (bl[0]);have hBz:B0.size=n:=by rw[<-hB0];exact hn _ (List.getElem_mem hb0)
 rw[hB0]at q0;clear hR hn hc h5 hB0 hl hvx hb hd;have hmk:∀W:World,(Instr.makeSlice 117 (.int .i64 (n:Int)) (.int .i64 (n:Int))).run prog W=.ok (.slice (some ⟨W.heap.size,0,none⟩) n n) (W.alloc (.cells (arrB (rowE xs (bl.map bs) n x 0 0)) 5)):=fun W=>by
  rw[rowE_zero]
  exact make_u8 n n (Nat.le_refl _) (by omega) W
 have HW0:=zY (U8B.new w (rowE xs (bl.map bs) n x 0 0));have HBa:=zY (zBl w (.cells (arrB (rowE xs (bl.map bs) n x 0 0)) 5));have HGe:Hid (w.heap.size<=w.heap.size):=zY (Nat.le_refl _);obtain⟨g,hgg⟩:∃g,g=w.heap.size:=⟨_,rfl⟩;go_enter func164,ntmps164;go_wp2_with fail;try rw[hBz,hmk]
 clear hmk;go_upto_region 4 with fail;generalize w.alloc (.cells (arrB (rowE xs (bl.map bs) n x 0 0)) 5)=wa at *;have HW1:Hid (U8B wa g (rowE xs (bl.map bs) n x 0 0)):=zY (by rw[hgg];exact HW0.out);have HGe:Hid (w.heap.size<=g):=zY (by omega);try rw[<-hgg]
 have Hgg:=zY hgg;clear hgg HW0 q0 hBz;clear h0;go_wp2;go_loopw [8] (fun y wr=>∃k:Nat,k<=xs.length/\y=.int .i64 (k:Int)/\U8B wr g (rowE xs (bl.map bs) n x k 0)/\Below w.heap.size w wr) (fun y _=>xs.length-(intOf y).toNat);case atStart=>exact⟨0,by omega,rfl,HW1.out,HBa.out⟩
 case round=>
 obtain⟨k,hk,rfl,hr,hB⟩:=hrel;have HRo:=zY hr;have HB:=zY hB;clear hr hB;obtain⟨wo,rfl⟩:∃x,x=wr:=⟨_,rfl⟩;by_cases h:k<xs.length;{
 have hkI:(k:Int)<xs.length:=by omega
 have hkl:k<bl.length:=by have:=Hl.out;omega
 have hkJ:(k:Int)<bl.length:=by omega
 obtain⟨B,hBk⟩:∃B,bl[k]?=some B:=⟨_,List.getElem?_eq_getElem hkl⟩;have hBz:B.size=n:=Hn.out B (List.mem_of_getElem? hBk);obtain⟨_,_,e9,_,_,h5⟩:=Hv.out;have e10:=(Value.slice.inj e9).1;clear e9;obtain⟨b1,o1,cs,e11,rfl,hc⟩:=h5 k B hBk;rw[e11]at e10;cases e10;have q0:w.cell? ⟨b0,o0+k*1,none⟩=some (.string B):=hc 0 _ rfl;rw[Nat.mul_one]at q0;have HCS:Hid (∀W,Below w.heap.size w W->W.cell? ⟨b0,o0+k,none⟩=some (.string B)):=zY (fun W hW=>cell_below hW q0);have HWk:=zY (HWg.out wo k HB.out h);obtain⟨a,ha⟩:=zNm (wgt xs x k);rw[ha]at HWk;have Ha:Hid (a<256):=zY (by rw[<-ha];exact wgt_lt _ _ _);have HBk:=zY hBk;have Hae:=zY ha;have HBz:=zY hBz;clear hc h5 ha hBk hBz q0;go_wp2_with fail;refine HWk.mono ?_;rintro e4 w4 ⟨rfl,hb4⟩;have HRo4:=zY (show U8B w4 g (rowE xs (bl.map bs) n x k 0) from Blk.kept HRo.out hb4);have HB4:=zYt HB hb4;clear hb4 HWk;go_wp2;go_loopw [10] (fun y wr=>∃i:Nat,i<=n/\y=.int .i64 (i:Int)/\U8B wr g (rowE xs (bl.map bs) n x k i)/\Below w.heap.size w wr) (fun y _=>n-(intOf y).toNat);case atStart=>exact⟨0,by omega,rfl,HRo4.out,HB4.out⟩
 case round=>
 obtain⟨i,hi,rfl,hr,hB2⟩:=hrel;have HRr:=zY hr;have HBr:=zY hB2;clear hr hB2;by_cases h':i<n;{
 have hiI:(i:Int)<n:=by omega
 have hiB:i<B.size:=by rw[HBz.out];exact h'
 have hiBI:(i:Int)<B.size:=by omega
 obtain⟨b,hb⟩:=zNm ((B[i]'hiB).toNat);have hbI:(((B[i]'hiB).toNat:Nat):Int)=(b:Int):=by rw[hb]
 have Hb:Hid (b<256):=zY (by rw[<-hb];exact UInt8.toNat_lt _);have hbc:cf ((bl.map bs).getD k []) i=b:=by rw[List.getD,List.getElem?_map,HBk.out];show cf (bs B) i=b;rw[bsc B i hiB,hb]
 obtain⟨c0,hc0⟩:=zNm (cf (rowE xs (bl.map bs) n x k i) i);have HRi:Hid ((rowE xs (bl.map bs) n x k i)[i]?=some c0):=zY (by
  have hl':i<(rowE xs (bl.map bs) n x k i).length:=by rw[rowE_len];exact h'
  rw[List.getElem?_eq_getElem hl',<-hc0,cf_get (List.getElem?_eq_getElem hl')]);have hc02:c0<256:=rowE_lt _ (List.mem_of_getElem? HRi.out);have HSt:Hid ((rowE xs (bl.map bs) n x k i).set i (c0^^^gmul a b)=rowE xs (bl.map bs) n x k (i+1)):=zY (by rw[<-hc0,<-Hae.out,<-hbc];exact rowE_step h');have HTi:=zY (fun W=>r7times_any W a b Ha.out Hb.out);have hxx:=u8_xor hc02 (gmul_lt b Ha.out);clear hb hbc hc0;generalize gmul a b=p at *;go_upto_region 11 with fail;have HRc:=zY (show U8B wr.drew g (rowE xs (bl.map bs) n x k i) from Blk.kept HRr.out (Below.refl _ _).drew);have HBc:=zY HBr.drew;refine wp_region_held_drew (S:=(fun W=>W.cell? ⟨b0,o0+k,none⟩=some (.string B))) (by kernel_rfl) ?_ (fun hHeld=>?_);{first|exact HCS.out _ HBn.out|exact HCS.out _ HBc.out};refine tk 0 ?_;refine tk 1 ?_;refine tk 2 ?_;refine tk 3 ?_;refine tk 4 ?_;refine tk 6 ?_;refine tk 7 ?_;refine tk 8 ?_;refine tk 9 ?_;refine tk 10 ?_;refine tk 11 ?_;refine tk 12 ?_;refine take_call (i:=13) (oi:=_) (v:=(.int .u8 ((p:Nat):Int))) rfl (by kernel_rfl) (by kernel_rfl) (by kernel_rfl) (fun _ _ _ h=>h) (And.intro (by rfl) ?hy13) (by assumption) ?rest13;case hy13=>intro W hSw;exact⟨243,#[.int .u8 (a:Int),.int .u8 (b:Int)],by go_simp,HTi.out W⟩
 try simp only[Act.put,List.setIfInBounds_toArray,List.set_cons_zero,List.set_cons_succ]
 try simp only[List.getElem_toArray,List.getElem_cons_zero,List.getElem_cons_succ]
 refine zE1 5 fun K hK=>?_;have q0:=U8B.cell HRc.out (i:=i) (x:=c0) HRi.out;have q1:wr.cell? ⟨g,i,none⟩=some (.int .u8 (c0:Int)):=q0;clear q0;go_simp;clear q1;refine hko hK (by first|exact HCS.out _ HBn.out|exact HCS.out _ HBc.out) (fun _=>?_);clear hK K;refine tk 14 ?_;refine tk 15 ?_;refine zE1 16 fun K hK=>?_;have qc0:=U8B.cell HRc.out (i:=i) (x:=c0) HRi.out;have qc:wr.cell? ⟨g,i,none⟩=some (.int .u8 (c0:Int)):=qc0;have qz0:=Blk.frozen HRc.out i;have qz:wr.frozen? ⟨g,i,none⟩=false:=qz0;clear qc0 qz0;go_simp;have HRn:=zY (U8B.set HRc.out i (c0^^^p));have HBn:=zY (HBc.setCell (show w.heap.size<=(⟨g,i,none⟩:Addr).block from HGe.out) (.int .u8 ((c0^^^p:Nat):Int)));rw[HSt.out]at HRn;clear qc qz;refine hko hK (by first|exact HCS.out _ HBn.out|exact HCS.out _ HBc.out) (fun _=>?_);clear hK K;refine wpAnyH_done (by kernel_rfl) ?_ _;go_wp2_with fail;go_roundw;case rel=>exact⟨i+1,by omega,by go_num,HRn.out,HBn.out⟩
 case measure=>simp[intOf];omega};{
 obtain rfl:i=n:=by omega
 have hiI:¬((i:Nat):Int)<(i:Int):=by omega
 have HRn:Hid (U8B wr g (rowE xs (bl.map bs) i x (k+1) 0)):=zY (by rw[<-rowE_next];exact HRr.out);go_wp2;go_roundw;case rel=>exact⟨k+1,by omega,by go_num,HRn.out,HBr.out⟩
 case measure=>simp[intOf];omega}};{
 obtain rfl:k=xs.length:=by omega
 have hkI:¬((xs.length:Nat):Int)<(xs.length:Int):=by omega
 have HRe:Hid (U8B wo g R):=zY (by rw[<-HR.out,<-rowE_all];exact HRo.out);have hRl:n=R.length:=by rw[<-HR.out,atE_len]
 have hcv:(convert 117 9 (.slice (some ⟨g,0,none⟩) n n)).run prog wo=.ok (.string (strB R)) wo:=run_toStr (p:=R) (HRe.bytes hRl (Nat.le_refl _) (by omega)) hRl;clear hRl;go_wp2;go_ret;exact⟨rfl,HB.out⟩}
def natS:Shape Nat where
 n:=1
 R _ cs x:=cs=[.int .u8 (x:Int)]
 len h:=by rw[h];rfl
 one h u hu:=by rw[h]at hu;rw[List.mem_singleton.1 hu];rfl
 keep h _:=h
theorem SeqAt.bytes {W:World} {v:Value} {xs:List Nat} (h:SeqAt natS W v xs):BytesAt W v xs:=by
 obtain⟨A,c,e,h1,h2,h3⟩:=h;refine⟨A,c,e,h1,h2,fun i x hi=>?_⟩;obtain⟨b,o,cs,e1,rfl,h4⟩:=h3 i x hi;have:=h4 0 _ rfl;rw[show o+i*natS.n+0=o+i by show o+i*1+0=o+i;omega]at this;exact⟨b,o,_,e1,this,rfl⟩
theorem range_snoc (i:Nat):List.range (i+1)=List.range i++[i]:=List.range_succ
theorem r15enc_any (w:World) (v:Value) (data:List ByteArray) (hv:SeqAt strS w v data) (n s:Nat) (hn:∀b∈data,b.size=n) (hn2:n<=1000) (hd:1<=data.length) (hs:data.length+s<=15):
  Calls prog 91 #[v,.int .i64 (s:Int)] w fun e w'=>(∃v',e=.returned (.tuple #[v',.int .i64 0])/\OwnSeq strS 9 w w' v' (sparL data n s))/\Below w.heap.size w w':=by
 have Hv:=zY hv;have Hn:=zY hn;obtain⟨A,c,rfl,h1,h2⟩:=hv.slice;obtain⟨l,hl⟩:=zNm (data.length);have Hl:=zY hl;have HAt:Hid (∀(W:World) (vx:Value) (x:Nat),Below w.heap.size w W->x<256->BytesAt W vx (List.range data.length)->Calls prog 164 #[vx,.slice A data.length c,.int .u8 (x:Int)] W fun e w'=>e=.returned (.string (strB (atE (List.range data.length) (data.map bs) n x)))/\Below W.heap.size W w'):=zY (fun W vx x hW hx hvx=>by
  have hcf:∀i,i<data.length->cf (List.range data.length) i=i:=fun i hi=>by rw[cf,List.getElem?_range hi];rfl
  refine r15at_any W vx _ (List.range data.length) data hvx (hv.below hW) x n hx (fun i=>?_) (fun k i hk hi hne=>?_) hn (by simp) (by simpa using hd) (by simp;omega) hn2
  {
  by_cases hi:i<data.length
  ·rw[hcf i hi];omega
  ·rw[cf,List.getElem?_eq_none (by simp;omega)];decide}
  ·rw[List.length_range]at hk hi
   rw[hcf k hk,hcf i hi]
   omega);rw[hl]at h1;have f1:((l:Int)==0)=false:=by rw[beq_eq_false_iff_ne];omega
 have f1b:¬(l:Int)=0:=by omega
 have f2:¬(s:Int)<0:=by omega
 have f3:¬(15:Int)<s:=by omega
 have f4:¬(15:Int)<(l:Int)+s:=by omega
 have f5:IntKind.i64.wrap ((l:Int)+s)=(l:Int)+s:=zIw (by omega);have f6:l≠0:=by omega
 rw[hl];clear hv hn;go_enter func91,ntmps91;go_wp2;go_loopw [6,7] (fun y x wr=>∃i:Nat,i<=l/\x=.int .i64 (i:Int)/\OwnSeq natS 5 w wr y (List.range i)/\Below w.heap.size w wr) (fun _ x _=>l-(intOf x).toNat);case atStart=>exact⟨0,by omega,rfl,OwnSeq.new w,(Below.refl _ _).alloc (Nat.le_refl _) _⟩
 case round=>
 obtain⟨i,hi,rfl,ho,hB⟩:=hrel;have HO:=zY ho;have HB:=zY hB;clear hB;by_cases h:i<l;{
 obtain⟨Ao,co,rfl⟩:=ho.slice;clear ho;rw[List.length_range];have hiI:(i:Int)<l:=by omega
 have h0I:(0:Int)<l:=by omega
 obtain⟨B,hBk⟩:∃B,data[i]?=some B:=⟨_,List.getElem?_eq_getElem (by omega)⟩;obtain⟨B0,hB0⟩:∃B,data[0]?=some B:=⟨_,List.getElem?_eq_getElem (by omega)⟩;have hz1:B.size=n:=Hn.out B (List.mem_of_getElem? hBk);have hz2:B0.size=n:=Hn.out B0 (List.mem_of_getElem? hB0);have hz3:((n:Int) != n)=false:=by simp
 obtain⟨_,_,e9,_,_,h5⟩:=Hv.below HB.out;have e10:=(Value.slice.inj e9).1;clear e9;obtain⟨b1,o1,cs,e11,rfl,hc⟩:=h5 i B hBk;obtain⟨b2,o2,cs2,e12,rfl,hc2⟩:=h5 0 B0 hB0;rw[e11]at e12;cases e12;rw[e11]at e10;subst e10;have q1:wr.cell? ⟨b1,o1+i*1,none⟩=some (.string B):=hc 0 _ rfl;have q2:wr.cell? ⟨b1,o1+0*1,none⟩=some (.string B0):=hc2 0 _ rfl;rw[Nat.mul_one]at q1;rw[Nat.zero_mul,Nat.add_zero]at q2;have hw:IntKind.u8.wrap (i:Int)=i:=by rw[IntKind.wrap_u8];omega
 have hw2:(i:Int)%256=i:=by omega
 have Hl1:Hid ((List.range i).length+1<=100000000):=zY (by simp;omega);clear hc hc2 h5 hBk hB0 e11;go_upto_region 7 with fail;go_quiet (fail);have HB7:=zY (blwN HB.out nq);have HO7:=zY (HO.stay (W':=wr.drewN nq) fun k o _ ho _=>by simpa using ho);generalize wr.drewN nq=w7 at *;have hcu:IntKind.u8.wrap (i:Int)=i:=hw;clear q1 q2;rw[List.length_range]at HO7;go_wp2_with (at_builtin;refine append_seq (ρ:=natS) (w0:=w) (us:=[i]) Tryz.elemU8 rfl _ _ rfl rfl (HO7.alloc _) rfl (src1 (ρ:=natS) [.int .u8 (i:Int)] i rfl rfl) Hl1.out (HB7.alloc HB7.size _) ?_;intro vb wb hob _ hbb;have KV:=zY hob;have KC:=zY hbb;clear hob hbb);go_roundw;case rel=>exact⟨i+1,by omega,by go_num,by rw[range_snoc];exact KV.out,KC.out⟩
 case measure=>simp[intOf];omega};{
 obtain rfl:i=l:=by omega
 have hiI:¬((i:Nat):Int)<(i:Int):=by omega
 have hx:=ho.at HB.out;obtain⟨Ao,co,rfl⟩:=ho.slice;have HX:=zY hx;clear ho hx;rw[List.length_range]at HX⊢;obtain⟨wy,hwy⟩:∃x,x=wr:=⟨_,rfl⟩;subst hwy;have HNw:=zY (OwnSeq.new (ρ:=strS) (t:=9) wy);have HBn:=zY (zBl wy (.cells #[] 9));go_wp2;go_loopw [8,9] (fun y x wr=>∃j:Nat,j<=s/\x=.int .i64 (j:Int)/\OwnSeq strS 9 wy wr y (sparL data n j)/\Below wy.heap.size wy wr) (fun _ x _=>s-(intOf x).toNat);case atStart=>exact⟨0,by omega,rfl,HNw.out,HBn.out⟩
 case round=>
 obtain⟨j,hj,rfl,ho,hB⟩:=hrel;have HO:=zY ho;have HBj:=zY hB;obtain⟨As,ca,rfl⟩:=ho.slice;clear ho hB;generalize hno:(sparL data n j).length=no at *;have hnl:no=j:=by rw[<-hno];simp[sparL]
 have Hno:=zY hno;clear hno;by_cases h:j<s;{
 have hjI:(j:Int)<s:=by omega
 obtain⟨q,hq⟩:=zNm (i+j);have hq1:(i:Int)+j=q:=by omega
 have hq2:IntKind.i64.wrap ((i:Int)+j)=q:=by rw[hq1];exact zIw (by omega)
 have hq3:IntKind.u8.wrap (q:Int)=q:=by rw[IntKind.wrap_u8];omega
 have hq4:(q:Int)%256=q:=by omega
 have HC:=zY (HAt.out wr (.slice Ao i co) q (HB.trans (HBj.mono HB.size)) (by omega) (by rw[Hl.out];exact SeqAt.bytes (HX.below HBj.out)));obtain⟨T,hT⟩:=zNm (strB (atE (List.range data.length) (data.map bs) n q));have HSu:Hid (sparL data n (j+1)=sparL data n j++[T]):=zY (by rw[sparL_succ,Hl.out,hq,<-Hl.out,hT]);rw[hT,Hl.out]at HC;have Hl1:Hid ((sparL data n j).length+1<=100000000):=zY (by rw[Hno.out];omega);clear hT hnl hq;go_wp2_with fail;refine HC.mono ?_;rintro e5 w5 ⟨rfl,hb5⟩;have HB5:=zYt HBj hb5;have HO5:=zY (HO.stay (W':=w5) fun k o _ ho _=>(hb5.block k (Array.getElem?_eq_some_iff.1 ho).1).trans ho);clear hb5 HC;go_wp2_with (at_builtin;refine append_seq (ρ:=strS) (w0:=wy) (us:=[T]) Tryz.elemStr rfl _ _ rfl rfl (HO5.alloc _) rfl (src1 (ρ:=strS) [.string T] T rfl rfl) Hl1.out (HB5.alloc HB5.size _) ?_;intro vb wb hob _ hbb;have KV:=zY hob;have KC:=zY hbb;clear hob hbb);go_roundw;case rel=>exact⟨j+1,by omega,by go_num,by rw[HSu.out];exact KV.out,KC.out⟩
 case measure=>simp[intOf];omega};{
 obtain rfl:j=s:=by omega
 have hjI:¬((j:Nat):Int)<(j:Int):=by omega
 clear hnl;go_wp2;go_ret2;exact⟨⟨_,rfl,HO.low flatS HB.size⟩,HB.trans (HBj.mono HB.size)⟩}}
theorem append_rows {P:Program} {ops:Array Oper} {rest:List Oper} {o:Oper} {a:Act} {Q:Exit->Act->World->Prop} {TSS TS T:TypeId} {b:Nat} {z:Value} {w0 w:World} {v r:Value} {xss:List (List ByteArray)} {y:List ByteArray} {xb:Nat} (E:Elem P TSS TS 1 b z) (hgd:o.guard=none) (s x:Operand) (ho:o.op=.call { callee:=.builtin .append,args:= #[s,x],argTypes:= #[TSS,TSS] }) (hne:TS≠T)
  (hs:a.eval s=v) (hO:OwnRows TS T w0 w v xss) (hle:w0.heap.size<=w.heap.size) (hx:a.eval x=.slice (some ⟨xb,0,none⟩) 1 1) (hB:Blk w xb TS [r]) (hr:OwnSeq strS T w0 w r y) (hn:xss.length<=1000000)
  (h:∀v' w',OwnRows TS T w0 w' v' (xss++[y])->Below w0.heap.size w w'->wpList P ops Q rest (a.put o.dst v') w'):wpList P ops Q (o::rest) a w:=
 wpList_plain hgd fun _ hK=>wp_append_rows E s x ho hne hs hO hle hx hB hr hn fun v' w' h1 h2 _=>hK _ _ (h v' w' h1 h2)
theorem OwnRows.new {t t':TypeId} (W:World):OwnRows t t' W (W.alloc (.cells #[] t)) (.slice (some ⟨W.heap.size,0,none⟩) 0 0) []:=⟨[],OwnSeq.new W,.nil⟩
def blkI (st:ByteArray) (m i:Nat):ByteArray:=strB ((List.range i).map fun j=>cf (bs st) (28*m+j))
theorem blkI_size (st:ByteArray) (m i:Nat):(blkI st m i).size=i:=by rw[blkI,strB_size];simp
theorem blkI_in {st:ByteArray} {m i k:Nat} (hk:k=28*m+i) (h:k<st.size):blkI st m (i+1)=blkI st m i++st.extract k (k+1):=by
 have e:st.extract k (k+1)=strB [cf (bs st) k]:=by{
 apply bs_inj;rw[bs_extract,bs_strB (fun b hb=>by rw[List.mem_singleton.1 hb];exact cf_byte st k)];have hl:k<(bs st).length:=by rw[bs_len];exact h
 rw[List.take_add_one,List.drop_append_of_le_length (by rw[List.length_take];omega),List.drop_of_length_le (by rw[List.length_take];omega),List.getElem?_eq_getElem hl];rw[cf,List.getElem?_eq_getElem hl];rfl};rw[e,blkI,List.range_succ,List.map_append,<-strB_cat,blkI,hk];rfl
theorem blkI_out {st:ByteArray} {m i k:Nat} (hk:k=28*m+i) (h:¬k<st.size):blkI st m (i+1)=blkI st m i++⟨#[0]⟩:=by
 rw[blkI,List.range_succ,List.map_append,<-strB_cat,blkI];have e:cf (bs st) (28*m+i)=0:=by rw[cf,List.getElem?_eq_none (by rw[bs_len];omega)];rfl
 simp only[List.map_cons,List.map_nil,e];rfl
def datT (d:Nat) (st:ByteArray) (k b:Nat):List ByteArray:=(List.range b).map fun i=>blockB st (k*d+i)
theorem datT_succ (d:Nat) (st:ByteArray) (k b:Nat):datT d st k (b+1)=datT d st k b++[blkI st (k*d+b) 28]:=by rw[datT,List.range_succ,List.map_append];rfl
theorem rows_step {d s:Nat} {st:ByteArray} {k:Nat} (h:k<strN d st.size):(rowsL d s st).take (k+1)=(rowsL d s st).take k++[datL d st k++sparL (datL d st k) 28 s]:=by
 rw[List.take_add_one,rowsL,List.getElem?_map,stripL,List.getElem?_map,List.getElem?_range h];rfl
theorem r16stripes_ok (w:World) (d s:Nat) (st:ByteArray) (hd:1<=d/\d<=8) (hsp:s<=7) (hs:st.size<=1835008):Calls prog 43 #[.agg #[.int .i64 (d:Int),.int .i64 (s:Int)],.string st] w fun e w'=>(∃v,e=.returned (.tuple #[v,.int .i64 0])/\OwnRows 51 9 w w' v (rowsL d s st))/\Below w.heap.size w w':=by
 have hK:=Blk.new w 24 [.int .i64 (d:Int),.int .i64 (s:Int)];have HK:Hid (Blk (w.alloc (.cells #[.int .i64 (d:Int),.int .i64 (s:Int)] 24)) w.heap.size 24 [.int .i64 (d:Int),.int .i64 (s:Int)]):=zY hK;have HB0:=zY (zBl w (.cells #[.int .i64 (d:Int),.int .i64 (s:Int)] 24));have HCk:Hid (∀W,Calls prog 40 #[.agg #[.int .i64 (d:Int),.int .i64 (s:Int)]] W fun e w'=>e=.returned (.int .i64 0)/\Below W.heap.size W w'):=zY (fun W=>by
  have:=check16_any W (d:Int) (s:Int)
  rwa [layE,if_neg (by omega)]at this);obtain⟨m,hm⟩:=zNm (28*d);have hm1:(28:Int)*d=m:=by omega
 have hm2:IntKind.i64.wrap ((28:Int)*d)=m:=by rw[zIw (by omega)];omega
 obtain⟨p,hp⟩:=zNm (st.size+m-1);have hp0:IntKind.i64.wrap ((st.size:Int)+m)=(st.size:Int)+m:=zIw (by omega);have hp1:(st.size:Int)+m-1=p:=by omega
 have hp2:IntKind.i64.wrap ((st.size:Int)+m-1)=p:=by rw[hp1];exact zIw (by omega)
 obtain⟨N,hN⟩:=zNm (strN d st.size);have hNp:p/m=N:=by rw[<-hN,<-hp,<-hm];rfl
 have hN1:(p:Int)/m=N:=by rw[<-hNp];simp
 have hN2:Int.tdiv (p:Int) m=N:=by rw[<-hNp];simp
 have hNl:N<=65537:=by rw[<-hNp];apply Nat.le_of_lt_succ;rw[Nat.div_lt_iff_lt_mul (by omega)];omega
 have hN3:IntKind.i64.wrap (N:Int)=N:=zIw (by omega);have hN4:¬(65536:Int)<N:=by{
 have:N<=65536:=by rw[<-hNp];apply Nat.le_of_lt_succ;rw[Nat.div_lt_iff_lt_mul (by omega)];omega
 omega};have hm0:((m:Int)==0)=false:=by rw[beq_eq_false_iff_ne];omega
 have hm00:¬(m:Int)=0:=by omega
 have hm000:m≠0:=by omega
 have HLt:Hid (∀k,k<N↔m*k<st.size):=zY (fun k=>by rw[<-hN,strN_lt hd.1,hm]);have Hm:=zY hm;clear hK hN hNp hp hm;go_enter func43,ntmps43;go_upto_region 1 with fail;generalize w.alloc (.cells #[.int .i64 (d:Int),.int .i64 (s:Int)] 24)=wb at *;have c0:=HK.c 0;have c1:=HK.c 1;go_wp2_with fail;refine(HCk.out _).mono ?_;rintro e1 w1 ⟨rfl,hb1⟩;have HK1:=zY (HK.kept hb1);have HB1:=zYt HB0 hb1;clear hb1 HK HB0 c0 c1 HCk;have c0:=HK1.c 0;go_wp2;go_loopw [7,8] (fun y x wr=>∃k:Nat,k<=N/\x=.int .i64 ((m*k:Nat):Int)/\OwnRows 51 9 w1 wr y ((rowsL d s st).take k)/\Below w1.heap.size w1 wr) (fun _ x _=>st.size+m-(intOf x).toNat);case atStart=>exact⟨0,by omega,rfl,OwnRows.new w1,(Below.refl _ _).alloc (Nat.le_refl _) _⟩
 case round=>
 obtain⟨k,hk,rfl,ho,hB⟩:=hrel;have HR:=zY ho;have HB:=zY hB;obtain⟨Ar,cr,rfl⟩:=ho.slice;clear ho hB c0;generalize hnr:((rowsL d s st).take k).length=nr at *;have Hnr:=zY hnr;clear hnr;obtain⟨wo,hwo⟩:∃x,x=wr:=⟨_,rfl⟩;subst hwo;by_cases h:k<N;{
 have ha:=(HLt.out k).1 h;have hak:m*k=28*(k*d):=by rw[<-Hm.out,Nat.mul_assoc,Nat.mul_comm d k]
 have hmk1:m*(k+1)=m*k+m:=by rw[Nat.mul_add,Nat.mul_one]
 have HRs:Hid ((rowsL d s st).take (k+1)=(rowsL d s st).take k++[datL d st k++sparL (datL d st k) 28 s]):=zY (rows_step ((strN_lt hd.1).2 (by rw[Hm.out];exact ha)));obtain⟨kd,hkd⟩:=zNm (k*d);rw[hkd]at hak;have Hkd:=zY hkd;obtain⟨a,haa⟩:=zNm (m*k);rw[haa]at ha hak hmk1⊢;have haI:(a:Int)<st.size:=by omega
 have Hak:=zY hak;have Hmk1:=zY hmk1;have ham:IntKind.i64.wrap ((a:Int)+m)=((a+m:Nat):Int):=by rw[zIw (by omega)];omega
 have Hkl:=zY h;clear hkd haa hmk1 h hak;go_wp2;go_loopw [9,10] (fun y x wr=>∃b:Nat,b<=d/\x=.int .i64 (b:Int)/\OwnSeq strS 9 wo wr y (datT d st k b)/\Below wo.heap.size wo wr) (fun _ x _=>d-(intOf x).toNat);case atStart=>exact⟨0,by omega,rfl,OwnSeq.nil wo,Below.refl _ _⟩
 case round=>
 obtain⟨b,hb,rfl,hod,hBd⟩:=hrel;have HO:=zY hod;have HBd:=zY hBd;obtain⟨Ad,cd,rfl⟩:=hod.slice;have hdl:(datT d st k b).length=b:=by simp[datT]
 rw[hdl]at HO⊢;have HBw:=zYt HB hBd;have c0:=(HK1.kept HBw.out).c 0;have c1:=(HK1.kept HBw.out).c 1;clear hod hBd hdl;by_cases h:b<d;{
 have hbI:(b:Int)<d:=by omega
 obtain⟨p1,hp1'⟩:∃q,28*b=q:=⟨_,rfl⟩;have g1:(28:Int)*b=p1:=by omega
 have g2:IntKind.i64.wrap ((28:Int)*b)=p1:=by rw[g1];exact zIw (by omega)
 obtain⟨p2,hp2'⟩:∃q,a+p1=q:=⟨_,rfl⟩;have g3:(a:Int)+p1=p2:=by omega
 have g4:IntKind.i64.wrap ((a:Int)+p1)=p2:=by rw[g3];exact zIw (by omega)
 obtain⟨M,hM⟩:=zNm (kd+b);have hpM:p2=28*M:=by have:=Hak.out;omega
 have HpM:=zY hpM;have HMe:Hid (k*d+b=M):=zY (by rw[Hkd.out];exact hM);have hp2z:p2<=2000000:=by omega
 clear hp1' hp2' hM hpM;go_wp2;go_loopw [11,12] (fun t x wr'=>∃i:Nat,i<=28/\x=.int .i64 (i:Int)/\t=.string (blkI st M i)/\wr'=wr) (fun _ x _=>28-(intOf x).toNat);case atStart=>exact⟨0,by omega,rfl,rfl,rfl⟩
 case round=>
 obtain⟨i,hi,rfl,rfl,rfl⟩:=hrel;obtain⟨T,hT⟩:=zNm (blkI st M i);have hTz:T.size=i:=by rw[<-hT,blkI_size]
 by_cases h':i<28;{
 have hiI:(i:Int)<28:=by omega
 obtain⟨p3,hp3⟩:=zNm (p2+i);have g5:(p2:Int)+i=p3:=by omega
 have g6:IntKind.i64.wrap ((p2:Int)+i)=p3:=by rw[g5];exact zIw (by omega)
 have h3M:p3=28*M+i:=by rw[<-hp3,HpM.out]
 by_cases hin:p3<st.size;{
 have hinI:(p3:Int)<st.size:=by omega
 have g7:IntKind.i64.wrap ((p3:Int)+1)=((p3+1:Nat):Int):=by rw[zIw (by omega)];omega
 have g8:(p3:Int)<=(p3:Int)+1:=by omega
 have g9:(p3:Int)+1<=st.size:=by omega
 have g10:p3<=p3+1:=by omega
 have g11:p3+1<=st.size:=by omega
 have HT:Hid (blkI st M (i+1)=T++st.extract p3 (p3+1)):=zY (by rw[blkI_in h3M hin,hT]);obtain⟨Y,hY⟩:=zNm (st.extract p3 (p3+1));have hYz:Y.size=1:=by rw[<-hY,ByteArray.size_extract];omega
 have hcc:¬9223372036854775807<T.size+Y.size:=by omega
 have HY:=zY hY;rw[hT];clear hT hTz hp3 h3M hYz;go_wp2;go_roundw;case rel=>exact⟨i+1,by omega,by go_num,by rw[HT.out,HY.out],by trivial⟩
 case measure=>simp[intOf];omega};{
 have hinI:¬(p3:Int)<st.size:=by omega
 have HT:Hid (blkI st M (i+1)=T++⟨#[0]⟩):=zY (by rw[blkI_out h3M hin,hT]);have hcc:¬9223372036854775807<T.size+(⟨#[0]⟩:ByteArray).size:=by show ¬9223372036854775807<T.size+1;omega
 have hcc2:¬9223372036854775807<T.size+1:=by omega
 rw[hT];clear hT hTz hp3 h3M;go_wp2;go_roundw;case rel=>exact⟨i+1,by omega,by go_num,by rw[HT.out],by trivial⟩
 case measure=>simp[intOf];omega}};{
 obtain rfl:i=28:=by omega
 have hiI:¬((28:Nat):Int)<(28:Int):=by omega
 have HDs:Hid (datT d st k (b+1)=datT d st k b++[T]):=zY (by rw[datT_succ,HMe.out,hT]);have Hl1:Hid ((datT d st k b).length+1<=100000000):=zY (by simp[datT];omega);rw[hT];clear hT hTz;go_wp2_with (at_builtin;refine append_seq (ρ:=strS) (w0:=wo) (us:=[T]) Tryz.elemStr rfl _ _ rfl rfl (HO.alloc _) rfl (src1 (ρ:=strS) [.string T] T rfl rfl) Hl1.out (HBd.alloc HBd.size _) ?_;intro vb wb hob _ hbb;have KV:=zY hob;have KC:=zY hbb;clear hob hbb);go_roundw;case rel=>exact⟨b+1,by omega,by go_num,by rw[HDs.out];exact KV.out,KC.out⟩
 case measure=>simp[intOf];omega}};{
 obtain rfl:b=d:=by omega
 have hbI:¬((b:Nat):Int)<(b:Int):=by omega
 have hsq:=HO.at HBd.out;have HD:Hid (datT b st k b=datL b st k):=zY rfl;rw[HD.out]at hsq HO;have hdz:∀y∈datL b st k,y.size=28:=fun y hy=>by
  obtain⟨j,_,rfl⟩:=List.mem_map.1 hy
  exact blockB_size _ _
 have hen:=r15enc_any wr _ (datL b st k) hsq 28 s hdz (by omega) (by rw[datL_len];omega) (by rw[datL_len];omega);have HEn:=zY hen;have HSl:Hid ((sparL (datL b st k) 28 s).length=s):=zY (by simp[sparL]);have HDl:Hid ((datL b st k).length=b):=zY (datL_len _ _ _);have Hl1:Hid ((datL b st k).length+(sparL (datL b st k) 28 s).length<=100000000):=zY (by rw[HSl.out,HDl.out];omega);have Hl2:Hid (((rowsL b s st).take k).length<=1000000):=zY (by rw[List.length_take];omega);clear hsq hdz hen;go_wp2_with fail;refine HEn.mono ?_;rintro e5 w5 ⟨⟨vs,rfl,hs5⟩,hb5⟩;obtain⟨As,cs,rfl⟩:=hs5.slice;rw[HSl.out]at hs5⊢;have HB5:=zYt HBd hb5;have HO5:=zY (HO.stay (W':=w5) fun k o _ ho _=>(hb5.block k (Array.getElem?_eq_some_iff.1 ho).1).trans ho);have HSr:Hid (SrcAt strS wo w5 (.slice As s cs) (sparL (datL b st k) 28 s)):=zY (SrcAt.flat flatS (hs5.at hb5));clear hs5 hb5 HEn c0 c1
 go_wp2_with (at_builtin;first|(refine append_seq (ρ:=strS) (w0:=wo) Tryz.elemStr rfl _ _ rfl rfl HO5.out rfl HSr.out Hl1.out HB5.out ?_;intro va wa hob _ hbb;obtain⟨Aa,ca,rfl⟩:=hob.slice;generalize hnl:(datL b st k++sparL (datL b st k) 28 s).length=nl at hob⊢;have Hnl:=zY hnl;clear hnl;have KV:=zY hob;have KC:=zY hbb;clear hob hbb)|(refine append_rows (w0:=w1) (T:=9) (y:=datL b st k++sparL (datL b st k) 28 s) Tryz.elemStrs rfl _ _ rfl (by decide) rfl (HR.kept (KC.out.alloc KC.out.size _)) (Nat.le_trans HB.size (KC.out.alloc KC.out.size _).size) rfl (Blk.new wa 51 [.slice Aa nl ca]) ((KV.out.low flatS HB.size).alloc _) Hl2.out ?_;intro vb wb hor hbr;have KR:=zY hor;have KB:=zY (HB.trans (((KC.out.alloc KC.out.size (.cells #[.slice Aa nl ca] 51)).mono HB.size).trans hbr));clear hor hbr));go_roundw;case rel=>exact⟨k+1,by have:=Hkl.out;omega,by rw[Hmk1.out];go_num,by rw[HRs.out];exact KR.out,KB.out⟩
 case measure=>simp[intOf];omega}};{
 obtain rfl:k=N:=by omega
 have hnl:¬m*k<st.size:=fun e=>h ((HLt.out k).2 e);obtain⟨a,haa⟩:=zNm (m*k);rw[haa]at hnl⊢;have haI:¬(a:Int)<st.size:=by omega
 have hall:(rowsL d s st).take k=rowsL d s st:=by{
 refine List.take_of_length_le ?_;rw[rowsL,List.length_map,stripL,List.length_map,List.length_range];by_cases hc:k<strN d st.size;{
 have:=(strN_lt hd.1).1 hc;rw[Hm.out]at this;omega};{omega}};rw[hall]at HR;clear hall hnl haa;go_wp2;go_ret2;exact⟨⟨_,rfl,HR.low HB1.size⟩,HB1.trans (HB.mono HB1.size)⟩}
end
end Go.Proofs.YthgenkkkapilhaaGreatDoor