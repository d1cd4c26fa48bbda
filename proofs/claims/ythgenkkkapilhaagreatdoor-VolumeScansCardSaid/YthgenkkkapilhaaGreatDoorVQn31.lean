/-
  Joined: VqX VqY.
-/
import Derived.Test.YthgenkkkapilhaaGreatDoorVQn24
import Derived.Test.YthgenkkkapilhaaGreatDoorVQn30
set_option linter.all false
set_option maxRecDepth 100000
set_option maxHeartbeats 64000000
namespace Go.Proofs.YthgenkkkapilhaaGreatDoor
open Go.Proofs.Tryz
section
open Go.RowKit
theorem eraint1_any (w:World) (v:Value) (bl:List ByteArray) (hv:SeqAt strS w v bl) (xs:List Nat) (x n gp:Nat) (vw:Value) (hg:w.cell? ⟨gp,0,none⟩=some vw) (hw:BytesAt w vw (wgtL xs x)) (hn:∀b∈bl,b.size=n) (hl:bl.length=xs.length) (h0:1<=xs.length) (h15:xs.length<=15) (hn2:n<=1000):
  Calls prog 191 #[v,.pointer (some ⟨gp,0,none⟩)] w fun e w'=>e=.returned (.string (strB (atE xs (bl.map bs) n x)))/\Below w.heap.size w w':=by
 obtain⟨R,hR⟩:=zNm (atE xs (bl.map bs) n x);rw[hR];have HR:=zY hR;have Hv:=zY hv;have Hw:=zY hw;have Hn:=zY hn;have Hl:=zY hl;obtain⟨A,c,rfl,h1,h2⟩:=hv.slice;have hwl:(wgtL xs x).length=xs.length:=by simp[wgtL]
 obtain⟨Aw,cw,hvw,h3,h4⟩:=hw.sliceV;rw[hwl]at hvw h3;subst hvw;have HCk:Hid (∀W,Below w.heap.size w W->W.cell? ⟨gp,0,none⟩=some (.slice Aw xs.length cw)):=zY (fun W hW=>cell_below hW hg);have hb0:0<bl.length:=by omega
 have hb0I:(0:Int)<bl.length:=by omega
 obtain⟨_,_,e9,_,_,h5⟩:=hv;cases e9;obtain⟨b0,o0,cs,rfl,rfl,hc⟩:=h5 0 bl[0] (List.getElem?_eq_getElem hb0);have q0:w.cell? ⟨b0,o0+0*1+0,none⟩=some (.string bl[0]):=hc 0 _ rfl;simp only[Nat.zero_mul,Nat.add_zero]at q0;obtain⟨B0,hB0⟩:=zNm (bl[0]);have hBz:B0.size=n:=by rw[<-hB0];exact hn _ (List.getElem_mem hb0)
 rw[hB0]at q0;have Hwl:=zY hwl;clear hR hw hn hg hc h5 hB0 hl hwl;have hmk:∀W:World,(Instr.makeSlice 117 (.int .i64 (n:Int)) (.int .i64 (n:Int))).run prog W=.ok (.slice (some ⟨W.heap.size,0,none⟩) n n) (W.alloc (.cells (arrB (rowE xs (bl.map bs) n x 0 0)) 5)):=fun W=>by
  rw[rowE_zero]
  exact make_u8 n n (Nat.le_refl _) (by omega) W
 have HW0:=zY (U8B.new w (rowE xs (bl.map bs) n x 0 0));have HBa:=zY (zBl w (.cells (arrB (rowE xs (bl.map bs) n x 0 0)) 5));have HGe:Hid (w.heap.size<=w.heap.size):=zY (Nat.le_refl _);obtain⟨g,hgg⟩:∃g,g=w.heap.size:=⟨_,rfl⟩;go_enter func191,ntmps191;go_wp2_with fail;try rw[hBz,hmk]
 clear hmk;go_upto_region 2 with fail;generalize w.alloc (.cells (arrB (rowE xs (bl.map bs) n x 0 0)) 5)=wa at *;have HW1:Hid (U8B wa g (rowE xs (bl.map bs) n x 0 0)):=zY (by rw[hgg];exact HW0.out);have HGe:Hid (w.heap.size<=g):=zY (by omega);try rw[<-hgg]
 have Hgg:=zY hgg;clear hgg HW0 q0 hBz;clear h0;go_wp2;go_loopw [15] (fun y wr=>∃k:Nat,k<=xs.length/\y=.int .i64 (k:Int)/\U8B wr g (rowE xs (bl.map bs) n x k 0)/\Below w.heap.size w wr) (fun y _=>xs.length-(intOf y).toNat);case atStart=>exact⟨0,by omega,rfl,HW1.out,HBa.out⟩
 case round=>
 obtain⟨k,hk,rfl,hr,hB⟩:=hrel;have HRo:=zY hr;have HB:=zY hB;clear hr hB;obtain⟨wo,rfl⟩:∃x,x=wr:=⟨_,rfl⟩;by_cases h:k<xs.length;{
 have hkI:(k:Int)<xs.length:=by omega
 have hkl:k<bl.length:=by have:=Hl.out;omega
 have hkJ:(k:Int)<bl.length:=by omega
 obtain⟨B,hBk⟩:∃B,bl[k]?=some B:=⟨_,List.getElem?_eq_getElem hkl⟩;have hBz:B.size=n:=Hn.out B (List.mem_of_getElem? hBk);obtain⟨_,_,e9,_,_,h5⟩:=Hv.below HB.out;have e10:=(Value.slice.inj e9).1;clear e9;obtain⟨b1,o1,cs,e11,rfl,hc⟩:=h5 k B hBk;rw[e11]at e10;cases e10;have q0:wo.cell? ⟨b0,o0+k*1,none⟩=some (.string B):=hc 0 _ rfl;rw[Nat.mul_one]at q0;obtain⟨_,_,e9,_,_,h6⟩:=Hw.out;have e10:=(Value.slice.inj e9).1;clear e9;obtain⟨a,ha⟩:=zNm (wgt xs x k);obtain⟨bw,ow,u,e11,hcw,rfl⟩:=h6 k a (by simp[wgtL,h,ha]);rw[e11]at e10;cases e10;have HCS:Hid (∀W,Below w.heap.size w W->W.cell? ⟨gp,0,none⟩=some (.slice (some ⟨bw,ow,none⟩) xs.length cw)/\W.cell? ⟨bw,ow+k,none⟩=some (.int .u8 (a:Int))):=zY (fun W hW=>⟨HCk.out W hW,cell_below hW hcw⟩);have Ha:Hid (a<256):=zY (by rw[<-ha];exact wgt_lt _ _ _);have HBk:=zY hBk;have Hae:=zY ha;have HBz:=zY hBz;clear hc h5 h6 hcw ha hBk hBz hkl;go_wp2;go_loopw [22] (fun y wr=>∃i:Nat,i<=n/\y=.int .i64 (i:Int)/\U8B wr g (rowE xs (bl.map bs) n x k i)/\Below w.heap.size w wr) (fun y _=>n-(intOf y).toNat);case atStart=>exact⟨0,by omega,rfl,HRo.out,HB.out⟩
 case round=>
 obtain⟨i,hi,rfl,hr,hB2⟩:=hrel;have HRr:=zY hr;have HBr:=zY hB2;clear hr hB2 q0;by_cases h':i<n;{
 have hiI:(i:Int)<n:=by omega
 have hiB:i<B.size:=by rw[HBz.out];exact h'
 have hiBI:(i:Int)<B.size:=by omega
 obtain⟨b,hb⟩:=zNm ((B[i]'hiB).toNat);have hbI:(((B[i]'hiB).toNat:Nat):Int)=(b:Int):=by rw[hb]
 have Hb:Hid (b<256):=zY (by rw[<-hb];exact UInt8.toNat_lt _);have hbc:cf ((bl.map bs).getD k []) i=b:=by rw[List.getD,List.getElem?_map,HBk.out];show cf (bs B) i=b;rw[bsc B i hiB,hb]
 obtain⟨c0,hc0⟩:=zNm (cf (rowE xs (bl.map bs) n x k i) i);have HRi:Hid ((rowE xs (bl.map bs) n x k i)[i]?=some c0):=zY (by
  have hl':i<(rowE xs (bl.map bs) n x k i).length:=by rw[rowE_len];exact h'
  rw[List.getElem?_eq_getElem hl',<-hc0,cf_get (List.getElem?_eq_getElem hl')]);have Hc0:Hid (c0<256):=zY (rowE_lt _ (List.mem_of_getElem? HRi.out));have HSt:Hid ((rowE xs (bl.map bs) n x k i).set i (c0^^^gmul a b)=rowE xs (bl.map bs) n x k (i+1)):=zY (by rw[<-hc0,<-Hae.out,<-hbc];exact rowE_step h');clear hb hbc hc0;go_upto_region 8 with fail;have HRc:=zY (show U8B wr.drew g (rowE xs (bl.map bs) n x k i) from Blk.kept HRr.out (Below.refl _ _).drew);have HBc:=zY HBr.drew;refine wp_region_held_drew (S:=(fun W=>W.cell? ⟨gp,0,none⟩=some (.slice (some ⟨bw,ow,none⟩) xs.length cw)/\W.cell? ⟨bw,ow+k,none⟩=some (.int .u8 (a:Int)))) (by kernel_rfl) ?_ (fun hHeld=>?_);{first|exact HCS.out _ HBn.out|exact HCS.out _ HBc.out};refine tk 0 ?_;refine tk 1 ?_;refine tk 2 ?_;refine tk 3 ?_;refine tk 4 ?_;refine tk 6 ?_;refine tk 7 ?_;refine tk 8 ?_;refine tk 9 ?_;refine tk 10 ?_;refine tk 11 ?_;refine tk 12 ?_;refine take_call (i:=13) (oi:=_) (v:=(.int .u8 ((gmul a b:Nat):Int))) rfl (by kernel_rfl) (by kernel_rfl) (by kernel_rfl) (fun _ _ _ h=>h) (And.intro (by rfl) ?hy13) (by assumption) ?rest13;case hy13=>intro W hSw;exact⟨188,#[.int .u8 (a:Int),.int .u8 (b:Int)],by go_simp,gmul_any W a b Ha.out Hb.out⟩
 try simp only[Act.put,List.setIfInBounds_toArray,List.set_cons_zero,List.set_cons_succ]
 try simp only[List.getElem_toArray,List.getElem_cons_zero,List.getElem_cons_succ]
 refine zE1 5 fun K hK=>?_;have q0:=U8B.cell HRc.out (i:=i) (x:=c0) HRi.out;have q1:wr.cell? ⟨g,i,none⟩=some (.int .u8 (c0:Int)):=q0;clear q0;go_simp;clear q1;refine hko hK (by first|exact HCS.out _ HBn.out|exact HCS.out _ HBc.out) (fun _=>?_);clear hK K;refine take_call (i:=14) (oi:=_) (v:=(.int .u8 ((c0^^^gmul a b:Nat):Int))) rfl (by kernel_rfl) (by kernel_rfl) (by kernel_rfl) (fun _ _ _ h=>h) (And.intro (by rfl) ?hy14) (by assumption) ?rest14;case hy14=>intro W hSw;exact⟨189,#[.int .u8 (c0:Int),.int .u8 (gmul a b:Int)],by go_simp,gadd_any W c0 (gmul a b) Hc0.out (gmul_lt _ Ha.out)⟩
 try simp only[Act.put,List.setIfInBounds_toArray,List.set_cons_zero,List.set_cons_succ]
 try simp only[List.getElem_toArray,List.getElem_cons_zero,List.getElem_cons_succ]
 refine tk 15 ?_;refine zE1 16 fun K hK=>?_;have qc0:=U8B.cell HRc.out (i:=i) (x:=c0) HRi.out;have qc:wr.cell? ⟨g,i,none⟩=some (.int .u8 (c0:Int)):=qc0;have qz0:=Blk.frozen HRc.out i;have qz:wr.frozen? ⟨g,i,none⟩=false:=qz0;clear qc0 qz0;go_simp;have HRn:=zY (U8B.set HRc.out i (c0^^^gmul a b));have HBn:=zY (HBc.setCell (show w.heap.size<=(⟨g,i,none⟩:Addr).block from HGe.out) (.int .u8 ((c0^^^gmul a b:Nat):Int)));rw[HSt.out]at HRn;clear qc qz;refine hko hK (by first|exact HCS.out _ HBn.out|exact HCS.out _ HBc.out) (fun _=>?_);clear hK K;refine wpAnyH_done (by kernel_rfl) ?_ _;go_wp2_with fail;go_roundw;case rel=>exact⟨i+1,by omega,by go_num,HRn.out,HBn.out⟩
 case measure=>simp[intOf];omega};{
 obtain rfl:i=n:=by omega
 have hiI:¬((i:Nat):Int)<(i:Int):=by omega
 have HRn:Hid (U8B wr g (rowE xs (bl.map bs) i x (k+1) 0)):=zY (by rw[<-rowE_next];exact HRr.out);go_wp2;go_roundw;case rel=>exact⟨k+1,by omega,by go_num,HRn.out,HBr.out⟩
 case measure=>simp[intOf];omega}};{
 obtain rfl:k=xs.length:=by omega
 have hkI:¬((xs.length:Nat):Int)<(bl.length:Int):=by have:=Hl.out;omega
 have HRe:Hid (U8B wo g R):=zY (by rw[<-HR.out,<-rowE_all];exact HRo.out);have hRl:n=R.length:=by rw[<-HR.out,atE_len]
 have hcv:(convert 117 9 (.slice (some ⟨g,0,none⟩) n n)).run prog wo=.ok (.string (strB R)) wo:=run_toStr (p:=R) (HRe.bytes hRl (Nat.le_refl _) (by omega)) hRl;clear hRl;go_wp2;go_ret;exact⟨rfl,HB.out⟩}
def sparL (data:List ByteArray) (n s:Nat):List ByteArray:=(List.range s).map fun i=>strB (atE (List.range data.length) (data.map bs) n (data.length+i))
theorem sparL_succ (data:List ByteArray) (n s:Nat):sparL data n (s+1)=sparL data n s++[strB (atE (List.range data.length) (data.map bs) n (data.length+s))]:=by
 unfold sparL;rw[List.range_succ,List.map_append];rfl
theorem cf_range {n i:Nat} (h:i<n):cf (List.range n) i=i:=by
 rw[cf,List.getElem?_range h];rfl
theorem cf_range_lt {n:Nat} (h:n<=256) (i:Nat):cf (List.range n) i<256:=by
 by_cases hi:i<n;{rw[cf_range hi];omega};{
 rw[cf,List.getElem?_eq_none (by simp;omega)];decide}
theorem eraenc1_any (w:World) (s:ByteArray) (data:List ByteArray) (v:Value) (hv:SeqAt strS w v data) (hs:s∈data) (n:Nat) (hn:∀b∈data,b.size=n) (g:Nat) (hg:w.cell? ⟨g,0,none⟩=some v):Calls prog 236 #[.string s,.pointer (some ⟨g,0,none⟩)] w fun e w'=>e=.returned (.bool false)/\Below w.heap.size w w':=by
 have hsz:=hn s hs;have h0:0<data.length:=List.length_pos_of_mem hs;obtain⟨A,c,rfl,h1,h2,h3⟩:=hv;obtain⟨b,o,cs,rfl,rfl,hc⟩:=h3 0 data[0] (List.getElem?_eq_getElem h0);have q0:w.cell? ⟨b,o+0*1+0,none⟩=some (.string data[0]):=hc 0 _ rfl;simp only[Nat.zero_mul,Nat.add_zero]at q0;obtain⟨B0,hB0⟩:=zNm (data[0]);have hBz:B0.size=n:=by rw[<-hB0];exact hn _ (List.getElem_mem h0)
 rw[hB0]at q0;have h0I:(0:Int)<data.length:=by omega
 have e:((s.size:Int) != (B0.size:Int))=false:=by rw[hsz,hBz];simp
 clear hn hs hc h3 hB0 hsz hBz h0;go_enter func236,ntmps236;go_wp2;go_ret;exact⟨rfl,Below.refl _ _⟩
theorem eraencode_ok (w:World) (v:Value) (data:List ByteArray) (hv:SeqAt strS w v data) (n s:Nat) (hn:∀b∈data,b.size=n) (hn2:n<=1000) (hd:1<=data.length) (hs:data.length+s<=15):
  Calls prog 159 #[v,.int .i64 (s:Int)] w fun e w'=>(∃v',e=.returned (.tuple #[v',.int .i64 0])/\SeqAt strS w' v' (sparL data n s))/\Below w.heap.size w w':=by
 obtain⟨A,c,rfl,h1,h2⟩:=hv.slice;have hK:=Blk.new w 51 [.slice A data.length c];change Blk (w.alloc (.cells #[.slice A data.length c] 51)) _ _ _ at hK;have HB0:=zY (zBl w (.cells #[.slice A data.length c] 51));have HK:=zY hK;have Hv:=zY (hv.below HB0.out);have Hn:=zY hn;have Hn2:=zY hn2;have Hd1:=zY hd;have Hd15:Hid (data.length<=15):=zY (by omega);have Hds:=zY hs;have i1:((data.length:Int)==0)=false:=by rw[beq_eq_false_iff_ne];omega
 have i2:¬(s:Int)<0:=by omega
 have i3:¬(15:Int)<data.length:=by omega
 obtain⟨r,hr⟩:=zNm (15-data.length);have i4:(15:Int)-data.length=r:=by omega
 have i5:¬(r:Int)<s:=by omega
 have hdn:data.length<=100:=by omega
 have HF:Hid (data.any (fun _=>false)=false):=zY (by rw[List.any_eq_false];intro x _;decide);clear hv hK hn hr;go_enter func159,ntmps159;go_upto_region 1 with fail;generalize w.alloc (.cells #[.slice A data.length c] 51)=wb at *;have c0:=HK.c 0;have HC:=zY (contStr_any wb (.slice A data.length c) data Hv.out 236 #[.pointer (some ⟨w.heap.size,0,none⟩)] (enters_of func236 (by kernel_rfl) rfl) (fun _=>false) (fun W x hW hx=>eraenc1_any W x data _ (Hv.below hW) hx n Hn.out w.heap.size ((HK.kept hW).c 0)));rw[HF.out]at HC;go_wp2_with fail;refine HC.mono ?_;rintro e1 w1 ⟨rfl,hb1⟩;have HB1:=zY hb1;have HK1:=zY (HK.kept hb1);clear hb1 c0 HC;have c0:=HK1.c 0;go_wp2_with fail;refine(eraidx_any w1 data.length hdn).mono ?_;rintro e2 w2 ⟨⟨vx,rfl,hx⟩,hb2⟩;have HB2:=zYt HB1 hb2;have HK2:=zY (HK1.kept hb2);have Hv2:=zY (Hv.below HB2.out);have HVx:=zY hx;obtain⟨Ax,cx,rfl,_,_⟩:=hx.sliceV;clear hb2 c0 hx;have HIn0:Hid (∀(i:Nat),i<s->∀W,Below w2.heap.size w2 W->Calls prog 114 #[.slice Ax (List.range data.length).length cx,.int .u8 ((data.length+i:Nat):Int)] W fun e w'=>IntF w' (List.range data.length) (data.length+i) e/\Below W.heap.size W w'):=zY (fun i hi W hW=>eraint_any W _ _ (HVx.belowV hW) _ (by have:=Hds.out;omega) (by simp;exact Hd15.out) (cf_range_lt (by have:=Hd15.out;omega)) (fun a b ha hb hne=>by
  simp only[List.length_range]at ha hb
  rw[cf_range ha,cf_range hb]
  exact hne));have hrl:(List.range data.length).length=data.length:=List.length_range;rw[hrl]at HIn0⊢;clear hrl;go_wp2;go_loopw [7,35] (fun y x wr=>∃i:Nat,i<=s/\x=.int .i64 (i:Int)/\OwnSeq strS 9 w2 wr y (sparL data n i)/\Below w2.heap.size w2 wr) (fun _ x _=>s-(intOf x).toNat);case atStart=>exact⟨0,by omega,rfl,OwnSeq.nil _,Below.refl _ _⟩
 case round=>
 obtain⟨i,hi,rfl,ho,hB⟩:=hrel;have HO:=zY ho;have HBr:=zY hB;clear ho hB;by_cases h:i<s;{
 have hiI:(i:Int)<s:=by omega
 have HIn:=zY (HIn0.out i h);have hwr:IntKind.i64.wrap ((data.length:Int)+i)=((data.length+i:Nat):Int):=by rw[zIw (by omega)];omega
 have hw1:(data.length:Int)+i=((data.length+i:Nat):Int):=by omega
 have hwu:IntKind.u8.wrap ((data.length+i:Nat):Int)=((data.length+i:Nat):Int):=by rw[IntKind.wrap_u8];omega
 have hw2:((data.length+i:Nat):Int)%256=((data.length+i:Nat):Int):=by omega
 have hwi:IntKind.i64.wrap ((data.length+i:Nat):Int)=((data.length+i:Nat):Int):=zIw (by omega);have Hl1:Hid ((sparL data n i).length+1<=100000000):=zY (by simp[sparL];omega);obtain⟨Ao,co,e9⟩:=HO.slice;subst e9;obtain⟨di,hdi⟩:=zNm (data.length+i);rw[hdi]at hwr hw1 hwu hw2 hwi HIn;have HO:=zY HO.drew;have HBc:=zY HBr.drew;go_upto_region 10 with fail;refine wp_region_held_drew (S:=(fun W=>W.cell? ⟨w.heap.size,0,none⟩=some (.slice A data.length c))) (by kernel_rfl) ?_ (fun hHeld=>?_);{exact(HK2.kept HBc.out).c 0};refine tk 0 ?_;refine tk 1 ?_;refine tk 2 ?_;refine tk 3 ?_;refine tk 4 ?_;refine tk 5 ?_;refine tk 6 ?_;refine tk 8 ?_;refine zE1 7 fun K hK=>?_;go_simp;refine(HIn.out _ HBc.out).mono ?_;rintro e5 w5 ⟨⟨g,vw,rfl,hg,hvw⟩,hb5⟩;(try go_wp2_with fail);have HG:=zY hg;have HVw:=zY hvw;have HO:=zY (HO.below hb5);have HBc:=zYt HBc hb5;clear hb5 hg hvw;refine hko hK (by exact(HK2.kept HBc.out).c 0) (fun _=>?_);clear hK K;refine zE1 9 fun K hK=>?_;go_simp;refine(eraint1_any _ _ data (Hv2.below HBc.out) (List.range data.length) di n g vw HG.out HVw.out Hn.out (by simp) (by simp;exact Hd1.out) (by simp;exact Hd15.out) Hn2.out).mono ?_;rintro e6 w6 ⟨rfl,hb6⟩;(try go_wp2_with fail);have HO:=zY (HO.below hb6);have HBc:=zYt HBc hb6;clear hb6;refine hko hK (by exact(HK2.kept HBc.out).c 0) (fun _=>?_);clear hK K;refine zE1 10 fun K hK=>?_;obtain⟨X,hX⟩:=zNm (strB (atE (List.range data.length) (data.map bs) n di));rw[hX];go_simp;have HX:=zY (src1B (ρ:=strS) (w0:=w2) (t:=9) HBc.out [.string X] X rfl);have HO:=zY (HO.alloc (.cells #[.string X] 9))
 have HBc:=zY (HBc.alloc HBc.size (.cells #[.string X] 9));have HXe:=zY hX;clear hX;refine hko hK (by exact(HK2.kept HBc.out).c 0) (fun _=>?_);clear hK K;refine zE1 11 fun K hK=>?_;refine wp_append_seq (ρ:=strS) (w0:=w2) Tryz.elemStr (.tmp 38) (.tmp 48) rfl rfl HO.out rfl HX.out Hl1.out HBc.out ?_;intro v7 w7 hob hgb hbb;have HO:=zY hob;have HBc:=zY hbb;clear hob hgb hbb;refine hko hK (by exact(HK2.kept HBc.out).c 0) (fun _=>?_);clear hK K;refine tk 12 ?_;refine wpAnyH_done (by kernel_rfl) ?_ _;go_wp2_with fail;go_roundw;case rel=>exact⟨i+1,by omega,by go_num,by rw[sparL_succ,hdi,HXe.out];exact HO.out,HBc.out⟩
 case measure=>simp[intOf];omega};{
 obtain rfl:i=s:=by omega
 have hiI:¬((i:Nat):Int)<(i:Int):=by omega
 have HBz:=zY (HB2.trans (HBr.mono HB2.size));have HSq:=zY (HO.at HBr.out);go_wp2;go_ret2;exact⟨⟨_,rfl,HSq.out⟩,HB0.trans (HBz.mono HB0.size)⟩}
end
end Go.Proofs.YthgenkkkapilhaaGreatDoor