/-
  Joined: VqW VqX VqY VrB VrC.
-/
import Derived.Test.YthgenkkkapilhaaGreatDoorVPn23
import Derived.Test.YthgenkkkapilhaaGreatDoorVPn32
set_option linter.all false
set_option maxRecDepth 100000
set_option maxHeartbeats 64000000
namespace Go.Proofs.YthgenkkkapilhaaGreatDoor
open Go.Proofs.Tryz
section
open Go.RowKit
theorem BytesAt.belowV {w w':World} {v:Value} {xs:List Nat} (h:BytesAt w v xs) (hb:Below w.heap.size w w'):BytesAt w' v xs:=by
 obtain⟨A,c,e,h1,h2,h3⟩:=h;refine⟨A,c,e,h1,h2,fun i x hi=>?_⟩;obtain⟨b,o,u,e1,hc,hu⟩:=h3 i x hi;exact⟨b,o,u,e1,cell_below hb hc,hu⟩
theorem BytesAt.sliceV {w:World} {v:Value} {xs:List Nat} (h:BytesAt w v xs):∃A c,v=.slice A xs.length c/\xs.length<=c/\c<=9223372036854775807:=by
 obtain⟨A,c,e,h1,h2,_⟩:=h;exact⟨A,c,e,h1,h2⟩
def idxZ (n i:Nat):List Nat:=(List.range n).map fun j=>if j<i then j else 0
theorem eraidx_any (w:World) (n:Nat) (hn:n<=100):Calls prog 237 #[.int .i64 (n:Int)] w fun e w'=>(∃v,e=.returned v/\BytesAt w' v (List.range n))/\Below w.heap.size w w':=by
 have hmk:∀W:World,(Instr.makeSlice 117 (.int .i64 (n:Int)) (.int .i64 (n:Int))).run prog W=.ok (.slice (some ⟨W.heap.size,0,none⟩) n n) (W.alloc (.cells (arrB (idxZ n 0)) 5)):=fun W=>by
  have e:idxZ n 0=List.replicate n 0:=by
   apply List.ext_getElem (by simp[idxZ])
   intro j h1 h2
   simp[idxZ]
  rw[e]
  exact make_u8 n n (Nat.le_refl _) (by omega) W
 have HK0:=zY (U8B.new w (idxZ n 0));have HB0:=zY (zBl w (.cells (arrB (idxZ n 0)) 5));go_enter func237,ntmps237;go_wp2_with fail;try rw[hmk]
 clear hmk;go_wp2;go_loopw [9] (fun x wr=>∃i:Nat,i<=n/\x=.int .i64 (i:Int)/\U8B wr w.heap.size (idxZ n i)/\Below w.heap.size w wr) (fun x _=>n-(intOf x).toNat);case atStart=>exact⟨0,by omega,rfl,HK0.out,HB0.out⟩
 case round=>
 obtain⟨i,hi,rfl,hk,hB⟩:=hrel;have HK:=zY hk;have HB:=zY hB;clear hk hB;by_cases h:i<n;{
 have hiI:(i:Int)<n:=by omega
 have hq:=HK.cell (i:=i) (x:=0) (by simp[idxZ,h]);have hf:=Blk.frozen HK.out i;have hw:IntKind.u8.wrap (i:Int)=i:=by rw[IntKind.wrap_u8];omega
 have hw2:(i:Int)%256=i:=by omega
 have HKn:=zY (HK.set i i);have HSt:Hid ((idxZ n i).set i i=idxZ n (i+1)):=zY (by
  apply List.ext_getElem (by simp[idxZ])
  intro j h1 h2
  rw[List.getElem_set]
  by_cases hj:i=j
  {
  subst hj
  simp[idxZ]}
  ·rw[if_neg hj]
   simp only[idxZ,List.getElem_map,List.getElem_range]
   by_cases h3:j<i
   ·rw[if_pos h3,if_pos (by omega)]
   ·rw[if_neg h3,if_neg (by omega)]);have HBn:=zY (HB.setCell (show w.heap.size<=(⟨w.heap.size,i,none⟩:Addr).block from Nat.le_refl _) (.int .u8 (i:Int)));rw[HSt.out]at HKn;go_wp2;go_roundw;case rel=>exact⟨i+1,by omega,by go_num,HKn.out,HBn.out⟩
 case measure=>simp[intOf];omega};{
 obtain rfl:i=n:=by omega
 have hiI:¬((i:Nat):Int)<(i:Int):=by omega
 go_wp2;go_ret;have e:idxZ i i=List.range i:=by{
 apply List.ext_getElem (by simp[idxZ]);intro j h1 h2;have:j<i:=by simpa using h2
 simp[idxZ,this]};refine⟨⟨_,rfl,?_⟩,HB.out⟩;rw[<-e];exact HK.bytes (by simp[idxZ]) (Nat.le_refl _) (by omega)}
def wgtL (xs:List Nat) (x:Nat):List Nat:=(List.range xs.length).map (wgt xs x)
def wgtZ (xs:List Nat) (x k:Nat):List Nat:=(List.range xs.length).map fun j=>if j<k then wgt xs x j else 0
theorem wgtZ_step {xs:List Nat} {x k:Nat}:(wgtZ xs x k).set k (wgt xs x k)=wgtZ xs x (k+1):=by
 apply List.ext_getElem (by simp[wgtZ]);intro j h1 h2;rw[List.getElem_set];by_cases hj:k=j;{
 subst hj;simp[wgtZ]};{
 rw[if_neg hj];simp only[wgtZ,List.getElem_map,List.getElem_range];by_cases h3:j<k;{rw[if_pos h3,if_pos (by omega)]};{rw[if_neg h3,if_neg (by omega)]}}
def IntF (w':World) (xs:List Nat) (x:Nat) (e:Ending):Prop:=∃(g:Nat) (vw:Value),e=.returned (.func (.func 191) #[] #[.pointer (some ⟨g,0,none⟩)])/\w'.cell? ⟨g,0,none⟩=some vw/\BytesAt w' vw (wgtL xs x)
theorem eraint_any (w:World) (v:Value) (xs:List Nat) (hv:BytesAt w v xs) (x:Nat) (hx:x<256) (hl:xs.length<=15) (hb:∀i,cf xs i<256) (hd:∀i j,i<xs.length->j<xs.length->i≠j->cf xs i≠cf xs j):
  Calls prog 114 #[v,.int .u8 (x:Int)] w fun e w'=>IntF w' xs x e/\Below w.heap.size w w':=by
 have Hv:=zY hv;obtain⟨A,c,rfl,h1,h2⟩:=hv.sliceV;have HEq:=zY (fun k (hk:k<xs.length) i (hi:i<=xs.length)=>wgt_eq (xs:=xs) (k:=k) hx hb (fun i hi hne=>hd k i hk hi (Ne.symm hne)) i hi);have Hb:=zY hb;have Hx:=zY hx;clear hv hb hd;have hmk:∀W:World,(Instr.makeSlice 117 (.int .i64 (xs.length:Int)) (.int .i64 (xs.length:Int))).run prog W=.ok (.slice (some ⟨W.heap.size,0,none⟩) xs.length xs.length) (W.alloc (.cells (arrB (wgtZ xs x 0)) 5)):=fun W=>by
  have e:wgtZ xs x 0=List.replicate xs.length 0:=by
   apply List.ext_getElem (by simp[wgtZ])
   intro j h1 h2
   simp[wgtZ]
  rw[e]
  exact make_u8 _ _ (Nat.le_refl _) (by omega) W
 have HW0:=zY (U8B.new w (wgtZ xs x 0));have HBa:=zY (zBl w (.cells (arrB (wgtZ xs x 0)) 5));go_enter func114,ntmps114;go_wp2_with fail;try rw[hmk]
 clear hmk;have HSz:Hid ((w.alloc (.cells (arrB (wgtZ xs x 0)) 5)).heap.size=w.heap.size+1):=zY (by show (w.heap.push _).size=_;rw[Array.size_push]);generalize w.alloc (.cells (arrB (wgtZ xs x 0)) 5)=wa at *;have HP0:=zY (Blk.new wa 117 [.slice (some ⟨w.heap.size,0,none⟩) xs.length xs.length]);have HW1:=zY (Blk.alloc HW0.out (.cells #[.slice (some ⟨w.heap.size,0,none⟩) xs.length xs.length] 117));have HBb:=zY (HBa.alloc HBa.size (.cells #[.slice (some ⟨w.heap.size,0,none⟩) xs.length xs.length] 117));have HNe:Hid (w.heap.size+1≠w.heap.size):=zY (by omega);have HGw:Hid (w.heap.size<=w.heap.size):=zY (Nat.le_refl _);obtain⟨gw,hgw⟩:∃g,g=w.heap.size:=⟨_,rfl⟩;go_upto_region 2 with fail;change Blk (wa.alloc (.cells #[.slice (some ⟨w.heap.size,0,none⟩) xs.length xs.length] 117)) _ _ _ at HP0;have HP0:=zY HP0;rw[HSz.out]at HP0;generalize wa.alloc (.cells #[.slice (some ⟨w.heap.size,0,none⟩) xs.length xs.length] 117)=wb at *;rw[<-hgw]at HP0 HW1 HNe HGw⊢;clear HSz HBa HW0;have HGw:Hid (w.heap.size<=gw):=zY (by omega);have Hgw:=zY hgw;clear hgw;go_wp2;go_loopw [15] (fun y wr=>∃k:Nat,k<=xs.length/\y=.int .i64 (k:Int)/\U8B wr gw (wgtZ xs x k)/\Blk wr (gw+1) 117 [.slice (some ⟨gw,0,none⟩) xs.length xs.length]/\Below w.heap.size w wr) (fun y _=>xs.length-(intOf y).toNat);case atStart=>exact⟨0,by omega,rfl,HW1.out,HP0.out,HBb.out⟩
 case round=>
 obtain⟨k,hk,rfl,hw,hp,hB⟩:=hrel;have HW:=zY hw;have HP:=zY hp;have HB:=zY hB;clear hw hp hB;obtain⟨wo,rfl⟩:∃x,x=wr:=⟨_,rfl⟩;by_cases h:k<xs.length;{
 have hkI:(k:Int)<xs.length:=by omega
 have hkb:=Hb.out k;obtain⟨_,_,e9,_,_,h3⟩:=Hv.belowV HB.out;cases e9;have H3:=zY h3;clear h3;go_wp2;go_loopw [7,8,20] (fun y z t wr=>∃m:Nat,m<=xs.length/\t=.int .i64 (m:Int)/\y=.int .u8 ((aboR xs k x m:Nat):Int)/\z=.int .u8 ((belR xs k m:Nat):Int)/\Below wo.heap.size wo wr) (fun _ _ t _=>xs.length-(intOf t).toNat);case atStart=>exact⟨0,by omega,rfl,rfl,rfl,Below.refl _ _⟩
 case round=>
 obtain⟨m,hm,rfl,rfl,rfl,hbr⟩:=hrel;have HBr:=zY hbr;clear hbr;by_cases h':m<xs.length;{
 have hmI:(m:Int)<xs.length:=by omega
 obtain⟨b,o,u,rfl,hcm,rfl⟩:=H3.out m xs[m] (List.getElem?_eq_getElem h');obtain⟨b2,o2,u2,e2,hck,rfl⟩:=H3.out k xs[k] (List.getElem?_eq_getElem h);cases e2;have em:xs[m]=cf xs m:=(cf_get (List.getElem?_eq_getElem h')).symm;have ek:xs[k]=cf xs k:=(cf_get (List.getElem?_eq_getElem h)).symm;rw[em]at hcm;rw[ek]at hck;have hmb:=Hb.out m;have ha:=aboR_lt (xs:=xs) (k:=k) (x:=x) m;have hbe:=belR_lt (xs:=xs) (k:=k) m;have Hsa:Hid (aboR xs k x (m+1)=if m=k then aboR xs k x m else gmul (aboR xs k x m) (x^^^cf xs m)):=zY (by rw[aboR]);have Hsb:Hid (belR xs k (m+1)=if m=k then belR xs k m else gmul (belR xs k m) (cf xs k^^^cf xs m)):=zY (by rw[belR]);have hcm':wr.cell? ⟨b,o+m,none⟩=some (.int .u8 ((cf xs m:Nat):Int)):=cell_below HBr.out hcm;have hck':wr.cell? ⟨b,o+k,none⟩=some (.int .u8 ((cf xs k:Nat):Int)):=cell_below HBr.out hck;generalize aboR xs k x m=p at *;generalize belR xs k m=q at *;generalize hM:cf xs m=M at *;generalize hK:cf xs k=K at *;clear hcm hck em ek hM hK;by_cases hmk:m=k;{
 have i1:((m:Int) != k)=false:=by rw[hmk];simp
 rw[if_pos hmk]at Hsa Hsb;clear hmk;go_wp2;go_roundw;case rel=>exact⟨m+1,by omega,by go_num,by rw[Hsa.out],by rw[Hsb.out],HBr.out⟩
 case measure=>simp[intOf];omega};{
 have i1:((m:Int) != k)=true:=by rw[bne_iff_ne];omega
 rw[if_neg hmk]at Hsa Hsb;clear hmk;have hxM:x^^^M<256:=xor_lt Hx.out hmb;have hKM:K^^^M<256:=xor_lt hkb hmb;have HA1:=zY (fun W=>gadd_any W x M Hx.out hmb);have HM1:=zY (fun W=>gmul_any W p (x^^^M) ha hxM);have HA2:Hid (∀W,Calls prog 189 #[.int .u8 (K:Int),.int .u8 (M:Int)] W fun e w'=>e=.returned (.int .u8 ((K^^^M:Nat):Int))/\w'=W):=zY (fun W=>(gadd_any W K M hkb hmb).mono fun _ _ ⟨h1,h2⟩=>⟨h1,h2.symm⟩);have HM2:Hid (∀W,Calls prog 188 #[.int .u8 (q:Int),.int .u8 ((K^^^M:Nat):Int)] W fun e w'=>e=.returned (.int .u8 ((gmul q (K^^^M):Nat):Int))/\w'=W):=zY (fun W=>(gmul_any W q (K^^^M) hbe hKM).mono fun _ _ ⟨h1,h2⟩=>⟨h1,h2.symm⟩);generalize x^^^M=xM at *;generalize K^^^M=KM at *;generalize gmul p xM=r1 at *;generalize gmul q KM=r2 at *;go_wp2_with fail;refine(HA1.out _).mono ?_;rintro e3 w3 ⟨rfl,rfl⟩;go_wp2_with fail;refine(HM1.out _).mono ?_;rintro e4 w4 ⟨rfl,rfl⟩;go_upto_region 11 with fail;go_quiet (first|(go_at_call 189;refine Calls.quiet_of_same (HA2.out _))|(go_at_call 188;refine Calls.quiet_of_same (HM2.out _)));go_wp2;go_roundw;case rel=>exact⟨m+1,by omega,by go_num,by rw[Hsa.out],by rw[Hsb.out],blwN HBr.out _⟩
 case measure=>simp[intOf];omega}};{
 obtain rfl:m=xs.length:=by omega
 have hmI:¬((xs.length:Nat):Int)<(xs.length:Int):=by omega
 obtain⟨hwe,hbn⟩:=HEq.out k h xs.length (Nat.le_refl _);have ha:=aboR_lt (xs:=xs) (k:=k) (x:=x) xs.length;have hbe:=belR_lt (xs:=xs) (k:=k) xs.length;have HDv:Hid (∀W:World,Calls prog 190 #[.int .u8 ((aboR xs k x xs.length:Nat):Int),.int .u8 ((belR xs k xs.length:Nat):Int)] W fun e w'=>e=.returned (.tuple #[.int .u8 ((wgt xs x k:Nat):Int),.bool true])/\Below W.heap.size W w'):=zY (fun W=>by
  have:=gdiv_any W _ _ ha hbe
  rw[gdivR,if_neg hbn]at this
  rw[wgt,hwe]
  exact this);have HRk:Hid ((wgtZ xs x k)[k]?=some 0):=zY (by simp[wgtZ,h]);have HSt:Hid ((wgtZ xs x k).set k (wgt xs x k)=wgtZ xs x (k+1)):=zY wgtZ_step;clear hwe hbn ha hbe;have HPr:=zY (HP.kept HBr.out);have HWr:=zY (show U8B wr gw (wgtZ xs x k) from Blk.kept HW.out HBr.out);have HBx:=zY (HB.trans (HBr.mono HB.size));generalize aboR xs k x xs.length=p at *;generalize belR xs k xs.length=q at *;go_upto_region 13 with fail;have HPc:=zY (HPr.kept (Below.refl _ _).drew);have HWc:=zY (show U8B wr.drew gw (wgtZ xs x k) from Blk.kept HWr.out (Below.refl _ _).drew);have HBc:=zY HBx.drew;refine wp_region_held_drew (S:=(fun W=>W.cell? ⟨gw+1,0,none⟩=some (.slice (some ⟨gw,0,none⟩) xs.length xs.length))) (by kernel_rfl) ?_ (fun hHeld=>?_);{exact HPc.c 0};refine tk 0 ?_;refine tk 1 ?_;refine tk 2 ?_;refine tk 3 ?_;refine zE1 4 fun K hK=>?_;go_simp;refine(HDv.out _).mono ?_;rintro e5 w5 ⟨rfl,hb5⟩;(try go_wp2_with fail);have HPc:=zY (HPc.kept hb5);have HWc:=zY (HWc.kept hb5);have HBc:=zYt HBc hb5;clear hb5;refine hko hK (by exact HPc.c 0) (fun _=>?_);clear hK K;refine tk 5 ?_;refine tk 6 ?_;refine tk 7 ?_;refine tk 8 ?_;refine zE1 9 fun K hK=>?_;have qc:=U8B.cell HWc.out (i:=k) (x:=0) HRk.out;have qz:=Blk.frozen HWc.out k;go_simp;have HWn:=zY (U8B.set HWc.out k (wgt xs x k));have HPn:=zY (HPc.far (p:=⟨gw,k,none⟩) (by simp) (.int .u8 ((wgt xs x k:Nat):Int)));have HBn:=zY (HBc.setCell (show w.heap.size<=(⟨gw,k,none⟩:Addr).block from HGw.out) (.int .u8 ((wgt xs x k:Nat):Int)));rw[HSt.out]at HWn;have HPc:=HPn;clear qc qz;refine hko hK (by exact HPc.c 0) (fun _=>?_);clear hK K
 refine wpAnyH_done (by kernel_rfl) ?_ _;go_wp2_with fail;go_roundw;case rel=>exact⟨k+1,by omega,by go_num,HWn.out,HPn.out,HBn.out⟩
 case measure=>simp[intOf];omega}};{
 obtain rfl:k=xs.length:=by omega
 have hkI:¬((xs.length:Nat):Int)<(xs.length:Int):=by omega
 go_wp2;go_ret;have e:wgtZ xs x xs.length=wgtL xs x:=by{
 apply List.ext_getElem (by simp[wgtZ,wgtL]);intro j h1 h2;have:j<xs.length:=by simpa [wgtL]using h2
 simp[wgtZ,wgtL,this]};refine⟨⟨_,_,rfl,HP.c 0,?_⟩,HB.out⟩;rw[<-e];exact HW.bytes (by simp[wgtZ]) (Nat.le_refl _) (by omega)}
theorem eraint1_any (w:World) (v:Value) (bl:List ByteArray) (hv:SeqAt strS w v bl) (xs:List Nat) (x n gp:Nat) (vw:Value) (hg:w.cell? ⟨gp,0,none⟩=some vw) (hw:BytesAt w vw (wgtL xs x)) (hn:∀b∈bl,b.size=n) (hl:bl.length=xs.length) (h0:1<=xs.length) (h15:xs.length<=15) (hn2:n<=1000):
  Calls prog 191 #[v,.pointer (some ⟨gp,0,none⟩)] w fun e w'=>e=.returned (.string (strB (atE xs (bl.map bs) n x)))/\Below w.heap.size w w':=by
 obtain⟨R,hR⟩:=zNm (atE xs (bl.map bs) n x);rw[hR];have HR:=zY hR;have Hv:=zY hv;have Hw:=zY hw;have Hn:=zY hn;have Hl:=zY hl;obtain⟨A,c,rfl,h1,h2⟩:=hv.slice;have hwl:(wgtL xs x).length=xs.length:=by simp[wgtL]
 obtain⟨Aw,cw,hvw,h3,h4⟩:=hw.sliceV;rw[hwl]at hvw h3;subst hvw;have HCk:Hid (∀W,Below w.heap.size w W->W.cell? ⟨gp,0,none⟩=some (.slice Aw xs.length cw)):=zY (fun W hW=>cell_below hW hg);have hb0:0<bl.length:=by omega
 have hb0I:(0:Int)<bl.length:=by omega
 obtain⟨_,_,e9,_,_,h5⟩:=hv;cases e9;obtain⟨b0,o0,cs,rfl,rfl,hc⟩:=h5 0 bl[0] (List.getElem?_eq_getElem hb0);have q0:w.cell? ⟨b0,o0+0*1+0,none⟩=some (.string bl[0]):=hc 0 _ rfl;simp only[Nat.zero_mul,Nat.add_zero]at q0;obtain⟨B0,hB0⟩:=zNm (bl[0]);have hBz:B0.size=n:=by rw[<-hB0];exact hn _ (List.getElem_mem hb0)
 rw[hB0]at q0;have Hwl:=zY hwl;clear hR hw hn hg hc h5 hB0 hl hwl;have hmk:∀W:World,(Instr.makeSlice 117 (.int .i64 (n:Int)) (.int .i64 (n:Int))).run prog W=.ok (.slice (some ⟨W.heap.size,0,none⟩) n n) (W.alloc (.cells (arrB (rowE xs (bl.map bs) n x 0 0)) 5)):=fun W=>by
  rw[rowE_zero]
  exact make_u8 n n (Nat.le_refl _) (by omega) W
 have HW0:=zY (U8B.new w (rowE xs (bl.map bs) n x 0 0));have HBa:=zY (zBl w (.cells (arrB (rowE xs (bl.map bs) n x 0 0)) 5));have HGe:Hid (w.heap.size<=w.heap.size):=zY (Nat.le_refl _);obtain⟨g,hgg⟩:∃g,g=w.heap.size:=⟨_,rfl⟩;go_enter func191,ntmps191;go_wp2_with fail;try rw[hBz,hmk]
 clear hmk;go_upto_region 2 with fail;generalize w.alloc (.cells (arrB (rowE xs (bl.map bs) n x 0 0)) 5)=wa at *;have HW1:Hid (U8B wa g (rowE xs (bl.map bs) n x 0 0)):=zY (by rw[hgg];exact HW0.out);have HGe:Hid (w.heap.size<=g):=zY (by omega);try rw[<-hgg]
 have Hgg:=zY hgg;clear hgg HW0 q0 hBz;clear h0;go_wp2;go_loopw [15] (fun y wr=>∃k:Nat,k<=xs.length/\y=.int .i64 (k:Int)/\U8B wr g (rowE xs (bl.map bs) n x k 0)/\Below w.heap.size w wr) (fun y _=>xs.length-(intOf y).toNat);case atStart=>exact⟨0,by omega,rfl,HW1.out,HBa.out⟩
 case round=>
 obtain⟨k,hk,rfl,hr,hB⟩:=hrel;have HRo:=zY hr;have HB:=zY hB;clear hr hB;obtain⟨wo,rfl⟩:∃x,x=wr:=⟨_,rfl⟩;by_cases h:k<xs.length;{
 have hkI:(k:Int)<xs.length:=by omega
 have hkl:k<bl.length:=by have:=Hl.out;omega
 have hkJ:(k:Int)<bl.length:=by omega
 obtain⟨B,hBk⟩:∃B,bl[k]?=some B:=⟨_,List.getElem?_eq_getElem hkl⟩;have hBz:B.size=n:=Hn.out B (List.mem_of_getElem? hBk);obtain⟨_,_,e9,_,_,h5⟩:=Hv.below HB.out;have e10:=(Value.slice.inj e9).1;clear e9;obtain⟨b1,o1,cs,e11,rfl,hc⟩:=h5 k B hBk;rw[e11]at e10;cases e10;have q0:wo.cell? ⟨b0,o0+k*1,none⟩=some (.string B):=hc 0 _ rfl;rw[Nat.mul_one]at q0;obtain⟨_,_,e9,_,_,h6⟩:=Hw.out;have e10:=(Value.slice.inj e9).1;clear e9;obtain⟨a,ha⟩:=zNm (wgt xs x k);obtain⟨bw,ow,u,e11,hcw,rfl⟩:=h6 k a (by simp[wgtL,h,ha]);rw[e11]at e10;cases e10;have HCS:Hid (∀W,Below w.heap.size w W->W.cell? ⟨gp,0,none⟩=some (.slice (some ⟨bw,ow,none⟩) xs.length cw)/\W.cell? ⟨bw,ow+k,none⟩=some (.int .u8 (a:Int))):=zY (fun W hW=>⟨HCk.out W hW,cell_below hW hcw⟩);have Ha:Hid (a<256):=zY (by rw[<-ha];exact wgt_lt _ _ _);have HBk:=zY hBk;have Hae:=zY ha;have HBz:=zY hBz;clear hc h5 h6 hcw ha hBk hBz hkl;go_wp2;go_loopw [22] (fun y wr=>∃i:Nat,i<=n/\y=.int .i64 (i:Int)/\U8B wr g (rowE xs (bl.map bs) n x k i)/\Below w.heap.size w wr) (fun y _=>n-(intOf y).toNat);case atStart=>exact⟨0,by omega,rfl,HRo.out,HB.out⟩
 case round=>
 obtain⟨i,hi,rfl,hr,hB2⟩:=hrel;have HRr:=zY hr;have HBr:=zY hB2;clear hr hB2 q0;by_cases h':i<n;{
 have hiI:(i:Int)<n:=by omega
 have hiB:i<B.size:=by rw[HBz.out];exact h'
 have hiBI:(i:Int)<B.size:=by omega
 obtain⟨b,hb⟩:=zNm ((B[i]'hiB).toNat);have hbI:(((B[i]'hiB).toNat:Nat):Int)=(b:Int):=by rw[hb]
 have Hb:Hid (b<256):=zY (by rw[<-hb];exact UInt8.toNat_lt _);have hbc:cf ((bl.map bs).getD k []) i=b:=by rw[List.getD,List.getElem?_map,HBk.out];show cf (bs B) i=b;rw[bsc B i hiB,hb]
 obtain⟨c0,hc0⟩:=zNm (cf (rowE xs (bl.map bs) n x k i) i);have HRi:Hid ((rowE xs (bl.map bs) n x k i)[i]?=some c0):=zY (by
  have hl':i<(rowE xs (bl.map bs) n x k i).length:=by rw[rowE_len];exact h'
  rw[List.getElem?_eq_getElem hl',<-hc0,cf_get (List.getElem?_eq_getElem hl')]);have Hc0:Hid (c0<256):=zY (rowE_lt _ (List.mem_of_getElem? HRi.out));have HSt:Hid ((rowE xs (bl.map bs) n x k i).set i (c0^^^gmul a b)=rowE xs (bl.map bs) n x k (i+1)):=zY (by rw[<-hc0,<-Hae.out,<-hbc];exact rowE_step h');clear hb hbc hc0;go_upto_region 8 with fail;have HRc:=zY (show U8B wr.drew g (rowE xs (bl.map bs) n x k i) from Blk.kept HRr.out (Below.refl _ _).drew);have HBc:=zY HBr.drew;refine wp_region_held_drew (S:=(fun W=>W.cell? ⟨gp,0,none⟩=some (.slice (some ⟨bw,ow,none⟩) xs.length cw)/\W.cell? ⟨bw,ow+k,none⟩=some (.int .u8 (a:Int)))) (by kernel_rfl) ?_ (fun hHeld=>?_);{first|exact HCS.out _ HBn.out|exact HCS.out _ HBc.out};refine tk 0 ?_;refine tk 1 ?_;refine tk 2 ?_;refine tk 3 ?_;refine tk 4 ?_;refine tk 6 ?_;refine tk 7 ?_;refine tk 8 ?_;refine tk 9 ?_;refine tk 10 ?_;refine tk 11 ?_;refine tk 12 ?_;refine take_call (i:=13) (oi:=_) (v:=(.int .u8 ((gmul a b:Nat):Int))) rfl (by kernel_rfl) (by kernel_rfl) (by kernel_rfl) (fun _ _ _ h=>h) (And.intro (by rfl) ?hy13) (by assumption) ?rest13;case hy13=>intro W hSw;exact⟨188,#[.int .u8 (a:Int),.int .u8 (b:Int)],by go_simp,gmul_any W a b Ha.out Hb.out⟩
 try simp only[Act.put,List.setIfInBounds_toArray,List.set_cons_zero,List.set_cons_succ]
 try simp only[List.getElem_toArray,List.getElem_cons_zero,List.getElem_cons_succ]
 refine zE1 5 fun K hK=>?_;have q0:=U8B.cell HRc.out (i:=i) (x:=c0) HRi.out;have q1:wr.cell? ⟨g,i,none⟩=some (.int .u8 (c0:Int)):=q0;clear q0;go_simp;clear q1;refine hko hK (by first|exact HCS.out _ HBn.out|exact HCS.out _ HBc.out) (fun _=>?_);clear hK K;refine take_call (i:=14) (oi:=_) (v:=(.int .u8 ((c0^^^gmul a b:Nat):Int))) rfl (by kernel_rfl) (by kernel_rfl) (by kernel_rfl) (fun _ _ _ h=>h) (And.intro (by rfl) ?hy14) (by assumption) ?rest14;case hy14=>intro W hSw;exact⟨189,#[.int .u8 (c0:Int),.int .u8 (gmul a b:Int)],by go_simp,gadd_any W c0 (gmul a b) Hc0.out (gmul_lt _ Ha.out)⟩
 try simp only[Act.put,List.setIfInBounds_toArray,List.set_cons_zero,List.set_cons_succ]
 try simp only[List.getElem_toArray,List.getElem_cons_zero,List.getElem_cons_succ]
 refine tk 15 ?_;refine zE1 16 fun K hK=>?_;have qc0:=U8B.cell HRc.out (i:=i) (x:=c0) HRi.out;have qc:wr.cell? ⟨g,i,none⟩=some (.int .u8 (c0:Int)):=qc0;have qz0:=Blk.frozen HRc.out i;have qz:wr.frozen? ⟨g,i,none⟩=false:=qz0;clear qc0 qz0;go_simp;have HRn:=zY (U8B.set HRc.out i (c0^^^gmul a b));have HBn:=zY (HBc.setCell (show w.heap.size<=(⟨g,i,none⟩:Addr).block from HGe.out) (.int .u8 ((c0^^^gmul a b:Nat):Int)));rw[HSt.out]at HRn;clear qc qz;refine hko hK (by first|exact HCS.out _ HBn.out|exact HCS.out _ HBc.out) (fun _=>?_);clear hK K;refine wpAnyH_done (by kernel_rfl) ?_ _;go_wp2_with fail;go_roundw;case rel=>exact⟨i+1,by omega,by go_num,HRn.out,HBn.out⟩
 case measure=>simp[intOf];omega};{
 obtain rfl:i=n:=by omega
 have hiI:¬((i:Nat):Int)<(i:Int):=by omega
 have HRn:Hid (U8B wr g (rowE xs (bl.map bs) i x (k+1) 0)):=zY (by rw[<-rowE_next];exact HRr.out);go_wp2;go_roundw;case rel=>exact⟨k+1,by omega,by go_num,HRn.out,HBr.out⟩
 case measure=>simp[intOf];omega}};{
 obtain rfl:k=xs.length:=by omega
 have hkI:¬((xs.length:Nat):Int)<(bl.length:Int):=by have:=Hl.out;omega
 have HRe:Hid (U8B wo g R):=zY (by rw[<-HR.out,<-rowE_all];exact HRo.out);have hRl:n=R.length:=by rw[<-HR.out,atE_len]
 have hcv:(convert 117 9 (.slice (some ⟨g,0,none⟩) n n)).run prog wo=.ok (.string (strB R)) wo:=run_toStr (p:=R) (HRe.bytes hRl (Nat.le_refl _) (by omega)) hRl;clear hRl;go_wp2;go_ret;exact⟨rfl,HB.out⟩}
def sparL (data:List ByteArray) (n s:Nat):List ByteArray:=(List.range s).map fun i=>strB (atE (List.range data.length) (data.map bs) n (data.length+i))
theorem sparL_succ (data:List ByteArray) (n s:Nat):sparL data n (s+1)=sparL data n s++[strB (atE (List.range data.length) (data.map bs) n (data.length+s))]:=by
 unfold sparL;rw[List.range_succ,List.map_append];rfl
theorem cf_range {n i:Nat} (h:i<n):cf (List.range n) i=i:=by
 rw[cf,List.getElem?_range h];rfl
theorem cf_range_lt {n:Nat} (h:n<=256) (i:Nat):cf (List.range n) i<256:=by
 by_cases hi:i<n;{rw[cf_range hi];omega};{
 rw[cf,List.getElem?_eq_none (by simp;omega)];decide}
theorem eraenc1_any (w:World) (s:ByteArray) (data:List ByteArray) (v:Value) (hv:SeqAt strS w v data) (hs:s∈data) (n:Nat) (hn:∀b∈data,b.size=n) (g:Nat) (hg:w.cell? ⟨g,0,none⟩=some v):Calls prog 236 #[.string s,.pointer (some ⟨g,0,none⟩)] w fun e w'=>e=.returned (.bool false)/\Below w.heap.size w w':=by
 have hsz:=hn s hs;have h0:0<data.length:=List.length_pos_of_mem hs;obtain⟨A,c,rfl,h1,h2,h3⟩:=hv;obtain⟨b,o,cs,rfl,rfl,hc⟩:=h3 0 data[0] (List.getElem?_eq_getElem h0);have q0:w.cell? ⟨b,o+0*1+0,none⟩=some (.string data[0]):=hc 0 _ rfl;simp only[Nat.zero_mul,Nat.add_zero]at q0;obtain⟨B0,hB0⟩:=zNm (data[0]);have hBz:B0.size=n:=by rw[<-hB0];exact hn _ (List.getElem_mem h0)
 rw[hB0]at q0;have h0I:(0:Int)<data.length:=by omega
 have e:((s.size:Int) != (B0.size:Int))=false:=by rw[hsz,hBz];simp
 clear hn hs hc h3 hB0 hsz hBz h0;go_enter func236,ntmps236;go_wp2;go_ret;exact⟨rfl,Below.refl _ _⟩
theorem eraencode_ok (w:World) (v:Value) (data:List ByteArray) (hv:SeqAt strS w v data) (n s:Nat) (hn:∀b∈data,b.size=n) (hn2:n<=1000) (hd:1<=data.length) (hs:data.length+s<=15):
  Calls prog 159 #[v,.int .i64 (s:Int)] w fun e w'=>(∃v',e=.returned (.tuple #[v',.int .i64 0])/\SeqAt strS w' v' (sparL data n s))/\Below w.heap.size w w':=by
 obtain⟨A,c,rfl,h1,h2⟩:=hv.slice;have hK:=Blk.new w 51 [.slice A data.length c];change Blk (w.alloc (.cells #[.slice A data.length c] 51)) _ _ _ at hK;have HB0:=zY (zBl w (.cells #[.slice A data.length c] 51));have HK:=zY hK;have Hv:=zY (hv.below HB0.out);have Hn:=zY hn;have Hn2:=zY hn2;have Hd1:=zY hd;have Hd15:Hid (data.length<=15):=zY (by omega);have Hds:=zY hs;have i1:((data.length:Int)==0)=false:=by rw[beq_eq_false_iff_ne];omega
 have i2:¬(s:Int)<0:=by omega
 have i3:¬(15:Int)<data.length:=by omega
 obtain⟨r,hr⟩:=zNm (15-data.length);have i4:(15:Int)-data.length=r:=by omega
 have i5:¬(r:Int)<s:=by omega
 have hdn:data.length<=100:=by omega
 have HF:Hid (data.any (fun _=>false)=false):=zY (by rw[List.any_eq_false];intro x _;decide);clear hv hK hn hr;go_enter func159,ntmps159;go_upto_region 1 with fail;generalize w.alloc (.cells #[.slice A data.length c] 51)=wb at *;have c0:=HK.c 0;have HC:=zY (contStr_any wb (.slice A data.length c) data Hv.out 236 #[.pointer (some ⟨w.heap.size,0,none⟩)] (enters_of func236 (by kernel_rfl) rfl) (fun _=>false) (fun W x hW hx=>eraenc1_any W x data _ (Hv.below hW) hx n Hn.out w.heap.size ((HK.kept hW).c 0)));rw[HF.out]at HC;go_wp2_with fail;refine HC.mono ?_;rintro e1 w1 ⟨rfl,hb1⟩;have HB1:=zY hb1;have HK1:=zY (HK.kept hb1);clear hb1 c0 HC;have c0:=HK1.c 0;go_wp2_with fail;refine(eraidx_any w1 data.length hdn).mono ?_;rintro e2 w2 ⟨⟨vx,rfl,hx⟩,hb2⟩;have HB2:=zYt HB1 hb2;have HK2:=zY (HK1.kept hb2);have Hv2:=zY (Hv.below HB2.out);have HVx:=zY hx;obtain⟨Ax,cx,rfl,_,_⟩:=hx.sliceV;clear hb2 c0 hx;have HIn0:Hid (∀(i:Nat),i<s->∀W,Below w2.heap.size w2 W->Calls prog 114 #[.slice Ax (List.range data.length).length cx,.int .u8 ((data.length+i:Nat):Int)] W fun e w'=>IntF w' (List.range data.length) (data.length+i) e/\Below W.heap.size W w'):=zY (fun i hi W hW=>eraint_any W _ _ (HVx.belowV hW) _ (by have:=Hds.out;omega) (by simp;exact Hd15.out) (cf_range_lt (by have:=Hd15.out;omega)) (fun a b ha hb hne=>by
  simp only[List.length_range]at ha hb
  rw[cf_range ha,cf_range hb]
  exact hne));have hrl:(List.range data.length).length=data.length:=List.length_range;rw[hrl]at HIn0⊢;clear hrl;go_wp2;go_loopw [7,35] (fun y x wr=>∃i:Nat,i<=s/\x=.int .i64 (i:Int)/\OwnSeq strS 9 w2 wr y (sparL data n i)/\Below w2.heap.size w2 wr) (fun _ x _=>s-(intOf x).toNat);case atStart=>exact⟨0,by omega,rfl,OwnSeq.nil _,Below.refl _ _⟩
 case round=>
 obtain⟨i,hi,rfl,ho,hB⟩:=hrel;have HO:=zY ho;have HBr:=zY hB;clear ho hB;by_cases h:i<s;{
 have hiI:(i:Int)<s:=by omega
 have HIn:=zY (HIn0.out i h);have hwr:IntKind.i64.wrap ((data.length:Int)+i)=((data.length+i:Nat):Int):=by rw[zIw (by omega)];omega
 have hw1:(data.length:Int)+i=((data.length+i:Nat):Int):=by omega
 have hwu:IntKind.u8.wrap ((data.length+i:Nat):Int)=((data.length+i:Nat):Int):=by rw[IntKind.wrap_u8];omega
 have hw2:((data.length+i:Nat):Int)%256=((data.length+i:Nat):Int):=by omega
 have hwi:IntKind.i64.wrap ((data.length+i:Nat):Int)=((data.length+i:Nat):Int):=zIw (by omega);have Hl1:Hid ((sparL data n i).length+1<=100000000):=zY (by simp[sparL];omega);obtain⟨Ao,co,e9⟩:=HO.slice;subst e9;obtain⟨di,hdi⟩:=zNm (data.length+i);rw[hdi]at hwr hw1 hwu hw2 hwi HIn;have HO:=zY HO.drew;have HBc:=zY HBr.drew;go_upto_region 10 with fail;refine wp_region_held_drew (S:=(fun W=>W.cell? ⟨w.heap.size,0,none⟩=some (.slice A data.length c))) (by kernel_rfl) ?_ (fun hHeld=>?_);{exact(HK2.kept HBc.out).c 0};refine tk 0 ?_;refine tk 1 ?_;refine tk 2 ?_;refine tk 3 ?_;refine tk 4 ?_;refine tk 5 ?_;refine tk 6 ?_;refine tk 8 ?_;refine zE1 7 fun K hK=>?_;go_simp;refine(HIn.out _ HBc.out).mono ?_;rintro e5 w5 ⟨⟨g,vw,rfl,hg,hvw⟩,hb5⟩;(try go_wp2_with fail);have HG:=zY hg;have HVw:=zY hvw;have HO:=zY (HO.below hb5);have HBc:=zYt HBc hb5;clear hb5 hg hvw;refine hko hK (by exact(HK2.kept HBc.out).c 0) (fun _=>?_);clear hK K;refine zE1 9 fun K hK=>?_;go_simp;refine(eraint1_any _ _ data (Hv2.below HBc.out) (List.range data.length) di n g vw HG.out HVw.out Hn.out (by simp) (by simp;exact Hd1.out) (by simp;exact Hd15.out) Hn2.out).mono ?_;rintro e6 w6 ⟨rfl,hb6⟩;(try go_wp2_with fail);have HO:=zY (HO.below hb6);have HBc:=zYt HBc hb6;clear hb6;refine hko hK (by exact(HK2.kept HBc.out).c 0) (fun _=>?_);clear hK K;refine zE1 10 fun K hK=>?_;obtain⟨X,hX⟩:=zNm (strB (atE (List.range data.length) (data.map bs) n di));rw[hX];go_simp;have HX:=zY (src1B (ρ:=strS) (w0:=w2) (t:=9) HBc.out [.string X] X rfl);have HO:=zY (HO.alloc (.cells #[.string X] 9))
 have HBc:=zY (HBc.alloc HBc.size (.cells #[.string X] 9));have HXe:=zY hX;clear hX;refine hko hK (by exact(HK2.kept HBc.out).c 0) (fun _=>?_);clear hK K;refine zE1 11 fun K hK=>?_;refine wp_append_seq (ρ:=strS) (w0:=w2) Tryz.elemStr (.tmp 38) (.tmp 48) rfl rfl HO.out rfl HX.out Hl1.out HBc.out ?_;intro v7 w7 hob hgb hbb;have HO:=zY hob;have HBc:=zY hbb;clear hob hgb hbb;refine hko hK (by exact(HK2.kept HBc.out).c 0) (fun _=>?_);clear hK K;refine tk 12 ?_;refine wpAnyH_done (by kernel_rfl) ?_ _;go_wp2_with fail;go_roundw;case rel=>exact⟨i+1,by omega,by go_num,by rw[sparL_succ,hdi,HXe.out];exact HO.out,HBc.out⟩
 case measure=>simp[intOf];omega};{
 obtain rfl:i=s:=by omega
 have hiI:¬((i:Nat):Int)<(i:Int):=by omega
 have HBz:=zY (HB2.trans (HBr.mono HB2.size));have HSq:=zY (HO.at HBr.out);go_wp2;go_ret2;exact⟨⟨_,rfl,HSq.out⟩,HB0.trans (HBz.mono HB0.size)⟩}
end
section
open Go.RowKit Go.Shelf
attribute [local go_sem] Oper.semAt_some
def blockB (st:ByteArray) (m:Nat):ByteArray:=strB ((List.range 28).map fun j=>cf (bs st) (28*m+j))
theorem blockB_size (st:ByteArray) (m:Nat):(blockB st m).size=28:=by rw[blockB,strB_size];simp
def datL (d:Nat) (st:ByteArray) (k:Nat):List ByteArray:=(List.range d).map fun i=>blockB st (k*d+i)
theorem datL_len (d:Nat) (st:ByteArray) (k:Nat):(datL d st k).length=d:=by simp[datL]
def strN (d n:Nat):Nat:=(n+28*d-1)/(28*d)
def stripL (d:Nat) (st:ByteArray):List (List ByteArray):=(List.range (strN d st.size)).map (datL d st)
theorem strN_lt {d n k:Nat} (hd:1<=d):k<strN d n↔28*d*k<n:=by
 unfold strN;have h28:0<28*d:=by omega
 rw[Nat.lt_iff_add_one_le,Nat.le_div_iff_mul_le h28,Nat.mul_comm (k+1),Nat.mul_add,Nat.mul_one];omega
theorem cf_byte (s:ByteArray) (i:Nat):cf (bs s) i<256:=by
 by_cases h:i<s.size;{rw[bsc s i h];exact UInt8.toNat_lt _};{rw[cf,List.getElem?_eq_none (by rw[bs_len];omega)];decide}
theorem cut_block {st X Z P:ByteArray} {a n w i d k:Nat} (ha:a=28*d*k) (hw:w=28*d) (hn:n=min w (st.size-a)) (has:a<=st.size) (hX:X=st.extract a (a+n)) (hZ:Z=strB (List.replicate (w-n) 0)) (hP:P=X++Z) (hi:i<d):P.extract (28*i) (28*(i+1))=blockB st (k*d+i):=by
 have hXb:bs X=((bs st).take (a+n)).drop a:=by rw[hX,bs_extract]
 have hZb:bs Z=List.replicate (w-n) 0:=by rw[hZ,bs_strB (fun b hb=>by rw[(List.mem_replicate.1 hb).2];decide)]
 have hPb:bs P=bs X++bs Z:=by rw[hP];unfold bs;rw[ByteArray.data_append,Array.toList_append,List.map_append]
 have hXl:(bs X).length=n:=by rw[hXb,List.length_drop,List.length_take,bs_len];omega
 have hid:28*(i+1)<=w:=by rw[hw];exact Nat.mul_le_mul (Nat.le_refl 28) hi
 have hPl:(bs P).length=w:=by rw[hPb,List.length_append,hXl,hZb,List.length_replicate];omega
 apply bs_inj;rw[bs_extract,blockB,bs_strB (fun b hb=>by
  obtain⟨j,_,rfl⟩:=List.mem_map.1 hb
  exact cf_byte st _)];apply List.ext_getElem?;intro j;rw[List.getElem?_drop,List.getElem?_map];by_cases hj:j<28;{
 rw[List.getElem?_range hj,List.getElem?_take,if_pos (by omega)];show _=some (cf (bs st) (28*(k*d+i)+j));have e:28*(k*d+i)+j=a+(28*i+j):=by rw[ha,Nat.mul_add,Nat.mul_comm k d,<-Nat.mul_assoc];omega
 rw[e,hPb];by_cases hjn:28*i+j<n;{
 rw[List.getElem?_append_left (by rw[hXl];exact hjn),hXb,List.getElem?_drop,List.getElem?_take,if_pos (by omega),cf];have hlt:a+(28*i+j)<(bs st).length:=by rw[bs_len];omega
 rw[List.getElem?_eq_getElem hlt];rfl};{
 rw[List.getElem?_append_right (by rw[hXl];omega),hZb,List.getElem?_replicate,if_pos (by omega),cf,List.getElem?_eq_none (by rw[bs_len];omega)];rfl}};{
 rw[List.getElem?_eq_none (l:=List.range 28) (by simp;omega),List.getElem?_eq_none (by rw[List.length_take];omega)];rfl}
def datI (d:Nat) (st:ByteArray) (k i:Nat):List ByteArray:=(List.range d).map fun j=>if j<i then blockB st (k*d+j) else ⟨#[]⟩
theorem datI_step {d:Nat} {st:ByteArray} {k i:Nat}:(datI d st k i).set i (blockB st (k*d+i))=datI d st k (i+1):=by
 apply List.ext_getElem (by simp[datI]);intro j h1 h2;rw[List.getElem_set];by_cases hj:i=j;{
 subst hj;simp[datI]};{
 rw[if_neg hj];simp only[datI,List.getElem_map,List.getElem_range];by_cases h3:j<i;{rw[if_pos h3,if_pos (by omega)]};{rw[if_neg h3,if_neg (by omega)]}}
theorem datI_zero {d:Nat} {st:ByteArray} {k:Nat}:datI d st k 0=List.replicate d ⟨#[]⟩:=by
 apply List.ext_getElem (by simp[datI]);intro j h1 h2;simp[datI]
theorem datI_all {d:Nat} {st:ByteArray} {k:Nat}:datI d st k d=datL d st k:=by
 unfold datI datL;refine List.map_congr_left fun j hj=>?_;rw[if_pos (List.mem_range.1 hj)]
theorem make_strs (n:Nat) (hc:n<=1000000) (w:World):(Instr.makeSlice 51 (.int .i64 (n:Int)) (.int .i64 (n:Int))).run prog w=.ok (.slice (some ⟨w.heap.size,0,none⟩) n n) (w.alloc (.cells ((List.replicate n (⟨#[]⟩:ByteArray)).map Value.string).toArray 9)):=by
 obtain⟨i0,hi,hz0,hz1,hz2⟩:=infoV_parts Tryz.infoStrV;have hr:=run_make (P:=prog) w 51 9 i0 (.string ⟨#[]⟩) underlying51 hi hz0 .i64 .i64 n n (by omega) (by omega) (by rw[hz2];omega) (by omega);rw[hr,hz1];have e:madeCells (Value.string ⟨#[]⟩).cells ((n:Int).toNat*1)=((List.replicate n (⟨#[]⟩:ByteArray)).map Value.string).toArray:=by show madeCells #[Value.string ⟨#[]⟩] _=_;unfold madeCells;rw[Nat.mul_one,Int.toNat_natCast,List.map_replicate];refine Array.ext (by simp) fun i h1 h2=>?_;simp[Nat.mod_one]
 rw[e];rfl
def boxZ (g:Nat) (W:World):Nat:=match W.cell? ⟨g,0,none⟩with
 |some (.string s)=>s.size
 |_=>0
theorem boxZ_of {g:Nat} {W:World} {s:ByteArray} (h:Boxed W g 9 (.string s)):boxZ g W=s.size:=by
 unfold boxZ;rw[h.cell]
def RdD (B:Nat) (x:List ByteArray) (args:Array Value) (W:World):Prop:=∃g,args= #[.slice (some ⟨g,0,none⟩) x.length x.length]/\Blk W g 9 (x.map Value.string)/\B<=g
theorem layblocks_any (w:World) (d s:Int) (st:ByteArray):Calls prog 158 #[.agg #[.int .i64 d,.int .i64 s],.string st] w fun e w'=>e=.returned (.func (.func 234) #[] #[.pointer (some ⟨w.heap.size,0,none⟩),.pointer (some ⟨w.heap.size+1,0,none⟩)])/\w'=(w.alloc (.cells #[.int .i64 d,.int .i64 s] 24)).alloc (.cells #[.string st] 9):=by
 go_enter func158,ntmps158;go_wp2;go_ret;exact⟨rfl,rfl⟩
theorem blocks_all (W0:World) (bl bx d:Nat) (sp:Int) (st:ByteArray) (hd:1<=d/\d<=8) (hs:st.size<=100000000) (hl:Blk W0 bl 24 [.int .i64 (d:Int),.int .i64 sp]) (hb:Boxed W0 bx 9 (.string st)) (hne:bl≠bx):
  rangeStr.IterX prog 234 #[.pointer (some ⟨bl,0,none⟩),.pointer (some ⟨bx,0,none⟩)] (RdD W0.heap.size) (fun k=>k=bl∨k=bx) (fun k=>k=bx) (stripL d st) W0:=by
 intro l J W hW hJ hY h0;have HL0:=zY (hl.kept hW);have HX0:Hid (Boxed W bx 9 (.string st)):=zY ((hW.block bx hb.lt).trans hb);have HJ:=zY hJ;have HY:=zY hY;have H0:=zY h0;have HWz:=zY hW.size;have Hbx:=zY (show bx<W.heap.size from HX0.lt);have Hbl:=zY (show bl<W.heap.size from HL0.lt);have Hne:=zY hne;clear hJ hY h0 hW hl hb hne;obtain⟨w,hw⟩:=zNm (28*d);have hwI:(d:Int)*28=w:=by omega
 have hwr:IntKind.i64.wrap ((d:Int)*28)=w:=by rw[zIw (by omega)];omega
 have c0:=HL0.c 0;refine callsIn_of_wp func234 rfl trivial ?_ rfl;simp only[ntmps234,List.size_toArray,List.length_cons,List.length_nil,Nat.reduceAdd,Nat.reduceSub,Array.replicate_succ,Array.replicate_zero,List.push_toArray,List.append_toArray,List.nil_append,List.cons_append];gi_wp2;gi_loopw [] (fun wr=>∃k:Nat,k<=strN d st.size/\W.heap.size<=wr.heap.size/\Blk wr bl 24 [.int .i64 (d:Int),.int .i64 sp]/\Boxed wr bx 9 (.string (st.extract (min (w*k) st.size) st.size))/\J ((stripL d st).take k) wr) (fun wr=>boxZ bx wr);case atStart=>exact⟨0,by omega,Nat.le_refl _,HL0.out,by rw[Nat.mul_zero,Nat.zero_min,cut_all];exact HX0.out,H0.out⟩
 case round=>
 obtain⟨k,hk,hsz,hlr,hbr,hj⟩:=hrel;have HL:=zY hlr;have HX:=zY hbr;have HJr:=zY hj;have HSz:=zY hsz;clear hlr hbr hj hsz c0 HL0 HX0 H0;by_cases h:k<strN d st.size;{
 have ha:=(strN_lt hd.1).1 h;rw[hw]at ha;obtain⟨a,ha'⟩:∃a,w*k=a:=⟨_,rfl⟩;rw[ha']at ha HX;rw[Nat.min_eq_left (by omega)]at HX;obtain⟨T,hT⟩:=zNm (st.extract a st.size);have hTz:T.size=st.size-a:=by rw[<-hT,ByteArray.size_extract];omega
 rw[hT]at HX;have hcell:=HX.cell;have hfr:=HX.frozen;have hT0:(0:Int)<T.size:=by omega
 obtain⟨n,hn⟩:=zNm (min w (st.size-a));have hmin:min (w:Int) (T.size:Int)=n:=by omega
 have hn0:(0:Int)<=n:=by omega
 have hnT:(n:Int)<=T.size:=by omega
 have hnTn:n<=T.size:=by omega
 obtain⟨X,hX⟩:=zNm (T.extract 0 n);obtain⟨U,hU⟩:=zNm (T.extract n T.size);have hXz:X.size=n:=by rw[<-hX,ByteArray.size_extract];omega
 have hXe:X=st.extract a (a+n):=by rw[<-hX,<-hT,cut_at st a n (by omega)]
 have hXzI:(X.size:Int)=n:=by omega
 obtain⟨j,hj⟩:=zNm (w-n);have hjI:(w:Int)-n=j:=by omega
 have hwr2:IntKind.i64.wrap ((w:Int)-n)=j:=by rw[zIw (by omega)];omega
 have hwr3:IntKind.i64.wrap (j:Int)=j:=zIw (by omega);obtain⟨Z,hZ⟩:=zNm (strB (List.replicate j 0));have hZz:Z.size=j:=by rw[<-hZ,strB_size,List.length_replicate]
 obtain⟨P,hP⟩:=zNm (X++Z);have hPz:P.size=w:=by rw[<-hP,ByteArray.size_append];omega
 have HCut:Hid (∀i,i<d->P.extract (28*i) (28*(i+1))=blockB st (k*d+i)):=zY (fun i hi=>cut_block (a:=a) (n:=n) (w:=w) (d:=d) (k:=k) (by rw[<-ha',hw]) hw.symm hn.symm (by omega) hXe (by rw[hj];exact hZ.symm) hP.symm hi);have HU:Hid (U=st.extract (min (w*(k+1)) st.size) st.size):=zY (by
  rw[<-hU,hTz,<-hT,cut_rest st a n (by omega),Nat.mul_add,ha',Nat.mul_one]
  congr 1
  omega);have HUz:Hid (U.size<T.size):=zY (by rw[<-hU,ByteArray.size_extract];omega);have HRp:Hid (∀V:World,Calls prog 55 #[.string ⟨#[0]⟩,.int .i64 (j:Int)] V fun e w'=>e=.returned (.string Z)/\Below V.heap.size V w'):=zY (fun V=>by rw[<-hZ];exact repeat_any V 0 j (by omega));have hcc:¬9223372036854775807<X.size+Z.size:=by omega
 have HXs:=zY (Boxed.set (.string U) HX.out);have HLs:=zY (HL.far (p:=⟨bx,0,none⟩) Hne.out (.string U));have HJs:=zY (HJ.out _ _ _ HJr.out HSz.out (rangeOwn.Aside.setX (X:=fun k=>k=bx) (p:=⟨bx,0,none⟩) rfl (.string U)));have HSs:Hid (W.heap.size<=(wr.setCell ⟨bx,0,none⟩ (.string U)).heap.size):=zY (by simpa using HSz.out);have HTw:=zY (boxZ_of HX.out);clear ha' hT hTz hXe hj hZ hZz hn hXz;gi_upto_region 4 with fail;generalize wr.setCell ⟨bx,0,none⟩ (.string U)=wb at *;clear hcell hfr;gi_wp2_with fail;refine⟨trivial,rfl,?_⟩;gi_at_call 55;refine(callsIn_wide.2 (HRp.out _)).mono ?_;rintro e2 w2 ⟨rfl,hb2⟩;have HX2:Hid (Boxed w2 bx 9 (.string U)):=zY ((hb2.block bx HXs.lt).trans HXs.out);have HL2:=zY (HLs.kept hb2);have HJ2:=zY (HJ.out _ _ _ HJs.out HSs.out (rangeOwn.Aside.of_below hb2 HSs.out));have HS2:=zY (Nat.le_trans HSs.out hb2.size);clear hb2 HX HL HJr HSz HJs HSs HXs HLs;have c0:=HL2.c 0;have hmk:∀V:World,(Instr.makeSlice 51 (.int .i64 (d:Int)) (.int .i64 (d:Int))).run prog V=.ok (.slice (some ⟨V.heap.size,0,none⟩) d d) (V.alloc (.cells ((datI d st k 0).map Value.string).toArray 9)):=fun V=>by
  rw[datI_zero]
  exact make_strs d (by omega) V
 have HD0:=zY (Blk.new w2 9 ((datI d st k 0).map Value.string));have HBa:=zY (zBl w2 (.cells ((datI d st k 0).map Value.string).toArray 9));gi_wp2_with fail;try rw[hmk]
 clear hmk;gi_upto_region 6 with fail;have HGe:Hid (W0.heap.size<=w2.heap.size):=zY (by have:=HWz.out;have:=HS2.out;omega);clear hX hU hwr2 hwr3 hjI hmin hT0 c0;obtain⟨g,hg⟩:=zNm (w2.heap.size);generalize w2.alloc (.cells ((datI d st k 0).map Value.string).toArray 9)=wc at *;rw[hg]at HD0 HGe⊢;have Hg:=zY hg;clear hg;gi_wp2;gi_loopw [36] (fun x wq=>∃i:Nat,i<=d/\x=.int .i64 (i:Int)/\Blk wq g 9 ((datI d st k i).map Value.string)/\Below w2.heap.size w2 wq) (fun x _=>d-(intOf x).toNat);case atStart=>exact⟨0,by omega,rfl,HD0.out,HBa.out⟩
 case round=>
 obtain⟨i,hi,rfl,hd2,hb2⟩:=hrel;have HD:=zY hd2;have HB:=zY hb2;clear hd2 hb2 HD0 HBa;by_cases h':i<d;{
 have hiI:(i:Int)<d:=by omega
 have hq:=HD.cell (i:=i) (u:=.string ⟨#[]⟩) (by simp[datI,h']);have hf:=HD.frozen i;have hx:=HCut.out i h';obtain⟨V,hV⟩:=zNm (blockB st (k*d+i));rw[hV]at hx;obtain⟨p,hp⟩:=zNm (28*i);obtain⟨q,hq'⟩:∃q,28*(i+1)=q:=⟨_,rfl⟩;rw[hp,hq']at hx;have hp1:(i:Int)*28=p:=by omega
 have hp2:IntKind.i64.wrap ((i:Int)*28)=p:=by rw[zIw (by omega)];omega
 have hq1:IntKind.i64.wrap ((i:Int)+1)=((i+1:Nat):Int):=by rw[zIw (by omega)];omega
 have hq2:((i:Int)+1)*28=q:=by omega
 have hq3:IntKind.i64.wrap (((i:Int)+1)*28)=q:=by rw[zIw (by omega)];omega
 have hpq:(p:Int)<=q:=by omega
 have hqP:(q:Int)<=P.size:=by omega
 have hpqn:p<=q:=by omega
 have hqPn:q<=P.size:=by omega
 have HDn:=zY (HD.set i (.string V));have HDe:Hid (((datI d st k i).map Value.string).set i (.string V)=(datI d st k (i+1)).map Value.string):=zY (by rw[<-List.map_set,<-hV,datI_step]);rw[HDe.out]at HDn;have HBn:=zY (HB.setCell (show w2.heap.size<=(⟨g,i,none⟩:Addr).block by show w2.heap.size<=g;have:=Hg.out;omega) (.string V));clear hV hp hq' HDe;gi_wp2;go_roundw;case rel=>exact⟨i+1,by omega,by go_num,HDn.out,HBn.out⟩
 case measure=>simp[intOf];omega};{
 obtain rfl:i=d:=by omega
 have hiI:¬((i:Nat):Int)<(i:Int):=by omega
 have HDa:Hid (Blk wr g 9 ((datL i st k).map Value.string)):=zY (by rw[<-datI_all];exact HD.out);have HJ3:=zY (HJ.out _ _ _ HJ2.out HS2.out (rangeOwn.Aside.of_below HB.out HS2.out));have HS3:=zY (Nat.le_trans HS2.out HB.size);have HL3:=zY (HL2.kept HB.out);have HX3:Hid (Boxed wr bx 9 (.string U)):=zY ((HB.block bx HX2.lt).trans HX2.out);have hget:(stripL i st)[k]?=some (datL i st k):=by rw[stripL,List.getElem?_map,List.getElem?_range h];rfl
 have htk:(stripL i st).take (k+1)=(stripL i st).take k++[datL i st k]:=by rw[List.take_add_one,hget];rfl
 have Htk:=zY htk;obtain⟨fn,tmps,assign,body,hy,hR⟩:=HY.out ((stripL i st).take k) (datL i st k) #[.slice (some ⟨g,0,none⟩) i i] wr HJ3.out ⟨g,by rw[datL_len],HDa.out,HGe.out⟩ (by rw[<-htk];exact List.take_prefix _ _);have HR:=zY hR;clear hR hget htk HD HB HCut;gi_wp2;refine⟨rfl,HR.mono ?_⟩;rintro e W1 ⟨rfl,hj1,hk1⟩;have Hj4:=zY hj1;have Hk1:=zY hk1;have HX4:Hid (Boxed W1 bx 9 (.string U)):=zY (hk1.2 _ _ HX3.out (.inr (.inr rfl)));have HL4:Hid (Blk W1 bl 24 [.int .i64 (i:Int),.int .i64 sp]):=zY (hk1.2 _ _ HL3.out (.inr (.inl rfl)));clear hj1 hk1;gi_wp2;go_roundw;case rel=>exact⟨k+1,by omega,Nat.le_trans HS3.out Hk1.1,HL4.out,by rw[<-HU.out];exact HX4.out,by rw[Htk.out];exact Hj4.out⟩
 case measure=>rw[boxZ_of HX4.out,HTw.out];exact HUz.out}};{
 have hka:¬w*k<st.size:=fun e=>h ((strN_lt hd.1).2 (by rw[hw];exact e));rw[Nat.min_eq_right (by omega)]at HX;obtain⟨T,hT⟩:=zNm (st.extract st.size st.size);have hTz:T.size=0:=by rw[<-hT,ByteArray.size_extract];omega
 rw[hT]at HX;have hcell:=HX.cell;have hT0:¬(0:Int)<T.size:=by omega
 have HE:Hid ((stripL d st).take k=stripL d st):=zY (List.take_of_length_le (by simp[stripL];omega));clear hT hTz hka;gi_wp2;have key:J (stripL d st) wr:=by rw[<-HE.out];exact HJr.out
 go_end0;exact⟨⟨_,rfl⟩,key⟩}
attribute [local go_sem] Oper.semAt_some
def rowS:Shape (List ByteArray) where
 n:=1
 R w cs x:=∃v,cs=[v]/\SeqAt strS w v x
 len h:=by obtain⟨_,rfl,_⟩:=h;rfl
 one h u hu:=by
  obtain⟨v,rfl,h⟩:=h
  rw[List.mem_singleton.1 hu]
  exact h.one
 keep h hb:=by
  obtain⟨v,e,h⟩:=h
  exact⟨v,e,h.below hb⟩
theorem Tryz.elemStrs:Elem prog 96 51 1 24 (.slice none 0 0):=⟨underlying96,by kernel_rfl,rfl,by decide,by decide⟩
theorem OwnRows.at {t t':TypeId} {w0 W:World} {v:Value} {xss:List (List ByteArray)} (h:OwnRows t t' w0 W v xss) (hle:w0.heap.size<=W.heap.size):SeqAt rowS W v xss:=by
 obtain⟨rs,h1,h2⟩:=h;have hz:=upto_size hle;obtain⟨A,c,rfl,h3,h4,h5⟩:=(h1.size flatV hz).at (upto_below hle);rw[h2.len]at h3⊢;refine⟨A,c,rfl,h3,h4,fun i x hx=>?_⟩;obtain⟨r,hr,hs⟩:=h2.at hx;obtain⟨b,o,cs,e,⟨rfl,_⟩,h6⟩:=h5 i r hr;exact⟨b,o,_,e,⟨r,rfl,(hs.size flatS hz).at (upto_below hle)⟩,h6⟩
theorem flatB {W:World} {g:Nat} {t:TypeId} {x:List ByteArray} (h:Blk W g t (x.map Value.string)):Blk W g t (x.map fun s=>[Value.string s]).flatten:=by
 have e:∀l:List ByteArray,(l.map fun s=>[Value.string s]).flatten=l.map Value.string:=by{
 intro l;induction l with
 |nil=>rfl
 |cons a r ih=>rw[List.map_cons,List.flatten_cons,ih];rfl};rwa [e]
theorem bothB (x:List ByteArray) (w:World):Both (strS.R w) (x.map fun s=>[Value.string s]) x:=by
 induction x with
 |nil=>exact .nil
 |cons a r ih=>exact .cons rfl ih
theorem OwnRows.low {t t':TypeId} {w0 w1 W:World} {v:Value} {xss:List (List ByteArray)} (h:OwnRows t t' w1 W v xss) (hs:w0.heap.size<=w1.heap.size):OwnRows t t' w0 W v xss:=by
 obtain⟨rs,h1,h2⟩:=h;exact⟨rs,h1.low flatV hs,h2.mono fun r x h=>h.low flatS hs⟩
theorem OwnSeq.atF {α:Type} {ρ:Shape α} {t:TypeId} {w0 W:World} {v:Value} {xs:List α} (h:OwnSeq ρ t w0 W v xs) (hF:Flat ρ) (hle:w0.heap.size<=W.heap.size):SeqAt ρ W v xs:=(h.size hF (upto_size hle)).at (upto_below hle)
def rowsL (d sp:Nat) (st:ByteArray):List (List ByteArray):=(stripL d st).map fun x=>x++sparL x 28 sp
structure StrI (w w3:World) (go:Nat) (d sp:Int) (xss:List (List ByteArray)) (W:World):Prop where
 box:∃v,Boxed W go 96 v/\OwnRows 51 9 w3 W v xss
 lay:Blk W w.heap.size 24 [.int .i64 d,.int .i64 sp]
 below:Below w.heap.size w W
 le:w3.heap.size<=W.heap.size
theorem StrI.aside {w w3 A B:World} {go bx:Nat} {d sp:Int} {xss:List (List ByteArray)} (h:StrI w w3 go d sp xss A) (ha:rangeOwn.Aside (fun k=>k=bx) w3.heap.size A B) (h1:go<w3.heap.size) (h2:go≠bx) (h3:w.heap.size<bx) (h4:bx<w3.heap.size):StrI w w3 go d sp xss B:=by
 obtain⟨v,hv,ho⟩:=h.box;refine⟨⟨v,(ha.low go h1 h2).trans hv,ho.stay fun k o hk hko hc=>ha.cells k o (show ¬k=bx by omega) hko hc⟩,(ha.low _ (by omega) (show ¬w.heap.size=bx by omega)).trans h.lay,?_,Nat.le_trans h.le ha.size⟩;exact⟨ha.os.trans h.below.os,ha.tape.trans h.below.tape,ha.output.trans h.below.output,Nat.le_trans h.below.size ha.size,fun k hk=>(ha.low k (by omega) (show ¬k=bx by omega)).trans (h.below.block k hk)⟩
theorem str_leaf {w w1 w2 w3 W wq w6 wx:World} {d sp:Int} {v vn:Value} {xss:List (List ByteArray)} (hK:rangeStr.Kept (fun k=>k=w2.heap.size∨k=w2.heap.size+1) W wq) (hB:Below wq.heap.size wq w6) (hbo:Below w3.heap.size w6 wx) (hot:∀k o,w6.heap[k]?=some o->(o.isCells=false∨k<w3.heap.size)->wx.heap[k]?=some o)
  (hr:OwnRows 51 9 w3 wx vn xss) (hbn:Boxed wx w1.heap.size 96 v) (hbl:Below w.heap.size w wq) (hlay:Blk wq w.heap.size 24 [.int .i64 d,.int .i64 sp]) (hle:w3.heap.size<=wq.heap.size)
  (h13:w1.heap.size≠w2.heap.size/\w1.heap.size≠w2.heap.size+1/\w.heap.size≠w1.heap.size/\w.heap.size<=w1.heap.size/\w2.heap.size<w3.heap.size/\w2.heap.size+1<w3.heap.size) (hgl:w1.heap.size<w3.heap.size):
  rangeStr.Kept (fun k=>k=w2.heap.size∨k=w2.heap.size+1) W (wx.setCell ⟨w1.heap.size,0,none⟩ vn)/\StrI w w3 w1.heap.size d sp xss (wx.setCell ⟨w1.heap.size,0,none⟩ vn):=by
 have hsz:=hB.size;have hsx:=hbo.size;refine⟨hK.trans ⟨by simp;omega,fun k o hk ho=>?_⟩,⟨_,Boxed.set vn hbn,hr.stay fun k o hk hko _=>(Below.heap_setCell _ ⟨w1.heap.size,0,none⟩ _ k (show k≠w1.heap.size by omega)).trans hko⟩,?_,?_,by simp;omega⟩;{
 have h6:w6.heap[k]?=some o:=(hB.block k (Array.getElem?_eq_some_iff.1 hk).1).trans hk;have hx:=hot k o h6 (ho.imp id fun h=>by omega);refine(Below.heap_setCell _ ⟨w1.heap.size,0,none⟩ _ k (show k≠w1.heap.size from fun e=>?_)).trans hx;rcases ho with ho|ho;{
 subst e;rw[show wx.heap[w1.heap.size]?=_ from hbn]at hx;cases hx;cases ho};{omega}};{
 have h1:Blk wx w.heap.size 24 [.int .i64 d,.int .i64 sp]:=(hbo.block _ (by omega)).trans ((hlay.kept hB));exact h1.far (p:=⟨w1.heap.size,0,none⟩) (show w.heap.size≠w1.heap.size from h13.2.2.1) vn};{
 have hs:=hbl.size;exact((hbl.trans (hB.mono (by omega))).trans (hbo.mono (by omega))).setCell (p:=⟨w1.heap.size,0,none⟩) (show w.heap.size<=w1.heap.size by omega) vn}
def strTmps (d sp:Int) (st:ByteArray) (g0 go bl:Nat) (q m:Nat) (x:Value):Array Value:=
 #[.agg #[.int .i64 d, .int .i64 sp], .string st, .pointer (some ⟨g0, 0, none⟩), undef, .slice none 0 0, .int .i64 0, .int .i64 0, .pointer (some ⟨go, 0, none⟩), x, undef, undef, .agg #[.int .i64 d, .int .i64 sp], .int .i64 0,
  .int .i64 0,.bool false,undef,.string st,.int .i64 st.size,.pointer (some ⟨g0,0,none⟩),.int .i64 d,.int .i64 q,.int .i64 m,.bool false,.agg #[.int .i64 d,.int .i64 sp],.string st,
  .func (.func 234) #[] #[.pointer (some ⟨bl,0,none⟩),.pointer (some ⟨bl+1,0,none⟩)],x,undef,undef,undef,undef,undef,undef,undef,undef,undef,undef,undef,undef,undef,undef]
theorem laystripes_ok (w:World) (d sp:Nat) (st:ByteArray) (hd:1<=d/\d<=8) (hsp:sp<=7) (hs:st.size<=1835008):Calls prog 84 #[.agg #[.int .i64 (d:Int),.int .i64 (sp:Int)],.string st] w fun e w'=>(∃v,e=.returned (.tuple #[v,.int .i64 0])/\OwnRows 51 9 w w' v (rowsL d sp st))/\Below w.heap.size w w':=by
 have hK:=Blk.new w 24 [.int .i64 (d:Int),.int .i64 (sp:Int)];change Blk (w.alloc (.cells #[.int .i64 (d:Int),.int .i64 (sp:Int)] 24)) _ _ _ at hK;have HK:=zY hK;have HB0:=zY (zBl w (.cells #[.int .i64 (d:Int),.int .i64 (sp:Int)] 24));have HCk:Hid (∀W,Calls prog 45 #[.agg #[.int .i64 (d:Int),.int .i64 (sp:Int)]] W fun e w'=>e=.returned (.int .i64 0)/\Below W.heap.size W w'):=zY (fun W=>by
  have:=laycheck_any W (d:Int) (sp:Int)
  rwa [layE,if_neg (by omega)]at this);obtain⟨q,hq⟩:=zNm (65536*d);have hq1:(65536:Int)*d=q:=by omega
 have hq2:IntKind.i64.wrap ((65536:Int)*d)=q:=by rw[zIw (by omega)];omega
 obtain⟨m,hm⟩:=zNm (q*28);have hm1:(q:Int)*28=m:=by omega
 have hm2:IntKind.i64.wrap ((q:Int)*28)=m:=by rw[zIw (by omega)];omega
 have hlim:¬(m:Int)<st.size:=by omega
 clear hK hq hm;refine(callsIn_wide (n:=0)).1 ?_;refine callsIn_of_wp_marks func84 rfl trivial ?_ rfl;simp only[ntmps84,List.size_toArray,List.length_cons,List.length_nil,Nat.reduceAdd,Nat.reduceSub,Array.replicate_succ,Array.replicate_zero,List.push_toArray,List.append_toArray,List.nil_append,List.cons_append];gi_upto_region 1 with fail;generalize w.alloc (.cells #[.int .i64 (d:Int),.int .i64 (sp:Int)] 24)=wb at *;have c0:=HK.c 0;have c1:=HK.c 1;gi_wp2_with fail;refine⟨trivial,rfl,?_⟩;gi_at_call 45;refine(callsIn_wide.2 (HCk.out _)).mono ?_;rintro e1 w1 ⟨rfl,hb1⟩;have HK1:=zY (HK.kept hb1);have HB1:=zYt HB0 hb1;clear hb1 c0 c1 HCk;have c0:=HK1.c 0;have HG0:=zY (Boxed.new w1 96 (.slice none 0 0));have HB2:=zY (HB1.alloc HB1.size (.cells #[.slice none 0 0] 96));have HK2:=zY (HK1.alloc (.cells #[.slice none 0 0] 96));have Hgo:Hid (w1.heap.size≠w.heap.size):=zY (by have:=HK1.lt;omega);have HGe:Hid (w.heap.size+1<=w1.heap.size):=zY (by have:=HK1.lt;omega);gi_upto_region 7 with fail;generalize w1.alloc (.cells #[.slice none 0 0] 96)=w2 at *;clear c0;have c0:=HK2.c 0;have c1:=HK2.c 1;gi_wp2_with fail;refine⟨trivial,rfl,?_⟩;gi_at_call 158;refine(callsIn_wide.2 (layblocks_any w2 d sp st)).mono ?_;rintro e3 w3 ⟨rfl,hw3⟩;have hsz:w3.heap.size=w2.heap.size+2:=by rw[hw3];simp
 have hL3:Blk w3 w2.heap.size 24 [.int .i64 (d:Int),.int .i64 (sp:Int)]:=by rw[hw3];exact(Blk.new w2 24 [.int .i64 (d:Int),.int .i64 (sp:Int)]).alloc _
 have hX3:Boxed w3 (w2.heap.size+1) 9 (.string st):=by rw[hw3];have:=Boxed.new (w2.alloc (.cells #[.int .i64 (d:Int),.int .i64 (sp:Int)] 24)) 9 (.string st);simpa using this
 have hb3:Below w2.heap.size w2 w3:=by rw[hw3];exact((Below.refl _ _).alloc (Nat.le_refl _) _).alloc (by simp) _
 have h12:w1.heap.size<w2.heap.size:=HG0.lt;have h01:=HGe.out;have hI0:StrI w w3 w1.heap.size d sp [] w3:=⟨⟨_,(hb3.block _ h12).trans HG0.out,OwnRows.nil _⟩,HK2.kept hb3,HB2.trans (hb3.mono HB2.size),Nat.le_refl _⟩;have hIt:=blocks_all w3 w2.heap.size (w2.heap.size+1) d (sp:Int) st hd (by omega) hL3 hX3 (by omega);have HI0:=zY hI0;have HIt:=zY hIt;have Hsz:=zY hsz;have H12:=zY h12;have H01:=zY h01;clear hsz hL3 hX3 hb3 h12 h01 hI0 hIt c0 c1 HG0 HB2 HK2 HK1 HB1 HK HB0 hw3;gi_wp2;have hsz:=Hsz.out;have h12:=H12.out;have h01:=H01.out;refine rangeStr.wpIn_rangeFunc_boxX (gf:=234) (lb:= #[.pointer (some ⟨w2.heap.size,0,none⟩),.pointer (some ⟨w2.heap.size+1,0,none⟩)]) rfl (enters_of func234 (by kernel_rfl) rfl) HIt.out
  (fun k hk=>by subst hk;omega) (fun x args W hr=>by obtain⟨g,e,_⟩:=hr;rw[e];rfl)
  (fun args _=>{ tmps:=strTmps d sp st w.heap.size w1.heap.size w2.heap.size q m (args.getD 0 undef),defers:=[] }) (fun _ W=>W) (fun _ _=>Below.refl _ _)
  (fun pre=>StrI w w3 w1.heap.size d sp (pre.map fun x=>x++sparL x 28 sp))
  (fun x _ a W=>∃g,a={ tmps:=strTmps d sp st w.heap.size w1.heap.size w2.heap.size q m (.slice (some ⟨g,0,none⟩) x.length x.length),defers:=[] }/\Blk W g 9 (x.map Value.string)/\w3.heap.size<=g)
  (fun pre x args W _ _ hr=>by
   obtain⟨g,rfl,h1,h2⟩:=hr
   exact⟨g,rfl,h1,h2⟩)
  (fun x args a A B hb _ ha=>by
   obtain⟨g,e,h1,h2⟩:=hb
   exact⟨g,e,ha.cells _ _ (show ¬g=w2.heap.size+1 by omega) h1 rfl,h2⟩)
  (fun pre A B hi _ ha=>hi.aside ha (by omega) (by omega) (by omega) (by omega)) HI0.out ?assign ?body ?done;case assign=>intro l x args W K hr hK;obtain⟨g,rfl,_⟩:=hr;simp only[strTmps,Array.getD,List.size_toArray,List.length_cons,List.length_nil,Nat.zero_add,Nat.lt_add_one,dite_true,List.getElem_toArray,List.getElem_cons_zero,Array.getInternal_eq_getElem]at hK⊢;gi_wp2;exact hK
 case body=>(
 intro l pre x args a' W hsW hI hbd hpre;obtain⟨g,rfl,hdat,hgg⟩:=hbd;obtain⟨v,hbx,hrow⟩:=hI.box;have hxm:x∈stripL d st:=hpre.subset (by simp);have hxl:x.length=d/\∀b∈x,b.size=28:=by obtain⟨k,_,rfl⟩:=List.mem_map.1 hxm;refine⟨datL_len _ _ _,fun b hb=>?_⟩;obtain⟨j,_,rfl⟩:=List.mem_map.1 hb;exact blockB_size _ _
 have hpl:pre.length<=1000000:=by{
 have h1:=hpre.length_le;rw[List.length_append,List.length_singleton,stripL,List.length_map,List.length_range]at h1;have h2:strN d st.size<=st.size+28*d:=Nat.le_trans (Nat.div_le_self _ _) (by omega);have h3:strN d st.size<=65537:=by{
 unfold strN;apply Nat.le_of_lt_succ;rw[Nat.div_lt_iff_lt_mul (by omega)];have:28*1<=28*d:=by omega
 have:=Nat.mul_le_mul_left (65537+1) this;omega};omega};have hsq:SeqAt strS W (.slice (some ⟨g,0,none⟩) x.length x.length) x:=(OwnSeq.blk (ρ:=strS) (w0:=upto W 0) (css:=x.map fun s=>[Value.string s]) (flatB hdat) (bothB x _) (by simp[upto]) (by omega)).at (upto_below (Nat.zero_le _));have Hen:=zY (eraencode_ok W _ x hsq 28 sp hxl.2 (by omega) (by omega) (by omega));have c1:=hI.lay.c 1;have HLay:=zY hI.lay;have HBl:=zY hI.below;have HLe0:=zY hI.le;have HBx0:=zY hbx;have HR0:=zY hrow;have HD0:=zY hdat;have HGe:=zY hgg;have hl7:(sparL x 28 sp).length<=7:=by simp[sparL];omega
 have HLn:Hid (x.length+(sparL x 28 sp).length<=100000000):=zY (by have:=hxl.1;omega);have HLp:Hid ((pre.map fun x=>x++sparL x 28 sp).length<=1000000):=zY (by rw[List.length_map];exact hpl);have Hgl:Hid (w1.heap.size<w3.heap.size):=zY (by omega);have H13:Hid (w1.heap.size≠w2.heap.size/\w1.heap.size≠w2.heap.size+1/\w.heap.size≠w1.heap.size/\w.heap.size<=w1.heap.size/\w2.heap.size<w3.heap.size/\w2.heap.size+1<w3.heap.size):=zY (by omega);clear hl7 hsq hxl hxm hpre hpl hI hbx hrow hdat hgg hsz h12 h01 hsW HIt;unfold strTmps;gi_wp2_with fail;refine⟨trivial,rfl,?_⟩;refine(CallsIn.inRound l (callsIn_wide.2 Hen.out)).mono ?_;rintro e5 w5 ⟨⟨vs,rfl,hsp5⟩,hb5⟩;have HSp5:=zY hsp5;have HB5:=zY hb5;clear hsp5 hb5 c1 Hen;gi_upto_region 10 with fail;obtain⟨wq,hwq⟩:=zNm (w5.drew);have hbq:Below w5.heap.size w5 wq:=by rw[<-hwq];exact(Below.refl _ _).drew
 have HKq:Hid (rangeStr.Kept (fun k=>k=w2.heap.size∨k=w2.heap.size+1) W wq):=zY ⟨Nat.le_trans HB5.size hbq.size,fun k o hk _=>((HB5.trans (hbq.mono HB5.size)).block k (Array.getElem?_eq_some_iff.1 hk).1).trans hk⟩;have hWq:=HB5.trans (hbq.mono HB5.size);have HBx:Hid (Boxed wq w1.heap.size 96 v):=zY ((hWq.block _ HBx0.lt).trans HBx0.out);have HR:Hid (OwnRows 51 9 w3 wq v (pre.map fun x=>x++sparL x 28 sp)):=zY (HR0.kept hWq);have HD:Hid (Blk wq g 9 (x.map fun s=>[Value.string s]).flatten):=zY (by
  exact flatB (HD0.kept hWq));have HBo:Hid (Both (strS.R w3) (x.map fun s=>[Value.string s]) x):=zY (bothB x _);have HSp:Hid (SeqAt strS wq vs (sparL x 28 sp)):=zY (HSp5.below hbq);have HLe:Hid (w3.heap.size<=wq.heap.size):=zY (Nat.le_trans HLe0.out hWq.size);have HBlq:=zYt HBl hWq;have HLayq:=zY (HLay.kept hWq);have HB:=zY (Below.refl wq.heap.size wq);clear hbq hWq HB5 HSp5 HBx0 HR0 HD0 HLe0 HBl HLay;refine rangeStr.wpIn_region_held (S:=fun _=>True) (by kernel_rfl) (by kernel_rfl) (fun _ _ h=>h) ?_ (fun hHeld=>?_);{exact trivial};rw[hwq];clear hwq;refine tk 1 ?_;refine tk 2 ?_;refine zEs [0,3] (zEc (fun K hK=>?_) (zEc (fun K hK=>?_) AllReadyH.nil));have q0:wq.cell? ⟨w1.heap.size,0,none⟩=some v:=cell_below HB.out HBx.cell;go_simp;clear q0;refine hko hK (by exact trivial) (fun _=>?_);clear hK K;refine zE1 3 fun K hK=>?_;refine wp_append_full (ρ:=strS) (w0:=w3) (css:=x.map fun s=>[.string s]) Tryz.elemStr (.tmp 35) (.tmp 36) rfl rfl HD.out HBo.out HGe.out rfl (SrcAt.flat flatS HSp.out) HLn.out ?_;intro vx1 wx1 hob hbb;obtain⟨Ax,cx,rfl⟩:=hob.slice;generalize hnx:(x++sparL x 28 sp).length=nx at hob⊢;clear hnx;have HN:=zY hob;have HB:=zYt HB hbb;clear hob hbb;refine hko hK (by exact trivial) (fun _=>?_);clear hK K;refine zE1 4 fun K hK=>?_;go_simp;have HX:Hid (Blk (wx1.alloc (.cells #[.slice Ax nx cx] 51)) wx1.heap.size 51 [.slice Ax nx cx]):=zY (Blk.new wx1 51 [.slice Ax nx cx]);have HN:=zY (HN.alloc (.cells #[(.slice Ax nx cx)] 51));have HB:=zY (HB.alloc HB.size (.cells #[(.slice Ax nx cx)] 51));rotate_left;focus(
 refine wp_append_full (ρ:=strS) (w0:=w3) (css:=x.map fun s=>[.string s]) Tryz.elemStr (.tmp 35) (.tmp 36) rfl rfl HD.out HBo.out HGe.out rfl (SrcAt.flat flatS HSp.out) HLn.out ?_;intro vx1 wx1 hob hbb;obtain⟨Ax,cx,rfl⟩:=hob.slice;generalize hnx:(x++sparL x 28 sp).length=nx at hob⊢;clear hnx;have HN:=zY hob;have HB:=zYt HB hbb;clear hob hbb;refine hko hK (by exact trivial) (fun _=>?_);clear hK K;refine zEs [0,4] (zEc (fun K hK=>?_) (zEc (fun K hK=>?_) AllReadyH.nil));have q0:wx1.cell? ⟨w1.heap.size,0,none⟩=some v:=cell_below HB.out HBx.cell;go_simp;clear q0;refine hko hK (by exact trivial) (fun _=>?_);clear hK K;refine zE1 4 fun K hK=>?_;go_simp;have HX:Hid (Blk (wx1.alloc (.cells #[.slice Ax nx cx] 51)) wx1.heap.size 51 [.slice Ax nx cx]):=zY (Blk.new wx1 51 [.slice Ax nx cx]);have HN:=zY (HN.alloc (.cells #[(.slice Ax nx cx)] 51));have HB:=zY (HB.alloc HB.size (.cells #[(.slice Ax nx cx)] 51));rotate_left;go_simp;have HX:Hid (Blk (wx1.alloc (.cells #[.slice Ax nx cx] 51)) wx1.heap.size 51 [.slice Ax nx cx]):=zY (Blk.new wx1 51 [.slice Ax nx cx]);have HN:=zY (HN.alloc (.cells #[(.slice Ax nx cx)] 51));have HB:=zY (HB.alloc HB.size (.cells #[(.slice Ax nx cx)] 51));refine hko hK (by exact trivial) (fun _=>?_);clear hK K;refine zE1 0 fun K hK=>?_;have q0:(wx1.alloc (.cells #[(.slice Ax nx cx)] 51)).cell? ⟨w1.heap.size,0,none⟩=some v:=cell_below HB.out HBx.cell;go_simp;clear q0;rotate_left)
 rotate_left 2;all_goals
 refine hko hK (by exact trivial) (fun _=>?_);clear hK K;refine zE1 5 fun K hK=>?_;refine wp_append_rows (w0:=w3) (T:=9) Tryz.elemStrs (.tmp 34) (.tmp 38) rfl (by decide) rfl (HR.kept HB.out) (Nat.le_trans HLe.out HB.size) rfl HX.out HN.out HLp.out ?_;intro vx2 wx2 hor hbo hot;obtain⟨An,cn,rfl⟩:=hor.slice;generalize hnx:(pre.map (fun x=>x++sparL x 28 sp)++[x++sparL x 28 sp]).length=nn at hor⊢;clear hnx;have HRn:=zY hor;have HBo:=zY hbo;have HOt:=zY hot;clear hor hbo hot;have HBn:Hid (Boxed wx2 w1.heap.size 96 v):=zY ((HBo.block _ Hgl.out).trans ((HB.block _ HBx.lt).trans HBx.out));refine hko hK (by exact trivial) (fun _=>?_);clear hK K;refine zE1 6 fun K hK=>?_;have qc:=HBn.cell;have qf:=HBn.frozen;go_simp;clear qc qf;refine hko hK (by exact trivial) (fun _=>?_);clear hK K;refine wpAnyH_done (by kernel_rfl) ?_ _;refine(show rangeStr.Kept (fun k=>k=w2.heap.size∨k=w2.heap.size+1) W (wx2.setCell ⟨w1.heap.size,0,none⟩ (.slice An nn cn))/\StrI w w3 w1.heap.size d sp ((pre++[x]).map fun x=>x++sparL x 28 sp) (wx2.setCell ⟨w1.heap.size,0,none⟩ (.slice An nn cn)) from ?_);rw[List.map_append];exact str_leaf HKq.out HB.out HBo.out HOt.out HRn.out HBn.out HBlq.out HLayq.out HLe.out H13.out Hgl.out)
 case done=>
 intro D W hD hI hk;obtain⟨v,hbx,hrow⟩:=hI.box;obtain⟨Av,cv,rfl⟩:=hrow.slice;have HR:=zY hrow;have HI:=zY hI;have Hk:=zY hk;have hcell:=hbx.cell;have HsD:=zY (show w.heap.size<=D by omega);have HlE:=zY (show w3.heap.size<=W.heap.size from hI.le);generalize hnx:((stripL d st).map fun x=>x++sparL x 28 sp).length=nn at hcell;have Hnx:=zY hnx;clear hrow hI hk hbx hnx hsz h12 h01 hD HI0 HIt;gi_wp2;have hsz:=HI.below.size;have hns:=Hnx.out;subst hns;have hoth:∀(k:Nat) (o:Obj),W.heap[k]?=some o->o.isCells=true->(W.putObj D (.deferred none)).heap[k]?=some o:=fun k o hko hc=>(World.putObj_heap_other (fun e=>by
  subst e
  rw[Hk.out]at hko
  cases hko
  cases hc)).trans hko;refine⟨by simp,.inl ⟨_,_,rfl,run_takeDeferred Hk.out,_,results_tmp2 rfl _ _ _,⟨_,rfl,(HR.stay fun k o _ hko hc=>hoth k o hko hc).low (by have:=H01.out;have:=H12.out;have:=Hsz.out;omega)⟩,?_⟩⟩;have hbl:=HI.below;exact⟨hbl.os,hbl.tape,hbl.output,Nat.le_trans hbl.size (by simp),fun k hk2=>(World.putObj_heap_other (by have:=HsD.out;omega)).trans (hbl.block k hk2)⟩
end
end Go.Proofs.YthgenkkkapilhaaGreatDoor