/- Texts, joined. -/
import Derived.Test.YthgenkkkapilhaaGreatDoorVTn23
import Derived.Test.YthgenkkkapilhaaGreatDoorVTn32
set_option linter.all false
set_option maxRecDepth 100000
set_option maxHeartbeats 64000000
namespace Go.Proofs.YthgenkkkapilhaaGreatDoor
open Go.Proofs.Tryz
section
open Go.RowKit
theorem BytesAt.belowV {w w':World} {v:Value} {xs:List Nat} (h:BytesAt w v xs) (hb:Below w.heap.size w w'):BytesAt w' v xs:=by
 obtain⟨A,c,e,h1,h2,h3⟩:=h;refine⟨A,c,e,h1,h2,fun i x hi=>?_⟩;obtain⟨b,o,u,e1,hc,hu⟩:=h3 i x hi;exact⟨b,o,u,e1,cell_below hb hc,hu⟩
theorem BytesAt.sliceV {w:World} {v:Value} {xs:List Nat} (h:BytesAt w v xs):∃A c,v=.slice A xs.length c/\xs.length<=c/\c<=9223372036854775807:=by
 obtain⟨A,c,e,h1,h2,_⟩:=h;exact⟨A,c,e,h1,h2⟩
def idxZ (n i:Nat):List Nat:=(List.range n).map fun j=>if j<i then j else 0
theorem eraidx_any (w:World) (n:Nat) (hn:n<=100):Calls prog 237 #[.int .i64 (n:Int)] w fun e w'=>(∃v,e=.returned v/\BytesAt w' v (List.range n))/\Below w.heap.size w w':=by
 have hmk:∀W:World,(Instr.makeSlice 117 (.int .i64 (n:Int)) (.int .i64 (n:Int))).run prog W=.ok (.slice (some ⟨W.heap.size,0,none⟩) n n) (W.alloc (.cells (arrB (idxZ n 0)) 5)):=fun W=>by
  have e:idxZ n 0=List.replicate n 0:=by
   apply List.ext_getElem (by simp[idxZ])
   intro j h1 h2
   simp[idxZ]
  rw[e]
  exact make_u8 n n (Nat.le_refl _) (by omega) W
 have HK0:=zY (U8B.new w (idxZ n 0));have HB0:=zY (zBl w (.cells (arrB (idxZ n 0)) 5));go_enter func237,ntmps237;go_wp2_with fail;try rw[hmk]
 clear hmk;go_wp2;go_loopw [9] (fun x wr=>∃i:Nat,i<=n/\x=.int .i64 (i:Int)/\U8B wr w.heap.size (idxZ n i)/\Below w.heap.size w wr) (fun x _=>n-(intOf x).toNat);case atStart=>exact⟨0,by omega,rfl,HK0.out,HB0.out⟩
 case round=>
 obtain⟨i,hi,rfl,hk,hB⟩:=hrel;have HK:=zY hk;have HB:=zY hB;clear hk hB;by_cases h:i<n;{
 have hiI:(i:Int)<n:=by omega
 have hq:=HK.cell (i:=i) (x:=0) (by simp[idxZ,h]);have hf:=Blk.frozen HK.out i;have hw:IntKind.u8.wrap (i:Int)=i:=by rw[IntKind.wrap_u8];omega
 have hw2:(i:Int)%256=i:=by omega
 have HKn:=zY (HK.set i i);have HSt:Hid ((idxZ n i).set i i=idxZ n (i+1)):=zY (by
  apply List.ext_getElem (by simp[idxZ])
  intro j h1 h2
  rw[List.getElem_set]
  by_cases hj:i=j
  {
  subst hj
  simp[idxZ]}
  ·rw[if_neg hj]
   simp only[idxZ,List.getElem_map,List.getElem_range]
   by_cases h3:j<i
   ·rw[if_pos h3,if_pos (by omega)]
   ·rw[if_neg h3,if_neg (by omega)]);have HBn:=zY (HB.setCell (show w.heap.size<=(⟨w.heap.size,i,none⟩:Addr).block from Nat.le_refl _) (.int .u8 (i:Int)));rw[HSt.out]at HKn;go_wp2;go_roundw;case rel=>exact⟨i+1,by omega,by go_num,HKn.out,HBn.out⟩
 case measure=>simp[intOf];omega};{
 obtain rfl:i=n:=by omega
 have hiI:¬((i:Nat):Int)<(i:Int):=by omega
 go_wp2;go_ret;have e:idxZ i i=List.range i:=by{
 apply List.ext_getElem (by simp[idxZ]);intro j h1 h2;have:j<i:=by simpa using h2
 simp[idxZ,this]};refine⟨⟨_,rfl,?_⟩,HB.out⟩;rw[<-e];exact HK.bytes (by simp[idxZ]) (Nat.le_refl _) (by omega)}
def wgtL (xs:List Nat) (x:Nat):List Nat:=(List.range xs.length).map (wgt xs x)
def wgtZ (xs:List Nat) (x k:Nat):List Nat:=(List.range xs.length).map fun j=>if j<k then wgt xs x j else 0
theorem wgtZ_step {xs:List Nat} {x k:Nat}:(wgtZ xs x k).set k (wgt xs x k)=wgtZ xs x (k+1):=by
 apply List.ext_getElem (by simp[wgtZ]);intro j h1 h2;rw[List.getElem_set];by_cases hj:k=j;{
 subst hj;simp[wgtZ]};{
 rw[if_neg hj];simp only[wgtZ,List.getElem_map,List.getElem_range];by_cases h3:j<k;{rw[if_pos h3,if_pos (by omega)]};{rw[if_neg h3,if_neg (by omega)]}}
def IntF (w':World) (xs:List Nat) (x:Nat) (e:Ending):Prop:=∃(g:Nat) (vw:Value),e=.returned (.func (.func 191) #[] #[.pointer (some ⟨g,0,none⟩)])/\w'.cell? ⟨g,0,none⟩=some vw/\BytesAt w' vw (wgtL xs x)
theorem eraint_any (w:World) (v:Value) (xs:List Nat) (hv:BytesAt w v xs) (x:Nat) (hx:x<256) (hl:xs.length<=15) (hb:∀i,cf xs i<256) (hd:∀i j,i<xs.length->j<xs.length->i≠j->cf xs i≠cf xs j):
  Calls prog 114 #[v,.int .u8 (x:Int)] w fun e w'=>IntF w' xs x e/\Below w.heap.size w w':=by
 have Hv:=zY hv;obtain⟨A,c,rfl,h1,h2⟩:=hv.sliceV;have HEq:=zY (fun k (hk:k<xs.length) i (hi:i<=xs.length)=>wgt_eq (xs:=xs) (k:=k) hx hb (fun i hi hne=>hd k i hk hi (Ne.symm hne)) i hi);have Hb:=zY hb;have Hx:=zY hx;clear hv hb hd;have hmk:∀W:World,(Instr.makeSlice 117 (.int .i64 (xs.length:Int)) (.int .i64 (xs.length:Int))).run prog W=.ok (.slice (some ⟨W.heap.size,0,none⟩) xs.length xs.length) (W.alloc (.cells (arrB (wgtZ xs x 0)) 5)):=fun W=>by
  have e:wgtZ xs x 0=List.replicate xs.length 0:=by
   apply List.ext_getElem (by simp[wgtZ])
   intro j h1 h2
   simp[wgtZ]
  rw[e]
  exact make_u8 _ _ (Nat.le_refl _) (by omega) W
 have HW0:=zY (U8B.new w (wgtZ xs x 0));have HBa:=zY (zBl w (.cells (arrB (wgtZ xs x 0)) 5));go_enter func114,ntmps114;go_wp2_with fail;try rw[hmk]
 clear hmk;have HSz:Hid ((w.alloc (.cells (arrB (wgtZ xs x 0)) 5)).heap.size=w.heap.size+1):=zY (by show (w.heap.push _).size=_;rw[Array.size_push]);generalize w.alloc (.cells (arrB (wgtZ xs x 0)) 5)=wa at *;have HP0:=zY (Blk.new wa 117 [.slice (some ⟨w.heap.size,0,none⟩) xs.length xs.length]);have HW1:=zY (Blk.alloc HW0.out (.cells #[.slice (some ⟨w.heap.size,0,none⟩) xs.length xs.length] 117));have HBb:=zY (HBa.alloc HBa.size (.cells #[.slice (some ⟨w.heap.size,0,none⟩) xs.length xs.length] 117));have HNe:Hid (w.heap.size+1≠w.heap.size):=zY (by omega);have HGw:Hid (w.heap.size<=w.heap.size):=zY (Nat.le_refl _);obtain⟨gw,hgw⟩:∃g,g=w.heap.size:=⟨_,rfl⟩;go_upto_region 2 with fail;change Blk (wa.alloc (.cells #[.slice (some ⟨w.heap.size,0,none⟩) xs.length xs.length] 117)) _ _ _ at HP0;have HP0:=zY HP0;rw[HSz.out]at HP0;generalize wa.alloc (.cells #[.slice (some ⟨w.heap.size,0,none⟩) xs.length xs.length] 117)=wb at *;rw[<-hgw]at HP0 HW1 HNe HGw⊢;clear HSz HBa HW0;have HGw:Hid (w.heap.size<=gw):=zY (by omega);have Hgw:=zY hgw;clear hgw;go_wp2;go_loopw [15] (fun y wr=>∃k:Nat,k<=xs.length/\y=.int .i64 (k:Int)/\U8B wr gw (wgtZ xs x k)/\Blk wr (gw+1) 117 [.slice (some ⟨gw,0,none⟩) xs.length xs.length]/\Below w.heap.size w wr) (fun y _=>xs.length-(intOf y).toNat);case atStart=>exact⟨0,by omega,rfl,HW1.out,HP0.out,HBb.out⟩
 case round=>
 obtain⟨k,hk,rfl,hw,hp,hB⟩:=hrel;have HW:=zY hw;have HP:=zY hp;have HB:=zY hB;clear hw hp hB;obtain⟨wo,rfl⟩:∃x,x=wr:=⟨_,rfl⟩;by_cases h:k<xs.length;{
 have hkI:(k:Int)<xs.length:=by omega
 have hkb:=Hb.out k;obtain⟨_,_,e9,_,_,h3⟩:=Hv.belowV HB.out;cases e9;have H3:=zY h3;clear h3;go_wp2;go_loopw [7,8,20] (fun y z t wr=>∃m:Nat,m<=xs.length/\t=.int .i64 (m:Int)/\y=.int .u8 ((aboR xs k x m:Nat):Int)/\z=.int .u8 ((belR xs k m:Nat):Int)/\Below wo.heap.size wo wr) (fun _ _ t _=>xs.length-(intOf t).toNat);case atStart=>exact⟨0,by omega,rfl,rfl,rfl,Below.refl _ _⟩
 case round=>
 obtain⟨m,hm,rfl,rfl,rfl,hbr⟩:=hrel;have HBr:=zY hbr;clear hbr;by_cases h':m<xs.length;{
 have hmI:(m:Int)<xs.length:=by omega
 obtain⟨b,o,u,rfl,hcm,rfl⟩:=H3.out m xs[m] (List.getElem?_eq_getElem h');obtain⟨b2,o2,u2,e2,hck,rfl⟩:=H3.out k xs[k] (List.getElem?_eq_getElem h);cases e2;have em:xs[m]=cf xs m:=(cf_get (List.getElem?_eq_getElem h')).symm;have ek:xs[k]=cf xs k:=(cf_get (List.getElem?_eq_getElem h)).symm;rw[em]at hcm;rw[ek]at hck;have hmb:=Hb.out m;have ha:=aboR_lt (xs:=xs) (k:=k) (x:=x) m;have hbe:=belR_lt (xs:=xs) (k:=k) m;have Hsa:Hid (aboR xs k x (m+1)=if m=k then aboR xs k x m else gmul (aboR xs k x m) (x^^^cf xs m)):=zY (by rw[aboR]);have Hsb:Hid (belR xs k (m+1)=if m=k then belR xs k m else gmul (belR xs k m) (cf xs k^^^cf xs m)):=zY (by rw[belR]);have hcm':wr.cell? ⟨b,o+m,none⟩=some (.int .u8 ((cf xs m:Nat):Int)):=cell_below HBr.out hcm;have hck':wr.cell? ⟨b,o+k,none⟩=some (.int .u8 ((cf xs k:Nat):Int)):=cell_below HBr.out hck;generalize aboR xs k x m=p at *;generalize belR xs k m=q at *;generalize hM:cf xs m=M at *;generalize hK:cf xs k=K at *;clear hcm hck em ek hM hK;by_cases hmk:m=k;{
 have i1:((m:Int) != k)=false:=by rw[hmk];simp
 rw[if_pos hmk]at Hsa Hsb;clear hmk;go_wp2;go_roundw;case rel=>exact⟨m+1,by omega,by go_num,by rw[Hsa.out],by rw[Hsb.out],HBr.out⟩
 case measure=>simp[intOf];omega};{
 have i1:((m:Int) != k)=true:=by rw[bne_iff_ne];omega
 rw[if_neg hmk]at Hsa Hsb;clear hmk;have hxM:x^^^M<256:=xor_lt Hx.out hmb;have hKM:K^^^M<256:=xor_lt hkb hmb;have HA1:=zY (fun W=>gadd_any W x M Hx.out hmb);have HM1:=zY (fun W=>gmul_any W p (x^^^M) ha hxM);have HA2:Hid (∀W,Calls prog 189 #[.int .u8 (K:Int),.int .u8 (M:Int)] W fun e w'=>e=.returned (.int .u8 ((K^^^M:Nat):Int))/\w'=W):=zY (fun W=>(gadd_any W K M hkb hmb).mono fun _ _ ⟨h1,h2⟩=>⟨h1,h2.symm⟩);have HM2:Hid (∀W,Calls prog 188 #[.int .u8 (q:Int),.int .u8 ((K^^^M:Nat):Int)] W fun e w'=>e=.returned (.int .u8 ((gmul q (K^^^M):Nat):Int))/\w'=W):=zY (fun W=>(gmul_any W q (K^^^M) hbe hKM).mono fun _ _ ⟨h1,h2⟩=>⟨h1,h2.symm⟩);generalize x^^^M=xM at *;generalize K^^^M=KM at *;generalize gmul p xM=r1 at *;generalize gmul q KM=r2 at *;go_wp2_with fail;refine(HA1.out _).mono ?_;rintro e3 w3 ⟨rfl,rfl⟩;go_wp2_with fail;refine(HM1.out _).mono ?_;rintro e4 w4 ⟨rfl,rfl⟩;go_upto_region 11 with fail;go_quiet (first|(go_at_call 189;refine Calls.quiet_of_same (HA2.out _))|(go_at_call 188;refine Calls.quiet_of_same (HM2.out _)));go_wp2;go_roundw;case rel=>exact⟨m+1,by omega,by go_num,by rw[Hsa.out],by rw[Hsb.out],blwN HBr.out _⟩
 case measure=>simp[intOf];omega}};{
 obtain rfl:m=xs.length:=by omega
 have hmI:¬((xs.length:Nat):Int)<(xs.length:Int):=by omega
 obtain⟨hwe,hbn⟩:=HEq.out k h xs.length (Nat.le_refl _);have ha:=aboR_lt (xs:=xs) (k:=k) (x:=x) xs.length;have hbe:=belR_lt (xs:=xs) (k:=k) xs.length;have HDv:Hid (∀W:World,Calls prog 190 #[.int .u8 ((aboR xs k x xs.length:Nat):Int),.int .u8 ((belR xs k xs.length:Nat):Int)] W fun e w'=>e=.returned (.tuple #[.int .u8 ((wgt xs x k:Nat):Int),.bool true])/\Below W.heap.size W w'):=zY (fun W=>by
  have:=gdiv_any W _ _ ha hbe
  rw[gdivR,if_neg hbn]at this
  rw[wgt,hwe]
  exact this);have HRk:Hid ((wgtZ xs x k)[k]?=some 0):=zY (by simp[wgtZ,h]);have HSt:Hid ((wgtZ xs x k).set k (wgt xs x k)=wgtZ xs x (k+1)):=zY wgtZ_step;clear hwe hbn ha hbe;have HPr:=zY (HP.kept HBr.out);have HWr:=zY (show U8B wr gw (wgtZ xs x k) from Blk.kept HW.out HBr.out);have HBx:=zY (HB.trans (HBr.mono HB.size));generalize aboR xs k x xs.length=p at *;generalize belR xs k xs.length=q at *;go_upto_region 13 with fail;have HPc:=zY (HPr.kept (Below.refl _ _).drew);have HWc:=zY (show U8B wr.drew gw (wgtZ xs x k) from Blk.kept HWr.out (Below.refl _ _).drew);have HBc:=zY HBx.drew;refine wp_region_held_drew (S:=(fun W=>W.cell? ⟨gw+1,0,none⟩=some (.slice (some ⟨gw,0,none⟩) xs.length xs.length))) (by kernel_rfl) ?_ (fun hHeld=>?_);{exact HPc.c 0};refine tk 0 ?_;refine tk 1 ?_;refine tk 2 ?_;refine tk 3 ?_;refine zE1 4 fun K hK=>?_;go_simp;refine(HDv.out _).mono ?_;rintro e5 w5 ⟨rfl,hb5⟩;(try go_wp2_with fail);have HPc:=zY (HPc.kept hb5);have HWc:=zY (HWc.kept hb5);have HBc:=zYt HBc hb5;clear hb5;refine hko hK (by exact HPc.c 0) (fun _=>?_);clear hK K;refine tk 5 ?_;refine tk 6 ?_;refine tk 7 ?_;refine tk 8 ?_;refine zE1 9 fun K hK=>?_;have qc:=U8B.cell HWc.out (i:=k) (x:=0) HRk.out;have qz:=Blk.frozen HWc.out k;go_simp;have HWn:=zY (U8B.set HWc.out k (wgt xs x k));have HPn:=zY (HPc.far (p:=⟨gw,k,none⟩) (by simp) (.int .u8 ((wgt xs x k:Nat):Int)));have HBn:=zY (HBc.setCell (show w.heap.size<=(⟨gw,k,none⟩:Addr).block from HGw.out) (.int .u8 ((wgt xs x k:Nat):Int)));rw[HSt.out]at HWn;have HPc:=HPn;clear qc qz;refine hko hK (by exact HPc.c 0) (fun _=>?_);clear hK K
 refine wpAnyH_done (by kernel_rfl) ?_ _;go_wp2_with fail;go_roundw;case rel=>exact⟨k+1,by omega,by go_num,HWn.out,HPn.out,HBn.out⟩
 case measure=>simp[intOf];omega}};{
 obtain rfl:k=xs.length:=by omega
 have hkI:¬((xs.length:Nat):Int)<(xs.length:Int):=by omega
 go_wp2;go_ret;have e:wgtZ xs x xs.length=wgtL xs x:=by{
 apply List.ext_getElem (by simp[wgtZ,wgtL]);intro j h1 h2;have:j<xs.length:=by simpa [wgtL]using h2
 simp[wgtZ,wgtL,this]};refine⟨⟨_,_,rfl,HP.c 0,?_⟩,HB.out⟩;rw[<-e];exact HW.bytes (by simp[wgtZ]) (Nat.le_refl _) (by omega)}
theorem eraint1_any (w:World) (v:Value) (bl:List ByteArray) (hv:SeqAt strS w v bl) (xs:List Nat) (x n gp:Nat) (vw:Value) (hg:w.cell? ⟨gp,0,none⟩=some vw) (hw:BytesAt w vw (wgtL xs x)) (hn:∀b∈bl,b.size=n) (hl:bl.length=xs.length) (h0:1<=xs.length) (h15:xs.length<=15) (hn2:n<=1000):
  Calls prog 191 #[v,.pointer (some ⟨gp,0,none⟩)] w fun e w'=>e=.returned (.string (strB (atE xs (bl.map bs) n x)))/\Below w.heap.size w w':=by
 obtain⟨R,hR⟩:=zNm (atE xs (bl.map bs) n x);rw[hR];have HR:=zY hR;have Hv:=zY hv;have Hw:=zY hw;have Hn:=zY hn;have Hl:=zY hl;obtain⟨A,c,rfl,h1,h2⟩:=hv.slice;have hwl:(wgtL xs x).length=xs.length:=by simp[wgtL]
 obtain⟨Aw,cw,hvw,h3,h4⟩:=hw.sliceV;rw[hwl]at hvw h3;subst hvw;have HCk:Hid (∀W,Below w.heap.size w W->W.cell? ⟨gp,0,none⟩=some (.slice Aw xs.length cw)):=zY (fun W hW=>cell_below hW hg);have hb0:0<bl.length:=by omega
 have hb0I:(0:Int)<bl.length:=by omega
 obtain⟨_,_,e9,_,_,h5⟩:=hv;cases e9;obtain⟨b0,o0,cs,rfl,rfl,hc⟩:=h5 0 bl[0] (List.getElem?_eq_getElem hb0);have q0:w.cell? ⟨b0,o0+0*1+0,none⟩=some (.string bl[0]):=hc 0 _ rfl;simp only[Nat.zero_mul,Nat.add_zero]at q0;obtain⟨B0,hB0⟩:=zNm (bl[0]);have hBz:B0.size=n:=by rw[<-hB0];exact hn _ (List.getElem_mem hb0)
 rw[hB0]at q0;have Hwl:=zY hwl;clear hR hw hn hg hc h5 hB0 hl hwl;have hmk:∀W:World,(Instr.makeSlice 117 (.int .i64 (n:Int)) (.int .i64 (n:Int))).run prog W=.ok (.slice (some ⟨W.heap.size,0,none⟩) n n) (W.alloc (.cells (arrB (rowE xs (bl.map bs) n x 0 0)) 5)):=fun W=>by
  rw[rowE_zero]
  exact make_u8 n n (Nat.le_refl _) (by omega) W
 have HW0:=zY (U8B.new w (rowE xs (bl.map bs) n x 0 0));have HBa:=zY (zBl w (.cells (arrB (rowE xs (bl.map bs) n x 0 0)) 5));have HGe:Hid (w.heap.size<=w.heap.size):=zY (Nat.le_refl _);obtain⟨g,hgg⟩:∃g,g=w.heap.size:=⟨_,rfl⟩;go_enter func191,ntmps191;go_wp2_with fail;try rw[hBz,hmk]
 clear hmk;go_upto_region 2 with fail;generalize w.alloc (.cells (arrB (rowE xs (bl.map bs) n x 0 0)) 5)=wa at *;have HW1:Hid (U8B wa g (rowE xs (bl.map bs) n x 0 0)):=zY (by rw[hgg];exact HW0.out);have HGe:Hid (w.heap.size<=g):=zY (by omega);try rw[<-hgg]
 have Hgg:=zY hgg;clear hgg HW0 q0 hBz;clear h0;go_wp2;go_loopw [15] (fun y wr=>∃k:Nat,k<=xs.length/\y=.int .i64 (k:Int)/\U8B wr g (rowE xs (bl.map bs) n x k 0)/\Below w.heap.size w wr) (fun y _=>xs.length-(intOf y).toNat);case atStart=>exact⟨0,by omega,rfl,HW1.out,HBa.out⟩
 case round=>
 obtain⟨k,hk,rfl,hr,hB⟩:=hrel;have HRo:=zY hr;have HB:=zY hB;clear hr hB;obtain⟨wo,rfl⟩:∃x,x=wr:=⟨_,rfl⟩;by_cases h:k<xs.length;{
 have hkI:(k:Int)<xs.length:=by omega
 have hkl:k<bl.length:=by have:=Hl.out;omega
 have hkJ:(k:Int)<bl.length:=by omega
 obtain⟨B,hBk⟩:∃B,bl[k]?=some B:=⟨_,List.getElem?_eq_getElem hkl⟩;have hBz:B.size=n:=Hn.out B (List.mem_of_getElem? hBk);obtain⟨_,_,e9,_,_,h5⟩:=Hv.below HB.out;have e10:=(Value.slice.inj e9).1;clear e9;obtain⟨b1,o1,cs,e11,rfl,hc⟩:=h5 k B hBk;rw[e11]at e10;cases e10;have q0:wo.cell? ⟨b0,o0+k*1,none⟩=some (.string B):=hc 0 _ rfl;rw[Nat.mul_one]at q0;obtain⟨_,_,e9,_,_,h6⟩:=Hw.out;have e10:=(Value.slice.inj e9).1;clear e9;obtain⟨a,ha⟩:=zNm (wgt xs x k);obtain⟨bw,ow,u,e11,hcw,rfl⟩:=h6 k a (by simp[wgtL,h,ha]);rw[e11]at e10;cases e10;have HCS:Hid (∀W,Below w.heap.size w W->W.cell? ⟨gp,0,none⟩=some (.slice (some ⟨bw,ow,none⟩) xs.length cw)/\W.cell? ⟨bw,ow+k,none⟩=some (.int .u8 (a:Int))):=zY (fun W hW=>⟨HCk.out W hW,cell_below hW hcw⟩);have Ha:Hid (a<256):=zY (by rw[<-ha];exact wgt_lt _ _ _);have HBk:=zY hBk;have Hae:=zY ha;have HBz:=zY hBz;clear hc h5 h6 hcw ha hBk hBz hkl;go_wp2;go_loopw [22] (fun y wr=>∃i:Nat,i<=n/\y=.int .i64 (i:Int)/\U8B wr g (rowE xs (bl.map bs) n x k i)/\Below w.heap.size w wr) (fun y _=>n-(intOf y).toNat);case atStart=>exact⟨0,by omega,rfl,HRo.out,HB.out⟩
 case round=>
 obtain⟨i,hi,rfl,hr,hB2⟩:=hrel;have HRr:=zY hr;have HBr:=zY hB2;clear hr hB2 q0;by_cases h':i<n;{
 have hiI:(i:Int)<n:=by omega
 have hiB:i<B.size:=by rw[HBz.out];exact h'
 have hiBI:(i:Int)<B.size:=by omega
 obtain⟨b,hb⟩:=zNm ((B[i]'hiB).toNat);have hbI:(((B[i]'hiB).toNat:Nat):Int)=(b:Int):=by rw[hb]
 have Hb:Hid (b<256):=zY (by rw[<-hb];exact UInt8.toNat_lt _);have hbc:cf ((bl.map bs).getD k []) i=b:=by rw[List.getD,List.getElem?_map,HBk.out];show cf (bs B) i=b;rw[bsc B i hiB,hb]
 obtain⟨c0,hc0⟩:=zNm (cf (rowE xs (bl.map bs) n x k i) i);have HRi:Hid ((rowE xs (bl.map bs) n x k i)[i]?=some c0):=zY (by
  have hl':i<(rowE xs (bl.map bs) n x k i).length:=by rw[rowE_len];exact h'
  rw[List.getElem?_eq_getElem hl',<-hc0,cf_get (List.getElem?_eq_getElem hl')]);have Hc0:Hid (c0<256):=zY (rowE_lt _ (List.mem_of_getElem? HRi.out));have HSt:Hid ((rowE xs (bl.map bs) n x k i).set i (c0^^^gmul a b)=rowE xs (bl.map bs) n x k (i+1)):=zY (by rw[<-hc0,<-Hae.out,<-hbc];exact rowE_step h');clear hb hbc hc0;go_upto_region 8 with fail;have HRc:=zY (show U8B wr.drew g (rowE xs (bl.map bs) n x k i) from Blk.kept HRr.out (Below.refl _ _).drew);have HBc:=zY HBr.drew;refine wp_region_held_drew (S:=(fun W=>W.cell? ⟨gp,0,none⟩=some (.slice (some ⟨bw,ow,none⟩) xs.length cw)/\W.cell? ⟨bw,ow+k,none⟩=some (.int .u8 (a:Int)))) (by kernel_rfl) ?_ (fun hHeld=>?_);{first|exact HCS.out _ HBn.out|exact HCS.out _ HBc.out};refine tk 0 ?_;refine tk 1 ?_;refine tk 2 ?_;refine tk 3 ?_;refine tk 4 ?_;refine tk 6 ?_;refine tk 7 ?_;refine tk 8 ?_;refine tk 9 ?_;refine tk 10 ?_;refine tk 11 ?_;refine tk 12 ?_;refine take_call (i:=13) (oi:=_) (v:=(.int .u8 ((gmul a b:Nat):Int))) rfl (by kernel_rfl) (by kernel_rfl) (by kernel_rfl) (fun _ _ _ h=>h) (And.intro (by rfl) ?hy13) (by assumption) ?rest13;case hy13=>intro W hSw;exact⟨188,#[.int .u8 (a:Int),.int .u8 (b:Int)],by go_simp,gmul_any W a b Ha.out Hb.out⟩
 try simp only[Act.put,List.setIfInBounds_toArray,List.set_cons_zero,List.set_cons_succ]
 try simp only[List.getElem_toArray,List.getElem_cons_zero,List.getElem_cons_succ]
 refine zE1 5 fun K hK=>?_;have q0:=U8B.cell HRc.out (i:=i) (x:=c0) HRi.out;have q1:wr.cell? ⟨g,i,none⟩=some (.int .u8 (c0:Int)):=q0;clear q0;go_simp;clear q1;refine hko hK (by first|exact HCS.out _ HBn.out|exact HCS.out _ HBc.out) (fun _=>?_);clear hK K;refine take_call (i:=14) (oi:=_) (v:=(.int .u8 ((c0^^^gmul a b:Nat):Int))) rfl (by kernel_rfl) (by kernel_rfl) (by kernel_rfl) (fun _ _ _ h=>h) (And.intro (by rfl) ?hy14) (by assumption) ?rest14;case hy14=>intro W hSw;exact⟨189,#[.int .u8 (c0:Int),.int .u8 (gmul a b:Int)],by go_simp,gadd_any W c0 (gmul a b) Hc0.out (gmul_lt _ Ha.out)⟩
 try simp only[Act.put,List.setIfInBounds_toArray,List.set_cons_zero,List.set_cons_succ]
 try simp only[List.getElem_toArray,List.getElem_cons_zero,List.getElem_cons_succ]
 refine tk 15 ?_;refine zE1 16 fun K hK=>?_;have qc0:=U8B.cell HRc.out (i:=i) (x:=c0) HRi.out;have qc:wr.cell? ⟨g,i,none⟩=some (.int .u8 (c0:Int)):=qc0;have qz0:=Blk.frozen HRc.out i;have qz:wr.frozen? ⟨g,i,none⟩=false:=qz0;clear qc0 qz0;go_simp;have HRn:=zY (U8B.set HRc.out i (c0^^^gmul a b));have HBn:=zY (HBc.setCell (show w.heap.size<=(⟨g,i,none⟩:Addr).block from HGe.out) (.int .u8 ((c0^^^gmul a b:Nat):Int)));rw[HSt.out]at HRn;clear qc qz;refine hko hK (by first|exact HCS.out _ HBn.out|exact HCS.out _ HBc.out) (fun _=>?_);clear hK K;refine wpAnyH_done (by kernel_rfl) ?_ _;go_wp2_with fail;go_roundw;case rel=>exact⟨i+1,by omega,by go_num,HRn.out,HBn.out⟩
 case measure=>simp[intOf];omega};{
 obtain rfl:i=n:=by omega
 have hiI:¬((i:Nat):Int)<(i:Int):=by omega
 have HRn:Hid (U8B wr g (rowE xs (bl.map bs) i x (k+1) 0)):=zY (by rw[<-rowE_next];exact HRr.out);go_wp2;go_roundw;case rel=>exact⟨k+1,by omega,by go_num,HRn.out,HBr.out⟩
 case measure=>simp[intOf];omega}};{
 obtain rfl:k=xs.length:=by omega
 have hkI:¬((xs.length:Nat):Int)<(bl.length:Int):=by have:=Hl.out;omega
 have HRe:Hid (U8B wo g R):=zY (by rw[<-HR.out,<-rowE_all];exact HRo.out);have hRl:n=R.length:=by rw[<-HR.out,atE_len]
 have hcv:(convert 117 9 (.slice (some ⟨g,0,none⟩) n n)).run prog wo=.ok (.string (strB R)) wo:=run_toStr (p:=R) (HRe.bytes hRl (Nat.le_refl _) (by omega)) hRl;clear hRl;go_wp2;go_ret;exact⟨rfl,HB.out⟩}
def sparL (data:List ByteArray) (n s:Nat):List ByteArray:=(List.range s).map fun i=>strB (atE (List.range data.length) (data.map bs) n (data.length+i))
theorem sparL_succ (data:List ByteArray) (n s:Nat):sparL data n (s+1)=sparL data n s++[strB (atE (List.range data.length) (data.map bs) n (data.length+s))]:=by
 unfold sparL;rw[List.range_succ,List.map_append];rfl
theorem cf_range {n i:Nat} (h:i<n):cf (List.range n) i=i:=by
 rw[cf,List.getElem?_range h];rfl
theorem cf_range_lt {n:Nat} (h:n<=256) (i:Nat):cf (List.range n) i<256:=by
 by_cases hi:i<n;{rw[cf_range hi];omega};{
 rw[cf,List.getElem?_eq_none (by simp;omega)];decide}
theorem eraenc1_any (w:World) (s:ByteArray) (data:List ByteArray) (v:Value) (hv:SeqAt strS w v data) (hs:s∈data) (n:Nat) (hn:∀b∈data,b.size=n) (g:Nat) (hg:w.cell? ⟨g,0,none⟩=some v):Calls prog 236 #[.string s,.pointer (some ⟨g,0,none⟩)] w fun e w'=>e=.returned (.bool false)/\Below w.heap.size w w':=by
 have hsz:=hn s hs;have h0:0<data.length:=List.length_pos_of_mem hs;obtain⟨A,c,rfl,h1,h2,h3⟩:=hv;obtain⟨b,o,cs,rfl,rfl,hc⟩:=h3 0 data[0] (List.getElem?_eq_getElem h0);have q0:w.cell? ⟨b,o+0*1+0,none⟩=some (.string data[0]):=hc 0 _ rfl;simp only[Nat.zero_mul,Nat.add_zero]at q0;obtain⟨B0,hB0⟩:=zNm (data[0]);have hBz:B0.size=n:=by rw[<-hB0];exact hn _ (List.getElem_mem h0)
 rw[hB0]at q0;have h0I:(0:Int)<data.length:=by omega
 have e:((s.size:Int) != (B0.size:Int))=false:=by rw[hsz,hBz];simp
 clear hn hs hc h3 hB0 hsz hBz h0;go_enter func236,ntmps236;go_wp2;go_ret;exact⟨rfl,Below.refl _ _⟩
theorem eraencode_ok (w:World) (v:Value) (data:List ByteArray) (hv:SeqAt strS w v data) (n s:Nat) (hn:∀b∈data,b.size=n) (hn2:n<=1000) (hd:1<=data.length) (hs:data.length+s<=15):
  Calls prog 159 #[v,.int .i64 (s:Int)] w fun e w'=>(∃v',e=.returned (.tuple #[v',.int .i64 0])/\SeqAt strS w' v' (sparL data n s))/\Below w.heap.size w w':=by
 obtain⟨A,c,rfl,h1,h2⟩:=hv.slice;have hK:=Blk.new w 51 [.slice A data.length c];change Blk (w.alloc (.cells #[.slice A data.length c] 51)) _ _ _ at hK;have HB0:=zY (zBl w (.cells #[.slice A data.length c] 51));have HK:=zY hK;have Hv:=zY (hv.below HB0.out);have Hn:=zY hn;have Hn2:=zY hn2;have Hd1:=zY hd;have Hd15:Hid (data.length<=15):=zY (by omega);have Hds:=zY hs;have i1:((data.length:Int)==0)=false:=by rw[beq_eq_false_iff_ne];omega
 have i2:¬(s:Int)<0:=by omega
 have i3:¬(15:Int)<data.length:=by omega
 obtain⟨r,hr⟩:=zNm (15-data.length);have i4:(15:Int)-data.length=r:=by omega
 have i5:¬(r:Int)<s:=by omega
 have hdn:data.length<=100:=by omega
 have HF:Hid (data.any (fun _=>false)=false):=zY (by rw[List.any_eq_false];intro x _;decide);clear hv hK hn hr;go_enter func159,ntmps159;go_upto_region 1 with fail;generalize w.alloc (.cells #[.slice A data.length c] 51)=wb at *;have c0:=HK.c 0;have HC:=zY (contStr_any wb (.slice A data.length c) data Hv.out 236 #[.pointer (some ⟨w.heap.size,0,none⟩)] (enters_of func236 (by kernel_rfl) rfl) (fun _=>false) (fun W x hW hx=>eraenc1_any W x data _ (Hv.below hW) hx n Hn.out w.heap.size ((HK.kept hW).c 0)));rw[HF.out]at HC;go_wp2_with fail;refine HC.mono ?_;rintro e1 w1 ⟨rfl,hb1⟩;have HB1:=zY hb1;have HK1:=zY (HK.kept hb1);clear hb1 c0 HC;have c0:=HK1.c 0;go_wp2_with fail;refine(eraidx_any w1 data.length hdn).mono ?_;rintro e2 w2 ⟨⟨vx,rfl,hx⟩,hb2⟩;have HB2:=zYt HB1 hb2;have HK2:=zY (HK1.kept hb2);have Hv2:=zY (Hv.below HB2.out);have HVx:=zY hx;obtain⟨Ax,cx,rfl,_,_⟩:=hx.sliceV;clear hb2 c0 hx;have HIn0:Hid (∀(i:Nat),i<s->∀W,Below w2.heap.size w2 W->Calls prog 114 #[.slice Ax (List.range data.length).length cx,.int .u8 ((data.length+i:Nat):Int)] W fun e w'=>IntF w' (List.range data.length) (data.length+i) e/\Below W.heap.size W w'):=zY (fun i hi W hW=>eraint_any W _ _ (HVx.belowV hW) _ (by have:=Hds.out;omega) (by simp;exact Hd15.out) (cf_range_lt (by have:=Hd15.out;omega)) (fun a b ha hb hne=>by
  simp only[List.length_range]at ha hb
  rw[cf_range ha,cf_range hb]
  exact hne));have hrl:(List.range data.length).length=data.length:=List.length_range;rw[hrl]at HIn0⊢;clear hrl;go_wp2;go_loopw [7,35] (fun y x wr=>∃i:Nat,i<=s/\x=.int .i64 (i:Int)/\OwnSeq strS 9 w2 wr y (sparL data n i)/\Below w2.heap.size w2 wr) (fun _ x _=>s-(intOf x).toNat);case atStart=>exact⟨0,by omega,rfl,OwnSeq.nil _,Below.refl _ _⟩
 case round=>
 obtain⟨i,hi,rfl,ho,hB⟩:=hrel;have HO:=zY ho;have HBr:=zY hB;clear ho hB;by_cases h:i<s;{
 have hiI:(i:Int)<s:=by omega
 have HIn:=zY (HIn0.out i h);have hwr:IntKind.i64.wrap ((data.length:Int)+i)=((data.length+i:Nat):Int):=by rw[zIw (by omega)];omega
 have hw1:(data.length:Int)+i=((data.length+i:Nat):Int):=by omega
 have hwu:IntKind.u8.wrap ((data.length+i:Nat):Int)=((data.length+i:Nat):Int):=by rw[IntKind.wrap_u8];omega
 have hw2:((data.length+i:Nat):Int)%256=((data.length+i:Nat):Int):=by omega
 have hwi:IntKind.i64.wrap ((data.length+i:Nat):Int)=((data.length+i:Nat):Int):=zIw (by omega);have Hl1:Hid ((sparL data n i).length+1<=100000000):=zY (by simp[sparL];omega);obtain⟨Ao,co,e9⟩:=HO.slice;subst e9;obtain⟨di,hdi⟩:=zNm (data.length+i);rw[hdi]at hwr hw1 hwu hw2 hwi HIn;have HO:=zY HO.drew;have HBc:=zY HBr.drew;go_upto_region 10 with fail;refine wp_region_held_drew (S:=(fun W=>W.cell? ⟨w.heap.size,0,none⟩=some (.slice A data.length c))) (by kernel_rfl) ?_ (fun hHeld=>?_);{exact(HK2.kept HBc.out).c 0};refine tk 0 ?_;refine tk 1 ?_;refine tk 2 ?_;refine tk 3 ?_;refine tk 4 ?_;refine tk 5 ?_;refine tk 6 ?_;refine tk 8 ?_;refine zE1 7 fun K hK=>?_;go_simp;refine(HIn.out _ HBc.out).mono ?_;rintro e5 w5 ⟨⟨g,vw,rfl,hg,hvw⟩,hb5⟩;(try go_wp2_with fail);have HG:=zY hg;have HVw:=zY hvw;have HO:=zY (HO.below hb5);have HBc:=zYt HBc hb5;clear hb5 hg hvw;refine hko hK (by exact(HK2.kept HBc.out).c 0) (fun _=>?_);clear hK K;refine zE1 9 fun K hK=>?_;go_simp;refine(eraint1_any _ _ data (Hv2.below HBc.out) (List.range data.length) di n g vw HG.out HVw.out Hn.out (by simp) (by simp;exact Hd1.out) (by simp;exact Hd15.out) Hn2.out).mono ?_;rintro e6 w6 ⟨rfl,hb6⟩;(try go_wp2_with fail);have HO:=zY (HO.below hb6);have HBc:=zYt HBc hb6;clear hb6;refine hko hK (by exact(HK2.kept HBc.out).c 0) (fun _=>?_);clear hK K;refine zE1 10 fun K hK=>?_;obtain⟨X,hX⟩:=zNm (strB (atE (List.range data.length) (data.map bs) n di));rw[hX];go_simp;have HX:=zY (src1B (ρ:=strS) (w0:=w2) (t:=9) HBc.out [.string X] X rfl);have HO:=zY (HO.alloc (.cells #[.string X] 9))
 have HBc:=zY (HBc.alloc HBc.size (.cells #[.string X] 9));have HXe:=zY hX;clear hX;refine hko hK (by exact(HK2.kept HBc.out).c 0) (fun _=>?_);clear hK K;refine zE1 11 fun K hK=>?_;refine wp_append_seq (ρ:=strS) (w0:=w2) Tryz.elemStr (.tmp 38) (.tmp 48) rfl rfl HO.out rfl HX.out Hl1.out HBc.out ?_;intro v7 w7 hob hgb hbb;have HO:=zY hob;have HBc:=zY hbb;clear hob hgb hbb;refine hko hK (by exact(HK2.kept HBc.out).c 0) (fun _=>?_);clear hK K;refine tk 12 ?_;refine wpAnyH_done (by kernel_rfl) ?_ _;go_wp2_with fail;go_roundw;case rel=>exact⟨i+1,by omega,by go_num,by rw[sparL_succ,hdi,HXe.out];exact HO.out,HBc.out⟩
 case measure=>simp[intOf];omega};{
 obtain rfl:i=s:=by omega
 have hiI:¬((i:Nat):Int)<(i:Int):=by omega
 have HBz:=zY (HB2.trans (HBr.mono HB2.size));have HSq:=zY (HO.at HBr.out);go_wp2;go_ret2;exact⟨⟨_,rfl,HSq.out⟩,HB0.trans (HBz.mono HB0.size)⟩}
end
end Go.Proofs.YthgenkkkapilhaaGreatDoor