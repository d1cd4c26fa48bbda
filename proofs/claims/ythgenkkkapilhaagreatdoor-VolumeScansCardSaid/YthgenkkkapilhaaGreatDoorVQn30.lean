/-
  Joined: VqT VqU VqW.
-/
import Derived.Test.YthgenkkkapilhaaGreatDoorVQn29
set_option linter.all false
set_option maxRecDepth 100000
set_option maxHeartbeats 64000000
namespace Go.Proofs.YthgenkkkapilhaaGreatDoor
open Go.Proofs.Tryz
section
open Go.RowKit
def digK (k n:Nat):List Nat:=(List.range k).map fun i=>48+n/10^(k-1-i)%10
theorem pad_eq:∀(k n:Nat),n<10^(k+1)->List.replicate (k+1-(digD n).length) 48++digD n=digK (k+1) n
 |0,n,h=>by
  have h:n<10:=by simpa using h
  rw[digD_small h]
  show List.replicate (1-1) 48++[48+n]=[48+n/10^0%10]
  rw[Nat.pow_zero,Nat.div_one,Nat.mod_eq_of_lt h]
  rfl
 |k+1,n,h=>by
  have e:digK (k+1+1) n=digK (k+1) (n/10)++[48+n%10]:=by
   unfold digK
   rw[List.range_succ,List.map_append]
   congr 1
   {
   refine List.map_congr_left fun i hi=>?_
   have hi:=List.mem_range.1 hi
   rw[show k+1+1-1-i=(k+1-1-i)+1 by omega,Nat.pow_succ,Nat.mul_comm,<-Nat.div_div_eq_div_mul]}
   ·simp
  rw[e]
  by_cases h10:n<10
  {
  have e2:digK (k+1) (n/10)=List.replicate (k+1) 48:=by
   rw[Nat.div_eq_of_lt h10]
   unfold digK
   apply List.ext_getElem (by simp)
   intro j h1 h2
   simp
  rw[digD_small h10,e2,Nat.mod_eq_of_lt h10]
  rfl}
  {
  have hl:(digD n).length=(digD (n/10)).length+1:=by rw[digD_great h10,digD_small (u:=n%10) (by omega),List.length_append];rfl
  have:=pad_eq k (n/10) (by rw[Nat.pow_succ]at h;omega)
  rw[<-this,hl,digD_great h10,digD_small (u:=n%10) (by omega),<-List.append_assoc,show k+1+1-((digD (n/10)).length+1)=k+1-(digD (n/10)).length by omega]}
def dig8 (n:Nat):List Nat:=digK 8 n
theorem dig8_len (n:Nat):(dig8 n).length=8:=by simp[dig8,digK]
def restL (x:Ses):List Nat:=signL x++nstL (bs x.sig)
def dirL (x:Ses):List Nat:=dig8 (restL x).length++restL x
theorem signL_len {x:Ses} (h:SesV x):(signL x).length<=42001000:=by
 have h1:=numL_len x.num.toNat (by have:=h.num;omega);have h2:=numL_len x.date.toNat (by have:=h.date;omega);have h3:=nstL_len x.prev (by have:=h.prev;omega);have h4:=numL_len x.str.size (by have:=h.str;omega);have h5:=nstL_len (strB (digL (bs x.str))) (by rw[strB_size,digL_len];decide);have h6:=numL_len x.ents.length (by have:=h.ents;omega);have h7:=entsL_len h.ok;have h8:=Nat.mul_le_mul h.ents (Nat.le_refl 4200000);have h9:=h.prev;rw[strB_size]at h1 h2 h3 h4 h5 h6;rw[strB_size,digL_len]at h5;rw[signL];simp only[List.length_append];omega
theorem restL_len {x:Ses} (h:SesV x):(restL x).length<=42004000:=by
 have h1:=signL_len h;have h2:=nstL_len x.sig (by have:=h.sig;omega);have h3:=h.sig;rw[strB_size]at h2;rw[restL,List.length_append];omega
theorem direncode_ok (w:World) (x:Ses) (ve:Value) (hve:SeqAt entS w ve x.ents) (h:SesV x) (hT:Tab w):Calls prog 19 #[.agg #[.int .i64 x.num,.int .i64 x.date,.string x.prev,ve,.string x.str,.string x.sig]] w fun r w'=>r=.returned (.tuple #[.string (strB (dirL x)),.int .i64 0])/\Below w.heap.size w w':=by
 have HSi:=zY (fun W (hW:Below w.heap.size w W)=>dirsigned_ok W x ve (hve.below hW) h (hT.below hW));have HT:=zY hT;have hone:=hve.one;obtain⟨A,c,rfl,_,_⟩:=hve.slice;have hsl:=signL_len h;have hsig:=h.sig;obtain⟨X,hX⟩:=zNm (strB (signL x));have hXz:X.size<=42001000:=by rw[<-hX,strB_size];exact hsl
 rw[hX]at HSi;obtain⟨Y,hY⟩:=zNm (strB (nstL (bs x.sig)));have hYz:Y.size<=2100:=by rw[<-hY];have:=nstL_len x.sig (by omega);omega
 obtain⟨Z,hZ⟩:=zNm (X++Y);have hZr:strB (restL x)=Z:=by rw[<-hZ,<-hX,<-hY,strB_cat];rfl
 have hZz:Z.size=(restL x).length:=by rw[<-hZr,strB_size]
 have hZz2:Z.size<=42004000:=by rw[<-hZ,ByteArray.size_append];omega
 obtain⟨N,hN⟩:=zNm (strB (digD Z.size));have hNl:N.size=(digD Z.size).length:=by rw[<-hN,strB_size]
 have hNz:N.size<=8:=by rw[hNl];exact digD_len 7 _ (by omega)
 obtain⟨j,hj⟩:=zNm (8-N.size);obtain⟨P,hP⟩:=zNm (strB (List.replicate j 48));have hPz:P.size=j:=by rw[<-hP,strB_size,List.length_replicate]
 have HQ:Hid (P++N++Z=strB (dirL x)):=zY (by
  rw[dirL,dig8,<-hZz,<-pad_eq 7 Z.size (by omega),<-strB_cat,<-strB_cat,hZr,hN,<-hNl,hj,hP]);have HRp:Hid (∀W:World,Calls prog 55 #[.string ⟨#[48]⟩,.int .i64 (j:Int)] W fun e w'=>e=.returned (.string P)/\Below W.heap.size W w'):=zY (fun W=>by rw[<-hP];exact repeat_any W 48 j (by omega));have HSt:Hid (∀W,Below w.heap.size w W->Calls prog 53 #[.string x.sig] W fun e w'=>e=.returned (.string Y)/\Below W.heap.size W w'):=zY (fun W hW=>by rw[<-hY];exact nnstring_any W x.sig (by omega) (HT.below hW));have HIt:Hid (∀W,Below w.heap.size w W->Calls prog 54 #[.int .i64 (Z.size:Int)] W fun e w'=>e=.returned (.string N)/\Below W.heap.size W w'):=zY (fun W hW=>by rw[<-hN];exact itoa_any W Z.size (by omega) (HT.below hW));have hc1:¬9223372036854775807<X.size+Y.size:=by omega
 have hc2:¬9223372036854775807<P.size+N.size:=by omega
 have hc3:¬9223372036854775807<P.size+N.size+Z.size:=by omega
 have hjI:(8:Int)-N.size=j:=by omega
 have HZ:=zY hZ;obtain⟨R,hR⟩:=zNm (strB (dirL x));rw[hR]at HQ⊢;clear hve h hT hsl hsig hX hY hZ hZr hZz hN hNl hj hP hR;generalize hgl:x.ents.length=nl at *;have Hgl:=zY hgl;clear hgl;obtain⟨num,date,prev,l,st,sg⟩:=x;dsimp only at HSi HSt⊢;have hK:=Blk.new w 45 [.int .i64 num,.int .i64 date,.string prev,.slice A nl c,.string st,.string sg];change Blk (w.alloc (.cells #[.int .i64 num,.int .i64 date,.string prev,.slice A nl c,.string st,.string sg] 45)) _ _ _ at hK;have HB0:=zY (zBl w (.cells #[.int .i64 num,.int .i64 date,.string prev,.slice A nl c,.string st,.string sg] 45));have HK:=zY hK;clear hK;go_enter func19,ntmps19;go_upto_region 1 with fail;generalize w.alloc (.cells #[.int .i64 num,.int .i64 date,.string prev,.slice A nl c,.string st,.string sg] 45)=wb at *;have c0:=HK.c 0;have c1:=HK.c 1;have c2:=HK.c 2;have c3:=HK.c 3;have c4:=HK.c 4;have c5:=HK.c 5;go_wp2_with fail;refine(HSi.out _ HB0.out).mono ?_;rintro e1 w1 ⟨rfl,hb1⟩;have HK1:=zY (HK.kept hb1);have HB1:=zYt HB0 hb1;clear hb1 c0 c1 c2 c3 c4 c5 HK HB0;have c5:=HK1.c 5;go_wp2_with fail;refine(HSt.out _ HB1.out).mono ?_;rintro e2 w2 ⟨rfl,hb2⟩;have HB2:=zYt HB1 hb2;clear hb2;go_upto_region 5 with fail;rw[HZ.out];go_wp2_with fail;refine(HIt.out _ HB2.out).mono ?_;rintro e3 w3 ⟨rfl,hb3⟩;have HB3:=zYt HB2 hb3;clear hb3;go_wp2_with fail;refine(HRp.out _).mono ?_;rintro e4 w4 ⟨rfl,hb4⟩;have HB4:=zYt HB3 hb4;clear hb4;go_wp2_with fail;go_ret2;exact⟨by rw[<-HQ.out]<;>rfl,HB4.out⟩
theorem cut_at (s:ByteArray) (i n:Nat) (h:i+n<=s.size):(s.extract i s.size).extract 0 n=s.extract i (i+n):=by
 apply bs_inj;rw[bs_extract,bs_extract,bs_extract,List.drop_zero,List.take_of_length_le (l:=bs s) (i:=s.size) (by rw[bs_len];omega),List.take_drop]
theorem cut_rest (s:ByteArray) (i n:Nat) (h:i+n<=s.size):(s.extract i s.size).extract n (s.size-i)=s.extract (i+n) s.size:=by
 apply bs_inj;rw[bs_extract,bs_extract,bs_extract,List.take_of_length_le (l:=bs s) (i:=s.size) (by rw[bs_len];omega),List.take_of_length_le (by rw[List.length_drop,bs_len];omega),List.drop_drop]
theorem cut_all (s:ByteArray):s.extract 0 s.size=s:=by
 apply bs_inj;rw[bs_extract,List.drop_zero,List.take_of_length_le (by rw[bs_len];omega)]
def sizeOf' (v:Value):Nat:=match v with
 |.string s=>s.size
 |_=>0
theorem dirparts_any (w:World) (s:ByteArray) (hs:s.size<=1000000000):Calls prog 20 #[.string s] w fun e w'=>RetSeq strS 9 w w' (partsB s) e/\Below w.heap.size w w':=by
 go_enter func20,ntmps20;go_wp2;go_loopw [0,3,4] (fun t y _ wr=>∃k:Nat,k<=(s.size+27)/28/\t=.string (s.extract (min (28*k) s.size) s.size)/\OwnSeq strS 9 w wr y ((List.range k).map (partB s))/\Below w.heap.size w wr) (fun t _ _ _=>sizeOf' t);case atStart=>exact⟨0,by omega,by rw[Nat.mul_zero,Nat.zero_min,cut_all],OwnSeq.nil _,Below.refl _ _⟩
 case round=>
 obtain⟨k,hk,rfl,ho,hB⟩:=hrel;have HB:=zY hB;have HO:=zY ho;clear ho hB;by_cases h:28*k<s.size;{
 rw[Nat.min_eq_left (by omega)];obtain⟨i,hi⟩:=zNm (28*k);rw[hi]at h⊢;obtain⟨n,hn⟩:=zNm (min 28 (s.size-i));obtain⟨T,hT⟩:=zNm (s.extract i s.size);have hTz:T.size=s.size-i:=by rw[<-hT,ByteArray.size_extract];omega
 have hT0:(0:Int)<T.size:=by omega
 obtain⟨X,hX⟩:=zNm (T.extract 0 n);obtain⟨U,hU⟩:=zNm (T.extract n T.size);have HX:Hid ((List.range (k+1)).map (partB s)=(List.range k).map (partB s)++[X]):=zY (by
  rw[List.range_succ,List.map_append,<-hX,<-hT,cut_at s i n (by omega)]
  simp only[List.map_cons,List.map_nil,partB]
  rw[hi,show min (i+28) s.size=i+n by omega]);have HU:Hid (U=s.extract (min (28*(k+1)) s.size) s.size):=zY (by
  rw[<-hU,hTz,<-hT,cut_rest s i n (by omega)]
  congr 1
  omega);have HUz:Hid (sizeOf' (.string U)<sizeOf' (.string T)):=zY (by
  show U.size<T.size
  rw[<-hU,ByteArray.size_extract]
  omega);have Hkn:Hid (k+1<=(s.size+27)/28):=zY (by omega);have Hl1:Hid (((List.range k).map (partB s)).length+1<=100000000):=zY (by simp;omega);have hmin:min (28:Int) (T.size:Int)=n:=by omega
 have hn0:(0:Int)<=n:=by omega
 have hnT:(n:Int)<=T.size:=by omega
 have hnTn:n<=T.size:=by omega
 rw[hT];clear hi hk hn hT hTz h;obtain⟨Av,cv,e9⟩:=HO.slice;subst e9;go_wp2_with (at_builtin;refine append_seq (ρ:=strS) (w0:=w) Tryz.elemStr rfl _ _ rfl rfl (HO.alloc _) rfl (src1 (ρ:=strS) [.string X] X rfl rfl) Hl1.out (HB.alloc HB.size _) ?_;intro va1 wa1 hob _ hbb;have KU:=zY hob;have KB:=zY hbb;clear hob hbb);go_roundw;case rel=>exact⟨k+1,Hkn.out,by rw[<-HU.out],by rw[HX.out];exact KU.out,KB.out⟩
 case measure=>exact HUz.out};{
 have hks:min (28*k) s.size=s.size:=Nat.min_eq_right (by omega);rw[hks];have hz:(s.extract s.size s.size).size=0:=by rw[ByteArray.size_extract];omega
 obtain⟨T,hT⟩:=zNm (s.extract s.size s.size);rw[hT]at hz⊢;have hT0:¬(0:Int)<T.size:=by omega
 have HK:Hid ((List.range k).map (partB s)=partsB s):=zY (by unfold partsB;rw[show (s.size+27)/28=k by omega]);clear hT hz hks hk h;go_wp2;go_ret;exact⟨⟨_,rfl,by rw[<-HK.out];exact HO.out⟩,HB.out⟩}
theorem BytesAt.belowV {w w':World} {v:Value} {xs:List Nat} (h:BytesAt w v xs) (hb:Below w.heap.size w w'):BytesAt w' v xs:=by
 obtain⟨A,c,e,h1,h2,h3⟩:=h;refine⟨A,c,e,h1,h2,fun i x hi=>?_⟩;obtain⟨b,o,u,e1,hc,hu⟩:=h3 i x hi;exact⟨b,o,u,e1,cell_below hb hc,hu⟩
theorem BytesAt.sliceV {w:World} {v:Value} {xs:List Nat} (h:BytesAt w v xs):∃A c,v=.slice A xs.length c/\xs.length<=c/\c<=9223372036854775807:=by
 obtain⟨A,c,e,h1,h2,_⟩:=h;exact⟨A,c,e,h1,h2⟩
def idxZ (n i:Nat):List Nat:=(List.range n).map fun j=>if j<i then j else 0
theorem eraidx_any (w:World) (n:Nat) (hn:n<=100):Calls prog 237 #[.int .i64 (n:Int)] w fun e w'=>(∃v,e=.returned v/\BytesAt w' v (List.range n))/\Below w.heap.size w w':=by
 have hmk:∀W:World,(Instr.makeSlice 117 (.int .i64 (n:Int)) (.int .i64 (n:Int))).run prog W=.ok (.slice (some ⟨W.heap.size,0,none⟩) n n) (W.alloc (.cells (arrB (idxZ n 0)) 5)):=fun W=>by
  have e:idxZ n 0=List.replicate n 0:=by
   apply List.ext_getElem (by simp[idxZ])
   intro j h1 h2
   simp[idxZ]
  rw[e]
  exact make_u8 n n (Nat.le_refl _) (by omega) W
 have HK0:=zY (U8B.new w (idxZ n 0));have HB0:=zY (zBl w (.cells (arrB (idxZ n 0)) 5));go_enter func237,ntmps237;go_wp2_with fail;try rw[hmk]
 clear hmk;go_wp2;go_loopw [9] (fun x wr=>∃i:Nat,i<=n/\x=.int .i64 (i:Int)/\U8B wr w.heap.size (idxZ n i)/\Below w.heap.size w wr) (fun x _=>n-(intOf x).toNat);case atStart=>exact⟨0,by omega,rfl,HK0.out,HB0.out⟩
 case round=>
 obtain⟨i,hi,rfl,hk,hB⟩:=hrel;have HK:=zY hk;have HB:=zY hB;clear hk hB;by_cases h:i<n;{
 have hiI:(i:Int)<n:=by omega
 have hq:=HK.cell (i:=i) (x:=0) (by simp[idxZ,h]);have hf:=Blk.frozen HK.out i;have hw:IntKind.u8.wrap (i:Int)=i:=by rw[IntKind.wrap_u8];omega
 have hw2:(i:Int)%256=i:=by omega
 have HKn:=zY (HK.set i i);have HSt:Hid ((idxZ n i).set i i=idxZ n (i+1)):=zY (by
  apply List.ext_getElem (by simp[idxZ])
  intro j h1 h2
  rw[List.getElem_set]
  by_cases hj:i=j
  {
  subst hj
  simp[idxZ]}
  ·rw[if_neg hj]
   simp only[idxZ,List.getElem_map,List.getElem_range]
   by_cases h3:j<i
   ·rw[if_pos h3,if_pos (by omega)]
   ·rw[if_neg h3,if_neg (by omega)]);have HBn:=zY (HB.setCell (show w.heap.size<=(⟨w.heap.size,i,none⟩:Addr).block from Nat.le_refl _) (.int .u8 (i:Int)));rw[HSt.out]at HKn;go_wp2;go_roundw;case rel=>exact⟨i+1,by omega,by go_num,HKn.out,HBn.out⟩
 case measure=>simp[intOf];omega};{
 obtain rfl:i=n:=by omega
 have hiI:¬((i:Nat):Int)<(i:Int):=by omega
 go_wp2;go_ret;have e:idxZ i i=List.range i:=by{
 apply List.ext_getElem (by simp[idxZ]);intro j h1 h2;have:j<i:=by simpa using h2
 simp[idxZ,this]};refine⟨⟨_,rfl,?_⟩,HB.out⟩;rw[<-e];exact HK.bytes (by simp[idxZ]) (Nat.le_refl _) (by omega)}
def wgtL (xs:List Nat) (x:Nat):List Nat:=(List.range xs.length).map (wgt xs x)
def wgtZ (xs:List Nat) (x k:Nat):List Nat:=(List.range xs.length).map fun j=>if j<k then wgt xs x j else 0
theorem wgtZ_step {xs:List Nat} {x k:Nat}:(wgtZ xs x k).set k (wgt xs x k)=wgtZ xs x (k+1):=by
 apply List.ext_getElem (by simp[wgtZ]);intro j h1 h2;rw[List.getElem_set];by_cases hj:k=j;{
 subst hj;simp[wgtZ]};{
 rw[if_neg hj];simp only[wgtZ,List.getElem_map,List.getElem_range];by_cases h3:j<k;{rw[if_pos h3,if_pos (by omega)]};{rw[if_neg h3,if_neg (by omega)]}}
def IntF (w':World) (xs:List Nat) (x:Nat) (e:Ending):Prop:=∃(g:Nat) (vw:Value),e=.returned (.func (.func 191) #[] #[.pointer (some ⟨g,0,none⟩)])/\w'.cell? ⟨g,0,none⟩=some vw/\BytesAt w' vw (wgtL xs x)
theorem eraint_any (w:World) (v:Value) (xs:List Nat) (hv:BytesAt w v xs) (x:Nat) (hx:x<256) (hl:xs.length<=15) (hb:∀i,cf xs i<256) (hd:∀i j,i<xs.length->j<xs.length->i≠j->cf xs i≠cf xs j):
  Calls prog 114 #[v,.int .u8 (x:Int)] w fun e w'=>IntF w' xs x e/\Below w.heap.size w w':=by
 have Hv:=zY hv;obtain⟨A,c,rfl,h1,h2⟩:=hv.sliceV;have HEq:=zY (fun k (hk:k<xs.length) i (hi:i<=xs.length)=>wgt_eq (xs:=xs) (k:=k) hx hb (fun i hi hne=>hd k i hk hi (Ne.symm hne)) i hi);have Hb:=zY hb;have Hx:=zY hx;clear hv hb hd;have hmk:∀W:World,(Instr.makeSlice 117 (.int .i64 (xs.length:Int)) (.int .i64 (xs.length:Int))).run prog W=.ok (.slice (some ⟨W.heap.size,0,none⟩) xs.length xs.length) (W.alloc (.cells (arrB (wgtZ xs x 0)) 5)):=fun W=>by
  have e:wgtZ xs x 0=List.replicate xs.length 0:=by
   apply List.ext_getElem (by simp[wgtZ])
   intro j h1 h2
   simp[wgtZ]
  rw[e]
  exact make_u8 _ _ (Nat.le_refl _) (by omega) W
 have HW0:=zY (U8B.new w (wgtZ xs x 0));have HBa:=zY (zBl w (.cells (arrB (wgtZ xs x 0)) 5));go_enter func114,ntmps114;go_wp2_with fail;try rw[hmk]
 clear hmk;have HSz:Hid ((w.alloc (.cells (arrB (wgtZ xs x 0)) 5)).heap.size=w.heap.size+1):=zY (by show (w.heap.push _).size=_;rw[Array.size_push]);generalize w.alloc (.cells (arrB (wgtZ xs x 0)) 5)=wa at *;have HP0:=zY (Blk.new wa 117 [.slice (some ⟨w.heap.size,0,none⟩) xs.length xs.length]);have HW1:=zY (Blk.alloc HW0.out (.cells #[.slice (some ⟨w.heap.size,0,none⟩) xs.length xs.length] 117));have HBb:=zY (HBa.alloc HBa.size (.cells #[.slice (some ⟨w.heap.size,0,none⟩) xs.length xs.length] 117));have HNe:Hid (w.heap.size+1≠w.heap.size):=zY (by omega);have HGw:Hid (w.heap.size<=w.heap.size):=zY (Nat.le_refl _);obtain⟨gw,hgw⟩:∃g,g=w.heap.size:=⟨_,rfl⟩;go_upto_region 2 with fail;change Blk (wa.alloc (.cells #[.slice (some ⟨w.heap.size,0,none⟩) xs.length xs.length] 117)) _ _ _ at HP0;have HP0:=zY HP0;rw[HSz.out]at HP0;generalize wa.alloc (.cells #[.slice (some ⟨w.heap.size,0,none⟩) xs.length xs.length] 117)=wb at *;rw[<-hgw]at HP0 HW1 HNe HGw⊢;clear HSz HBa HW0;have HGw:Hid (w.heap.size<=gw):=zY (by omega);have Hgw:=zY hgw;clear hgw;go_wp2;go_loopw [15] (fun y wr=>∃k:Nat,k<=xs.length/\y=.int .i64 (k:Int)/\U8B wr gw (wgtZ xs x k)/\Blk wr (gw+1) 117 [.slice (some ⟨gw,0,none⟩) xs.length xs.length]/\Below w.heap.size w wr) (fun y _=>xs.length-(intOf y).toNat);case atStart=>exact⟨0,by omega,rfl,HW1.out,HP0.out,HBb.out⟩
 case round=>
 obtain⟨k,hk,rfl,hw,hp,hB⟩:=hrel;have HW:=zY hw;have HP:=zY hp;have HB:=zY hB;clear hw hp hB;obtain⟨wo,rfl⟩:∃x,x=wr:=⟨_,rfl⟩;by_cases h:k<xs.length;{
 have hkI:(k:Int)<xs.length:=by omega
 have hkb:=Hb.out k;obtain⟨_,_,e9,_,_,h3⟩:=Hv.belowV HB.out;cases e9;have H3:=zY h3;clear h3;go_wp2;go_loopw [7,8,20] (fun y z t wr=>∃m:Nat,m<=xs.length/\t=.int .i64 (m:Int)/\y=.int .u8 ((aboR xs k x m:Nat):Int)/\z=.int .u8 ((belR xs k m:Nat):Int)/\Below wo.heap.size wo wr) (fun _ _ t _=>xs.length-(intOf t).toNat);case atStart=>exact⟨0,by omega,rfl,rfl,rfl,Below.refl _ _⟩
 case round=>
 obtain⟨m,hm,rfl,rfl,rfl,hbr⟩:=hrel;have HBr:=zY hbr;clear hbr;by_cases h':m<xs.length;{
 have hmI:(m:Int)<xs.length:=by omega
 obtain⟨b,o,u,rfl,hcm,rfl⟩:=H3.out m xs[m] (List.getElem?_eq_getElem h');obtain⟨b2,o2,u2,e2,hck,rfl⟩:=H3.out k xs[k] (List.getElem?_eq_getElem h);cases e2;have em:xs[m]=cf xs m:=(cf_get (List.getElem?_eq_getElem h')).symm;have ek:xs[k]=cf xs k:=(cf_get (List.getElem?_eq_getElem h)).symm;rw[em]at hcm;rw[ek]at hck;have hmb:=Hb.out m;have ha:=aboR_lt (xs:=xs) (k:=k) (x:=x) m;have hbe:=belR_lt (xs:=xs) (k:=k) m;have Hsa:Hid (aboR xs k x (m+1)=if m=k then aboR xs k x m else gmul (aboR xs k x m) (x^^^cf xs m)):=zY (by rw[aboR]);have Hsb:Hid (belR xs k (m+1)=if m=k then belR xs k m else gmul (belR xs k m) (cf xs k^^^cf xs m)):=zY (by rw[belR]);have hcm':wr.cell? ⟨b,o+m,none⟩=some (.int .u8 ((cf xs m:Nat):Int)):=cell_below HBr.out hcm;have hck':wr.cell? ⟨b,o+k,none⟩=some (.int .u8 ((cf xs k:Nat):Int)):=cell_below HBr.out hck;generalize aboR xs k x m=p at *;generalize belR xs k m=q at *;generalize hM:cf xs m=M at *;generalize hK:cf xs k=K at *;clear hcm hck em ek hM hK;by_cases hmk:m=k;{
 have i1:((m:Int) != k)=false:=by rw[hmk];simp
 rw[if_pos hmk]at Hsa Hsb;clear hmk;go_wp2;go_roundw;case rel=>exact⟨m+1,by omega,by go_num,by rw[Hsa.out],by rw[Hsb.out],HBr.out⟩
 case measure=>simp[intOf];omega};{
 have i1:((m:Int) != k)=true:=by rw[bne_iff_ne];omega
 rw[if_neg hmk]at Hsa Hsb;clear hmk;have hxM:x^^^M<256:=xor_lt Hx.out hmb;have hKM:K^^^M<256:=xor_lt hkb hmb;have HA1:=zY (fun W=>gadd_any W x M Hx.out hmb);have HM1:=zY (fun W=>gmul_any W p (x^^^M) ha hxM);have HA2:Hid (∀W,Calls prog 189 #[.int .u8 (K:Int),.int .u8 (M:Int)] W fun e w'=>e=.returned (.int .u8 ((K^^^M:Nat):Int))/\w'=W):=zY (fun W=>(gadd_any W K M hkb hmb).mono fun _ _ ⟨h1,h2⟩=>⟨h1,h2.symm⟩);have HM2:Hid (∀W,Calls prog 188 #[.int .u8 (q:Int),.int .u8 ((K^^^M:Nat):Int)] W fun e w'=>e=.returned (.int .u8 ((gmul q (K^^^M):Nat):Int))/\w'=W):=zY (fun W=>(gmul_any W q (K^^^M) hbe hKM).mono fun _ _ ⟨h1,h2⟩=>⟨h1,h2.symm⟩);generalize x^^^M=xM at *;generalize K^^^M=KM at *;generalize gmul p xM=r1 at *;generalize gmul q KM=r2 at *;go_wp2_with fail;refine(HA1.out _).mono ?_;rintro e3 w3 ⟨rfl,rfl⟩;go_wp2_with fail;refine(HM1.out _).mono ?_;rintro e4 w4 ⟨rfl,rfl⟩;go_upto_region 11 with fail;go_quiet (first|(go_at_call 189;refine Calls.quiet_of_same (HA2.out _))|(go_at_call 188;refine Calls.quiet_of_same (HM2.out _)));go_wp2;go_roundw;case rel=>exact⟨m+1,by omega,by go_num,by rw[Hsa.out],by rw[Hsb.out],blwN HBr.out _⟩
 case measure=>simp[intOf];omega}};{
 obtain rfl:m=xs.length:=by omega
 have hmI:¬((xs.length:Nat):Int)<(xs.length:Int):=by omega
 obtain⟨hwe,hbn⟩:=HEq.out k h xs.length (Nat.le_refl _);have ha:=aboR_lt (xs:=xs) (k:=k) (x:=x) xs.length;have hbe:=belR_lt (xs:=xs) (k:=k) xs.length;have HDv:Hid (∀W:World,Calls prog 190 #[.int .u8 ((aboR xs k x xs.length:Nat):Int),.int .u8 ((belR xs k xs.length:Nat):Int)] W fun e w'=>e=.returned (.tuple #[.int .u8 ((wgt xs x k:Nat):Int),.bool true])/\Below W.heap.size W w'):=zY (fun W=>by
  have:=gdiv_any W _ _ ha hbe
  rw[gdivR,if_neg hbn]at this
  rw[wgt,hwe]
  exact this);have HRk:Hid ((wgtZ xs x k)[k]?=some 0):=zY (by simp[wgtZ,h]);have HSt:Hid ((wgtZ xs x k).set k (wgt xs x k)=wgtZ xs x (k+1)):=zY wgtZ_step;clear hwe hbn ha hbe;have HPr:=zY (HP.kept HBr.out);have HWr:=zY (show U8B wr gw (wgtZ xs x k) from Blk.kept HW.out HBr.out);have HBx:=zY (HB.trans (HBr.mono HB.size));generalize aboR xs k x xs.length=p at *;generalize belR xs k xs.length=q at *;go_upto_region 13 with fail;have HPc:=zY (HPr.kept (Below.refl _ _).drew);have HWc:=zY (show U8B wr.drew gw (wgtZ xs x k) from Blk.kept HWr.out (Below.refl _ _).drew);have HBc:=zY HBx.drew;refine wp_region_held_drew (S:=(fun W=>W.cell? ⟨gw+1,0,none⟩=some (.slice (some ⟨gw,0,none⟩) xs.length xs.length))) (by kernel_rfl) ?_ (fun hHeld=>?_);{exact HPc.c 0};refine tk 0 ?_;refine tk 1 ?_;refine tk 2 ?_;refine tk 3 ?_;refine zE1 4 fun K hK=>?_;go_simp;refine(HDv.out _).mono ?_;rintro e5 w5 ⟨rfl,hb5⟩;(try go_wp2_with fail);have HPc:=zY (HPc.kept hb5);have HWc:=zY (HWc.kept hb5);have HBc:=zYt HBc hb5;clear hb5;refine hko hK (by exact HPc.c 0) (fun _=>?_);clear hK K;refine tk 5 ?_;refine tk 6 ?_;refine tk 7 ?_;refine tk 8 ?_;refine zE1 9 fun K hK=>?_;have qc:=U8B.cell HWc.out (i:=k) (x:=0) HRk.out;have qz:=Blk.frozen HWc.out k;go_simp;have HWn:=zY (U8B.set HWc.out k (wgt xs x k));have HPn:=zY (HPc.far (p:=⟨gw,k,none⟩) (by simp) (.int .u8 ((wgt xs x k:Nat):Int)));have HBn:=zY (HBc.setCell (show w.heap.size<=(⟨gw,k,none⟩:Addr).block from HGw.out) (.int .u8 ((wgt xs x k:Nat):Int)));rw[HSt.out]at HWn;have HPc:=HPn;clear qc qz;refine hko hK (by exact HPc.c 0) (fun _=>?_);clear hK K
 refine wpAnyH_done (by kernel_rfl) ?_ _;go_wp2_with fail;go_roundw;case rel=>exact⟨k+1,by omega,by go_num,HWn.out,HPn.out,HBn.out⟩
 case measure=>simp[intOf];omega}};{
 obtain rfl:k=xs.length:=by omega
 have hkI:¬((xs.length:Nat):Int)<(xs.length:Int):=by omega
 go_wp2;go_ret;have e:wgtZ xs x xs.length=wgtL xs x:=by{
 apply List.ext_getElem (by simp[wgtZ,wgtL]);intro j h1 h2;have:j<xs.length:=by simpa [wgtL]using h2
 simp[wgtZ,wgtL,this]};refine⟨⟨_,_,rfl,HP.c 0,?_⟩,HB.out⟩;rw[<-e];exact HW.bytes (by simp[wgtZ]) (Nat.le_refl _) (by omega)}
end
end Go.Proofs.YthgenkkkapilhaaGreatDoor