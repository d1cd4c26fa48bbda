/-
  Joined: EncAz VrP VpJ.
-/
import Derived.Test.YthgenkkkapilhaaGreatDoorVPn11
set_option linter.all false
set_option maxRecDepth 100000
set_option maxHeartbeats 64000000
namespace Go.Proofs.YthgenkkkapilhaaGreatDoor
open Go.Proofs.Tryz
section
open Go.RowKit
def perI (l:List Nat) (i:Nat):List Nat:=(List.range 836).map fun j=>if uil j<i then cf l (uil j) else 0
theorem perI_len (l:List Nat) (i:Nat):(perI l i).length=836:=by unfold perI;rw[List.length_map,List.length_range]
theorem perI_cf (l:List Nat) (i j:Nat):cf (perI l i) j=if j<836 then (if uil j<i then cf l (uil j) else 0) else 0:=by unfold perI;rw[cf_map]
theorem perI_set {l:List Nat} {i:Nat} (h:i<836):(perI l i).set (ilv i) (cf l i)=perI l (i+1):=by
 refine list_ext836 (by rw[List.length_set,perI_len]) (perI_len _ _) fun j hj=>?_;rw[cf_set _ _ _ _ (by rw[perI_len];exact ilv_lt h),perI_cf,perI_cf,if_pos hj,if_pos hj];by_cases e:ilv i=j;{
 subst e;rw[if_pos rfl,uil_ilv h,if_pos (by omega)]};{
 rw[if_neg e];have hne:uil j≠i:=fun hu=>e (by rw[<-hu];exact(ilv_uil hj).1);by_cases h1:uil j<i;{rw[if_pos h1,if_pos (by omega)]};{rw[if_neg h1,if_neg (by omega)]}}
theorem perI_zero (l:List Nat):perI l 0=List.replicate 836 0:=by
 refine list_ext836 (perI_len _ _) List.length_replicate fun j hj=>?_;rw[perI_cf,if_pos hj,if_neg (by omega)];unfold cf;rw[List.getElem?_replicate,if_pos hj];rfl
theorem perI_end (l:List Nat):perI l 836=interL l:=by
 unfold perI interL;refine List.map_congr_left fun j hj=>?_;rw[if_pos (ilv_uil (List.mem_range.1 hj)).2]
theorem permI_any (w:World) (s:ByteArray) (hs:s.size=836):Calls prog 309 #[.string s,.int .i64 8,.func (.func 310) #[] #[]] w fun e w'=>e=.returned (.tuple #[.string (strB (interL (bs s))),.int .i64 0])/\Below w.heap.size w w':=by
 have hmk:=make_u8_836;have hsI:(s.size:Int)=836:=by omega
 have hK0:U8B (w.alloc (.cells (arrB (perD [] 0)) 5)) w.heap.size (perI (bs s) 0):=by rw[perI_zero,<-perD_zero []];exact U8B.new w _
 have HK0:=zY hK0;have HB0:=zY (zBl w (.cells (arrB (perD [] 0)) 5));have hbl:=bs_len s;clear hK0;go_enter func309,ntmps309;go_wp2;go_loopw [19] (fun x wr=>∃i:Nat,i<=836/\x=.int .i64 i/\U8B wr w.heap.size (perI (bs s) i)/\Below w.heap.size w wr) (fun x _=>836-(intOf x).toNat);case atStart=>exact⟨0,by omega,rfl,HK0.out,HB0.out⟩
 case round=>
 obtain⟨i,hi,rfl,hb,hB⟩:=hrel;have Hb:=zY hb;have HBr:=zY hB;clear hb hB HK0 HB0;by_cases h:i<836;{
 have hiI:(i:Int)<836:=by omega
 go_wp2_with fail;refine(ilindex_any _ i h).mono ?_;rintro e w1 ⟨rfl,hb⟩;have Hb1:=zY (Blk.kept Hb.out hb);have HB1:=zYt HBr hb;have hlt:=Blk.lt Hb.out;clear hb;have hil:=ilv_lt h;have hx:i<s.size:=by omega
 have hxI:(i:Int)<s.size:=by omega
 have hxJ:((ilv i:Nat):Int)<836:=by omega
 have hcx:cf (bs s) i=(s[i]'hx).toNat:=cf_get (bs_get s _ hx);have hc1:=U8B.cell Hb1.out (i:=ilv i) (x:=cf (perI (bs s) i) (ilv i)) (by unfold cf;rw[List.getElem?_eq_getElem (by rw[perI_len];exact hil)];rfl);have hf1:=Blk.frozen Hb1.out (ilv i);have Hset:Hid (U8B (w1.setCell ⟨w.heap.size,ilv i,none⟩ (.int .u8 ((s[i]'hx).toNat:Nat))) w.heap.size (perI (bs s) (i+1))):=zY (by
  rw[<-hcx,<-perI_set h]
  exact U8B.set Hb1.out (ilv i) _);clear hcx;go_wp2_with (go_at_call 310;refine(inter1_any _ _ _).mono ?_;rintro e w' ⟨rfl,rfl⟩);go_roundw;case rel=>exact⟨i+1,by omega,by go_num,Hset.out,HB1.setCell (p:=⟨w.heap.size,ilv i,none⟩) (Nat.le_refl _) _⟩
 case measure=>simp[intOf];omega};{
 have hi8:i=836:=by omega
 subst hi8;have hv:=U8B.bytes Hb.out (n:=836) (c:=836) (by rw[perI_len]) (Nat.le_refl _) (by omega);rw[perI_end]at hv;have hcs:=run_toStr hv (interL_len _).symm;clear hv;go_wp2;go_ret2;exact⟨rfl,HBr.out⟩}
theorem inter_any (w:World) (s:ByteArray) (hs:s.size=836):Calls prog 257 #[.string s,.int .i64 8] w fun e w'=>e=.returned (.tuple #[.string (strB (interL (bs s))),.int .i64 0])/\Below w.heap.size w w':=by
 have H:=zY (permI_any w s hs);clear hs;go_enter func257,ntmps257;go_wp2_with (go_at_call 309;refine H.mono ?_;rintro e w' ⟨rfl,hb⟩);go_ret2;exact⟨rfl,hb⟩
theorem u8_sh1:∀(j:Fin 8) (b:Fin 256),bits .and .u8 ((b.val:Int)/(2:Int)^j.val) 1=((b.val/2^j.val%2:Nat):Int):=by decide +kernel
theorem cfrom_any (w:World) (s:ByteArray) (hs:s.size<=10000):Calls prog 168 #[.string s] w fun e w'=>e=.returned (.string (strB (frmB (bs s))))/\Below w.heap.size w w':=by
 have hbl:=bs_len s;go_enter func168,ntmps168;go_wp2;go_loopw [8] (fun x wr=>∃i:Nat,i<=s.size/\x=.int .i64 (i:Int)/\Bld wr w.heap.size w.heap.size (frmB ((bs s).take i))/\Below w.heap.size w wr) (fun x _=>s.size-(intOf x).toNat);case atStart=>exact⟨0,by omega,rfl,Bld.new w,(Below.refl _ _).alloc (Nat.le_refl _) _⟩
 case round=>
 obtain⟨i,hi,rfl,hbl1,hB⟩:=hrel;have Hbl:=zY hbl1;have HBr:=zY hB;clear hbl1 hB;by_cases h:i<s.size;{
 have hiI:(i:Int)<s.size:=by omega
 have hst:frmB ((bs s).take (i+1))=frmB ((bs s).take i)++byCs (s[i]'h).toNat:=by rw[List.take_add_one,bs_get s i h];exact frmB_snoc _ _
 have Hst:=zY hst;have hlen:(frmB ((bs s).take i)).length<=80000:=by rw[frmB_len,List.length_take];omega
 have hb8:(s[i]'h).toNat<256:=UInt8.toNat_lt _;obtain⟨L,hL⟩:=zNm (frmB ((bs s).take i));rw[hL]at Hbl Hst hlen;have Hlen:=zY hlen;have Hb8:=zY hb8;clear hst hL hlen hb8;go_wp2;go_loopw [11] (fun x wq=>∃k:Nat,k<=8/\x=.int .i64 (k:Int)/\Bld wq w.heap.size w.heap.size (L++(List.range k).map (byC (s[i]'h).toNat))/\Below w.heap.size w wq) (fun x _=>8-(intOf x).toNat);case atStart=>exact⟨0,by omega,rfl,by simpa using Hbl.out,HBr.out⟩
 case round=>
 obtain⟨k,hk,rfl,hbl2,hB2⟩:=hrel;by_cases h':k<8;{
 have hkI:(k:Int)<8:=by omega
 have Hwb:=zY (wb_any wr w.heap.size w.heap.size _ (byC (s[i]'h).toNat k) hbl2 (by rw[List.length_append,List.length_map,List.length_range];have:=Hlen.out;omega) hB2.size);have hsn:(L++(List.range k).map (byC (s[i]'h).toNat))++[byC (s[i]'h).toNat k]=L++(List.range (k+1)).map (byC (s[i]'h).toNat):=by rw[List.range_succ,List.map_append,List.append_assoc];rfl
 have Hsn:=zY hsn;have HB2:=zY hB2;have hsh:=u8_sh1 ⟨7-k,by omega⟩ ⟨(s[i]'h).toNat,Hb8.out⟩;dsimp only at hsh;have hx2:(s[i]'h).toNat/2^(7-k)%2<2:=Nat.mod_lt _ (by decide);have hbc:byC (s[i]'h).toNat k=48+(s[i]'h).toNat/2^(7-k)%2:=rfl;rw[hsn,hbc]at Hwb;generalize (s[i]'h).toNat/2^(7-k)%2=x at *;have hw1:IntKind.u8.wrap (48+(x:Int))=48+x:=by rw[IntKind.wrap_u8];omega
 have hw2:(48+(x:Int))%256=48+x:=by omega
 have hw3:(((48+x:Nat)):Int)=48+x:=by omega
 rw[hw3]at Hwb;clear hsn hbc hx2 hw3 hbl2 hB2;rcases (by omega:k=0∨k=1∨k=2∨k=3∨k=4∨k=5∨k=6∨k=7)with rfl|rfl|rfl|rfl|rfl|rfl|rfl|rfl;all_goals
 simp only[Nat.sub_zero,Nat.reduceSub,Nat.sub_self,Int.reducePow,Int.ediv_one]at hsh;go_wp2_with fail;refine Hwb.mono ?_;rintro e w2 ⟨rfl,hbl3,hb3⟩;have HL3:=zY hbl3;have HB3:=zY hb3;clear hbl3 hb3 Hwb Hbl HBr Hst Hlen Hb8 Hsn hsh;go_wp2_with fail;refine⟨⟨_,?_,?_,HL3.out,HB2.trans HB3.out⟩,?_⟩;{omega};{rfl};{simp[intOf]}};{
 obtain rfl:k=8:=by omega
 have HB2:=zY hB2;have Hb2:Hid (Bld wr w.heap.size w.heap.size (frmB ((bs s).take (i+1)))):=zY (by rw[Hst.out];exact hbl2);clear hbl2 hB2;go_wp2;go_roundw;case rel=>exact⟨i+1,by omega,by go_num,Hb2.out,HB2.out⟩
 case measure=>simp[intOf];omega}};{
 obtain rfl:i=s.size:=by omega
 have hl:=Hbl.out;rw[List.take_of_length_le (by omega)]at hl;have Hs:=zY (str_any wr w.heap.size w.heap.size _ (fun c hc=>by rcases frmB_01 _ c hc with rfl|rfl<;>omega) hl HBr.size);clear hl Hbl;go_wp2_with (go_at_call 65;refine Hs.mono ?_;rintro e w2 ⟨rfl,hbl3,hb3⟩;have HB3:=zY hb3;clear hbl3 hb3);go_ret;exact⟨rfl,HBr.trans HB3.out⟩}
end
section
def parts (r w:List Nat) (j:Nat):Bool:=cf r j != cf w j
end
section
open Go.RowKit
def prtL (l:List Nat):Bool:=l.all fun b=>decide (32<=b)&&decide (b<=126)
theorem prt_true {s:ByteArray} (h:∀i (hi:i<s.size),32<=(s[i]'hi).toNat/\(s[i]'hi).toNat<=126):prtL (bs s)=true:=by
 rw[prtL,List.all_eq_true];intro b hb;obtain⟨i,hi,rfl⟩:=List.mem_iff_getElem.1 hb;have hi2:i<s.size:=by rwa [bs_len]at hi
 have h1:=bs_get s i hi2;rw[List.getElem?_eq_getElem hi]at h1;rw[Option.some.inj h1];simp[h i hi2]
theorem prt_false {s:ByteArray} {i:Nat} (hi:i<s.size) (h:¬(32<=(s[i]'hi).toNat/\(s[i]'hi).toNat<=126)):prtL (bs s)=false:=by
 cases hp:prtL (bs s)with
 |false=>rfl
 |true=>
 rw[prtL,List.all_eq_true]at hp;have:=hp _ (List.mem_of_getElem? (bs_get s i hi));simp only[Bool.and_eq_true,decide_eq_true_eq]at this;exact absurd this h
theorem printable_any (w:World) (s:ByteArray) (hs:s.size<=1000000):Calls prog 60 #[.string s] w fun e w'=>e=.returned (.bool (prtL (bs s)))/\w'=w:=by
 obtain⟨R,hR⟩:=zNm (prtL (bs s));have HRt:Hid ((∀i (hi:i<s.size),32<=(s[i]'hi).toNat/\(s[i]'hi).toNat<=126)->R=true):=zY (fun h=>by rw[<-hR];exact prt_true h);have HRf:Hid (∀i (hi:i<s.size),¬(32<=(s[i]'hi).toNat/\(s[i]'hi).toNat<=126)->R=false):=zY (fun i hi h=>by rw[<-hR];exact prt_false hi h);rw[hR];clear hR;go_enter func60,ntmps60;go_wp2;go_loopw [6] (fun x wr=>∃i:Nat,i<=s.size/\x=.int .i64 (i:Int)/\Hid (∀j (hj:j<s.size),j<i->32<=(s[j]'hj).toNat/\(s[j]'hj).toNat<=126)/\wr=w) (fun x _=>s.size-(intOf x).toNat);case atStart=>exact⟨0,by omega,rfl,zY (fun j _ h=>by omega),rfl⟩
 case round=>
 obtain⟨i,hi,rfl,HA,rfl⟩:=hrel;by_cases h:i<s.size;{
 have hiI:(i:Int)<s.size:=by omega
 have HB:=zY (HRf.out i h);have HN:Hid (32<=(s[i]'h).toNat->(s[i]'h).toNat<=126->∀j (hj:j<s.size),j<i+1->32<=(s[j]'hj).toNat/\(s[j]'hj).toNat<=126):=zY (fun h1 h2 j hj hji=>by
  by_cases e:j=i
  ·subst e;exact⟨h1,h2⟩
  ·exact HA.out j hj (by omega));obtain⟨b,hb⟩:=zNm ((s[i]'h).toNat);rw[hb]at HB HN;have hb8:b<256:=by rw[<-hb];exact UInt8.toNat_lt _
 by_cases h1:b<32;{
 have h1I:(b:Int)<32:=by omega
 have hr:=HB.out (by omega);subst hr;clear HB HN;go_wp2;go_ret;first|exact⟨rfl,rfl⟩|exact⟨rfl,trivial⟩};{
 have h1I:¬(b:Int)<32:=by omega
 by_cases h2:126<b;{
 have h2I:(126:Int)<b:=by omega
 have hr:=HB.out (by omega);subst hr;clear HB HN;go_wp2;go_ret;first|exact⟨rfl,rfl⟩|exact⟨rfl,trivial⟩};{
 have h2I:¬(126:Int)<b:=by omega
 have HN:=zY (HN.out (by omega) (by omega));clear HB;go_wp2;go_roundw;case rel=>exact⟨i+1,by omega,by go_num,HN,by first|rfl|trivial⟩
 case measure=>simp[intOf];omega}}};{
 obtain rfl:i=s.size:=by omega
 have hiI:¬((s.size:Nat):Int)<(s.size:Int):=by omega
 have hr:=HRt.out (fun j hj=>HA.out j hj hj);subst hr;go_wp2;go_ret;first|exact⟨rfl,rfl⟩|exact⟨rfl,trivial⟩}
structure PlnOk (a i t:Nat) (x:ByteArray):Prop where
 ha:a<4294967296
 it:i<t
 ht:t<=99999
 hx:x.size=64
 hp:prtL (bs x)=true
theorem plcheck_ok (w:World) (a i t:Nat) (x:ByteArray) (h:PlnOk a i t x):Calls prog 165 #[.agg #[.int .u32 (a:Int),.int .i64 (i:Int),.int .i64 (t:Int),.string x]] w fun e w'=>e=.returned (.int .i64 0)/\Below w.heap.size w w':=by
 have HP:=zY (fun W=>printable_any W x (by have:=h.hx;omega));rw[h.hp]at HP;have h1:=h.it;have h2:=h.ht;have h3:=h.hx;have h4:¬(t:Int)<1:=by omega
 have h5:¬(99999:Int)<t:=by omega
 have h6:¬(i:Int)<0:=by omega
 have h7:¬(t:Int)<=i:=by omega
 have h8:(x.size:Int)=64:=by omega
 have HK:=zY (Blk.new w 124 [.int .u32 (a:Int),.int .i64 (i:Int),.int .i64 (t:Int),.string x]);have HK:Hid (Blk (w.alloc (.cells #[.int .u32 (a:Int),.int .i64 (i:Int),.int .i64 (t:Int),.string x] 124)) w.heap.size 124 [.int .u32 (a:Int),.int .i64 (i:Int),.int .i64 (t:Int),.string x]):=zY HK.out;have HB:=zY (zBl w (.cells #[.int .u32 (a:Int),.int .i64 (i:Int),.int .i64 (t:Int),.string x] 124));have H3:=zY h3;clear h h1 h2 h3;go_enter func165,ntmps165;go_upto_region 1 with fail;generalize w.alloc (.cells #[.int .u32 (a:Int),.int .i64 (i:Int),.int .i64 (t:Int),.string x] 124)=wa at *;have c1:=HK.c 1;have c2:=HK.c 2;have c3:=HK.c 3;go_wp2_with fail;refine(HP.out _).mono ?_;rintro e1 w1 ⟨rfl,rfl⟩;go_wp2;go_ret;exact⟨rfl,HB.out⟩
def sealL (l:List Nat):List Nat:=l++padL 10 (sumL [strB l])
theorem padL_small {n v:Nat} (hn:n<=100) (hv:v<4294967296):(padL n v).length<=200:=by
 rw[padL,List.length_append,List.length_replicate];have:=digD_len20 (u:=v) (by omega);omega
theorem plseal_any (w:World) (l:List Nat) (hb:∀b∈l,b<256) (hl:l.length<=1000) (hT:Tab w):Calls prog 169 #[.string (strB l)] w fun e w'=>e=.returned (.string (strB (sealL l)))/\Below w.heap.size w w':=by
 have HCr:Hid (∀W:World,Calls prog 249 #[.slice (some ⟨W.heap.size,0,none⟩) 1 1] (W.alloc (.cells #[.string (strB l)] 9)) fun e w'=>e=.returned (.int .u32 (sumL [strB l]:Nat))/\W.alloc (.cells #[.string (strB l)] 9)=w'):=zY (fun W=>
  csum_any _ _ [strB l] (Blk.slAt (f:=strV) (xs:=[strB l]) (Blk.new W 9 [.string (strB l)]) (c:=1) (by simp) (by omega)) (by intro x hx;rw[List.mem_singleton.1 hx,strB_size];omega) (by simp));have hcl:=sumL_lt [strB l];obtain⟨c,hc⟩:=zNm (sumL [strB l]);rw[hc]at HCr hcl;have hcw:IntKind.u64.wrap (c:Int)=c:=IntWalk.u64_in _ (by omega);have hpz:=padL_small (n:=10) (by omega) hcl;have H1:=zY (fun(W:World) (g:Nat) (hW:Below w.heap.size w W) (hg:W.cell? ⟨g,0,none⟩=some (.int .i64 ((10:Nat):Int)))=>pdig1_any W g 10 c hg (by omega) (by omega) (hT.below hW));have Hc:Hid (strB l++strB (padL 10 c)=strB (sealL l)):=zY (by rw[sealL,hc];exact strB_cat _ _);have hz1:(strB l).size<=1000:=by rw[strB_size];exact hl
 have hz2:(strB (padL 10 c)).size<=200:=by rw[strB_size];exact hpz
 generalize strB (padL 10 c)=Q at *;generalize strB l=M at *;have hcc:¬9223372036854775807<M.size+Q.size:=by omega
 clear hb hl hT hc hpz;go_enter func169,ntmps169;go_wp2_with fail;refine(pdigits_any _ 10).mono ?_;rintro e1 w1 ⟨rfl,e1⟩;have HB1:Hid (Below w.heap.size w w1):=zY (e1▸zBl w _);have HG:Hid (w1.cell? ⟨w.heap.size,0,none⟩=some (.int .i64 ((10:Nat):Int))):=zY (e1▸(Blk.new w 3 [.int .i64 10]).c 0);clear e1;unfold digF;go_upto_region 2 with fail;go_wp2_with fail;refine(HCr.out _).mono ?_;rintro e2 w2 ⟨rfl,e2⟩;have HB2:Hid (Below w.heap.size w w2):=zY (e2▸HB1.alloc HB1.size _);have HG2:=zY (cell_below (e2▸zBl w1 _:Below w1.heap.size w1 w2) HG.out);clear e2;go_wp2_with fail;refine(H1.out _ _ HB2.out HG2.out).mono ?_;rintro e3 w3 ⟨rfl,hb3⟩;have HB3:=zYt HB2 hb3;clear hb3;go_wp2;go_ret;exact⟨by rw[Hc.out]<;>rfl,HB3.out⟩
def markP:List Nat:=[48,48,48,48,48,49,49,48,48,49,48,49,48,49,49,49]
def textL (a i t:Nat) (x:ByteArray):List Nat:=padL 10 a++padL 5 i++padL 5 t++bs x
def plnL (a i t:Nat) (x:ByteArray):List Nat:=markP++frmB (sealL (textL a i t x))
theorem digD_byte (u:Nat):∀b∈digD u,b<256:=by
 intro b hb;rw[<-decD]at hb;obtain⟨c,_,rfl⟩:=List.mem_map.1 hb;exact UInt8.toNat_lt c
theorem padL_byte (n v:Nat):∀b∈padL n v,b<256:=by
 intro b hb;rcases List.mem_append.1 hb with h|h;{rw[(List.mem_replicate.1 h).2];omega};{exact digD_byte v b h}
theorem textL_byte (a i t:Nat) (x:ByteArray):∀b∈textL a i t x,b<256:=by
 intro b hb;simp only[textL,List.mem_append]at hb;rcases hb with((h|h)|h)|h;{exact padL_byte _ _ b h};{exact padL_byte _ _ b h};{exact padL_byte _ _ b h};{
 obtain⟨c,_,rfl⟩:=List.mem_map.1 h;exact UInt8.toNat_lt c}
theorem textL_len {a i t:Nat} {x:ByteArray} (h:PlnOk a i t x):(textL a i t x).length<=700:=by
 have h1:=h.it;have h2:=h.ht;simp only[textL,List.length_append,bs_len];have p1:=padL_small (n:=10) (v:=a) (by omega) h.ha;have p2:=padL_small (n:=5) (v:=i) (by omega) (by omega);have p3:=padL_small (n:=5) (v:=t) (by omega) (by omega);have:=h.hx;omega
theorem sealL_len {l:List Nat} (h:l.length<=700):(sealL l).length<=900:=by
 rw[sealL,List.length_append];have:=padL_small (n:=10) (by omega) (sumL_lt [strB l]);omega
theorem sealL_byte {l:List Nat} (h:∀b∈l,b<256):∀b∈sealL l,b<256:=by
 intro b hb;rcases List.mem_append.1 hb with h1|h1;{exact h b h1};{
 exact padL_byte _ _ b h1}
theorem plmark_any (w:World):Calls prog 167 #[] w fun e w'=>e=.returned (.string ⟨#[48,48,48,48,48,49,49,48,48,49,48,49,48,49,49,49]⟩)/\w=w':=by
 go_enter func167,ntmps167;go_wp2;go_ret;exact⟨rfl,rfl⟩
theorem plenc_ok (w:World) (a i t:Nat) (x:ByteArray) (h:PlnOk a i t x) (hT:Tab w):Calls prog 95 #[.agg #[.int .u32 (a:Int),.int .i64 (i:Int),.int .i64 (t:Int),.string x]] w fun e w'=>e=.returned (.tuple #[.string (strB (plnL a i t x)),.int .i64 0])/\Below w.heap.size w w':=by
 have HC:=zY (fun W=>plcheck_ok W a i t x h);have hK:=Blk.new w 124 [.int .u32 (a:Int),.int .i64 (i:Int),.int .i64 (t:Int),.string x];have HK:Hid (Blk (w.alloc (.cells #[.int .u32 (a:Int),.int .i64 (i:Int),.int .i64 (t:Int),.string x] 124)) w.heap.size 124 [.int .u32 (a:Int),.int .i64 (i:Int),.int .i64 (t:Int),.string x]):=zY hK;have HB0:=zY (zBl w (.cells #[.int .u32 (a:Int),.int .i64 (i:Int),.int .i64 (t:Int),.string x] 124));have ha:=h.ha;have h1:=h.it;have h2:=h.ht;have hwA:IntKind.u64.wrap (a:Int)=a:=IntWalk.u64_in _ (by omega);have hwI:IntKind.u64.wrap (i:Int)=i:=IntWalk.u64_in _ (by omega);have hwT:IntKind.u64.wrap (t:Int)=t:=IntWalk.u64_in _ (by omega);have HTx:=zY (textL_len h);have HDA:Hid (∀(W:World) (g:Nat),Below w.heap.size w W->W.cell? ⟨g,0,none⟩=some (.int .i64 10)->Calls prog 244 #[.int .u64 (a:Int),.pointer (some ⟨g,0,none⟩)] W fun e w'=>e=.returned (.string (strB (padL 10 a)))/\Below W.heap.size W w'):=zY (fun W g hW hg=>pdig1_any W g 10 a hg (by omega) (by omega) (hT.below hW));have HDI:Hid (∀(W:World) (g:Nat),Below w.heap.size w W->W.cell? ⟨g,0,none⟩=some (.int .i64 5)->Calls prog 244 #[.int .u64 (i:Int),.pointer (some ⟨g,0,none⟩)] W fun e w'=>e=.returned (.string (strB (padL 5 i)))/\Below W.heap.size W w'):=zY (fun W g hW hg=>pdig1_any W g 5 i hg (by omega) (by omega) (hT.below hW))
 have HDT:Hid (∀(W:World) (g:Nat),Below w.heap.size w W->W.cell? ⟨g,0,none⟩=some (.int .i64 5)->Calls prog 244 #[.int .u64 (t:Int),.pointer (some ⟨g,0,none⟩)] W fun e w'=>e=.returned (.string (strB (padL 5 t)))/\Below W.heap.size W w'):=zY (fun W g hW hg=>pdig1_any W g 5 t hg (by omega) (by omega) (hT.below hW));have HSe:=zY (fun(W:World) (hW:Below w.heap.size w W)=>plseal_any W (textL a i t x) (textL_byte a i t x) (by have:=textL_len h;omega) (hT.below hW));have hsz:(strB (sealL (textL a i t x))).size<=900:=by rw[strB_size];exact sealL_len (textL_len h)
 have HFr:=zY (fun W=>cfrom_any W (strB (sealL (textL a i t x))) (by omega));rw[bs_strB (sealL_byte (textL_byte a i t x))]at HFr;have Hc1:Hid (strB (padL 10 a)++strB (padL 5 i)++strB (padL 5 t)++x=strB (textL a i t x)):=zY (by
  rw[strB_cat,strB_cat]
  have e2:=strB_cat (padL 10 a++padL 5 i++padL 5 t) (bs x)
  rw[strB_bs]at e2
  exact e2);have Hc2:Hid (⟨#[48,48,48,48,48,49,49,48,48,49,48,49,48,49,49,49]⟩++strB (frmB (sealL (textL a i t x)))=strB (plnL a i t x)):=zY (strB_cat markP _);have hz1:(strB (padL 10 a)).size<=200:=by rw[strB_size];exact padL_small (by omega) ha
 have hz2:(strB (padL 5 i)).size<=200:=by rw[strB_size];exact padL_small (by omega) (by omega)
 have hz3:(strB (padL 5 t)).size<=200:=by rw[strB_size];exact padL_small (by omega) (by omega)
 have hz4:=h.hx;have hz5:(strB (frmB (sealL (textL a i t x)))).size<=8000:=by rw[strB_size,frmB_len];have:=sealL_len (textL_len h);omega
 generalize strB (padL 10 a)=X1 at *;generalize strB (padL 5 i)=X2 at *;generalize strB (padL 5 t)=X3 at *;generalize strB (textL a i t x)=X4 at *;generalize strB (sealL (textL a i t x))=X5 at *;generalize strB (frmB (sealL (textL a i t x)))=X6 at *;have hcc1:¬9223372036854775807<X1.size+X2.size:=by omega
 have hcc2:¬9223372036854775807<X1.size+X2.size+X3.size:=by omega
 have hcc3:¬9223372036854775807<X1.size+X2.size+X3.size+x.size:=by omega
 have hcc4:¬9223372036854775807<16+X6.size:=by omega
 have Hz4:=zY hz4;clear h ha h1 h2 hT hsz hz1 hz2 hz3 hz4 hz5 hK;go_enter func95,ntmps95;go_upto_region 1 with fail;generalize w.alloc (.cells #[.int .u32 (a:Int),.int .i64 (i:Int),.int .i64 (t:Int),.string x] 124)=wa at *;have c0:=HK.c 0;have c1:=HK.c 1;have c2:=HK.c 2;have c3:=HK.c 3;go_wp2_with fail;refine(HC.out _).mono ?_;rintro e1 w1 ⟨rfl,hb1⟩;have HK1:=zY (HK.kept hb1);have HB1:=zYt HB0 hb1;clear hb1 c0 c1 c2 c3 HK HB0;go_wp2_with fail;refine(pdigits_any _ 10).mono ?_;rintro e2 w2 ⟨rfl,e2⟩;have HD2:Hid (Below w1.heap.size w1 w2):=zY (e2▸zBl w1 _);have HG2:Hid (w2.cell? ⟨w1.heap.size,0,none⟩=some (.int .i64 10)):=zY (e2▸(Blk.new w1 3 [.int .i64 10]).c 0);have HK2:=zY (HK1.kept HD2.out);have HB2:=zY (HB1.trans (HD2.mono HB1.size));clear e2 HD2 HK1 HB1;unfold digF;go_upto_region 5 with fail;go_wp2_with fail;refine(pdigits_any _ 5).mono ?_;rintro e3 w3 ⟨rfl,e3⟩;have HD3:Hid (Below w2.heap.size w2 w3):=zY (e3▸zBl w2 _);have HG3:Hid (w3.cell? ⟨w2.heap.size,0,none⟩=some (.int .i64 5)):=zY (e3▸(Blk.new w2 3 [.int .i64 5]).c 0);have HG2:=zY (cell_below HD3.out HG2.out);have HK3:=zY (HK2.kept HD3.out);have HB3:=zY (HB2.trans (HD3.mono HB2.size));clear e3 HD3 HK2 HB2;unfold digF;go_upto_region 6 with fail;have HKS:Hid (∀W,Below w3.heap.size w3 W->(W.cell? ⟨w.heap.size,0,none⟩=some (.int .u32 (a:Int))/\W.cell? ⟨w.heap.size,1,none⟩=some (.int .i64 (i:Int))/\W.cell? ⟨w.heap.size,2,none⟩=some (.int .i64 (t:Int))/\W.cell? ⟨w.heap.size,3,none⟩=some (.string x))/\W.cell? ⟨w1.heap.size,0,none⟩=some (.int .i64 10)/\W.cell? ⟨w2.heap.size,0,none⟩=some (.int .i64 5)):=zY (fun W hW=>by
  have hk:=HK3.kept hW
  exact⟨⟨hk.c 0,hk.c 1,hk.c 2,hk.c 3⟩,cell_below hW HG2.out,cell_below hW HG3.out⟩);have HW:=zY ((Below.refl w3.heap.size w3).drew);have HS:=zY (HKS.out _ HW.out);refine wp_region_held_drew (S:=(fun W=>(W.cell? ⟨w.heap.size,0,none⟩=some (.int .u32 (a:Int))/\W.cell? ⟨w.heap.size,1,none⟩=some (.int .i64 (i:Int))/\W.cell? ⟨w.heap.size,2,none⟩=some (.int .i64 (t:Int))/\W.cell? ⟨w.heap.size,3,none⟩=some (.string x))/\W.cell? ⟨w1.heap.size,0,none⟩=some (.int .i64 10)/\W.cell? ⟨w2.heap.size,0,none⟩=some (.int .i64 5))) (by kernel_rfl) ?_ (fun hHeld=>?_);{exact HS.out};refine tk 0 ?_;refine tk 1 ?_;refine tk 2 ?_;refine tk 3 ?_;refine tk 5 ?_;refine tk 6 ?_;refine tk 7 ?_;refine tk 8 ?_;refine tk 11 ?_;refine tk 12 ?_;refine tk 13 ?_;refine tk 14 ?_;refine tk 17 ?_;refine tk 18 ?_;refine zE1 4 fun K hK=>?_;go_simp;refine(HDA.out _ _ (HB3.trans (HW.mono HB3.size)) HS.2.1).mono ?_;rintro e4 w4 ⟨rfl,hb⟩;(try go_wp2_with fail);have HW:=zYt HW hb;clear hb;have HS:=zY (HKS.out _ HW.out);refine hko hK (by exact HS.out) (fun _=>?_);clear hK K;refine zE1 9 fun K hK=>?_;go_simp;refine(HDI.out _ _ (HB3.trans (HW.mono HB3.size)) HS.2.2).mono ?_;rintro e5 w5 ⟨rfl,hb⟩;(try go_wp2_with fail);have HW:=zYt HW hb;clear hb;have HS:=zY (HKS.out _ HW.out);refine hko hK (by exact HS.out) (fun _=>?_);clear hK K;refine tk 10 ?_;refine zE1 15 fun K hK=>?_;go_simp;refine(HDT.out _ _ (HB3.trans (HW.mono HB3.size)) HS.2.2).mono ?_;rintro e6 w6 ⟨rfl,hb⟩;(try go_wp2_with fail);have HW:=zYt HW hb;clear hb;have HS:=zY (HKS.out _ HW.out);refine hko hK (by exact HS.out) (fun _=>?_);clear hK K;refine tk 16 ?_
 refine tk 19 ?_;refine tk 20 ?_;refine wpAnyH_done (by kernel_rfl) ?_ _;have HB6:=zY (HB3.trans (HW.mono HB3.size));rw[Hc1.out];clear HS;go_upto_region 7 with fail;go_wp2_with fail;refine(plmark_any _).mono ?_;rintro e7 w7 ⟨rfl,rfl⟩;go_wp2_with fail;refine(HSe.out _ HB6.out).mono ?_;rintro e8 w8 ⟨rfl,hb8⟩;have HB8:=zYt HB6 hb8;clear hb8;go_wp2_with fail;refine(HFr.out _).mono ?_;rintro e9 w9 ⟨rfl,hb9⟩;have HB9:=zYt HB8 hb9;clear hb9;go_wp2;go_ret2;exact⟨by rw[Hc2.out]<;>rfl,HB9.out⟩
theorem allowed38_any (w:World) (v:Value) (l:List Hol) (hv:SeqAt holS w v l) (hz:∀h∈l,h.p.size<=1000000) (k:Int) (path tgt dig:ByteArray) (Aa Ax:Option Addr) (na ca nx cx:Nat) (size:Int) (hp:path.size<=1000000) (date:Int):
  Calls prog 156 #[v,.agg #[.int .i64 k,.string path,.slice Aa na ca,.string tgt,.int .i64 size,.string dig,.slice Ax nx cx],.int .i64 date] w fun e w'=>RetI e/\Below w.heap.size w w':=by
 have hK:=Blk.new w 182 [.int .i64 k,.string path,.slice Aa na ca,.string tgt,.int .i64 size,.string dig,.slice Ax nx cx];change Blk (w.alloc (.cells #[.int .i64 k,.string path,.slice Aa na ca,.string tgt,.int .i64 size,.string dig,.slice Ax nx cx] 182)) _ _ _ at hK;have HK:=zY hK;have HB0:=zY (zBl w (.cells #[.int .i64 k,.string path,.slice Aa na ca,.string tgt,.int .i64 size,.string dig,.slice Ax nx cx] 182));have Hv:=zY (hv.below HB0.out);obtain⟨A,c,rfl,h1,h2⟩:=hv.slice;have HH:=zY (fun(W:World) (h:SeqAt holS W (.slice A l.length c) l)=>held_any W (.slice A l.length c) l h hz path hp date);have HU:=zY (fun(W:World) (q:ByteArray) (hq:q.size<=1000000)=>under_any W q path hq hp);have Hz:=zY hz;clear hK hv hz;go_enter func156,ntmps156;go_upto_region 1 with fail;generalize w.alloc (.cells #[.int .i64 k,.string path,.slice Aa na ca,.string tgt,.int .i64 size,.string dig,.slice Ax nx cx] 182)=wa at *;have c0:=HK.c 0;have c1:=HK.c 1;have hk:(k=1∨k=2∨k=3)∨k=4∨(k≠1/\k≠2/\k≠3/\k≠4):=by omega
 rcases hk with hk|rfl|⟨k1,k2,k3,k4⟩;{
 rcases hk with rfl|rfl|rfl;all_goals
 go_wp2_with fail;refine(HH.out _ Hv.out).mono ?_;rintro e1 w1 ⟨⟨r,rfl⟩,hb1⟩;have d0:=(HK.kept hb1).c 0;have HBz:=zYt HB0 hb1;clear hb1;cases r with
 |true=>go_wp2_with fail;go_ret;exact⟨RetI.of 15,HBz.out⟩
 |false=>
 go_wp2_with fail;go_ret;exact⟨RetI.of 0,HBz.out⟩};{
 go_wp2_with fail;refine(HH.out _ Hv.out).mono ?_;rintro e1 w1 ⟨⟨r,rfl⟩,hb1⟩;have HK1:=zY (HK.kept hb1);have Hv1:=zY (Hv.below hb1);have d0:=HK1.c 0;have HBz:=zYt HB0 hb1;clear hb1;cases r with
 |true=>go_wp2_with fail;go_ret;exact⟨RetI.of 15,HBz.out⟩
 |false=>
 clear HB0 HK Hv c0 c1;have HB0:=HBz;go_wp2;go_loopw [8] (fun x wr=>∃i:Nat,i<=l.length/\x=.int .i64 (i:Int)/\Below w1.heap.size w1 wr) (fun x _=>l.length-(intOf x).toNat);case atStart=>exact⟨0,by omega,rfl,Below.refl _ _⟩
 case round=>
 obtain⟨i,hi,rfl,hB⟩:=hrel;have HBc:=zY hB;clear hB;by_cases h:i<l.length;{
 have hiI:(i:Int)<l.length:=by omega
 obtain⟨x,hx⟩:∃x,l[i]?=some x:=⟨_,List.getElem?_eq_getElem h⟩;have Hxz:=zY (Hz.out x (List.mem_of_getElem? hx));obtain⟨_,_,e9,_,_,h4⟩:=Hv1.out;cases e9;obtain⟨b,o,cs,rfl,rfl,hc⟩:=h4 i x hx;have HL0:Hid (w1.cell? ⟨b,o+i*2,none⟩=some (.string x.p)):=zY (hc 0 _ rfl);have HL1:Hid (w1.cell? ⟨b,o+i*2+1,none⟩=some (.int .i64 x.u)):=zY (hc 1 _ rfl);have HL2:Hid (w1.cell? ⟨w.heap.size,1,none⟩=some (.string path)):=zY (HK1.c 1);obtain⟨q,uq⟩:=x;dsimp only at HL0 HL1 Hxz;clear hc h4 hx d0;by_cases hd:date<=uq;{
 have hdd:decide (date<=uq)=true:=decide_eq_true hd;have HBc:=zY HBc.drew;go_upto_region 8 with fail;refine wp_region_held_drew (S:=(fun W=>W.cell? ⟨b,o+i*2,none⟩=some (.string q)/\W.cell? ⟨b,o+i*2+1,none⟩=some (.int .i64 uq)/\W.cell? ⟨w.heap.size,1,none⟩=some (.string path))) (by kernel_rfl) ?_ (fun hHeld=>?_);{exact⟨cell_below HBc.out HL0.out,cell_below HBc.out HL1.out,cell_below HBc.out HL2.out⟩};refine tk 0 ?_;refine tk 1 ?_;refine tk 2 ?_;refine tk 3 ?_;refine tk 4 ?_;refine tk 5 ?_;refine tk 6 ?_;refine tk 7 ?_;refine tk 8 ?_;refine tk 9 ?_;refine tk 10 ?_;refine tk 11 ?_;refine tk 12 ?_;refine tk 13 ?_;refine tk 14 ?_;refine zE1 15 fun K hK=>?_;go_simp;refine(HU.out _ q Hxz.out).mono ?_;rintro e2 w2 ⟨⟨r,rfl⟩,hb2⟩;(try go_wp2_with fail);have HBc:=zYt HBc hb2;clear hb2;refine hko hK (by exact⟨cell_below HBc.out HL0.out,cell_below HBc.out HL1.out,cell_below HBc.out HL2.out⟩) (fun _=>?_);clear hK K;refine tk 16 ?_;refine wpAnyH_done (by kernel_rfl) ?_ _;cases r with
 |true=>go_wp2_with fail;go_ret;exact⟨RetI.of 15,HB0.trans (HBc.mono HB0.size)⟩
 |false=>
 go_wp2_with fail;go_roundw;case rel=>exact⟨i+1,by omega,by go_num,HBc.out⟩
 case measure=>simp[intOf];omega};{
 have hdd:decide (date<=uq)=false:=decide_eq_false hd;have m0:=cell_below HBc.out HL0.out;have m1:=cell_below HBc.out HL1.out;go_upto_region 8 with fail;go_quiet (fail);go_wp2;go_roundw;case rel=>exact⟨i+1,by omega,by go_num,zBd HBc.out _⟩
 case measure=>simp[intOf];omega}};{
 have hiI:¬(i:Int)<l.length:=by omega
 go_wp2;go_ret;exact⟨RetI.of 0,HB0.trans (HBc.mono HB0.size)⟩}};{
 have f1:(k==1)=false:=by rw[beq_eq_false_iff_ne];exact k1
 have f2:(k==2)=false:=by rw[beq_eq_false_iff_ne];exact k2
 have f3:(k==3)=false:=by rw[beq_eq_false_iff_ne];exact k3
 have f4:(k==4)=false:=by rw[beq_eq_false_iff_ne];exact k4
 clear k1 k2 k3 k4;go_wp2;go_ret;exact⟨RetI.of 0,HB0.out⟩}
end
end Go.Proofs.YthgenkkkapilhaaGreatDoor