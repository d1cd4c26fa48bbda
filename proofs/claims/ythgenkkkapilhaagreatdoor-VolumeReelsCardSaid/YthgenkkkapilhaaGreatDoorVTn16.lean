/- Texts, joined. -/
import Derived.Test.YthgenkkkapilhaaGreatDoorVTn15
set_option linter.all false
set_option maxRecDepth 100000
set_option maxHeartbeats 64000000
namespace Go.Proofs.YthgenkkkapilhaaGreatDoor
open Go.Proofs.Tryz
section
open Go.RowKit
def prtL (l:List Nat):Bool:=l.all fun b=>decide (32<=b)&&decide (b<=126)
theorem prt_true {s:ByteArray} (h:∀i (hi:i<s.size),32<=(s[i]'hi).toNat/\(s[i]'hi).toNat<=126):prtL (bs s)=true:=by
 rw[prtL,List.all_eq_true];intro b hb;obtain⟨i,hi,rfl⟩:=List.mem_iff_getElem.1 hb;have hi2:i<s.size:=by rwa [bs_len]at hi
 have h1:=bs_get s i hi2;rw[List.getElem?_eq_getElem hi]at h1;rw[Option.some.inj h1];simp[h i hi2]
theorem prt_false {s:ByteArray} {i:Nat} (hi:i<s.size) (h:¬(32<=(s[i]'hi).toNat/\(s[i]'hi).toNat<=126)):prtL (bs s)=false:=by
 cases hp:prtL (bs s)with
 |false=>rfl
 |true=>
 rw[prtL,List.all_eq_true]at hp;have:=hp _ (List.mem_of_getElem? (bs_get s i hi));simp only[Bool.and_eq_true,decide_eq_true_eq]at this;exact absurd this h
theorem printable_any (w:World) (s:ByteArray) (hs:s.size<=1000000):Calls prog 60 #[.string s] w fun e w'=>e=.returned (.bool (prtL (bs s)))/\w'=w:=by
 obtain⟨R,hR⟩:=zNm (prtL (bs s));have HRt:Hid ((∀i (hi:i<s.size),32<=(s[i]'hi).toNat/\(s[i]'hi).toNat<=126)->R=true):=zY (fun h=>by rw[<-hR];exact prt_true h);have HRf:Hid (∀i (hi:i<s.size),¬(32<=(s[i]'hi).toNat/\(s[i]'hi).toNat<=126)->R=false):=zY (fun i hi h=>by rw[<-hR];exact prt_false hi h);rw[hR];clear hR;go_enter func60,ntmps60;go_wp2;go_loopw [6] (fun x wr=>∃i:Nat,i<=s.size/\x=.int .i64 (i:Int)/\Hid (∀j (hj:j<s.size),j<i->32<=(s[j]'hj).toNat/\(s[j]'hj).toNat<=126)/\wr=w) (fun x _=>s.size-(intOf x).toNat);case atStart=>exact⟨0,by omega,rfl,zY (fun j _ h=>by omega),rfl⟩
 case round=>
 obtain⟨i,hi,rfl,HA,rfl⟩:=hrel;by_cases h:i<s.size;{
 have hiI:(i:Int)<s.size:=by omega
 have HB:=zY (HRf.out i h);have HN:Hid (32<=(s[i]'h).toNat->(s[i]'h).toNat<=126->∀j (hj:j<s.size),j<i+1->32<=(s[j]'hj).toNat/\(s[j]'hj).toNat<=126):=zY (fun h1 h2 j hj hji=>by
  by_cases e:j=i
  ·subst e;exact⟨h1,h2⟩
  ·exact HA.out j hj (by omega));obtain⟨b,hb⟩:=zNm ((s[i]'h).toNat);rw[hb]at HB HN;have hb8:b<256:=by rw[<-hb];exact UInt8.toNat_lt _
 by_cases h1:b<32;{
 have h1I:(b:Int)<32:=by omega
 have hr:=HB.out (by omega);subst hr;clear HB HN;go_wp2;go_ret;first|exact⟨rfl,rfl⟩|exact⟨rfl,trivial⟩};{
 have h1I:¬(b:Int)<32:=by omega
 by_cases h2:126<b;{
 have h2I:(126:Int)<b:=by omega
 have hr:=HB.out (by omega);subst hr;clear HB HN;go_wp2;go_ret;first|exact⟨rfl,rfl⟩|exact⟨rfl,trivial⟩};{
 have h2I:¬(126:Int)<b:=by omega
 have HN:=zY (HN.out (by omega) (by omega));clear HB;go_wp2;go_roundw;case rel=>exact⟨i+1,by omega,by go_num,HN,by first|rfl|trivial⟩
 case measure=>simp[intOf];omega}}};{
 obtain rfl:i=s.size:=by omega
 have hiI:¬((s.size:Nat):Int)<(s.size:Int):=by omega
 have hr:=HRt.out (fun j hj=>HA.out j hj hj);subst hr;go_wp2;go_ret;first|exact⟨rfl,rfl⟩|exact⟨rfl,trivial⟩}
structure PlnOk (a i t:Nat) (x:ByteArray):Prop where
 ha:a<4294967296
 it:i<t
 ht:t<=99999
 hx:x.size=64
 hp:prtL (bs x)=true
theorem plcheck_ok (w:World) (a i t:Nat) (x:ByteArray) (h:PlnOk a i t x):Calls prog 165 #[.agg #[.int .u32 (a:Int),.int .i64 (i:Int),.int .i64 (t:Int),.string x]] w fun e w'=>e=.returned (.int .i64 0)/\Below w.heap.size w w':=by
 have HP:=zY (fun W=>printable_any W x (by have:=h.hx;omega));rw[h.hp]at HP;have h1:=h.it;have h2:=h.ht;have h3:=h.hx;have h4:¬(t:Int)<1:=by omega
 have h5:¬(99999:Int)<t:=by omega
 have h6:¬(i:Int)<0:=by omega
 have h7:¬(t:Int)<=i:=by omega
 have h8:(x.size:Int)=64:=by omega
 have HK:=zY (Blk.new w 124 [.int .u32 (a:Int),.int .i64 (i:Int),.int .i64 (t:Int),.string x]);have HK:Hid (Blk (w.alloc (.cells #[.int .u32 (a:Int),.int .i64 (i:Int),.int .i64 (t:Int),.string x] 124)) w.heap.size 124 [.int .u32 (a:Int),.int .i64 (i:Int),.int .i64 (t:Int),.string x]):=zY HK.out;have HB:=zY (zBl w (.cells #[.int .u32 (a:Int),.int .i64 (i:Int),.int .i64 (t:Int),.string x] 124));have H3:=zY h3;clear h h1 h2 h3;go_enter func165,ntmps165;go_upto_region 1 with fail;generalize w.alloc (.cells #[.int .u32 (a:Int),.int .i64 (i:Int),.int .i64 (t:Int),.string x] 124)=wa at *;have c1:=HK.c 1;have c2:=HK.c 2;have c3:=HK.c 3;go_wp2_with fail;refine(HP.out _).mono ?_;rintro e1 w1 ⟨rfl,rfl⟩;go_wp2;go_ret;exact⟨rfl,HB.out⟩
def sealL (l:List Nat):List Nat:=l++padL 10 (sumL [strB l])
theorem padL_small {n v:Nat} (hn:n<=100) (hv:v<4294967296):(padL n v).length<=200:=by
 rw[padL,List.length_append,List.length_replicate];have:=digD_len20 (u:=v) (by omega);omega
theorem plseal_any (w:World) (l:List Nat) (hb:∀b∈l,b<256) (hl:l.length<=1000) (hT:Tab w):Calls prog 169 #[.string (strB l)] w fun e w'=>e=.returned (.string (strB (sealL l)))/\Below w.heap.size w w':=by
 have HCr:Hid (∀W:World,Calls prog 249 #[.slice (some ⟨W.heap.size,0,none⟩) 1 1] (W.alloc (.cells #[.string (strB l)] 9)) fun e w'=>e=.returned (.int .u32 (sumL [strB l]:Nat))/\W.alloc (.cells #[.string (strB l)] 9)=w'):=zY (fun W=>
  csum_any _ _ [strB l] (Blk.slAt (f:=strV) (xs:=[strB l]) (Blk.new W 9 [.string (strB l)]) (c:=1) (by simp) (by omega)) (by intro x hx;rw[List.mem_singleton.1 hx,strB_size];omega) (by simp));have hcl:=sumL_lt [strB l];obtain⟨c,hc⟩:=zNm (sumL [strB l]);rw[hc]at HCr hcl;have hcw:IntKind.u64.wrap (c:Int)=c:=IntWalk.u64_in _ (by omega);have hpz:=padL_small (n:=10) (by omega) hcl;have H1:=zY (fun(W:World) (g:Nat) (hW:Below w.heap.size w W) (hg:W.cell? ⟨g,0,none⟩=some (.int .i64 ((10:Nat):Int)))=>pdig1_any W g 10 c hg (by omega) (by omega) (hT.below hW));have Hc:Hid (strB l++strB (padL 10 c)=strB (sealL l)):=zY (by rw[sealL,hc];exact strB_cat _ _);have hz1:(strB l).size<=1000:=by rw[strB_size];exact hl
 have hz2:(strB (padL 10 c)).size<=200:=by rw[strB_size];exact hpz
 generalize strB (padL 10 c)=Q at *;generalize strB l=M at *;have hcc:¬9223372036854775807<M.size+Q.size:=by omega
 clear hb hl hT hc hpz;go_enter func169,ntmps169;go_wp2_with fail;refine(pdigits_any _ 10).mono ?_;rintro e1 w1 ⟨rfl,e1⟩;have HB1:Hid (Below w.heap.size w w1):=zY (e1▸zBl w _);have HG:Hid (w1.cell? ⟨w.heap.size,0,none⟩=some (.int .i64 ((10:Nat):Int))):=zY (e1▸(Blk.new w 3 [.int .i64 10]).c 0);clear e1;unfold digF;go_upto_region 2 with fail;go_wp2_with fail;refine(HCr.out _).mono ?_;rintro e2 w2 ⟨rfl,e2⟩;have HB2:Hid (Below w.heap.size w w2):=zY (e2▸HB1.alloc HB1.size _);have HG2:=zY (cell_below (e2▸zBl w1 _:Below w1.heap.size w1 w2) HG.out);clear e2;go_wp2_with fail;refine(H1.out _ _ HB2.out HG2.out).mono ?_;rintro e3 w3 ⟨rfl,hb3⟩;have HB3:=zYt HB2 hb3;clear hb3;go_wp2;go_ret;exact⟨by rw[Hc.out]<;>rfl,HB3.out⟩
def markP:List Nat:=[48,48,48,48,48,49,49,48,48,49,48,49,48,49,49,49]
def textL (a i t:Nat) (x:ByteArray):List Nat:=padL 10 a++padL 5 i++padL 5 t++bs x
def plnL (a i t:Nat) (x:ByteArray):List Nat:=markP++frmB (sealL (textL a i t x))
theorem digD_byte (u:Nat):∀b∈digD u,b<256:=by
 intro b hb;rw[<-decD]at hb;obtain⟨c,_,rfl⟩:=List.mem_map.1 hb;exact UInt8.toNat_lt c
theorem padL_byte (n v:Nat):∀b∈padL n v,b<256:=by
 intro b hb;rcases List.mem_append.1 hb with h|h;{rw[(List.mem_replicate.1 h).2];omega};{exact digD_byte v b h}
theorem textL_byte (a i t:Nat) (x:ByteArray):∀b∈textL a i t x,b<256:=by
 intro b hb;simp only[textL,List.mem_append]at hb;rcases hb with((h|h)|h)|h;{exact padL_byte _ _ b h};{exact padL_byte _ _ b h};{exact padL_byte _ _ b h};{
 obtain⟨c,_,rfl⟩:=List.mem_map.1 h;exact UInt8.toNat_lt c}
theorem textL_len {a i t:Nat} {x:ByteArray} (h:PlnOk a i t x):(textL a i t x).length<=700:=by
 have h1:=h.it;have h2:=h.ht;simp only[textL,List.length_append,bs_len];have p1:=padL_small (n:=10) (v:=a) (by omega) h.ha;have p2:=padL_small (n:=5) (v:=i) (by omega) (by omega);have p3:=padL_small (n:=5) (v:=t) (by omega) (by omega);have:=h.hx;omega
theorem sealL_len {l:List Nat} (h:l.length<=700):(sealL l).length<=900:=by
 rw[sealL,List.length_append];have:=padL_small (n:=10) (by omega) (sumL_lt [strB l]);omega
theorem sealL_byte {l:List Nat} (h:∀b∈l,b<256):∀b∈sealL l,b<256:=by
 intro b hb;rcases List.mem_append.1 hb with h1|h1;{exact h b h1};{
 exact padL_byte _ _ b h1}
theorem plmark_any (w:World):Calls prog 167 #[] w fun e w'=>e=.returned (.string ⟨#[48,48,48,48,48,49,49,48,48,49,48,49,48,49,49,49]⟩)/\w=w':=by
 go_enter func167,ntmps167;go_wp2;go_ret;exact⟨rfl,rfl⟩
theorem plenc_ok (w:World) (a i t:Nat) (x:ByteArray) (h:PlnOk a i t x) (hT:Tab w):Calls prog 95 #[.agg #[.int .u32 (a:Int),.int .i64 (i:Int),.int .i64 (t:Int),.string x]] w fun e w'=>e=.returned (.tuple #[.string (strB (plnL a i t x)),.int .i64 0])/\Below w.heap.size w w':=by
 have HC:=zY (fun W=>plcheck_ok W a i t x h);have hK:=Blk.new w 124 [.int .u32 (a:Int),.int .i64 (i:Int),.int .i64 (t:Int),.string x];have HK:Hid (Blk (w.alloc (.cells #[.int .u32 (a:Int),.int .i64 (i:Int),.int .i64 (t:Int),.string x] 124)) w.heap.size 124 [.int .u32 (a:Int),.int .i64 (i:Int),.int .i64 (t:Int),.string x]):=zY hK;have HB0:=zY (zBl w (.cells #[.int .u32 (a:Int),.int .i64 (i:Int),.int .i64 (t:Int),.string x] 124));have ha:=h.ha;have h1:=h.it;have h2:=h.ht;have hwA:IntKind.u64.wrap (a:Int)=a:=IntWalk.u64_in _ (by omega);have hwI:IntKind.u64.wrap (i:Int)=i:=IntWalk.u64_in _ (by omega);have hwT:IntKind.u64.wrap (t:Int)=t:=IntWalk.u64_in _ (by omega);have HTx:=zY (textL_len h);have HDA:Hid (∀(W:World) (g:Nat),Below w.heap.size w W->W.cell? ⟨g,0,none⟩=some (.int .i64 10)->Calls prog 244 #[.int .u64 (a:Int),.pointer (some ⟨g,0,none⟩)] W fun e w'=>e=.returned (.string (strB (padL 10 a)))/\Below W.heap.size W w'):=zY (fun W g hW hg=>pdig1_any W g 10 a hg (by omega) (by omega) (hT.below hW));have HDI:Hid (∀(W:World) (g:Nat),Below w.heap.size w W->W.cell? ⟨g,0,none⟩=some (.int .i64 5)->Calls prog 244 #[.int .u64 (i:Int),.pointer (some ⟨g,0,none⟩)] W fun e w'=>e=.returned (.string (strB (padL 5 i)))/\Below W.heap.size W w'):=zY (fun W g hW hg=>pdig1_any W g 5 i hg (by omega) (by omega) (hT.below hW))
 have HDT:Hid (∀(W:World) (g:Nat),Below w.heap.size w W->W.cell? ⟨g,0,none⟩=some (.int .i64 5)->Calls prog 244 #[.int .u64 (t:Int),.pointer (some ⟨g,0,none⟩)] W fun e w'=>e=.returned (.string (strB (padL 5 t)))/\Below W.heap.size W w'):=zY (fun W g hW hg=>pdig1_any W g 5 t hg (by omega) (by omega) (hT.below hW));have HSe:=zY (fun(W:World) (hW:Below w.heap.size w W)=>plseal_any W (textL a i t x) (textL_byte a i t x) (by have:=textL_len h;omega) (hT.below hW));have hsz:(strB (sealL (textL a i t x))).size<=900:=by rw[strB_size];exact sealL_len (textL_len h)
 have HFr:=zY (fun W=>cfrom_any W (strB (sealL (textL a i t x))) (by omega));rw[bs_strB (sealL_byte (textL_byte a i t x))]at HFr;have Hc1:Hid (strB (padL 10 a)++strB (padL 5 i)++strB (padL 5 t)++x=strB (textL a i t x)):=zY (by
  rw[strB_cat,strB_cat]
  have e2:=strB_cat (padL 10 a++padL 5 i++padL 5 t) (bs x)
  rw[strB_bs]at e2
  exact e2);have Hc2:Hid (⟨#[48,48,48,48,48,49,49,48,48,49,48,49,48,49,49,49]⟩++strB (frmB (sealL (textL a i t x)))=strB (plnL a i t x)):=zY (strB_cat markP _);have hz1:(strB (padL 10 a)).size<=200:=by rw[strB_size];exact padL_small (by omega) ha
 have hz2:(strB (padL 5 i)).size<=200:=by rw[strB_size];exact padL_small (by omega) (by omega)
 have hz3:(strB (padL 5 t)).size<=200:=by rw[strB_size];exact padL_small (by omega) (by omega)
 have hz4:=h.hx;have hz5:(strB (frmB (sealL (textL a i t x)))).size<=8000:=by rw[strB_size,frmB_len];have:=sealL_len (textL_len h);omega
 generalize strB (padL 10 a)=X1 at *;generalize strB (padL 5 i)=X2 at *;generalize strB (padL 5 t)=X3 at *;generalize strB (textL a i t x)=X4 at *;generalize strB (sealL (textL a i t x))=X5 at *;generalize strB (frmB (sealL (textL a i t x)))=X6 at *;have hcc1:¬9223372036854775807<X1.size+X2.size:=by omega
 have hcc2:¬9223372036854775807<X1.size+X2.size+X3.size:=by omega
 have hcc3:¬9223372036854775807<X1.size+X2.size+X3.size+x.size:=by omega
 have hcc4:¬9223372036854775807<16+X6.size:=by omega
 have Hz4:=zY hz4;clear h ha h1 h2 hT hsz hz1 hz2 hz3 hz4 hz5 hK;go_enter func95,ntmps95;go_upto_region 1 with fail;generalize w.alloc (.cells #[.int .u32 (a:Int),.int .i64 (i:Int),.int .i64 (t:Int),.string x] 124)=wa at *;have c0:=HK.c 0;have c1:=HK.c 1;have c2:=HK.c 2;have c3:=HK.c 3;go_wp2_with fail;refine(HC.out _).mono ?_;rintro e1 w1 ⟨rfl,hb1⟩;have HK1:=zY (HK.kept hb1);have HB1:=zYt HB0 hb1;clear hb1 c0 c1 c2 c3 HK HB0;go_wp2_with fail;refine(pdigits_any _ 10).mono ?_;rintro e2 w2 ⟨rfl,e2⟩;have HD2:Hid (Below w1.heap.size w1 w2):=zY (e2▸zBl w1 _);have HG2:Hid (w2.cell? ⟨w1.heap.size,0,none⟩=some (.int .i64 10)):=zY (e2▸(Blk.new w1 3 [.int .i64 10]).c 0);have HK2:=zY (HK1.kept HD2.out);have HB2:=zY (HB1.trans (HD2.mono HB1.size));clear e2 HD2 HK1 HB1;unfold digF;go_upto_region 5 with fail;go_wp2_with fail;refine(pdigits_any _ 5).mono ?_;rintro e3 w3 ⟨rfl,e3⟩;have HD3:Hid (Below w2.heap.size w2 w3):=zY (e3▸zBl w2 _);have HG3:Hid (w3.cell? ⟨w2.heap.size,0,none⟩=some (.int .i64 5)):=zY (e3▸(Blk.new w2 3 [.int .i64 5]).c 0);have HG2:=zY (cell_below HD3.out HG2.out);have HK3:=zY (HK2.kept HD3.out);have HB3:=zY (HB2.trans (HD3.mono HB2.size));clear e3 HD3 HK2 HB2;unfold digF;go_upto_region 6 with fail;have HKS:Hid (∀W,Below w3.heap.size w3 W->(W.cell? ⟨w.heap.size,0,none⟩=some (.int .u32 (a:Int))/\W.cell? ⟨w.heap.size,1,none⟩=some (.int .i64 (i:Int))/\W.cell? ⟨w.heap.size,2,none⟩=some (.int .i64 (t:Int))/\W.cell? ⟨w.heap.size,3,none⟩=some (.string x))/\W.cell? ⟨w1.heap.size,0,none⟩=some (.int .i64 10)/\W.cell? ⟨w2.heap.size,0,none⟩=some (.int .i64 5)):=zY (fun W hW=>by
  have hk:=HK3.kept hW
  exact⟨⟨hk.c 0,hk.c 1,hk.c 2,hk.c 3⟩,cell_below hW HG2.out,cell_below hW HG3.out⟩);have HW:=zY ((Below.refl w3.heap.size w3).drew);have HS:=zY (HKS.out _ HW.out);refine wp_region_held_drew (S:=(fun W=>(W.cell? ⟨w.heap.size,0,none⟩=some (.int .u32 (a:Int))/\W.cell? ⟨w.heap.size,1,none⟩=some (.int .i64 (i:Int))/\W.cell? ⟨w.heap.size,2,none⟩=some (.int .i64 (t:Int))/\W.cell? ⟨w.heap.size,3,none⟩=some (.string x))/\W.cell? ⟨w1.heap.size,0,none⟩=some (.int .i64 10)/\W.cell? ⟨w2.heap.size,0,none⟩=some (.int .i64 5))) (by kernel_rfl) ?_ (fun hHeld=>?_);{exact HS.out};refine tk 0 ?_;refine tk 1 ?_;refine tk 2 ?_;refine tk 3 ?_;refine tk 5 ?_;refine tk 6 ?_;refine tk 7 ?_;refine tk 8 ?_;refine tk 11 ?_;refine tk 12 ?_;refine tk 13 ?_;refine tk 14 ?_;refine tk 17 ?_;refine tk 18 ?_;refine zE1 4 fun K hK=>?_;go_simp;refine(HDA.out _ _ (HB3.trans (HW.mono HB3.size)) HS.2.1).mono ?_;rintro e4 w4 ⟨rfl,hb⟩;(try go_wp2_with fail);have HW:=zYt HW hb;clear hb;have HS:=zY (HKS.out _ HW.out);refine hko hK (by exact HS.out) (fun _=>?_);clear hK K;refine zE1 9 fun K hK=>?_;go_simp;refine(HDI.out _ _ (HB3.trans (HW.mono HB3.size)) HS.2.2).mono ?_;rintro e5 w5 ⟨rfl,hb⟩;(try go_wp2_with fail);have HW:=zYt HW hb;clear hb;have HS:=zY (HKS.out _ HW.out);refine hko hK (by exact HS.out) (fun _=>?_);clear hK K;refine tk 10 ?_;refine zE1 15 fun K hK=>?_;go_simp;refine(HDT.out _ _ (HB3.trans (HW.mono HB3.size)) HS.2.2).mono ?_;rintro e6 w6 ⟨rfl,hb⟩;(try go_wp2_with fail);have HW:=zYt HW hb;clear hb;have HS:=zY (HKS.out _ HW.out);refine hko hK (by exact HS.out) (fun _=>?_);clear hK K;refine tk 16 ?_
 refine tk 19 ?_;refine tk 20 ?_;refine wpAnyH_done (by kernel_rfl) ?_ _;have HB6:=zY (HB3.trans (HW.mono HB3.size));rw[Hc1.out];clear HS;go_upto_region 7 with fail;go_wp2_with fail;refine(plmark_any _).mono ?_;rintro e7 w7 ⟨rfl,rfl⟩;go_wp2_with fail;refine(HSe.out _ HB6.out).mono ?_;rintro e8 w8 ⟨rfl,hb8⟩;have HB8:=zYt HB6 hb8;clear hb8;go_wp2_with fail;refine(HFr.out _).mono ?_;rintro e9 w9 ⟨rfl,hb9⟩;have HB9:=zYt HB8 hb9;clear hb9;go_wp2;go_ret2;exact⟨by rw[Hc2.out]<;>rfl,HB9.out⟩
end
end Go.Proofs.YthgenkkkapilhaaGreatDoor