/-
  Joined: VrO VrP FrE OpnV.
-/
import Derived.Test.YthgenkkkapilhaaGreatDoorVQn26
import Derived.Test.YthgenkkkapilhaaGreatDoorVQn32
import Derived.HandedShaped
set_option linter.all false
set_option maxRecDepth 100000
set_option maxHeartbeats 64000000
namespace Go.Proofs.YthgenkkkapilhaaGreatDoor
open Go.Proofs.Tryz
section
open Go.RowKit
theorem holds_zero0 (w:World) (T:TypeId) (nd:Nat) (hs:nd<=24):Sort.Holds (fun(b:UInt8)=>Value.int .u8 (b.toNat:Int)) (w.alloc (.cells Lib.zeros24 T)) w.heap.size 0 (Array.replicate nd (0:UInt8)):=fun j hj=>by
 have hj':j<nd:=by simpa using hj
 refine⟨?_,World.frozen?_alloc_new _ _ _ _⟩
 rw[World.cell?_alloc_new,Lib.zeros24_at _ (by omega),getElem!_pos _ j hj]
 simp
theorem below_row (w:World) (o:Obj) (dk:Array UInt8) (k:Nat):Below w.heap.size w ((Sort.putRow (fun(b:UInt8)=>Value.int .u8 (b.toNat:Int)) (w.alloc o) w.heap.size 0 dk).drewN k):=by
 obtain⟨os,e⟩:∃os,(Sort.putRow (fun(b:UInt8)=>Value.int .u8 (b.toNat:Int)) (w.alloc o) w.heap.size 0 dk).drewN k=Sort.grow (w.drewN k) os:=by rw[Sort.alloc_eq_grow];obtain⟨os',_,e⟩:=Sort.putRow_grow_new (fun(b:UInt8)=>Value.int .u8 (b.toNat:Int)) w #[o] w.heap.size 0 dk (Nat.le_refl _);exact⟨os',by rw[e];rfl⟩
 rw[e];refine⟨rfl,rfl,rfl,?_,fun j hj=>?_⟩;{
 show w.heap.size<=(w.heap++os).size;rw[Array.size_append];omega};{
 show (w.heap++os)[j]?=_;rw[Array.getElem?_append_left hj]}
theorem decB (n:Nat):(⟨(Lib.decDigits n).toArray⟩:ByteArray)=strB (digD n):=by rw[<-itoaB,Lib.itoa_nonneg]
theorem ifmtU_any (w:World) (u:Nat) (hu64:u<18446744073709551616) (hT:Tab w):Calls prog 303 #[.int .u64 (u:Int),.int .i64 10] w fun e w'=>e=.returned (.string (strB (digD u)))/\Below w.heap.size w w':=by
 rw[<-decB];by_cases hs:u<100;{
 have hsI:(u:Int)<100:=by omega
 have huw:IntKind.i64.wrap (u:Int)=u:=zIw (by omega);go_enter func303,ntmps303;go_wp2_with fail;refine(Tryz.internal_strconv_small u hs _).mono ?_;rintro e w' ⟨rfl,rfl⟩;go_wp2;go_ret;exact⟨rfl,Below.refl _ _⟩};{
 have hu1:1<=u:=by omega
 have hsI:¬(u:Int)<100:=by omega
 have hnd20:Lib.nDigits u<=20:=by have:=Lib.numDigits_eq u hu1 hu64;split at this<;>omega
 have hb3:Lib.nDigits u<=24:=by omega
 have hal:prog.arrayLen 323=24:=by simp[Program.arrayLen,underlying323]
 have hsl1:∀W,(Instr.sliceAt 323 (.pointer (some ⟨w.heap.size,0,none⟩)) none (some (.int .i64 (Lib.nDigits u:Int))) none).run prog W=.ok (.slice (some ⟨w.heap.size,0,none⟩) (Lib.nDigits u) 24) W:=fun W=>by
  rw[run_sliceAt_array_h W 323 ⟨w.heap.size,0,none⟩ (by simp[Program.arrayLen,Program.elem,underlying323]) .i64 (Lib.nDigits u:Int) (by omega) (by rw[hal];omega)]
  go_simp
 have hH0:=holds_zero0 w 323 (Lib.nDigits u) (by omega);have hfmt:=Tryz.internal_strconv_formatBase10 w.heap.size 0 24 u (Array.replicate (Lib.nDigits u) 0) (w.alloc (.cells Lib.zeros24 323)) hH0 (by rw[Array.size_replicate];exact Lib.lt_pow_nDigits u) hu64 (by rw[Array.size_replicate];omega);rw[Array.size_replicate]at hfmt;have HH0:=zY hH0;have HT:=zY hT;clear hH0 hal hT;go_enter func303,ntmps303;go_wp2_with fail;refine(Tryz.internal_strconv_numDigits u hu1 hu64 _ (Lib.tabIs_alloc HT.pow _)).mono ?_;rintro e w' ⟨rfl,rfl⟩;go_wp2_with fail;refine hfmt.mono ?_;rintro e w' ⟨rfl,k,v',dk,rfl,hF⟩;have hcv:(convert 117 9 (.slice (some ⟨w.heap.size,0,none⟩) (Lib.nDigits u) 24)).run prog ((Sort.putRow (fun(b:UInt8)=>Value.int .u8 (b.toNat:Int)) (w.alloc (.cells Lib.zeros24 323)) w.heap.size 0 dk).drewN k)=.ok (.string ⟨(Lib.decDigits u).toArray⟩) ((Sort.putRow (fun(b:UInt8)=>Value.int .u8 (b.toNat:Int)) (w.alloc (.cells Lib.zeros24 323)) w.heap.size 0 dk).drewN k):=by{
 have h:=run_convert_bytes_back (P:=prog) ((Sort.putRow (fun(b:UInt8)=>Value.int .u8 (b.toNat:Int)) (w.alloc (.cells Lib.zeros24 323)) w.heap.size 0 dk).drewN k) 117 9 5 ⟨w.heap.size,0,none⟩ 24 (Lib.decDigits u) underlying117 underlying5 underlying9 (fun j hj=>by
  rw[Lib.row_is_numeral hF j hj,Lib.add_plain,World.cell?_drewN]
  exact Sort.cell?_putRow (fun(b:UInt8)=>Value.int .u8 (b.toNat:Int)) _ w.heap.size 0 _ dk HH0.out (by rw[hF.size,Array.size_replicate]) j (by rw[hF.size];rw[Lib.decDigits_length]at hj;exact hj));rw[Lib.decDigits_length]at h;exact h};have HBz:=zY (below_row w (.cells Lib.zeros24 323) dk k);clear hF;go_wp2;go_ret;exact⟨rfl,HBz.out⟩}
theorem fmtU_any (w:World) (u:Nat) (hu64:u<18446744073709551616) (hT:Tab w):Calls prog 245 #[.int .u64 (u:Int),.int .i64 10] w fun e w'=>e=.returned (.string (strB (digD u)))/\Below w.heap.size w w':=by
 have H:=zY (ifmtU_any w u hu64 hT);clear hT;go_enter func245,ntmps245;go_wp2_with fail;refine H.mono ?_;rintro e w' ⟨rfl,hb⟩;have HB:=zY hb;clear hb;go_wp2;go_ret;exact⟨rfl,HB.out⟩
def padL (n v:Nat):List Nat:=List.replicate (n-(digD v).length) 48++digD v
def digF (g:Nat):Value:=.func (.func 244) #[] #[.pointer (some ⟨g,0,none⟩)]
theorem pdigits_any (w:World) (n:Int):Calls prog 166 #[.int .i64 n] w fun e w'=>e=.returned (.tuple #[digF w.heap.size,.func (.func 246) #[] #[]])/\w.alloc (.cells #[.int .i64 n] 3)=w':=by
 go_enter func166,ntmps166;go_wp2;go_ret2;exact⟨rfl,rfl⟩
theorem pdig1_any (w:World) (g n v:Nat) (hg:w.cell? ⟨g,0,none⟩=some (.int .i64 (n:Int))) (hn:n<=100) (hv:v<18446744073709551616) (hT:Tab w):Calls prog 244 #[.int .u64 (v:Int),.pointer (some ⟨g,0,none⟩)] w fun e w'=>e=.returned (.string (strB (padL n v)))/\Below w.heap.size w w':=by
 have H1:=zY (fmtU_any w v hv hT);have Hg:=zY hg;obtain⟨z,hz⟩:=zNm (n-(digD v).length);have hl:=digD_len20 (u:=v) (by omega);have hsz:(strB (digD v)).size=(digD v).length:=strB_size _;have hmx:max (0:Int) ((n:Int)-(strB (digD v)).size)=z:=by rw[hsz];omega
 have hw1:IntKind.i64.wrap ((n:Int)-(strB (digD v)).size)=(n:Int)-(strB (digD v)).size:=IntWalk.i64_in _ (by rw[hsz];omega);have H2:Hid (∀W:World,Calls prog 55 #[.string ⟨#[48]⟩,.int .i64 (z:Int)] W fun e w'=>e=.returned (.string (strB (List.replicate z 48)))/\Below W.heap.size W w'):=zY (fun W=>repeat_any W 48 z (by omega));have Hc:Hid (strB (List.replicate z 48)++strB (digD v)=strB (padL n v)):=zY (by rw[padL,hz];exact strB_cat _ _);obtain⟨Z,hZ⟩:=zNm (strB (List.replicate z 48));have hZz:Z.size=z:=by rw[<-hZ,strB_size,List.length_replicate]
 rw[hZ]at H2 Hc;have hcc:¬9223372036854775807<Z.size+(strB (digD v)).size:=by omega
 generalize strB (digD v)=Q at *;clear hg hT hz hl hsz hZ hZz;go_enter func244,ntmps244;go_wp2_with fail;refine H1.mono ?_;rintro e w1 ⟨rfl,hb1⟩;have g1:=cell_below hb1 Hg.out;have HB1:=zY hb1;clear hb1;go_upto_region 2 with fail;go_wp2_with fail;refine(H2.out _).mono ?_;rintro e w2 ⟨rfl,hb2⟩;have HB2:=zYt HB1 hb2;clear hb2;go_wp2;go_ret;exact⟨by rw[Hc.out]<;>rfl,HB2.out⟩
def prtL (l:List Nat):Bool:=l.all fun b=>decide (32<=b)&&decide (b<=126)
theorem prt_true {s:ByteArray} (h:∀i (hi:i<s.size),32<=(s[i]'hi).toNat/\(s[i]'hi).toNat<=126):prtL (bs s)=true:=by
 rw[prtL,List.all_eq_true];intro b hb;obtain⟨i,hi,rfl⟩:=List.mem_iff_getElem.1 hb;have hi2:i<s.size:=by rwa [bs_len]at hi
 have h1:=bs_get s i hi2;rw[List.getElem?_eq_getElem hi]at h1;rw[Option.some.inj h1];simp[h i hi2]
theorem prt_false {s:ByteArray} {i:Nat} (hi:i<s.size) (h:¬(32<=(s[i]'hi).toNat/\(s[i]'hi).toNat<=126)):prtL (bs s)=false:=by
 cases hp:prtL (bs s)with
 |false=>rfl
 |true=>
 rw[prtL,List.all_eq_true]at hp;have:=hp _ (List.mem_of_getElem? (bs_get s i hi));simp only[Bool.and_eq_true,decide_eq_true_eq]at this;exact absurd this h
theorem printable_any (w:World) (s:ByteArray) (hs:s.size<=1000000):Calls prog 60 #[.string s] w fun e w'=>e=.returned (.bool (prtL (bs s)))/\w'=w:=by
 obtain⟨R,hR⟩:=zNm (prtL (bs s));have HRt:Hid ((∀i (hi:i<s.size),32<=(s[i]'hi).toNat/\(s[i]'hi).toNat<=126)->R=true):=zY (fun h=>by rw[<-hR];exact prt_true h);have HRf:Hid (∀i (hi:i<s.size),¬(32<=(s[i]'hi).toNat/\(s[i]'hi).toNat<=126)->R=false):=zY (fun i hi h=>by rw[<-hR];exact prt_false hi h);rw[hR];clear hR;go_enter func60,ntmps60;go_wp2;go_loopw [6] (fun x wr=>∃i:Nat,i<=s.size/\x=.int .i64 (i:Int)/\Hid (∀j (hj:j<s.size),j<i->32<=(s[j]'hj).toNat/\(s[j]'hj).toNat<=126)/\wr=w) (fun x _=>s.size-(intOf x).toNat);case atStart=>exact⟨0,by omega,rfl,zY (fun j _ h=>by omega),rfl⟩
 case round=>
 obtain⟨i,hi,rfl,HA,rfl⟩:=hrel;by_cases h:i<s.size;{
 have hiI:(i:Int)<s.size:=by omega
 have HB:=zY (HRf.out i h);have HN:Hid (32<=(s[i]'h).toNat->(s[i]'h).toNat<=126->∀j (hj:j<s.size),j<i+1->32<=(s[j]'hj).toNat/\(s[j]'hj).toNat<=126):=zY (fun h1 h2 j hj hji=>by
  by_cases e:j=i
  ·subst e;exact⟨h1,h2⟩
  ·exact HA.out j hj (by omega));obtain⟨b,hb⟩:=zNm ((s[i]'h).toNat);rw[hb]at HB HN;have hb8:b<256:=by rw[<-hb];exact UInt8.toNat_lt _
 by_cases h1:b<32;{
 have h1I:(b:Int)<32:=by omega
 have hr:=HB.out (by omega);subst hr;clear HB HN;go_wp2;go_ret;first|exact⟨rfl,rfl⟩|exact⟨rfl,trivial⟩};{
 have h1I:¬(b:Int)<32:=by omega
 by_cases h2:126<b;{
 have h2I:(126:Int)<b:=by omega
 have hr:=HB.out (by omega);subst hr;clear HB HN;go_wp2;go_ret;first|exact⟨rfl,rfl⟩|exact⟨rfl,trivial⟩};{
 have h2I:¬(126:Int)<b:=by omega
 have HN:=zY (HN.out (by omega) (by omega));clear HB;go_wp2;go_roundw;case rel=>exact⟨i+1,by omega,by go_num,HN,by first|rfl|trivial⟩
 case measure=>simp[intOf];omega}}};{
 obtain rfl:i=s.size:=by omega
 have hiI:¬((s.size:Nat):Int)<(s.size:Int):=by omega
 have hr:=HRt.out (fun j hj=>HA.out j hj hj);subst hr;go_wp2;go_ret;first|exact⟨rfl,rfl⟩|exact⟨rfl,trivial⟩}
structure PlnOk (a i t:Nat) (x:ByteArray):Prop where
 ha:a<4294967296
 it:i<t
 ht:t<=99999
 hx:x.size=64
 hp:prtL (bs x)=true
theorem plcheck_ok (w:World) (a i t:Nat) (x:ByteArray) (h:PlnOk a i t x):Calls prog 165 #[.agg #[.int .u32 (a:Int),.int .i64 (i:Int),.int .i64 (t:Int),.string x]] w fun e w'=>e=.returned (.int .i64 0)/\Below w.heap.size w w':=by
 have HP:=zY (fun W=>printable_any W x (by have:=h.hx;omega));rw[h.hp]at HP;have h1:=h.it;have h2:=h.ht;have h3:=h.hx;have h4:¬(t:Int)<1:=by omega
 have h5:¬(99999:Int)<t:=by omega
 have h6:¬(i:Int)<0:=by omega
 have h7:¬(t:Int)<=i:=by omega
 have h8:(x.size:Int)=64:=by omega
 have HK:=zY (Blk.new w 124 [.int .u32 (a:Int),.int .i64 (i:Int),.int .i64 (t:Int),.string x]);have HK:Hid (Blk (w.alloc (.cells #[.int .u32 (a:Int),.int .i64 (i:Int),.int .i64 (t:Int),.string x] 124)) w.heap.size 124 [.int .u32 (a:Int),.int .i64 (i:Int),.int .i64 (t:Int),.string x]):=zY HK.out;have HB:=zY (zBl w (.cells #[.int .u32 (a:Int),.int .i64 (i:Int),.int .i64 (t:Int),.string x] 124));have H3:=zY h3;clear h h1 h2 h3;go_enter func165,ntmps165;go_upto_region 1 with fail;generalize w.alloc (.cells #[.int .u32 (a:Int),.int .i64 (i:Int),.int .i64 (t:Int),.string x] 124)=wa at *;have c1:=HK.c 1;have c2:=HK.c 2;have c3:=HK.c 3;go_wp2_with fail;refine(HP.out _).mono ?_;rintro e1 w1 ⟨rfl,rfl⟩;go_wp2;go_ret;exact⟨rfl,HB.out⟩
def sealL (l:List Nat):List Nat:=l++padL 10 (sumL [strB l])
theorem padL_small {n v:Nat} (hn:n<=100) (hv:v<4294967296):(padL n v).length<=200:=by
 rw[padL,List.length_append,List.length_replicate];have:=digD_len20 (u:=v) (by omega);omega
theorem plseal_any (w:World) (l:List Nat) (hb:∀b∈l,b<256) (hl:l.length<=1000) (hT:Tab w):Calls prog 169 #[.string (strB l)] w fun e w'=>e=.returned (.string (strB (sealL l)))/\Below w.heap.size w w':=by
 have HCr:Hid (∀W:World,Calls prog 249 #[.slice (some ⟨W.heap.size,0,none⟩) 1 1] (W.alloc (.cells #[.string (strB l)] 9)) fun e w'=>e=.returned (.int .u32 (sumL [strB l]:Nat))/\W.alloc (.cells #[.string (strB l)] 9)=w'):=zY (fun W=>
  csum_any _ _ [strB l] (Blk.slAt (f:=strV) (xs:=[strB l]) (Blk.new W 9 [.string (strB l)]) (c:=1) (by simp) (by omega)) (by intro x hx;rw[List.mem_singleton.1 hx,strB_size];omega) (by simp));have hcl:=sumL_lt [strB l];obtain⟨c,hc⟩:=zNm (sumL [strB l]);rw[hc]at HCr hcl;have hcw:IntKind.u64.wrap (c:Int)=c:=IntWalk.u64_in _ (by omega);have hpz:=padL_small (n:=10) (by omega) hcl;have H1:=zY (fun(W:World) (g:Nat) (hW:Below w.heap.size w W) (hg:W.cell? ⟨g,0,none⟩=some (.int .i64 ((10:Nat):Int)))=>pdig1_any W g 10 c hg (by omega) (by omega) (hT.below hW));have Hc:Hid (strB l++strB (padL 10 c)=strB (sealL l)):=zY (by rw[sealL,hc];exact strB_cat _ _);have hz1:(strB l).size<=1000:=by rw[strB_size];exact hl
 have hz2:(strB (padL 10 c)).size<=200:=by rw[strB_size];exact hpz
 generalize strB (padL 10 c)=Q at *;generalize strB l=M at *;have hcc:¬9223372036854775807<M.size+Q.size:=by omega
 clear hb hl hT hc hpz;go_enter func169,ntmps169;go_wp2_with fail;refine(pdigits_any _ 10).mono ?_;rintro e1 w1 ⟨rfl,e1⟩;have HB1:Hid (Below w.heap.size w w1):=zY (e1▸zBl w _);have HG:Hid (w1.cell? ⟨w.heap.size,0,none⟩=some (.int .i64 ((10:Nat):Int))):=zY (e1▸(Blk.new w 3 [.int .i64 10]).c 0);clear e1;unfold digF;go_upto_region 2 with fail;go_wp2_with fail;refine(HCr.out _).mono ?_;rintro e2 w2 ⟨rfl,e2⟩;have HB2:Hid (Below w.heap.size w w2):=zY (e2▸HB1.alloc HB1.size _);have HG2:=zY (cell_below (e2▸zBl w1 _:Below w1.heap.size w1 w2) HG.out);clear e2;go_wp2_with fail;refine(H1.out _ _ HB2.out HG2.out).mono ?_;rintro e3 w3 ⟨rfl,hb3⟩;have HB3:=zYt HB2 hb3;clear hb3;go_wp2;go_ret;exact⟨by rw[Hc.out]<;>rfl,HB3.out⟩
def markP:List Nat:=[48,48,48,48,48,49,49,48,48,49,48,49,48,49,49,49]
def textL (a i t:Nat) (x:ByteArray):List Nat:=padL 10 a++padL 5 i++padL 5 t++bs x
def plnL (a i t:Nat) (x:ByteArray):List Nat:=markP++frmB (sealL (textL a i t x))
theorem digD_byte (u:Nat):∀b∈digD u,b<256:=by
 intro b hb;rw[<-decD]at hb;obtain⟨c,_,rfl⟩:=List.mem_map.1 hb;exact UInt8.toNat_lt c
theorem padL_byte (n v:Nat):∀b∈padL n v,b<256:=by
 intro b hb;rcases List.mem_append.1 hb with h|h;{rw[(List.mem_replicate.1 h).2];omega};{exact digD_byte v b h}
theorem textL_byte (a i t:Nat) (x:ByteArray):∀b∈textL a i t x,b<256:=by
 intro b hb;simp only[textL,List.mem_append]at hb;rcases hb with((h|h)|h)|h;{exact padL_byte _ _ b h};{exact padL_byte _ _ b h};{exact padL_byte _ _ b h};{
 obtain⟨c,_,rfl⟩:=List.mem_map.1 h;exact UInt8.toNat_lt c}
theorem textL_len {a i t:Nat} {x:ByteArray} (h:PlnOk a i t x):(textL a i t x).length<=700:=by
 have h1:=h.it;have h2:=h.ht;simp only[textL,List.length_append,bs_len];have p1:=padL_small (n:=10) (v:=a) (by omega) h.ha;have p2:=padL_small (n:=5) (v:=i) (by omega) (by omega);have p3:=padL_small (n:=5) (v:=t) (by omega) (by omega);have:=h.hx;omega
theorem sealL_len {l:List Nat} (h:l.length<=700):(sealL l).length<=900:=by
 rw[sealL,List.length_append];have:=padL_small (n:=10) (by omega) (sumL_lt [strB l]);omega
theorem sealL_byte {l:List Nat} (h:∀b∈l,b<256):∀b∈sealL l,b<256:=by
 intro b hb;rcases List.mem_append.1 hb with h1|h1;{exact h b h1};{
 exact padL_byte _ _ b h1}
theorem plmark_any (w:World):Calls prog 167 #[] w fun e w'=>e=.returned (.string ⟨#[48,48,48,48,48,49,49,48,48,49,48,49,48,49,49,49]⟩)/\w=w':=by
 go_enter func167,ntmps167;go_wp2;go_ret;exact⟨rfl,rfl⟩
theorem plenc_ok (w:World) (a i t:Nat) (x:ByteArray) (h:PlnOk a i t x) (hT:Tab w):Calls prog 95 #[.agg #[.int .u32 (a:Int),.int .i64 (i:Int),.int .i64 (t:Int),.string x]] w fun e w'=>e=.returned (.tuple #[.string (strB (plnL a i t x)),.int .i64 0])/\Below w.heap.size w w':=by
 have HC:=zY (fun W=>plcheck_ok W a i t x h);have hK:=Blk.new w 124 [.int .u32 (a:Int),.int .i64 (i:Int),.int .i64 (t:Int),.string x];have HK:Hid (Blk (w.alloc (.cells #[.int .u32 (a:Int),.int .i64 (i:Int),.int .i64 (t:Int),.string x] 124)) w.heap.size 124 [.int .u32 (a:Int),.int .i64 (i:Int),.int .i64 (t:Int),.string x]):=zY hK;have HB0:=zY (zBl w (.cells #[.int .u32 (a:Int),.int .i64 (i:Int),.int .i64 (t:Int),.string x] 124));have ha:=h.ha;have h1:=h.it;have h2:=h.ht;have hwA:IntKind.u64.wrap (a:Int)=a:=IntWalk.u64_in _ (by omega);have hwI:IntKind.u64.wrap (i:Int)=i:=IntWalk.u64_in _ (by omega);have hwT:IntKind.u64.wrap (t:Int)=t:=IntWalk.u64_in _ (by omega);have HTx:=zY (textL_len h);have HDA:Hid (∀(W:World) (g:Nat),Below w.heap.size w W->W.cell? ⟨g,0,none⟩=some (.int .i64 10)->Calls prog 244 #[.int .u64 (a:Int),.pointer (some ⟨g,0,none⟩)] W fun e w'=>e=.returned (.string (strB (padL 10 a)))/\Below W.heap.size W w'):=zY (fun W g hW hg=>pdig1_any W g 10 a hg (by omega) (by omega) (hT.below hW));have HDI:Hid (∀(W:World) (g:Nat),Below w.heap.size w W->W.cell? ⟨g,0,none⟩=some (.int .i64 5)->Calls prog 244 #[.int .u64 (i:Int),.pointer (some ⟨g,0,none⟩)] W fun e w'=>e=.returned (.string (strB (padL 5 i)))/\Below W.heap.size W w'):=zY (fun W g hW hg=>pdig1_any W g 5 i hg (by omega) (by omega) (hT.below hW))
 have HDT:Hid (∀(W:World) (g:Nat),Below w.heap.size w W->W.cell? ⟨g,0,none⟩=some (.int .i64 5)->Calls prog 244 #[.int .u64 (t:Int),.pointer (some ⟨g,0,none⟩)] W fun e w'=>e=.returned (.string (strB (padL 5 t)))/\Below W.heap.size W w'):=zY (fun W g hW hg=>pdig1_any W g 5 t hg (by omega) (by omega) (hT.below hW));have HSe:=zY (fun(W:World) (hW:Below w.heap.size w W)=>plseal_any W (textL a i t x) (textL_byte a i t x) (by have:=textL_len h;omega) (hT.below hW));have hsz:(strB (sealL (textL a i t x))).size<=900:=by rw[strB_size];exact sealL_len (textL_len h)
 have HFr:=zY (fun W=>cfrom_any W (strB (sealL (textL a i t x))) (by omega));rw[bs_strB (sealL_byte (textL_byte a i t x))]at HFr;have Hc1:Hid (strB (padL 10 a)++strB (padL 5 i)++strB (padL 5 t)++x=strB (textL a i t x)):=zY (by
  rw[strB_cat,strB_cat]
  have e2:=strB_cat (padL 10 a++padL 5 i++padL 5 t) (bs x)
  rw[strB_bs]at e2
  exact e2);have Hc2:Hid (⟨#[48,48,48,48,48,49,49,48,48,49,48,49,48,49,49,49]⟩++strB (frmB (sealL (textL a i t x)))=strB (plnL a i t x)):=zY (strB_cat markP _);have hz1:(strB (padL 10 a)).size<=200:=by rw[strB_size];exact padL_small (by omega) ha
 have hz2:(strB (padL 5 i)).size<=200:=by rw[strB_size];exact padL_small (by omega) (by omega)
 have hz3:(strB (padL 5 t)).size<=200:=by rw[strB_size];exact padL_small (by omega) (by omega)
 have hz4:=h.hx;have hz5:(strB (frmB (sealL (textL a i t x)))).size<=8000:=by rw[strB_size,frmB_len];have:=sealL_len (textL_len h);omega
 generalize strB (padL 10 a)=X1 at *;generalize strB (padL 5 i)=X2 at *;generalize strB (padL 5 t)=X3 at *;generalize strB (textL a i t x)=X4 at *;generalize strB (sealL (textL a i t x))=X5 at *;generalize strB (frmB (sealL (textL a i t x)))=X6 at *;have hcc1:¬9223372036854775807<X1.size+X2.size:=by omega
 have hcc2:¬9223372036854775807<X1.size+X2.size+X3.size:=by omega
 have hcc3:¬9223372036854775807<X1.size+X2.size+X3.size+x.size:=by omega
 have hcc4:¬9223372036854775807<16+X6.size:=by omega
 have Hz4:=zY hz4;clear h ha h1 h2 hT hsz hz1 hz2 hz3 hz4 hz5 hK;go_enter func95,ntmps95;go_upto_region 1 with fail;generalize w.alloc (.cells #[.int .u32 (a:Int),.int .i64 (i:Int),.int .i64 (t:Int),.string x] 124)=wa at *;have c0:=HK.c 0;have c1:=HK.c 1;have c2:=HK.c 2;have c3:=HK.c 3;go_wp2_with fail;refine(HC.out _).mono ?_;rintro e1 w1 ⟨rfl,hb1⟩;have HK1:=zY (HK.kept hb1);have HB1:=zYt HB0 hb1;clear hb1 c0 c1 c2 c3 HK HB0;go_wp2_with fail;refine(pdigits_any _ 10).mono ?_;rintro e2 w2 ⟨rfl,e2⟩;have HD2:Hid (Below w1.heap.size w1 w2):=zY (e2▸zBl w1 _);have HG2:Hid (w2.cell? ⟨w1.heap.size,0,none⟩=some (.int .i64 10)):=zY (e2▸(Blk.new w1 3 [.int .i64 10]).c 0);have HK2:=zY (HK1.kept HD2.out);have HB2:=zY (HB1.trans (HD2.mono HB1.size));clear e2 HD2 HK1 HB1;unfold digF;go_upto_region 5 with fail;go_wp2_with fail;refine(pdigits_any _ 5).mono ?_;rintro e3 w3 ⟨rfl,e3⟩;have HD3:Hid (Below w2.heap.size w2 w3):=zY (e3▸zBl w2 _);have HG3:Hid (w3.cell? ⟨w2.heap.size,0,none⟩=some (.int .i64 5)):=zY (e3▸(Blk.new w2 3 [.int .i64 5]).c 0);have HG2:=zY (cell_below HD3.out HG2.out);have HK3:=zY (HK2.kept HD3.out);have HB3:=zY (HB2.trans (HD3.mono HB2.size));clear e3 HD3 HK2 HB2;unfold digF;go_upto_region 6 with fail;have HKS:Hid (∀W,Below w3.heap.size w3 W->(W.cell? ⟨w.heap.size,0,none⟩=some (.int .u32 (a:Int))/\W.cell? ⟨w.heap.size,1,none⟩=some (.int .i64 (i:Int))/\W.cell? ⟨w.heap.size,2,none⟩=some (.int .i64 (t:Int))/\W.cell? ⟨w.heap.size,3,none⟩=some (.string x))/\W.cell? ⟨w1.heap.size,0,none⟩=some (.int .i64 10)/\W.cell? ⟨w2.heap.size,0,none⟩=some (.int .i64 5)):=zY (fun W hW=>by
  have hk:=HK3.kept hW
  exact⟨⟨hk.c 0,hk.c 1,hk.c 2,hk.c 3⟩,cell_below hW HG2.out,cell_below hW HG3.out⟩);have HW:=zY ((Below.refl w3.heap.size w3).drew);have HS:=zY (HKS.out _ HW.out);refine wp_region_held_drew (S:=(fun W=>(W.cell? ⟨w.heap.size,0,none⟩=some (.int .u32 (a:Int))/\W.cell? ⟨w.heap.size,1,none⟩=some (.int .i64 (i:Int))/\W.cell? ⟨w.heap.size,2,none⟩=some (.int .i64 (t:Int))/\W.cell? ⟨w.heap.size,3,none⟩=some (.string x))/\W.cell? ⟨w1.heap.size,0,none⟩=some (.int .i64 10)/\W.cell? ⟨w2.heap.size,0,none⟩=some (.int .i64 5))) (by kernel_rfl) ?_ (fun hHeld=>?_);{exact HS.out};refine tk 0 ?_;refine tk 1 ?_;refine tk 2 ?_;refine tk 3 ?_;refine tk 5 ?_;refine tk 6 ?_;refine tk 7 ?_;refine tk 8 ?_;refine tk 11 ?_;refine tk 12 ?_;refine tk 13 ?_;refine tk 14 ?_;refine tk 17 ?_;refine tk 18 ?_;refine zE1 4 fun K hK=>?_;go_simp;refine(HDA.out _ _ (HB3.trans (HW.mono HB3.size)) HS.2.1).mono ?_;rintro e4 w4 ⟨rfl,hb⟩;(try go_wp2_with fail);have HW:=zYt HW hb;clear hb;have HS:=zY (HKS.out _ HW.out);refine hko hK (by exact HS.out) (fun _=>?_);clear hK K;refine zE1 9 fun K hK=>?_;go_simp;refine(HDI.out _ _ (HB3.trans (HW.mono HB3.size)) HS.2.2).mono ?_;rintro e5 w5 ⟨rfl,hb⟩;(try go_wp2_with fail);have HW:=zYt HW hb;clear hb;have HS:=zY (HKS.out _ HW.out);refine hko hK (by exact HS.out) (fun _=>?_);clear hK K;refine tk 10 ?_;refine zE1 15 fun K hK=>?_;go_simp;refine(HDT.out _ _ (HB3.trans (HW.mono HB3.size)) HS.2.2).mono ?_;rintro e6 w6 ⟨rfl,hb⟩;(try go_wp2_with fail);have HW:=zYt HW hb;clear hb;have HS:=zY (HKS.out _ HW.out);refine hko hK (by exact HS.out) (fun _=>?_);clear hK K;refine tk 16 ?_
 refine tk 19 ?_;refine tk 20 ?_;refine wpAnyH_done (by kernel_rfl) ?_ _;have HB6:=zY (HB3.trans (HW.mono HB3.size));rw[Hc1.out];clear HS;go_upto_region 7 with fail;go_wp2_with fail;refine(plmark_any _).mono ?_;rintro e7 w7 ⟨rfl,rfl⟩;go_wp2_with fail;refine(HSe.out _ HB6.out).mono ?_;rintro e8 w8 ⟨rfl,hb8⟩;have HB8:=zYt HB6 hb8;clear hb8;go_wp2_with fail;refine(HFr.out _).mono ?_;rintro e9 w9 ⟨rfl,hb9⟩;have HB9:=zYt HB8 hb9;clear hb9;go_wp2;go_ret2;exact⟨by rw[Hc2.out]<;>rfl,HB9.out⟩
abbrev Box9 (W:World) (H:Nat) (c0 c1 c2 c3 c4 c5 c6 c7 c8:Value):Prop:=W.cell? ⟨H,0,none⟩=some c0/\W.cell? ⟨H,1,none⟩=some c1/\W.cell? ⟨H,2,none⟩=some c2/\W.cell? ⟨H,3,none⟩=some c3/\W.cell? ⟨H,4,none⟩=some c4/\W.cell? ⟨H,5,none⟩=some c5/\W.cell? ⟨H,6,none⟩=some c6/\W.cell? ⟨H,7,none⟩=some c7/\W.cell? ⟨H,8,none⟩=some c8
theorem Box9.keep {A B:World} {H:Nat} {c0 c1 c2 c3 c4 c5 c6 c7 c8:Value} (h:Box9 A H c0 c1 c2 c3 c4 c5 c6 c7 c8) (hb:Below A.heap.size A B):Box9 B H c0 c1 c2 c3 c4 c5 c6 c7 c8:=by
 obtain⟨h0,h1,h2,h3,h4,h5,h6,h7,h8⟩:=h;exact⟨cell_below hb h0,cell_below hb h1,cell_below hb h2,cell_below hb h3,cell_below hb h4,cell_below hb h5,cell_below hb h6,cell_below hb h7,cell_below hb h8⟩
theorem Box9.drw {A:World} {H:Nat} {c0 c1 c2 c3 c4 c5 c6 c7 c8:Value} (h:Box9 A H c0 c1 c2 c3 c4 c5 c6 c7 c8):Box9 A.drew H c0 c1 c2 c3 c4 c5 c6 c7 c8:=h
theorem Box9.blk {W:World} {g:Nat} {t:TypeId} {c0 c1 c2 c3 c4 c5 c6 c7 c8:Value} (h:Blk W g t [c0,c1,c2,c3,c4,c5,c6,c7,c8]):Box9 W g c0 c1 c2 c3 c4 c5 c6 c7 c8:=
 ⟨h.c 0,h.c 1,h.c 2,h.c 3,h.c 4,h.c 5,h.c 6,h.c 7,h.c 8⟩
def msgL (k r s i l d p a:Nat) (t:ByteArray):List Nat:=beL k 1++beL r 1++beL s 2++beL i 2++beL l 1++beL (16*d+p) 1++beL a 4++bs t
def marL (k r s i l d p a:Nat) (t:ByteArray):List Nat:=msgL k r s i l d p a t++be4 (sumL [strB (msgL k r s i l d p a t)])
def marR (k r s i l d p a:Int) (t:ByteArray):Value:=
 if frE k r s i l d p t≠0 then .tuple #[.string ⟨#[]⟩,.int .i64 (frE k r s i l d p t)] else .tuple #[.string (strB (marL k.toNat r.toNat s.toNat i.toNat l.toNat d.toNat p.toNat a.toNat t)),.int .i64 0]
theorem frE_ok {k r s i l d p:Int} {t:ByteArray} (h:frE k r s i l d p t=0):
  (k=66∨k=68)/\(1<=d/\d<=8)/\(0<=p/\p<=7)/\(0<=r/\r<=d+p-1)/\(1<=s/\s<=255)/\(0<=i/\i<=65535)/\(0<=l/\l<=28)/\t.size=28:=by
 unfold frE inR at h;split at h;{cases h};{
 split at h;{cases h};{
 split at h;{cases h};{
 split at h;{cases h};{
 next h1 h2 h3 h4=>
 simp only[Bool.and_eq_true,Bool.or_eq_true,bne_iff_ne,ne_eq,Bool.not_eq_true',Bool.and_eq_false_imp,decide_eq_true_eq,decide_eq_false_iff_not,not_and,not_or,Decidable.not_not]at h1 h2 h3 h4;refine⟨by omega,by omega,by omega,by omega,by omega,by omega,by omega,by omega⟩}}}}
def hdrL (k r s i l d p a:Nat):List Nat:=[k,r,s/256,s%256,i/256,i%256,l,16*d+p,a/16777216,a/65536%256,a/256%256,a%256]
theorem hdr_msg (k r s i l d p a:Nat) (t:ByteArray) (hk:k<256) (hr:r<256) (hs:s<256) (hi:i<65536) (hl:l<256) (hd:16*d+p<256) (ha:a<4294967296):
  hdrL k r s i l d p a++bs t=msgL k r s i l d p a t:=by
 have e1:∀n,n<256->beL n 1=[n]:=fun n hn=>by simp[beL];omega
 have e2:∀n,n<65536->beL n 2=[n/256,n%256]:=fun n hn=>by simp[beL];omega
 have e4:beL a 4=[a/16777216,a/65536%256,a/256%256,a%256]:=by simp[beL];omega
 unfold msgL hdrL;rw[e1 k hk,e1 r hr,e2 s (by omega),e2 i hi,e1 l hl,e1 _ hd,e4];simp
theorem hdr_bytes (k r s i l d p a:Nat) (hk:k<256) (hr:r<256) (hs:s<256) (hi:i<65536) (hl:l<256) (hd:16*d+p<256) (ha:a<4294967296):Bytes (hdrL k r s i l d p a):=by
 intro x hx;unfold hdrL at hx;simp only[List.mem_cons,List.not_mem_nil,or_false]at hx;omega
theorem pk_byCs:allB 256 (fun b=>pk (byCs b) 8==b)=true:=by decide +kernel
theorem frmB_drop:∀(l:List Nat) (i:Nat),i<l.length->∃r,(frmB l).drop (8*i)=byCs (cf l i)++r
 |[],i,h=>absurd h (by simp)
 |b::l,0,_=>⟨frmB l,by unfold frmB;rw[List.flatMap_cons];rfl⟩
 |b::l,i+1,h=>by
  obtain⟨r,hr⟩:=frmB_drop l i (by simpa using h)
  refine⟨r,?_⟩
  have e:frmB (b::l)=byCs b++frmB l:=by unfold frmB;rw[List.flatMap_cons]
  rw[e,show 8*(i+1)=8+8*i by omega,<-List.drop_drop,List.drop_left' (byCs_len b),hr]
  rfl
theorem toB_frmB {l:List Nat} (hl:Bytes l):toB (frmB l)=l:=by
 refine List.ext_getElem? fun i=>?_;unfold toB;rw[List.getElem?_map];by_cases h2:i<l.length;{
 have hb:cf l i=l[i]:=cf_get (List.getElem?_eq_getElem h2);have h3:l[i]<256:=hl _ (List.getElem_mem h2);rw[List.getElem?_range (by rw[frmB_len];omega),List.getElem?_eq_getElem h2,Option.map_some];unfold byteOf;obtain⟨r,hr⟩:=frmB_drop l i h2;rw[hr,pk_congr (r:=byCs (cf l i)) 8 (fun j hj=>by unfold cf;rw[List.getElem?_append_left (by rw[byCs_len];exact hj)]),hb];have h4:=allB_out pk_byCs _ h3;rw[beq_iff_eq]at h4;rw[h4]};{
 rw[List.getElem?_eq_none (l:=l) (by omega),List.getElem?_eq_none (by rw[List.length_range,frmB_len];omega)];rfl}
def bitU (l:List Nat):List Nat:=(frmB l).map (· - 48)
theorem bitU_bits (l:List Nat):Bits (bitU l):=by
 intro x hx;obtain⟨c,hc,rfl⟩:=List.mem_map.1 hx;rcases frmB_01 l c hc with rfl|rfl<;>decide
theorem bitsS_bitU (l:List Nat):bitsS (bitU l)=frmB l:=by
 unfold bitsS bitU;rw[List.map_map];conv=>rhs;rw[<-List.map_id (frmB l)]
 refine List.map_congr_left fun c hc=>?_;rcases frmB_01 l c hc with rfl|rfl<;>rfl
theorem bitU_len (l:List Nat):(bitU l).length=8*l.length:=by unfold bitU;rw[List.length_map,frmB_len]
def cellL (m:List Nat):List Nat:=cenc 0 (bitU (rsEnc m)++[0,0])
def bodyL (m:List Nat):List Nat:=interL (cellL m)
theorem rsEnc_ok {m:List Nat} (hm:Bytes m) (hl:m.length=44):(rsEnc m).length=52/\Bytes (rsEnc m):=by
 obtain⟨h1,h2,_⟩:=rsPar_inv m hm;unfold rsEnc;refine⟨by rw[List.length_append,h1,hl],fun x hx=>?_⟩;rcases List.mem_append.1 hx with hx|hx;{exact hm x hx};{exact h2 x hx}
theorem cenc_01:∀(u:List Nat) (s:Nat),B01 (cenc s u)
 |[],_=>fun c hc=>by cases hc
 |b::r,s=>fun c hc=>by
  simp only[cenc,List.mem_cons]at hc
  rcases hc with rfl|rfl|hc
  ·unfold co1;omega
  ·unfold co2;omega
  ·exact cenc_01 r _ c hc
theorem cellL_len {m:List Nat} (hm:Bytes m) (hl:m.length=44):(cellL m).length=836:=by
 unfold cellL;rw[cenc_len,List.length_append,bitU_len,(rsEnc_ok hm hl).1];rfl
theorem cellL_01 (m:List Nat):B01 (cellL m):=cenc_01 _ _
theorem inter_mem {l:List Nat} (hl:l.length=836) {x:Nat} (h:x∈interL l):x∈l:=by
 unfold interL at h;obtain⟨j,hj,rfl⟩:=List.mem_map.1 h;have hj':=(ilv_uil (List.mem_range.1 hj)).2;have hlt:uil j<l.length:=by omega
 rw[cf_get (List.getElem?_eq_getElem hlt)];exact List.getElem_mem hlt
theorem bodyL_01 {m:List Nat} (hm:Bytes m) (hl:m.length=44):B01 (bodyL m):=fun c hc=>cellL_01 m c (inter_mem (cellL_len hm hl) hc)
theorem bodyL_bytes {m:List Nat} (hm:Bytes m) (hl:m.length=44):Bytes (bodyL m):=fun c hc=>by rcases bodyL_01 hm hl c hc with rfl|rfl<;>decide
theorem bodyL_len (m:List Nat):(bodyL m).length=836:=interL_len _
theorem extP_cell {m:List Nat} (_hm:Bytes m) (_hl:m.length=44):extP (cellL m)=some (bitU (rsEnc m)):=by
 have hb:Bits (bitU (rsEnc m)++[0,0]):=fun x hx=>by
  rcases List.mem_append.1 hx with hx|hx
  ·exact bitU_bits _ x hx
  ·simp at hx;omega
 have h63:¬(cellL m).contains 63=true:=by rw[List.contains_iff_mem];intro h;rcases cellL_01 m _ h with h|h<;>cases h
 unfold extP;rw[if_neg h63,show cext 0 (cellL m)=some (bitU (rsEnc m)++[0,0]) from cext_enc _ 0 hb];dsimp only;rw[List.length_append,show (bitU (rsEnc m)).length+[0,0].length-2=(bitU (rsEnc m)).length from rfl,List.drop_left,List.take_left,if_pos rfl]
theorem valL_one {x:Nat}:valL [x]=x:=by simp[valL]
theorem valL_two {x y:Nat}:valL [x,y]=x*256+y:=by simp[valL]
theorem valL_four {x y z q:Nat}:valL [x,y,z,q]=((x*256+y)*256+z)*256+q:=by simp[valL]
theorem be4_bytes {c:Nat} (h:c<4294967296):Bytes (be4 c):=by
 intro x hx;unfold be4 at hx;simp only[List.mem_cons,List.not_mem_nil,or_false]at hx;omega
theorem two_back (x:Nat):x/256*256+x%256=x:=by omega
theorem four_back (a:Nat):((a/16777216*256+a/65536%256)*256+a/256%256)*256+a%256=a:=by omega
theorem nib_back (d p:Nat) (h:p<16):(16*d+p)/16=d/\(16*d+p)%16=p:=by omega
theorem mar_ok {k r s i l d p a:Nat} {t:ByteArray} (he:frE k r s i l d p t=0) (ha:a<4294967296):
  ∃c,c<4294967296/\marL k r s i l d p a t=hdrL k r s i l d p a++bs t++be4 c/\Bytes (marL k r s i l d p a t)/\(marL k r s i l d p a t).length=44/\c=sumL [strB (hdrL k r s i l d p a++bs t)]/\Bytes (hdrL k r s i l d p a++bs t):=by
 obtain⟨h1,h2,h3,h4,h5,h6,h7,h8⟩:=frE_ok he;have hm:=hdr_msg k r s i l d p a t (by omega) (by omega) (by omega) (by omega) (by omega) (by omega) ha;have hb:=hdr_bytes k r s i l d p a (by omega) (by omega) (by omega) (by omega) (by omega) (by omega) ha;have hb2:Bytes (hdrL k r s i l d p a++bs t):=fun x hx=>by
  rcases List.mem_append.1 hx with hx|hx
  ·exact hb x hx
  ·exact bs_lt t x hx
 have e:marL k r s i l d p a t=hdrL k r s i l d p a++bs t++be4 (sumL [strB (hdrL k r s i l d p a++bs t)]):=by unfold marL;rw[<-hm]
 refine⟨_,sumL_lt _,e,?_,?_,rfl,hb2⟩;{
 rw[e];intro x hx;rcases List.mem_append.1 hx with hx|hx;{exact hb2 x hx};{exact be4_bytes (sumL_lt _) x hx}};{
 rw[e,List.length_append,List.length_append,bs_len,h8];rfl}
theorem unm_mar {k r s i l d p a:Nat} {t:ByteArray} (he:frE k r s i l d p t=0) (ha:a<4294967296):
  unmC (strB (marL k r s i l d p a t))=0/\unmF (strB (marL k r s i l d p a t))=frV k r s i l d p a t:=by
 obtain⟨c,hc,e,hb,hl,hcs,hb2⟩:=mar_ok he ha;obtain⟨h1,h2,h3,h4,h5,h6,h7,h8⟩:=frE_ok he;have hM:bs (strB (marL k r s i l d p a t))=hdrL k r s i l d p a++(bs t++be4 c):=by rw[bs_strB hb,e,List.append_assoc]
 have h40:(hdrL k r s i l d p a++bs t).length=40:=by rw[List.length_append,bs_len,h8];rfl
 generalize strB (marL k r s i l d p a t)=M at *;have hz:M.size=44:=by rw[<-bs_len,hM,List.length_append,List.length_append,bs_len,h8];rfl
 have x40:bs (M.extract 0 40)=hdrL k r s i l d p a++bs t:=by rw[bs_extract,hM,<-List.append_assoc,List.drop_zero,<-h40,List.take_left]
 have x44:bs (M.extract 40 44)=be4 c:=by rw[bs_extract,hM,<-List.append_assoc,List.take_of_length_le (by rw[List.length_append,h40];exact Nat.le_refl _),<-h40,List.drop_left]
 have xp:M.extract 12 40=t:=by refine bs_inj ?_;rw[bs_extract,hM,<-List.append_assoc,<-h40,List.take_left,show (12:Nat)=(hdrL k r s i l d p a).length from rfl,List.drop_left]
 have x0:bs (M.extract 0 1)=[k]:=by rw[bs_extract,hM];rfl
 have x1:bs (M.extract 1 2)=[r]:=by rw[bs_extract,hM];rfl
 have x2:bs (M.extract 2 4)=[s/256,s%256]:=by rw[bs_extract,hM];rfl
 have x4:bs (M.extract 4 6)=[i/256,i%256]:=by rw[bs_extract,hM];rfl
 have x6:bs (M.extract 6 7)=[l]:=by rw[bs_extract,hM];rfl
 have x7:cf (bs M) 7=16*d+p:=by rw[hM];rfl
 have x8:bs (M.extract 8 12)=[a/16777216,a/65536%256,a/256%256,a%256]:=by rw[bs_extract,hM];rfl
 have hsum:sumOK M=true:=by{
 unfold sumOK;have e1:M.extract 0 40=strB (hdrL k r s i l d p a++bs t):=by rw[<-x40,strB_bs]
 have e2:M.extract 40 44=strB (be4 c):=by rw[<-x44,strB_bs]
 rw[e1,<-hcs,e2];exact beq_self_eq_true _};have v2:=two_back s;have v4:=two_back i;have v8:=four_back a;obtain⟨d7,p7⟩:=nib_back d p (by omega);constructor;{
 unfold unmC;rw[if_neg (by omega),hsum,if_neg (by simp)];unfold unmE;rw[x0,x1,x2,x4,x6,x7,xp,valL_one,valL_one,valL_two,valL_two,valL_one,v2,v4,d7,p7];exact he};{
 unfold unmF;rw[x0,x1,x2,x4,x6,x7,x8,xp,valL_one,valL_one,valL_two,valL_two,valL_one,valL_four,v2,v4,v8,d7,p7]}
end
section
open Go.ChangeShapes Go.WideShapes Go.ChangeAt Go.RowKit Go.Deep
theorem cellsBat:prog.cellsOf 88=2:=by kernel_rfl
theorem cellsCha:prog.cellsOf 91=5:=by kernel_rfl
theorem cellsAtr:prog.cellsOf 93=2:=by kernel_rfl
theorem cellsAtrs:prog.cellsOf 89=1:=by kernel_rfl
theorem cellsChas:prog.cellsOf 86=1:=by kernel_rfl
instance:Inhabited Atr:=⟨⟨⟨#[]⟩,⟨#[]⟩⟩⟩
instance:Inhabited Cha:=⟨⟨0,⟨#[]⟩,[],⟨#[]⟩,⟨#[]⟩⟩⟩
instance:Inhabited Bat:=⟨⟨0,[]⟩⟩
theorem list5 {α:Type} {l:List α} (h:l.length=5):∃c0 c1 c2 c3 c4,l=[c0,c1,c2,c3,c4]:=by
 match l,h with
 |[c0,c1,c2,c3,c4],_=>exact⟨c0,c1,c2,c3,c4,rfl⟩
theorem list2 {α:Type} {l:List α} (h:l.length=2):∃c0 c1,l=[c0,c1]:=by
 match l,h with
 |[c0,c1],_=>exact⟨c0,c1,rfl⟩
section
variable {H:Type} {enc:TypeId×Value->H} {w:World}
theorem seq_of {α:Type} [Inhabited α] {ρ:Shape α} {TS T:TypeId} (hu:prog.underlying TS=some (.slice T)) (hc:prog.cellsOf T=ρ.n) (hn:0<ρ.n)
  (hcell:∀{fuel:Nat} {cs:List Value} {y:DataW H×List MemPlace},cs.length=ρ.n->DataW.trod enc prog w 0 (fun _=>true) true fuel T cs=some y->∃x,ρ.R w cs x)
  {fuel:Nat} {c:Value} {y:DataW H×List MemPlace} (hf:DataW.trod enc prog w 0 (fun _=>true) true fuel TS [c]=some y):∃xs,SeqAt ρ w c xs:=by
 rcases open_slice hu hf with⟨hcs,_⟩|⟨a,len,cap,m,n,D,Pl,hcs,_,hl,hm,hmm,_,hx⟩;{
 simp only[List.cons.injEq,and_true]at hcs;subst hcs;exact⟨[],SeqAt.nil _⟩};{
 simp only[List.cons.injEq,and_true]at hcs;have hmc:m=cap:=by simpa using hmm
 rw[hc]at hx;obtain⟨F,hF⟩:=choose_lt (α:=α) (n:=len) (p:=fun i x=>∃cs,ρ.R w cs x/\∀j u,cs[j]?=some u->w.cell? ((a.add (i*ρ.n)).add j)=some u) fun i hi=>by
  obtain⟨cs',hcc,ht⟩:=hx i (by omega)
  obtain⟨_,hcl,hat⟩:=World.cells?_some hcc
  obtain⟨x,hr⟩:=hcell hcl ht
  exact⟨x,cs',hr,fun j u hu=>by
   have hj:j<ρ.n:=by
    have:=(List.getElem?_eq_some_iff.1 hu).1
    rwa [hcl]at this
   rw[hat j hj,hu]⟩
 obtain⟨b,o,spt⟩:=a;refine⟨(List.range len).map F,some ⟨b,o,spt⟩,cap,by simpa using hcs,by simpa using hl,by unfold maxLen at hm;omega,fun i x hi=>?_⟩;rw[List.getElem?_map]at hi;obtain⟨j,hj,rfl⟩:=Option.map_eq_some_iff.1 hi;obtain⟨h1,h2⟩:=List.getElem?_eq_some_iff.1 hj;simp at h1 h2;subst h2;obtain⟨cs,hr,hcs2⟩:=hF i h1;have hspot:spt=none:=by{
 obtain⟨cs0,hr0,hc0⟩:=hF 0 (by omega);have h0:0<cs0.length:=by rw[ρ.len hr0];exact hn
 have h3:=hc0 0 _ (List.getElem?_eq_getElem h0);simpa [Addr.add]using World.cell?_spot h3};subst hspot;exact⟨b,o,cs,rfl,hr,fun j u hu=>by
  have h:=hcs2 j u hu
  rwa [Addr.add_lit,Addr.add_lit]at h⟩}
theorem atr_cells {fuel:Nat} {cs:List Value} {y:DataW H×List MemPlace} (hl:cs.length=2) (hf:DataW.trod enc prog w 0 (fun _=>true) true fuel 93 cs=some y):∃x:Atr,atrS.R w cs x:=by
 obtain⟨c0,c1,rfl⟩:=list2 hl;obtain⟨xs,n,_,_,_,hlen,hfs⟩:=DataW.trod_struct underlying93 hf;obtain⟨y0,y1,rfl⟩:=list2 (l:=xs) hlen;have f0:DataW.trod enc prog w 0 (fun _=>true) true n 9 (([c0,c1].drop 0).take (prog.cellsOf 9))=some y0:=hfs 0 _ rfl;have f1:DataW.trod enc prog w 0 (fun _=>true) true n 9 (([c0,c1].drop 1).take (prog.cellsOf 9))=some y1:=hfs 1 _ rfl;rw[cellsS]at f0 f1;replace f0:DataW.trod enc prog w 0 (fun _=>true) true n 9 [c0]=some y0:=f0;replace f1:DataW.trod enc prog w 0 (fun _=>true) true n 9 [c1]=some y1:=f1;obtain⟨k,e0,_,_⟩:=DataW.trod_string underlying9 f0;obtain⟨v,e1,_,_⟩:=DataW.trod_string underlying9 f1;have h0:c0=.string k:=by simpa [Value.cells]using e0
 have h1:c1=.string v:=by simpa [Value.cells]using e1
 subst h0 h1;exact⟨⟨k,v⟩,rfl⟩
theorem cha_cells {fuel:Nat} {cs:List Value} {y:DataW H×List MemPlace} (hl:cs.length=5) (hf:DataW.trod enc prog w 0 (fun _=>true) true fuel 91 cs=some y):∃x:Cha,chaS.R w cs x:=by
 obtain⟨c0,c1,c2,c3,c4,rfl⟩:=list5 hl;obtain⟨xs,n,_,_,_,hlen,hfs⟩:=DataW.trod_struct underlying91 hf;obtain⟨y0,y1,y2,y3,y4,rfl⟩:=list5 (l:=xs) hlen;have f0:DataW.trod enc prog w 0 (fun _=>true) true n 3 (([c0,c1,c2,c3,c4].drop 0).take (prog.cellsOf 3))=some y0:=hfs 0 _ rfl;have f1:DataW.trod enc prog w 0 (fun _=>true) true n 9 (([c0,c1,c2,c3,c4].drop 1).take (prog.cellsOf 9))=some y1:=hfs 1 _ rfl;have f2:DataW.trod enc prog w 0 (fun _=>true) true n 89 (([c0,c1,c2,c3,c4].drop 2).take (prog.cellsOf 89))=some y2:=hfs 2 _ rfl;have f3:DataW.trod enc prog w 0 (fun _=>true) true n 9 (([c0,c1,c2,c3,c4].drop 3).take (prog.cellsOf 9))=some y3:=hfs 3 _ rfl;have f4:DataW.trod enc prog w 0 (fun _=>true) true n 9 (([c0,c1,c2,c3,c4].drop 4).take (prog.cellsOf 9))=some y4:=hfs 4 _ rfl;rw[cellsI]at f0;rw[cellsS]at f1 f3 f4;rw[cellsAtrs]at f2;replace f0:DataW.trod enc prog w 0 (fun _=>true) true n 3 [c0]=some y0:=f0;replace f1:DataW.trod enc prog w 0 (fun _=>true) true n 9 [c1]=some y1:=f1;replace f2:DataW.trod enc prog w 0 (fun _=>true) true n 89 [c2]=some y2:=f2;replace f3:DataW.trod enc prog w 0 (fun _=>true) true n 9 [c3]=some y3:=f3;replace f4:DataW.trod enc prog w 0 (fun _=>true) true n 9 [c4]=some y4:=f4;obtain⟨k0,e0,_,_⟩:=DataW.trod_int underlying3 f0;obtain⟨k1,e1,_,_⟩:=DataW.trod_string underlying9 f1;obtain⟨al,h2⟩:=seq_of (ρ:=atrS) underlying89 cellsAtr (by decide) atr_cells f2;obtain⟨k3,e3,_,_⟩:=DataW.trod_string underlying9 f3;obtain⟨k4,e4,_,_⟩:=DataW.trod_string underlying9 f4;have h0:c0=.int .i64 k0:=by simpa [Value.cells]using e0
 have h1:c1=.string k1:=by simpa [Value.cells]using e1
 have h3:c3=.string k3:=by simpa [Value.cells]using e3
 have h4:c4=.string k4:=by simpa [Value.cells]using e4
 subst h0 h1 h3 h4;exact⟨⟨k0,k1,al,k3,k4⟩,c2,rfl,h2⟩
theorem bat_cells {fuel:Nat} {cs:List Value} {y:DataW H×List MemPlace} (hl:cs.length=2) (hf:DataW.trod enc prog w 0 (fun _=>true) true fuel 88 cs=some y):∃x:Bat,batS.R w cs x:=by
 obtain⟨c0,c1,rfl⟩:=list2 hl;obtain⟨xs,n,_,_,_,hlen,hfs⟩:=DataW.trod_struct underlying88 hf;obtain⟨y0,y1,rfl⟩:=list2 (l:=xs) hlen;have f0:DataW.trod enc prog w 0 (fun _=>true) true n 3 (([c0,c1].drop 0).take (prog.cellsOf 3))=some y0:=hfs 0 _ rfl;have f1:DataW.trod enc prog w 0 (fun _=>true) true n 86 (([c0,c1].drop 1).take (prog.cellsOf 86))=some y1:=hfs 1 _ rfl;rw[cellsI]at f0;rw[cellsChas]at f1;replace f0:DataW.trod enc prog w 0 (fun _=>true) true n 3 [c0]=some y0:=f0;replace f1:DataW.trod enc prog w 0 (fun _=>true) true n 86 [c1]=some y1:=f1;obtain⟨k0,e0,_,_⟩:=DataW.trod_int underlying3 f0;obtain⟨cs',h1⟩:=seq_of (ρ:=chaS) underlying86 cellsCha (by decide) cha_cells f1;have h0:c0=.int .i64 k0:=by simpa [Value.cells]using e0
 subst h0;exact⟨⟨k0,cs'⟩,c1,rfl,h1⟩
theorem open_bats {v:Value} {d:DataW H} {p:List MemPlace} {b0:Nat} (hv:Value.okWide prog w .any b0 22 v) (h:DataW.Trod enc prog w 0 (fun _=>true) true 22 v d p):∃l,SeqAt batS w v l:=by
 obtain⟨a0,len0,cap0,rfl⟩:=okWide_slice underlying22 hv;obtain⟨fuel,hf⟩:=h;exact seq_of (ρ:=batS) underlying22 cellsBat (by decide) bat_cells (by simpa [Value.cells]using hf)
theorem open_layout {v:Value} {d:DataW H} {p:List MemPlace} {b0:Nat} (hval:Value.okWide prog w .any b0 24 v) (hd:DataW.Trod enc prog w 0 (fun _=>true) true 24 v d p):
  ∃a b:Int,v=.agg #[.int .i64 a,.int .i64 b]:=by
 obtain⟨⟨cs⟩,rfl,hsz⟩:=okWide_struct underlying24 hval;rw[cellsL]at hsz;obtain⟨c0,c1,rfl⟩:=list2 hsz;obtain⟨fuel,hf⟩:=hd;obtain⟨z0,z1,m,_,_,g0,g1⟩:=trod_struct2 underlying24 hf;replace g0:DataW.trod enc prog w 0 (fun _=>true) true m 3 (([c0,c1].drop 0).take (prog.cellsOf 3))=some z0:=g0;replace g1:DataW.trod enc prog w 0 (fun _=>true) true m 3 (([c0,c1].drop 1).take (prog.cellsOf 3))=some z1:=g1;rw[cellsI]at g0 g1;replace g0:DataW.trod enc prog w 0 (fun _=>true) true m 3 [c0]=some z0:=g0;replace g1:DataW.trod enc prog w 0 (fun _=>true) true m 3 [c1]=some z1:=g1;obtain⟨k0,e0,_,_⟩:=DataW.trod_int underlying3 g0;obtain⟨k1,e1,_,_⟩:=DataW.trod_int underlying3 g1;have h0:c0=.int .i64 k0:=by simpa [Value.cells]using e0
 have h1:c1=.int .i64 k1:=by simpa [Value.cells]using e1
 subst h0 h1;exact⟨k0,k1,rfl⟩
end
theorem tab_of {W : World} {L : List (String × DataW Unit)} (hL : laidMetH prog L W) (hk : (L.filter fun x => x.1 == "internal/strconv.uint64pow10") = [("internal/strconv.uint64pow10", Lib.tabData .u64 Lib.pow10Tab)]) (hsh : W.ShapedOpen prog) : Tab W := by
 have h1 := hL.filter fun x => x.1 == "internal/strconv.uint64pow10";rw[hk,MakeChecks.laidMetH_plain _ _ _ (by kernel_rfl)]at h1;refine⟨?_,?_⟩;{exact Lib.tabIs_of_head (g:=0) (t:=356) (e:=211) (n:=20) (by kernel_rfl) (by kernel_rfl) underlying356 underlying211 (by kernel_rfl) (by kernel_rfl) h1};{
 exact cell_of_shapedOpen_int (P:=prog) (g:=1) (t:=3) (zero:= #[.int .i64 0]) hsh (of_decide_eq_true (by kernel_rfl)) (by kernel_rfl) rfl (by kernel_rfl) (by kernel_rfl) underlying3}
theorem returns_shaped {H:Type} {enc:TypeId×Value->H} {a:Assume} {C:Checked} {os:Os} {f:FuncId} {fn:Func} {s:ChangeSpec} {conds:List PathCond} {apart fresh handsOn again:Bool} {X:World->Array Value->Prop}
  (hX:∀(w w':World) (args:Array Value),w.heap=w'.heap->X w args->X w' args)
  (own:ownKnob C.prog.godebug=none) (started:os.Started) (noInit:C.prog.inits.idxOf? f=none) (hfn:C.prog.funcs[f]?=some fn)
  (witness:∃(w:World) (tape:Tape) (i:Input),w.os=os/\(w.forCall tape i).Shaped C.prog/\i.vars=[]/\Input.okWide C.prog (w.forCall tape i) .any w.heap.size f i /\
   ((s.pre enc C.prog fn conds apart (w.forCall tape i).memory i.args/\X (w.forCall tape i).memory i.args)/\sizedMet enc C.prog fn (OpenSpec.ofChange s) apart (w.forCall tape i).memory i.args)/\a.holds C.prog (lone (Frame.enter C.prog f i.args .normal) [] (w.forCall tape i)))
  (contract:∀(W:World) (base:Nat) (args:Array Value) (ds gs:List (DataW H)) (before:List MemPlace),
   (∀(j:Nat) t v,fn.params[j]?=some t->args[j]?=some v->Value.okWide C.prog W .any base t v) ->
   DataW.Whole enc C.prog fn.params.toList s.vars apart W args.toList ds gs before ->
   conds.all (PathCond.test C.prog ⟨fn.params.toList,ds,s.plain.varTypes C.prog,gs⟩)=true ->
   (DataW.weightsEach C.prog (fn.params.toList++s.plain.varTypes C.prog) (ds++gs)).all (· <= reachBytes)=true->X W args->W.ShapedOpen C.prog ->
   a.holds C.prog (lone (Frame.enter C.prog f args .normal) [] W) ->
   Calls C.prog f args W fun e W'=>∃v,e=.returned v/\s.post enc C.prog fn apart fresh handsOn again W args v W'):
  ReturnsInHanded a C os f .any (fun w args=>(s.pre enc C.prog fn conds apart w args/\X w args)/\sizedMet enc C.prog fn (OpenSpec.ofChange s) apart w args) (s.post enc C.prog fn apart fresh handsOn again):=by
 refine returnsInHanded_of_calls own started noInit witness ?_;intro w tape i _ hsh _ hok hpre hholds;obtain⟨_,_,_,fn',hfn',_,_,_,_,hval⟩:=hok;have e:fn'=fn:=Option.some.inj (hfn'.symm.trans hfn);subst e;obtain⟨⟨⟨ds,gs,before,hw,hc⟩,hx⟩,hz⟩:=hpre;have hw':=DataW.Whole.of_heap (w':=w.forCall tape i) (by rfl) hw;refine(contract (w.forCall tape i) w.heap.size i.args ds gs before hval hw' hc (hz.weights hw) (hX _ _ _ (by rfl) hx) hsh hholds).mono fun e W' ⟨v,he,hp⟩=>?_;subst he;exact ChangeSpec.post_blind hp
end
end Go.Proofs.YthgenkkkapilhaaGreatDoor