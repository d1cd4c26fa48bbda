/- Texts, joined. -/
import Derived.Test.YthgenkkkapilhaaGreatDoorVTn09
set_option linter.all false
set_option maxRecDepth 100000
set_option maxHeartbeats 64000000
namespace Go.Proofs.YthgenkkkapilhaaGreatDoor
open Go.Proofs.Tryz
section
open Go.RowKit
theorem holds_zero0 (w:World) (T:TypeId) (nd:Nat) (hs:nd<=24):Sort.Holds (fun(b:UInt8)=>Value.int .u8 (b.toNat:Int)) (w.alloc (.cells Lib.zeros24 T)) w.heap.size 0 (Array.replicate nd (0:UInt8)):=fun j hj=>by
 have hj':j<nd:=by simpa using hj
 refine⟨?_,World.frozen?_alloc_new _ _ _ _⟩
 rw[World.cell?_alloc_new,Lib.zeros24_at _ (by omega),getElem!_pos _ j hj]
 simp
theorem below_row (w:World) (o:Obj) (dk:Array UInt8) (k:Nat):Below w.heap.size w ((Sort.putRow (fun(b:UInt8)=>Value.int .u8 (b.toNat:Int)) (w.alloc o) w.heap.size 0 dk).drewN k):=by
 obtain⟨os,e⟩:∃os,(Sort.putRow (fun(b:UInt8)=>Value.int .u8 (b.toNat:Int)) (w.alloc o) w.heap.size 0 dk).drewN k=Sort.grow (w.drewN k) os:=by rw[Sort.alloc_eq_grow];obtain⟨os',_,e⟩:=Sort.putRow_grow_new (fun(b:UInt8)=>Value.int .u8 (b.toNat:Int)) w #[o] w.heap.size 0 dk (Nat.le_refl _);exact⟨os',by rw[e];rfl⟩
 rw[e];refine⟨rfl,rfl,rfl,?_,fun j hj=>?_⟩;{
 show w.heap.size<=(w.heap++os).size;rw[Array.size_append];omega};{
 show (w.heap++os)[j]?=_;rw[Array.getElem?_append_left hj]}
theorem decB (n:Nat):(⟨(Lib.decDigits n).toArray⟩:ByteArray)=strB (digD n):=by rw[<-itoaB,Lib.itoa_nonneg]
theorem ifmtU_any (w:World) (u:Nat) (hu64:u<18446744073709551616) (hT:Tab w):Calls prog 303 #[.int .u64 (u:Int),.int .i64 10] w fun e w'=>e=.returned (.string (strB (digD u)))/\Below w.heap.size w w':=by
 rw[<-decB];by_cases hs:u<100;{
 have hsI:(u:Int)<100:=by omega
 have huw:IntKind.i64.wrap (u:Int)=u:=zIw (by omega);go_enter func303,ntmps303;go_wp2_with fail;refine(Tryz.internal_strconv_small u hs _).mono ?_;rintro e w' ⟨rfl,rfl⟩;go_wp2;go_ret;exact⟨rfl,Below.refl _ _⟩};{
 have hu1:1<=u:=by omega
 have hsI:¬(u:Int)<100:=by omega
 have hnd20:Lib.nDigits u<=20:=by have:=Lib.numDigits_eq u hu1 hu64;split at this<;>omega
 have hb3:Lib.nDigits u<=24:=by omega
 have hal:prog.arrayLen 323=24:=by simp[Program.arrayLen,underlying323]
 have hsl1:∀W,(Instr.sliceAt 323 (.pointer (some ⟨w.heap.size,0,none⟩)) none (some (.int .i64 (Lib.nDigits u:Int))) none).run prog W=.ok (.slice (some ⟨w.heap.size,0,none⟩) (Lib.nDigits u) 24) W:=fun W=>by
  rw[run_sliceAt_array_h W 323 ⟨w.heap.size,0,none⟩ (by simp[Program.arrayLen,Program.elem,underlying323]) .i64 (Lib.nDigits u:Int) (by omega) (by rw[hal];omega)]
  go_simp
 have hH0:=holds_zero0 w 323 (Lib.nDigits u) (by omega);have hfmt:=Tryz.internal_strconv_formatBase10 w.heap.size 0 24 u (Array.replicate (Lib.nDigits u) 0) (w.alloc (.cells Lib.zeros24 323)) hH0 (by rw[Array.size_replicate];exact Lib.lt_pow_nDigits u) hu64 (by rw[Array.size_replicate];omega);rw[Array.size_replicate]at hfmt;have HH0:=zY hH0;have HT:=zY hT;clear hH0 hal hT;go_enter func303,ntmps303;go_wp2_with fail;refine(Tryz.internal_strconv_numDigits u hu1 hu64 _ (Lib.tabIs_alloc HT.pow _)).mono ?_;rintro e w' ⟨rfl,rfl⟩;go_wp2_with fail;refine hfmt.mono ?_;rintro e w' ⟨rfl,k,v',dk,rfl,hF⟩;have hcv:(convert 117 9 (.slice (some ⟨w.heap.size,0,none⟩) (Lib.nDigits u) 24)).run prog ((Sort.putRow (fun(b:UInt8)=>Value.int .u8 (b.toNat:Int)) (w.alloc (.cells Lib.zeros24 323)) w.heap.size 0 dk).drewN k)=.ok (.string ⟨(Lib.decDigits u).toArray⟩) ((Sort.putRow (fun(b:UInt8)=>Value.int .u8 (b.toNat:Int)) (w.alloc (.cells Lib.zeros24 323)) w.heap.size 0 dk).drewN k):=by{
 have h:=run_convert_bytes_back (P:=prog) ((Sort.putRow (fun(b:UInt8)=>Value.int .u8 (b.toNat:Int)) (w.alloc (.cells Lib.zeros24 323)) w.heap.size 0 dk).drewN k) 117 9 5 ⟨w.heap.size,0,none⟩ 24 (Lib.decDigits u) underlying117 underlying5 underlying9 (fun j hj=>by
  rw[Lib.row_is_numeral hF j hj,Lib.add_plain,World.cell?_drewN]
  exact Sort.cell?_putRow (fun(b:UInt8)=>Value.int .u8 (b.toNat:Int)) _ w.heap.size 0 _ dk HH0.out (by rw[hF.size,Array.size_replicate]) j (by rw[hF.size];rw[Lib.decDigits_length]at hj;exact hj));rw[Lib.decDigits_length]at h;exact h};have HBz:=zY (below_row w (.cells Lib.zeros24 323) dk k);clear hF;go_wp2;go_ret;exact⟨rfl,HBz.out⟩}
theorem fmtU_any (w:World) (u:Nat) (hu64:u<18446744073709551616) (hT:Tab w):Calls prog 245 #[.int .u64 (u:Int),.int .i64 10] w fun e w'=>e=.returned (.string (strB (digD u)))/\Below w.heap.size w w':=by
 have H:=zY (ifmtU_any w u hu64 hT);clear hT;go_enter func245,ntmps245;go_wp2_with fail;refine H.mono ?_;rintro e w' ⟨rfl,hb⟩;have HB:=zY hb;clear hb;go_wp2;go_ret;exact⟨rfl,HB.out⟩
def padL (n v:Nat):List Nat:=List.replicate (n-(digD v).length) 48++digD v
def digF (g:Nat):Value:=.func (.func 244) #[] #[.pointer (some ⟨g,0,none⟩)]
theorem pdigits_any (w:World) (n:Int):Calls prog 166 #[.int .i64 n] w fun e w'=>e=.returned (.tuple #[digF w.heap.size,.func (.func 246) #[] #[]])/\w.alloc (.cells #[.int .i64 n] 3)=w':=by
 go_enter func166,ntmps166;go_wp2;go_ret2;exact⟨rfl,rfl⟩
theorem pdig1_any (w:World) (g n v:Nat) (hg:w.cell? ⟨g,0,none⟩=some (.int .i64 (n:Int))) (hn:n<=100) (hv:v<18446744073709551616) (hT:Tab w):Calls prog 244 #[.int .u64 (v:Int),.pointer (some ⟨g,0,none⟩)] w fun e w'=>e=.returned (.string (strB (padL n v)))/\Below w.heap.size w w':=by
 have H1:=zY (fmtU_any w v hv hT);have Hg:=zY hg;obtain⟨z,hz⟩:=zNm (n-(digD v).length);have hl:=digD_len20 (u:=v) (by omega);have hsz:(strB (digD v)).size=(digD v).length:=strB_size _;have hmx:max (0:Int) ((n:Int)-(strB (digD v)).size)=z:=by rw[hsz];omega
 have hw1:IntKind.i64.wrap ((n:Int)-(strB (digD v)).size)=(n:Int)-(strB (digD v)).size:=IntWalk.i64_in _ (by rw[hsz];omega);have H2:Hid (∀W:World,Calls prog 55 #[.string ⟨#[48]⟩,.int .i64 (z:Int)] W fun e w'=>e=.returned (.string (strB (List.replicate z 48)))/\Below W.heap.size W w'):=zY (fun W=>repeat_any W 48 z (by omega));have Hc:Hid (strB (List.replicate z 48)++strB (digD v)=strB (padL n v)):=zY (by rw[padL,hz];exact strB_cat _ _);obtain⟨Z,hZ⟩:=zNm (strB (List.replicate z 48));have hZz:Z.size=z:=by rw[<-hZ,strB_size,List.length_replicate]
 rw[hZ]at H2 Hc;have hcc:¬9223372036854775807<Z.size+(strB (digD v)).size:=by omega
 generalize strB (digD v)=Q at *;clear hg hT hz hl hsz hZ hZz;go_enter func244,ntmps244;go_wp2_with fail;refine H1.mono ?_;rintro e w1 ⟨rfl,hb1⟩;have g1:=cell_below hb1 Hg.out;have HB1:=zY hb1;clear hb1;go_upto_region 2 with fail;go_wp2_with fail;refine(H2.out _).mono ?_;rintro e w2 ⟨rfl,hb2⟩;have HB2:=zYt HB1 hb2;clear hb2;go_wp2;go_ret;exact⟨by rw[Hc.out]<;>rfl,HB2.out⟩
structure Hol where
 p:ByteArray
 u:Int
def holS:Shape Hol where
 n:=2
 R _ cs x:=cs=[.string x.p,.int .i64 x.u]
 len h:=by rw[h];rfl
 one h u hu:=by
  rw[h]at hu
  simp only[List.mem_cons,List.not_mem_nil,or_false]at hu
  rcases hu with rfl|rfl<;>rfl
 keep h _:=h
theorem held_any (w:World) (v:Value) (l:List Hol) (hv:SeqAt holS w v l) (hl:∀h∈l,h.p.size<=1000000) (s:ByteArray) (hs:s.size<=1000000) (date:Int):Calls prog 230 #[v,.string s,.int .i64 date] w fun e w'=>RetB e/\Below w.heap.size w w':=by
 have Hv:=zY hv;have HU:=zY (fun(W:World) (h:Hol) (hm:h∈l)=>under_any W s h.p hs (hl h hm));obtain⟨A,c,rfl,h1,h2⟩:=hv.slice;clear hv hl;go_enter func230,ntmps230;go_wp2;go_loopw [7] (fun x wr=>∃i:Nat,i<=l.length/\x=.int .i64 (i:Int)/\Below w.heap.size w wr) (fun x _=>l.length-(intOf x).toNat);case atStart=>exact⟨0,by omega,rfl,Below.refl _ _⟩
 case round=>
 obtain⟨i,hi,rfl,hB⟩:=hrel;have HB:=zY hB;clear hB;by_cases h:i<l.length;{
 have hiI:(i:Int)<l.length:=by omega
 obtain⟨x,hx⟩:∃x,l[i]?=some x:=⟨_,List.getElem?_eq_getElem h⟩;obtain⟨_,_,e9,_,_,h4⟩:=Hv.below HB.out;cases e9;obtain⟨b,o,cs,rfl,rfl,hc⟩:=h4 i x hx;have HUx:=zY (fun W=>HU.out W x (List.mem_of_getElem? hx));have c0:wr.cell? ⟨b,o+i*2,none⟩=some (.string x.p):=hc 0 _ rfl;have c1:wr.cell? ⟨b,o+i*2+1,none⟩=some (.int .i64 x.u):=hc 1 _ rfl;clear hc h4 hx;obtain⟨p,u⟩:=x;dsimp only at c0 c1 HUx;by_cases hd:date<=u;{
 go_wp2_with fail;refine(HUx.out _).mono ?_;rintro e2 w2 ⟨⟨r,rfl⟩,hb2⟩;have HB2:=zYt HB hb2;clear hb2;cases r with
 |true=>go_wp2;go_ret;exact⟨RetB.of true,HB2.out⟩
 |false=>
 go_wp2;go_roundw;case rel=>exact⟨i+1,by omega,by go_num,HB2.out⟩
 case measure=>simp[intOf];omega};{
 go_wp2_with fail;first|(refine⟨trivial,?_⟩;go_wp2)|skip
 go_roundw;case rel=>exact⟨i+1,by omega,by go_num,HB.out⟩
 case measure=>simp[intOf];omega}};{
 have hiI:¬(i:Int)<l.length:=by omega
 go_wp2;go_ret;exact⟨RetB.of false,HB.out⟩}
theorem date38_any (w:World) (s:ByteArray) (hs:s.size<=1000000):Calls prog 231 #[.string s] w fun e w'=>RetI e/\w=w':=by
 by_cases h1:s.size=0;{
 have i1:s.toList.isEmpty=true:=by rw[show s=⟨#[]⟩ by apply ByteArray.ext;exact Array.eq_empty_of_size_eq_zero h1];rw[ByteArray.toList_eq];rfl
 clear h1;go_enter func231,ntmps231;go_wp2;go_ret;exact⟨RetI.of (-1),rfl⟩};{
 have i1:s.toList.isEmpty=false:=isEmptyV h1;by_cases h2:10<s.size;{
 have i2:(10:Int)<s.size:=by omega
 go_enter func231,ntmps231;go_wp2;go_ret;exact⟨RetI.of (-1),rfl⟩};{
 have i2:¬(10:Int)<s.size:=by omega
 have h0:0<s.size:=by omega
 have i0:(0:Int)<s.size:=by omega
 by_cases h3:1<s.size;{
 have i3:(1:Int)<s.size:=by omega
 by_cases h4:(s[0]'h0).toNat=48;{
 have i4:(((s[0]'h0).toNat:Int)==48)=true:=by rw[h4];rfl
 clear h4;go_enter func231,ntmps231;go_wp2;go_ret;exact⟨RetI.of (-1),rfl⟩};{
 have i4:(((s[0]'h0).toNat:Int)==48)=false:=by rw[beq_eq_false_iff_ne];omega
 clear h4;go_enter func231,ntmps231;go_wp2;go_loop [3,4] (fun y x=>∃k n:Nat,k<=s.size/\x=.int .i64 (k:Int)/\y=.int .i64 (n:Int)/\n<10^k) (fun _ x=>s.size-(intOf x).toNat);case atStart=>exact⟨0,0,by omega,rfl,rfl,by decide⟩
 case round=>
 obtain⟨k,n,hk,rfl,rfl,hn⟩:=hrel;have hn2:10^k<=10^10:=Nat.pow_le_pow_right (by decide) (by omega);have hn3:n<10000000000:=by omega
 by_cases h:k<s.size;{
 have hkI:(k:Int)<s.size:=by omega
 by_cases a1:(s[k]'h).toNat<48;{
 have f0:((s[k]'h).toNat:Int)<48:=by omega
 clear a1 hn hn2;go_wp2;go_ret;exact⟨RetI.of (-1),rfl⟩};{
 by_cases a2:57<(s[k]'h).toNat;{
 have f0:¬((s[k]'h).toNat:Int)<48:=by omega
 have f1:(57:Int)<((s[k]'h).toNat:Int):=by omega
 clear a1 a2 hn hn2;go_wp2;go_ret;exact⟨RetI.of (-1),rfl⟩};{
 have f0:¬((s[k]'h).toNat:Int)<48:=by omega
 have f1:¬(57:Int)<((s[k]'h).toNat:Int):=by omega
 obtain⟨c,hc⟩:∃c,(s[k]'h).toNat=c+48:=⟨(s[k]'h).toNat-48,by omega⟩;have hc9:c<=9:=by omega
 have hcI:((s[k]'h).toNat:Int)-48=(c:Int):=by omega
 have hcM:(((s[k]'h).toNat:Int)-48)%256=(c:Int):=by omega
 have hnn:n*10+c<10^(k+1):=by rw[Nat.pow_succ];omega
 have HN:=zY hnn;clear a1 a2 hn hn2 hnn hc;go_wp2;go_round;case rel=>exact⟨k+1,n*10+c,by omega,by go_num,by go_num,HN.out⟩
 case measure=>simp[intOf];omega}}};{
 have hkI:¬(k:Int)<s.size:=by omega
 clear hn hn2;by_cases hle:1000000000<n;{
 have i9:(1000000000:Int)<n:=by omega
 go_wp2;go_ret;exact⟨RetI.of (-1),rfl⟩};{
 have i9:¬(1000000000:Int)<n:=by omega
 go_wp2;go_ret;exact⟨RetI.of n,rfl⟩}}}};{
 have i3:¬(1:Int)<s.size:=by omega
 go_enter func231,ntmps231;go_wp2;go_loop [3,4] (fun y x=>∃k n:Nat,k<=s.size/\x=.int .i64 (k:Int)/\y=.int .i64 (n:Int)/\n<10^k) (fun _ x=>s.size-(intOf x).toNat);case atStart=>exact⟨0,0,by omega,rfl,rfl,by decide⟩
 case round=>
 obtain⟨k,n,hk,rfl,rfl,hn⟩:=hrel;have hn2:10^k<=10^10:=Nat.pow_le_pow_right (by decide) (by omega);have hn3:n<10000000000:=by omega
 by_cases h:k<s.size;{
 have hkI:(k:Int)<s.size:=by omega
 by_cases a1:(s[k]'h).toNat<48;{
 have f0:((s[k]'h).toNat:Int)<48:=by omega
 clear a1 hn hn2;go_wp2;go_ret;exact⟨RetI.of (-1),rfl⟩};{
 by_cases a2:57<(s[k]'h).toNat;{
 have f0:¬((s[k]'h).toNat:Int)<48:=by omega
 have f1:(57:Int)<((s[k]'h).toNat:Int):=by omega
 clear a1 a2 hn hn2;go_wp2;go_ret;exact⟨RetI.of (-1),rfl⟩};{
 have f0:¬((s[k]'h).toNat:Int)<48:=by omega
 have f1:¬(57:Int)<((s[k]'h).toNat:Int):=by omega
 obtain⟨c,hc⟩:∃c,(s[k]'h).toNat=c+48:=⟨(s[k]'h).toNat-48,by omega⟩;have hc9:c<=9:=by omega
 have hcI:((s[k]'h).toNat:Int)-48=(c:Int):=by omega
 have hcM:(((s[k]'h).toNat:Int)-48)%256=(c:Int):=by omega
 have hnn:n*10+c<10^(k+1):=by rw[Nat.pow_succ];omega
 have HN:=zY hnn;clear a1 a2 hn hn2 hnn hc;go_wp2;go_round;case rel=>exact⟨k+1,n*10+c,by omega,by go_num,by go_num,HN.out⟩
 case measure=>simp[intOf];omega}}};{
 have hkI:¬(k:Int)<s.size:=by omega
 clear hn hn2;by_cases hle:1000000000<n;{
 have i9:(1000000000:Int)<n:=by omega
 go_wp2;go_ret;exact⟨RetI.of (-1),rfl⟩};{
 have i9:¬(1000000000:Int)<n:=by omega
 go_wp2;go_ret;exact⟨RetI.of n,rfl⟩}}}}}
theorem Tryz.infoHolV:(prog.info? 289).map (fun i=>(i.zero,i.size,i.bytes))=some (some (.agg #[.string ⟨#[]⟩,.int .i64 0]),2,24):=by kernel_rfl
def RetHols (w0 W:World) (p:List Hol->Prop) (e:Ending):Prop:=∃v l,e=.returned v/\OwnSeq holS 289 w0 W v l/\p l
theorem active_any (w:World) (v:Value) (l:List Hol) (hv:SeqAt holS w v l) (hl:l.length<=100000) (date:Int):Calls prog 150 #[v,.int .i64 date] w fun e w'=>RetHols w w' (fun m=>m.length<=l.length/\∀h∈m,h∈l) e/\Below w.heap.size w w':=by
 have Hv:=zY hv;obtain⟨iS,hi,hq0,hq1,hq2⟩:=infoV_parts Tryz.infoHolV;have HiS:Hid (prog.info? 289=some iS/\iS.zero=some (.agg #[.string ⟨#[]⟩,.int .i64 0])/\iS.size=2/\iS.bytes=24):=zY ⟨hi,hq0,hq1,hq2⟩;clear hi hq0 hq1 hq2;obtain⟨A,c,rfl,h1,h2⟩:=hv.slice;clear hv;go_enter func150,ntmps150;go_wp2;go_loopw [5,6] (fun y x wr=>∃(i:Nat) (m:List Hol),i<=l.length/\x=.int .i64 (i:Int)/\m.length<=i/\(∀h∈m,h∈l)/\OwnSeq holS 289 w wr y m/\Below w.heap.size w wr) (fun _ x _=>l.length-(intOf x).toNat);case atStart=>exact⟨0,[],by omega,rfl,by simp,(fun h hh=>nomatch hh),⟨[],ownV_new _ _ _,.nil⟩,(Below.refl _ _).alloc (Nat.le_refl _) _⟩
 case round=>
 obtain⟨i,m,hi,rfl,hm,hall,ho,hB⟩:=hrel;have HB:=zY hB;have Hall:=zY hall;obtain⟨css,ho,hbt⟩:=ho;have Ho:=zY ho;have Hbt:=zY hbt;clear hB hall ho hbt;obtain⟨Av,cv,rfl⟩:=ownV_slice Ho.out;by_cases h:i<l.length;{
 have hiI:(i:Int)<l.length:=by omega
 obtain⟨x,hx⟩:∃x,l[i]?=some x:=⟨_,List.getElem?_eq_getElem h⟩;have Hxm:=zY (List.mem_of_getElem? hx);obtain⟨_,_,e9,_,_,h4⟩:=Hv.below HB.out;cases e9;obtain⟨b,o,cs,rfl,rfl,hc⟩:=h4 i x hx;have c0:wr.cell? ⟨b,o+i*2,none⟩=some (.string x.p):=hc 0 _ rfl;have c1:wr.cell? ⟨b,o+i*2+1,none⟩=some (.int .i64 x.u):=hc 1 _ rfl;clear hc h4 hx;obtain⟨p,u⟩:=x;dsimp only at c0 c1;by_cases hd:date<=u;{
 have Hnews:Hid (∀(q:Nat) (x:Value),([.string p,.int .i64 u]:List Value)[q]?=some x->(wr.alloc (.cells #[.string p,.int .i64 u] 289)).cell? ((⟨wr.heap.size,0,none⟩:Addr).add q)=some x):=zY (fun q x hq=>by
  rw[Addr.add_lit,Nat.zero_add]
  exact(Blk.new wr 289 [.string p,.int .i64 u]).cell hq);have Hone:Hid (∀x∈([.string p,.int .i64 u]:List Value),x.oneCell'=true):=zY (by simp[Value.oneCell']);have HU:=zY (Ho.alloc (.cells #[.string p,.int .i64 u] 289));have HB6:=zY (HB.alloc HB.size (.cells #[.string p,.int .i64 u] 289));go_wp2_with (at_builtin;refine append_atV _ rfl _ _ 161 rfl w.heap.size 289 iS (.agg #[.string ⟨#[]⟩,.int .i64 0]) 2 24 underlying161 HiS.1 HiS.2.1 HiS.2.2.1 HiS.2.2.2 rfl (by omega) (.slice Av m.length cv) m.length _ rfl HU.out ⟨wr.heap.size,0,none⟩ 1 1 _ rfl rfl Hnews.out Hone.out (by unfold maxLen;omega) (by omega) HB6.size ?_;intro va wa hob hgb _;have KU:=zY hob;have KB:=zY (HB6.grown hgb HB6.size (ownV_ge HU.out));clear hob hgb);go_roundw;case rel=>exact⟨i+1,m++[⟨p,u⟩],by omega,by go_num,by simp;omega,(fun x hx=>by
  rcases List.mem_append.1 hx with hx|hx
  ·exact Hall.out x hx
  ·rw[List.mem_singleton.1 hx];exact Hxm.out),⟨css++[[.string p,.int .i64 u]],by rw[List.flatten_append,List.length_append];exact KU.out,Hbt.app (.cons (show holS.R w [.string p,.int .i64 u] ⟨p,u⟩ from rfl) .nil)⟩,KB.out⟩
 case measure=>simp[intOf];omega};{
 go_wp2;go_roundw;case rel=>exact⟨i+1,m,by omega,by go_num,by omega,Hall.out,⟨css,Ho.out,Hbt.out⟩,HB.out⟩
 case measure=>simp[intOf];omega}};{
 have hiI:¬(i:Int)<l.length:=by omega
 go_wp2;go_ret;exact⟨⟨_,m,rfl,⟨css,Ho.out,Hbt.out⟩,by omega,Hall.out⟩,HB.out⟩}
end
section
def gdiv (a b:Nat):Nat:=gmul a (ginv b)
theorem gdiv_lt {a b:Nat} (ha:a<256):gdiv a b<256:=gmul_lt _ ha
theorem xor_ne {a b:Nat} (h:a≠b):a^^^b≠0:=fun e=>h (by
 have:a^^^b^^^b=0^^^b:=by rw[e]
 rwa [Nat.xor_assoc,Nat.xor_self,Nat.xor_zero,Nat.zero_xor]at this)
theorem gdiv_mul {a b:Nat} (ha:a<256) (hb:b<256) (h:b≠0):gmul (gdiv a b) b=a:=by
 rw[gdiv,gmul_assoc ha (ginv_lt hb) hb,gmul_comm (ginv_lt hb) hb,gmul_inv hb h,gmul_one_right]
theorem gdiv_unique {a b x:Nat} (hb:b<256) (hx:x<256) (h:b≠0) (e:gmul x b=a):x=gdiv a b:=by
 rw[gdiv,<-e,gmul_assoc hx hb (ginv_lt hb),gmul_inv hb h,gmul_one_right]
theorem ginv_mul {a b:Nat} (ha:a<256) (hb:b<256) (h:a≠0) (k:b≠0):ginv (gmul a b)=gmul (ginv a) (ginv b):=by
 refine(inv_unique (gmul_lt _ ha) (gmul_lt _ (ginv_lt ha)) ?_).symm;rw[gmul_assoc ha hb (gmul_lt _ (ginv_lt ha)),<-gmul_assoc hb (ginv_lt ha) (ginv_lt hb),gmul_comm hb (ginv_lt ha),gmul_assoc (ginv_lt ha) hb (ginv_lt hb),gmul_inv hb k,gmul_one_right,gmul_inv ha h]
def wgtR (xs:List Nat) (k x:Nat):Nat->Nat
 |0=>1
 |i+1=>if i=k then wgtR xs k x i else gmul (wgtR xs k x i) (gdiv (x^^^cf xs i) (cf xs k^^^cf xs i))
def aboR (xs:List Nat) (k x:Nat):Nat->Nat
 |0=>1
 |i+1=>if i=k then aboR xs k x i else gmul (aboR xs k x i) (x^^^cf xs i)
def belR (xs:List Nat) (k:Nat):Nat->Nat
 |0=>1
 |i+1=>if i=k then belR xs k i else gmul (belR xs k i) (cf xs k^^^cf xs i)
theorem aboR_lt {xs:List Nat} {k x:Nat}:∀i,aboR xs k x i<256
 |0=>(by decide:1<256)
 |i+1=>by
  rw[aboR]
  split
  ·exact aboR_lt i
  ·exact gmul_lt _ (aboR_lt i)
theorem belR_lt {xs:List Nat} {k:Nat}:∀i,belR xs k i<256
 |0=>(by decide:1<256)
 |i+1=>by
  rw[belR]
  split
  ·exact belR_lt i
  ·exact gmul_lt _ (belR_lt i)
theorem wgtR_lt {xs:List Nat} {k x:Nat}:∀i,wgtR xs k x i<256
 |0=>(by decide:1<256)
 |i+1=>by
  rw[wgtR]
  split
  ·exact wgtR_lt i
  ·exact gmul_lt _ (wgtR_lt i)
theorem wgt_eq {xs:List Nat} {k x:Nat} (hx:x<256) (hb:∀i,cf xs i<256) (hd:∀i,i<xs.length->i≠k->cf xs k≠cf xs i):∀i,i<=xs.length->wgtR xs k x i=gdiv (aboR xs k x i) (belR xs k i)/\belR xs k i≠0
 |0,_=>⟨(by decide:1=gdiv 1 1),(by decide:1≠0)⟩
 |i+1,hi=>by
  obtain⟨h1,h2⟩:=wgt_eq hx hb hd i (by omega)
  by_cases h:i=k
  {
  rw[wgtR,aboR,belR,if_pos h,if_pos h,if_pos h]
  exact⟨h1,h2⟩}
  {
  rw[wgtR,aboR,belR,if_neg h,if_neg h,if_neg h]
  have hne:cf xs k^^^cf xs i≠0:=xor_ne (hd i (by omega) h)
  have l1:=xor_lt hx (hb i)
  have l2:=xor_lt (hb k) (hb i)
  have l3:=aboR_lt (xs:=xs) (k:=k) (x:=x) i
  have l4:=belR_lt (xs:=xs) (k:=k) i
  refine⟨?_,fun e=>(gmul_eq_zero l4 l2 e).elim h2 hne⟩
  rw[h1,gdiv,gdiv,gdiv,ginv_mul l4 l2 h2 hne]
  rw[gmul_assoc l3 (ginv_lt l4) (gmul_lt _ l1),<-gmul_assoc (ginv_lt l4) l1 (ginv_lt l2),gmul_comm (ginv_lt l4) l1,gmul_assoc l1 (ginv_lt l4) (ginv_lt l2),<-gmul_assoc l3 l1 (gmul_lt _ (ginv_lt l4))]}
def wgt (xs:List Nat) (x k:Nat):Nat:=wgtR xs k x xs.length
theorem wgt_lt (xs:List Nat) (x k:Nat):wgt xs x k<256:=wgtR_lt _
def sumE (xs:List Nat) (bl:List (List Nat)) (x i:Nat):Nat->Nat
 |0=>0
 |k+1=>sumE xs bl x i k^^^gmul (wgt xs x k) (cf (bl.getD k []) i)
theorem sumE_lt {xs:List Nat} {bl:List (List Nat)} {x i:Nat}:∀k,sumE xs bl x i k<256
 |0=>(by decide:0<256)
 |k+1=>xor_lt (sumE_lt k) (gmul_lt _ (wgt_lt _ _ _))
def atE (xs:List Nat) (bl:List (List Nat)) (n x:Nat):List Nat:=(List.range n).map fun i=>sumE xs bl x i xs.length
def rowE (xs:List Nat) (bl:List (List Nat)) (n x k i:Nat):List Nat:=(List.range n).map fun j=>sumE xs bl x j (if j<i then k+1 else k)
theorem rowE_len {xs:List Nat} {bl:List (List Nat)} {n x k i:Nat}:(rowE xs bl n x k i).length=n:=by simp[rowE]
theorem rowE_cf {xs:List Nat} {bl:List (List Nat)} {n x k i j:Nat} (hj:j<n):cf (rowE xs bl n x k i) j=sumE xs bl x j (if j<i then k+1 else k):=by
 rw[rowE,cf,List.getElem?_map,List.getElem?_range hj];rfl
theorem rowE_lt {xs:List Nat} {bl:List (List Nat)} {n x k i:Nat}:∀y∈rowE xs bl n x k i,y<256:=by
 intro y hy;obtain⟨j,_,rfl⟩:=List.mem_map.1 hy;exact sumE_lt _
theorem rowE_zero {xs:List Nat} {bl:List (List Nat)} {n x:Nat}:rowE xs bl n x 0 0=List.replicate n 0:=by
 apply List.ext_getElem (by simp[rowE]);intro j h1 h2;simp[rowE,sumE]
theorem rowE_next {xs:List Nat} {bl:List (List Nat)} {n x k:Nat}:rowE xs bl n x k n=rowE xs bl n x (k+1) 0:=by
 unfold rowE;refine List.map_congr_left fun j hj=>?_;rw[if_pos (List.mem_range.1 hj),if_neg (Nat.not_lt_zero j)]
theorem rowE_step {xs:List Nat} {bl:List (List Nat)} {n x k i:Nat} (hi:i<n):(rowE xs bl n x k i).set i (cf (rowE xs bl n x k i) i^^^gmul (wgt xs x k) (cf (bl.getD k []) i))=rowE xs bl n x k (i+1):=by
 rw[rowE_cf hi,if_neg (Nat.lt_irrefl i)];apply List.ext_getElem (by simp[rowE]);intro j h1 h2;have hj:j<n:=by simpa [rowE]using h1
 rw[List.getElem_set];by_cases h:i=j;{
 subst h;simp[rowE,sumE]};{
 rw[if_neg h];simp only[rowE,List.getElem_map,List.getElem_range];by_cases h3:j<i;{rw[if_pos h3,if_pos (by omega)]};{rw[if_neg h3,if_neg (by omega)]}}
theorem rowE_all {xs:List Nat} {bl:List (List Nat)} {n x:Nat}:rowE xs bl n x xs.length 0=atE xs bl n x:=by
 unfold rowE atE;refine List.map_congr_left fun j hj=>?_;rw[if_neg (Nat.not_lt_zero j)]
theorem atE_len {xs:List Nat} {bl:List (List Nat)} {n x:Nat}:(atE xs bl n x).length=n:=by simp[atE]
end
end Go.Proofs.YthgenkkkapilhaaGreatDoor