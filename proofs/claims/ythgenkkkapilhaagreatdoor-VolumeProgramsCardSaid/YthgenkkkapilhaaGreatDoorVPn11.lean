/-
  Joined: VrO StrWz VoU VoV VoW VoX VoY VpA VpC VqJ VqK VqL ErA.
-/
import Derived.Test.YthgenkkkapilhaaGreatDoorVPn09
set_option linter.all false
set_option maxRecDepth 100000
set_option maxHeartbeats 64000000
namespace Go.Proofs.YthgenkkkapilhaaGreatDoor
open Go.Proofs.Tryz
section
open Go.RowKit
theorem holds_zero0 (w:World) (T:TypeId) (nd:Nat) (hs:nd<=24):Sort.Holds (fun(b:UInt8)=>Value.int .u8 (b.toNat:Int)) (w.alloc (.cells Lib.zeros24 T)) w.heap.size 0 (Array.replicate nd (0:UInt8)):=fun j hj=>by
 have hj':j<nd:=by simpa using hj
 refine⟨?_,World.frozen?_alloc_new _ _ _ _⟩
 rw[World.cell?_alloc_new,Lib.zeros24_at _ (by omega),getElem!_pos _ j hj]
 simp
theorem below_row (w:World) (o:Obj) (dk:Array UInt8) (k:Nat):Below w.heap.size w ((Sort.putRow (fun(b:UInt8)=>Value.int .u8 (b.toNat:Int)) (w.alloc o) w.heap.size 0 dk).drewN k):=by
 obtain⟨os,e⟩:∃os,(Sort.putRow (fun(b:UInt8)=>Value.int .u8 (b.toNat:Int)) (w.alloc o) w.heap.size 0 dk).drewN k=Sort.grow (w.drewN k) os:=by rw[Sort.alloc_eq_grow];obtain⟨os',_,e⟩:=Sort.putRow_grow_new (fun(b:UInt8)=>Value.int .u8 (b.toNat:Int)) w #[o] w.heap.size 0 dk (Nat.le_refl _);exact⟨os',by rw[e];rfl⟩
 rw[e];refine⟨rfl,rfl,rfl,?_,fun j hj=>?_⟩;{
 show w.heap.size<=(w.heap++os).size;rw[Array.size_append];omega};{
 show (w.heap++os)[j]?=_;rw[Array.getElem?_append_left hj]}
theorem decB (n:Nat):(⟨(Lib.decDigits n).toArray⟩:ByteArray)=strB (digD n):=by rw[<-itoaB,Lib.itoa_nonneg]
theorem ifmtU_any (w:World) (u:Nat) (hu64:u<18446744073709551616) (hT:Tab w):Calls prog 303 #[.int .u64 (u:Int),.int .i64 10] w fun e w'=>e=.returned (.string (strB (digD u)))/\Below w.heap.size w w':=by
 rw[<-decB];by_cases hs:u<100;{
 have hsI:(u:Int)<100:=by omega
 have huw:IntKind.i64.wrap (u:Int)=u:=zIw (by omega);go_enter func303,ntmps303;go_wp2_with fail;refine(Tryz.internal_strconv_small u hs _).mono ?_;rintro e w' ⟨rfl,rfl⟩;go_wp2;go_ret;exact⟨rfl,Below.refl _ _⟩};{
 have hu1:1<=u:=by omega
 have hsI:¬(u:Int)<100:=by omega
 have hnd20:Lib.nDigits u<=20:=by have:=Lib.numDigits_eq u hu1 hu64;split at this<;>omega
 have hb3:Lib.nDigits u<=24:=by omega
 have hal:prog.arrayLen 323=24:=by simp[Program.arrayLen,underlying323]
 have hsl1:∀W,(Instr.sliceAt 323 (.pointer (some ⟨w.heap.size,0,none⟩)) none (some (.int .i64 (Lib.nDigits u:Int))) none).run prog W=.ok (.slice (some ⟨w.heap.size,0,none⟩) (Lib.nDigits u) 24) W:=fun W=>by
  rw[run_sliceAt_array_h W 323 ⟨w.heap.size,0,none⟩ (by simp[Program.arrayLen,Program.elem,underlying323]) .i64 (Lib.nDigits u:Int) (by omega) (by rw[hal];omega)]
  go_simp
 have hH0:=holds_zero0 w 323 (Lib.nDigits u) (by omega);have hfmt:=Tryz.internal_strconv_formatBase10 w.heap.size 0 24 u (Array.replicate (Lib.nDigits u) 0) (w.alloc (.cells Lib.zeros24 323)) hH0 (by rw[Array.size_replicate];exact Lib.lt_pow_nDigits u) hu64 (by rw[Array.size_replicate];omega);rw[Array.size_replicate]at hfmt;have HH0:=zY hH0;have HT:=zY hT;clear hH0 hal hT;go_enter func303,ntmps303;go_wp2_with fail;refine(Tryz.internal_strconv_numDigits u hu1 hu64 _ (Lib.tabIs_alloc HT.pow _)).mono ?_;rintro e w' ⟨rfl,rfl⟩;go_wp2_with fail;refine hfmt.mono ?_;rintro e w' ⟨rfl,k,v',dk,rfl,hF⟩;have hcv:(convert 117 9 (.slice (some ⟨w.heap.size,0,none⟩) (Lib.nDigits u) 24)).run prog ((Sort.putRow (fun(b:UInt8)=>Value.int .u8 (b.toNat:Int)) (w.alloc (.cells Lib.zeros24 323)) w.heap.size 0 dk).drewN k)=.ok (.string ⟨(Lib.decDigits u).toArray⟩) ((Sort.putRow (fun(b:UInt8)=>Value.int .u8 (b.toNat:Int)) (w.alloc (.cells Lib.zeros24 323)) w.heap.size 0 dk).drewN k):=by{
 have h:=run_convert_bytes_back (P:=prog) ((Sort.putRow (fun(b:UInt8)=>Value.int .u8 (b.toNat:Int)) (w.alloc (.cells Lib.zeros24 323)) w.heap.size 0 dk).drewN k) 117 9 5 ⟨w.heap.size,0,none⟩ 24 (Lib.decDigits u) underlying117 underlying5 underlying9 (fun j hj=>by
  rw[Lib.row_is_numeral hF j hj,Lib.add_plain,World.cell?_drewN]
  exact Sort.cell?_putRow (fun(b:UInt8)=>Value.int .u8 (b.toNat:Int)) _ w.heap.size 0 _ dk HH0.out (by rw[hF.size,Array.size_replicate]) j (by rw[hF.size];rw[Lib.decDigits_length]at hj;exact hj));rw[Lib.decDigits_length]at h;exact h};have HBz:=zY (below_row w (.cells Lib.zeros24 323) dk k);clear hF;go_wp2;go_ret;exact⟨rfl,HBz.out⟩}
theorem fmtU_any (w:World) (u:Nat) (hu64:u<18446744073709551616) (hT:Tab w):Calls prog 245 #[.int .u64 (u:Int),.int .i64 10] w fun e w'=>e=.returned (.string (strB (digD u)))/\Below w.heap.size w w':=by
 have H:=zY (ifmtU_any w u hu64 hT);clear hT;go_enter func245,ntmps245;go_wp2_with fail;refine H.mono ?_;rintro e w' ⟨rfl,hb⟩;have HB:=zY hb;clear hb;go_wp2;go_ret;exact⟨rfl,HB.out⟩
def padL (n v:Nat):List Nat:=List.replicate (n-(digD v).length) 48++digD v
def digF (g:Nat):Value:=.func (.func 244) #[] #[.pointer (some ⟨g,0,none⟩)]
theorem pdigits_any (w:World) (n:Int):Calls prog 166 #[.int .i64 n] w fun e w'=>e=.returned (.tuple #[digF w.heap.size,.func (.func 246) #[] #[]])/\w.alloc (.cells #[.int .i64 n] 3)=w':=by
 go_enter func166,ntmps166;go_wp2;go_ret2;exact⟨rfl,rfl⟩
theorem pdig1_any (w:World) (g n v:Nat) (hg:w.cell? ⟨g,0,none⟩=some (.int .i64 (n:Int))) (hn:n<=100) (hv:v<18446744073709551616) (hT:Tab w):Calls prog 244 #[.int .u64 (v:Int),.pointer (some ⟨g,0,none⟩)] w fun e w'=>e=.returned (.string (strB (padL n v)))/\Below w.heap.size w w':=by
 have H1:=zY (fmtU_any w v hv hT);have Hg:=zY hg;obtain⟨z,hz⟩:=zNm (n-(digD v).length);have hl:=digD_len20 (u:=v) (by omega);have hsz:(strB (digD v)).size=(digD v).length:=strB_size _;have hmx:max (0:Int) ((n:Int)-(strB (digD v)).size)=z:=by rw[hsz];omega
 have hw1:IntKind.i64.wrap ((n:Int)-(strB (digD v)).size)=(n:Int)-(strB (digD v)).size:=IntWalk.i64_in _ (by rw[hsz];omega);have H2:Hid (∀W:World,Calls prog 55 #[.string ⟨#[48]⟩,.int .i64 (z:Int)] W fun e w'=>e=.returned (.string (strB (List.replicate z 48)))/\Below W.heap.size W w'):=zY (fun W=>repeat_any W 48 z (by omega));have Hc:Hid (strB (List.replicate z 48)++strB (digD v)=strB (padL n v)):=zY (by rw[padL,hz];exact strB_cat _ _);obtain⟨Z,hZ⟩:=zNm (strB (List.replicate z 48));have hZz:Z.size=z:=by rw[<-hZ,strB_size,List.length_replicate]
 rw[hZ]at H2 Hc;have hcc:¬9223372036854775807<Z.size+(strB (digD v)).size:=by omega
 generalize strB (digD v)=Q at *;clear hg hT hz hl hsz hZ hZz;go_enter func244,ntmps244;go_wp2_with fail;refine H1.mono ?_;rintro e w1 ⟨rfl,hb1⟩;have g1:=cell_below hb1 Hg.out;have HB1:=zY hb1;clear hb1;go_upto_region 2 with fail;go_wp2_with fail;refine(H2.out _).mono ?_;rintro e w2 ⟨rfl,hb2⟩;have HB2:=zYt HB1 hb2;clear hb2;go_wp2;go_ret;exact⟨by rw[Hc.out]<;>rfl,HB2.out⟩
theorem inter1_any (w:World) (a b:Int):Calls prog 310 #[.int .i64 a,.int .i64 b] w fun e w'=>e=.returned (.tuple #[.int .i64 a,.int .i64 b])/\w=w':=by
 go_enter func310,ntmps310;go_wp2;go_ret2;exact⟨rfl,rfl⟩
structure Hol where
 p:ByteArray
 u:Int
def holS:Shape Hol where
 n:=2
 R _ cs x:=cs=[.string x.p,.int .i64 x.u]
 len h:=by rw[h];rfl
 one h u hu:=by
  rw[h]at hu
  simp only[List.mem_cons,List.not_mem_nil,or_false]at hu
  rcases hu with rfl|rfl<;>rfl
 keep h _:=h
theorem held_any (w:World) (v:Value) (l:List Hol) (hv:SeqAt holS w v l) (hl:∀h∈l,h.p.size<=1000000) (s:ByteArray) (hs:s.size<=1000000) (date:Int):Calls prog 230 #[v,.string s,.int .i64 date] w fun e w'=>RetB e/\Below w.heap.size w w':=by
 have Hv:=zY hv;have HU:=zY (fun(W:World) (h:Hol) (hm:h∈l)=>under_any W s h.p hs (hl h hm));obtain⟨A,c,rfl,h1,h2⟩:=hv.slice;clear hv hl;go_enter func230,ntmps230;go_wp2;go_loopw [7] (fun x wr=>∃i:Nat,i<=l.length/\x=.int .i64 (i:Int)/\Below w.heap.size w wr) (fun x _=>l.length-(intOf x).toNat);case atStart=>exact⟨0,by omega,rfl,Below.refl _ _⟩
 case round=>
 obtain⟨i,hi,rfl,hB⟩:=hrel;have HB:=zY hB;clear hB;by_cases h:i<l.length;{
 have hiI:(i:Int)<l.length:=by omega
 obtain⟨x,hx⟩:∃x,l[i]?=some x:=⟨_,List.getElem?_eq_getElem h⟩;obtain⟨_,_,e9,_,_,h4⟩:=Hv.below HB.out;cases e9;obtain⟨b,o,cs,rfl,rfl,hc⟩:=h4 i x hx;have HUx:=zY (fun W=>HU.out W x (List.mem_of_getElem? hx));have c0:wr.cell? ⟨b,o+i*2,none⟩=some (.string x.p):=hc 0 _ rfl;have c1:wr.cell? ⟨b,o+i*2+1,none⟩=some (.int .i64 x.u):=hc 1 _ rfl;clear hc h4 hx;obtain⟨p,u⟩:=x;dsimp only at c0 c1 HUx;by_cases hd:date<=u;{
 go_wp2_with fail;refine(HUx.out _).mono ?_;rintro e2 w2 ⟨⟨r,rfl⟩,hb2⟩;have HB2:=zYt HB hb2;clear hb2;cases r with
 |true=>go_wp2;go_ret;exact⟨RetB.of true,HB2.out⟩
 |false=>
 go_wp2;go_roundw;case rel=>exact⟨i+1,by omega,by go_num,HB2.out⟩
 case measure=>simp[intOf];omega};{
 go_wp2_with fail;first|(refine⟨trivial,?_⟩;go_wp2)|skip
 go_roundw;case rel=>exact⟨i+1,by omega,by go_num,HB.out⟩
 case measure=>simp[intOf];omega}};{
 have hiI:¬(i:Int)<l.length:=by omega
 go_wp2;go_ret;exact⟨RetB.of false,HB.out⟩}
theorem date38_any (w:World) (s:ByteArray) (hs:s.size<=1000000):Calls prog 231 #[.string s] w fun e w'=>RetI e/\w=w':=by
 by_cases h1:s.size=0;{
 have i1:s.toList.isEmpty=true:=by rw[show s=⟨#[]⟩ by apply ByteArray.ext;exact Array.eq_empty_of_size_eq_zero h1];rw[ByteArray.toList_eq];rfl
 clear h1;go_enter func231,ntmps231;go_wp2;go_ret;exact⟨RetI.of (-1),rfl⟩};{
 have i1:s.toList.isEmpty=false:=isEmptyV h1;by_cases h2:10<s.size;{
 have i2:(10:Int)<s.size:=by omega
 go_enter func231,ntmps231;go_wp2;go_ret;exact⟨RetI.of (-1),rfl⟩};{
 have i2:¬(10:Int)<s.size:=by omega
 have h0:0<s.size:=by omega
 have i0:(0:Int)<s.size:=by omega
 by_cases h3:1<s.size;{
 have i3:(1:Int)<s.size:=by omega
 by_cases h4:(s[0]'h0).toNat=48;{
 have i4:(((s[0]'h0).toNat:Int)==48)=true:=by rw[h4];rfl
 clear h4;go_enter func231,ntmps231;go_wp2;go_ret;exact⟨RetI.of (-1),rfl⟩};{
 have i4:(((s[0]'h0).toNat:Int)==48)=false:=by rw[beq_eq_false_iff_ne];omega
 clear h4;go_enter func231,ntmps231;go_wp2;go_loop [3,4] (fun y x=>∃k n:Nat,k<=s.size/\x=.int .i64 (k:Int)/\y=.int .i64 (n:Int)/\n<10^k) (fun _ x=>s.size-(intOf x).toNat);case atStart=>exact⟨0,0,by omega,rfl,rfl,by decide⟩
 case round=>
 obtain⟨k,n,hk,rfl,rfl,hn⟩:=hrel;have hn2:10^k<=10^10:=Nat.pow_le_pow_right (by decide) (by omega);have hn3:n<10000000000:=by omega
 by_cases h:k<s.size;{
 have hkI:(k:Int)<s.size:=by omega
 by_cases a1:(s[k]'h).toNat<48;{
 have f0:((s[k]'h).toNat:Int)<48:=by omega
 clear a1 hn hn2;go_wp2;go_ret;exact⟨RetI.of (-1),rfl⟩};{
 by_cases a2:57<(s[k]'h).toNat;{
 have f0:¬((s[k]'h).toNat:Int)<48:=by omega
 have f1:(57:Int)<((s[k]'h).toNat:Int):=by omega
 clear a1 a2 hn hn2;go_wp2;go_ret;exact⟨RetI.of (-1),rfl⟩};{
 have f0:¬((s[k]'h).toNat:Int)<48:=by omega
 have f1:¬(57:Int)<((s[k]'h).toNat:Int):=by omega
 obtain⟨c,hc⟩:∃c,(s[k]'h).toNat=c+48:=⟨(s[k]'h).toNat-48,by omega⟩;have hc9:c<=9:=by omega
 have hcI:((s[k]'h).toNat:Int)-48=(c:Int):=by omega
 have hcM:(((s[k]'h).toNat:Int)-48)%256=(c:Int):=by omega
 have hnn:n*10+c<10^(k+1):=by rw[Nat.pow_succ];omega
 have HN:=zY hnn;clear a1 a2 hn hn2 hnn hc;go_wp2;go_round;case rel=>exact⟨k+1,n*10+c,by omega,by go_num,by go_num,HN.out⟩
 case measure=>simp[intOf];omega}}};{
 have hkI:¬(k:Int)<s.size:=by omega
 clear hn hn2;by_cases hle:1000000000<n;{
 have i9:(1000000000:Int)<n:=by omega
 go_wp2;go_ret;exact⟨RetI.of (-1),rfl⟩};{
 have i9:¬(1000000000:Int)<n:=by omega
 go_wp2;go_ret;exact⟨RetI.of n,rfl⟩}}}};{
 have i3:¬(1:Int)<s.size:=by omega
 go_enter func231,ntmps231;go_wp2;go_loop [3,4] (fun y x=>∃k n:Nat,k<=s.size/\x=.int .i64 (k:Int)/\y=.int .i64 (n:Int)/\n<10^k) (fun _ x=>s.size-(intOf x).toNat);case atStart=>exact⟨0,0,by omega,rfl,rfl,by decide⟩
 case round=>
 obtain⟨k,n,hk,rfl,rfl,hn⟩:=hrel;have hn2:10^k<=10^10:=Nat.pow_le_pow_right (by decide) (by omega);have hn3:n<10000000000:=by omega
 by_cases h:k<s.size;{
 have hkI:(k:Int)<s.size:=by omega
 by_cases a1:(s[k]'h).toNat<48;{
 have f0:((s[k]'h).toNat:Int)<48:=by omega
 clear a1 hn hn2;go_wp2;go_ret;exact⟨RetI.of (-1),rfl⟩};{
 by_cases a2:57<(s[k]'h).toNat;{
 have f0:¬((s[k]'h).toNat:Int)<48:=by omega
 have f1:(57:Int)<((s[k]'h).toNat:Int):=by omega
 clear a1 a2 hn hn2;go_wp2;go_ret;exact⟨RetI.of (-1),rfl⟩};{
 have f0:¬((s[k]'h).toNat:Int)<48:=by omega
 have f1:¬(57:Int)<((s[k]'h).toNat:Int):=by omega
 obtain⟨c,hc⟩:∃c,(s[k]'h).toNat=c+48:=⟨(s[k]'h).toNat-48,by omega⟩;have hc9:c<=9:=by omega
 have hcI:((s[k]'h).toNat:Int)-48=(c:Int):=by omega
 have hcM:(((s[k]'h).toNat:Int)-48)%256=(c:Int):=by omega
 have hnn:n*10+c<10^(k+1):=by rw[Nat.pow_succ];omega
 have HN:=zY hnn;clear a1 a2 hn hn2 hnn hc;go_wp2;go_round;case rel=>exact⟨k+1,n*10+c,by omega,by go_num,by go_num,HN.out⟩
 case measure=>simp[intOf];omega}}};{
 have hkI:¬(k:Int)<s.size:=by omega
 clear hn hn2;by_cases hle:1000000000<n;{
 have i9:(1000000000:Int)<n:=by omega
 go_wp2;go_ret;exact⟨RetI.of (-1),rfl⟩};{
 have i9:¬(1000000000:Int)<n:=by omega
 go_wp2;go_ret;exact⟨RetI.of n,rfl⟩}}}}}
theorem Tryz.infoHolV:(prog.info? 289).map (fun i=>(i.zero,i.size,i.bytes))=some (some (.agg #[.string ⟨#[]⟩,.int .i64 0]),2,24):=by kernel_rfl
def RetHols (w0 W:World) (p:List Hol->Prop) (e:Ending):Prop:=∃v l,e=.returned v/\OwnSeq holS 289 w0 W v l/\p l
theorem active_any (w:World) (v:Value) (l:List Hol) (hv:SeqAt holS w v l) (hl:l.length<=100000) (date:Int):Calls prog 150 #[v,.int .i64 date] w fun e w'=>RetHols w w' (fun m=>m.length<=l.length/\∀h∈m,h∈l) e/\Below w.heap.size w w':=by
 have Hv:=zY hv;obtain⟨iS,hi,hq0,hq1,hq2⟩:=infoV_parts Tryz.infoHolV;have HiS:Hid (prog.info? 289=some iS/\iS.zero=some (.agg #[.string ⟨#[]⟩,.int .i64 0])/\iS.size=2/\iS.bytes=24):=zY ⟨hi,hq0,hq1,hq2⟩;clear hi hq0 hq1 hq2;obtain⟨A,c,rfl,h1,h2⟩:=hv.slice;clear hv;go_enter func150,ntmps150;go_wp2;go_loopw [5,6] (fun y x wr=>∃(i:Nat) (m:List Hol),i<=l.length/\x=.int .i64 (i:Int)/\m.length<=i/\(∀h∈m,h∈l)/\OwnSeq holS 289 w wr y m/\Below w.heap.size w wr) (fun _ x _=>l.length-(intOf x).toNat);case atStart=>exact⟨0,[],by omega,rfl,by simp,(fun h hh=>nomatch hh),⟨[],ownV_new _ _ _,.nil⟩,(Below.refl _ _).alloc (Nat.le_refl _) _⟩
 case round=>
 obtain⟨i,m,hi,rfl,hm,hall,ho,hB⟩:=hrel;have HB:=zY hB;have Hall:=zY hall;obtain⟨css,ho,hbt⟩:=ho;have Ho:=zY ho;have Hbt:=zY hbt;clear hB hall ho hbt;obtain⟨Av,cv,rfl⟩:=ownV_slice Ho.out;by_cases h:i<l.length;{
 have hiI:(i:Int)<l.length:=by omega
 obtain⟨x,hx⟩:∃x,l[i]?=some x:=⟨_,List.getElem?_eq_getElem h⟩;have Hxm:=zY (List.mem_of_getElem? hx);obtain⟨_,_,e9,_,_,h4⟩:=Hv.below HB.out;cases e9;obtain⟨b,o,cs,rfl,rfl,hc⟩:=h4 i x hx;have c0:wr.cell? ⟨b,o+i*2,none⟩=some (.string x.p):=hc 0 _ rfl;have c1:wr.cell? ⟨b,o+i*2+1,none⟩=some (.int .i64 x.u):=hc 1 _ rfl;clear hc h4 hx;obtain⟨p,u⟩:=x;dsimp only at c0 c1;by_cases hd:date<=u;{
 have Hnews:Hid (∀(q:Nat) (x:Value),([.string p,.int .i64 u]:List Value)[q]?=some x->(wr.alloc (.cells #[.string p,.int .i64 u] 289)).cell? ((⟨wr.heap.size,0,none⟩:Addr).add q)=some x):=zY (fun q x hq=>by
  rw[Addr.add_lit,Nat.zero_add]
  exact(Blk.new wr 289 [.string p,.int .i64 u]).cell hq);have Hone:Hid (∀x∈([.string p,.int .i64 u]:List Value),x.oneCell'=true):=zY (by simp[Value.oneCell']);have HU:=zY (Ho.alloc (.cells #[.string p,.int .i64 u] 289));have HB6:=zY (HB.alloc HB.size (.cells #[.string p,.int .i64 u] 289));go_wp2_with (at_builtin;refine append_atV _ rfl _ _ 161 rfl w.heap.size 289 iS (.agg #[.string ⟨#[]⟩,.int .i64 0]) 2 24 underlying161 HiS.1 HiS.2.1 HiS.2.2.1 HiS.2.2.2 rfl (by omega) (.slice Av m.length cv) m.length _ rfl HU.out ⟨wr.heap.size,0,none⟩ 1 1 _ rfl rfl Hnews.out Hone.out (by unfold maxLen;omega) (by omega) HB6.size ?_;intro va wa hob hgb _;have KU:=zY hob;have KB:=zY (HB6.grown hgb HB6.size (ownV_ge HU.out));clear hob hgb);go_roundw;case rel=>exact⟨i+1,m++[⟨p,u⟩],by omega,by go_num,by simp;omega,(fun x hx=>by
  rcases List.mem_append.1 hx with hx|hx
  ·exact Hall.out x hx
  ·rw[List.mem_singleton.1 hx];exact Hxm.out),⟨css++[[.string p,.int .i64 u]],by rw[List.flatten_append,List.length_append];exact KU.out,Hbt.app (.cons (show holS.R w [.string p,.int .i64 u] ⟨p,u⟩ from rfl) .nil)⟩,KB.out⟩
 case measure=>simp[intOf];omega};{
 go_wp2;go_roundw;case rel=>exact⟨i+1,m,by omega,by go_num,by omega,Hall.out,⟨css,Ho.out,Hbt.out⟩,HB.out⟩
 case measure=>simp[intOf];omega}};{
 have hiI:¬(i:Int)<l.length:=by omega
 go_wp2;go_ret;exact⟨⟨_,m,rfl,⟨css,Ho.out,Hbt.out⟩,by omega,Hall.out⟩,HB.out⟩}
def RetHolsI (w0 W:World) (p:List Hol->Prop) (e:Ending):Prop:=∃v l n,e=.returned (.tuple #[v,.int .i64 n])/\OwnSeq holS 289 w0 W v l/\p l
theorem without_any (w:World) (v:Value) (l:List Hol) (hv:SeqAt holS w v l) (hl:l.length<=100000) (s:ByteArray):Calls prog 232 #[v,.string s] w fun e w'=>RetHolsI w w' (fun m=>m.length<=l.length/\∀h∈m,h∈l) e/\Below w.heap.size w w':=by
 have Hv:=zY hv;obtain⟨iS,hi,hq0,hq1,hq2⟩:=infoV_parts Tryz.infoHolV;have HiS:Hid (prog.info? 289=some iS/\iS.zero=some (.agg #[.string ⟨#[]⟩,.int .i64 0])/\iS.size=2/\iS.bytes=24):=zY ⟨hi,hq0,hq1,hq2⟩;clear hi hq0 hq1 hq2;obtain⟨A,c,rfl,h1,h2⟩:=hv.slice;clear hv;go_enter func232,ntmps232;go_wp2;go_loopw [6,7,8] (fun y z x wr=>∃(i:Nat) (m:List Hol) (q:Int),z=.int .i64 q/\i<=l.length/\x=.int .i64 (i:Int)/\m.length<=i/\(∀h∈m,h∈l)/\OwnSeq holS 289 w wr y m/\Below w.heap.size w wr) (fun _ _ x _=>l.length-(intOf x).toNat);case atStart=>exact⟨0,[],-1,rfl,by omega,rfl,by simp,(fun h hh=>nomatch hh),⟨[],ownV_new _ _ _,.nil⟩,(Below.refl _ _).alloc (Nat.le_refl _) _⟩
 case round=>
 obtain⟨i,m,q0,rfl,hi,rfl,hm,hall,ho,hB⟩:=hrel;have HB:=zY hB;have Hall:=zY hall;obtain⟨css,ho,hbt⟩:=ho;have Ho:=zY ho;have Hbt:=zY hbt;clear hB hall ho hbt;obtain⟨Av,cv,rfl⟩:=ownV_slice Ho.out;by_cases h:i<l.length;{
 have hiI:(i:Int)<l.length:=by omega
 obtain⟨x,hx⟩:∃x,l[i]?=some x:=⟨_,List.getElem?_eq_getElem h⟩;have Hxm:=zY (List.mem_of_getElem? hx);obtain⟨_,_,e9,_,_,h4⟩:=Hv.below HB.out;cases e9;obtain⟨b,o,cs,rfl,rfl,hc⟩:=h4 i x hx;have c0:wr.cell? ⟨b,o+i*2,none⟩=some (.string x.p):=hc 0 _ rfl;have c1:wr.cell? ⟨b,o+i*2+1,none⟩=some (.int .i64 x.u):=hc 1 _ rfl;clear hc h4 hx;obtain⟨p,u⟩:=x;dsimp only at c0 c1;by_cases hps:¬p=s;{
 have b3:¬p.toList=s.toList:=fun e=>hps (by rw[ByteArray.toList_eq,ByteArray.toList_eq]at e;exact ByteArray.ext (Array.toList_inj.1 e));have b4:(p.toList==s.toList)=false:=by rw[beq_eq_false_iff_ne];exact b3
 clear hps;have Hnews:Hid (∀(q:Nat) (x:Value),([.string p,.int .i64 u]:List Value)[q]?=some x->(wr.alloc (.cells #[.string p,.int .i64 u] 289)).cell? ((⟨wr.heap.size,0,none⟩:Addr).add q)=some x):=zY (fun q x hq=>by
  rw[Addr.add_lit,Nat.zero_add]
  exact(Blk.new wr 289 [.string p,.int .i64 u]).cell hq);have Hone:Hid (∀x∈([.string p,.int .i64 u]:List Value),x.oneCell'=true):=zY (by simp[Value.oneCell']);have HU:=zY (Ho.alloc (.cells #[.string p,.int .i64 u] 289));have HB6:=zY (HB.alloc HB.size (.cells #[.string p,.int .i64 u] 289));go_wp2_with (at_builtin;refine append_atV _ rfl _ _ 161 rfl w.heap.size 289 iS (.agg #[.string ⟨#[]⟩,.int .i64 0]) 2 24 underlying161 HiS.1 HiS.2.1 HiS.2.2.1 HiS.2.2.2 rfl (by omega) (.slice Av m.length cv) m.length _ rfl HU.out ⟨wr.heap.size,0,none⟩ 1 1 _ rfl rfl Hnews.out Hone.out (by unfold maxLen;omega) (by omega) HB6.size ?_;intro va wa hob hgb _;have KU:=zY hob;have KB:=zY (HB6.grown hgb HB6.size (ownV_ge HU.out));clear hob hgb);go_roundw;case rel=>exact⟨i+1,m++[⟨p,u⟩],q0,rfl,by omega,by go_num,by simp;omega,(fun x hx=>by
  rcases List.mem_append.1 hx with hx|hx
  ·exact Hall.out x hx
  ·rw[List.mem_singleton.1 hx];exact Hxm.out),⟨css++[[.string p,.int .i64 u]],by rw[List.flatten_append,List.length_append];exact KU.out,Hbt.app (.cons (show holS.R w [.string p,.int .i64 u] ⟨p,u⟩ from rfl) .nil)⟩,KB.out⟩
 case measure=>simp[intOf];omega};{
 obtain rfl:p=s:=by simpa using hps
 clear hps;go_wp2;go_roundw;case rel=>exact⟨i+1,m,u,rfl,by omega,by go_num,by omega,Hall.out,⟨css,Ho.out,Hbt.out⟩,HB.out⟩
 case measure=>simp[intOf];omega}};{
 have hiI:¬(i:Int)<l.length:=by omega
 go_wp2;go_ret2;exact⟨⟨_,m,q0,rfl,⟨css,Ho.out,Hbt.out⟩,by omega,Hall.out⟩,HB.out⟩}
structure Elem (P:Program) (t e:TypeId) (n bytes:Nat) (z:Value):Prop where
 ht:P.underlying t=some (.slice e)
 hi:(P.info? e).map (fun i=>(i.zero,i.size,i.bytes))=some (some z,n,bytes)
 hz:z.cells.size=n
 hn:0<n
 hb:bytes<=1000
def SrcAt {α:Type} (ρ:Shape α) (w0 w:World) (v:Value) (us:List α):Prop:=
 ∃(A:Option Addr) (c:Nat),v=.slice A us.length c/\∀i x,us[i]?=some x->∃b o cs,A=some ⟨b,o,none⟩/\ρ.R w0 cs x/\∀j u,cs[j]?=some u->w.cell? ⟨b,o+i*ρ.n+j,none⟩=some u
section
variable {α:Type} {ρ:Shape α} {w0 w W:World} {v:Value} {xs us:List α}
theorem SrcAt.of (h:SeqAt ρ w0 v us) (hb:Below w0.heap.size w0 w):SrcAt ρ w0 w v us:=by
 obtain⟨A,c,e,h1,h2,h3⟩:=h;refine⟨A,c,e,fun i x hx=>?_⟩;obtain⟨b,o,cs,e1,hr,h4⟩:=h3 i x hx;exact⟨b,o,cs,e1,hr,fun j u hu=>cell_below hb (h4 j u hu)⟩
theorem SrcAt.lit {g:Nat} {t:TypeId} {cs:List Value} {x:α} (hr:ρ.R w0 cs x) (hB:Blk w g t cs):SrcAt ρ w0 w (.slice (some ⟨g,0,none⟩) 1 1) [x]:=by
 refine⟨_,_,rfl,fun i y hy=>?_⟩;cases i with
 |zero=>(
 obtain rfl:x=y:=by simpa using hy
 refine⟨g,0,cs,rfl,hr,fun j u hu=>?_⟩;rw[Nat.zero_mul,Nat.zero_add];exact hB.cell hu)
 |succ i=>simp at hy
theorem SrcAt.cells (h:SrcAt ρ w0 w v us) (h0:us≠[]):∃(ad:Addr) (c:Nat) (css:List (List Value)),v=.slice (some ad) us.length c/\Both (ρ.R w0) css us/\∀j u,css.flatten[j]?=some u->w.cell? (ad.add j)=some u:=by
 obtain⟨A,c,rfl,h⟩:=h;have key:∀(l:List α) (b o:Nat),(∀i x,l[i]?=some x->∃cs,ρ.R w0 cs x/\∀j u,cs[j]?=some u->w.cell? ⟨b,o+i*ρ.n+j,none⟩=some u)->∃css,Both (ρ.R w0) css l/\∀j u,css.flatten[j]?=some u->w.cell? ⟨b,o+j,none⟩=some u:=by{
 intro l;induction l with
 |nil=>exact fun b o _=>⟨[],.nil,fun j u hu=>by simp at hu⟩
 |cons x r ih=>
 intro b o hl;obtain⟨cs,hr,hc⟩:=hl 0 x rfl;obtain⟨css,hb,hcs⟩:=ih b (o+ρ.n) (fun i y hy=>by
  obtain⟨cs',hr',hc'⟩:=hl (i+1) y (by simpa using hy)
  refine⟨cs',hr',fun j u hu=>?_⟩
  rw[<-hc' j u hu]
  congr 2
  rw[Nat.add_mul]
  omega);refine⟨cs::css,.cons hr hb,fun j u hu=>?_⟩;rw[List.flatten_cons]at hu;have hn:=ρ.len hr;by_cases hj:j<cs.length;{
 rw[List.getElem?_append_left hj]at hu;have:=hc j u hu;rwa [Nat.zero_mul,Nat.add_zero]at this};{
 rw[List.getElem?_append_right (by omega)]at hu;rw[<-hcs _ u hu];congr 2;omega}};cases us with
 |nil=>exact absurd rfl h0
 |cons x r=>
 obtain⟨b,o,_,e,_⟩:=h 0 x rfl;cases e;obtain⟨css,h1,h2⟩:=key (x::r) b o (fun i y hy=>by
  obtain⟨b',o',cs,e,hr,hc⟩:=h i y hy
  cases e
  exact⟨cs,hr,hc⟩);exact⟨_,c,css,rfl,h1,fun j u hu=>by rw[Addr.add_lit];exact h2 j u hu⟩
theorem OwnSeq.alloc {t:TypeId} (h:OwnSeq ρ t w0 W v xs) (o:Obj):OwnSeq ρ t w0 (W.alloc o) v xs:=h.below ((Below.refl _ _).alloc (Nat.le_refl _) _)
theorem OwnSeq.drew {t:TypeId} (h:OwnSeq ρ t w0 W v xs):OwnSeq ρ t w0 W.drew v xs:=h.below (Below.refl _ _).drew
theorem OwnSeq.new {t:TypeId} (W:World):OwnSeq ρ t W (W.alloc (.cells #[] t)) (.slice (some ⟨W.heap.size,0,none⟩) 0 0) []:=⟨[],ownV_new _ _ _,.nil⟩
theorem OwnSeq.slice {t:TypeId} (h:OwnSeq ρ t w0 W v xs):∃A c,v=.slice A xs.length c:=by
 obtain⟨_,h,_⟩:=h;exact ownV_slice h
theorem OwnSeq.one {t:TypeId} (h:OwnSeq ρ t w0 W v xs):v.oneCell'=true:=by
 obtain⟨A,c,rfl⟩:=h.slice;rfl
theorem OwnSeq.ge {t:TypeId} (h:OwnSeq ρ t w0 W v xs):∀k,v.ownBlock=some k->w0.heap.size<=k:=by
 obtain⟨_,h,_⟩:=h;exact ownV_ge h
theorem run_append_nilS {P:Program} {TS T:TypeId} {n:Nat} {b:Nat} {z:Value} (E:Elem P TS T n b z) (B:Nat) (ty:TypeId) (v:Value) (k c:Nat) (us:List Value) (hown:w.ownsRow B T n v k us):(Builtin.append_ #[TS,TS] ty #[v,.slice none 0 c]).run P w=.ok v w:=by
 obtain⟨i0,hi,hz0,hz1,hz2⟩:=info_parts E.hi;rcases hown.2 with⟨rfl,rfl⟩|⟨g,cap,cur,rfl,_,_,hnc,_⟩;{simp[Builtin.append_,run_underlying E.ht,sizeOf,typeInfo,hi,Builtin.lenOf,Builtin.firstCells]};{
 simp[Builtin.append_,run_underlying E.ht,sizeOf,typeInfo,hi,Builtin.lenOf,Builtin.firstCells,hnc,storeCells]}
theorem run_appendS {P:Program} {TS T:TypeId} {b:Nat} {z:Value} (E:Elem P TS T ρ.n b z) (ty:TypeId) (hown:OwnSeq ρ T w0 w v xs) {vx:Value} (hv:SrcAt ρ w0 w vx us) (hn:xs.length+us.length<=100000000) (hB:Below w0.heap.size w0 w):
  ∃v' w',(Builtin.append_ #[TS,TS] ty #[v,vx]).run P w=.ok v' w'/\OwnSeq ρ T w0 w' v' (xs++us)/\w.grownBy w' v.ownBlock/\(v'.ownBlock=v.ownBlock∨v'.ownBlock=some w.heap.size)/\Below w0.heap.size w0 w':=by
 have hge:=hown.ge;obtain⟨css,ho,hb⟩:=hown;by_cases h0:us=[];{
 subst h0;obtain⟨A,c,rfl,h⟩:=hv;cases A with
 |none=>refine⟨v,w,run_append_nilS E w0.heap.size ty v _ c _ ho,?_,World.grownBy.refl w _,.inl rfl,hB⟩;rw[List.append_nil];exact⟨css,ho,hb⟩
 |some ad=>
 obtain⟨i0,hi,hz0,hz1,hz2⟩:=info_parts E.hi;obtain⟨v',w',hr,k1,k2,_,k3⟩:=run_append_own_at (P:=P) w w0.heap.size TS ty T i0 z ρ.n b E.ht hi hz0 hz1 hz2 E.hz E.hn v _ _ ho ad 0 c [] (by simp) (fun j u hu=>by simp at hu) (fun u hu=>nomatch hu) (by unfold maxLen;simp at hn;omega)
  (Nat.le_trans (Nat.mul_le_mul (show xs.length+0<=100000000 by simp at hn;omega) E.hb) (by omega)) hB.size;exact⟨v',w',hr,⟨css,by simpa using k1,by simpa using hb⟩,k2,k3,hB.grown k2 hB.size hge⟩};{
 obtain⟨ad,c,cu,rfl,hbu,hc⟩:=hv.cells h0;obtain⟨i0,hi,hz0,hz1,hz2⟩:=info_parts E.hi;obtain⟨v',w',hr,k1,k2,_,k3⟩:=run_append_own_at (P:=P) w w0.heap.size TS ty T i0 z ρ.n b E.ht hi hz0 hz1 hz2 E.hz E.hn v _ _ ho ad us.length c cu.flatten (by rw[flat_len hbu.lens,hbu.len]) hc hbu.ones (by unfold maxLen;omega)
  (Nat.le_trans (Nat.mul_le_mul hn E.hb) (by omega)) hB.size;exact⟨v',w',hr,⟨css++cu,by rw[List.flatten_append,List.length_append];exact k1,hb.app hbu⟩,k2,k3,hB.grown k2 hB.size hge⟩}
theorem append_seq {P:Program} {ops:Array Oper} {rest:List Oper} {o:Oper} {a:Act} {Q:Exit->Act->World->Prop} {TS T:TypeId} {b:Nat} {z:Value} (E:Elem P TS T ρ.n b z) (hgd:o.guard=none) (s x:Operand) (ho:o.op=.call { callee:=.builtin .append,args:= #[s,x],argTypes:= #[TS,TS] })
  (hs:a.eval s=v) (hown:OwnSeq ρ T w0 w v xs) {vx:Value} (hx:a.eval x=vx) (hv:SrcAt ρ w0 w vx us) (hn:xs.length+us.length<=100000000) (hB:Below w0.heap.size w0 w)
  (h:∀v' w',OwnSeq ρ T w0 w' v' (xs++us)->w.grownBy w' v.ownBlock->Below w0.heap.size w0 w'->wpList P ops Q rest (a.put o.dst v') w'):wpList P ops Q (o::rest) a w:=by
 obtain⟨v',w',hr,g1,g2,_,g3⟩:=run_appendS E o.type hown hv hn hB;refine wpList_plain hgd fun K hK=>?_;unfold Oper.wp execOp;simp only[ho,resolve,invoke,builtin,Sem.run_bind,Sem.run_pure,Result.andThen_ok,List.map_toArray,List.map_cons,List.map_nil,hs,hx,hr];exact hK _ _ (h v' w' g1 g2 g3)
theorem wp_append_seq {P:Program} {o:Oper} {a:Act} {K:Act->World->Prop} {Q:Exit->Act->World->Prop} {TS T:TypeId} {b:Nat} {z:Value} (E:Elem P TS T ρ.n b z) (s x:Operand) (ho:o.op=.call { callee:=.builtin .append,args:= #[s,x],argTypes:= #[TS,TS] })
  (hs:a.eval s=v) (hown:OwnSeq ρ T w0 w v xs) {vx:Value} (hx:a.eval x=vx) (hv:SrcAt ρ w0 w vx us) (hn:xs.length+us.length<=100000000) (hB:Below w0.heap.size w0 w)
  (h:∀v' w',OwnSeq ρ T w0 w' v' (xs++us)->w.grownBy w' v.ownBlock->Below w0.heap.size w0 w'->K (a.put o.dst v') w'):o.wp P a w K Q:=by
 obtain⟨v',w',hr,g1,g2,_,g3⟩:=run_appendS E o.type hown hv hn hB;unfold Oper.wp execOp;simp only[ho,resolve,invoke,builtin,Sem.run_bind,Sem.run_pure,Result.andThen_ok,List.map_toArray,List.map_cons,List.map_nil,hs,hx,hr];exact h v' w' g1 g2 g3
end
end
section
open Go.RowKit
structure Seg where
 n:Int
 d:ByteArray
def segS:Shape Seg where
 n:=2
 R _ cs x:=cs=[.int .i64 x.n,.string x.d]
 len h:=by rw[h];rfl
 one h u hu:=by
  rw[h]at hu
  simp only[List.mem_cons,List.not_mem_nil,or_false]at hu
  rcases hu with rfl|rfl<;>rfl
 keep h _:=h
structure Cnk where
 d:ByteArray
 x:Ext
def chkS:Shape Cnk where
 n:=4
 R _ cs x:=cs=[.string x.d,.int .i64 x.x.s,.int .i64 x.x.o,.int .i64 x.x.l]
 len h:=by rw[h];rfl
 one h u hu:=by
  rw[h]at hu
  simp only[List.mem_cons,List.not_mem_nil,or_false]at hu
  rcases hu with rfl|rfl|rfl|rfl<;>rfl
 keep h _:=h
structure Cha where
 k:Int
 path:ByteArray
 attrs:List Atr
 tgt:ByteArray
 cont:ByteArray
def chaS:Shape Cha where
 n:=5
 R w cs x:=∃va,cs=[.int .i64 x.k,.string x.path,va,.string x.tgt,.string x.cont]/\SeqAt atrS w va x.attrs
 len h:=by
  obtain⟨_,rfl,_⟩:=h
  rfl
 one h u hu:=by
  obtain⟨_,rfl,h1⟩:=h
  simp only[List.mem_cons,List.not_mem_nil,or_false]at hu
  rcases hu with rfl|rfl|rfl|rfl|rfl
  any_goals rfl
  exact h1.one
 keep h hb:=by
  obtain⟨va,e,h1⟩:=h
  exact⟨va,e,h1.below hb⟩
structure Bat where
 date:Int
 l:List Cha
def batS:Shape Bat where
 n:=2
 R w cs x:=∃va,cs=[.int .i64 x.date,va]/\SeqAt chaS w va x.l
 len h:=by
  obtain⟨_,rfl,_⟩:=h
  rfl
 one h u hu:=by
  obtain⟨_,rfl,h1⟩:=h
  simp only[List.mem_cons,List.not_mem_nil,or_false]at hu
  rcases hu with rfl|rfl
  ·rfl
  ·exact h1.one
 keep h hb:=by
  obtain⟨va,e,h1⟩:=h
  exact⟨va,e,h1.below hb⟩
structure Ses where
 num:Int
 date:Int
 prev:ByteArray
 ents:List Ent
 str:ByteArray
 sig:ByteArray
def sesS:Shape Ses where
 n:=6
 R w cs x:=∃ve,cs=[.int .i64 x.num,.int .i64 x.date,.string x.prev,ve,.string x.str,.string x.sig]/\SeqAt entS w ve x.ents
 len h:=by
  obtain⟨_,rfl,_⟩:=h
  rfl
 one h u hu:=by
  obtain⟨_,rfl,h1⟩:=h
  simp only[List.mem_cons,List.not_mem_nil,or_false]at hu
  rcases hu with rfl|rfl|rfl|rfl|rfl|rfl
  any_goals rfl
  exact h1.one
 keep h hb:=by
  obtain⟨va,e,h1⟩:=h
  exact⟨va,e,h1.below hb⟩
theorem Tryz.elemSeg:Elem prog 290 293 2 24 (.agg #[.int .i64 0,.string ⟨#[]⟩]):=⟨underlying290,by kernel_rfl,rfl,by decide,by decide⟩
theorem Tryz.elemChk:Elem prog 158 298 4 40 (.agg #[.string ⟨#[]⟩,.int .i64 0,.int .i64 0,.int .i64 0]):=⟨underlying158,by kernel_rfl,rfl,by decide,by decide⟩
theorem Tryz.elemExt:Elem prog 180 252 3 24 (.agg #[.int .i64 0,.int .i64 0,.int .i64 0]):=⟨underlying180,by kernel_rfl,rfl,by decide,by decide⟩
theorem Tryz.elemHol:Elem prog 161 289 2 24 (.agg #[.string ⟨#[]⟩,.int .i64 0]):=⟨underlying161,by kernel_rfl,rfl,by decide,by decide⟩
theorem Tryz.elemStr:Elem prog 51 9 1 16 (.string ⟨#[]⟩):=⟨underlying51,by kernel_rfl,rfl,by decide,by decide⟩
theorem Tryz.elemEnt:Elem prog 43 182 7 112 (.agg #[.int .i64 0,.string ⟨#[]⟩,.slice none 0 0,.string ⟨#[]⟩,.int .i64 0,.string ⟨#[]⟩,.slice none 0 0]):=⟨underlying43,by kernel_rfl,rfl,by decide,by decide⟩
theorem src1 {α:Type} {ρ:Shape α} {w0 wr:World} {t:TypeId} (cs:List Value) (x:α) {o:Obj} (h:ρ.R w0 cs x) (ho:o=.cells cs.toArray t):SrcAt ρ w0 (wr.alloc o) (.slice (some ⟨wr.heap.size,0,none⟩) 1 1) [x]:=by
 subst ho;exact SrcAt.lit h (Blk.new _ _ _)
def segSum:List Seg->Nat
 |[]=>0
 |x::r=>x.n.toNat+x.d.size+segSum r
theorem segSum_app (l m:List Seg):segSum (l++m)=segSum l+segSum m:=by
 induction l with
 |nil=>simp[segSum]
 |cons x r ih=>rw[List.cons_append,segSum,segSum,ih];omega
def SegOk (n m:Nat) (l:List Seg):Prop:=l.length<=m/\segSum l<=n/\∀x∈l,0<=x.n
theorem SegOk.snoc {n m k:Nat} {l:List Seg} {x:Seg} (h:SegOk n m l) (h0:0<=x.n) (hk:n+x.n.toNat+x.d.size<=k):SegOk k (m+1) (l++[x]):=
 ⟨by rw[List.length_append];have:=h.1;simp;omega,by rw[segSum_app];have:=h.2.1;simp only[segSum];omega,fun y hy=>by
  rcases List.mem_append.1 hy with hy|hy
  ·exact h.2.2 y hy
  ·rw[List.mem_singleton.1 hy];exact h0⟩
theorem SegOk.mono {n m n' m':Nat} {l:List Seg} (h:SegOk n m l) (hn:n<=n') (hm:m<=m'):SegOk n' m' l:=⟨by have:=h.1;omega,by have:=h.2.1;omega,h.2.2⟩
theorem SegOk.mem {n m:Nat} {l:List Seg} (h:SegOk n m l) {x:Seg} (hx:x∈l):0<=x.n/\x.n.toNat+x.d.size<=n:=by
 refine⟨h.2.2 x hx,?_⟩;have h2:=h.2.1;clear h;induction l with
 |nil=>cases hx
 |cons y r ih=>
 rw[segSum]at h2;rcases List.mem_cons.1 hx with rfl|hx;{omega};{
 have:=ih hx (by omega);omega}
def RetSegs (w0 W:World) (n:Nat) (e:Ending):Prop:=∃v l,e=.returned v/\OwnSeq segS 293 w0 W v l/\SegOk n (2*n+1) l
theorem split34_any (w:World) (s:ByteArray) (hs:s.size<=100000):Calls prog 218 #[.string s] w fun e w'=>RetSegs w w' s.size e/\Below w.heap.size w w':=by
 have HZ:=zY (fun(W:World) (i:Nat) (hi:i<=s.size)=>zeros_any W s i hi (by omega));go_enter func218,ntmps218;go_wp2;go_loopw [3,4,5,6] (fun y f x _ wr=>∃(fr i:Nat) (l:List Seg),fr<=i/\i<=s.size/\x=.int .i64 (i:Int)/\f=.int .i64 (fr:Int)/\SegOk fr (2*i) l/\OwnSeq segS 293 w wr y l/\Below w.heap.size w wr) (fun _ _ x _ _=>s.size-(intOf x).toNat);case atStart=>exact⟨0,0,[],by omega,by omega,rfl,rfl,⟨by simp,by simp[segSum],(fun x hx=>nomatch hx)⟩,OwnSeq.new _,(Below.refl _ _).alloc (Nat.le_refl _) _⟩
 case round=>
 obtain⟨fr,i,l,hfi,his,rfl,rfl,hok,ho,hB⟩:=hrel;have Hok:=zY hok;have Ho:=zY ho;have HB:=zY hB;have hll:l.length<=2*i:=hok.1;clear hok ho hB;by_cases h:i<s.size;{
 have hI:(i:Int)<s.size:=by omega
 have HF:=zY (HZ.out wr i his);go_wp2_with fail;refine HF.mono ?_;rintro e1 w1 ⟨⟨n,rfl,hn1⟩,rfl⟩;obtain⟨j,hj⟩:=zNm (i+n);have hjI:(i:Int)+n=j:=by omega
 have Hl1:Hid (l.length+1<=100000000):=zY (by omega);by_cases h32:32<=n;{
 have g1:(32:Int)<=n:=by omega
 have g2:((n:Int)==0)=false:=by rw[beq_eq_false_iff_ne];omega
 by_cases hif:fr<i;{
 have g3:(fr:Int)<i:=by omega
 obtain⟨S,hS⟩:=zNm (s.extract fr i);have HSz:Hid (S.size=i-fr):=zY (by rw[<-hS,ByteArray.size_extract];omega);have Hl2:Hid ((l++[(⟨0,S⟩:Seg)]).length+1<=100000000):=zY (by simp;omega);have HL:Hid (SegOk j (2*i+1+1) (l++[(⟨0,S⟩:Seg)]++[(⟨(n:Int),⟨#[]⟩⟩:Seg)])):=zY (SegOk.snoc (SegOk.snoc Hok.out (Int.le_refl 0) (k:=i) (by show fr+0+S.size<=i;have:=HSz.out;omega)) (by simp) (by show i+n+0<=j;omega));have hjs:j<=s.size:=by omega
 have hij:i+32<=j:=by omega
 clear hj;go_wp2_with (at_builtin;first|(refine append_seq (w0:=w) Tryz.elemSeg rfl _ _ rfl rfl (Ho.alloc _) rfl (src1 (ρ:=segS) [.int .i64 0,.string S] ⟨0,S⟩ rfl rfl) Hl1.out (HB.alloc HB.size _) ?_;intro va wa hob _ hbb;have KU:=zY hob;have KB:=zY hbb;clear hob hbb)|(refine append_seq (w0:=w) Tryz.elemSeg rfl _ _ rfl rfl (KU.out.alloc _) rfl (src1 (ρ:=segS) [.int .i64 (n:Int),.string ⟨#[]⟩] ⟨(n:Int),⟨#[]⟩⟩ rfl rfl) Hl2.out (KB.out.alloc KB.out.size _) ?_;intro vb wb hob _ hbb;have KV:=zY hob;have KC:=zY hbb;clear hob hbb));go_roundw;case rel=>exact⟨j,j,_,Nat.le_refl _,hjs,rfl,rfl,HL.mono (Nat.le_refl _) (by omega),KV.out,KC.out⟩
 case measure=>simp[intOf];omega};{
 have g3:¬(fr:Int)<i:=by omega
 obtain rfl:fr=i:=by omega
 have HL:Hid (SegOk j (2*fr+1) (l++[(⟨(n:Int),⟨#[]⟩⟩:Seg)])):=zY (SegOk.snoc Hok.out (by simp) (by show fr+n+0<=j;omega));have hjs:j<=s.size:=by omega
 have hij:fr+32<=j:=by omega
 clear hj;go_wp2_with (at_builtin;refine append_seq (w0:=w) Tryz.elemSeg rfl _ _ rfl rfl (Ho.alloc _) rfl (src1 (ρ:=segS) [.int .i64 (n:Int),.string ⟨#[]⟩] ⟨(n:Int),⟨#[]⟩⟩ rfl rfl) Hl1.out (HB.alloc HB.size _) ?_;intro vb wb hob _ hbb;have KV:=zY hob;have KC:=zY hbb;clear hob hbb);go_roundw;case rel=>exact⟨j,j,_,Nat.le_refl _,hjs,rfl,rfl,HL.mono (Nat.le_refl _) (by omega),KV.out,KC.out⟩
 case measure=>simp[intOf];omega}};{
 have g1:¬(32:Int)<=n:=by omega
 by_cases h0:n=0;{
 subst h0;rw[show ((0:Nat):Int)=0 from rfl];clear hj hjI;go_wp2;go_roundw;case rel=>exact⟨fr,i+1,l,by omega,by omega,by go_num,rfl,Hok.mono (Nat.le_refl _) (by omega),Ho.out,HB.out⟩
 case measure=>simp[intOf];omega};{
 have g2:((n:Int)==0)=false:=by rw[beq_eq_false_iff_ne];omega
 have hjs:j<=s.size:=by omega
 have hij:i<j:=by omega
 clear hj;go_wp2;go_roundw;case rel=>exact⟨fr,j,l,by omega,by omega,rfl,rfl,Hok.mono (Nat.le_refl _) (by omega),Ho.out,HB.out⟩
 case measure=>simp[intOf];omega}}};{
 obtain rfl:i=s.size:=by omega
 have hI:¬((s.size:Nat):Int)<(s.size:Int):=by omega
 by_cases hif:fr<s.size;{
 have g3:(fr:Int)<s.size:=by omega
 obtain⟨S,hS⟩:=zNm (s.extract fr s.size);have HSz:Hid (S.size=s.size-fr):=zY (by rw[<-hS,ByteArray.size_extract];omega);have Hl1:Hid (l.length+1<=100000000):=zY (by omega);have HL:Hid (SegOk s.size (2*s.size+1) (l++[(⟨0,S⟩:Seg)])):=zY (SegOk.snoc Hok.out (Int.le_refl 0) (by show fr+0+S.size<=s.size;have:=HSz.out;omega));go_wp2_with (at_builtin;refine append_seq (w0:=w) Tryz.elemSeg rfl _ _ rfl rfl (Ho.alloc _) rfl (src1 (ρ:=segS) [.int .i64 0,.string S] ⟨0,S⟩ rfl rfl) Hl1.out (HB.alloc HB.size _) ?_;intro va wa hob _ hbb;have KU:=zY hob;have KB:=zY hbb;clear hob hbb);go_ret;exact⟨⟨_,_,rfl,KU.out,HL.out⟩,KB.out⟩};{
 have g3:¬(fr:Int)<s.size:=by omega
 go_wp2;go_ret;exact⟨⟨_,l,rfl,Ho.out,Hok.mono (by omega) (by omega)⟩,HB.out⟩}}
theorem any_yesS {α:Type} {l:List α} {p:α->Bool} (k:Nat) (y:α) (h:l[k]?=some y) (hy:p y=true):l.any p=true:=
 List.any_eq_true.2 ⟨y,List.mem_of_getElem? h,hy⟩
theorem any_noS {α:Type} {l:List α} {p:α->Bool} (h:∀(k:Nat) (y:α),l[k]?=some y->p y=false):l.any p=false:=by
 rw[List.any_eq_false];intro y hy;obtain⟨k,hk⟩:=List.mem_iff_getElem?.1 hy;simpa using h k y hk
def JudgeS (g:Nat) (lb:Array Value) (p:ByteArray->Bool) (l:List ByteArray) (w:World):Prop:=
 ∀(W:World) (x:ByteArray),Below w.heap.size w W->x∈l->Calls prog g (#[.string x]++lb) W fun e w'=>e=.returned (.bool (p x))/\Below W.heap.size W w'
theorem idxStr_any (w:World) (v:Value) (l:List ByteArray) (hl:SeqAt strS w v l) (g:Nat) (lb:Array Value) (eg:∀args w,(callFunc g args).run prog w=.ok (.enter g args) w) (p:ByteArray->Bool) (hp:JudgeS g lb p l w):
  Calls prog 297 #[v,.func (.func g) #[] lb] w fun e w'=>(∃n:Int,e=.returned (.int .i64 n)/\(l.any p=true↔0<=n))/\Below w.heap.size w w':=by
 have HL:=zY hl;obtain⟨A,c,rfl,h1,h2⟩:=hl.slice;have HP:=zY hp;obtain⟨R,hR⟩:=zNm (l.any p);rw[hR];have HR:=zY hR;clear hl hp hR;go_enter func297,ntmps297;go_wp2;go_loopw [8] (fun i wr=>∃k:Nat,k<=l.length/\i=.int .i64 k/\(∀(j:Nat) (y:ByteArray),j<k->l[j]?=some y->p y=false)/\Below w.heap.size w wr) (fun i _=>l.length-(intOf i).toNat);case atStart=>exact⟨0,Nat.zero_le _,rfl,fun j r h=>absurd h (Nat.not_lt_zero _),Below.refl _ _⟩
 case round=>
 obtain⟨k,hk,rfl,hr,hB⟩:=hrel;have Hr:=zY hr;have HB:=zY hB;clear hr hB;by_cases hlt:k<l.length;{
 have hkI:(k:Int)<l.length:=by omega
 obtain⟨x,hx⟩:∃x,l[k]?=some x:=⟨_,List.getElem?_eq_getElem hlt⟩;have Hx:=zY hx;obtain⟨_,_,e9,_,_,h4⟩:=HL.below HB.out;cases e9;obtain⟨b,o,cs,rfl,rfl,hc⟩:=h4 k x hx;have e0:wr.cell? ⟨b,o+k*1,none⟩=some (.string x):=hc 0 _ rfl;rw[Nat.mul_one]at e0;have HC:=zY (HP.out wr x HB.out (List.mem_of_getElem? hx));have HPx:Hid (Below w.heap.size w wr):=zY HB.out;clear hc h4 hx;obtain⟨q,hq⟩:=zNm (p x);have HQ:=zY hq;rw[hq]at HC;clear hq;go_wp2_with fail;refine HC.mono ?_;rintro e w2 ⟨rfl,hb2⟩;have HB2:=zYt HPx hb2;clear hb2;cases q with
 |true=>go_wp2;go_ret;exact⟨⟨k,rfl,by rw[<-HR.out,any_yesS k x Hx.out HQ.out];simp⟩,HB2.out⟩
 |false=>
 go_wp2;go_roundw;case rel=>(
 refine⟨k+1,by omega,by go_num,fun j r hj he=>?_,HB2.out⟩;rcases Nat.lt_succ_iff_lt_or_eq.1 hj with h|rfl;{exact Hr.out j r h he};{
 rw[Hx.out]at he;cases he;exact HQ.out})
 case measure=>simp[intOf];omega};{
 have hkI:¬(k:Int)<l.length:=by omega
 go_wp2;go_ret;exact⟨⟨-1,rfl,by rw[<-HR.out,any_noS fun j r he=>Hr.out j r (by have:=(List.getElem?_eq_some_iff.1 he).1;omega) he];simp⟩,HB.out⟩}
theorem contStr_any (w:World) (v:Value) (l:List ByteArray) (hl:SeqAt strS w v l) (g:Nat) (lb:Array Value) (eg:∀args w,(callFunc g args).run prog w=.ok (.enter g args) w) (p:ByteArray->Bool) (hp:JudgeS g lb p l w):
  Calls prog 235 #[v,.func (.func g) #[] lb] w fun e w'=>e=.returned (.bool (l.any p))/\Below w.heap.size w w':=by
 have H:=zY (idxStr_any w v l hl g lb eg p hp);obtain⟨A,c,rfl,h1,h2⟩:=hl.slice;clear hl hp;go_enter func235,ntmps235;go_wp2_with (go_at_call 297;refine H.mono ?_;rintro e w' ⟨⟨n,rfl,hn⟩,hb⟩;have HB:=zY hb;have HN:=zY hn;clear hb hn);go_ret;refine⟨ret_bool' ?_,HB.out⟩;have hn:=HN.out;cases hb:l.any p with
 |false=>rw[hb]at hn;exact decide_eq_false (fun h=>by have:=hn.2 h;cases this)
 |true=>rw[hb]at hn;exact decide_eq_true (hn.1 rfl)
theorem allowed_any (w:World) (c:Nat):Calls prog 388 #[.int .i32 (c:Int)] w fun e w'=>e=.returned (.bool (okC c))/\w=w':=by
 obtain⟨R,hR⟩:=zNm (okC c);rw[hR];unfold okC at hR;have HR:=zY hR;clear hR;by_cases a:97<=c;{
 have ai:(97:Int)<=c:=by omega
 by_cases b:c<=122;{
 have bi:(c:Int)<=122:=by omega
 have HT:Hid (R=true):=zY (by rw[<-HR.out];exact decide_eq_true (by omega));go_enter func388,ntmps388;go_wp2;go_ret;exact⟨by rw[HT.out]<;>rfl,rfl⟩};{
 have bi:¬(c:Int)<=122:=by omega
 have e1:(48:Int)<=c:=by omega
 have e2:¬(c:Int)<=57:=by omega
 have e3:((c:Int)==46)=false:=by rw[beq_eq_false_iff_ne];omega
 have e4:((c:Int)==95)=false:=by rw[beq_eq_false_iff_ne];omega
 have e5:((c:Int)==45)=false:=by rw[beq_eq_false_iff_ne];omega
 have HT:Hid (R=false):=zY (by rw[<-HR.out];exact decide_eq_false (by omega));go_enter func388,ntmps388;go_wp2;go_ret;exact⟨by rw[HT.out]<;>rfl,rfl⟩}};{
 have ai:¬(97:Int)<=c:=by omega
 by_cases d:48<=c/\c<=57;{
 have e1:(48:Int)<=c:=by omega
 have e2:(c:Int)<=57:=by omega
 have HT:Hid (R=true):=zY (by rw[<-HR.out];exact decide_eq_true (by omega));go_enter func388,ntmps388;go_wp2;go_ret;exact⟨by rw[HT.out]<;>rfl,rfl⟩};{
 obtain⟨q1,h1⟩:=zNm (((c:Int)==46));obtain⟨q2,h2⟩:=zNm (((c:Int)==95));obtain⟨q3,h3⟩:=zNm (((c:Int)==45));have HT:Hid (R=(q1||(q2||q3))):=zY (by
  rw[<-HR.out,<-h1,<-h2,<-h3,Bool.eq_iff_iff]
  simp only[decide_eq_true_eq,Bool.or_eq_true,beq_iff_eq]
  omega);have hz:(¬(48:Int)<=c)∨((48:Int)<=c/\¬(c:Int)<=57):=by omega
 clear d HR;rcases hz with f1|⟨f1,f2⟩<;>cases q1<;>cases q2<;>cases q3<;>
 {
 go_enter func388,ntmps388;go_wp2;go_ret;exact⟨by rw[HT.out]<;>rfl,rfl⟩}}}
theorem comp1_any (w:World) (c:Nat):Calls prog 387 #[.int .i32 (c:Int)] w fun e w'=>e=.returned (.bool (!okC c))/\w=w':=by
 have H:=zY (fun W=>allowed_any W c);obtain⟨q,hq⟩:=zNm (okC c);rw[hq]at H⊢;go_enter func387,ntmps387;go_wp2_with fail;refine(H.out _).mono ?_;rintro e1 w1 ⟨rfl,rfl⟩;go_wp2_with fail;go_ret;exact⟨rfl,rfl⟩
theorem okC_lt {c:Nat} (h:okC c=true):c<128:=by
 have:=of_decide_eq_true h;omega
theorem pcomp_any (w:World) (s:ByteArray) (h:compB (bs s)=true):Calls prog 362 #[.string s] w fun e w'=>e=.returned (.bool true)/\Below w.heap.size w w':=by
 rw[compB,Bool.and_eq_true,bs_len]at h;obtain⟨h1,h2⟩:=h;obtain⟨a1,a2,a3,a4⟩:=of_decide_eq_true h1;have hx:∀W,Calls prog 386 #[.string s,.func (.func 387) #[] #[]] W fun e w'=>e=.returned (.bool false)/\Below W.heap.size W w':=fun W=>by
  refine(Tryz.strings_ContainsFunc 387 #[] (enters_of func387 (by kernel_rfl) rfl) (fun c=> !okC c) s W (fun W' x _=>(comp1_any W' x).mono fun e w' ⟨he,hw⟩=>⟨he,0,hw.symm⟩)).mono ?_
  rintro e w' ⟨rfl,hb⟩
  refine⟨?_,hb⟩
  rw[show Lib.idxFunc (fun c=> !okC c) true s= -1 from idx_none (fun b hb=>?_) _ _]
  ·rfl
  {
  have:=List.all_eq_true.1 h2 b hb
  exact⟨okC_lt this,by rw[this];rfl⟩}
 have HX:=zY hx;have i1:(1:Int)<=s.size:=by omega
 have i2:(s.size:Int)<=32:=by omega
 have n1:s≠⟨#[46]⟩:=fun e=>a3 (by rw[e];rfl);have n2:s≠⟨#[46,46]⟩:=fun e=>a4 (by rw[e];rfl);have F1:Hid ((s.toList==[46])=false):=zY (beq_eq_false_iff_ne.2 fun e=>n1 (toListV.1 e));have F2:Hid ((s.toList==[46,46])=false):=zY (beq_eq_false_iff_ne.2 fun e=>n2 (toListV.1 e));have e1:s.toList≠[46]:=fun e=>n1 (toListV.1 e);have e2:s.toList≠[46,46]:=fun e=>n2 (toListV.1 e);clear h1 h2 a1 a2 a3 a4 hx n1 n2;go_enter func362,ntmps362;go_wp2_with fail;refine(HX.out _).mono ?_;rintro e1 w1 ⟨rfl,hb⟩;have HB:=zY hb;clear hb;go_wp2_with fail;go_ret;exact⟨ret_bool' (by rw[F1.out,F2.out];rfl),HB.out⟩
theorem pcheck1_any (w:World) (s:ByteArray) (h:compB (bs s)=true):Calls prog 361 #[.string s] w fun e w'=>e=.returned (.bool false)/\Below w.heap.size w w':=by
 have H:=zY (fun W=>pcomp_any W s h);clear h;go_enter func361,ntmps361;go_wp2_with fail;refine(H.out _).mono ?_;rintro e1 w1 ⟨rfl,hb⟩;have HB:=zY hb;clear hb;go_wp2_with fail;go_ret;exact⟨rfl,HB.out⟩
theorem SeqAt.strs (W:World) (L:List ByteArray) (c:Nat) (hc:L.length<=c) (h63:c<=9223372036854775807):SeqAt strS (W.alloc (.cells (L.map Value.string).toArray 9)) (.slice (some ⟨W.heap.size,0,none⟩) L.length c) L:=by
 refine⟨_,_,rfl,hc,h63,fun i x hx=>⟨W.heap.size,0,[.string x],rfl,rfl,fun j u hu=>?_⟩⟩;cases j with
 |zero=>(
 obtain rfl:Value.string x=u:=by simpa using hu
 show (W.alloc _).cell? ⟨W.heap.size,0+i*1+0,none⟩=_;rw[Nat.zero_add,Nat.mul_one,Nat.add_zero];exact(Blk.new W 9 (L.map Value.string)).cell (by rw[List.getElem?_map,hx];rfl))
 |succ j=>simp at hu
theorem pelems_any (w:World) (s:ByteArray) (hs:s.size<=1000000) (hT:Tab w):Calls prog 360 #[.string s] w fun e w'=>(∃v,e=.returned v/\SeqAt strS w' v ((elemsL (bs s)).map strB))/\Below w.heap.size w w':=by
 by_cases h0:s.size=0;{
 have e0:s=⟨#[]⟩:=by apply ByteArray.ext;exact Array.eq_empty_of_size_eq_zero h0
 subst e0;clear h0;go_enter func360,ntmps360;go_wp2;go_ret;first|exact⟨⟨_,rfl,SeqAt.nil _⟩,Below.refl _ _⟩|exact⟨_,rfl,SeqAt.nil _,Below.refl _ _⟩};{
 have hb0:s.toList.isEmpty=false:=isEmptyV h0;obtain⟨m,hm⟩:=hT.most;have HC:=zY (Tryz.strings_Split s ⟨#[47]⟩ m w (by omega) hm (by decide));have HE:Hid ((elemsL (bs s)).map strB=Lib.splitB ⟨#[47]⟩ 0 (Lib.countB s ⟨#[47]⟩) s):=zY (by
  rw[splits_elems,elemsL,if_neg]
  intro e
  have:=congrArg List.length e
  rw[bs_len]at this
  exact h0 (by simpa using this));have HN:Hid (Lib.countB s ⟨#[47]⟩+1=(Lib.splitB ⟨#[47]⟩ 0 (Lib.countB s ⟨#[47]⟩) s).length/\Lib.countB s ⟨#[47]⟩<=s.size):=zY ⟨(Lib.splitB_all ⟨#[47]⟩ (by decide) 0 _ s rfl).symm,Lib.countB_le ⟨#[47]⟩ (by decide) s.size s (Nat.le_refl _)⟩;clear hm h0;go_enter func360,ntmps360;go_wp2_with fail;refine HC.mono ?_;rintro e1 w1 ⟨rfl,rfl⟩;go_wp2_with fail;go_ret;have key:SeqAt strS (w.alloc (.cells ((Lib.splitB ⟨#[47]⟩ 0 (Lib.countB s ⟨#[47]⟩) s).map Value.string).toArray 9)) (.slice (some ⟨w.heap.size,0,none⟩) (Lib.countB s ⟨#[47]⟩+1:Nat) (Lib.countB s ⟨#[47]⟩+1:Nat)) ((elemsL (bs s)).map strB):=by rw[HE.out,HN.1];exact SeqAt.strs w _ _ (Nat.le_refl _) (by have:=HN.out;omega)
 first|exact⟨⟨_,rfl,key⟩,(Below.refl _ _).alloc (Nat.le_refl _) _⟩|exact⟨_,rfl,key,(Below.refl _ _).alloc (Nat.le_refl _) _⟩}
theorem pcheck_ok (w:World) (s:ByteArray) (h:pathE (bs s)=0) (hT:Tab w):Calls prog 312 #[.string s] w fun e w'=>e=.returned (.int .i64 0)/\Below w.heap.size w w':=by
 unfold pathE at h;split at h;{cases h};rename_i h1
 split at h;{cases h};rename_i h2
 split at h;{
 rename_i h3
 rw[bs_len]at h1;have HE:=zY (pelems_any w s (by omega) hT);have HA:Hid (∀x∈(elemsL (bs s)).map strB,compB (bs x)=true):=zY (fun x hx=>by
  obtain⟨l,hl,rfl⟩:=List.mem_map.1 hx
  rw[bs_strB (elemsL_bytes (bs_lt s) l hl)]
  exact List.all_eq_true.1 h3 l hl);obtain⟨L,hL⟩:=zNm ((elemsL (bs s)).map strB);have hl:L.length<=8:=by rw[<-hL,List.length_map];omega
 rw[hL]at HE HA;have HF:Hid (L.any (fun _=>false)=false):=zY (by rw[List.any_eq_false];intro x _;decide);have i1:¬(200:Int)<s.size:=by omega
 clear h h1 h2 h3 hL;have i2:¬(8:Int)<L.length:=by omega
 go_enter func312,ntmps312;go_wp2_with fail;refine HE.mono ?_;rintro e1 w1 ⟨⟨v,rfl,hv⟩,hb⟩;have HB:=zY hb;have HC:=zY (contStr_any w1 v L hv 361 #[] (enters_of func361 (by kernel_rfl) rfl) (fun _=>false) (fun W x _ hx=>pcheck1_any W x (HA.out x hx)));rw[HF.out]at HC;obtain⟨A,c,rfl,_,_⟩:=hv.slice;clear hb hv;go_wp2_with fail;refine HC.mono ?_;rintro e2 w2 ⟨rfl,hb2⟩;have HB2:=zYt HB hb2;clear hb2;go_wp2_with fail;go_ret;exact⟨rfl,HB2.out⟩};{cases h}
theorem cmp_less:∀{p q:List UInt8},p≠q->Op.bytesLess q p=false->Lib.compareBytes p q= -1
 |[],[],h,_=>absurd rfl h
 |[],_::_,_,_=>rfl
 |_::_,[],_,h=>by cases h
 |a::x,b::y,h,hl=>by
  simp only[Op.bytesLess,Bool.or_eq_false_iff,decide_eq_false_iff_not,Bool.and_eq_false_iff,beq_eq_false_iff_ne]at hl
  rw[Lib.compareBytes]
  by_cases h1:a<b
  ·rw[if_pos h1]
  {
  have e:b=a:=by
   have h2:=hl.1
   rw[UInt8.lt_iff_toNat_lt]at h1 h2
   exact UInt8.toNat_inj.1 (by omega)
  subst e
  rw[if_neg h1,if_neg h1]
  refine cmp_less (fun e=>h (by rw[e])) ?_
  rcases hl.2 with h3|h3
  ·exact absurd rfl h3
  ·exact h3}
def cutK:ByteArray:=⟨#[97,98,99,100,101,102,103,104,105,106,107,108,109,110,111,112,113,114,115,116,117,118,119,120,121,122,48,49,50,51,52,53,54,55,56,57,46,95,45]⟩
theorem cutK_all:∀b:Nat,b<128->okC b=true->(bs cutK).contains b=true:=by decide
theorem keyB_in {l:List Nat} (h:l.all okC=true):allIn (bs cutK) l=true:=
 List.all_eq_true.2 fun b hb=>cutK_all b (okC_lt (List.all_eq_true.1 h b hb)) (List.all_eq_true.1 h b hb)
theorem atkey_ok (w:World) (s:ByteArray) (h:keyB (bs s)=true):Calls prog 389 #[.string s] w fun e w'=>e=.returned (.int .i64 0)/\Below w.heap.size w w':=by
 rw[keyB,Bool.and_eq_true,bs_len]at h;obtain⟨h1,h2⟩:=h;have h1:=of_decide_eq_true h1;have hb0:s.toList.isEmpty=false:=isEmptyV (by omega);have i1:¬(32:Int)<s.size:=by omega
 have HT:=zY (trim_any w s cutK (by omega) (by decide) (by decide));rw[keyB_in h2]at HT;clear h1 h2;unfold cutK at HT;go_enter func389,ntmps389;go_wp2_with fail;refine HT.mono ?_;rintro e1 w1 ⟨t,rfl,ht,hb⟩;have HB:=zY hb;clear hb;go_wp2_with fail;go_ret;exact⟨rfl,HB.out⟩
theorem atattr_ok (w:World) (a:Atr) (h:keyB (bs a.k)=true) (h64:¬64<a.v.size):Calls prog 363 #[.agg #[.string a.k,.string a.v]] w fun e w'=>e=.returned (.int .i64 0)/\Below w.heap.size w w':=by
 obtain⟨k,v⟩:=a;dsimp only at h h64;have i2:¬(64:Int)<v.size:=by omega
 have hK:=Blk.new w 93 [.string k,.string v];change Blk (w.alloc (.cells #[.string k,.string v] 93)) _ _ _ at hK;have HK:=zY hK;have HB:=zY (zBl w (.cells #[.string k,.string v] 93));have HX:=zY (fun W=>atkey_ok W k h);clear hK h h64;go_enter func363,ntmps363;go_upto_region 1 with fail;generalize w.alloc (.cells #[.string k,.string v] 93)=wa at *;have c0:=HK.c 0;go_wp2_with fail;refine(HX.out _).mono ?_;rintro e1 w1 ⟨rfl,hb⟩;have HK1:=zY (HK.kept hb);have HB1:=zYt HB hb;clear hb c0;have c1:=HK1.c 1;go_wp2_with fail;go_ret;exact⟨rfl,HB1.out⟩
structure AtrsOk (l:List Atr):Prop where
 len:l.length<=16
 key:∀a∈l,keyB (bs a.k)=true/\¬64<a.v.size
 ord:∀i p a,l[i]?=some p->l[i+1]?=some a->Lib.compareBytes p.k.data.toList a.k.data.toList= -1
theorem attrsG_ok:∀{l:List Atr} {q:Option ByteArray},attrsG q l=0->(∀a∈l,keyB (bs a.k)=true/\¬64<a.v.size)/\(∀i p a,l[i]?=some p->l[i+1]?=some a->Lib.compareBytes p.k.data.toList a.k.data.toList= -1)/\(∀p a,q=some p->l[0]?=some a->Lib.compareBytes p.data.toList a.k.data.toList= -1)
 |[],q,_=>⟨fun a h=>(nomatch h),fun i p a h=>by simp at h,fun p a _ h=>by simp at h⟩
 |a::r,q,h=>by
  have hk:keyB (bs a.k)=true:=by
   cases e:keyB (bs a.k)with
   |true=>rfl
   |false=>rw[attrsG_key e]at h;cases h
  have h64:¬64<a.v.size:=fun e=>by rw[attrsG_val hk e]at h;cases h
  have hr:attrsG (some a.k) r=0/\∀p,q=some p->Lib.compareBytes p.data.toList a.k.data.toList= -1:=by
   cases q with
   |none=>rw[attrsG_first hk h64]at h;exact⟨h,fun p e=>by cases e⟩
   |some q=>
    rw[attrsG_next hk h64]at h
    split at h
    ·cases h
    {
    rename_i hne
    split at h
    ·cases h
    {
    rename_i hlt
    refine⟨h,fun p e=>?_⟩
    cases e
    refine cmp_less (fun e=>hne (ByteArray.ext (Array.toList_inj.1 e.symm))) ?_
    rw[ByteArray.toList_eq,ByteArray.toList_eq]at hlt
    exact Bool.eq_false_iff.2 hlt}}
  obtain⟨h1,h2,h3⟩:=attrsG_ok hr.1
  refine⟨fun x hx=>?_,fun i p x hp hx=>?_,fun p x hp hx=>?_⟩
  {
  rcases List.mem_cons.1 hx with rfl|hx
  ·exact⟨hk,h64⟩
  ·exact h1 x hx}
  {
  cases i with
  |zero=>
   obtain rfl:a=p:=by simpa using hp
   exact h3 _ x rfl (by simpa using hx)
  |succ i=>exact h2 i p x (by simpa using hp) (by simpa using hx)}
  {
  obtain rfl:a=x:=by simpa using hx
  exact hr.2 p hp}
theorem attrsE_ok {l:List Atr} (h:attrsE l=0):AtrsOk l:=by
 unfold attrsE at h;split at h;{cases h};{
 rename_i h16
 obtain⟨h1,h2,_⟩:=attrsG_ok h;exact⟨by omega,h1,h2⟩}
theorem atcheck_ok (w:World) (v:Value) (l:List Atr) (hv:SeqAt atrS w v l) (h:attrsE l=0):Calls prog 313 #[v] w fun e w'=>e=.returned (.int .i64 0)/\Below w.heap.size w w':=by
 have Hv:=zY hv;obtain⟨A,c,rfl,h1,h2⟩:=hv.slice;have HO:=zY (attrsE_ok h);clear hv h;have i1:¬(16:Int)<l.length:=by have:=HO.len;omega
 go_enter func313,ntmps313;go_wp2;go_loopw [11] (fun x wr=>∃i:Nat,i<=l.length/\x=.int .i64 (i:Int)/\Below w.heap.size w wr) (fun x _=>l.length-(intOf x).toNat);case atStart=>exact⟨0,by omega,rfl,Below.refl _ _⟩
 case round=>
 obtain⟨i,hi,rfl,hB⟩:=hrel;have HB:=zY hB;clear hB;by_cases h:i<l.length;{
 have hiI:(i:Int)<l.length:=by omega
 obtain⟨a,ha⟩:∃a,l[i]?=some a:=⟨_,List.getElem?_eq_getElem h⟩;obtain⟨_,_,e9,_,_,h4⟩:=Hv.below HB.out;cases e9;obtain⟨b,o,cs,rfl,rfl,hc⟩:=h4 i a ha;have c0:wr.cell? ⟨b,o+i*2,none⟩=some (.string a.k):=hc 0 _ rfl;have c1:wr.cell? ⟨b,o+i*2+1,none⟩=some (.string a.v):=hc 1 _ rfl;have hka:=HO.key a (List.mem_of_getElem? ha);have HX:=zY (fun W=>atattr_ok W a hka.1 hka.2);have hT:=Blk.new wr 93 [.string a.k,.string a.v];change Blk (wr.alloc (.cells #[.string a.k,.string a.v] 93)) _ _ _ at hT;have HT:=zY hT;have HBt:=zY (HB.alloc HB.size (.cells #[.string a.k,.string a.v] 93));clear hc hT hka;by_cases h0:i=0;{
 subst h0;rw[show ((0:Nat):Int)=0 from rfl];rw[Nat.zero_mul,Nat.add_zero]at c0 c1;clear h4;go_upto_region 6 with fail;generalize wr.alloc (.cells #[.string a.k,.string a.v] 93)=wt at *;have d0:=HT.c 0;have d1:=HT.c 1;go_wp2_with fail;refine(HX.out _).mono ?_;rintro e2 w2 ⟨rfl,hb2⟩;have HB2:=zYt HBt hb2;clear hb2;go_wp2;go_roundw;case rel=>exact⟨1,by omega,by go_num,HB2.out⟩
 case measure=>simp[intOf];omega};{
 obtain⟨j,hj⟩:∃j,i=j+1:=⟨i-1,by omega⟩;have hjl:j<l.length:=by omega
 obtain⟨p,hp⟩:∃p,l[j]?=some p:=⟨_,List.getElem?_eq_getElem hjl⟩;have HC:Hid (Lib.compareBytes p.k.data.toList a.k.data.toList= -1):=zY (HO.ord j p a hp (by rw[<-hj];exact ha));have hwr:IntKind.i64.wrap ((i:Int)-1)=(j:Int):=by rw[zIw (by omega)];omega
 have hwr2:(i:Int)-1=j:=by omega
 have hjI:(j:Int)<l.length:=by omega
 have i0:((i:Int)==0)=false:=by rw[beq_eq_false_iff_ne];omega
 obtain⟨b',o',cs,e8,rfl,hd⟩:=h4 j p hp;cases e8;have d0:wr.cell? ⟨b,o+j*2,none⟩=some (.string p.k):=hd 0 _ rfl;have HD:Hid (∀W,Below wr.heap.size wr W->W.cell? ⟨b,o+j*2,none⟩=some (.string p.k)):=zY (fun W hb=>cell_below hb d0);have HCm:=zY (fun W=>Tryz.strings_Compare p.k a.k W);clear hd h4 hp h0 d0 hj hjl;go_upto_region 6 with fail;have HBw:=zY (zBl wr (.cells #[.string a.k,.string a.v] 93));generalize wr.alloc (.cells #[.string a.k,.string a.v] 93)=wt at *;have d1:=HT.c 0;have d2:=HT.c 1;go_wp2_with fail;refine(HX.out _).mono ?_;rintro e2 w2 ⟨rfl,hb2⟩;have HT2:=zY (HT.kept hb2);have HB2:=zYt HBt hb2;have d3:=HD.out w2 (HBw.trans (hb2.mono HBw.size));clear hb2 d1 d2;have d1:=HT2.c 0;rw[HC.out]at HCm;go_upto_region 10 with fail;go_quiet (first|(go_at_call 364;refine Calls.quiet_of_same (HCm.out _)));go_wp2;go_roundw;case rel=>exact⟨i+1,by omega,by go_num,blwN HB2.out _⟩
 case measure=>simp[intOf];omega}};{
 obtain rfl:i=l.length:=by omega
 have hiI:¬((l.length:Nat):Int)<(l.length:Int):=by omega
 go_wp2;go_ret;exact⟨rfl,HB.out⟩}
theorem digD_val:∀{p:List Nat},p≠[]->p.all digB=true->(1<p.length->cf p 0≠48)->digD (valD p)=p:=by
 intro p;induction hn:p.length generalizing p with
 |zero=>intro h;exact absurd (List.length_eq_zero_iff.1 hn) h
 |succ n ih=>
 intro h hd h0;obtain⟨q,c,rfl⟩:∃q c,p=q++[c]:=⟨p.dropLast,p.getLast h,(List.dropLast_concat_getLast h).symm⟩;have hql:q.length=n:=by simpa using hn
 rw[List.all_append,Bool.and_eq_true]at hd;have hc':digB c=true:=by simpa using hd.2
 have hc:48<=c/\c<=57:=of_decide_eq_true hc';have hv:valD (q++[c])=10*valD q+(c-48):=by rw[valD,List.foldl_append];rfl
 rw[hv];by_cases hq:q=[];{
 subst hq;have:valD []=0:=rfl;rw[this,Nat.mul_zero,Nat.zero_add,digD_small (by omega),List.nil_append];congr 1;omega};{
 have hq0:cf q 0≠48:=by have hl:0<q.length:=List.length_pos_iff.2 hq;have:=h0 (by simp;omega);rwa [cf,List.getElem?_append_left hl]at this
 have e:=ih hql hq hd.1 (fun _=>hq0);have h1:valD q≠0:=fun e0=>by
  rw[e0,digD_small (by decide)]at e
  rw[<-e]at hq0
  exact hq0 rfl
 rw[digD_great (by omega),show (10*valD q+(c-48))/10=valD q by omega,show (10*valD q+(c-48))%10=c-48 by omega,e,digD_small (by omega)];congr 1;simp;omega}
theorem atoi_val {l:List UInt8} (h:natL l≠[]) (hd:(natL l).all digB=true):Lib.atoi l=some ((valD (natL l):Nat):Int):=by
 have key:∀(l:List UInt8) (a:Nat),(natL l).all digB=true->Lib.decFrom a l=some ((natL l).foldl (fun n c=>10*n+(c-48)) a):=by{
 intro l;induction l with
 |nil=>intro a _;rfl
 |cons b r ih=>
 intro a hd;have hd':digB b.toNat=true/\(natL r).all digB=true:=by have:((b.toNat::natL r).all digB)=true:=hd;rwa [List.all_cons,Bool.and_eq_true]at this
 have hb:48<=b.toNat/\b.toNat<=57:=of_decide_eq_true hd'.1;have e:Lib.digitVal b=some (b.toNat-48):=by rw[Lib.digitVal,if_pos hb]
 rw[Lib.decFrom,e];show Lib.decFrom (a*10+(b.toNat-48)) r=_;rw[ih _ hd'.2,Nat.mul_comm];rfl};cases l with
 |nil=>exact absurd rfl h
 |cons b r=>
 have hd':digB b.toNat=true:=by have:((b.toNat::natL r).all digB)=true:=hd;rw[List.all_cons,Bool.and_eq_true]at this;exact this.1
 have hb:48<=b.toNat/\b.toNat<=57:=of_decide_eq_true hd';have n1:¬(b==45)=true:=fun e=>by rw[beq_iff_eq.1 e]at hb;exact absurd hb.1 (by decide)
 have n2:¬(b==43)=true:=fun e=>by rw[beq_iff_eq.1 e]at hb;exact absurd hb.1 (by decide)
 rw[Lib.atoi,if_neg n1,if_neg n2,Lib.decNat,if_neg (by simp),key _ 0 hd];rfl
theorem below_bytes (w:World) (e:TypeId) (t:ByteArray):Below w.heap.size w (Lib.bytesWorld w e t):=
 ⟨rfl,rfl,rfl,by rw[Lib.bytesWorld_size];omega,fun k hk=>Lib.bytesWorld_at_old w e t k hk⟩
theorem atoi_date (w:World) (s:ByteArray) (h:dateB (bs s)=true):∃n:Nat,n<=1000000000/\strB (digD n)=s/\Calls prog 209 #[.string s] w fun e w'=>e=.returned (.tuple #[.int .i64 (n:Int),.nilIface])/\Below w.heap.size w w':=by
 rw[dateB,Bool.and_eq_true,Bool.and_eq_true]at h;obtain⟨h1,h2,h3⟩:=h;have h1:=of_decide_eq_true h1;have h3:=of_decide_eq_true h3;have hne:bs s≠[]:=fun e=>by rw[e]at h1;exact absurd h1.1 (by decide)
 refine⟨valD (bs s),h3,?_,?_⟩;{rw[digD_val hne h2 (fun h=>fun e=>h1.2.2 ⟨h,e⟩),strB_bs]};{
 refine(Tryz.strconv_Atoi s _ ?_ (atoi_val (l:=s.data.toList) hne h2) w).mono ?_;{
 have:=h1.2.1;rw[bs_len]at this;omega};{
 rintro e w' ⟨rfl,t,rfl⟩;exact⟨rfl,below_bytes _ _ _⟩}}
theorem isdate_ok (w:World) (s:ByteArray) (h:dateB (bs s)=true) (hT:Tab w):Calls prog 365 #[.string s] w fun e w'=>e=.returned (.bool true)/\Below w.heap.size w w':=by
 obtain⟨n,hn,hd,hc⟩:=atoi_date w s h;have HC:=zY hc;have HI:Hid (∀W,Below w.heap.size w W->Calls prog 54 #[.int .i64 (n:Int)] W fun e w'=>e=.returned (.string s)/\Below W.heap.size W w'):=zY (fun W hb=>by
  have:=itoa_any W n (by omega) (hT.below hb)
  rwa [hd]at this);have i1:(0:Int)<=n:=by omega
 have i2:(n:Int)<=1000000000:=by omega
 clear hc hd h hn;go_enter func365,ntmps365;go_wp2_with fail;refine HC.mono ?_;rintro e1 w1 ⟨rfl,hb1⟩;have HB1:=zY hb1;clear hb1;go_wp2_with fail;refine(HI.out _ HB1.out).mono ?_;rintro e2 w2 ⟨rfl,hb2⟩;have HB2:=zYt HB1 hb2;clear hb2;go_wp2_with fail;go_ret;first|exact⟨rfl,HB2.out⟩|exact⟨ret_bool' (by simp),HB2.out⟩
theorem entarget_ok (w:World) (e:Ent) (va vx:Value) (h:tgtB e=true) (hT:Tab w):Calls prog 314 #[entV e va vx] w fun r w'=>r=.returned (.bool true)/\Below w.heap.size w w':=by
 obtain⟨k,path,attrs,t,size,dig,exts⟩:=e;rw[tgtB]at h;dsimp only at h;rw[entV];dsimp only;have hK:=Blk.new w 182 [.int .i64 k,.string path,va,.string t,.int .i64 size,.string dig,vx];change Blk (w.alloc (.cells #[.int .i64 k,.string path,va,.string t,.int .i64 size,.string dig,vx] 182)) _ _ _ at hK;have c0:=hK.c 0;have c3:=hK.c 3;have HB:=zY (zBl w (.cells #[.int .i64 k,.string path,va,.string t,.int .i64 size,.string dig,vx] 182));clear hK;by_cases h3:k=3;{
 have i1:(k==3)=true:=by rw[h3];rfl
 rw[if_pos h3]at h;clear h3;have h:=of_decide_eq_true h;have i2:t.toList.isEmpty=false:=isEmptyV (by omega);have i3:(t.size:Int)<=200:=by omega
 clear h;go_enter func314,ntmps314;go_wp2;go_ret;exact⟨rfl,HB.out⟩};{
 have i1:(k==3)=false:=by rw[beq_eq_false_iff_ne];exact h3
 rw[if_neg h3]at h;clear h3;by_cases h5:k=5;{
 have i2:(k==5)=true:=by rw[h5];rfl
 rw[if_pos h5]at h;clear h5;have HD:=zY (isdate_ok _ t h (hT.below HB.out));clear h;go_enter func314,ntmps314;go_wp2_with fail;refine HD.mono ?_;rintro e1 w1 ⟨rfl,hb⟩;have HB1:=zYt HB hb;clear hb;go_wp2_with fail;go_ret;exact⟨rfl,HB1.out⟩};{
 have i2:(k==5)=false:=by rw[beq_eq_false_iff_ne];exact h5
 rw[if_neg h5]at h;clear h5;have e0:t=⟨#[]⟩:=by apply ByteArray.ext;exact Array.eq_empty_of_size_eq_zero (of_decide_eq_true h)
 subst e0;clear h;go_enter func314,ntmps314;go_wp2;go_ret;exact⟨rfl,HB.out⟩}}
end
section
def gdiv (a b:Nat):Nat:=gmul a (ginv b)
theorem xor_ne {a b:Nat} (h:a≠b):a^^^b≠0:=fun e=>h (by
 have:a^^^b^^^b=0^^^b:=by rw[e]
 rwa [Nat.xor_assoc,Nat.xor_self,Nat.xor_zero,Nat.zero_xor]at this)
theorem ginv_mul {a b:Nat} (ha:a<256) (hb:b<256) (h:a≠0) (k:b≠0):ginv (gmul a b)=gmul (ginv a) (ginv b):=by
 refine(inv_unique (gmul_lt _ ha) (gmul_lt _ (ginv_lt ha)) ?_).symm;rw[gmul_assoc ha hb (gmul_lt _ (ginv_lt ha)),<-gmul_assoc hb (ginv_lt ha) (ginv_lt hb),gmul_comm hb (ginv_lt ha),gmul_assoc (ginv_lt ha) hb (ginv_lt hb),gmul_inv hb k,gmul_one_right,gmul_inv ha h]
def wgtR (xs:List Nat) (k x:Nat):Nat->Nat
 |0=>1
 |i+1=>if i=k then wgtR xs k x i else gmul (wgtR xs k x i) (gdiv (x^^^cf xs i) (cf xs k^^^cf xs i))
def aboR (xs:List Nat) (k x:Nat):Nat->Nat
 |0=>1
 |i+1=>if i=k then aboR xs k x i else gmul (aboR xs k x i) (x^^^cf xs i)
def belR (xs:List Nat) (k:Nat):Nat->Nat
 |0=>1
 |i+1=>if i=k then belR xs k i else gmul (belR xs k i) (cf xs k^^^cf xs i)
theorem aboR_lt {xs:List Nat} {k x:Nat}:∀i,aboR xs k x i<256
 |0=>(by decide:1<256)
 |i+1=>by
  rw[aboR]
  split
  ·exact aboR_lt i
  ·exact gmul_lt _ (aboR_lt i)
theorem belR_lt {xs:List Nat} {k:Nat}:∀i,belR xs k i<256
 |0=>(by decide:1<256)
 |i+1=>by
  rw[belR]
  split
  ·exact belR_lt i
  ·exact gmul_lt _ (belR_lt i)
theorem wgtR_lt {xs:List Nat} {k x:Nat}:∀i,wgtR xs k x i<256
 |0=>(by decide:1<256)
 |i+1=>by
  rw[wgtR]
  split
  ·exact wgtR_lt i
  ·exact gmul_lt _ (wgtR_lt i)
theorem wgt_eq {xs:List Nat} {k x:Nat} (hx:x<256) (hb:∀i,cf xs i<256) (hd:∀i,i<xs.length->i≠k->cf xs k≠cf xs i):∀i,i<=xs.length->wgtR xs k x i=gdiv (aboR xs k x i) (belR xs k i)/\belR xs k i≠0
 |0,_=>⟨(by decide:1=gdiv 1 1),(by decide:1≠0)⟩
 |i+1,hi=>by
  obtain⟨h1,h2⟩:=wgt_eq hx hb hd i (by omega)
  by_cases h:i=k
  {
  rw[wgtR,aboR,belR,if_pos h,if_pos h,if_pos h]
  exact⟨h1,h2⟩}
  {
  rw[wgtR,aboR,belR,if_neg h,if_neg h,if_neg h]
  have hne:cf xs k^^^cf xs i≠0:=xor_ne (hd i (by omega) h)
  have l1:=xor_lt hx (hb i)
  have l2:=xor_lt (hb k) (hb i)
  have l3:=aboR_lt (xs:=xs) (k:=k) (x:=x) i
  have l4:=belR_lt (xs:=xs) (k:=k) i
  refine⟨?_,fun e=>(gmul_eq_zero l4 l2 e).elim h2 hne⟩
  rw[h1,gdiv,gdiv,gdiv,ginv_mul l4 l2 h2 hne]
  rw[gmul_assoc l3 (ginv_lt l4) (gmul_lt _ l1),<-gmul_assoc (ginv_lt l4) l1 (ginv_lt l2),gmul_comm (ginv_lt l4) l1,gmul_assoc l1 (ginv_lt l4) (ginv_lt l2),<-gmul_assoc l3 l1 (gmul_lt _ (ginv_lt l4))]}
def wgt (xs:List Nat) (x k:Nat):Nat:=wgtR xs k x xs.length
theorem wgt_lt (xs:List Nat) (x k:Nat):wgt xs x k<256:=wgtR_lt _
def sumE (xs:List Nat) (bl:List (List Nat)) (x i:Nat):Nat->Nat
 |0=>0
 |k+1=>sumE xs bl x i k^^^gmul (wgt xs x k) (cf (bl.getD k []) i)
theorem sumE_lt {xs:List Nat} {bl:List (List Nat)} {x i:Nat}:∀k,sumE xs bl x i k<256
 |0=>(by decide:0<256)
 |k+1=>xor_lt (sumE_lt k) (gmul_lt _ (wgt_lt _ _ _))
def atE (xs:List Nat) (bl:List (List Nat)) (n x:Nat):List Nat:=(List.range n).map fun i=>sumE xs bl x i xs.length
def rowE (xs:List Nat) (bl:List (List Nat)) (n x k i:Nat):List Nat:=(List.range n).map fun j=>sumE xs bl x j (if j<i then k+1 else k)
theorem rowE_len {xs:List Nat} {bl:List (List Nat)} {n x k i:Nat}:(rowE xs bl n x k i).length=n:=by simp[rowE]
theorem rowE_cf {xs:List Nat} {bl:List (List Nat)} {n x k i j:Nat} (hj:j<n):cf (rowE xs bl n x k i) j=sumE xs bl x j (if j<i then k+1 else k):=by
 rw[rowE,cf,List.getElem?_map,List.getElem?_range hj];rfl
theorem rowE_lt {xs:List Nat} {bl:List (List Nat)} {n x k i:Nat}:∀y∈rowE xs bl n x k i,y<256:=by
 intro y hy;obtain⟨j,_,rfl⟩:=List.mem_map.1 hy;exact sumE_lt _
theorem rowE_zero {xs:List Nat} {bl:List (List Nat)} {n x:Nat}:rowE xs bl n x 0 0=List.replicate n 0:=by
 apply List.ext_getElem (by simp[rowE]);intro j h1 h2;simp[rowE,sumE]
theorem rowE_next {xs:List Nat} {bl:List (List Nat)} {n x k:Nat}:rowE xs bl n x k n=rowE xs bl n x (k+1) 0:=by
 unfold rowE;refine List.map_congr_left fun j hj=>?_;rw[if_pos (List.mem_range.1 hj),if_neg (Nat.not_lt_zero j)]
theorem rowE_step {xs:List Nat} {bl:List (List Nat)} {n x k i:Nat} (hi:i<n):(rowE xs bl n x k i).set i (cf (rowE xs bl n x k i) i^^^gmul (wgt xs x k) (cf (bl.getD k []) i))=rowE xs bl n x k (i+1):=by
 rw[rowE_cf hi,if_neg (Nat.lt_irrefl i)];apply List.ext_getElem (by simp[rowE]);intro j h1 h2;have hj:j<n:=by simpa [rowE]using h1
 rw[List.getElem_set];by_cases h:i=j;{
 subst h;simp[rowE,sumE]};{
 rw[if_neg h];simp only[rowE,List.getElem_map,List.getElem_range];by_cases h3:j<i;{rw[if_pos h3,if_pos (by omega)]};{rw[if_neg h3,if_neg (by omega)]}}
theorem rowE_all {xs:List Nat} {bl:List (List Nat)} {n x:Nat}:rowE xs bl n x xs.length 0=atE xs bl n x:=by
 unfold rowE atE;refine List.map_congr_left fun j hj=>?_;rw[if_neg (Nat.not_lt_zero j)]
theorem atE_len {xs:List Nat} {bl:List (List Nat)} {n x:Nat}:(atE xs bl n x).length=n:=by simp[atE]
end
end Go.Proofs.YthgenkkkapilhaaGreatDoor