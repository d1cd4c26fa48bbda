/-
  Joined: VoN VoO PolW.
-/
import Derived.Test.YthgenkkkapilhaaGreatDoorVPn02
set_option linter.all false
set_option maxRecDepth 100000
set_option maxHeartbeats 64000000
namespace Go.Proofs.YthgenkkkapilhaaGreatDoor
open Go.Proofs.Tryz
section
open Go.RowKit
def RetN (p:Nat->Prop) (e:Ending):Prop:=∃n:Nat,e=.returned (.int .i64 (n:Int))/\p n
theorem RetN.of {p:Nat->Prop} {n:Nat} (h:p n):RetN p (.returned (.int .i64 (n:Int))):=⟨n,rfl,h⟩
theorem zeros_any (w:World) (s:ByteArray) (i:Nat) (hi:i<=s.size) (hs:s.size<=1000000):Calls prog 289 #[.string s,.int .i64 (i:Int)] w fun e w'=>RetN (fun n=>i+n<=s.size) e/\w=w':=by
 go_enter func289,ntmps289;go_wp2;go_loop [5] (fun x=>∃n:Nat,i+n<=s.size/\x=.int .i64 (n:Int)) (fun x=>s.size-(intOf x).toNat);case atStart=>exact⟨0,by omega,rfl⟩
 case round=>
 obtain⟨n,hn,rfl⟩:=hrel;obtain⟨j,hj⟩:=zNm (i+n);have hjI:(i:Int)+n=j:=by omega
 have hj1:j<=1000000:=by omega
 by_cases h:j<s.size;{
 have hI:(j:Int)<s.size:=by omega
 by_cases h0:(s[j]'h).toNat=0;{
 have e0:(((s[j]'h).toNat:Int)==0)=true:=by rw[h0];rfl
 clear hj;go_wp2;go_round;case rel=>exact⟨n+1,by omega,by go_num⟩
 case measure=>simp[intOf];omega};{
 have e0:(((s[j]'h).toNat:Int)==0)=false:=by rw[beq_eq_false_iff_ne];omega
 clear hj;go_wp2;go_ret;exact⟨RetN.of hn,rfl⟩}};{
 have hI:¬(j:Int)<s.size:=by omega
 clear hj;go_wp2;go_ret;exact⟨RetN.of hn,rfl⟩}
theorem first33_any (w:World) (s:ByteArray) (hs:s.size<=1000000) (h0:0<s.size):Calls prog 290 #[.string s] w fun e w'=>RetN (fun n=>0<n/\n<=s.size) e/\w=w':=by
 go_enter func290,ntmps290;go_wp2;go_loop [3,4] (fun y x=>∃k h:Nat,k<=s.size/\x=.int .i64 (k:Int)/\y=.int .i64 (h:Int)/\h<65536) (fun _ x=>s.size-(intOf x).toNat);case atStart=>exact⟨0,0,by omega,rfl,rfl,by omega⟩
 case round=>
 obtain⟨k,v,hk,rfl,rfl,hv⟩:=hrel;by_cases h:k<s.size;{
 have hkI:(k:Int)<s.size:=by omega
 have hc:=bs_lt s (s[k]'h).toNat (by rw[<-bsc s k h];exact List.mem_of_getElem? (by rw[cf_get (List.getElem?_eq_getElem (by rw[bs_len];exact h))];exact List.getElem?_eq_getElem _));obtain⟨v',hv'⟩:∃v',(2*v+40503*((s[k]'h).toNat+1))%65536=v':=⟨_,rfl⟩;have hvb:v'<65536:=by omega
 have hvE:(2*(v:Int)+40503*(((s[k]'h).toNat:Int)+1))%65536=v':=by omega
 have hvT:Int.tmod (2*(v:Int)+40503*(((s[k]'h).toNat:Int)+1)) 65536=v':=by rw[Int.tmod_eq_emod_of_nonneg (by omega)];exact hvE
 clear hv';obtain⟨j,hj⟩:=zNm (k+1);have hjI:(k:Int)+1=j:=by omega
 by_cases h96:j=96;{
 have f1:((j:Int)==96)=true:=by rw[h96];rfl
 clear h96 hj;go_wp2;go_ret;exact⟨RetN.of ⟨by omega,by omega⟩,rfl⟩};{
 have f1:((j:Int)==96)=false:=by rw[beq_eq_false_iff_ne];omega
 by_cases h16:16<=j;{
 have f2:(16:Int)<=j:=by omega
 by_cases hvs:v'<2048;{
 have f3:(v':Int)<2048:=by omega
 clear hj;go_wp2;go_ret;exact⟨RetN.of ⟨by omega,by omega⟩,rfl⟩};{
 have f3:¬(v':Int)<2048:=by omega
 clear hj;go_wp2;go_round;case rel=>exact⟨j,v',by omega,rfl,rfl,hvb⟩
 case measure=>simp[intOf];omega}};{
 have f2:¬(16:Int)<=j:=by omega
 clear hj;go_wp2;go_round;case rel=>exact⟨j,v',by omega,rfl,rfl,hvb⟩
 case measure=>simp[intOf];omega}}};{
 have hkI:¬(k:Int)<s.size:=by omega
 go_wp2;go_ret;exact⟨RetN.of ⟨h0,Nat.le_refl _⟩,rfl⟩}
def RetStrs (B:Nat) (W:World) (p:List ByteArray->Prop) (e:Ending):Prop:=∃v l,e=.returned v/\W.ownsRow B 9 1 v l.length (l.map .string)/\p l
def sizes:List ByteArray->Nat
 |[]=>0
 |x::r=>x.size+sizes r
theorem sizes_app (l m:List ByteArray):sizes (l++m)=sizes l+sizes m:=by
 induction l with
 |nil=>simp[sizes]
 |cons x r ih=>rw[List.cons_append,sizes,sizes,ih];omega
theorem split33_any (w:World) (s:ByteArray) (hs:s.size<=1000000):Calls prog 220 #[.string s] w fun e w'=>RetStrs w.heap.size w' (fun l=>(∀x∈l,0<x.size/\x.size<=s.size)/\l.length<=s.size/\sizes l=s.size) e/\Below w.heap.size w w':=by
 obtain⟨iS,hi,hq0,hq1,hq2⟩:=infoV_parts Tryz.infoStrV;have HiS:Hid (prog.info? 9=some iS/\iS.zero=some (.string ⟨#[]⟩)/\iS.size=1/\iS.bytes=16):=zY ⟨hi,hq0,hq1,hq2⟩;have HFi:=zY (fun(W:World) (d:ByteArray) (h1:d.size<=1000000) (h2:0<d.size)=>first33_any W d h1 h2);clear hi hq0 hq1 hq2;go_enter func220,ntmps220;go_wp2;go_loopw [0,3,4] (fun y v _ wr=>∃(d:ByteArray) (l:List ByteArray),y=.string d/\(∀x∈l,0<x.size/\x.size<=s.size)/\l.length+d.size<=s.size/\sizes l+d.size=s.size/\wr.ownsRow w.heap.size 9 1 v l.length (l.map .string)/\Below w.heap.size w wr) (fun y _ _ _=>match y with|.string d=>d.size|_=>0);case atStart=>exact⟨s,[],rfl,(fun x hx=>nomatch hx),by simp,by simp[sizes],ownV_new _ _ _,(Below.refl _ _).alloc (Nat.le_refl _) _⟩
 case round=>
 obtain⟨d,l,rfl,hx,hn,hsum,ho,hB⟩:=hrel;have Hx:=zY hx;have Hsum:=zY hsum;have Ho:=zY ho;have HB:=zY hB;clear hx ho hB hsum;obtain⟨Av,cv,rfl⟩:=ownV_slice Ho.out;have hds:d.size<=1000000:=by omega
 by_cases h:0<d.size;{
 have hI:(0:Int)<d.size:=by omega
 have HF:=zY (HFi.out wr d hds h);go_wp2_with fail;refine HF.mono ?_;rintro e1 w1 ⟨⟨n,rfl,hn0,hn1⟩,rfl⟩;have hnI:(n:Int)<=d.size:=by omega
 obtain⟨S,hS⟩:=zNm (d.extract 0 n);have hSz:S.size=n:=by rw[<-hS,ByteArray.size_extract];omega
 obtain⟨D,hD⟩:=zNm (d.extract n d.size);have hDz:D.size=d.size-n:=by rw[<-hD,ByteArray.size_extract];omega
 have HDz:=zY hDz;have HSz:=zY hSz;clear hSz hDz;have Hnews:Hid (∀(q:Nat) (x:Value),([.string S]:List Value)[q]?=some x->(wr.alloc (.cells #[.string S] 9)).cell? ((⟨wr.heap.size,0,none⟩:Addr).add q)=some x):=zY (fun q x hq=>by
  rw[Addr.add_lit,Nat.zero_add]
  exact(Blk.new wr 9 [.string S]).cell hq);have Hone:Hid (∀x∈([.string S]:List Value),x.oneCell'=true):=zY (by simp[Value.oneCell']);have HU:=zY (Ho.alloc (.cells #[.string S] 9));have HB6:=zY (HB.alloc HB.size (.cells #[.string S] 9));go_wp2_with (at_builtin;refine append_atV _ rfl _ _ 51 rfl w.heap.size 9 iS (.string ⟨#[]⟩) 1 16 underlying51 HiS.1 HiS.2.1 HiS.2.2.1 HiS.2.2.2 rfl (by omega) (.slice Av l.length cv) l.length _ rfl HU.out ⟨wr.heap.size,0,none⟩ 1 1 _ rfl rfl Hnews.out Hone.out (by unfold maxLen;omega) (by omega) HB6.size ?_;intro va wa hob hgb _;have KU:=zY hob;have KB:=zY (HB6.grown hgb HB6.size (ownV_ge HU.out));clear hob hgb);go_roundw;case rel=>exact⟨D,l++[S],rfl,fun x hx=>by
  rcases List.mem_append.1 hx with hx|hx
  ·exact Hx.out x hx
  ·rw[List.mem_singleton.1 hx,HSz.out];omega,by rw[List.length_append,HDz.out];simp;omega,by rw[sizes_app,HDz.out,<-Hsum.out];simp only[sizes];rw[HSz.out];omega,by rw[List.length_append,List.map_append];exact KU.out,KB.out⟩
 case measure=>have h3:=HDz.out;simp;omega};{
 have hI:¬(0:Int)<d.size:=by omega
 go_wp2;go_ret;exact⟨⟨_,l,rfl,Ho.out,Hx.out,by omega,by have:=Hsum.out;omega⟩,HB.out⟩}
def RetS (p:ByteArray->Prop) (e:Ending):Prop:=∃s,e=.returned (.string s)/\p s
theorem path31_any (w:World) (v:Value) (l:List ByteArray) (hv:SeqAt strS w v l) (hl:l.length<=1000) (hz:∀x∈l,x.size<=1000):Calls prog 296 #[v] w fun e w'=>RetS (fun s=>s.size<=l.length*1001) e/\w=w':=by
 have Hv:=zY hv;have Hz:=zY hz;obtain⟨A,c,rfl,h1,h2⟩:=hv.slice;clear hv hz;go_enter func296,ntmps296;go_wp2;go_loop [3,4] (fun y x=>∃(k:Nat) (s:ByteArray),k<=l.length/\x=.int .i64 (k:Int)/\y=.string s/\s.size<=k*1001) (fun _ x=>l.length-(intOf x).toNat);case atStart=>exact⟨0,⟨#[]⟩,by omega,rfl,rfl,Nat.zero_le _⟩
 case round=>
 obtain⟨k,s,hk,rfl,rfl,hs⟩:=hrel;by_cases h:k<l.length;{
 have hkI:(k:Int)<l.length:=by omega
 obtain⟨x,hx⟩:∃x,l[k]?=some x:=⟨_,List.getElem?_eq_getElem h⟩;have hxz:=Hz.out x (List.mem_of_getElem? hx);obtain⟨_,_,e9,_,_,h4⟩:=Hv.out;cases e9;obtain⟨b,o,cs,rfl,rfl,hc⟩:=h4 k x hx;have c0:w.cell? ⟨b,o+k,none⟩=some (.string x):=by simpa [strS]using hc 0 _ rfl
 clear hc h4 hx;have hcc:¬9223372036854775807<s.size+x.size:=by omega
 by_cases h0:k=0;{
 subst h0;rw[Nat.add_zero]at c0;rw[show ((0:Nat):Int)=0 from rfl];go_wp2;go_round;case rel=>exact⟨1,_,by omega,by go_num,rfl,by rw[ByteArray.size_append];omega⟩
 case measure=>simp[intOf];omega};{
 have f1:(0:Int)<k:=by omega
 have n0:0<k:=by omega
 have hcd:¬9223372036854775807<s.size+1:=by omega
 have hce:¬9223372036854775807<s.size+1+x.size:=by omega
 go_wp2;go_round;case rel=>exact⟨k+1,_,by omega,by go_num,rfl,by rw[ByteArray.size_append,ByteArray.size_append];show s.size+1+x.size<=_;omega⟩
 case measure=>simp[intOf];omega}};{
 obtain rfl:k=l.length:=by omega
 have hkI:¬((l.length:Nat):Int)<(l.length:Int):=by omega
 go_wp2;go_ret;exact⟨⟨s,rfl,hs⟩,rfl⟩}
theorem cloneb_any (w:World) (v:Value) (p:List Nat) (hp:BytesAt w v p) (hl:p.length<=1000000):Calls prog 378 #[v] w fun e w'=>∃v',e=.returned v'/\BytesAt w' v' p/\Below w.heap.size w w':=by
 have hp0:=hp;obtain⟨A,c,rfl,h1,h2,h3⟩:=hp;cases A with
 |none=>(
 have hn:p=[]:=by{
 cases p with
 |nil=>rfl
 |cons x r=>
 obtain⟨b,o,u,hA,_⟩:=h3 0 x rfl;cases hA};subst hn;have heq:=Lib.run_eql_slice_nil (P:=prog) w 117 5 none 0 c 0 0 underlying117;clear h3 hp0;go_enter func378,ntmps378;go_wp2;go_ret;exact⟨_,rfl,SlAt.nil w,Below.refl _ _⟩)
 |some ad=>
 have heq:=Lib.run_eql_slice_nil (P:=prog) w 117 5 (some ad) p.length c 0 0 underlying117;have hown:=own_empty w 5 1;have hva:VAt (w.alloc (.cells #[] 5)) (.slice (some ad) p.length c) (p.map u8V):=(hp0.below ((Below.refl _ _).alloc (Nat.le_refl _) _)).vAt;have Hva:=zY hva;have H3:=zY h3;clear h3 hva hp0;go_enter func378,ntmps378;go_wp2_with (at_builtin;refine wpList_appendV _ underlying117 Tryz.infoU8 rfl (by omega) (by rfl) _ _ rfl w.heap.size _ 0 [] rfl _ rfl hown (p.map u8V) Hva.out (one_u8s p) (by simpa using hl) (by simp) ?_;intro v' w1 hown1 hg1 hat1 hb1);go_ret;simp only[Nat.zero_add,List.nil_append]at hown1;exact⟨v',rfl,BytesAt.of_own hown1,((Below.refl _ _).alloc (Nat.le_refl _) _).trans hb1⟩
theorem ptrim_any (w:World) (v:Value) (p:List Nat) (hp:BytesAt w v p) (hl:p.length<=1000000):Calls prog 376 #[v] w fun e w'=>∃v',e=.returned v'/\BytesAt w' v' (ptrim p)/\Below w.heap.size w w':=by
 have Hp0:=zY hp;obtain⟨A,c,rfl,h1,h2,h3⟩:=hp;clear h3;go_enter func376,ntmps376;go_wp2;go_loop [3] (fun x=>∃k:Nat,k<=p.length/\x=.int .i64 k/\ptrim (p.take k)=ptrim p) (fun x=>(intOf x).toNat);case atStart=>exact⟨p.length,Nat.le_refl _,rfl,by rw[List.take_length]⟩
 case round=>
 obtain⟨k,hk,rfl,ht⟩:=hrel;have Ht:=zY ht;clear ht;have hsl:=(Hp0.out).take hk;have hlk:(p.take k).length<=1000000:=by rw[List.length_take];omega
 have hck:=cloneb_any w (.slice A k c) (p.take k) hsl hlk;have Hck:=zY hck;clear hsl hck hlk;by_cases h0:k=0;{
 subst h0;have e:ptrim p=p.take 0:=by rw[<-Ht.out];rfl
 have He:=zY e;clear e;go_wp2_with (go_at_call 378;refine Hck.mono ?_;rintro e w1 ⟨v1,rfl,hv1,hb1⟩);go_ret;exact⟨v1,rfl,by rw[He.out];exact hv1,hb1⟩};{
 have hkp:k-1<p.length:=by omega
 have hp1:p[k-1]?=some (p[k-1]'hkp):=List.getElem?_eq_getElem hkp;obtain⟨b,o,rfl,hc⟩:=Hp0.cell hp1;have hs1:IntKind.i64.wrap ((k:Int)-1)=((k-1:Nat):Int):=by rw[zIw (by omega)];omega
 have htk:p.take k=p.take (k-1)++[p[k-1]'hkp]:=by have:=List.take_add_one (l:=p) (i:=k-1);rw[hp1,show k-1+1=k by omega]at this;exact this
 have hkI:(0:Int)<k:=by omega
 have hkJ:((k-1:Nat):Int)<p.length:=by omega
 generalize p[k-1]'hkp=x at *;clear hp1;by_cases hx:x=0;{
 subst hx;have hst:ptrim (p.take (k-1))=ptrim p:=by rw[<-Ht.out,htk,ptrim_snoc_zero]
 have Hst:=zY hst;clear hst htk;go_wp2;go_round;case rel=>exact⟨k-1,by omega,rfl,Hst.out⟩
 case measure=>simp[intOf];omega};{
 have e:ptrim p=p.take k:=by rw[<-Ht.out,htk,ptrim_snoc_other _ hx]
 have He:=zY e;have hxI:((x:Int)==0)=false:=by rw[beq_eq_false_iff_ne];omega
 clear e htk;go_wp2_with (go_at_call 378;refine Hck.mono ?_;rintro e w1 ⟨v1,rfl,hv1,hb1⟩);go_ret;exact⟨v1,rfl,by rw[He.out];exact hv1,hb1⟩}}
theorem make_u8_sum (a b:Nat) (ha:a<=100000) (hb:b<=100000) (w:World):(Instr.makeSlice 117 (.int .i64 ((a:Int)+b)) (.int .i64 ((a:Int)+b))).run prog w=.ok (.slice (some ⟨w.heap.size,0,none⟩) (a+b) (a+b)) (w.alloc (.cells (arrB (List.replicate (a+b) 0)) 5)):=by
 have e:(a:Int)+b=((a+b:Nat):Int):=by omega
 rw[e];exact make_u8 _ _ (Nat.le_refl _) (by omega) w
def mulL (p q:List Nat) (n i k:Nat):List Nat:=(List.range n).map fun m=>cv p q i m^^^(if i<=m/\m<i+k then gmul (cf p i) (cf q (m-i)) else 0)
theorem mulL_len (p q:List Nat) (n i k:Nat):(mulL p q n i k).length=n:=by unfold mulL;simp
theorem mulL_get {p q:List Nat} {n i k:Nat} (h:i+k<n):(mulL p q n i k)[i+k]?=some (cv p q i (i+k)):=by
 unfold mulL;rw[List.getElem?_map,List.getElem?_range h];simp
theorem mulL_set {p q:List Nat} {n i k:Nat} (h:i+k<n):(mulL p q n i k).set (i+k) (cv p q i (i+k)^^^gmul (cf p i) (cf q k))=mulL p q n i (k+1):=by
 refine List.ext_getElem? fun j=>?_;rw[List.getElem?_set,mulL_len];unfold mulL;rw[List.getElem?_map,List.getElem?_map];by_cases hj:j<n;{
 rw[List.getElem?_range hj];by_cases hjk:i+k=j;{
 subst hjk;have e:i+k-i=k:=by omega
 simp[hj,e]};{
 rw[if_neg hjk];by_cases h1:i<=j/\j<i+k;{
 have h2:i<=j/\j<i+(k+1):=by omega
 simp only[Option.map_some,if_pos h1,if_pos h2]};{
 have h2:¬(i<=j/\j<i+(k+1)):=by omega
 simp only[Option.map_some,if_neg h1,if_neg h2]}}};{
 rw[List.getElem?_eq_none (by simpa using hj),if_neg (by omega)];rfl}
theorem mulL_row (p q:List Nat) (n i:Nat):mulL p q n i q.length=mulL p q n (i+1) 0:=by
 unfold mulL;refine List.map_congr_left fun m _=>?_;have e:¬(i+1<=m/\m<i+1+0):=by omega
 rw[if_neg e];show _=(cv p q i m^^^(if i<=m then gmul (cf p i) (cf q (m-i)) else 0))^^^0;rw[Nat.xor_zero];by_cases h1:i<=m;{
 by_cases h2:m<i+q.length;{rw[if_pos ⟨h1,h2⟩,if_pos h1]};{rw[if_neg (by omega),if_pos h1,cf_big (p:=q) (by omega),gmul_zero_right]}};{rw[if_neg (by omega),if_neg h1]}
theorem mulL_zero (p q:List Nat) (n:Nat):List.replicate n 0=mulL p q n 0 0:=by
 unfold mulL;refine List.ext_getElem? fun j=>?_;rw[List.getElem?_map,List.getElem?_replicate];by_cases hj:j<n;{
 rw[if_pos hj,List.getElem?_range hj];have e:¬(0<=j/\j<0+0):=by omega
 simp[cv]};{
 rw[if_neg hj,List.getElem?_eq_none (by simpa using hj)];rfl}
theorem mulL_end (p q:List Nat):mulL p q (p.length+q.length) p.length 0=pmulR p q:=by
 unfold mulL pmulR;refine List.map_congr_left fun m _=>?_;rw[if_neg (by omega),Nat.xor_zero]
theorem pmul_any (w:World) (v u:Value) (p q:List Nat) (hp:BytesAt w v p) (hq:BytesAt w u q) (bp:Bytes p) (bq:Bytes q) (hl:p.length<=100000) (hm:q.length<=100000):Calls prog 343 #[v,u] w fun e w'=>∃v',e=.returned v'/\BytesAt w' v' (pmul p q)/\Below w.heap.size w w':=by
 have Hp0:=zY hp;have Hq0:=zY hq;obtain⟨A,c,rfl,h1,h2,h3⟩:=hp;obtain⟨A',c',rfl,h1',h2',h3'⟩:=hq;clear h3 h3';have hmk:=make_u8_sum p.length q.length hl hm;obtain⟨n,hn⟩:=zNm (p.length+q.length);rw[hn]at hmk;have hnl:n<=200000:=by omega
 have HB0:=zY (zBl w (.cells (arrB (List.replicate n 0)) 5));have hK0:U8B (w.alloc (.cells (arrB (List.replicate n 0)) 5)) w.heap.size (mulL p q n 0 0):=by have:=U8B.new w (List.replicate n 0);rw[<-mulL_zero];exact this
 have HK0:=zY hK0;clear hK0;have hn1:p.length+q.length<=n:=by omega
 have Hn:=zY hn;clear hn;go_enter func343,ntmps343;go_wp2;go_loopw [16] (fun x wr=>∃i:Nat,i<=p.length/\x=.int .i64 i/\U8B wr w.heap.size (mulL p q n i 0)/\Below w.heap.size w wr) (fun x _=>p.length-(intOf x).toNat);case atStart=>exact⟨0,by omega,rfl,HK0.out,HB0.out⟩
 case round=>
 obtain⟨i,hi,rfl,hb,hB⟩:=hrel;have Hb:=zY hb;have HBr:=zY hB;clear hb hB;by_cases h:i<p.length;{
 have hiI:(i:Int)<p.length:=by omega
 obtain⟨wo,hwo⟩:∃wo:World,wo=wr:=⟨_,rfl⟩;have Hwo:=zY hwo;clear hwo;go_wp2;go_loopw [21] (fun x wr=>∃k:Nat,k<=q.length/\x=.int .i64 k/\U8B wr w.heap.size (mulL p q n i k)/\Below w.heap.size w wr) (fun x _=>q.length-(intOf x).toNat);case atStart=>exact⟨0,by omega,rfl,Hb.out,HBr.out⟩
 case round=>
 obtain⟨k,hk,rfl,hb,hB⟩:=hrel;clear Hb HBr Hwo;have Hb:=zY hb;have HBr:=zY hB;clear hb hB;by_cases h':k<q.length;{
 have hkI:(k:Int)<q.length:=by omega
 have hpi:p[i]?=some (cf p i):=by unfold cf;rw[List.getElem?_eq_getElem h];rfl
 have hqk:q[k]?=some (cf q k):=by unfold cf;rw[List.getElem?_eq_getElem h'];rfl
 obtain⟨b,o,rfl,hc⟩:=(Hq0.below HBr.out).cell hqk;obtain⟨b',o',rfl,hc'⟩:=(Hp0.below HBr.out).cell hpi;have hik:i+k<n:=by omega
 have hc1:=Hb.cell (mulL_get (p:=p) (q:=q) hik);have hf1:=Blk.frozen Hb.out (i+k);have Hmul:=zY (fun W=>gmul_any W (cf p i) (cf q k) (cf_lt bp i) (cf_lt bq k));have Hadd:=zY (fun W=>gadd_any W (cv p q i (i+k)) (gmul (cf p i) (cf q k)) (cv_lt bp _ _) (gmul_lt _ (cf_lt bp i)));have Hset:=zY (mulL_set (p:=p) (q:=q) hik▸U8B.set Hb.out (i+k) (cv p q i (i+k)^^^gmul (cf p i) (cf q k)));clear hpi hqk;generalize gmul (cf p i) (cf q k)=z at *;generalize cf p i=x at *;generalize cf q k=y at *;generalize cv p q i (i+k)=s at *;have hs1:IntKind.i64.wrap ((i:Int)+k)=(i:Int)+k:=zIw (by omega);have hs2:((i:Int)+k).toNat=i+k:=by omega
 have hs3:(0:Int)<=(i:Int)+k:=by omega
 have hs4:(i:Int)+k<n:=by omega
 go_wp2;go_still_tail 21,(by kernel_rfl);still_call (still_of (Hmul.out _));repeat still_step
 still_call (still_of (Hadd.out _));repeat still_step
 refine wpStill_nil ?_;go_wp2;clear hs1 hs2 hs3 hs4;go_roundw;case rel=>exact⟨k+1,by omega,by go_num,Hset.out,(HBr.setCell (p:=⟨w.heap.size,i+k,none⟩) (Nat.le_refl _) _).drew⟩
 case measure=>simp[intOf];omega};{
 have hkn:k=q.length:=by omega
 subst hkn;have Hb2:=zY (mulL_row p q n i▸Hb.out);clear Hb;go_wp2;go_roundw;case rel=>exact⟨i+1,by omega,by go_num,Hb2.out,HBr.out⟩
 case measure=>simp[intOf];omega}};{
 have hin:i=p.length:=by omega
 subst hin;have hl2:(pmulR p q).length=n:=by rw[pmulR_len,Hn.out]
 have hv:BytesAt wr (.slice (some ⟨w.heap.size,0,none⟩) n n) (pmulR p q):=by rw[<-mulL_end,Hn.out];exact U8B.bytes Hb.out (by rw[mulL_len]) (Nat.le_refl _) (by omega)
 have Ht:=zY (ptrim_any wr _ (pmulR p q) hv (by omega));clear hl2 hv;go_wp2_with (go_at_call 376;refine Ht.mono ?_;rintro e w1 ⟨v1,rfl,hv1,hb1⟩);go_ret;exact⟨v1,rfl,hv1,HBr.trans (hb1.mono HBr.size)⟩}
theorem make_u8_8 (w:World):(Instr.makeSlice 117 (.int .i64 8) (.int .i64 8)).run prog w=.ok (.slice (some ⟨w.heap.size,0,none⟩) 8 8) (w.alloc (.cells (arrB (List.replicate 8 0)) 5)):=make_u8 8 8 (Nat.le_refl _) (by omega) w
end
end Go.Proofs.YthgenkkkapilhaaGreatDoor