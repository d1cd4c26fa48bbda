/-
  Joined: VoD VoQ PolW RangeOwnz.
-/
import Derived.Test.YthgenkkkapilhaaGreatDoorVQn04
set_option linter.all false
set_option maxRecDepth 100000
set_option maxHeartbeats 64000000
namespace Go.Proofs.YthgenkkkapilhaaGreatDoor
open Go.Proofs.Tryz
section
open Go.RowKit
def digD (u:Nat):List Nat:=if u<10 then [48+u] else digD (u/10)++digD (u%10)
termination_by u
decreasing_by all_goals omega
theorem digD_small {u:Nat} (h:u<10):digD u=[48+u]:=by rw[digD,if_pos h]
theorem digD_great {u:Nat} (h:¬u<10):digD u=digD (u/10)++digD (u%10):=by rw[digD,if_neg h]
theorem digD_len:∀(n u:Nat),u<10^(n+1)->(digD u).length<=n+1:=by
 intro n;induction n with
 |zero=>intro u h;rw[digD_small (by simpa using h)];simp
 |succ n ih=>
 intro u h;by_cases h1:u<10;{rw[digD_small h1];simp};{
 rw[digD_great h1,List.length_append,digD_small (u:=u%10) (by omega)];have:=ih (u/10) (by rw[Nat.pow_succ]at h;omega);simp;omega}
theorem digD_bytes:∀(u:Nat),∀b∈digD u,48<=b/\b<58:=by
 intro u;induction u using Nat.strongRecOn with
 |_ u ih=>
 intro b hb;by_cases h1:u<10;{
 rw[digD_small h1,List.mem_singleton]at hb;omega};{
 rw[digD_great h1]at hb;rcases List.mem_append.1 hb with hb|hb;{exact ih (u/10) (by omega) b hb};{exact ih (u%10) (by omega) b hb}}
theorem digD_len20 {u:Nat} (h:u<18446744073709551616):(digD u).length<=20:=digD_len 19 u (by omega)
def numL (n:Nat):List Nat:=digD n++[32]
def nstL (s:List Nat):List Nat:=digD s.length++[58]++s++[44]
theorem digits_any:∀(u:Nat),u<18446744073709551616->∀w:World,Calls prog 241 #[.int .u64 (u:Int)] w fun e w'=>e=.returned (.string (strB (digD u)))/\w=w':=by
 intro u;induction u using Nat.strongRecOn with
 |_ u ih=>
 intro hu w;by_cases h:u<10;{
 have hI:(u:Int)<10:=by omega
 have hx:(⟨#[48,49,50,51,52,53,54,55,56,57]⟩:ByteArray).extract u (u+1)=strB (digD u):=by{
 rw[digD_small h];have:u=0∨u=1∨u=2∨u=3∨u=4∨u=5∨u=6∨u=7∨u=8∨u=9:=by omega
 rcases this with rfl|rfl|rfl|rfl|rfl|rfl|rfl|rfl|rfl|rfl<;>rfl};have HX:=zY hx;clear hx ih;go_enter func241,ntmps241;go_wp2;go_ret;exact⟨by rw[<-HX.out];rfl,rfl⟩};{
 have hI:¬(u:Int)<10:=by omega
 obtain⟨q,hq⟩:=zNm (u/10);obtain⟨r,hr⟩:=zNm (u%10);have HD:=zY (digD_great h);rw[hq,hr]at HD;have H1:=zY (ih q (by omega) (by omega));have H2:=zY (ih r (by omega) (by omega));have hqI:Int.tdiv (u:Int) 10=q:=by rw[Int.tdiv_eq_ediv_of_nonneg (by omega)];omega
 have hrI:Int.tmod (u:Int) 10=r:=by rw[Int.tmod_eq_emod_of_nonneg (by omega)];omega
 have hqE:(u:Int)/10=q:=by omega
 have hrE:(u:Int)%10=r:=by omega
 have hs1:(strB (digD q)).size<=20:=by rw[strB_size];exact digD_len20 (by omega)
 have hs2:(strB (digD r)).size<=20:=by rw[strB_size];exact digD_len20 (by omega)
 have Hc:=zY (strB_cat (digD q) (digD r));clear ih hq hr;generalize strB (digD q)=Q at *;generalize strB (digD r)=T at *;have hcc:¬9223372036854775807<Q.size+T.size:=by omega
 go_enter func241,ntmps241;go_wp2_with fail;refine(H1.out _).mono ?_;rintro e1 w1 ⟨rfl,rfl⟩;go_wp2_with fail;refine(H2.out _).mono ?_;rintro e2 w2 ⟨rfl,rfl⟩;go_wp2_with fail;go_ret;exact⟨by rw[HD.out,<-Hc.out]<;>rfl,rfl⟩}
theorem dec_any (w:World) (n:Nat) (hn:n<9223372036854775808):Calls prog 163 #[.int .i64 (n:Int)] w fun e w'=>e=.returned (.string (strB (digD n)))/\w=w':=by
 have hI:¬(n:Int)<0:=by omega
 have hw:IntKind.u64.wrap (n:Int)=n:=IntWalk.u64_in _ (by omega);have H1:=zY (digits_any n (by omega));go_enter func163,ntmps163;go_wp2_with fail;refine(H1.out _).mono ?_;rintro e1 w1 ⟨rfl,rfl⟩;go_wp2_with fail;go_ret;exact⟨rfl,rfl⟩
theorem number_any (w:World) (n:Nat) (hn:n<9223372036854775808):Calls prog 160 #[.int .i64 (n:Int)] w fun e w'=>e=.returned (.string (strB (numL n)))/\w=w':=by
 have H1:=zY (fun W=>dec_any W n hn);have hs1:(strB (digD n)).size<=20:=by rw[strB_size];exact digD_len20 (by omega)
 have Hc:Hid (strB (digD n)++⟨#[32]⟩=strB (numL n)):=zY (strB_cat (digD n) [32]);generalize strB (digD n)=Q at *;have hcc:¬9223372036854775807<Q.size+1:=by omega
 go_enter func160,ntmps160;go_wp2_with fail;refine(H1.out _).mono ?_;rintro e1 w1 ⟨rfl,rfl⟩;go_wp2_with fail;go_ret;exact⟨by rw[<-Hc.out]<;>rfl,rfl⟩
theorem nstring_any (w:World) (s:ByteArray) (hs:s.size<=100000000):Calls prog 89 #[.string s] w fun e w'=>e=.returned (.string (strB (nstL (bs s))))/\w=w':=by
 have H1:=zY (fun W=>dec_any W s.size (by omega));have hs1:(strB (digD s.size)).size<=20:=by rw[strB_size];exact digD_len20 (by omega)
 have hc:strB (digD s.size)++⟨#[58]⟩++s++⟨#[44]⟩=strB (nstL (bs s)):=by have e1:=strB_cat (digD s.size) [58];have e2:=strB_cat (digD s.size++[58]) (bs s);have e3:=strB_cat (digD s.size++[58]++bs s) [44];rw[strB_bs]at e2;rw[<-e1]at e2;rw[<-e2]at e3;rw[nstL,bs_len];exact e3
 have Hc:=zY hc;clear hc;generalize strB (digD s.size)=Q at *;have hcc:¬9223372036854775807<Q.size+1:=by omega
 have hcd:¬9223372036854775807<Q.size+1+s.size:=by omega
 have hce:¬9223372036854775807<Q.size+1+s.size+1:=by omega
 go_enter func89,ntmps89;go_wp2_with fail;refine(H1.out _).mono ?_;rintro e1 w1 ⟨rfl,rfl⟩;go_wp2_with fail;go_ret;exact⟨by rw[<-Hc.out]<;>rfl,rfl⟩
def RetB (e:Ending):Prop:=∃b,e=.returned (.bool b)
def RetI (e:Ending):Prop:=∃n:Int,e=.returned (.int .i64 n)
theorem RetB.of (b:Bool):RetB (.returned (.bool b)):=⟨b,rfl⟩
theorem RetI.of (n:Int):RetI (.returned (.int .i64 n)):=⟨n,rfl⟩
theorem under_any (w:World) (s d:ByteArray) (hs:s.size<=1000000) (hd:d.size<=1000000):Calls prog 226 #[.string s,.string d] w fun e w'=>RetB e/\Below w.heap.size w w':=by
 have HCs:=zY (fun W=>path_any W s hs);have HCd:=zY (fun W=>path_any W d hd);have HEs:=zY (fun W=>elems_any W s hs);have HEd:=zY (fun W=>elems_any W d hd);have hl1:=(elemsL_size (s:=bs s)).2;have hl2:=(elemsL_size (s:=bs d)).2;rw[bs_len]at hl1 hl2;generalize pathE (bs s)=P at *;generalize pathE (bs d)=Q at *;generalize elemsL (bs s)=L at *;generalize elemsL (bs d)=M at *;go_enter func226,ntmps226;go_wp2_with fail;refine(HCs.out _).mono ?_;rintro e1 w1 ⟨rfl,hb1⟩;have HB1:=zY hb1;clear hb1;by_cases h0:P=0;{
 subst h0;go_wp2_with fail;refine(HCd.out _).mono ?_;rintro e2 w2 ⟨rfl,hb2⟩;have HB2:=zYt HB1 hb2;clear hb2 HB1;by_cases h1:Q=0;{
 subst h1;go_wp2_with fail;refine(HEs.out _).mono ?_;rintro e3 w3 ⟨v3,rfl,ho3,hb3⟩;have HO3:=zY ho3;have HB3:=zYt HB2 hb3;clear ho3 hb3 HB2;go_wp2_with fail;refine(HEd.out _).mono ?_;rintro e4 w2 ⟨v4,rfl,ho4,hb4⟩;have HL:=zY (ownV_below HO3.out hb4);have HM:=zY ho4;have HB4:=zYt HB3 hb4;clear ho4 hb4 HB3 HO3;obtain⟨A1,k1,rfl⟩:=ownV_slice HL.out;obtain⟨A2,k2,rfl⟩:=ownV_slice HM.out;by_cases hlt:L.length<M.length;{
 have f1:(L.length:Int)<M.length:=by omega
 go_wp2;go_ret;exact⟨RetB.of false,HB4.out⟩};{
 have f1:¬(L.length:Int)<M.length:=by omega
 go_wp2;go_loopw [7] (fun x wr=>∃i:Nat,i<=M.length/\x=.int .i64 (i:Int)/\Below w2.heap.size w2 wr) (fun x _=>M.length-(intOf x).toNat);case atStart=>exact⟨0,by omega,rfl,Below.refl _ _⟩
 case round=>
 obtain⟨i,hi,rfl,hB⟩:=hrel;have HB:=zY hB;clear hB;by_cases h:i<M.length;{
 have hiI:(i:Int)<M.length:=by omega
 have hiL:(i:Int)<L.length:=by omega
 have hMi:i<M.length:=h;have hLi:i<L.length:=by omega
 obtain⟨p,hp⟩:∃p,L[i]?=some p:=⟨_,List.getElem?_eq_getElem hLi⟩;obtain⟨q,hq⟩:∃q,M[i]?=some q:=⟨_,List.getElem?_eq_getElem hMi⟩;obtain⟨g1,k1,e8,_⟩:=ownV_at HL.out (by omega);obtain⟨g2,k2,e9,_⟩:=ownV_at HM.out (by omega);cases e8;cases e9;have c1:w2.cell? ⟨g1,i,none⟩=some (.string (strB p)):=by rw[HL.cellAt i (by omega),strsV,List.getElem?_map,hp];rfl
 have c2:w2.cell? ⟨g2,i,none⟩=some (.string (strB q)):=by rw[HM.cellAt i (by omega),strsV,List.getElem?_map,hq];rfl
 have c1:=cell_below HB.out c1;have c2:=cell_below HB.out c2;clear hp hq hLi hMi;generalize strB p=X at *;generalize strB q=Y at *;by_cases hxy:X=Y;{
 subst hxy;have b1:(X != X)=false:=bneV_false rfl;have b2:(X==X)=true:=beqV_true rfl;go_upto_region 9 with fail;go_quiet (fail);go_wp2;go_roundw;case rel=>exact⟨i+1,by omega,by go_num,zBd HB.out _⟩
 case measure=>simp[intOf];omega};{
 have b1:(X != Y)=true:=bneV_true hxy;have b2:(X==Y)=false:=beqV_false hxy;have b3:¬X.toList=Y.toList:=fun e=>hxy (by rw[ByteArray.toList_eq,ByteArray.toList_eq]at e;exact ByteArray.ext (Array.toList_inj.1 e));have b4:(X.toList==Y.toList)=false:=by rw[beq_eq_false_iff_ne];exact b3
 clear hxy;go_upto_region 9 with fail;go_quiet (fail);go_wp2;go_ret;exact⟨RetB.of false,HB4.trans ((zBd HB.out _).mono HB4.size)⟩}};{
 have hiI:¬(i:Int)<M.length:=by omega
 go_wp2;go_ret;exact⟨RetB.of true,HB4.trans (HB.mono HB4.size)⟩}}};{
 have hne:(Q != 0)=true:=by rw[bne_iff_ne];exact h1
 go_wp2_with fail;go_ret;exact⟨RetB.of false,HB2.out⟩}};{
 have hne:(P != 0)=true:=by rw[bne_iff_ne];exact h0
 go_wp2_with fail;first|(refine⟨trivial,?_⟩;go_wp2_with fail)|skip
 go_ret;exact⟨RetB.of false,HB1.out⟩}
theorem cloneb_any (w:World) (v:Value) (p:List Nat) (hp:BytesAt w v p) (hl:p.length<=1000000):Calls prog 378 #[v] w fun e w'=>∃v',e=.returned v'/\BytesAt w' v' p/\Below w.heap.size w w':=by
 have hp0:=hp;obtain⟨A,c,rfl,h1,h2,h3⟩:=hp;cases A with
 |none=>(
 have hn:p=[]:=by{
 cases p with
 |nil=>rfl
 |cons x r=>
 obtain⟨b,o,u,hA,_⟩:=h3 0 x rfl;cases hA};subst hn;have heq:=Lib.run_eql_slice_nil (P:=prog) w 117 5 none 0 c 0 0 underlying117;clear h3 hp0;go_enter func378,ntmps378;go_wp2;go_ret;exact⟨_,rfl,SlAt.nil w,Below.refl _ _⟩)
 |some ad=>
 have heq:=Lib.run_eql_slice_nil (P:=prog) w 117 5 (some ad) p.length c 0 0 underlying117;have hown:=own_empty w 5 1;have hva:VAt (w.alloc (.cells #[] 5)) (.slice (some ad) p.length c) (p.map u8V):=(hp0.below ((Below.refl _ _).alloc (Nat.le_refl _) _)).vAt;have Hva:=zY hva;have H3:=zY h3;clear h3 hva hp0;go_enter func378,ntmps378;go_wp2_with (at_builtin;refine wpList_appendV _ underlying117 Tryz.infoU8 rfl (by omega) (by rfl) _ _ rfl w.heap.size _ 0 [] rfl _ rfl hown (p.map u8V) Hva.out (one_u8s p) (by simpa using hl) (by simp) ?_;intro v' w1 hown1 hg1 hat1 hb1);go_ret;simp only[Nat.zero_add,List.nil_append]at hown1;exact⟨v',rfl,BytesAt.of_own hown1,((Below.refl _ _).alloc (Nat.le_refl _) _).trans hb1⟩
theorem ptrim_any (w:World) (v:Value) (p:List Nat) (hp:BytesAt w v p) (hl:p.length<=1000000):Calls prog 376 #[v] w fun e w'=>∃v',e=.returned v'/\BytesAt w' v' (ptrim p)/\Below w.heap.size w w':=by
 have Hp0:=zY hp;obtain⟨A,c,rfl,h1,h2,h3⟩:=hp;clear h3;go_enter func376,ntmps376;go_wp2;go_loop [3] (fun x=>∃k:Nat,k<=p.length/\x=.int .i64 k/\ptrim (p.take k)=ptrim p) (fun x=>(intOf x).toNat);case atStart=>exact⟨p.length,Nat.le_refl _,rfl,by rw[List.take_length]⟩
 case round=>
 obtain⟨k,hk,rfl,ht⟩:=hrel;have Ht:=zY ht;clear ht;have hsl:=(Hp0.out).take hk;have hlk:(p.take k).length<=1000000:=by rw[List.length_take];omega
 have hck:=cloneb_any w (.slice A k c) (p.take k) hsl hlk;have Hck:=zY hck;clear hsl hck hlk;by_cases h0:k=0;{
 subst h0;have e:ptrim p=p.take 0:=by rw[<-Ht.out];rfl
 have He:=zY e;clear e;go_wp2_with (go_at_call 378;refine Hck.mono ?_;rintro e w1 ⟨v1,rfl,hv1,hb1⟩);go_ret;exact⟨v1,rfl,by rw[He.out];exact hv1,hb1⟩};{
 have hkp:k-1<p.length:=by omega
 have hp1:p[k-1]?=some (p[k-1]'hkp):=List.getElem?_eq_getElem hkp;obtain⟨b,o,rfl,hc⟩:=Hp0.cell hp1;have hs1:IntKind.i64.wrap ((k:Int)-1)=((k-1:Nat):Int):=by rw[zIw (by omega)];omega
 have htk:p.take k=p.take (k-1)++[p[k-1]'hkp]:=by have:=List.take_add_one (l:=p) (i:=k-1);rw[hp1,show k-1+1=k by omega]at this;exact this
 have hkI:(0:Int)<k:=by omega
 have hkJ:((k-1:Nat):Int)<p.length:=by omega
 generalize p[k-1]'hkp=x at *;clear hp1;by_cases hx:x=0;{
 subst hx;have hst:ptrim (p.take (k-1))=ptrim p:=by rw[<-Ht.out,htk,ptrim_snoc_zero]
 have Hst:=zY hst;clear hst htk;go_wp2;go_round;case rel=>exact⟨k-1,by omega,rfl,Hst.out⟩
 case measure=>simp[intOf];omega};{
 have e:ptrim p=p.take k:=by rw[<-Ht.out,htk,ptrim_snoc_other _ hx]
 have He:=zY e;have hxI:((x:Int)==0)=false:=by rw[beq_eq_false_iff_ne];omega
 clear e htk;go_wp2_with (go_at_call 378;refine Hck.mono ?_;rintro e w1 ⟨v1,rfl,hv1,hb1⟩);go_ret;exact⟨v1,rfl,by rw[He.out];exact hv1,hb1⟩}}
theorem make_u8_sum (a b:Nat) (ha:a<=100000) (hb:b<=100000) (w:World):(Instr.makeSlice 117 (.int .i64 ((a:Int)+b)) (.int .i64 ((a:Int)+b))).run prog w=.ok (.slice (some ⟨w.heap.size,0,none⟩) (a+b) (a+b)) (w.alloc (.cells (arrB (List.replicate (a+b) 0)) 5)):=by
 have e:(a:Int)+b=((a+b:Nat):Int):=by omega
 rw[e];exact make_u8 _ _ (Nat.le_refl _) (by omega) w
def mulL (p q:List Nat) (n i k:Nat):List Nat:=(List.range n).map fun m=>cv p q i m^^^(if i<=m/\m<i+k then gmul (cf p i) (cf q (m-i)) else 0)
theorem mulL_len (p q:List Nat) (n i k:Nat):(mulL p q n i k).length=n:=by unfold mulL;simp
theorem mulL_get {p q:List Nat} {n i k:Nat} (h:i+k<n):(mulL p q n i k)[i+k]?=some (cv p q i (i+k)):=by
 unfold mulL;rw[List.getElem?_map,List.getElem?_range h];simp
theorem mulL_set {p q:List Nat} {n i k:Nat} (h:i+k<n):(mulL p q n i k).set (i+k) (cv p q i (i+k)^^^gmul (cf p i) (cf q k))=mulL p q n i (k+1):=by
 refine List.ext_getElem? fun j=>?_;rw[List.getElem?_set,mulL_len];unfold mulL;rw[List.getElem?_map,List.getElem?_map];by_cases hj:j<n;{
 rw[List.getElem?_range hj];by_cases hjk:i+k=j;{
 subst hjk;have e:i+k-i=k:=by omega
 simp[hj,e]};{
 rw[if_neg hjk];by_cases h1:i<=j/\j<i+k;{
 have h2:i<=j/\j<i+(k+1):=by omega
 simp only[Option.map_some,if_pos h1,if_pos h2]};{
 have h2:¬(i<=j/\j<i+(k+1)):=by omega
 simp only[Option.map_some,if_neg h1,if_neg h2]}}};{
 rw[List.getElem?_eq_none (by simpa using hj),if_neg (by omega)];rfl}
theorem mulL_row (p q:List Nat) (n i:Nat):mulL p q n i q.length=mulL p q n (i+1) 0:=by
 unfold mulL;refine List.map_congr_left fun m _=>?_;have e:¬(i+1<=m/\m<i+1+0):=by omega
 rw[if_neg e];show _=(cv p q i m^^^(if i<=m then gmul (cf p i) (cf q (m-i)) else 0))^^^0;rw[Nat.xor_zero];by_cases h1:i<=m;{
 by_cases h2:m<i+q.length;{rw[if_pos ⟨h1,h2⟩,if_pos h1]};{rw[if_neg (by omega),if_pos h1,cf_big (p:=q) (by omega),gmul_zero_right]}};{rw[if_neg (by omega),if_neg h1]}
theorem mulL_zero (p q:List Nat) (n:Nat):List.replicate n 0=mulL p q n 0 0:=by
 unfold mulL;refine List.ext_getElem? fun j=>?_;rw[List.getElem?_map,List.getElem?_replicate];by_cases hj:j<n;{
 rw[if_pos hj,List.getElem?_range hj];have e:¬(0<=j/\j<0+0):=by omega
 simp[cv]};{
 rw[if_neg hj,List.getElem?_eq_none (by simpa using hj)];rfl}
theorem mulL_end (p q:List Nat):mulL p q (p.length+q.length) p.length 0=pmulR p q:=by
 unfold mulL pmulR;refine List.map_congr_left fun m _=>?_;rw[if_neg (by omega),Nat.xor_zero]
theorem pmul_any (w:World) (v u:Value) (p q:List Nat) (hp:BytesAt w v p) (hq:BytesAt w u q) (bp:Bytes p) (bq:Bytes q) (hl:p.length<=100000) (hm:q.length<=100000):Calls prog 343 #[v,u] w fun e w'=>∃v',e=.returned v'/\BytesAt w' v' (pmul p q)/\Below w.heap.size w w':=by
 have Hp0:=zY hp;have Hq0:=zY hq;obtain⟨A,c,rfl,h1,h2,h3⟩:=hp;obtain⟨A',c',rfl,h1',h2',h3'⟩:=hq;clear h3 h3';have hmk:=make_u8_sum p.length q.length hl hm;obtain⟨n,hn⟩:=zNm (p.length+q.length);rw[hn]at hmk;have hnl:n<=200000:=by omega
 have HB0:=zY (zBl w (.cells (arrB (List.replicate n 0)) 5));have hK0:U8B (w.alloc (.cells (arrB (List.replicate n 0)) 5)) w.heap.size (mulL p q n 0 0):=by have:=U8B.new w (List.replicate n 0);rw[<-mulL_zero];exact this
 have HK0:=zY hK0;clear hK0;have hn1:p.length+q.length<=n:=by omega
 have Hn:=zY hn;clear hn;go_enter func343,ntmps343;go_wp2;go_loopw [16] (fun x wr=>∃i:Nat,i<=p.length/\x=.int .i64 i/\U8B wr w.heap.size (mulL p q n i 0)/\Below w.heap.size w wr) (fun x _=>p.length-(intOf x).toNat);case atStart=>exact⟨0,by omega,rfl,HK0.out,HB0.out⟩
 case round=>
 obtain⟨i,hi,rfl,hb,hB⟩:=hrel;have Hb:=zY hb;have HBr:=zY hB;clear hb hB;by_cases h:i<p.length;{
 have hiI:(i:Int)<p.length:=by omega
 obtain⟨wo,hwo⟩:∃wo:World,wo=wr:=⟨_,rfl⟩;have Hwo:=zY hwo;clear hwo;go_wp2;go_loopw [21] (fun x wr=>∃k:Nat,k<=q.length/\x=.int .i64 k/\U8B wr w.heap.size (mulL p q n i k)/\Below w.heap.size w wr) (fun x _=>q.length-(intOf x).toNat);case atStart=>exact⟨0,by omega,rfl,Hb.out,HBr.out⟩
 case round=>
 obtain⟨k,hk,rfl,hb,hB⟩:=hrel;clear Hb HBr Hwo;have Hb:=zY hb;have HBr:=zY hB;clear hb hB;by_cases h':k<q.length;{
 have hkI:(k:Int)<q.length:=by omega
 have hpi:p[i]?=some (cf p i):=by unfold cf;rw[List.getElem?_eq_getElem h];rfl
 have hqk:q[k]?=some (cf q k):=by unfold cf;rw[List.getElem?_eq_getElem h'];rfl
 obtain⟨b,o,rfl,hc⟩:=(Hq0.below HBr.out).cell hqk;obtain⟨b',o',rfl,hc'⟩:=(Hp0.below HBr.out).cell hpi;have hik:i+k<n:=by omega
 have hc1:=Hb.cell (mulL_get (p:=p) (q:=q) hik);have hf1:=Blk.frozen Hb.out (i+k);have Hmul:=zY (fun W=>gmul_any W (cf p i) (cf q k) (cf_lt bp i) (cf_lt bq k));have Hadd:=zY (fun W=>gadd_any W (cv p q i (i+k)) (gmul (cf p i) (cf q k)) (cv_lt bp _ _) (gmul_lt _ (cf_lt bp i)));have Hset:=zY (mulL_set (p:=p) (q:=q) hik▸U8B.set Hb.out (i+k) (cv p q i (i+k)^^^gmul (cf p i) (cf q k)));clear hpi hqk;generalize gmul (cf p i) (cf q k)=z at *;generalize cf p i=x at *;generalize cf q k=y at *;generalize cv p q i (i+k)=s at *;have hs1:IntKind.i64.wrap ((i:Int)+k)=(i:Int)+k:=zIw (by omega);have hs2:((i:Int)+k).toNat=i+k:=by omega
 have hs3:(0:Int)<=(i:Int)+k:=by omega
 have hs4:(i:Int)+k<n:=by omega
 go_wp2;go_still_tail 21,(by kernel_rfl);still_call (still_of (Hmul.out _));repeat still_step
 still_call (still_of (Hadd.out _));repeat still_step
 refine wpStill_nil ?_;go_wp2;clear hs1 hs2 hs3 hs4;go_roundw;case rel=>exact⟨k+1,by omega,by go_num,Hset.out,(HBr.setCell (p:=⟨w.heap.size,i+k,none⟩) (Nat.le_refl _) _).drew⟩
 case measure=>simp[intOf];omega};{
 have hkn:k=q.length:=by omega
 subst hkn;have Hb2:=zY (mulL_row p q n i▸Hb.out);clear Hb;go_wp2;go_roundw;case rel=>exact⟨i+1,by omega,by go_num,Hb2.out,HBr.out⟩
 case measure=>simp[intOf];omega}};{
 have hin:i=p.length:=by omega
 subst hin;have hl2:(pmulR p q).length=n:=by rw[pmulR_len,Hn.out]
 have hv:BytesAt wr (.slice (some ⟨w.heap.size,0,none⟩) n n) (pmulR p q):=by rw[<-mulL_end,Hn.out];exact U8B.bytes Hb.out (by rw[mulL_len]) (Nat.le_refl _) (by omega)
 have Ht:=zY (ptrim_any wr _ (pmulR p q) hv (by omega));clear hl2 hv;go_wp2_with (go_at_call 376;refine Ht.mono ?_;rintro e w1 ⟨v1,rfl,hv1,hb1⟩);go_ret;exact⟨v1,rfl,hv1,HBr.trans (hb1.mono HBr.size)⟩}
theorem drop_last {p:List Nat} {k:Nat} (h:k<p.length):p.drop (p.length-(k+1))=cf p (p.length-1-k)::p.drop (p.length-k):=by
 have e:p.length-(k+1)<p.length:=by omega
 rw[List.drop_eq_getElem_cons e,show p.length-(k+1)+1=p.length-k by omega,show p.length-1-k=p.length-(k+1) by omega];unfold cf;rw[List.getElem?_eq_getElem e];rfl
theorem peval_any (w:World) (v:Value) (p:List Nat) (x:Nat) (hp:BytesAt w v p) (bp:Bytes p) (hx:x<256) (hl:p.length<=100000):Calls prog 347 #[v,.int .u8 (x:Int)] w fun e w'=>e=.returned (.int .u8 (hev x p:Nat))/\Below w.heap.size w w':=by
 have Hp0:=zY hp;obtain⟨A,c,rfl,h1,h2,h3⟩:=hp;clear h3;go_enter func347,ntmps347;go_wp2;go_loopw [5,9] (fun s y wr=>∃k:Nat,k<=p.length/\y=.int .i64 k/\s=.int .u8 (hev x (p.drop (p.length-k)):Nat)/\Below w.heap.size w wr) (fun _ y _=>p.length-(intOf y).toNat);case atStart=>exact⟨0,by omega,rfl,by rw[Nat.sub_zero,List.drop_length];rfl,Below.refl _ _⟩
 case round=>
 obtain⟨k,hk,rfl,rfl,hB⟩:=hrel;have HBr:=zY hB;clear hB;by_cases h:k<p.length;{
 have hkI:(k:Int)<p.length:=by omega
 have hpk:p[p.length-1-k]?=some (cf p (p.length-1-k)):=by unfold cf;rw[List.getElem?_eq_getElem (by omega)];rfl
 obtain⟨b,o,rfl,hc⟩:=(Hp0.below HBr.out).cell hpk;have hb1:hev x (p.drop (p.length-k))<256:=hev_lt hx fun y hy=>bp y (List.mem_of_mem_drop hy);have Hmul:=zY (fun W=>gmul_any W _ x hb1 hx);have Hadd:=zY (fun W=>gadd_any W _ (cf p (p.length-1-k)) (gmul_lt x hb1) (cf_lt bp _));have hst:hev x (p.drop (p.length-(k+1)))=gmul (hev x (p.drop (p.length-k))) x^^^cf p (p.length-1-k):=by rw[drop_last h];rfl
 have Hst:=zY hst;clear hst hpk hb1;have hs1:IntKind.i64.wrap ((p.length:Int)-1)=(p.length:Int)-1:=zIw (by omega);have hs2:IntKind.i64.wrap ((p.length:Int)-1-k)=(p.length:Int)-1-k:=zIw (by omega);have hs3:((p.length:Int)-1-k).toNat=p.length-1-k:=by omega
 have hs4:(0:Int)<=(p.length:Int)-1-k:=by omega
 have hs5:(p.length:Int)-1-k<p.length:=by omega
 have hs6:(k:Int)<=(p.length:Int)-1:=by omega
 generalize cf p (p.length-1-k)=y at *;go_wp2;go_still_tail 12,(by kernel_rfl);still_call (still_of (Hmul.out _));repeat still_step
 still_call (still_of (Hadd.out _));repeat still_step
 refine wpStill_nil ?_;go_wp2;clear hs1 hs2 hs3 hs4 hs5 hs6;go_roundw;case rel=>exact⟨k+1,by omega,by go_num,by rw[Hst.out],HBr.drew⟩
 case measure=>simp[intOf];omega};{
 have hkn:k=p.length:=by omega
 subst hkn;have e:p.drop (p.length-p.length)=p:=by rw[Nat.sub_self];rfl
 have He:=zY e;clear e;go_wp2;go_ret;exact⟨ret_num (by rw[He.out]),HBr.out⟩}
def derL (p:List Nat) (k:Nat):List Nat:=(List.range k).map fun i=>if i%2=0 then cf p (i+1) else 0
theorem derL_snoc (p:List Nat) (k:Nat):derL p k++[if k%2=0 then cf p (k+1) else 0]=derL p (k+1):=by
 unfold derL;rw[List.range_succ,List.map_append];rfl
theorem pder_any (w:World) (v:Value) (p:List Nat) (hp:BytesAt w v p) (hl:p.length<=100000):Calls prog 346 #[v] w fun e w'=>∃v',e=.returned v'/\BytesAt w' v' (pder p)/\Below w.heap.size w w':=by
 have Hp0:=zY hp;obtain⟨A,c,rfl,h1,h2,h3⟩:=hp;clear h3;go_enter func346,ntmps346;go_wp2;go_loopw [3,4] (fun s y wr=>∃k:Nat,k<=p.length-1/\y=.int .i64 ((k+1:Nat):Int)/\wr.ownsRow w.heap.size 5 1 s k ((derL p k).map u8V)/\Below w.heap.size w wr) (fun _ y _=>p.length-(intOf y).toNat);case atStart=>exact⟨0,by omega,rfl,World.ownsRow_nil _ _ _ _,Below.refl _ _⟩
 case round=>
 obtain⟨k,hk,rfl,ho,hB⟩:=hrel;have HBr:=zY hB;have Ho:=zY ho;clear hB ho;by_cases h:k+1<p.length;{
 have hkI:((k+1:Nat):Int)<p.length:=by omega
 have hpk:p[k+1]?=some (cf p (k+1)):=by unfold cf;rw[List.getElem?_eq_getElem (by omega)];rfl
 obtain⟨b,o,rfl,hc⟩:=(Hp0.below HBr.out).cell hpk;have Hsn:=zY (derL_snoc p k);have hk9:k<=900000:=by omega
 have hBz:=HBr.size;by_cases hk2:k%2=0;{
 have hmod:(((k+1:Nat):Int)%2==1)=true:=by rw[beq_iff_eq];omega
 have Hk2:=zY hk2;clear hpk hk2;go_wp2_with (at_builtin;refine wpList_app1 rfl _ _ rfl rfl rfl Ho.out hk9 hBz ?_;intro v1 w1 ho1 hb1);go_roundw;case rel=>refine⟨k+1,by omega,by go_num,?_,HBr.trans hb1⟩;rw[<-Hsn.out,if_pos Hk2.out];exact ho1
 case measure=>simp[intOf];omega};{
 have hmod:(((k+1:Nat):Int)%2==1)=false:=by rw[beq_eq_false_iff_ne];omega
 have Hk2:=zY hk2;clear hpk hk2;go_wp2_with (at_builtin;refine wpList_app1 (x:=0) rfl _ _ rfl rfl rfl Ho.out hk9 hBz ?_;intro v1 w1 ho1 hb1);go_roundw;case rel=>refine⟨k+1,by omega,by go_num,?_,HBr.trans hb1⟩;rw[<-Hsn.out,if_neg Hk2.out];exact ho1
 case measure=>simp[intOf];omega}};{
 have hkn:k=p.length-1:=by omega
 have hlen:(derL p k).length=k:=by unfold derL;simp
 have e:pder p=ptrim (derL p k):=by rw[hkn];rfl
 have Ht:=zY (ptrim_any wr _ (derL p k) (BytesAt.of_own Ho.out) (by omega));have He:=zY e;have hI:¬((k+1:Nat):Int)<p.length:=by omega
 clear hkn hlen e;go_wp2_with (go_at_call 376;refine Ht.mono ?_;rintro e w1 ⟨v1,rfl,hv1,hb1⟩);go_ret;exact⟨v1,rfl,by rw[He.out];exact hv1,HBr.trans (hb1.mono HBr.size)⟩}
theorem make_u8_8 (w:World):(Instr.makeSlice 117 (.int .i64 8) (.int .i64 8)).run prog w=.ok (.slice (some ⟨w.heap.size,0,none⟩) 8 8) (w.alloc (.cells (arrB (List.replicate 8 0)) 5)):=make_u8 8 8 (Nat.le_refl _) (by omega) w
def synL (w:List Nat) (i s:Nat):List Nat:=(List.range 8).map fun j=>if j<i then wv (pw j) w else if j=i then s else 0
theorem synL_len (w:List Nat) (i s:Nat):(synL w i s).length=8:=by unfold synL;simp
theorem synL_get {w:List Nat} {i s:Nat} (h:i<8):(synL w i s)[i]?=some s:=by
 unfold synL;rw[List.getElem?_map,List.getElem?_range h];simp
theorem synL_set {w:List Nat} {i s t:Nat} (h:i<8):(synL w i s).set i t=synL w i t:=by
 refine List.ext_getElem? fun j=>?_;rw[List.getElem?_set,synL_len];unfold synL;rw[List.getElem?_map,List.getElem?_map];by_cases hj:j<8;{
 rw[List.getElem?_range hj];by_cases hij:i=j;{
 subst hij;simp[h]};{simp[hij,Ne.symm hij]}};{
 rw[List.getElem?_eq_none (by simpa using hj),if_neg (by omega)];rfl}
theorem synL_next (w:List Nat) (i:Nat):synL w i (wv (pw i) w)=synL w (i+1) 0:=by
 unfold synL;refine List.map_congr_left fun j _=>?_;by_cases h1:j<i;{rw[if_pos h1,if_pos (by omega)]};{
 rw[if_neg h1];by_cases h2:j=i;{
 subst h2;rw[if_pos rfl,if_pos (by omega)]};{
 rw[if_neg h2,if_neg (by omega)];split<;>rfl}}
theorem synL_zero (w:List Nat):synL w 0 0=List.replicate 8 0:=by
 refine List.ext_getElem? fun j=>?_;unfold synL;rw[List.getElem?_map,List.getElem?_replicate];by_cases hj:j<8;{
 rw[List.getElem?_range hj,if_pos hj];have:¬j<0:=by omega
 simp};{
 rw[if_neg hj,List.getElem?_eq_none (by simpa using hj)];rfl}
theorem synL_end (w:List Nat):synL w 8 0=synd w:=by
 unfold synL synd;refine List.map_congr_left fun j h=>?_;rw[if_pos (List.mem_range.1 h)]
theorem gexp_nat {i:Nat} (h:i<255):gexp (i:Int)=pw i:=by
 unfold gexp gexpN;congr 1;omega
theorem rssyn_any (w:World) (s:ByteArray) (h1:8<=s.size) (h2:s.size<=255):Calls prog 339 #[.string s,.int .i64 8] w fun e w'=>∃v,e=.returned (.tuple #[v,.int .i64 0])/\BytesAt w' v (synd (bs s))/\Below w.heap.size w w':=by
 have hmk:=make_u8_8;have h1I:¬(s.size:Int)<8:=by omega
 have h2I:¬(255:Int)<s.size:=by omega
 have HB0:=zY (zBl w (.cells (arrB [0,0,0,0,0,0,0,0]) 5));have hK0:U8B (w.alloc (.cells (arrB [0,0,0,0,0,0,0,0]) 5)) w.heap.size (synL (bs s) 0 0):=by rw[synL_zero];exact U8B.new w _
 have HK0:=zY hK0;clear hK0;go_enter func339,ntmps339;go_wp2;go_loopw [30] (fun x wr=>∃i:Nat,i<=8/\x=.int .i64 i/\U8B wr w.heap.size (synL (bs s) i 0)/\Below w.heap.size w wr) (fun x _=>8-(intOf x).toNat);case atStart=>exact⟨0,by omega,rfl,HK0.out,HB0.out⟩
 case round=>
 obtain⟨i,hi,rfl,hb,hB⟩:=hrel;have Hb:=zY hb;have HBr:=zY hB;clear hb hB;by_cases h:i<8;{
 have hiI:(i:Int)<8:=by omega
 have He:=zY (fun W=>gexp_any W (i:Int) (by omega));have Hg:=zY (gexp_nat (i:=i) (by omega));go_wp2_with (go_at_call 344;refine(He.out _).mono ?_;rintro e w1 ⟨rfl,hb1⟩);have hlt:=Blk.lt Hb.out;have Hb1:=zY (Blk.kept Hb.out hb1);have HBr1:=zYt HBr hb1;clear hb1;rw[Hg.out];obtain⟨wo,hwo⟩:∃wo:World,wo=w1:=⟨_,rfl⟩;have Hwo:=zY hwo;clear hwo;go_loopw [37] (fun x wr=>∃k:Nat,k<=s.size/\x=.int .i64 k/\U8B wr w.heap.size (synL (bs s) i (wv (pw i) ((bs s).take k)))/\Below w.heap.size w wr) (fun x _=>s.size-(intOf x).toNat);case atStart=>exact⟨0,by omega,rfl,Hb1.out,HBr1.out⟩
 case round=>
 obtain⟨k,hk,rfl,hb,hB⟩:=hrel;clear Hb HBr Hwo Hb1 HBr1;have Hb:=zY hb;have HBr:=zY hB;clear hb hB;by_cases h':k<s.size;{
 have hkI:(k:Int)<s.size:=by omega
 have hbt:Bytes ((bs s).take k):=fun b hb=>bs_lt s b (List.mem_of_mem_take hb);obtain⟨b,hb⟩:∃b:Nat,b=(s[k]'h').toNat:=⟨_,rfl⟩;have hbl:b<256:=by rw[hb];exact UInt8.toNat_lt _
 have htk:=bs_take s k h';rw[<-hb]at htk;have hst:wv (pw i) ((bs s).take (k+1))=gmul (wv (pw i) ((bs s).take k)) (pw i)^^^b:=by rw[htk,wv_snoc]
 have Hst:=zY hst;have hx:=wv_lt (x:=pw i) hbt;have hc1:=Hb.cell (synL_get (w:=bs s) h);have hf1:=Blk.frozen Hb.out i;have Hmul:=zY (fun W=>gmul_any W _ (pw i) hx (pw_lt i));have Hadd:=zY (fun W=>gadd_any W _ b (gmul_lt (pw i) hx) hbl);have Hset:=zY (synL_set (w:=bs s) (s:=wv (pw i) ((bs s).take k)) (t:=gmul (wv (pw i) ((bs s).take k)) (pw i)^^^b) h▸U8B.set Hb.out i _);have hbI:(((s[k]'h').toNat:Nat):Int)=(b:Int):=by rw[hb]
 clear hst htk hbt hb;generalize wv (pw i) ((bs s).take k)=z at *;generalize pw i=y at *;go_wp2;go_still_tail 13,(by kernel_rfl);still_call (still_of (Hmul.out _));repeat still_step
 still_call (still_of (Hadd.out _));repeat still_step
 refine wpStill_nil ?_;go_wp2;go_roundw;case rel=>exact⟨k+1,by omega,by go_num,by rw[Hst.out];exact Hset.out,(HBr.setCell (p:=⟨w.heap.size,i,none⟩) (Nat.le_refl _) _).drew⟩
 case measure=>simp[intOf];omega};{
 have hkn:k=s.size:=by omega
 subst hkn;have e:(bs s).take s.size=bs s:=by rw[<-bs_len,List.take_length]
 have Hb2:=zY (synL_next (bs s) i▸e▸Hb.out);clear Hb e;go_wp2;go_roundw;case rel=>exact⟨i+1,by omega,by go_num,Hb2.out,HBr.out⟩
 case measure=>simp[intOf];omega}};{
 have hin:i=8:=by omega
 subst hin;have hv:BytesAt wr (.slice (some ⟨w.heap.size,0,none⟩) 8 8) (synd (bs s)):=by rw[<-synL_end];exact U8B.bytes Hb.out (by rw[synL_len]) (Nat.le_refl _) (by omega)
 have Hv:=zY hv;clear hv;go_wp2;go_ret2;exact⟨_,rfl,Hv.out,HBr.out⟩}
theorem synd_bytes {w:List Nat} (h:Bytes w):Bytes (synd w):=bytes_map fun _ _=>wv_lt h
theorem all_zero {l:List Nat} (h:l.length=8):l=List.replicate 8 0↔∀j,j<8->cf l j=0:=by
 constructor;{
 rintro rfl j hj;unfold cf;rw[List.getElem?_replicate,if_pos hj];rfl};{
 intro hz;refine List.ext_getElem? fun i=>?_;rw[List.getElem?_replicate];by_cases hi:i<8;{
 rw[if_pos hi];have:=hz i hi;unfold cf at this;rw[List.getElem?_eq_getElem (by omega)]at this⊢;simpa using this};{rw[if_neg hi,List.getElem?_eq_none (by omega)]}}
def zero8 (l:List Nat):Bool:=decide (l=List.replicate 8 0)
theorem rsis_any (w:World) (s:ByteArray) (h1:8<=s.size) (h2:s.size<=255):Calls prog 350 #[.string s,.int .i64 8] w fun e w'=>e=.returned (.bool (zero8 (synd (bs s))))/\Below w.heap.size w w':=by
 have Hs:=zY (rssyn_any w s h1 h2);have hlen:=synd_len (bs s);have hby:=synd_bytes (bs_lt s);generalize synd (bs s)=L at *;go_enter func350,ntmps350;go_wp2_with (go_at_call 339;refine Hs.mono ?_;rintro e w1 ⟨v,rfl,hv,hb⟩;obtain⟨A,c,rfl,k1,k2,k3⟩:=hv;have Hv:Hid (BytesAt w1 (.slice A L.length c) L):=zY ⟨A,c,rfl,k1,k2,k3⟩;have Hb:=zY hb;clear hb k3);go_loop [17] (fun x=>∃k:Nat,k<=8/\x=.int .i64 k/\∀j,j<k->cf L j=0) (fun x=>8-(intOf x).toNat);case atStart=>exact⟨0,by omega,rfl,fun j hj=>by omega⟩
 case round=>
 obtain⟨k,hk,rfl,hz⟩:=hrel;have Hz:=zY hz;have Hl:=zY hlen;have hl8:L.length<=8:=by omega
 have hl9:8<=L.length:=by omega
 clear hz hlen;by_cases h:k<8;{
 have hkI:(k:Int)<L.length:=by omega
 have hLk:L[k]?=some (cf L k):=by unfold cf;rw[List.getElem?_eq_getElem (by omega)];rfl
 obtain⟨b,o,rfl,hc⟩:=BytesAt.cell Hv.out hLk;by_cases h0:cf L k=0;{
 have hI:((cf L k:Nat):Int)=0:=by omega
 have hI2:(((cf L k:Nat):Int) != 0)=false:=by simp[h0]
 have H0:=zY h0;have Hc:=zY hc;have hc':w1.cell? ⟨b,o+k,none⟩=some (.int .u8 0):=by rw[<-hI];exact hc
 clear hLk hc h0 hI hI2;go_wp2;go_round;case rel=>refine⟨k+1,by omega,by go_num,fun j hj=>?_⟩;rcases Nat.lt_succ_iff_lt_or_eq.1 hj with h1|rfl;{exact Hz.out j h1};{exact H0.out}
 case measure=>simp[intOf];omega};{
 have hI2:(((cf L k:Nat):Int) != 0)=true:=by rw[bne_iff_ne];omega
 have e:zero8 L=false:=by unfold zero8;rw[decide_eq_false_iff_not,all_zero Hl.out];exact fun hh=>h0 (hh k h)
 have He:=zY e;clear hLk h0 e;go_wp2;go_ret;exact⟨by rw[He.out];rfl,Hb.out⟩}};{
 have hk8:k=8:=by omega
 subst hk8;have e:zero8 L=true:=by unfold zero8;rw[decide_eq_true_eq,all_zero Hl.out];exact Hz.out
 have He:=zY e;have hI:¬(8:Int)<L.length:=by omega
 clear e;go_wp2;go_ret;exact⟨by rw[He.out];rfl,Hb.out⟩}
theorem dat_any (w:World) (v:Value) (p:List Nat) (d:Nat) (hp:BytesAt w v p):Calls prog 379 #[v,.int .i64 (d:Int)] w fun e w'=>e=.returned (.int .u8 (cf p d:Nat))/\w=w':=by
 have Hp0:=zY hp;obtain⟨A,c,rfl,h1,h2,h3⟩:=hp;clear h3;by_cases h:d<p.length;{
 have hI:(d:Int)<p.length:=by omega
 have hpd:p[d]?=some (cf p d):=by unfold cf;rw[List.getElem?_eq_getElem h];rfl
 obtain⟨b,o,rfl,hc⟩:=BytesAt.cell Hp0.out hpd;clear hpd;go_enter func379,ntmps379;go_wp2;go_ret;exact⟨rfl,rfl⟩};{
 have hI:(p.length:Int)<=d:=by omega
 have He:=zY (cf_big (p:=p) (i:=d) (by omega));go_enter func379,ntmps379;go_wp2;go_ret;exact⟨ret_num (by rw[He.out];rfl),rfl⟩}
theorem ret_bool {a b:Bool} (h:a=b):Ending.returned (.bool a)=.returned (.bool b):=by rw[h]
theorem dradius_any (w:World) (k:Nat) (hk:k<=1000):Calls prog 351 #[.int .i64 8,.int .i64 (k:Int),.int .i64 0] w fun e w'=>e=.returned (.bool (decide (k<=4)))/\w=w':=by
 have hI:(0:Int)<=k:=by omega
 go_enter func351,ntmps351;go_wp2;go_ret;exact⟨ret_bool (by simp;omega),rfl⟩
theorem bs_cf (s:ByteArray) (k:Nat) (h:k<s.size):cf (bs s) k=(s[k]'h).toNat:=cf_get (bs_get s k h)
end
section
theorem bytes_one {x:Nat} (h:x<256):Bytes [x]:=fun b hb=>by
 obtain rfl:b=x:=by simpa using hb
 exact h
end
section
open Go.RowKit
theorem clonei_nil (w:World):Calls prog 340 #[.slice none 0 0] w fun e w'=>e=.returned (.slice none 0 0)/\w=w':=by
 have heq:=Lib.run_eql_slice_nil (P:=prog) w 65 3 none 0 0 0 0 underlying65;go_enter func340,ntmps340;go_wp2;go_ret;exact⟨rfl,rfl⟩
theorem comp_nil (w:World):Calls prog 342 #[.slice none 0 0] w fun e w'=>e=.returned (.slice none 0 0)/\w=w':=by
 go_enter func342,ntmps342;go_wp2;go_ret;exact⟨rfl,rfl⟩
theorem len64_nil (w:World):Calls prog 317 #[.int .u64 0] w fun e w'=>e=.returned (.int .i64 0)/\w=w':=by
 go_enter func317,ntmps317;go_wp2;go_ret;exact⟨ret_num (by kernel_rfl),rfl⟩
theorem len_nil (w:World):Calls prog 375 #[.int .u64 0] w fun e w'=>e=.returned (.int .i64 0)/\w=w':=by
 have H:=zY (len64_nil w);go_enter func375,ntmps375;go_wp2_with (go_at_call 317;refine H.mono ?_;rintro e w' ⟨rfl,rfl⟩);go_ret;exact⟨rfl,rfl⟩
theorem ins_nil (w:World):Calls prog 393 #[.slice none 0 0,.int .i64 0,.int .i64 0] w fun e w'=>e=.returned (.tuple #[])/\w=w':=by
 go_enter func393,ntmps393;go_wp2;refine wp_loop_rounds 1 ?_;rw[rounds_succ];go_wp2;go_end0;exact⟨rfl,rfl⟩
theorem pdq_nil (w:World):Calls prog 374 #[.slice none 0 0,.int .i64 0,.int .i64 0,.int .i64 0] w fun e w'=>e=.returned (.tuple #[])/\w=w':=by
 have H:=zY (ins_nil w);go_enter func374,ntmps374;go_wp2;refine wp_loop_rounds 1 ?_;rw[rounds_succ];go_wp2_with (go_at_call 393;refine H.mono ?_;rintro e w' ⟨rfl,rfl⟩);refine bodyPost_ret (results_none rfl _ _ _) rfl ?_;exact⟨rfl,rfl⟩
theorem sort_nil (w:World):Calls prog 341 #[.slice none 0 0] w fun e w'=>e=.returned (.tuple #[])/\w=w':=by
 have H:=zY (len_nil w);have H2:=zY (pdq_nil w);go_enter func341,ntmps341;go_wp2_with (first|(go_at_call 375;refine H.mono ?_;rintro e w' ⟨rfl,rfl⟩)|(go_at_call 374;refine H2.mono ?_;rintro e w' ⟨rfl,rfl⟩));go_end0;exact⟨rfl,rfl⟩
end
end Go.Proofs.YthgenkkkapilhaaGreatDoor
namespace Go.Proofs.YthgenkkkapilhaaGreatDoor.rangeStr
open Go.Proofs.Tryz
section
open Go.RowKit Go.Proofs.YthgenkkkapilhaaGreatDoor.rangeOwn
theorem wpIn_rangeFunc_str {α:Type} {P:Program} {g:Operand} {ps:Array Tmp} {assign body:Code} {Q:Exit->Act->World->Prop} {a:Act} {w:World}
  {gf:Nat} {lb:Array Value} (hg:a.eval g=.func (.func gf) #[] lb) (eg:∀args w,(callFunc gf args).run P w=.ok (.enter gf args) w)
  {Rd:α->Array Value->World->Prop} {old:Nat->Prop} {xs:List α} (hseq:IterStr P gf lb Rd old xs w)
  (hps:∀x args W,Rd x args W->args.size=ps.size) (hRd:∀x args A B,Rd x args A->rangeOwn.Aside No w.heap.size A B->Rd x args B)
  (I:List α->World->Prop) (hI:∀s A B,I s A->w.heap.size<=A.heap.size->rangeOwn.Aside No w.heap.size A B->I s B) (h0:I [] w) (a₁:Array Value->Act)
  (hassign:∀(l:Nat) (x:α) (args:Array Value) (W:World) (K:Act->World->Prop),Rd x args W->K (a₁ args) W ->
   assign.wpIn (Fence.wide.inRound l) 0 P (Exit.then K (fun _ _ _=>False)) { tmps:=(ps.zip args).foldl (fun t (p,v)=>t.setIfInBounds p v) a.tmps,defers:=[] } W)
  (hbody:∀(l:Nat) (pre:List α) (x:α) (args:Array Value) (W:World),w.heap.size+2<=W.heap.size->I pre W->Rd x args W->(pre++[x]) <+: xs ->
   body.wpIn (Fence.wide.inRound l) 0 P (goesOn old I (pre++[x]) W) (a₁ args) W)
  (hdone:∀(D:Nat) (W:World),w.heap.size<=D->I xs W->W.heap[D]?=some (.deferred (some []))->Q .normal { a with defers:={ target:=.collected D,args:= #[] }::a.defers } W):
  (Code.rangeFunc g ps assign body).wpIn Fence.wide 0 P Q a w:=by
 refine wpIn_rangeFunc ?_;intro fn _;obtain⟨rec,hrec⟩:∃rec:LoopState->Option Code->Loop,rec=fun st pe=>{ state:=st,pending:=pe,fn,tmps:=a.tmps,params:=ps,assign,body,defers:=w.heap.size }:=⟨_,rfl⟩;obtain⟨W1,hW1⟩:=zNm ((w.alloc (.deferred (some []))).alloc (.loop (rec .ready none)));have hs1:W1.heap.size=w.heap.size+2:=by rw[<-hW1];simp
 have hL1:W1.heap[w.heap.size+1]?=some (.loop (rec .ready none)):=by rw[<-hW1];have:=World.alloc_heap_new (w.alloc (.deferred (some []))) (.loop (rec .ready none));rwa [World.size_alloc]at this
 have hK1:W1.heap[w.heap.size]?=some (.deferred (some [])):=by rw[<-hW1];exact(Below.heap_alloc _ _ _ (by simp)).trans (World.alloc_heap_new w _)
 have hb1:Below w.heap.size w W1:=by rw[<-hW1];exact((Below.refl _ w).alloc (Nat.le_refl _) _).alloc (by simp) _
 have hI1:I [] W1:=hI _ _ _ h0 (Nat.le_refl _) (rangeOwn.Aside.of_below hb1 (Nat.le_refl _));refine⟨w.heap.size+1,[{ target:=.collected w.heap.size,args:= #[] }],W1,{ target:=.fn (.func gf) lb,args:= #[.func (.yield (w.heap.size+1)) #[] #[]] },W1,gf,
  #[.func (.yield (w.heap.size + 1)) #[] #[]] ++ lb, W1, ?_, ?_, fun _ _ => trivial, ?_, (fun h => by cases h), ?_⟩;{rw[<-hW1,hrec];exact run_enterLoop_outer _ _ _ _ _};{
 simp only[resolve,hg];simp[go_sem]};{simp[invoke,go_sem,eg]};{
 refine(hseq (w.heap.size+1)
  (fun pre W=>w.heap.size+2<=W.heap.size/\I pre W/\W.heap[w.heap.size+1]?=some (.loop (rec .ready none))/\W.heap[w.heap.size]?=some (.deferred (some [])))
  W1 hb1 (fun s A B hs hsz hAB=>⟨Nat.le_trans hs.1 hAB.size,hI _ _ _ hs.2.1 (by omega) (hAB.mono (by omega)),(hAB.low _ (by omega) (fun h=>h)).trans hs.2.2.1,(hAB.low _ (by omega) (fun h=>h)).trans hs.2.2.2⟩)
  ?_ ⟨by omega,hI1,hL1,hK1⟩).mono ?_;{
 rintro pre x args W ⟨hsz,hi,hl,hk⟩ hrd hpre;have hy:=run_yield (P:=P) (args:=args) hl (by rw[hrec];exact hps x args W hrd);rw[hrec]at hy;refine⟨fn,_,assign,body,hy,roundIn_of_wpIn trivial (hassign _ x args W _ hrd ⟨_,run_beginRound hl (by rw[hrec]),?_⟩)⟩;obtain⟨W2,hW2⟩:=zNm (W.putObj (w.heap.size+1) (.loop { rec .ready none with state:=.busy }));have hA2:rangeOwn.Aside No w.heap.size W W2:=by rw[<-hW2];exact rangeOwn.Aside.putObj _ (by omega) hl rfl
 have hl2:W2.heap[w.heap.size+1]?=some (.loop { rec .ready none with state:=.busy }):=by rw[<-hW2];exact World.putObj_heap_same (by omega)
 have hk2:W2.heap[w.heap.size]?=some (.deferred (some [])):=by rw[<-hW2];exact(World.putObj_heap_other (by omega)).trans hk
 have hs2:W2.heap.size=W.heap.size:=by rw[<-hW2];simp
 rw[hW2];refine wpIn_mono (hbody _ pre x args W2 (by omega) (hI _ _ _ hi (by omega) hA2) (hRd _ _ _ _ hrd hA2) hpre) ?_;rintro e a3 W3 hp;cases e with
 |normal=>(
 obtain⟨hk3,hi3⟩:=hp;have hl3:W3.heap[w.heap.size+1]?=some (.loop { rec .ready none with state:=.busy }):=hk3.2 _ _ hl2 (.inl rfl);have hd3:W3.heap[w.heap.size]?=some (.deferred (some [])):=hk3.2 _ _ hk2 (.inl rfl);have hs3:=hk3.1;have hr:=run_endRound (P:=P) none hl3;rw[hrec]at hr;have hA4:rangeOwn.Aside No w.heap.size W3 (W3.putObj (w.heap.size+1) (.loop (rec .ready none))):=rangeOwn.Aside.putObj _ (by omega) hl3 rfl;rw[hrec]at hA4;refine⟨_,_,hr,rfl,⟨by simp;omega,hI _ _ _ hi3 (by omega) hA4,?_,?_⟩,by simp;omega,fun k o hko hkS=>?_⟩;{rw[hrec];exact World.putObj_heap_same (by omega)};{exact(World.putObj_heap_other (by omega)).trans hd3};{
 by_cases hkne:k=w.heap.size+1;{
 subst hkne;rw[hl]at hko;rw[<-hko,hrec];exact World.putObj_heap_same (by omega)};{
 refine(World.putObj_heap_other hkne).trans (hk3.2 k o ?_ hkS);rw[<-hW2];exact(World.putObj_heap_other hkne).trans hko}})
 |_=>exact hp.elim};{
 rintro e W2 ⟨⟨v,rfl⟩,hsz,hi,hl,hk⟩;refine⟨none,_,by have:=run_endLoop (P:=P) hl (by rw[hrec];simp);rw[hrec]at this;exact this,hdone _ _ (Nat.le_refl _) (hI _ _ _ hi (by omega) (rangeOwn.Aside.putObj _ (by omega) hl rfl)) ((World.putObj_heap_other (by omega)).trans hk)⟩}}
end
end Go.Proofs.YthgenkkkapilhaaGreatDoor.rangeStr