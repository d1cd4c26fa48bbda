/-
  Joined: StrWz VpA VpC VqK.
-/
import Derived.Test.YthgenkkkapilhaaGreatDoorVQn09
set_option linter.all false
set_option maxRecDepth 100000
set_option maxHeartbeats 64000000
namespace Go.Proofs.YthgenkkkapilhaaGreatDoor
open Go.Proofs.Tryz
section
open Go.RowKit
theorem inter1_any (w:World) (a b:Int):Calls prog 310 #[.int .i64 a,.int .i64 b] w fun e w'=>e=.returned (.tuple #[.int .i64 a,.int .i64 b])/\w=w':=by
 go_enter func310,ntmps310;go_wp2;go_ret2;exact⟨rfl,rfl⟩
structure Seg where
 n:Int
 d:ByteArray
def segS:Shape Seg where
 n:=2
 R _ cs x:=cs=[.int .i64 x.n,.string x.d]
 len h:=by rw[h];rfl
 one h u hu:=by
  rw[h]at hu
  simp only[List.mem_cons,List.not_mem_nil,or_false]at hu
  rcases hu with rfl|rfl<;>rfl
 keep h _:=h
structure Cnk where
 d:ByteArray
 x:Ext
def chkS:Shape Cnk where
 n:=4
 R _ cs x:=cs=[.string x.d,.int .i64 x.x.s,.int .i64 x.x.o,.int .i64 x.x.l]
 len h:=by rw[h];rfl
 one h u hu:=by
  rw[h]at hu
  simp only[List.mem_cons,List.not_mem_nil,or_false]at hu
  rcases hu with rfl|rfl|rfl|rfl<;>rfl
 keep h _:=h
structure Cha where
 k:Int
 path:ByteArray
 attrs:List Atr
 tgt:ByteArray
 cont:ByteArray
def chaS:Shape Cha where
 n:=5
 R w cs x:=∃va,cs=[.int .i64 x.k,.string x.path,va,.string x.tgt,.string x.cont]/\SeqAt atrS w va x.attrs
 len h:=by
  obtain⟨_,rfl,_⟩:=h
  rfl
 one h u hu:=by
  obtain⟨_,rfl,h1⟩:=h
  simp only[List.mem_cons,List.not_mem_nil,or_false]at hu
  rcases hu with rfl|rfl|rfl|rfl|rfl
  any_goals rfl
  exact h1.one
 keep h hb:=by
  obtain⟨va,e,h1⟩:=h
  exact⟨va,e,h1.below hb⟩
structure Bat where
 date:Int
 l:List Cha
def batS:Shape Bat where
 n:=2
 R w cs x:=∃va,cs=[.int .i64 x.date,va]/\SeqAt chaS w va x.l
 len h:=by
  obtain⟨_,rfl,_⟩:=h
  rfl
 one h u hu:=by
  obtain⟨_,rfl,h1⟩:=h
  simp only[List.mem_cons,List.not_mem_nil,or_false]at hu
  rcases hu with rfl|rfl
  ·rfl
  ·exact h1.one
 keep h hb:=by
  obtain⟨va,e,h1⟩:=h
  exact⟨va,e,h1.below hb⟩
structure Ses where
 num:Int
 date:Int
 prev:ByteArray
 ents:List Ent
 str:ByteArray
 sig:ByteArray
def sesS:Shape Ses where
 n:=6
 R w cs x:=∃ve,cs=[.int .i64 x.num,.int .i64 x.date,.string x.prev,ve,.string x.str,.string x.sig]/\SeqAt entS w ve x.ents
 len h:=by
  obtain⟨_,rfl,_⟩:=h
  rfl
 one h u hu:=by
  obtain⟨_,rfl,h1⟩:=h
  simp only[List.mem_cons,List.not_mem_nil,or_false]at hu
  rcases hu with rfl|rfl|rfl|rfl|rfl|rfl
  any_goals rfl
  exact h1.one
 keep h hb:=by
  obtain⟨va,e,h1⟩:=h
  exact⟨va,e,h1.below hb⟩
theorem Tryz.elemSeg:Elem prog 290 293 2 24 (.agg #[.int .i64 0,.string ⟨#[]⟩]):=⟨underlying290,by kernel_rfl,rfl,by decide,by decide⟩
theorem Tryz.elemChk:Elem prog 158 298 4 40 (.agg #[.string ⟨#[]⟩,.int .i64 0,.int .i64 0,.int .i64 0]):=⟨underlying158,by kernel_rfl,rfl,by decide,by decide⟩
theorem Tryz.elemExt:Elem prog 180 252 3 24 (.agg #[.int .i64 0,.int .i64 0,.int .i64 0]):=⟨underlying180,by kernel_rfl,rfl,by decide,by decide⟩
theorem Tryz.elemHol:Elem prog 161 289 2 24 (.agg #[.string ⟨#[]⟩,.int .i64 0]):=⟨underlying161,by kernel_rfl,rfl,by decide,by decide⟩
theorem Tryz.elemStr:Elem prog 51 9 1 16 (.string ⟨#[]⟩):=⟨underlying51,by kernel_rfl,rfl,by decide,by decide⟩
theorem Tryz.elemEnt:Elem prog 43 182 7 112 (.agg #[.int .i64 0,.string ⟨#[]⟩,.slice none 0 0,.string ⟨#[]⟩,.int .i64 0,.string ⟨#[]⟩,.slice none 0 0]):=⟨underlying43,by kernel_rfl,rfl,by decide,by decide⟩
theorem src1 {α:Type} {ρ:Shape α} {w0 wr:World} {t:TypeId} (cs:List Value) (x:α) {o:Obj} (h:ρ.R w0 cs x) (ho:o=.cells cs.toArray t):SrcAt ρ w0 (wr.alloc o) (.slice (some ⟨wr.heap.size,0,none⟩) 1 1) [x]:=by
 subst ho;exact SrcAt.lit h (Blk.new _ _ _)
def segSum:List Seg->Nat
 |[]=>0
 |x::r=>x.n.toNat+x.d.size+segSum r
theorem segSum_app (l m:List Seg):segSum (l++m)=segSum l+segSum m:=by
 induction l with
 |nil=>simp[segSum]
 |cons x r ih=>rw[List.cons_append,segSum,segSum,ih];omega
def SegOk (n m:Nat) (l:List Seg):Prop:=l.length<=m/\segSum l<=n/\∀x∈l,0<=x.n
theorem SegOk.snoc {n m k:Nat} {l:List Seg} {x:Seg} (h:SegOk n m l) (h0:0<=x.n) (hk:n+x.n.toNat+x.d.size<=k):SegOk k (m+1) (l++[x]):=
 ⟨by rw[List.length_append];have:=h.1;simp;omega,by rw[segSum_app];have:=h.2.1;simp only[segSum];omega,fun y hy=>by
  rcases List.mem_append.1 hy with hy|hy
  ·exact h.2.2 y hy
  ·rw[List.mem_singleton.1 hy];exact h0⟩
theorem SegOk.mono {n m n' m':Nat} {l:List Seg} (h:SegOk n m l) (hn:n<=n') (hm:m<=m'):SegOk n' m' l:=⟨by have:=h.1;omega,by have:=h.2.1;omega,h.2.2⟩
theorem SegOk.mem {n m:Nat} {l:List Seg} (h:SegOk n m l) {x:Seg} (hx:x∈l):0<=x.n/\x.n.toNat+x.d.size<=n:=by
 refine⟨h.2.2 x hx,?_⟩;have h2:=h.2.1;clear h;induction l with
 |nil=>cases hx
 |cons y r ih=>
 rw[segSum]at h2;rcases List.mem_cons.1 hx with rfl|hx;{omega};{
 have:=ih hx (by omega);omega}
def RetSegs (w0 W:World) (n:Nat) (e:Ending):Prop:=∃v l,e=.returned v/\OwnSeq segS 293 w0 W v l/\SegOk n (2*n+1) l
theorem split34_any (w:World) (s:ByteArray) (hs:s.size<=100000):Calls prog 218 #[.string s] w fun e w'=>RetSegs w w' s.size e/\Below w.heap.size w w':=by
 have HZ:=zY (fun(W:World) (i:Nat) (hi:i<=s.size)=>zeros_any W s i hi (by omega));go_enter func218,ntmps218;go_wp2;go_loopw [3,4,5,6] (fun y f x _ wr=>∃(fr i:Nat) (l:List Seg),fr<=i/\i<=s.size/\x=.int .i64 (i:Int)/\f=.int .i64 (fr:Int)/\SegOk fr (2*i) l/\OwnSeq segS 293 w wr y l/\Below w.heap.size w wr) (fun _ _ x _ _=>s.size-(intOf x).toNat);case atStart=>exact⟨0,0,[],by omega,by omega,rfl,rfl,⟨by simp,by simp[segSum],(fun x hx=>nomatch hx)⟩,OwnSeq.new _,(Below.refl _ _).alloc (Nat.le_refl _) _⟩
 case round=>
 obtain⟨fr,i,l,hfi,his,rfl,rfl,hok,ho,hB⟩:=hrel;have Hok:=zY hok;have Ho:=zY ho;have HB:=zY hB;have hll:l.length<=2*i:=hok.1;clear hok ho hB;by_cases h:i<s.size;{
 have hI:(i:Int)<s.size:=by omega
 have HF:=zY (HZ.out wr i his);go_wp2_with fail;refine HF.mono ?_;rintro e1 w1 ⟨⟨n,rfl,hn1⟩,rfl⟩;obtain⟨j,hj⟩:=zNm (i+n);have hjI:(i:Int)+n=j:=by omega
 have Hl1:Hid (l.length+1<=100000000):=zY (by omega);by_cases h32:32<=n;{
 have g1:(32:Int)<=n:=by omega
 have g2:((n:Int)==0)=false:=by rw[beq_eq_false_iff_ne];omega
 by_cases hif:fr<i;{
 have g3:(fr:Int)<i:=by omega
 obtain⟨S,hS⟩:=zNm (s.extract fr i);have HSz:Hid (S.size=i-fr):=zY (by rw[<-hS,ByteArray.size_extract];omega);have Hl2:Hid ((l++[(⟨0,S⟩:Seg)]).length+1<=100000000):=zY (by simp;omega);have HL:Hid (SegOk j (2*i+1+1) (l++[(⟨0,S⟩:Seg)]++[(⟨(n:Int),⟨#[]⟩⟩:Seg)])):=zY (SegOk.snoc (SegOk.snoc Hok.out (Int.le_refl 0) (k:=i) (by show fr+0+S.size<=i;have:=HSz.out;omega)) (by simp) (by show i+n+0<=j;omega));have hjs:j<=s.size:=by omega
 have hij:i+32<=j:=by omega
 clear hj;go_wp2_with (at_builtin;first|(refine append_seq (w0:=w) Tryz.elemSeg rfl _ _ rfl rfl (Ho.alloc _) rfl (src1 (ρ:=segS) [.int .i64 0,.string S] ⟨0,S⟩ rfl rfl) Hl1.out (HB.alloc HB.size _) ?_;intro va wa hob _ hbb;have KU:=zY hob;have KB:=zY hbb;clear hob hbb)|(refine append_seq (w0:=w) Tryz.elemSeg rfl _ _ rfl rfl (KU.out.alloc _) rfl (src1 (ρ:=segS) [.int .i64 (n:Int),.string ⟨#[]⟩] ⟨(n:Int),⟨#[]⟩⟩ rfl rfl) Hl2.out (KB.out.alloc KB.out.size _) ?_;intro vb wb hob _ hbb;have KV:=zY hob;have KC:=zY hbb;clear hob hbb));go_roundw;case rel=>exact⟨j,j,_,Nat.le_refl _,hjs,rfl,rfl,HL.mono (Nat.le_refl _) (by omega),KV.out,KC.out⟩
 case measure=>simp[intOf];omega};{
 have g3:¬(fr:Int)<i:=by omega
 obtain rfl:fr=i:=by omega
 have HL:Hid (SegOk j (2*fr+1) (l++[(⟨(n:Int),⟨#[]⟩⟩:Seg)])):=zY (SegOk.snoc Hok.out (by simp) (by show fr+n+0<=j;omega));have hjs:j<=s.size:=by omega
 have hij:fr+32<=j:=by omega
 clear hj;go_wp2_with (at_builtin;refine append_seq (w0:=w) Tryz.elemSeg rfl _ _ rfl rfl (Ho.alloc _) rfl (src1 (ρ:=segS) [.int .i64 (n:Int),.string ⟨#[]⟩] ⟨(n:Int),⟨#[]⟩⟩ rfl rfl) Hl1.out (HB.alloc HB.size _) ?_;intro vb wb hob _ hbb;have KV:=zY hob;have KC:=zY hbb;clear hob hbb);go_roundw;case rel=>exact⟨j,j,_,Nat.le_refl _,hjs,rfl,rfl,HL.mono (Nat.le_refl _) (by omega),KV.out,KC.out⟩
 case measure=>simp[intOf];omega}};{
 have g1:¬(32:Int)<=n:=by omega
 by_cases h0:n=0;{
 subst h0;rw[show ((0:Nat):Int)=0 from rfl];clear hj hjI;go_wp2;go_roundw;case rel=>exact⟨fr,i+1,l,by omega,by omega,by go_num,rfl,Hok.mono (Nat.le_refl _) (by omega),Ho.out,HB.out⟩
 case measure=>simp[intOf];omega};{
 have g2:((n:Int)==0)=false:=by rw[beq_eq_false_iff_ne];omega
 have hjs:j<=s.size:=by omega
 have hij:i<j:=by omega
 clear hj;go_wp2;go_roundw;case rel=>exact⟨fr,j,l,by omega,by omega,rfl,rfl,Hok.mono (Nat.le_refl _) (by omega),Ho.out,HB.out⟩
 case measure=>simp[intOf];omega}}};{
 obtain rfl:i=s.size:=by omega
 have hI:¬((s.size:Nat):Int)<(s.size:Int):=by omega
 by_cases hif:fr<s.size;{
 have g3:(fr:Int)<s.size:=by omega
 obtain⟨S,hS⟩:=zNm (s.extract fr s.size);have HSz:Hid (S.size=s.size-fr):=zY (by rw[<-hS,ByteArray.size_extract];omega);have Hl1:Hid (l.length+1<=100000000):=zY (by omega);have HL:Hid (SegOk s.size (2*s.size+1) (l++[(⟨0,S⟩:Seg)])):=zY (SegOk.snoc Hok.out (Int.le_refl 0) (by show fr+0+S.size<=s.size;have:=HSz.out;omega));go_wp2_with (at_builtin;refine append_seq (w0:=w) Tryz.elemSeg rfl _ _ rfl rfl (Ho.alloc _) rfl (src1 (ρ:=segS) [.int .i64 0,.string S] ⟨0,S⟩ rfl rfl) Hl1.out (HB.alloc HB.size _) ?_;intro va wa hob _ hbb;have KU:=zY hob;have KB:=zY hbb;clear hob hbb);go_ret;exact⟨⟨_,_,rfl,KU.out,HL.out⟩,KB.out⟩};{
 have g3:¬(fr:Int)<s.size:=by omega
 go_wp2;go_ret;exact⟨⟨_,l,rfl,Ho.out,Hok.mono (by omega) (by omega)⟩,HB.out⟩}}
theorem cmp_less:∀{p q:List UInt8},p≠q->Op.bytesLess q p=false->Lib.compareBytes p q= -1
 |[],[],h,_=>absurd rfl h
 |[],_::_,_,_=>rfl
 |_::_,[],_,h=>by cases h
 |a::x,b::y,h,hl=>by
  simp only[Op.bytesLess,Bool.or_eq_false_iff,decide_eq_false_iff_not,Bool.and_eq_false_iff,beq_eq_false_iff_ne]at hl
  rw[Lib.compareBytes]
  by_cases h1:a<b
  ·rw[if_pos h1]
  {
  have e:b=a:=by
   have h2:=hl.1
   rw[UInt8.lt_iff_toNat_lt]at h1 h2
   exact UInt8.toNat_inj.1 (by omega)
  subst e
  rw[if_neg h1,if_neg h1]
  refine cmp_less (fun e=>h (by rw[e])) ?_
  rcases hl.2 with h3|h3
  ·exact absurd rfl h3
  ·exact h3}
def cutK:ByteArray:=⟨#[97,98,99,100,101,102,103,104,105,106,107,108,109,110,111,112,113,114,115,116,117,118,119,120,121,122,48,49,50,51,52,53,54,55,56,57,46,95,45]⟩
theorem cutK_all:∀b:Nat,b<128->okC b=true->(bs cutK).contains b=true:=by decide
theorem keyB_in {l:List Nat} (h:l.all okC=true):allIn (bs cutK) l=true:=
 List.all_eq_true.2 fun b hb=>cutK_all b (okC_lt (List.all_eq_true.1 h b hb)) (List.all_eq_true.1 h b hb)
theorem atkey_ok (w:World) (s:ByteArray) (h:keyB (bs s)=true):Calls prog 389 #[.string s] w fun e w'=>e=.returned (.int .i64 0)/\Below w.heap.size w w':=by
 rw[keyB,Bool.and_eq_true,bs_len]at h;obtain⟨h1,h2⟩:=h;have h1:=of_decide_eq_true h1;have hb0:s.toList.isEmpty=false:=isEmptyV (by omega);have i1:¬(32:Int)<s.size:=by omega
 have HT:=zY (trim_any w s cutK (by omega) (by decide) (by decide));rw[keyB_in h2]at HT;clear h1 h2;unfold cutK at HT;go_enter func389,ntmps389;go_wp2_with fail;refine HT.mono ?_;rintro e1 w1 ⟨t,rfl,ht,hb⟩;have HB:=zY hb;clear hb;go_wp2_with fail;go_ret;exact⟨rfl,HB.out⟩
theorem atattr_ok (w:World) (a:Atr) (h:keyB (bs a.k)=true) (h64:¬64<a.v.size):Calls prog 363 #[.agg #[.string a.k,.string a.v]] w fun e w'=>e=.returned (.int .i64 0)/\Below w.heap.size w w':=by
 obtain⟨k,v⟩:=a;dsimp only at h h64;have i2:¬(64:Int)<v.size:=by omega
 have hK:=Blk.new w 93 [.string k,.string v];change Blk (w.alloc (.cells #[.string k,.string v] 93)) _ _ _ at hK;have HK:=zY hK;have HB:=zY (zBl w (.cells #[.string k,.string v] 93));have HX:=zY (fun W=>atkey_ok W k h);clear hK h h64;go_enter func363,ntmps363;go_upto_region 1 with fail;generalize w.alloc (.cells #[.string k,.string v] 93)=wa at *;have c0:=HK.c 0;go_wp2_with fail;refine(HX.out _).mono ?_;rintro e1 w1 ⟨rfl,hb⟩;have HK1:=zY (HK.kept hb);have HB1:=zYt HB hb;clear hb c0;have c1:=HK1.c 1;go_wp2_with fail;go_ret;exact⟨rfl,HB1.out⟩
structure AtrsOk (l:List Atr):Prop where
 len:l.length<=16
 key:∀a∈l,keyB (bs a.k)=true/\¬64<a.v.size
 ord:∀i p a,l[i]?=some p->l[i+1]?=some a->Lib.compareBytes p.k.data.toList a.k.data.toList= -1
theorem attrsG_ok:∀{l:List Atr} {q:Option ByteArray},attrsG q l=0->(∀a∈l,keyB (bs a.k)=true/\¬64<a.v.size)/\(∀i p a,l[i]?=some p->l[i+1]?=some a->Lib.compareBytes p.k.data.toList a.k.data.toList= -1)/\(∀p a,q=some p->l[0]?=some a->Lib.compareBytes p.data.toList a.k.data.toList= -1)
 |[],q,_=>⟨fun a h=>(nomatch h),fun i p a h=>by simp at h,fun p a _ h=>by simp at h⟩
 |a::r,q,h=>by
  have hk:keyB (bs a.k)=true:=by
   cases e:keyB (bs a.k)with
   |true=>rfl
   |false=>rw[attrsG_key e]at h;cases h
  have h64:¬64<a.v.size:=fun e=>by rw[attrsG_val hk e]at h;cases h
  have hr:attrsG (some a.k) r=0/\∀p,q=some p->Lib.compareBytes p.data.toList a.k.data.toList= -1:=by
   cases q with
   |none=>rw[attrsG_first hk h64]at h;exact⟨h,fun p e=>by cases e⟩
   |some q=>
    rw[attrsG_next hk h64]at h
    split at h
    ·cases h
    {
    rename_i hne
    split at h
    ·cases h
    {
    rename_i hlt
    refine⟨h,fun p e=>?_⟩
    cases e
    refine cmp_less (fun e=>hne (ByteArray.ext (Array.toList_inj.1 e.symm))) ?_
    rw[ByteArray.toList_eq,ByteArray.toList_eq]at hlt
    exact Bool.eq_false_iff.2 hlt}}
  obtain⟨h1,h2,h3⟩:=attrsG_ok hr.1
  refine⟨fun x hx=>?_,fun i p x hp hx=>?_,fun p x hp hx=>?_⟩
  {
  rcases List.mem_cons.1 hx with rfl|hx
  ·exact⟨hk,h64⟩
  ·exact h1 x hx}
  {
  cases i with
  |zero=>
   obtain rfl:a=p:=by simpa using hp
   exact h3 _ x rfl (by simpa using hx)
  |succ i=>exact h2 i p x (by simpa using hp) (by simpa using hx)}
  {
  obtain rfl:a=x:=by simpa using hx
  exact hr.2 p hp}
theorem attrsE_ok {l:List Atr} (h:attrsE l=0):AtrsOk l:=by
 unfold attrsE at h;split at h;{cases h};{
 rename_i h16
 obtain⟨h1,h2,_⟩:=attrsG_ok h;exact⟨by omega,h1,h2⟩}
theorem atcheck_ok (w:World) (v:Value) (l:List Atr) (hv:SeqAt atrS w v l) (h:attrsE l=0):Calls prog 313 #[v] w fun e w'=>e=.returned (.int .i64 0)/\Below w.heap.size w w':=by
 have Hv:=zY hv;obtain⟨A,c,rfl,h1,h2⟩:=hv.slice;have HO:=zY (attrsE_ok h);clear hv h;have i1:¬(16:Int)<l.length:=by have:=HO.len;omega
 go_enter func313,ntmps313;go_wp2;go_loopw [11] (fun x wr=>∃i:Nat,i<=l.length/\x=.int .i64 (i:Int)/\Below w.heap.size w wr) (fun x _=>l.length-(intOf x).toNat);case atStart=>exact⟨0,by omega,rfl,Below.refl _ _⟩
 case round=>
 obtain⟨i,hi,rfl,hB⟩:=hrel;have HB:=zY hB;clear hB;by_cases h:i<l.length;{
 have hiI:(i:Int)<l.length:=by omega
 obtain⟨a,ha⟩:∃a,l[i]?=some a:=⟨_,List.getElem?_eq_getElem h⟩;obtain⟨_,_,e9,_,_,h4⟩:=Hv.below HB.out;cases e9;obtain⟨b,o,cs,rfl,rfl,hc⟩:=h4 i a ha;have c0:wr.cell? ⟨b,o+i*2,none⟩=some (.string a.k):=hc 0 _ rfl;have c1:wr.cell? ⟨b,o+i*2+1,none⟩=some (.string a.v):=hc 1 _ rfl;have hka:=HO.key a (List.mem_of_getElem? ha);have HX:=zY (fun W=>atattr_ok W a hka.1 hka.2);have hT:=Blk.new wr 93 [.string a.k,.string a.v];change Blk (wr.alloc (.cells #[.string a.k,.string a.v] 93)) _ _ _ at hT;have HT:=zY hT;have HBt:=zY (HB.alloc HB.size (.cells #[.string a.k,.string a.v] 93));clear hc hT hka;by_cases h0:i=0;{
 subst h0;rw[show ((0:Nat):Int)=0 from rfl];rw[Nat.zero_mul,Nat.add_zero]at c0 c1;clear h4;go_upto_region 6 with fail;generalize wr.alloc (.cells #[.string a.k,.string a.v] 93)=wt at *;have d0:=HT.c 0;have d1:=HT.c 1;go_wp2_with fail;refine(HX.out _).mono ?_;rintro e2 w2 ⟨rfl,hb2⟩;have HB2:=zYt HBt hb2;clear hb2;go_wp2;go_roundw;case rel=>exact⟨1,by omega,by go_num,HB2.out⟩
 case measure=>simp[intOf];omega};{
 obtain⟨j,hj⟩:∃j,i=j+1:=⟨i-1,by omega⟩;have hjl:j<l.length:=by omega
 obtain⟨p,hp⟩:∃p,l[j]?=some p:=⟨_,List.getElem?_eq_getElem hjl⟩;have HC:Hid (Lib.compareBytes p.k.data.toList a.k.data.toList= -1):=zY (HO.ord j p a hp (by rw[<-hj];exact ha));have hwr:IntKind.i64.wrap ((i:Int)-1)=(j:Int):=by rw[zIw (by omega)];omega
 have hwr2:(i:Int)-1=j:=by omega
 have hjI:(j:Int)<l.length:=by omega
 have i0:((i:Int)==0)=false:=by rw[beq_eq_false_iff_ne];omega
 obtain⟨b',o',cs,e8,rfl,hd⟩:=h4 j p hp;cases e8;have d0:wr.cell? ⟨b,o+j*2,none⟩=some (.string p.k):=hd 0 _ rfl;have HD:Hid (∀W,Below wr.heap.size wr W->W.cell? ⟨b,o+j*2,none⟩=some (.string p.k)):=zY (fun W hb=>cell_below hb d0);have HCm:=zY (fun W=>Tryz.strings_Compare p.k a.k W);clear hd h4 hp h0 d0 hj hjl;go_upto_region 6 with fail;have HBw:=zY (zBl wr (.cells #[.string a.k,.string a.v] 93));generalize wr.alloc (.cells #[.string a.k,.string a.v] 93)=wt at *;have d1:=HT.c 0;have d2:=HT.c 1;go_wp2_with fail;refine(HX.out _).mono ?_;rintro e2 w2 ⟨rfl,hb2⟩;have HT2:=zY (HT.kept hb2);have HB2:=zYt HBt hb2;have d3:=HD.out w2 (HBw.trans (hb2.mono HBw.size));clear hb2 d1 d2;have d1:=HT2.c 0;rw[HC.out]at HCm;go_upto_region 10 with fail;go_quiet (first|(go_at_call 364;refine Calls.quiet_of_same (HCm.out _)));go_wp2;go_roundw;case rel=>exact⟨i+1,by omega,by go_num,blwN HB2.out _⟩
 case measure=>simp[intOf];omega}};{
 obtain rfl:i=l.length:=by omega
 have hiI:¬((l.length:Nat):Int)<(l.length:Int):=by omega
 go_wp2;go_ret;exact⟨rfl,HB.out⟩}
end
end Go.Proofs.YthgenkkkapilhaaGreatDoor