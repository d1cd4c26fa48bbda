/-
  Joined: VrQ EncC FrN EncCz EncD FdI.
-/
import Derived.Test.YthgenkkkapilhaaGreatDoorVQn30
import Derived.Test.YthgenkkkapilhaaGreatDoorVQn37
set_option linter.all false
set_option maxRecDepth 100000
set_option maxHeartbeats 64000000
namespace Go.Proofs.YthgenkkkapilhaaGreatDoor
open Go.Proofs.Tryz
section
open Go.RowKit
structure Pln where
 a:Nat
 i:Nat
 t:Nat
 x:ByteArray
def Pln.cells (p:Pln):List Value:=[.int .u32 (p.a:Int),.int .i64 (p.i:Int),.int .i64 (p.t:Int),.string p.x]
def plnS:Shape Pln where
 n:=4
 R _ cs f:=cs=f.cells
 len h:=by rw[h];rfl
 one h u hu:=by
  rw[h]at hu
  simp only[Pln.cells,List.mem_cons,List.not_mem_nil,or_false]at hu
  rcases hu with rfl|rfl|rfl|rfl<;>rfl
 keep h _:=h
theorem flatP:Flat plnS:=fun _ _ _ _ h=>h
theorem Tryz.elemPln:Elem prog 59 124 4 40 (.agg #[.int .u32 0,.int .i64 0,.int .i64 0,.string ⟨#[]⟩]):=⟨underlying59,by kernel_rfl,rfl,by decide,by decide⟩
def plnT (s:ByteArray):Nat:=(s.size+63)/64
def padS (s:ByteArray):ByteArray:=s++strB (List.replicate (64*plnT s-s.size) 32)
def plnAt (a:Nat) (s:ByteArray) (i:Nat):Pln:=⟨a,i,plnT s,(padS s).extract (64*i) (64*i+64)⟩
def plnsL (a:Nat) (s:ByteArray):List Pln:=(List.range (plnT s)).map (plnAt a s)
def splitE (s:ByteArray):Int:=if 40000<s.size then 6 else if prtL (bs s)=false then 3 else 0
def splitR (a:Nat) (s:ByteArray):List Pln:=if splitE s=0 then plnsL a s else []
theorem padS_size (s:ByteArray):(padS s).size=64*plnT s:=by
 rw[padS,ByteArray.size_append,strB_size,List.length_replicate];unfold plnT;omega
theorem plsplit_any (w:World) (s:ByteArray) (a:Nat) (hs:s.size<=1000000):Calls prog 23 #[.string s,.int .u32 (a:Int)] w fun e w'=>(∃v,e=.returned (.tuple #[v,.int .i64 (splitE s)])/\OwnSeq plnS 124 w w' v (splitR a s))/\Below w.heap.size w w':=by
 have HP:=zY (fun W=>printable_any W s hs);obtain⟨n,hn⟩:=zNm (s.size);have hnI:(s.size:Int)=n:=by omega
 by_cases h1:40000<n;{
 have h1I:(40000:Int)<n:=by omega
 have he:splitE s=6:=by rw[splitE,if_pos (by omega)]
 have HR:Hid (splitR a s=[]):=zY (by rw[splitR,if_neg (by rw[he];decide)]);rw[he];clear hn he;go_enter func23,ntmps23;go_wp2;go_ret2;exact⟨⟨_,rfl,by rw[HR.out];exact OwnSeq.nil _⟩,Below.refl _ _⟩};{
 have h1I:¬(40000:Int)<n:=by omega
 obtain⟨b,hb⟩:=zNm (prtL (bs s));rw[hb]at HP;cases b with
 |false=>(
 have he:splitE s=3:=by rw[splitE,if_neg (by omega),if_pos hb]
 have HR:Hid (splitR a s=[]):=zY (by rw[splitR,if_neg (by rw[he];decide)]);rw[he];clear hn he hb;go_enter func23,ntmps23;go_wp2_with fail;refine(HP.out _).mono ?_;rintro e1 w1 ⟨rfl,rfl⟩;go_wp2;go_ret2;exact⟨⟨_,rfl,by rw[HR.out];exact OwnSeq.nil _⟩,Below.refl _ _⟩)
 |true=>
 have he:splitE s=0:=by rw[splitE,if_neg (by omega),if_neg (by rw[hb];decide)]
 obtain⟨t,ht⟩:=zNm (plnT s);have htn:t=(n+63)/64:=by rw[<-ht,plnT,hn]
 obtain⟨z,hz⟩:=zNm (64*t-n);have HR:Hid (splitR a s=(List.range t).map (plnAt a s)):=zY (by rw[splitR,if_pos he,plnsL,ht]);have HR2:=zY (fun W=>repeat_any W 32 z (by omega));have hcI:((32:UInt8).toNat)=32:=rfl;rw[hcI]at HR2;obtain⟨X,hX⟩:=zNm (padS s);obtain⟨Z,hZ⟩:=zNm (strB (List.replicate z 32));have hZz:Z.size=z:=by rw[<-hZ,strB_size,List.length_replicate]
 have hXz:X.size=64*t:=by rw[<-hX,padS_size,ht]
 have HX:Hid (s++Z=X):=zY (by rw[<-hX,padS,ht,hn,hz,hZ]);have HA:Hid (∀i,plnAt a s i=⟨a,i,t,X.extract (64*i) (64*i+64)⟩):=zY (fun i=>by rw[plnAt,ht,hX]);rw[hZ]at HR2;have hcc:¬9223372036854775807<s.size+Z.size:=by omega
 have g1:IntKind.i64.wrap ((n:Int)+64)=(n:Int)+64:=zIw (by omega);have g2:IntKind.i64.wrap ((n:Int)+64-1)=(n:Int)+63:=by rw[show (n:Int)+64-1=n+63 by omega];exact zIw (by omega)
 have g3:((n:Int)+63)/64=t:=by omega
 have g4:IntKind.i64.wrap (t:Int)=t:=zIw (by omega);have g5:IntKind.i64.wrap ((t:Int)*64)=(t:Int)*64:=zIw (by omega);have g6:IntKind.i64.wrap ((t:Int)*64-n)=z:=by rw[show (t:Int)*64-n=z by omega];exact zIw (by omega)
 have ht1:t<=626:=by omega
 have hXzI:(X.size:Int)=64*(t:Int):=by omega
 have HXz:=zY hXz;rw[he];clear hb he hn ht htn hz hX hZ hZz hcI hXz;go_enter func23,ntmps23;go_wp2_with fail;refine(HP.out _).mono ?_;rintro e1 w1 ⟨rfl,rfl⟩;go_upto_region 6 with fail;go_wp2_with fail;refine(HR2.out _).mono ?_;rintro e2 w2 ⟨rfl,hb2⟩;have HB2:=zY hb2;clear hb2;go_upto_region 7 with fail;rw[HX.out];clear hcc g1 g2 g3 g5 g6 HP HR2;go_wp2;go_loopw [7,31] (fun y x wr=>∃i:Nat,i<=t/\x=.int .i64 (i:Int)/\OwnSeq plnS 124 w2 wr y ((List.range i).map (plnAt a s))/\Below w2.heap.size w2 wr) (fun _ x _=>t-(intOf x).toNat);case atStart=>exact⟨0,by omega,rfl,OwnSeq.nil _,Below.refl _ _⟩
 case round=>
 obtain⟨i,hi,rfl,ho,hB⟩:=hrel;have HO:=zY ho;have HB:=zY hB;obtain⟨Ao,co,rfl⟩:=ho.slice;clear ho hB;by_cases h:i<t;{
 have hiI:(i:Int)<t:=by omega
 obtain⟨q,hq⟩:=zNm (64*i);have hqI:(i:Int)*64=q:=by omega
 have hqw:IntKind.i64.wrap ((i:Int)*64)=q:=by rw[hqI];exact zIw (by omega)
 have hi1:IntKind.i64.wrap ((i:Int)+1)=(i:Int)+1:=zIw (by omega);have hq2:IntKind.i64.wrap (((i:Int)+1)*64)=((q+64:Nat):Int):=by rw[show ((i:Int)+1)*64=((q+64:Nat):Int) by omega];exact zIw (by omega)
 have hq3:q+64<=X.size:=by have:=HXz.out;omega
 have hq4:((q+64:Nat):Int)<=X.size:=by omega
 have hq5:(q:Int)<=((q+64:Nat):Int):=by omega
 have hq0:(0:Int)<=q:=by omega
 obtain⟨T,hT⟩:=zNm (X.extract q (q+64));have HF:Hid ((List.range (i+1)).map (plnAt a s)=(List.range i).map (plnAt a s)++[⟨a,i,t,T⟩]):=zY (by rw[List.range_succ,List.map_append,List.map_singleton,HA.out,hq,hT]);have Hl1:Hid (((List.range i).map (plnAt a s)).length+1<=100000000):=zY (by simp;omega);generalize hno:((List.range i).map (plnAt a s)).length=no at *;have Hno:=zY hno;have Hl1:Hid (((List.range i).map (plnAt a s)).length+1<=100000000):=zY (by rw[hno];exact Hl1.out);have HX1:Hid (SrcAt plnS w2 (wr.alloc (.cells (Pln.cells ⟨a,i,t,T⟩).toArray 124)) (.slice (some ⟨wr.heap.size,0,none⟩) 1 1) [⟨a,i,t,T⟩]):=zY (src1 (ρ:=plnS) (wr:=wr) (Pln.cells ⟨a,i,t,T⟩) ⟨a,i,t,T⟩ rfl rfl);have HO1:=zY (HO.alloc (.cells (Pln.cells ⟨a,i,t,T⟩).toArray 124));have HB1:=zY (HB.alloc HB.size (.cells (Pln.cells ⟨a,i,t,T⟩).toArray 124));clear hno hq;go_wp2_with (at_builtin;refine append_seq (w0:=w2) Tryz.elemPln rfl _ _ rfl rfl HO1.out rfl HX1.out Hl1.out HB1.out ?_;intro vb w6 hob _ hbb;have KV:=zY hob;have KC:=zY hbb;clear hob hbb);go_roundw;case rel=>exact⟨i+1,by omega,by go_num,by rw[HF.out];exact KV.out,KC.out⟩
 case measure=>simp[intOf];omega};{
 obtain rfl:i=t:=by omega
 have hiI:¬((i:Nat):Int)<(i:Int):=by omega
 have hlen:((List.range i).map (plnAt a s)).length=i:=by simp
 rw[hlen]at HO;clear hlen;go_wp2;go_ret2;exact⟨⟨_,rfl,by rw[HR.out];exact HO.low flatP HB2.size⟩,HB2.trans (HB.mono HB2.size)⟩}}
end
section
open Go.RowKit Go.Shelf
attribute [local go_sem] Oper.semAt_some
theorem Bld.moved {A B:World} {K b:Nat} {l:List Nat} (h:Bld A K b l) (hc:∀(k:Nat) (o:Obj),A.heap[k]?=some o->o.isCells=true->B.heap[k]?=some o):Bld B K b l:=by
 have key:∀p,Lib.BuilderAtF 135 5 K b p (l.map u8V) A->Lib.BuilderAtF 135 5 K b p (l.map u8V) B:=by rintro p ⟨hB,v,hb,hown,hne⟩;refine⟨hB,v,hc _ _ hb rfl,⟨hown.1,?_⟩,hne⟩;rcases hown.2 with hn|⟨g,cap,cur,fz,hv,hbg,hg,rest⟩;{exact .inl hn};{exact .inr ⟨g,cap,cur,fz,hv,hbg,hc _ _ hg rfl,rest⟩}
 exact Or.elim h (fun x=>.inl (key _ x)) (fun x=>.inr (key _ x))
attribute [local go_sem] Oper.semAt_some
end
section
open Go.RowKit
def fencR (k r s i l d p a:Int) (t:ByteArray):Value:=
 if frE k r s i l d p t≠0 then .tuple #[.string ⟨#[]⟩,.int .i64 (frE k r s i l d p t)]
 else .tuple #[.string (markS++strB (bodyL (marL k.toNat r.toNat s.toNat i.toNat l.toNat d.toNat p.toNat a.toNat t))),.int .i64 0]
def stepS (m:List Nat):Nat->ByteArray
 |0=>strB m
 |1=>strB (rsEnc m)
 |2=>strB (frmB (rsEnc m))
 |3=>strB (cellL m)
 |_=>strB (bodyL m)
abbrev Box3 (W:World) (H:Nat) (c0 c1 c2:Value):Prop:=W.cell? ⟨H,0,none⟩=some c0/\W.cell? ⟨H,1,none⟩=some c1/\W.cell? ⟨H,2,none⟩=some c2
def FQ (V:World) (g:Nat) (k r s i l d p a:Int) (t:ByteArray) (x y z:Int):Prop:=
 Box9 V g (.int .i64 k) (.int .i64 r) (.int .i64 s) (.int .i64 i) (.int .i64 l) (.int .i64 d) (.int .i64 p) (.int .u32 a) (.string t)/\Box3 V (g+1) (.int .i64 x) (.int .i64 y) (.int .i64 z)
theorem decd_new (W:World) (k r s i l d p a:Int) (t:ByteArray) (x y z:Int):
  Below W.heap.size W ((W.alloc (.cells #[.int .i64 k,.int .i64 r,.int .i64 s,.int .i64 i,.int .i64 l,.int .i64 d,.int .i64 p,.int .u32 a,.string t] 49)).alloc (.cells #[.int .i64 x,.int .i64 y,.int .i64 z] 82)) /\
   FQ ((W.alloc (.cells #[.int .i64 k,.int .i64 r,.int .i64 s,.int .i64 i,.int .i64 l,.int .i64 d,.int .i64 p,.int .u32 a,.string t] 49)).alloc (.cells #[.int .i64 x,.int .i64 y,.int .i64 z] 82)) W.heap.size k r s i l d p a t x y z:=by
 refine⟨((Below.refl _ _).alloc (Nat.le_refl _) _).alloc (by simp) _,?_,?_⟩;{exact(Box9.blk (Blk.new W 49 [.int .i64 k,.int .i64 r,.int .i64 s,.int .i64 i,.int .i64 l,.int .i64 d,.int .i64 p,.int .u32 a,.string t])).keep ((Below.refl _ _).alloc (Nat.le_refl _) _)};{
 have hq:=Blk.new (W.alloc (.cells #[.int .i64 k,.int .i64 r,.int .i64 s,.int .i64 i,.int .i64 l,.int .i64 d,.int .i64 p,.int .u32 a,.string t] 49)) 82 [.int .i64 x,.int .i64 y,.int .i64 z];rw[show (W.alloc (.cells #[.int .i64 k,.int .i64 r,.int .i64 s,.int .i64 i,.int .i64 l,.int .i64 d,.int .i64 p,.int .u32 a,.string t] 49)).heap.size=W.heap.size+1 by simp]at hq;exact⟨hq.c 0,hq.c 1,hq.c 2⟩}
def markL:List Nat:=bs markS
theorem markL_eq:markL=[49,49,49,49,49,48,48,49,49,48,49,48,49,48,48,48]:=by decide
def mt (l:List Nat) (k:Nat):Nat->Nat
 |0=>0
 |i+1=>mt l k i+if cf l (k+i)=cf markL i then 1 else 0
def hit (l:List Nat) (k:Nat):Bool:=decide (14<=mt l k 16)
structure Frm where
 k:Int
 r:Int
 s:Int
 i:Int
 l:Int
 d:Int
 p:Int
 a:Int
 t:ByteArray
structure Qua where
 d:Int
 u:Int
 c:Int
def Frm.v (f:Frm):Value:=frV f.k f.r f.s f.i f.l f.d f.p f.a f.t
def Frm.cells (f:Frm):List Value:=[.int .i64 f.k,.int .i64 f.r,.int .i64 f.s,.int .i64 f.i,.int .i64 f.l,.int .i64 f.d,.int .i64 f.p,.int .u32 f.a,.string f.t]
def qua0:Qua:=⟨0,0,0⟩
structure Sgt where
 piece:Int
 at_:Nat
 f:Frm
 q:Qua
def Sgt.cells (x:Sgt):List Value:=.int .i64 x.piece::.int .i64 (x.at_:Int)::(x.f.cells++[.int .i64 x.q.d,.int .i64 x.q.u,.int .i64 x.q.c])
def Sgt.v (x:Sgt):Value:=.agg #[.int .i64 x.piece,.int .i64 (x.at_:Int),.int .i64 x.f.k,.int .i64 x.f.r,.int .i64 x.f.s,.int .i64 x.f.i,.int .i64 x.f.l,.int .i64 x.f.d,.int .i64 x.f.p,.int .u32 x.f.a,.string x.f.t,.int .i64 x.q.d,.int .i64 x.q.u,.int .i64 x.q.c]
theorem Sgt.cells_len (x:Sgt):x.cells.length=14:=rfl
structure Msg (m:List Nat) (f:Frm):Prop where
 bytes:Bytes m
 len:m.length=44
 ok:unmC (strB m)=0
 frame:unmF (strB m)=f.v
theorem markL_len:markL.length=16:=by rw[markL_eq];rfl
theorem markL_01:B01 markL:=by rw[markL_eq];decide
theorem b01_bytes {l:List Nat} (h:B01 l):Bytes l:=fun x hx=>by rcases h x hx with rfl|rfl<;>decide
theorem bytes_app {l r:List Nat} (h:Bytes l) (k:Bytes r):Bytes (l++r):=fun x hx=>by
 rcases List.mem_append.1 hx with hx|hx
 ·exact h x hx
 ·exact k x hx
theorem mark_cat (m:List Nat):markS++strB (bodyL m)=strB (markL++bodyL m):=by
 conv=>lhs;rw[<-strB_bs markS,strB_cat]
 rfl
def flatCl (ms:List (List Nat)):List Nat:=ms.flatMap fun m=>markL++bodyL m
theorem flatC_len (ms:List (List Nat)):(flatCl ms).length=852*ms.length:=by
 induction ms with
 |nil=>rfl
 |cons m r ih=>
 unfold flatCl at ih⊢;rw[List.flatMap_cons,List.length_append,ih,List.length_append,markL_len,bodyL_len,List.length_cons];omega
theorem cf_app_left {l r:List Nat} {j:Nat} (h:j<l.length):cf (l++r) j=cf l j:=by unfold cf;rw[List.getElem?_append_left h]
theorem cf_app_right (l r:List Nat) (j:Nat):cf (l++r) (l.length+j)=cf r j:=by
 unfold cf;rw[List.getElem?_append_right (by omega),show l.length+j-l.length=j by omega]
theorem b01_no63 {l:List Nat} (h:B01 l):l.count 63=0:=List.count_eq_zero.2 fun hm=>by rcases h 63 hm with h|h<;>cases h
theorem flatC_app (a b:List (List Nat)):flatCl (a++b)=flatCl a++flatCl b:=by unfold flatCl;rw[List.flatMap_append]
theorem flatC_bytes {ms:List (List Nat)} (h:∀m∈ms,Bytes m/\m.length=44):Bytes (flatCl ms):=fun x hx=>by
 unfold flatCl at hx
 obtain⟨m,hm,hx⟩:=List.mem_flatMap.1 hx
 obtain⟨h1,h2⟩:=h m hm
 exact bytes_app (b01_bytes markL_01) (bodyL_bytes h1 h2) x hx
end
section
open Go.RowKit Go.Shelf
attribute [local go_sem] Oper.semAt_some
def outsL:Nat->List Nat->List ByteArray
 |_,[]=>[]
 |s,b::r=>outS s b::outsL (cnx s b) r
theorem outsL_flat:∀(u:List Nat) (s:Nat),(outsL s u).flatMap bs=cenc s u
 |[],_=>rfl
 |b::r,s=>by
  rw[outsL,List.flatMap_cons,bs_outS,outsL_flat r (cnx s b)]
  rfl
def RdStr (x:ByteArray) (args:Array Value) (_:World):Prop:=args= #[.string x]
def iterLeft (W:World) (k:Nat):Nat:=match W.heap[k]? with
 |some (.stringIter s pos)=>s.size-pos
 |_=>0
theorem iterLeft_eq {W:World} {k:Nat} {s:ByteArray} {pos:Nat} (h:W.heap[k]?=some (.stringIter s pos)):iterLeft W k=s.size-pos:=by
 unfold iterLeft;rw[h]
theorem aside_iterAt {A:World} {n k:Nat} {S:ByteArray} {pos:Nat} (hk:A.heap[k]?=some (.stringIter S pos)) (hn:n<=k) (pos':Nat):rangeOwn.Aside rangeStr.No n A (A.iterAt k S pos'):=
 ⟨rfl,rfl,rfl,by rw[Lib.iterAt_size];exact Nat.le_refl _,fun i hi _=>Lib.iterAt_other A k i S pos' (by omega),fun i o _ hi hc=>(Lib.iterAt_other A k i S pos' (fun e=>by subst e;rw[hk]at hi;cases hi;cases hc)).trans hi⟩
theorem outputs_all (s:ByteArray) (u:List Nat) (nb:Nat) (W0:World) (hs:bs s=bitsS u) (hu:Bits u) (hz:s.size=416) (hb0:Boxed W0 nb 9 (.string s)):
  rangeStr.IterStr prog 358 #[.pointer (some ⟨nb,0,none⟩)] RdStr (fun _=>False) (outsL 0 (u++[0,0])) W0:=by
 intro l J W hb hJ hY h0;have hbx:Boxed W nb 9 (.string s):=(hb.block nb hb0.lt).trans hb0;have hcell:=hbx.cell;obtain⟨S,hS⟩:=zNm (s++⟨#[48,48]⟩);have hul:u.length=416:=by rw[<-bitsS_len,<-hs,bs_len,hz]
 have hbS:bs S=bitsS (u++[0,0]):=by{
 rw[<-hS,<-strB_bs s,show (⟨#[48,48]⟩:ByteArray)=strB [48,48] from rfl,strB_cat,bs_strB];{rw[hs];unfold bitsS;rw[List.map_append];rfl};{
 intro x hx;rcases List.mem_append.1 hx with hx|hx;{exact bs_lt s x hx};{simp at hx;omega}}};have zS:S.size=418:=by rw[<-bs_len,hbS,bitsS_len,List.length_append,hul];rfl
 have hap:∀x y:ByteArray,(x++y).size=x.size+y.size:=fun x y=>ByteArray.size_append;have z2:(⟨#[48,48]⟩:ByteArray).size=2:=rfl;have HJ:=zY hJ;have HY:=zY hY;have HbS:=zY hbS;have Hul:=zY hul;have HN:Hid (∀(W:World) (st b:Nat),st<4->b<2->Calls prog 334 #[.int .i64 (st:Int),.int .i64 (b:Int)] W fun e w'=>e=.returned (.tuple #[.int .i64 (cnx st b:Nat),.string (outS st b)])/\W=w'):=zY (fun W st b h1 h2=>vnext_any W st b h1 h2);have Hu2:Hid (Bits (u++[0,0])):=zY (fun x hx=>by
  rcases List.mem_append.1 hx with hx|hx
  ·exact hu x hx
  ·simp at hx;omega);obtain⟨v,hv⟩:=zNm (u++[0,0]);have hvl:v.length=418:=by rw[<-hv,List.length_append,hul];rfl
 rw[hv]at HbS Hu2 HY⊢;have Hvl:=zY hvl;clear hbx hJ hY hbS hul hs hu hv hvl;refine callsIn_of_wp func358 rfl trivial ?_ rfl;simp only[ntmps358,List.size_toArray,List.length_cons,List.length_nil,Nat.reduceAdd,Nat.reduceSub,Array.replicate_succ,Array.replicate_zero,List.push_toArray,List.append_toArray,List.nil_append,List.cons_append];gi_wp2;gi_loopw [3] (fun x wr=>∃(k st:Nat) (pre:List ByteArray),k<=418/\st<4/\x=.int .i64 (st:Int)/\wr.heap[W.heap.size]?=some (.stringIter S k)/\W.heap.size<=wr.heap.size/\pre++outsL st (v.drop k)=outsL 0 v/\J pre wr)
  (fun _ wr=>iterLeft wr W.heap.size);case atStart=>refine⟨0,0,[],by omega,by omega,rfl,?_,?_,rfl,HJ.out _ _ _ h0 (Nat.le_refl _) ?_⟩;{exact World.alloc_heap_new W (.stringIter S 0)};{exact Nat.le_of_lt (by simp[World.iter])};{exact rangeOwn.Aside.of_below ((Below.refl _ _).alloc (Nat.le_refl _) (.stringIter S 0)) (Nat.le_refl _)}
 case round=>
 obtain⟨k,st,pre,hk,hst,rfl,hit,hsz,hpre,hj⟩:=hrel;by_cases h:k<418;{
 have hkS:k<S.size:=by omega
 have hkv:k<v.length:=by rw[Hvl.out];exact h
 obtain⟨b,hbk⟩:=zNm (v[k]'hkv);have hb2:b<2:=by rw[<-hbk];exact Hu2.out _ (List.getElem_mem hkv)
 have hsk:(S[k]'hkS).toNat=48+b:=by have h1:=bs_get S k hkS;rw[HbS.out]at h1;unfold bitsS at h1;rw[List.getElem?_map,List.getElem?_eq_getElem hkv,hbk,Option.map_some]at h1;exact(Option.some.inj h1).symm
 have hdr:v.drop k=b::v.drop (k+1):=by rw[List.drop_eq_getElem_cons hkv,hbk]
 rw[hdr,outsL]at hpre;have hnx:∀ty,(Instr.next (.pointer (some ⟨W.heap.size,0,none⟩)) true ty).run prog wr=.ok (.tuple #[.bool true,.int .i64 (k:Int),.int .i32 ((48+b:Nat):Int)]) (wr.iterAt W.heap.size S (k+1)):=fun ty=>by
  have h1:=Lib.run_next_ascii_at (P:=prog) wr W.heap.size S k ty hit hkS (by omega)
  rw[hsk]at h1
  exact h1
 have hj2:=HJ.out _ _ _ hj hsz (aside_iterAt hit (Nat.le_refl _) (k+1));have hit2:=Lib.iterAt_heap wr W.heap.size S k (k+1) hit;have hsz2:W.heap.size<=(wr.iterAt W.heap.size S (k+1)).heap.size:=by rw[Lib.iterAt_size];exact hsz
 generalize wr.iterAt W.heap.size S (k+1)=wt at *;obtain⟨fn,tmps,assign,body,hy,hR⟩:=HY.out pre (outS st b) #[.string (outS st b)] wt hj2 rfl ⟨outsL (cnx st b) (v.drop (k+1)),by rw[<-hpre];simp⟩;have HR:=zY hR;have Hpre:=zY hpre;have Hit:=zY hit;have Hit2:=zY hit2;have Hsz2:=zY hsz2;have Hst:=zY hst;have Hb2:=zY hb2;clear hR hpre hit hit2 hj hj2 hsz hsz2 hst hdr hsk hbk;rcases (by omega:b=0∨b=1)with rfl|rfl;all_goals
 have HN2:=zY (HN.out wt st _ Hst.out Hb2.out);gi_wp2_with (refine⟨trivial,rfl,?_⟩;gi_at_call 334;refine(callsIn_wide.2 HN2.out).mono ?_;rintro e w' ⟨rfl,rfl⟩);refine⟨rfl,HR.mono ?_⟩;rintro e W1 ⟨rfl,hj1,hk1⟩;have Hj1:=zY hj1;have Hk1:=zY hk1;clear hj1 hk1;gi_wp2;go_roundw;case rel=>exact⟨k+1,cnx st _,pre++[outS st _],by omega,cnx_lt Hst.out Hb2.out,rfl,Hk1.2 _ _ Hit2.out (.inl rfl),Nat.le_trans Hsz2.out Hk1.1,by rw[<-Hpre.out];simp,Hj1.out⟩
 case measure=>
 rw[iterLeft_eq (Hk1.2 _ _ Hit2.out (.inl rfl)),iterLeft_eq Hit.out];omega};{
 obtain rfl:k=418:=by omega
 have hnx:∀ty,(Instr.next (.pointer (some ⟨W.heap.size,0,none⟩)) true ty).run prog wr=.ok (.tuple #[.bool false]) wr:=fun ty=>Lib.run_next_end_at (P:=prog) wr W.heap.size S 418 ty hit (by omega);have e:pre=outsL 0 v:=by rw[<-hpre,List.drop_eq_nil_of_le (by rw[Hvl.out];exact Nat.le_refl _)];simp[outsL]
 have He:=zY e;have Hj:=zY hj;clear hpre hj e hit;gi_wp2;go_end0;exact⟨⟨_,rfl⟩,He.out▸Hj.out⟩}
attribute [local go_sem] Oper.semAt_some
theorem outputs_any (w:World) (s:ByteArray):Calls prog 308 #[.string s] w fun e w'=>e=.returned (.func (.func 358) #[] #[.pointer (some ⟨w.heap.size,0,none⟩)])/\w.alloc (.cells #[.string s] 9)=w':=by
 go_enter func308,ntmps308;go_wp2;go_ret;exact⟨rfl,rfl⟩
theorem wsk_any (w:World) (B b:Nat) (l:List Nat) (s:ByteArray) (h:Bld w B b l) (hl:l.length<=1000000) (hs:s.size<=1000000) (hB:B<=w.heap.size):
  Calls prog 64 #[.pointer (some ⟨b,0,none⟩),.string s] w fun e w'=>e=.returned (.tuple #[.int .i64 s.size,.nilIface])/\Bld w' B b (l++bs s)/\Below B w w'/\Lib.OthersKept 5 (some b) w w':=by
 refine(Tryz.Builder_WriteString_k B b _ s w h (by rw[List.length_map];omega) hB).mono fun e w' ⟨he,h1,hb,hk⟩=>⟨he,?_,hb,hk⟩
 have:=Or.inr (a:=Lib.BuilderAtF 135 5 B b (.pointer none) (l.map u8V++Lib.strCells s) w') h1;have e1:(l++bs s).map u8V=l.map u8V++Lib.strCells s:=by rw[List.map_append];unfold Lib.strCells bs;rw[List.map_map];rfl
 show Lib.IsBuilderF _ _ _ _ _ _;rw[e1];exact this
theorem strk_any (w:World) (B b:Nat) (l:List Nat) (hl:Bytes l) (h:Bld w B b l) (hB:B<=w.heap.size):
  Calls prog 65 #[.pointer (some ⟨b,0,none⟩)] w fun e w'=>e=.returned (.string (strB l))/\Below B w w'/\Lib.OthersKept 5 (some b) w w':=by
 have e1:Lib.byteCells (l.map UInt8.ofNat)=l.map u8V:=by unfold Lib.byteCells;rw[List.map_map];refine List.map_congr_left fun x hx=>?_;have:=hl x hx;simp[Nat.mod_eq_of_lt this]
 exact(Tryz.Builder_String_any_k B b (l.map UInt8.ofNat) w (by rw[e1];exact h) hB).mono fun e w' ⟨he,_,hb,hk⟩=>⟨he,hb,hk⟩
structure EncI (w:World) (B:Nat) (pre:List ByteArray) (W:World):Prop where
 bld:Bld W B B (pre.flatMap bs)
 below:Below w.heap.size w W
 le:w.heap.size<=B
 lt:B<W.heap.size
theorem outsL_mem:∀(u:List Nat) (s:Nat) (x:ByteArray),x∈outsL s u->x.size=2
 |[],_,x,h=>by cases h
 |b::r,s,x,h=>by
  rw[outsL]at h
  rcases List.mem_cons.1 h with rfl|h
  ·rw[<-bs_len,bs_outS];rfl
  {
  exact outsL_mem r _ x h}
theorem venc_any (w:World) (s:ByteArray) (u:List Nat) (hs:bs s=bitsS u) (hu:Bits u) (hz:s.size=416):
  Calls prog 255 #[.string s] w fun e w'=>e=.returned (.tuple #[.string (strB (cenc 0 (u++[0,0]))),.int .i64 0])/\Below w.heap.size w w':=by
 have hall:allIn (bs ⟨#[48,49]⟩) (bs s)=true:=by unfold allIn;rw[List.all_eq_true,hs];intro x hx;rcases bitsS_01 hu x hx with rfl|rfl<;>decide
 have Ht:=zY (fun W=>trim_any W s ⟨#[48,49]⟩ (by omega) (by decide) (by decide));have Hall:=zY hall;have hI:decide ((65536:Int)<s.size)=false:=decide_eq_false (by omega);have Hs:=zY hs;have Hu:=zY hu;have Hz:=zY hz;clear hall hs hu hz;refine(callsIn_wide (n:=0)).1 ?_;refine callsIn_of_wp_marks func255 rfl trivial ?_ rfl;simp only[ntmps255,List.size_toArray,List.length_cons,List.length_nil,Nat.reduceAdd,Nat.reduceSub,Array.replicate_succ,Array.replicate_zero,List.push_toArray,List.append_toArray,List.nil_append,List.cons_append];gi_wp2_with fail;refine⟨trivial,rfl,?_⟩;gi_at_call 57;refine(callsIn_wide.2 (Ht.out _)).mono ?_;rintro e w1 ⟨t,rfl,ht,hb1⟩;have ht1:t.toList.isEmpty=true:=ht.trans Hall.out;have ht2:(!t.toList.isEmpty)=false:=by rw[ht1];rfl
 clear ht Ht;gi_wp2_with (refine⟨trivial,rfl,?_⟩;gi_at_call 308;refine(callsIn_wide.2 (outputs_any _ _)).mono ?_;rintro e w' ⟨rfl,rfl⟩);have Hb1:=zY hb1;have hs1:=hb1.size;clear hb1;obtain⟨W0,hW0⟩:=zNm ((w1.alloc (.cells #[.pointer none,.slice none 0 0] 135)).alloc (.cells #[.string s] 9));have hsz0:W0.heap.size=w1.heap.size+1+1:=by rw[<-hW0];simp
 have hb0:Below w.heap.size w W0:=by rw[<-hW0];exact((Hb1.alloc hs1 _).alloc (by simp;omega) _)
 have hbx:Boxed W0 (w1.heap.size+1) 9 (.string s):=by rw[<-hW0];have:=Boxed.new (w1.alloc (.cells #[.pointer none,.slice none 0 0] 135)) 9 (.string s);simpa using this
 have hbl0:Bld W0 w1.heap.size w1.heap.size []:=by rw[<-hW0];exact Lib.IsBuilderF.alloc (Bld.new w1) _
 have hI0:EncI w w1.heap.size [] W0:=⟨hbl0,hb0,hs1,by omega⟩;have hIt:=outputs_all s u (w1.heap.size+1) W0 Hs.out Hu.out Hz.out hbx;rw[hW0];clear hW0 hbx hbl0;refine rangeStr.wpIn_rangeFunc_str (gf:=358) (lb:= #[.pointer (some ⟨w1.heap.size+1,0,none⟩)]) rfl (enters_of func358 (by kernel_rfl) rfl) hIt
  (fun x args W hr=>by rw[show args= #[.string x] from hr];rfl) (fun x args X Y hr _=>hr)
  (EncI w w1.heap.size) (fun q X Y hq hsz ha=>?_) hI0
  (fun args=>{ tmps:= #[.string s,undef,.string ⟨#[]⟩,.int .i64 0,.pointer (some ⟨w1.heap.size,0,none⟩),args.getD 0 undef,.bool false,.string s,.int .i64 (s.size:Int),.bool false,.bool false,.string s,.string t,.bool false,.string s,
   .func (.func 358) #[] #[.pointer (some ⟨w1.heap.size+1,0,none⟩)],args.getD 0 undef,undef,undef,undef],defers:=[] })
  ?assign ?body ?done;{refine⟨hq.bld.moved (fun k o ho hc=>ha.cells k o (fun h=>h) ho hc),⟨ha.os.trans hq.below.os,ha.tape.trans hq.below.tape,ha.output.trans hq.below.output,Nat.le_trans hq.below.size ha.size,fun k hk=>(ha.low k (by omega) (fun h=>h)).trans (hq.below.block k hk)⟩,hq.le,Nat.lt_of_lt_of_le hq.lt ha.size⟩};case assign=>intro l x args W K hr hK;obtain rfl:args= #[.string x]:=hr;simp only[Array.getD,List.size_toArray,List.length_cons,List.length_nil,Nat.zero_add,Nat.lt_add_one,dite_true,List.getElem_toArray,List.getElem_cons_zero,Array.getInternal_eq_getElem]at hK;gi_wp2;exact hK
 case body=>(
 intro l pre x args W hsz hI hr hpre;obtain rfl:args= #[.string x]:=hr;have hx2:x.size=2:=outsL_mem _ _ x (hpre.subset (by simp));have hpl:(pre.flatMap bs).length<=1000000:=by obtain⟨rest,hrest⟩:=hpre;have h1:=outsL_flat (u++[0,0]) 0;rw[<-hrest,List.flatMap_append,List.flatMap_append]at h1;have h2:=congrArg List.length h1;rw[List.length_append,List.length_append,cenc_len,List.length_append,<-bitsS_len u,<-Hs.out,bs_len,Hz.out]at h2;simp only[List.length_cons,List.length_nil]at h2;omega
 have hc0:∃v0 v1,W.heap[w1.heap.size]?=some (.cells #[v0,v1] 135 (0,0)):=by rcases hI.bld with⟨_,v,hb,_⟩|⟨_,v,hb,_⟩;{exact⟨_,_,hb⟩};{exact⟨_,_,hb⟩}
 have Hws:=zY (wsk_any W w1.heap.size w1.heap.size (pre.flatMap bs) x hI.bld hpl (by omega) (Nat.le_of_lt hI.lt));have HI:=zY hI;clear hI hpl hpre hIt hb0 Hb1 ht1 ht2 hI0;simp only[Array.getD,List.size_toArray,List.length_cons,List.length_nil,Nat.zero_add,Nat.lt_add_one,dite_true,List.getElem_toArray,List.getElem_cons_zero,Array.getInternal_eq_getElem];gi_wp2_with fail;refine⟨trivial,rfl,(CallsIn.inRound l (callsIn_wide.2 Hws.out)).mono ?_⟩;rintro e w2 ⟨rfl,hbl,hbw,hk⟩;gi_wp2;refine⟨⟨hbw.size,fun k o hko hor=>hk k o hko ?_ ?_⟩,by rw[List.flatMap_append];simpa using hbl,HI.below.trans (hbw.mono HI.le),HI.le,Nat.lt_of_lt_of_le HI.lt hbw.size⟩;{
 intro e;obtain⟨v0,v1,hc⟩:=hc0;cases e;rw[hc]at hko;cases hko;rcases hor with h|h;{cases h};{exact h}};{
 intro c fz e;subst e;rcases hor with h|h;{cases h};{exact h}})
 case done=>
 intro D W hD hI hk;have hby:Bytes (cenc 0 (u++[0,0])):=fun c hc=>by
  have h1:=outsL_flat (u++[0,0]) 0
  rw[<-h1]at hc
  obtain⟨y,_,hy⟩:=List.mem_flatMap.1 hc
  exact bs_lt y c hy
 have hbl:=hI.bld;rw[outsL_flat]at hbl;have Hst:=zY (strk_any W w1.heap.size w1.heap.size _ hby hbl (Nat.le_of_lt hI.lt));have HI:=zY hI;have Hk:=zY hk;clear hI hbl hby hk hI0 hIt hb0 ht1 ht2;gi_wp2_with fail;refine⟨trivial,rfl,(callsIn_wide.2 Hst.out).mono ?_⟩;rintro e w3 ⟨rfl,hb3,hk3⟩;have hk4:w3.heap[D]?=some (.deferred (some [])):=hk3 D _ Hk.out (fun e=>by cases e;omega) (fun c fz e=>by cases e);have HB3:=zY (HI.below.trans (hb3.mono HI.le));clear hb3 hk3;gi_wp2;refine⟨by simp,.inl ⟨_,_,rfl,run_takeDeferred hk4,_,results_tmp2 rfl _ _ _,rfl,?_⟩⟩;exact⟨HB3.os,HB3.tape,HB3.output,Nat.le_trans HB3.size (by simp),fun k hk2=>(World.putObj_heap_other (by omega)).trans (HB3.block k hk2)⟩
end
section
open Go.RowKit
theorem genP_all:allB 9 (fun i=>(genP i).all (fun x=>decide (x<256))&&decide ((genP i).length<=9))=true:=by decide +kernel
theorem genP_bytes {i:Nat} (h:i<9):Bytes (genP i)/\(genP i).length<=9:=by
 have h1:=allB_out genP_all i h;simp only[Bool.and_eq_true,decide_eq_true_eq,List.all_eq_true]at h1;exact⟨fun x hx=>by simpa using h1.1 x hx,h1.2⟩
theorem gexp_small {i:Nat} (h:i<8):gexp (i:Int)=pw i:=by
 unfold gexp gexpN;congr 1;omega
theorem gen_any (w:World):Calls prog 306 #[.int .i64 8] w fun e w'=>∃v,e=.returned (.tuple #[v,.int .i64 0])/\BytesAt w' v G8/\Below w.heap.size w w':=by
 go_enter func306,ntmps306;go_wp2;go_loopw [4,14] (fun v x wr=>∃i:Nat,i<=8/\x=.int .i64 (i:Int)/\BytesAt wr v (genP i)/\Below w.heap.size w wr) (fun _ x _=>8-(intOf x).toNat);case atStart=>exact⟨0,by omega,rfl,BytesAt.one w 1,(Below.refl _ _).alloc (Nat.le_refl _) _⟩
 case round=>
 obtain⟨i,hi,rfl,hv,hB⟩:=hrel;rename_i v _
 by_cases h:i<8;{
 have hiI:(i:Int)<8:=by omega
 obtain⟨hgb,hgl⟩:=genP_bytes (i:=i) (by omega);have Hv:=zY hv;have HBr:=zY hB;have He:=zY (gexp_any wr (i:Int) (by omega));rw[gexp_small h]at He;have hnext:pmul (genP i) [pw i,1]=genP (i+1):=rfl;have Hnext:=zY hnext;have hpw:=pw_lt i;clear hv hB hnext;go_wp2_with fail;refine He.mono ?_;rintro e w1 ⟨rfl,hb1⟩;have hv1:=BytesAt.below Hv.out hb1;have hA:Below w1.heap.size w1 (w1.alloc (.cells #[.int .u8 (pw i:Nat),.int .u8 1] 5)):=(Below.refl _ _).alloc (Nat.le_refl _) _;have hv2:=BytesAt.below hv1 hA;have hq:BytesAt (w1.alloc (.cells #[.int .u8 (pw i:Nat),.int .u8 1] 5)) (.slice (some ⟨w1.heap.size,0,none⟩) 2 2) [pw i,1]:=(U8B.new w1 [pw i,1]).bytes rfl (Nat.le_refl _) (by omega);have Hm:=zY (pmul_any _ _ _ _ _ hv2 hq hgb (fun x hx=>by simp at hx;omega) (by omega) (by simp));have HB2:=zY (HBr.trans ((hb1.trans (hA.mono hb1.size)).mono HBr.size));clear hv1 hA hv2 hq hb1 hgb hgl hpw;go_wp2_with fail;refine Hm.mono ?_;rintro e w2 ⟨v',rfl,hv',hb2⟩;rw[Hnext.out]at hv';have Hv':=zY hv';have HB3:=zYt HB2 hb2;clear hv' hb2;go_wp2;go_roundw;case rel=>exact⟨i+1,by omega,by go_num,Hv'.out,HB3.out⟩
 case measure=>simp[intOf];omega};{
 obtain rfl:i=8:=by omega
 have Hv:=zY hv;have HBr:=zY hB;clear hv hB;go_wp2;go_ret2;exact⟨_,rfl,by rw[<-genP_8];exact Hv.out,HBr.out⟩}
def lfI (r:List Nat) (s i:Nat):List Nat:=(List.range 8).map fun j=>if j<i then cf r (j+1)^^^gmul (s^^^cf r 0) (cf G8 (7-j)) else cf r (j+1)
theorem lfI_len (r:List Nat) (s i:Nat):(lfI r s i).length=8:=by unfold lfI;rw[List.length_map,List.length_range]
theorem lfI_cf (r:List Nat) (s i j:Nat):cf (lfI r s i) j=if j<8 then (if j<i then cf r (j+1)^^^gmul (s^^^cf r 0) (cf G8 (7-j)) else cf r (j+1)) else 0:=by unfold lfI;rw[cf_map]
theorem list_ext8 {a b:List Nat} (ha:a.length=8) (hb:b.length=8) (h:∀i,i<8->cf a i=cf b i):a=b:=by
 refine List.ext_getElem? fun i=>?_;by_cases hi:i<8;{
 have:=h i hi;unfold cf at this;rw[List.getElem?_eq_getElem (by omega),List.getElem?_eq_getElem (by omega)]at this⊢;simpa using this};{rw[List.getElem?_eq_none (by omega),List.getElem?_eq_none (by omega)]}
theorem lfI_zero {r:List Nat} (h:r.length=8) (s:Nat):r.drop 1++[0]=lfI r s 0:=by
 refine list_ext8 (by simp[h]) (lfI_len _ _ _) fun j hj=>?_;rw[lfI_cf,if_pos hj,if_neg (by omega)];unfold cf;by_cases h7:j<7;{rw[List.getElem?_append_left (by simp;omega),List.getElem?_drop,Nat.add_comm]};{
 obtain rfl:j=7:=by omega
 rw[List.getElem?_append_right (by simp[h]),List.getElem?_eq_none (l:=r) (by omega)];simp[h]}
theorem lfI_set {r:List Nat} {s i:Nat} (h:i<8):(lfI r s i).set i (cf (lfI r s i) i^^^gmul (s^^^cf r 0) (cf G8 (7-i)))=lfI r s (i+1):=by
 refine list_ext8 (by rw[List.length_set,lfI_len]) (lfI_len _ _ _) fun j hj=>?_;rw[cf_set _ _ _ _ (by rw[lfI_len];exact h),lfI_cf,lfI_cf,lfI_cf,if_pos hj,if_pos hj,if_pos h,if_neg (Nat.lt_irrefl i)];by_cases e:i=j;{
 subst e;rw[if_pos rfl,if_pos (by omega)]};{
 rw[if_neg e];by_cases h1:j<i;{rw[if_pos h1,if_pos (by omega)]};{rw[if_neg h1,if_neg (by omega)]}}
theorem lfI_end (r:List Nat) (s:Nat):lfI r s 8=lfsr G8 r s:=by
 unfold lfI lfsr;refine List.map_congr_left fun j hj=>?_;rw[if_pos (List.mem_range.1 hj)]
structure DivSt (W:World) (B gb go gc:Nat) (r:List Nat):Prop where
 g:W.cell? ⟨B,0,none⟩=some (.slice (some ⟨gb,go,none⟩) 9 gc)
 n:W.cell? ⟨B+1,0,none⟩=some (.int .i64 8)
 row:U8B W (B+2) r
 rest:W.cell? ⟨B+3,0,none⟩=some (.slice (some ⟨B+2,0,none⟩) 8 8)
 gs:∀i,i<9->W.cell? ⟨gb,go+i,none⟩=some (.int .u8 (cf G8 i:Nat))
 lt:gb<B
theorem DivSt.turned {A C:World} {B gb go gc:Nat} {r r':List Nat} (h:DivSt A B gb go gc r) (t:Turned A C (B+2)) (hr:U8B C (B+2) r'):DivSt C B gb go gc r':=by
 have hlt:=h.lt;have hk:∀p:Addr,p.block≠B+2->∀u,A.cell? p=some u->C.cell? p=some u:=fun p hp u hu=>(World.cell?_of_block (t.other p.block hp)).trans hu;exact⟨hk _ (by show B≠B+2;omega) _ h.g,hk _ (by show B+1≠B+2;omega) _ h.n,hr,hk _ (by show B+3≠B+2;omega) _ h.rest,fun i hi=>hk _ (by show gb≠B+2;omega) _ (h.gs i hi),h.lt⟩
theorem DivSt.drw {A:World} {B gb go gc:Nat} {r:List Nat} (h:DivSt A B gb go gc r):DivSt A.drew B gb go gc r:=⟨h.g,h.n,h.row,h.rest,h.gs,h.lt⟩
theorem setRow_turned (W:World) (g:Nat) (cs:Array Value):Turned W (W.setRow g cs) g:=
 ⟨rfl,rfl,rfl,by simp[World.setRow],fun k hk=>setRow_other W g k cs hk⟩
theorem run_copyT {W:World} {g n c:Nat} {ad:Addr} {m k:Nat} {cur p:List Nat} (ty:TypeId) (hg:U8B W g cur) (hp:BytesAt W (.slice (some ad) m c) p) (hm:m=p.length) (hpn:p.length<=n) (hn:n=cur.length):
  ∃w2,(Builtin.copy_ #[117,117] ty #[.slice (some ⟨g,0,none⟩) n k,.slice (some ad) m c]).run prog W=.ok (.int .i64 (m:Int)) w2/\U8B w2 g (p++cur.drop p.length)/\Turned W w2 g:=by
 subst hm hn;obtain⟨h1,h2⟩:=cells_of hp;have hmin:Nat.min p.length cur.length=p.length:=Nat.min_eq_left hpn;have hr:=run_copy_row (P:=prog) W 117 117 ty 5 g 0 cur.length k ad p.length c _ 5 (p.map u8V) underlying117 (by kernel_rfl) hg (by rw[List.length_map];exact hmin.symm) (h2 ad rfl) (by simpa using hpn) (one_u8s p);rw[List.length_map]at hr;have hs:=setRow_heap W g (cur.map u8V).toArray (List.take 0 ((cur.map u8V).toArray.toList)++p.map u8V++List.drop (0+p.length) ((cur.map u8V).toArray.toList)).toArray 5 _ hg;refine⟨_,hr,hs.trans ?_,setRow_turned _ _ _⟩;simp
theorem div1_any (W:World) (B gb go gc:Nat) (r:List Nat) (s:Nat) (h:DivSt W B gb go gc r) (hr:r.length=8) (hrb:Bytes r) (hs:s<256):
  Calls prog 357 #[.int .u8 (s:Int),.pointer (some ⟨B+3,0,none⟩),.pointer (some ⟨B+1,0,none⟩),.pointer (some ⟨B,0,none⟩)] W fun e w'=>(∃x,e=.returned x)/\DivSt w' B gb go gc (lfsr G8 r s)/\Below B W w':=by
 have HA:=zY (fun V=>gadd_any V s (cf r 0) hs (cf_lt hrb 0));have hx:s^^^cf r 0<256:=xor_lt hs (cf_lt hrb 0);obtain⟨r0,t0,hrt⟩:∃a b,r=a::b:=by{
 cases r with
 |nil=>simp at hr
 |cons a b=>exact⟨a,b,rfl⟩};have hc0:=h.row.cell (i:=0) (x:=cf r 0) (by rw[hrt];rfl);have hcr:=h.rest;have H:=zY h;have Hr:=zY hr;have Hrb:=zY hrb;have Hx:=zY hx;clear hrt h hr hrb hx hs;go_enter func357,ntmps357;go_upto_region 1 with(go_at_call 189;refine(HA.out _).mono ?_;rintro e w' ⟨rfl,rfl⟩)
 obtain⟨w2,hcopy,hrow2,ht2⟩:=run_copyT (W:=W.drew) (n:=8) (k:=8) (c:=7) (m:=7) (ad:=⟨B+2,1,none⟩) (p:=r.drop 1) 3 H.row (by
  refine⟨some ⟨B+2,1,none⟩,7,by simp[Hr.out],by simp[Hr.out],by decide,fun j x hj=>?_⟩
  rw[List.getElem?_drop]at hj
  exact⟨B+2,1,_,rfl,by rw[show 1+j=1+j from rfl];exact H.row.cell hj,rfl⟩) (by simp[Hr.out]) (by simp[Hr.out]) Hr.symm;rw[show (r.drop 1).length=7 by simp[Hr.out]]at hrow2;have Hrow2:=zY hrow2;have Ht2:=zY ht2;clear hrow2 ht2;go_cut [] (fun wx=>DivSt wx B gb go gc (r.drop 1++r.drop 7)/\Below B W wx);case first=>refine wp_region_held_drew (S:=(fun w'=>w'.cell? ⟨B+3,0,none⟩=some (.slice (some ⟨B+2,0,none⟩) 8 8))) (by kernel_rfl) ?_ (fun hHeld=>?_);{(first|exact H.rest|exact(World.cell?_of_block (Ht2.other (B+3) (by omega))).trans H.rest)};refine tk 0 ?_;refine tk 1 ?_;refine tk 2 ?_;refine zE1 3 fun K hK=>?_;go_simp;refine hko hK (by(first|exact H.rest|exact(World.cell?_of_block (Ht2.other (B+3) (by omega))).trans H.rest)) (fun _=>?_);clear hK K;refine wpAnyH_done (by kernel_rfl) ?_ _;have hD:=H.drw.turned Ht2.out Hrow2.out;go_wp2_with fail;go_meet;exact⟨hD,Ht2.below (Below.refl B W).drew (by omega)⟩
 case rest=>
 obtain⟨hd,hbw⟩:=hcut;have HD:=zY hd;have HBw:=zY hbw;have hcr:=hd.rest;have hcn:=hd.n;have e1:(r.drop 1++r.drop 7).set 7 0=lfI r s 0:=by{
 rw[<-lfI_zero Hr.out s];have h7:(r.drop 7).length=1:=by simp[Hr.out]
 match hq:r.drop 7,h7 with
 |[q],_=>rw[List.set_append_right _ _ (by simp[Hr.out])];simp[Hr.out]};have hc7:=hd.row.cell (i:=7) (x:=cf r 7) (by rw[List.getElem?_append_right (by simp[Hr.out])];simp[Hr.out,cf]);have hf7:=hd.row.frozen 7;have HR7:=zY (hd.row.set 7 0);rw[e1]at HR7;have HD2:=zY (hd.turned (turned_set1 wc (B+2) 7 (.int .u8 0)) HR7.out);have HB2:=zY (hbw.setCell (p:=⟨B+2,7,none⟩) (by show B<=B+2;omega) (.int .u8 0));clear hd hbw e1 hcopy Hrow2 Ht2 H HA;go_upto_region 3 with fail;generalize wc.setCell ⟨B+2,7,none⟩ (.int .u8 0)=wd at *;clear hc7 hf7 HR7 hcr hcn HD HBw;have hcr:=HD2.rest;go_upto_region 4 with fail;clear hcr;go_loopw [22] (fun x wr=>∃i:Nat,i<=8/\x=.int .i64 (i:Int)/\DivSt wr B gb go gc (lfI r s i)/\Below B W wr) (fun x _=>8-(intOf x).toNat);case atStart=>exact⟨0,by omega,rfl,HD2.out,HB2.out⟩
 case round=>
 obtain⟨i,hi,rfl,hd,hbw⟩:=hrel;have HD:=zY hd;have HBw:=zY hbw;clear hbw HD2 HB2;by_cases h:i<8;{
 have hiI:(i:Int)<8:=by omega
 have hw0:IntKind.i64.wrap 7=7:=by decide
 have hw1:IntKind.i64.wrap (7-(i:Int))=7-i:=by rw[IntKind.wrap_i64];omega
 have hw2:(7-(i:Int)).toNat=7-i:=by omega
 have hw3:(0:Int)<=7-i:=by omega
 have hw4:(7:Int)-i<9:=by omega
 have hw5:(i:Int)<=7:=by omega
 have hlb:cf (lfI r s i) i<256:=by rw[lfI_cf,if_pos h,if_neg (Nat.lt_irrefl i)];exact cf_lt Hrb.out _
 have hgb:cf G8 (7-i)<256:=cf_lt (by decide) _;have HM:Hid (∀V:World,Calls prog 188 #[.int .u8 ((s^^^cf r 0:Nat):Int),.int .u8 (cf G8 (7-i):Nat)] V fun e w'=>e=.returned (.int .u8 (gmul (s^^^cf r 0) (cf G8 (7-i)):Nat))/\V=w'):=zY (fun V=>gmul_any V _ _ Hx.out hgb);have HA2:Hid (∀V:World,Calls prog 189 #[.int .u8 (cf (lfI r s i) i:Nat),.int .u8 (gmul (s^^^cf r 0) (cf G8 (7-i)):Nat)] V fun e w'=>e=.returned (.int .u8 ((cf (lfI r s i) i^^^gmul (s^^^cf r 0) (cf G8 (7-i)):Nat):Int))/\V=w'):=zY (fun V=>gadd_any V _ _ hlb (gmul_lt _ Hx.out));have hcl:=hd.row.cell (i:=i) (x:=cf (lfI r s i) i) (by unfold cf;rw[List.getElem?_eq_getElem (by rw[lfI_len];exact h)];rfl);have hfl:=hd.row.frozen i;have HG:Hid (wr.cell? ⟨gb,go+(7-i),none⟩=some (.int .u8 (cf G8 (7-i):Nat))):=zY (hd.gs (7-i) (by omega));have HSet:Hid (U8B (wr.setCell ⟨B+2,i,none⟩ (.int .u8 ((cf (lfI r s i) i^^^gmul (s^^^cf r 0) (cf G8 (7-i)):Nat):Int))) (B+2) (lfI r s (i+1))):=zY (by rw[<-lfI_set h];exact hd.row.set i _);have hlt:=hd.lt;clear hd hlb hgb;generalize cf (lfI r s i) i=cl at *;generalize gmul (s^^^cf r 0) (cf G8 (7-i))=cm at *;generalize s^^^cf r 0=f at *;generalize cf G8 (7-i)=cg at *;go_upto_region 6 with fail;refine wp_region_held_drew (S:=(fun w'=>w'.cell? ⟨B,0,none⟩=some (.slice (some ⟨gb,go,none⟩) 9 gc)/\w'.cell? ⟨B+1,0,none⟩=some (.int .i64 8)/\w'.cell? ⟨B+3,0,none⟩=some (.slice (some ⟨B+2,0,none⟩) 8 8)/\w'.cell? ⟨gb,go+(7-i),none⟩=some (.int .u8 (cg:Int)))) (by kernel_rfl) ?_ (fun hHeld=>?_)
 {(first|exact⟨HD.g,HD.n,HD.rest,HG.out⟩|exact⟨(World.cell?_setCell_other _ _ _ _ (by first|(simp;done)|(simp;omega))).trans HD.g,(World.cell?_setCell_other _ _ _ _ (by first|(simp;done)|(simp;omega))).trans HD.n,(World.cell?_setCell_other _ _ _ _ (by first|(simp;done)|(simp;omega))).trans HD.rest,(World.cell?_setCell_other _ _ _ _ (by first|(simp;done)|(simp;omega))).trans HG.out⟩)};refine tk 0 ?_;refine tk 1 ?_;refine tk 2 ?_;refine tk 3 ?_;refine tk 4 ?_;refine tk 6 ?_;refine tk 7 ?_;refine tk 8 ?_;refine tk 9 ?_;refine tk 10 ?_;refine tk 11 ?_;refine tk 12 ?_;refine tk 13 ?_;refine take_call (i:=14) (oi:=_) (v:=(.int .u8 (cm:Int))) rfl (by kernel_rfl) (by kernel_rfl) (by kernel_rfl) (fun _ _ _ h=>h) (And.intro (by rfl) ?hyb14) (by assumption) ?restb14;case hyb14=>intro V hSw;exact⟨188,#[.int .u8 (f:Int),.int .u8 (cg:Int)],by go_simp,HM.out V⟩
 try simp only[Act.put,List.setIfInBounds_toArray]
 try simp only[List.getElem_toArray,List.getElem_cons_zero,List.getElem_cons_succ]
 refine zE1 5 fun K hK=>?_;go_simp;refine hko hK (by(first|exact⟨HD.g,HD.n,HD.rest,HG.out⟩|exact⟨(World.cell?_setCell_other _ _ _ _ (by first|(simp;done)|(simp;omega))).trans HD.g,(World.cell?_setCell_other _ _ _ _ (by first|(simp;done)|(simp;omega))).trans HD.n,(World.cell?_setCell_other _ _ _ _ (by first|(simp;done)|(simp;omega))).trans HD.rest,(World.cell?_setCell_other _ _ _ _ (by first|(simp;done)|(simp;omega))).trans HG.out⟩)) (fun _=>?_);clear hK K;refine take_call (i:=15) (oi:=_) (v:=(.int .u8 ((cl^^^cm:Nat):Int))) rfl (by kernel_rfl) (by kernel_rfl) (by kernel_rfl) (fun _ _ _ h=>h) (And.intro (by rfl) ?hyb15) (by assumption) ?restb15;case hyb15=>intro V hSw;exact⟨189,#[.int .u8 (cl:Int),.int .u8 (cm:Int)],by go_simp,HA2.out V⟩
 try simp only[Act.put,List.setIfInBounds_toArray]
 try simp only[List.getElem_toArray,List.getElem_cons_zero,List.getElem_cons_succ]
 refine tk 16 ?_;refine zE1 17 fun K hK=>?_;go_simp;refine hko hK (by(first|exact⟨HD.g,HD.n,HD.rest,HG.out⟩|exact⟨(World.cell?_setCell_other _ _ _ _ (by first|(simp;done)|(simp;omega))).trans HD.g,(World.cell?_setCell_other _ _ _ _ (by first|(simp;done)|(simp;omega))).trans HD.n,(World.cell?_setCell_other _ _ _ _ (by first|(simp;done)|(simp;omega))).trans HD.rest,(World.cell?_setCell_other _ _ _ _ (by first|(simp;done)|(simp;omega))).trans HG.out⟩)) (fun _=>?_);clear hK K;refine wpAnyH_done (by kernel_rfl) ?_ _;have HD3:=zY (DivSt.turned HD.drw (turned_set1 wr.drew (B+2) i _) HSet.out);have HB3:=zY ((HBw.drew).setCell (p:=⟨B+2,i,none⟩) (by show B<=B+2;omega) (.int .u8 ((cl^^^cm:Nat):Int)));clear HD HBw hcl hfl HG HSet HM HA2;go_wp2_with fail;go_roundw;case rel=>exact⟨i+1,by omega,by go_num,HD3.out,HB3.out⟩
 case measure=>simp[intOf];omega};{
 obtain rfl:i=8:=by omega
 clear hd;go_wp2_with fail;go_end0;exact⟨⟨_,rfl⟩,by rw[<-lfI_end];exact HD.out,HBw.out⟩}
theorem divider_any (w:World) (gb go gc:Nat) (hg:∀i,i<9->w.cell? ⟨gb,go+i,none⟩=some (.int .u8 (cf G8 i:Nat))):
  Calls prog 307 #[.slice (some ⟨gb,go,none⟩) 9 gc] w fun e w'=>e=.returned (.tuple #[.func (.func 357) #[] #[.pointer (some ⟨w.heap.size+3,0,none⟩),.pointer (some ⟨w.heap.size+1,0,none⟩),.pointer (some ⟨w.heap.size,0,none⟩)],.slice (some ⟨w.heap.size+2,0,none⟩) 8 8]) /\
   DivSt w' w.heap.size gb go gc (List.replicate 8 0)/\Below w.heap.size w w':=by
 have hmk:=make_u8_8;have hm:∃W4,((((w.alloc (.cells #[.slice (some ⟨gb,go,none⟩) 9 gc] 117)).alloc (.cells #[.int .i64 8] 3)).alloc (.cells (arrB [0,0,0,0,0,0,0,0]) 5)).alloc (.cells #[.slice (some ⟨w.heap.size+1+1,0,none⟩) 8 8] 117))=W4/\DivSt W4 w.heap.size gb go gc [0,0,0,0,0,0,0,0]/\Below w.heap.size w W4:=by{
 have b1:Below w.heap.size w (w.alloc (.cells #[.slice (some ⟨gb,go,none⟩) 9 gc] 117)):=(Below.refl _ _).alloc (Nat.le_refl _) _;have b2:Below (w.alloc (.cells #[.slice (some ⟨gb,go,none⟩) 9 gc] 117)).heap.size (w.alloc (.cells #[.slice (some ⟨gb,go,none⟩) 9 gc] 117)) ((w.alloc (.cells #[.slice (some ⟨gb,go,none⟩) 9 gc] 117)).alloc (.cells #[.int .i64 8] 3)):=(Below.refl _ _).alloc (Nat.le_refl _) _;have b3:Below ((w.alloc (.cells #[.slice (some ⟨gb,go,none⟩) 9 gc] 117)).alloc (.cells #[.int .i64 8] 3)).heap.size ((w.alloc (.cells #[.slice (some ⟨gb,go,none⟩) 9 gc] 117)).alloc (.cells #[.int .i64 8] 3)) (((w.alloc (.cells #[.slice (some ⟨gb,go,none⟩) 9 gc] 117)).alloc (.cells #[.int .i64 8] 3)).alloc (.cells (arrB [0,0,0,0,0,0,0,0]) 5)):=(Below.refl _ _).alloc (Nat.le_refl _) _;have b4:Below (((w.alloc (.cells #[.slice (some ⟨gb,go,none⟩) 9 gc] 117)).alloc (.cells #[.int .i64 8] 3)).alloc (.cells (arrB [0,0,0,0,0,0,0,0]) 5)).heap.size (((w.alloc (.cells #[.slice (some ⟨gb,go,none⟩) 9 gc] 117)).alloc (.cells #[.int .i64 8] 3)).alloc (.cells (arrB [0,0,0,0,0,0,0,0]) 5)) ((((w.alloc (.cells #[.slice (some ⟨gb,go,none⟩) 9 gc] 117)).alloc (.cells #[.int .i64 8] 3)).alloc (.cells (arrB [0,0,0,0,0,0,0,0]) 5)).alloc (.cells #[.slice (some ⟨w.heap.size+1+1,0,none⟩) 8 8] 117)):=(Below.refl _ _).alloc (Nat.le_refl _) _;have s1:(w.alloc (.cells #[.slice (some ⟨gb,go,none⟩) 9 gc] 117)).heap.size=w.heap.size+1:=by simp
 have s2:((w.alloc (.cells #[.slice (some ⟨gb,go,none⟩) 9 gc] 117)).alloc (.cells #[.int .i64 8] 3)).heap.size=w.heap.size+2:=by simp
 have s3:(((w.alloc (.cells #[.slice (some ⟨gb,go,none⟩) 9 gc] 117)).alloc (.cells #[.int .i64 8] 3)).alloc (.cells (arrB [0,0,0,0,0,0,0,0]) 5)).heap.size=w.heap.size+3:=by simp
 have k1:=(Boxed.new w 117 (.slice (some ⟨gb,go,none⟩) 9 gc)).cell;have k2:=(Boxed.new (w.alloc (.cells #[.slice (some ⟨gb,go,none⟩) 9 gc] 117)) 3 (.int .i64 8)).cell;have k3:=U8B.new ((w.alloc (.cells #[.slice (some ⟨gb,go,none⟩) 9 gc] 117)).alloc (.cells #[.int .i64 8] 3)) [0,0,0,0,0,0,0,0];have k4:=(Boxed.new (((w.alloc (.cells #[.slice (some ⟨gb,go,none⟩) 9 gc] 117)).alloc (.cells #[.int .i64 8] 3)).alloc (.cells (arrB [0,0,0,0,0,0,0,0]) 5)) 117 (.slice (some ⟨w.heap.size+1+1,0,none⟩) 8 8)).cell;rw[s1]at k2;rw[s2]at k3;rw[s3]at k4;have hgl:gb<w.heap.size:=World.block_lt_of_cell? _ _ (hg 0 (by omega));refine⟨_,rfl,⟨?_,?_,?_,k4,fun i hi=>?_,hgl⟩,?_⟩;{exact cell_below b4 (cell_below b3 (cell_below b2 k1))};{exact cell_below b4 (cell_below b3 k2)};{exact Blk.kept k3 b4};{exact cell_below b4 (cell_below b3 (cell_below b2 (cell_below b1 (hg i hi))))};{exact b1.trans ((b2.trans ((b3.trans (b4.mono b3.size)).mono b2.size)).mono b1.size)}};obtain⟨W4,hW4,hd,hbw⟩:=hm;have HW4:=zY hW4;have HD:=zY hd;have HB:=zY hbw;clear hW4 hd hbw hg;go_enter func307,ntmps307;go_wp2;rw[HW4.out];clear HW4;go_cut [2,3] (fun s2 s3 wx=>s2=.func (.func 357) #[] #[.pointer (some ⟨w.heap.size+3,0,none⟩),.pointer (some ⟨w.heap.size+1,0,none⟩),.pointer (some ⟨w.heap.size,0,none⟩)]/\s3=.slice (some ⟨w.heap.size+2,0,none⟩) 8 8/\DivSt wx w.heap.size gb go gc [0,0,0,0,0,0,0,0]/\Below w.heap.size w wx)
 case first=>refine wp_region_held_drew (S:=(fun w'=>w'.cell? ⟨w.heap.size+1+1+1,0,none⟩=some (.slice (some ⟨w.heap.size+2,0,none⟩) 8 8))) (by kernel_rfl) ?_ (fun hHeld=>?_);{exact HD.rest};refine tk 0 ?_;refine tk 1 ?_;refine tk 2 ?_;refine tk 3 ?_;refine wpAnyH_done (by kernel_rfl) ?_ _;go_wp2_with fail;go_meet;exact⟨rfl,rfl,HD.drw,HB.drew⟩
 case rest=>
 obtain⟨rfl,rfl,hd,hbw⟩:=hcut;have HD2:=zY hd;have HB2:=zY hbw;clear hd hbw HD HB;go_wp2_with fail;go_ret2;exact⟨rfl,HD2.out,HB2.out⟩
theorem rsencode_any (w:World) (s:ByteArray) (hs:s.size=44):Calls prog 253 #[.string s,.int .i64 8] w fun e w'=>e=.returned (.tuple #[.string (strB (rsEnc (bs s))),.int .i64 0])/\Below w.heap.size w w':=by
 have hbl:=bs_len s;go_enter func253,ntmps253;go_wp2_with fail;refine(gen_any _).mono ?_;rintro e w1 ⟨v,rfl,hv,hb1⟩;obtain⟨A,c,rfl,h1,h2,h3⟩:=hv;have hv:BytesAt w1 (.slice A 9 c) G8:=⟨A,c,rfl,h1,h2,h3⟩;obtain⟨gb,go,rfl,_⟩:=BytesAt.cell hv (i:=0) rfl;have HG:Hid (∀i,i<9->w1.cell? ⟨gb,go+i,none⟩=some (.int .u8 (cf G8 i:Nat))):=zY (fun i hi=>by
  obtain⟨b',o',e1,e2⟩:=BytesAt.cell hv (i:=i) (x:=cf G8 i) (by unfold cf;rw[List.getElem?_eq_getElem (by simpa [G8]using hi)];rfl)
  cases e1
  exact e2);have Hb1:=zY hb1;clear hv h1 h2 h3 hb1;go_wp2_with fail;refine(divider_any w1 gb go c HG.out).mono ?_;rintro e w2 ⟨rfl,hd,hb2⟩;have HD:=zY hd;have HB2:=zY hb2;have hszB:=Hb1.size;clear hd hb2 HG;generalize w1.heap.size=B at *;go_wp2_with fail;go_loopw [31] (fun x wr=>∃i:Nat,i<=s.size/\x=.int .i64 (i:Int)/\DivSt wr B gb go c (((bs s).take i).foldl (lfsr G8) (List.replicate 8 0))/\Below B w1 wr) (fun x _=>s.size-(intOf x).toNat);case atStart=>exact⟨0,by omega,rfl,HD.out,HB2.out⟩
 case round=>
 obtain⟨i,hi,rfl,hd,hbw⟩:=hrel;have hrl:(((bs s).take i).foldl (lfsr G8) (List.replicate 8 0)).length=8/\Bytes (((bs s).take i).foldl (lfsr G8) (List.replicate 8 0)):=by have h:=rsPar_inv ((bs s).take i) (fun x hx=>bs_lt s x (List.mem_of_mem_take hx));unfold rsPar at h;rw[genP_8]at h;exact⟨h.1,h.2.1⟩
 by_cases h:i<s.size;{
 have hiI:(i:Int)<s.size:=by omega
 have hb8:(s[i]'h).toNat<256:=UInt8.toNat_lt _;have hst:((bs s).take (i+1)).foldl (lfsr G8) (List.replicate 8 0)=lfsr G8 (((bs s).take i).foldl (lfsr G8) (List.replicate 8 0)) (s[i]'h).toNat:=by rw[List.take_add_one,bs_get s i h];simp[List.foldl_append]
 have Hst:=zY hst;have Hc:=zY (div1_any wr B gb go c _ (s[i]'h).toNat hd hrl.1 hrl.2 hb8);have HBw:=zY hbw;clear hst hd hbw hrl hb8;go_wp2_with (go_at_call 357;refine Hc.mono ?_;rintro e w3 ⟨⟨x,rfl⟩,hd3,hb3⟩);go_roundw;case rel=>exact⟨i+1,by omega,by go_num,by rw[Hst.out];exact hd3,HBw.trans hb3⟩
 case measure=>simp[intOf];omega};{
 obtain rfl:i=s.size:=by omega
 have hrw:((bs s).take s.size)=bs s:=List.take_of_length_le (by omega);rw[hrw]at hd hrl;have hrr:(bs s).foldl (lfsr G8) (List.replicate 8 0)=rsPar (bs s):=by unfold rsPar;rw[genP_8]
 rw[hrr]at hd hrl;have hcs:=run_toStr (hd.row.bytes (n:=8) (c:=8) hrl.1.symm (Nat.le_refl _) (by omega)) hrl.1.symm;have zr:(strB (rsPar (bs s))).size=8:=by rw[strB_size,hrl.1]
 have HE:Hid (s++strB (rsPar (bs s))=strB (rsEnc (bs s))):=zY (by unfold rsEnc;rw[<-strB_cat,strB_bs]);have HBw:=zY hbw;clear hd hbw hrl hrw hrr hbl;go_wp2_with fail;go_ret2;exact⟨by rw[<-HE.out];rfl,Hb1.trans (HBw.mono hszB)⟩}
theorem Tryz.sizeQual:(prog.info? 82).map (·.size)=some 3:=by kernel_rfl
section
variable {ops:Array Oper} {o:Oper} {a:Act} {K:Act->World->Prop} {Q:Exit->Act->World->Prop} {E:Prop}
theorem step_storeQ {W:World} {g:Nat} {us:List Value} (hw:Region.wanted o (yielded ops a.tmps)=true) (p s:Operand) (ho:o.op=.store 82 p s) (cells:Array Value)
  (hp:a.eval p=.pointer (some ⟨g,0,none⟩)) (hs:a.eval s=.agg cells) (h3:cells.size=3) (h1:cells.all (·.oneCell')=true) (ht:Blk W g 82 us) (hu:us.length=3)
  (h:∀W',Blk W' g 82 cells.toList->Turned W W' g->K (a.put o.dst undef) W'):
  if Region.wanted o (yielded ops a.tmps)=true then Oper.wp prog o a W K Q else E:=by
 rw[if_pos hw];have hb:=setCells_blk cells.toList [] us W ht (by rw[hu];simp[h3]);exact wp_store_mid 82 p s ho g 0 cells hp hs (by rw[h3,<-hu];exact ht.there) (by rw[h3];exact Tryz.sizeQual) h1 (h _ hb (setCells_turned _ _ _ _))
end
theorem Blk.turned {A B:World} {g g':Nat} {t:TypeId} {us:List Value} (h:Blk A g t us) (k:Turned A B g') (hne:g≠g'):Blk B g t us:=h.of_heap (k.other g hne)
abbrev Quad (W:World) (g16 g6:Nat) (c0 c1 c2 c3 c4 c5 c6 c7 c8 x y z:Value):Prop:=Box9 W g16 c0 c1 c2 c3 c4 c5 c6 c7 c8/\Blk W g6 82 [x,y,z]/\W.cell? ⟨g6,0,none⟩=some x/\W.cell? ⟨g6,1,none⟩=some y/\W.cell? ⟨g6,2,none⟩=some z
theorem quad_drw {W:World} {g16 g6:Nat} {c0 c1 c2 c3 c4 c5 c6 c7 c8 x y z:Value} (h:Quad W g16 g6 c0 c1 c2 c3 c4 c5 c6 c7 c8 x y z):Quad W.drew g16 g6 c0 c1 c2 c3 c4 c5 c6 c7 c8 x y z:=h
theorem quad_turned {A B:World} {g16 g6 g:Nat} {c0 c1 c2 c3 c4 c5 c6 c7 c8 x y z:Value} (h:Quad A g16 g6 c0 c1 c2 c3 c4 c5 c6 c7 c8 x y z) (k:Turned A B g) (h1:g16≠g) (h2:g6≠g):Quad B g16 g6 c0 c1 c2 c3 c4 c5 c6 c7 c8 x y z:=by
 have hk:∀j u,A.cell? ⟨g16,j,none⟩=some u->B.cell? ⟨g16,j,none⟩=some u:=fun j u hu=>(World.cell?_of_block (a:=⟨g16,j,none⟩) (k.other g16 h1)).trans hu;obtain⟨⟨a0,a1,a2,a3,a4,a5,a6,a7,a8⟩,hb,_,_,_⟩:=h;have hb2:=hb.turned k h2;exact⟨⟨hk _ _ a0,hk _ _ a1,hk _ _ a2,hk _ _ a3,hk _ _ a4,hk _ _ a5,hk _ _ a6,hk _ _ a7,hk _ _ a8⟩,hb2,hb2.c 0,hb2.c 1,hb2.c 2⟩
theorem fdec_ok (w:World) (m:List Nat) (f:Frm) (hm:Msg m f):
  Calls prog 214 #[.string (strB (bodyL m))] w fun e w'=>e=.returned (.tuple #[f.v,zeroQ,.int .i64 0])/\Below w.heap.size w w':=by
 obtain⟨hb,hl,hc,hf⟩:=hm;obtain⟨hw,hwb⟩:=rsEnc_ok hb hl;have h01:=bodyL_01 hb hl;have hbb:=bs_strB (bodyL_bytes hb hl);have hz:(strB (bodyL m)).size=836:=by rw[strB_size,bodyL_len]
 have HCk:=fun W=>ccheck_any W (strB (bodyL m)) (by omega);have HUn:=fun W=>cunr_any W (strB (bodyL m));have HDe:=fun W=>dein_any W (strB (bodyL m)) hz;rw[hbb]at HCk HUn HDe;rw[show chkE (bodyL m)=0 by unfold chkE;rw[cells_01 h01];rfl]at HCk;rw[show (bodyL m).count 63=0 from List.count_eq_zero.2 fun h=>by(rcases h01 _ h with h|h<;>cases h),Int.natCast_zero]at HUn;rw[show deinL (bodyL m)=cellL m from dein_inter (cellL_len hb hl)]at HDe;have hcb:=bs_strB (show Bytes (cellL m) from fun x hx=>by rcases cellL_01 m x hx with h|h<;>omega);have hcz:(strB (cellL m)).size=836:=by rw[strB_size,cellL_len hb hl]
 have HEx:=fun W=>vext_any W (strB (cellL m)) (by omega) (by omega) (by omega) (by rw[hcb];exact cells_01 (cellL_01 m));rw[hcb]at HEx;unfold extR at HEx;rw[extP_cell hb hl]at HEx;dsimp only at HEx;have hbi:=bitU_bits (rsEnc m);have hbl:(bitU (rsEnc m)).length=416:=by rw[bitU_len,hw]
 have hBb:=bs_strB (bitsS_bytes hbi);have hBz:(strB (bitsS (bitU (rsEnc m)))).size=416:=by rw[strB_size,bitsS_len,hbl]
 have HTo:=fun W=>cto_any W (strB (bitsS (bitU (rsEnc m)))) (by omega) (by omega) (by rw[hBb];exact bitsS_01 hbi);rw[hBb,bitsS_bitU,toB_frmB hwb]at HTo;rw[bitsS_bitU]at HEx;have hVz:(strB (rsEnc m)).size=52:=by rw[strB_size,hw]
 have HDd:=fun W=>ddec_word W (strB (rsEnc m)) (by omega) (by omega) (by rw[bs_strB hwb];exact synd_enc hb);have hM:(strB (rsEnc m)).extract 0 44=strB m:=by rw[take44 hwb];unfold rsEnc;rw[<-hl,List.take_left]
 have HUm:=fun W=>funm_any W (strB m) (by rw[strB_size];omega);simp only[unmR_eq,hc,hf,if_true]at HUm;have HRp:=fun W=>repeat_any W 63 0 (by omega);have hsP:strB (bodyL m)++strB (List.replicate 0 63)=strB (bodyL m):=by rw[strB_cat];exact congrArg strB (List.append_nil _)
 have hPz:(strB (List.replicate 0 63)).size=0:=by rw[strB_size];rfl
 rw[show (63:UInt8).toNat=63 from rfl]at HRp;simp only[Int.natCast_zero]at HRp;obtain⟨k,r,q,i,l,d,p,a,t⟩:=f;unfold Frm.v frV at HUm;unfold Frm.v;generalize strB (List.replicate 0 63)=P at *;generalize strB (bodyL m)=s at *;generalize strB (cellL m)=L at *;generalize strB (frmB (rsEnc m))=B at *;generalize strB (rsEnc m)=V at *;generalize strB m=M at *;have HCk:=zY HCk;have HUn:=zY HUn;have HDe:=zY HDe;have HEx:=zY HEx;have HTo:=zY HTo;have HDd:=zY HDd;have HUm:=zY HUm;have HRp:=zY HRp;have hzI:(s.size:Int)=836:=by omega
 have hsub:IntKind.i64.wrap (836-(s.size:Int))=0:=by rw[hzI];rfl
 have hVzI:(V.size:Int)=52:=by omega
 clear hb hl hc hf hw hwb h01 hbb hcb hcz hbi hbl hBb hBz;have hm:∃wz,(w.alloc (.cells #[.int .i64 0,.int .i64 0,.int .i64 0,.int .i64 0,.int .i64 0,.int .i64 0,.int .i64 0,.int .u32 0,.string ⟨#[]⟩] 49)).alloc (.cells #[.int .i64 0,.int .i64 0,.int .i64 0] 82)=wz/\Blk wz w.heap.size 49 zeroL/\Blk wz (w.heap.size+1) 82 [.int .i64 0,.int .i64 0,.int .i64 0]/\Below w.heap.size w wz:=by{
 refine⟨_,rfl,?_,?_,((Below.refl _ _).alloc (Nat.le_refl _) _).alloc (by simp) _⟩;{exact(Blk.new w 49 zeroL).kept ((Below.refl _ _).alloc (Nat.le_refl _) _)};{
 have h:=Blk.new (w.alloc (.cells #[.int .i64 0,.int .i64 0,.int .i64 0,.int .i64 0,.int .i64 0,.int .i64 0,.int .i64 0,.int .u32 0,.string ⟨#[]⟩] 49)) 82 [.int .i64 0,.int .i64 0,.int .i64 0];simpa using h}};obtain⟨wz,hwz,hz0,hq,hB⟩:=hm;have HZ:=zY hz0;have HQ:=zY hq;have HB:=zY hB;have HWZ:=zY hwz;clear hz0 hq hB hwz;go_enter func214,ntmps214;go_upto_region 1 with fail;rw[HWZ.out];clear HWZ;go_upto_region 7 with(first|(go_at_call 195;refine(HCk.out _).mono ?_;rintro e w1 ⟨rfl,hb1⟩)|(go_at_call 55;refine(HRp.out _).mono ?_;rintro e w2 ⟨rfl,hb2⟩))
 have eB:Below wz.heap.size wz w2:=hb1.trans (hb2.mono hb1.size);have hg6:w.heap.size+2<=w2.heap.size:=by have:=HQ.lt;have:=eB.size;omega
 have hA:Below wz.heap.size wz (w2.alloc (.cells #[.int .i64 0,.int .i64 0,.int .i64 0] 82)):=eB.trans ((Below.refl _ _).alloc eB.size _);have HZ3:=zY (HZ.kept hA);have HQ3:=zY (HQ.kept hA);have HB3:=zYt HB hA;have HX3:=zY (Blk.new w2 82 [.int .i64 0,.int .i64 0,.int .i64 0]);change Hid (Blk (w2.alloc (.cells #[.int .i64 0,.int .i64 0,.int .i64 0] 82)) _ _ _)at HX3;clear hb1 hb2 eB hA HZ HQ HB;obtain⟨g6,hg6e⟩:=zNm (w2.heap.size);rw[hg6e]at HX3 hg6;go_upto_region 16 with(first|(go_at_call 196;refine(HUn.out _).mono ?_;rintro e w' ⟨rfl,rfl⟩)|(go_at_call 284;refine(HDe.out _).mono ?_;rintro e w4 ⟨rfl,hb4⟩)|(go_at_call 285;refine(HEx.out _).mono ?_;rintro e w5 ⟨rfl,hb5⟩)|(go_at_call 197;refine(HTo.out _).mono ?_;rintro e w6 ⟨rfl,hb6⟩)|(go_at_call 287;refine(HDd.out _).mono ?_;rintro e w7 ⟨rfl,hb7⟩))
 have eB:=hb4.trans ((hb5.trans ((hb6.trans (hb7.mono hb6.size)).mono hb5.size)).mono hb4.size);have hX7:=HX3.kept eB;have HZ7:=zY ((HZ3.kept eB).far (p:=⟨g6,2,none⟩) (by simp;omega) (.int .i64 0));have HQ7:=zY ((HQ3.kept eB).far (p:=⟨g6,2,none⟩) (by simp;omega) (.int .i64 0));have HX7:=zY (hX7.set 2 (.int .i64 0));have HB7:=zY ((HB3.trans (eB.mono HB3.size)).setCell (p:=⟨g6,2,none⟩) (by simp;omega) (.int .i64 0));have k2:=hX7.c 2;have f2:=hX7.frozen 2;clear eB hb4 hb5 hb6 hX7 HZ3 HQ3 HX3 HB3 hg6e HCk HUn HDe HEx HTo HDd HRp;go_upto_region 17 with fail;generalize w7.setCell ⟨g6,2,none⟩ (.int .i64 0)=wy at *;clear k2 f2 hb7;go_upto_region 18 with(go_at_call 288;refine(HUm.out _).mono ?_;rintro e w8 ⟨rfl,hb8⟩)
 have hA:Below w8.heap.size w8 (w8.alloc (.cells #[.int .i64 k,.int .i64 r,.int .i64 q,.int .i64 i,.int .i64 l,.int .i64 d,.int .i64 p,.int .u32 a,.string t] 49)):=(Below.refl _ _).alloc (Nat.le_refl _) _;have eB:=hb8.trans (hA.mono hb8.size);have HZ9:=zY (HZ7.kept eB);have HQ9:=zY (HQ7.kept eB);have HX9:=zY (HX7.kept eB);have HB9:=zYt HB7 eB;have HS9:=zY (Blk.new w8 49 [.int .i64 k,.int .i64 r,.int .i64 q,.int .i64 i,.int .i64 l,.int .i64 d,.int .i64 p,.int .u32 a,.string t]);change Hid (Blk (w8.alloc (.cells #[.int .i64 k,.int .i64 r,.int .i64 q,.int .i64 i,.int .i64 l,.int .i64 d,.int .i64 p,.int .u32 a,.string t] 49)) _ _ _)at HS9;have h16:w.heap.size+2<=w8.heap.size:=by have:=HQ7.lt;have:=hb8.size;omega
 clear hA eB hb8 HZ7 HQ7 HX7 HB7 HUm;generalize w8.alloc (.cells #[.int .i64 k,.int .i64 r,.int .i64 q,.int .i64 i,.int .i64 l,.int .i64 d,.int .i64 p,.int .u32 a,.string t] 49)=w9 at *;generalize w8.heap.size=g16 at *;have HSb:Hid (Quad w9 g16 g6 (.int .i64 k) (.int .i64 r) (.int .i64 q) (.int .i64 i) (.int .i64 l) (.int .i64 d) (.int .i64 p) (.int .u32 a) (.string t) (.int .i64 0) (.int .i64 0) (.int .i64 0)):=zY ⟨Box9.blk HS9.out,HX9.out,HX9.c 0,HX9.c 1,HX9.c 2⟩;go_upto_region 20 with fail;go_cut [4] (fun s4 wx=>s4=.int .i64 0/\Blk wx w.heap.size 49 [.int .i64 k,.int .i64 r,.int .i64 q,.int .i64 i,.int .i64 l,.int .i64 d,.int .i64 p,.int .u32 a,.string t]/\Blk wx (w.heap.size+1) 82 [.int .i64 0,.int .i64 0,.int .i64 0]/\Below w.heap.size w wx);case first=>(
 refine wp_region_held_drew (S:=(fun w'=>Box9 w' g16 (.int .i64 k) (.int .i64 r) (.int .i64 q) (.int .i64 i) (.int .i64 l) (.int .i64 d) (.int .i64 p) (.int .u32 a) (.string t)/\Blk w' g6 82 [.int .i64 0,.int .i64 0,.int .i64 0]/\w'.cell? ⟨g6,0,none⟩=some (.int .i64 0)/\w'.cell? ⟨g6,1,none⟩=some (.int .i64 0)/\w'.cell? ⟨g6,2,none⟩=some (.int .i64 0))) (by kernel_rfl) ?_ (fun hHeld=>?_);{(first|exact quad_drw HSb.out|exact quad_turned (quad_turned (quad_drw HSb.out) tF (by omega) (by omega)) tQ (by omega) (by omega)|exact quad_turned (quad_turned (quad_drw HSb.out) tQ (by omega) (by omega)) tF (by omega) (by omega)|exact quad_turned (quad_drw HSb.out) tF (by omega) (by omega)|exact quad_turned (quad_drw HSb.out) tQ (by omega) (by omega))};refine tk 0 ?_;refine tk 1 ?_;refine zE1 2 fun K hK=>?_;refine step_storeF (g:=w.heap.size) (us:=zeroL) rfl (.tmp 2) (.tmp 88) rfl _ rfl rfl rfl (by simp[Value.oneCell']) (by first|exact HZ9.out|exact(show Blk _ _ _ _ from HZ9.out).turned tQ (by omega)) rfl ?_;intro wF pF tF;refine hko hK (by(first|exact quad_drw HSb.out|exact quad_turned (quad_turned (quad_drw HSb.out) tF (by omega) (by omega)) tQ (by omega) (by omega)|exact quad_turned (quad_turned (quad_drw HSb.out) tQ (by omega) (by omega)) tF (by omega) (by omega)|exact quad_turned (quad_drw HSb.out) tF (by omega) (by omega)|exact quad_turned (quad_drw HSb.out) tQ (by omega) (by omega))) (fun _=>?_);clear hK K;refine zE1 3 fun K hK=>?_
 refine step_storeQ (g:=w.heap.size+1) (us:=[.int .i64 0,.int .i64 0,.int .i64 0]) rfl (.tmp 3) (.tmp 89) rfl _ rfl rfl rfl (by simp[Value.oneCell']) (Blk.turned (A:=w9.drew) HQ9.out tF (by omega)) rfl ?_;intro wQ pQ tQ;refine hko hK (by(first|exact quad_drw HSb.out|exact quad_turned (quad_turned (quad_drw HSb.out) tF (by omega) (by omega)) tQ (by omega) (by omega)|exact quad_turned (quad_turned (quad_drw HSb.out) tQ (by omega) (by omega)) tF (by omega) (by omega)|exact quad_turned (quad_drw HSb.out) tF (by omega) (by omega)|exact quad_turned (quad_drw HSb.out) tQ (by omega) (by omega))) (fun _=>?_);clear hK K;refine tk 4 ?_;refine wpAnyH_done (by kernel_rfl) ?_ _;have eB:Below w.heap.size w wQ:=tQ.below (tF.below HB9.drew (by omega)) (by omega);have pF2:=pF.turned tQ (by omega);clear tF tQ pF;go_wp2_with fail;go_meet;exact⟨rfl,pF2,pQ,eB⟩)
 case rest=>
 obtain⟨rfl,hF,hQ,hG⟩:=hcut;clear HSb HS9 HX9 HZ9 HQ9 HB9;have HF2:=zY hF;have HQ2:=zY hQ;have HG:=zY hG;clear hF hQ hG;go_wp2_with fail;have hF:=HF2.out;have hQ:=HQ2.out;have c0:=hF.c 0;have c1:=hF.c 1;have c2:=hF.c 2;have c3:=hF.c 3;have c4:=hF.c 4;have c5:=hF.c 5;have c6:=hF.c 6;have c7:=hF.c 7;have c8:=hF.c 8;have d0:=hQ.c 0;have d1:=hQ.c 1;have d2:=hQ.c 2;exact bodyPost_ret (v:=.tuple #[frV k r q i l d p a t,zeroQ,.int .i64 0]) (by simp[results,results214,go_sem,frV,zeroQ,qualV,c0,c1,c2,c3,c4,c5,c6,c7,c8,d0,d1,d2]) rfl ⟨rfl,HG.out⟩
end
end Go.Proofs.YthgenkkkapilhaaGreatDoor