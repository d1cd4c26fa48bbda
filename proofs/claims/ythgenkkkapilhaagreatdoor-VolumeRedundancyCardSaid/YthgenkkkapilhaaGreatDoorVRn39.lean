/-
  Joined: VrQ EncCz FrNz.
-/
import Derived.Test.YthgenkkkapilhaaGreatDoorVRn19
import Derived.Test.YthgenkkkapilhaaGreatDoorVRn30
import Derived.Test.YthgenkkkapilhaaGreatDoorVRn37
import Derived.Test.YthgenkkkapilhaaGreatDoorVRn38
set_option linter.all false
set_option maxRecDepth 100000
set_option maxHeartbeats 64000000
namespace Go.Proofs.YthgenkkkapilhaaGreatDoor
section
open Go.RowKit
structure Pln where
 a:Nat
 i:Nat
 t:Nat
 x:ByteArray
def Pln.cells (p:Pln):List Value:=[.int .u32 (p.a:Int),.int .i64 (p.i:Int),.int .i64 (p.t:Int),.string p.x]
def plnS:Shape Pln where
 n:=4
 R _ cs f:=cs=f.cells
 len h:=by rw[h];rfl
 one h u hu:=by
  rw[h]at hu
  simp only[Pln.cells,List.mem_cons,List.not_mem_nil,or_false]at hu
  rcases hu with rfl|rfl|rfl|rfl<;>rfl
 keep h _:=h
theorem flatP:Flat plnS:=fun _ _ _ _ h=>h
theorem Tryz.elemPln:Elem Tryz.prog 59 124 4 40 (.agg #[.int .u32 0,.int .i64 0,.int .i64 0,.string ⟨#[]⟩]):=⟨Tryz.underlying59,by kernel_rfl,rfl,by decide,by decide⟩
def plnT (s:ByteArray):Nat:=(s.size+63)/64
def padS (s:ByteArray):ByteArray:=s++strB (List.replicate (64*plnT s-s.size) 32)
def plnAt (a:Nat) (s:ByteArray) (i:Nat):Pln:=⟨a,i,plnT s,(padS s).extract (64*i) (64*i+64)⟩
def plnsL (a:Nat) (s:ByteArray):List Pln:=(List.range (plnT s)).map (plnAt a s)
def splitE (s:ByteArray):Int:=if 40000<s.size then 6 else if prtL (bs s)=false then 3 else 0
def splitR (a:Nat) (s:ByteArray):List Pln:=if splitE s=0 then plnsL a s else []
theorem padS_size (s:ByteArray):(padS s).size=64*plnT s:=by
 rw[padS,ByteArray.size_append,strB_size,List.length_replicate]
 unfold plnT
 omega
theorem plsplit_any (w:World) (s:ByteArray) (a:Nat) (hs:s.size<=1000000):Calls Tryz.prog 23 #[.string s,.int .u32 (a:Int)] w fun e w'=>(∃v,e=.returned (.tuple #[v,.int .i64 (splitE s)])/\OwnSeq plnS 124 w w' v (splitR a s))/\Below w.heap.size w w':=by
 have HP:=zY (fun W=>printable_any W s hs)
 obtain⟨n,hn⟩:=zNm (s.size)
 have hnI:(s.size:Int)=n:=by omega
 by_cases h1:40000<n
 {
 have h1I:(40000:Int)<n:=by omega
 have he:splitE s=6:=by rw[splitE,if_pos (by omega)]
 have HR:Hid (splitR a s=[]):=zY (by rw[splitR,if_neg (by rw[he];decide)])
 rw[he]
 clear hn he
 go_enter Tryz.func23,Tryz.ntmps23
 go_wp2
 go_ret2
 exact⟨⟨_,rfl,by rw[HR.out];exact OwnSeq.nil _⟩,Below.refl _ _⟩}
 {
 have h1I:¬(40000:Int)<n:=by omega
 obtain⟨b,hb⟩:=zNm (prtL (bs s))
 rw[hb]at HP
 cases b with
 |false=>
  have he:splitE s=3:=by rw[splitE,if_neg (by omega),if_pos hb]
  have HR:Hid (splitR a s=[]):=zY (by rw[splitR,if_neg (by rw[he];decide)])
  rw[he]
  clear hn he hb
  go_enter Tryz.func23,Tryz.ntmps23
  go_wp2_with fail
  refine(HP.out _).mono ?_
  rintro e1 w1 ⟨rfl,rfl⟩
  go_wp2
  go_ret2
  exact⟨⟨_,rfl,by rw[HR.out];exact OwnSeq.nil _⟩,Below.refl _ _⟩
 |true=>
  have he:splitE s=0:=by rw[splitE,if_neg (by omega),if_neg (by rw[hb];decide)]
  obtain⟨t,ht⟩:=zNm (plnT s)
  have htn:t=(n+63)/64:=by rw[<-ht,plnT,hn]
  obtain⟨z,hz⟩:=zNm (64*t-n)
  have HR:Hid (splitR a s=(List.range t).map (plnAt a s)):=zY (by rw[splitR,if_pos he,plnsL,ht])
  have HR2:=zY (fun W=>repeat_any W 32 z (by omega))
  have hcI:((32:UInt8).toNat)=32:=rfl
  rw[hcI]at HR2
  obtain⟨X,hX⟩:=zNm (padS s)
  obtain⟨Z,hZ⟩:=zNm (strB (List.replicate z 32))
  have hZz:Z.size=z:=by rw[<-hZ,strB_size,List.length_replicate]
  have hXz:X.size=64*t:=by rw[<-hX,padS_size,ht]
  have HX:Hid (s++Z=X):=zY (by rw[<-hX,padS,ht,hn,hz,hZ])
  have HA:Hid (∀i,plnAt a s i=⟨a,i,t,X.extract (64*i) (64*i+64)⟩):=zY (fun i=>by rw[plnAt,ht,hX])
  rw[hZ]at HR2
  have hcc:¬9223372036854775807<s.size+Z.size:=by omega
  have g1:IntKind.i64.wrap ((n:Int)+64)=(n:Int)+64:=zIw (by omega)
  have g2:IntKind.i64.wrap ((n:Int)+64-1)=(n:Int)+63:=by rw[show (n:Int)+64-1=n+63 by omega];exact zIw (by omega)
  have g3:((n:Int)+63)/64=t:=by omega
  have g4:IntKind.i64.wrap (t:Int)=t:=zIw (by omega)
  have g5:IntKind.i64.wrap ((t:Int)*64)=(t:Int)*64:=zIw (by omega)
  have g6:IntKind.i64.wrap ((t:Int)*64-n)=z:=by rw[show (t:Int)*64-n=z by omega];exact zIw (by omega)
  have ht1:t<=626:=by omega
  have hXzI:(X.size:Int)=64*(t:Int):=by omega
  have HXz:=zY hXz
  rw[he]
  clear hb he hn ht htn hz hX hZ hZz hcI hXz
  go_enter Tryz.func23,Tryz.ntmps23
  go_wp2_with fail
  refine(HP.out _).mono ?_
  rintro e1 w1 ⟨rfl,rfl⟩
  go_upto_region 6 with fail
  go_wp2_with fail
  refine(HR2.out _).mono ?_
  rintro e2 w2 ⟨rfl,hb2⟩
  have HB2:=zY hb2
  clear hb2
  go_upto_region 7 with fail
  rw[HX.out]
  clear hcc g1 g2 g3 g5 g6 HP HR2
  go_wp2
  go_loopw [7,31] (fun y x wr=>∃i:Nat,i<=t/\x=.int .i64 (i:Int)/\OwnSeq plnS 124 w2 wr y ((List.range i).map (plnAt a s))/\Below w2.heap.size w2 wr) (fun _ x _=>t-(intOf x).toNat)
  case atStart=>exact⟨0,by omega,rfl,OwnSeq.nil _,Below.refl _ _⟩
  case round=>
   obtain⟨i,hi,rfl,ho,hB⟩:=hrel
   have HO:=zY ho
   have HB:=zY hB
   obtain⟨Ao,co,rfl⟩:=ho.slice
   clear ho hB
   by_cases h:i<t
   {
   have hiI:(i:Int)<t:=by omega
   obtain⟨q,hq⟩:=zNm (64*i)
   have hqI:(i:Int)*64=q:=by omega
   have hqw:IntKind.i64.wrap ((i:Int)*64)=q:=by rw[hqI];exact zIw (by omega)
   have hi1:IntKind.i64.wrap ((i:Int)+1)=(i:Int)+1:=zIw (by omega)
   have hq2:IntKind.i64.wrap (((i:Int)+1)*64)=((q+64:Nat):Int):=by rw[show ((i:Int)+1)*64=((q+64:Nat):Int) by omega];exact zIw (by omega)
   have hq3:q+64<=X.size:=by have:=HXz.out;omega
   have hq4:((q+64:Nat):Int)<=X.size:=by omega
   have hq5:(q:Int)<=((q+64:Nat):Int):=by omega
   have hq0:(0:Int)<=q:=by omega
   obtain⟨T,hT⟩:=zNm (X.extract q (q+64))
   have HF:Hid ((List.range (i+1)).map (plnAt a s)=(List.range i).map (plnAt a s)++[⟨a,i,t,T⟩]):=zY (by rw[List.range_succ,List.map_append,List.map_singleton,HA.out,hq,hT])
   have Hl1:Hid (((List.range i).map (plnAt a s)).length+1<=100000000):=zY (by simp;omega)
   generalize hno:((List.range i).map (plnAt a s)).length=no at *
   have Hno:=zY hno
   have Hl1:Hid (((List.range i).map (plnAt a s)).length+1<=100000000):=zY (by rw[hno];exact Hl1.out)
   have HX1:Hid (SrcAt plnS w2 (wr.alloc (.cells (Pln.cells ⟨a,i,t,T⟩).toArray 124)) (.slice (some ⟨wr.heap.size,0,none⟩) 1 1) [⟨a,i,t,T⟩]):=zY (src1 (ρ:=plnS) (wr:=wr) (Pln.cells ⟨a,i,t,T⟩) ⟨a,i,t,T⟩ rfl rfl)
   have HO1:=zY (HO.out.alloc (.cells (Pln.cells ⟨a,i,t,T⟩).toArray 124))
   have HB1:=zY (HB.out.alloc HB.out.size (.cells (Pln.cells ⟨a,i,t,T⟩).toArray 124))
   clear hno hq
   go_wp2_with (at_builtin;refine append_seq (w0:=w2) Tryz.elemPln rfl _ _ rfl rfl HO1.out rfl HX1.out Hl1.out HB1.out ?_;intro vb w6 hob _ hbb;have KV:=zY hob;have KC:=zY hbb;clear hob hbb)
   go_roundw
   case rel=>exact⟨i+1,by omega,by go_num,by rw[HF.out];exact KV.out,KC.out⟩
   case measure=>simp[intOf];omega}
   {
   obtain rfl:i=t:=by omega
   have hiI:¬((i:Nat):Int)<(i:Int):=by omega
   have hlen:((List.range i).map (plnAt a s)).length=i:=by simp
   rw[hlen]at HO
   clear hlen
   go_wp2
   go_ret2
   exact⟨⟨_,rfl,by rw[HR.out];exact HO.out.low flatP HB2.out.size⟩,HB2.out.trans (HB.out.mono HB2.out.size)⟩}}
end
section
open Go.RowKit Go.Shelf
attribute [local go_sem] Oper.semAt_some
def outsL:Nat->List Nat->List ByteArray
 |_,[]=>[]
 |s,b::r=>outS s b::outsL (cnx s b) r
theorem outsL_flat:∀(u:List Nat) (s:Nat),(outsL s u).flatMap bs=cenc s u
 |[],_=>rfl
 |b::r,s=>by
  rw[outsL,List.flatMap_cons,bs_outS,outsL_flat r (cnx s b)]
  rfl
def RdStr (x:ByteArray) (args:Array Value) (_:World):Prop:=args= #[.string x]
def iterLeft (W:World) (k:Nat):Nat:=match W.heap[k]? with
 |some (.stringIter s pos)=>s.size-pos
 |_=>0
theorem iterLeft_eq {W:World} {k:Nat} {s:ByteArray} {pos:Nat} (h:W.heap[k]?=some (.stringIter s pos)):iterLeft W k=s.size-pos:=by
 unfold iterLeft
 rw[h]
theorem aside_iterAt {A:World} {n k:Nat} {S:ByteArray} {pos:Nat} (hk:A.heap[k]?=some (.stringIter S pos)) (hn:n<=k) (pos':Nat):rangeOwn.Aside rangeStr.No n A (A.iterAt k S pos'):=
 ⟨rfl,rfl,rfl,by rw[Lib.iterAt_size];exact Nat.le_refl _,fun i hi _=>Lib.iterAt_other A k i S pos' (by omega),fun i o _ hi hc=>(Lib.iterAt_other A k i S pos' (fun e=>by subst e;rw[hk]at hi;cases hi;cases hc)).trans hi⟩
theorem outputs_all (s:ByteArray) (u:List Nat) (nb:Nat) (W0:World) (hs:bs s=bitsS u) (hu:Bits u) (hz:s.size=416) (hb0:Boxed W0 nb 9 (.string s)):
  rangeStr.IterStr Tryz.prog 358 #[.pointer (some ⟨nb,0,none⟩)] RdStr (fun _=>False) (outsL 0 (u++[0,0])) W0:=by
 intro l J W hb hJ hY h0
 have hbx:Boxed W nb 9 (.string s):=(hb.block nb hb0.lt).trans hb0
 have hcell:=hbx.cell
 obtain⟨S,hS⟩:=zNm (s++⟨#[48,48]⟩)
 have hul:u.length=416:=by rw[<-bitsS_len,<-hs,bs_len,hz]
 have hbS:bs S=bitsS (u++[0,0]):=by
  rw[<-hS,<-strB_bs s,show (⟨#[48,48]⟩:ByteArray)=strB [48,48] from rfl,strB_cat,bs_strB]
  ·rw[hs];unfold bitsS;rw[List.map_append];rfl
  {
  intro x hx
  rcases List.mem_append.1 hx with hx|hx
  ·exact bs_lt s x hx
  ·simp at hx;omega}
 have zS:S.size=418:=by rw[<-bs_len,hbS,bitsS_len,List.length_append,hul];rfl
 have hap:∀x y:ByteArray,(x++y).size=x.size+y.size:=fun x y=>ByteArray.size_append
 have z2:(⟨#[48,48]⟩:ByteArray).size=2:=rfl
 have HJ:=zY hJ
 have HY:=zY hY
 have HbS:=zY hbS
 have Hul:=zY hul
 have HN:Hid (∀(W:World) (st b:Nat),st<4->b<2->Calls Tryz.prog 334 #[.int .i64 (st:Int),.int .i64 (b:Int)] W fun e w'=>e=.returned (.tuple #[.int .i64 (cnx st b:Nat),.string (outS st b)])/\W=w'):=zY (fun W st b h1 h2=>vnext_any W st b h1 h2)
 have Hu2:Hid (Bits (u++[0,0])):=zY (fun x hx=>by
  rcases List.mem_append.1 hx with hx|hx
  ·exact hu x hx
  ·simp at hx;omega)
 obtain⟨v,hv⟩:=zNm (u++[0,0])
 have hvl:v.length=418:=by rw[<-hv,List.length_append,hul];rfl
 rw[hv]at HbS Hu2 HY⊢
 have Hvl:=zY hvl
 clear hbx hJ hY hbS hul hs hu hv hvl
 refine callsIn_of_wp Tryz.func358 rfl trivial ?_ rfl
 simp only[Tryz.ntmps358,List.size_toArray,List.length_cons,List.length_nil,Nat.reduceAdd,Nat.reduceSub,Array.replicate_succ,Array.replicate_zero,List.push_toArray,List.append_toArray,List.nil_append,List.cons_append]
 gi_wp2
 gi_loopw [3] (fun x wr=>∃(k st:Nat) (pre:List ByteArray),k<=418/\st<4/\x=.int .i64 (st:Int)/\wr.heap[W.heap.size]?=some (.stringIter S k)/\W.heap.size<=wr.heap.size/\pre++outsL st (v.drop k)=outsL 0 v/\J pre wr)
  (fun _ wr=>iterLeft wr W.heap.size)
 case atStart=>
  refine⟨0,0,[],by omega,by omega,rfl,?_,?_,rfl,HJ.out _ _ _ h0 (Nat.le_refl _) ?_⟩
  ·exact World.alloc_heap_new W (.stringIter S 0)
  ·exact Nat.le_of_lt (by simp[World.iter])
  ·exact rangeOwn.Aside.of_below ((Below.refl _ _).alloc (Nat.le_refl _) (.stringIter S 0)) (Nat.le_refl _)
 case round=>
  obtain⟨k,st,pre,hk,hst,rfl,hit,hsz,hpre,hj⟩:=hrel
  by_cases h:k<418
  {
  have hkS:k<S.size:=by omega
  have hkv:k<v.length:=by rw[Hvl.out];exact h
  obtain⟨b,hbk⟩:=zNm (v[k]'hkv)
  have hb2:b<2:=by rw[<-hbk];exact Hu2.out _ (List.getElem_mem hkv)
  have hsk:(S[k]'hkS).toNat=48+b:=by
   have h1:=bs_get S k hkS
   rw[HbS.out]at h1
   unfold bitsS at h1
   rw[List.getElem?_map,List.getElem?_eq_getElem hkv,hbk,Option.map_some]at h1
   exact(Option.some.inj h1).symm
  have hdr:v.drop k=b::v.drop (k+1):=by rw[List.drop_eq_getElem_cons hkv,hbk]
  rw[hdr,outsL]at hpre
  have hnx:∀ty,(Instr.next (.pointer (some ⟨W.heap.size,0,none⟩)) true ty).run Tryz.prog wr=.ok (.tuple #[.bool true,.int .i64 (k:Int),.int .i32 ((48+b:Nat):Int)]) (wr.iterAt W.heap.size S (k+1)):=fun ty=>by
   have h1:=Lib.run_next_ascii_at (P:=Tryz.prog) wr W.heap.size S k ty hit hkS (by omega)
   rw[hsk]at h1
   exact h1
  have hj2:=HJ.out _ _ _ hj hsz (aside_iterAt hit (Nat.le_refl _) (k+1))
  have hit2:=Lib.iterAt_heap wr W.heap.size S k (k+1) hit
  have hsz2:W.heap.size<=(wr.iterAt W.heap.size S (k+1)).heap.size:=by rw[Lib.iterAt_size];exact hsz
  generalize wr.iterAt W.heap.size S (k+1)=wt at *
  obtain⟨fn,tmps,assign,body,hy,hR⟩:=HY.out pre (outS st b) #[.string (outS st b)] wt hj2 rfl ⟨outsL (cnx st b) (v.drop (k+1)),by rw[<-hpre];simp⟩
  have HR:=zY hR
  have Hpre:=zY hpre
  have Hit:=zY hit
  have Hit2:=zY hit2
  have Hsz2:=zY hsz2
  have Hst:=zY hst
  have Hb2:=zY hb2
  clear hR hpre hit hit2 hj hj2 hsz hsz2 hst hdr hsk hbk
  rcases (by omega:b=0∨b=1)with rfl|rfl
  all_goals
   have HN2:=zY (HN.out wt st _ Hst.out Hb2.out)
   gi_wp2_with (refine⟨trivial,rfl,?_⟩;gi_at_call 334;refine(callsIn_wide.2 HN2.out).mono ?_;rintro e w' ⟨rfl,rfl⟩)
   refine⟨rfl,HR.out.mono ?_⟩
   rintro e W1 ⟨rfl,hj1,hk1⟩
   have Hj1:=zY hj1
   have Hk1:=zY hk1
   clear hj1 hk1
   gi_wp2
   go_roundw
   case rel=>exact⟨k+1,cnx st _,pre++[outS st _],by omega,cnx_lt Hst.out Hb2.out,rfl,Hk1.out.2 _ _ Hit2.out (.inl rfl),Nat.le_trans Hsz2.out Hk1.out.1,by rw[<-Hpre.out];simp,Hj1.out⟩
   case measure=>
    rw[iterLeft_eq (Hk1.out.2 _ _ Hit2.out (.inl rfl)),iterLeft_eq Hit.out]
    omega}
  {
  obtain rfl:k=418:=by omega
  have hnx:∀ty,(Instr.next (.pointer (some ⟨W.heap.size,0,none⟩)) true ty).run Tryz.prog wr=.ok (.tuple #[.bool false]) wr:=fun ty=>Lib.run_next_end_at (P:=Tryz.prog) wr W.heap.size S 418 ty hit (by omega)
  have e:pre=outsL 0 v:=by
   rw[<-hpre,List.drop_eq_nil_of_le (by rw[Hvl.out];exact Nat.le_refl _)]
   simp[outsL]
  have He:=zY e
  have Hj:=zY hj
  clear hpre hj e hit
  gi_wp2
  go_end0
  exact⟨⟨_,rfl⟩,He.out▸Hj.out⟩
}
attribute [local go_sem] Oper.semAt_some
theorem outputs_any (w:World) (s:ByteArray):Calls Tryz.prog 308 #[.string s] w fun e w'=>e=.returned (.func (.func 358) #[] #[.pointer (some ⟨w.heap.size,0,none⟩)])/\w.alloc (.cells #[.string s] 9)=w':=by
 go_enter Tryz.func308,Tryz.ntmps308
 go_wp2
 go_ret
 exact⟨rfl,rfl⟩
theorem wsk_any (w:World) (B b:Nat) (l:List Nat) (s:ByteArray) (h:Bld w B b l) (hl:l.length<=1000000) (hs:s.size<=1000000) (hB:B<=w.heap.size):
  Calls Tryz.prog 64 #[.pointer (some ⟨b,0,none⟩),.string s] w fun e w'=>e=.returned (.tuple #[.int .i64 s.size,.nilIface])/\Bld w' B b (l++bs s)/\Below B w w'/\Lib.OthersKept 5 (some b) w w':=by
 refine(Tryz.Builder_WriteString_k B b _ s w h (by rw[List.length_map];omega) hB).mono fun e w' ⟨he,h1,hb,hk⟩=>⟨he,?_,hb,hk⟩
 have:=Or.inr (a:=Lib.BuilderAtF 135 5 B b (.pointer none) (l.map u8V++Lib.strCells s) w') h1
 have e1:(l++bs s).map u8V=l.map u8V++Lib.strCells s:=by
  rw[List.map_append]
  unfold Lib.strCells bs
  rw[List.map_map]
  rfl
 show Lib.IsBuilderF _ _ _ _ _ _
 rw[e1]
 exact this
theorem strk_any (w:World) (B b:Nat) (l:List Nat) (hl:Bytes l) (h:Bld w B b l) (hB:B<=w.heap.size):
  Calls Tryz.prog 65 #[.pointer (some ⟨b,0,none⟩)] w fun e w'=>e=.returned (.string (strB l))/\Below B w w'/\Lib.OthersKept 5 (some b) w w':=by
 have e1:Lib.byteCells (l.map UInt8.ofNat)=l.map u8V:=by
  unfold Lib.byteCells
  rw[List.map_map]
  refine List.map_congr_left fun x hx=>?_
  have:=hl x hx
  simp[Nat.mod_eq_of_lt this]
 exact(Tryz.Builder_String_any_k B b (l.map UInt8.ofNat) w (by rw[e1];exact h) hB).mono fun e w' ⟨he,_,hb,hk⟩=>⟨he,hb,hk⟩
structure EncI (w:World) (B:Nat) (pre:List ByteArray) (W:World):Prop where
 bld:Bld W B B (pre.flatMap bs)
 below:Below w.heap.size w W
 le:w.heap.size<=B
 lt:B<W.heap.size
theorem outsL_mem:∀(u:List Nat) (s:Nat) (x:ByteArray),x∈outsL s u->x.size=2
 |[],_,x,h=>by cases h
 |b::r,s,x,h=>by
  rw[outsL]at h
  rcases List.mem_cons.1 h with rfl|h
  ·rw[<-bs_len,bs_outS];rfl
  {
  exact outsL_mem r _ x h
}
theorem venc_any (w:World) (s:ByteArray) (u:List Nat) (hs:bs s=bitsS u) (hu:Bits u) (hz:s.size=416):
  Calls Tryz.prog 255 #[.string s] w fun e w'=>e=.returned (.tuple #[.string (strB (cenc 0 (u++[0,0]))),.int .i64 0])/\Below w.heap.size w w':=by
 have hall:allIn (bs ⟨#[48,49]⟩) (bs s)=true:=by
  unfold allIn
  rw[List.all_eq_true,hs]
  intro x hx
  rcases bitsS_01 hu x hx with rfl|rfl<;>decide
 have Ht:=zY (fun W=>trim_any W s ⟨#[48,49]⟩ (by omega) (by decide) (by decide))
 have Hall:=zY hall
 have hI:decide ((65536:Int)<s.size)=false:=decide_eq_false (by omega)
 have Hs:=zY hs
 have Hu:=zY hu
 have Hz:=zY hz
 clear hall hs hu hz
 refine(callsIn_wide (n:=0)).1 ?_
 refine callsIn_of_wp_marks Tryz.func255 rfl trivial ?_ rfl
 simp only[Tryz.ntmps255,List.size_toArray,List.length_cons,List.length_nil,Nat.reduceAdd,Nat.reduceSub,Array.replicate_succ,Array.replicate_zero,List.push_toArray,List.append_toArray,List.nil_append,List.cons_append]
 gi_wp2_with fail
 refine⟨trivial,rfl,?_⟩
 gi_at_call 57
 refine(callsIn_wide.2 (Ht.out _)).mono ?_
 rintro e w1 ⟨t,rfl,ht,hb1⟩
 have ht1:t.toList.isEmpty=true:=ht.trans Hall.out
 have ht2:(!t.toList.isEmpty)=false:=by rw[ht1];rfl
 clear ht Ht
 gi_wp2_with (refine⟨trivial,rfl,?_⟩;gi_at_call 308;refine(callsIn_wide.2 (outputs_any _ _)).mono ?_;rintro e w' ⟨rfl,rfl⟩)
 have Hb1:=zY hb1
 have hs1:=hb1.size
 clear hb1
 obtain⟨W0,hW0⟩:=zNm ((w1.alloc (.cells #[.pointer none,.slice none 0 0] 135)).alloc (.cells #[.string s] 9))
 have hsz0:W0.heap.size=w1.heap.size+1+1:=by rw[<-hW0];simp
 have hb0:Below w.heap.size w W0:=by rw[<-hW0];exact((Hb1.out.alloc hs1 _).alloc (by simp;omega) _)
 have hbx:Boxed W0 (w1.heap.size+1) 9 (.string s):=by
  rw[<-hW0]
  have:=Boxed.new (w1.alloc (.cells #[.pointer none,.slice none 0 0] 135)) 9 (.string s)
  simpa using this
 have hbl0:Bld W0 w1.heap.size w1.heap.size []:=by
  rw[<-hW0]
  exact Lib.IsBuilderF.alloc (Bld.new w1) _
 have hI0:EncI w w1.heap.size [] W0:=⟨hbl0,hb0,hs1,by omega⟩
 have hIt:=outputs_all s u (w1.heap.size+1) W0 Hs.out Hu.out Hz.out hbx
 rw[hW0]
 clear hW0 hbx hbl0
 refine rangeStr.wpIn_rangeFunc_str (gf:=358) (lb:= #[.pointer (some ⟨w1.heap.size+1,0,none⟩)]) rfl (enters_of Tryz.func358 (by kernel_rfl) rfl) hIt
  (fun x args W hr=>by rw[show args= #[.string x] from hr];rfl) (fun x args X Y hr _=>hr)
  (EncI w w1.heap.size) (fun q X Y hq hsz ha=>?_) hI0
  (fun args=>{ tmps:= #[.string s,undef,.string ⟨#[]⟩,.int .i64 0,.pointer (some ⟨w1.heap.size,0,none⟩),args.getD 0 undef,.bool false,.string s,.int .i64 (s.size:Int),.bool false,.bool false,.string s,.string t,.bool false,.string s,
   .func (.func 358) #[] #[.pointer (some ⟨w1.heap.size+1,0,none⟩)],args.getD 0 undef,undef,undef,undef],defers:=[] })
  ?assign ?body ?done
 ·refine⟨hq.bld.moved (fun k o ho hc=>ha.cells k o (fun h=>h) ho hc),⟨ha.os.trans hq.below.os,ha.tape.trans hq.below.tape,ha.output.trans hq.below.output,Nat.le_trans hq.below.size ha.size,fun k hk=>(ha.low k (by omega) (fun h=>h)).trans (hq.below.block k hk)⟩,hq.le,Nat.lt_of_lt_of_le hq.lt ha.size⟩
 case assign=>
  intro l x args W K hr hK
  obtain rfl:args= #[.string x]:=hr
  simp only[Array.getD,List.size_toArray,List.length_cons,List.length_nil,Nat.zero_add,Nat.lt_add_one,dite_true,List.getElem_toArray,List.getElem_cons_zero,Array.getInternal_eq_getElem]at hK
  gi_wp2
  exact hK
 case body=>
  intro l pre x args W hsz hI hr hpre
  obtain rfl:args= #[.string x]:=hr
  have hx2:x.size=2:=outsL_mem _ _ x (hpre.subset (by simp))
  have hpl:(pre.flatMap bs).length<=1000000:=by
   obtain⟨rest,hrest⟩:=hpre
   have h1:=outsL_flat (u++[0,0]) 0
   rw[<-hrest,List.flatMap_append,List.flatMap_append]at h1
   have h2:=congrArg List.length h1
   rw[List.length_append,List.length_append,cenc_len,List.length_append,<-bitsS_len u,<-Hs.out,bs_len,Hz.out]at h2
   simp only[List.length_cons,List.length_nil]at h2
   omega
  have hc0:∃v0 v1,W.heap[w1.heap.size]?=some (.cells #[v0,v1] 135 (0,0)):=by
   rcases hI.bld with⟨_,v,hb,_⟩|⟨_,v,hb,_⟩
   ·exact⟨_,_,hb⟩
   ·exact⟨_,_,hb⟩
  have Hws:=zY (wsk_any W w1.heap.size w1.heap.size (pre.flatMap bs) x hI.bld hpl (by omega) (Nat.le_of_lt hI.lt))
  have HI:=zY hI
  clear hI hpl hpre hIt hb0 Hb1 ht1 ht2 hI0
  simp only[Array.getD,List.size_toArray,List.length_cons,List.length_nil,Nat.zero_add,Nat.lt_add_one,dite_true,List.getElem_toArray,List.getElem_cons_zero,Array.getInternal_eq_getElem]
  gi_wp2_with fail
  refine⟨trivial,rfl,(CallsIn.inRound l (callsIn_wide.2 Hws.out)).mono ?_⟩
  rintro e w2 ⟨rfl,hbl,hbw,hk⟩
  gi_wp2
  refine⟨⟨hbw.size,fun k o hko hor=>hk k o hko ?_ ?_⟩,by rw[List.flatMap_append];simpa using hbl,HI.out.below.trans (hbw.mono HI.out.le),HI.out.le,Nat.lt_of_lt_of_le HI.out.lt hbw.size⟩
  {
  intro e
  obtain⟨v0,v1,hc⟩:=hc0
  cases e
  rw[hc]at hko
  cases hko
  rcases hor with h|h
  ·cases h
  ·exact h}
  {
  intro c fz e
  subst e
  rcases hor with h|h
  ·cases h
  ·exact h}
 case done=>
  intro D W hD hI hk
  have hby:Bytes (cenc 0 (u++[0,0])):=fun c hc=>by
   have h1:=outsL_flat (u++[0,0]) 0
   rw[<-h1]at hc
   obtain⟨y,_,hy⟩:=List.mem_flatMap.1 hc
   exact bs_lt y c hy
  have hbl:=hI.bld
  rw[outsL_flat]at hbl
  have Hst:=zY (strk_any W w1.heap.size w1.heap.size _ hby hbl (Nat.le_of_lt hI.lt))
  have HI:=zY hI
  have Hk:=zY hk
  clear hI hbl hby hk hI0 hIt hb0 ht1 ht2
  gi_wp2_with fail
  refine⟨trivial,rfl,(callsIn_wide.2 Hst.out).mono ?_⟩
  rintro e w3 ⟨rfl,hb3,hk3⟩
  have hk4:w3.heap[D]?=some (.deferred (some [])):=hk3 D _ Hk.out (fun e=>by cases e;omega) (fun c fz e=>by cases e)
  have HB3:=zY (HI.out.below.trans (hb3.mono HI.out.le))
  clear hb3 hk3
  gi_wp2
  refine⟨by simp,.inl ⟨_,_,rfl,run_takeDeferred hk4,_,results_tmp2 rfl _ _ _,rfl,?_⟩⟩
  exact⟨HB3.out.os,HB3.out.tape,HB3.out.output,Nat.le_trans HB3.out.size (by simp),fun k hk2=>(World.putObj_heap_other (by omega)).trans (HB3.out.block k hk2)⟩
end
section
open Go.RowKit
theorem fenc1_any (w:World) (s:ByteArray) (hs:s.size=44):Calls Tryz.prog 252 #[.string s] w fun e w'=>e=.returned (.string (strB (rsEnc (bs s))))/\Below w.heap.size w w':=by
 have H:=zY (rsencode_any w s hs)
 clear hs
 go_enter Tryz.func252,Tryz.ntmps252
 go_wp2_with (go_at_call 253;refine H.out.mono ?_;rintro e w' ⟨rfl,hb⟩)
 go_ret
 exact⟨rfl,hb⟩
theorem fenc2_any (w:World) (s:ByteArray) (u:List Nat) (hs:bs s=bitsS u) (hu:Bits u) (hz:s.size=416):Calls Tryz.prog 254 #[.string s] w fun e w'=>e=.returned (.string (strB (cenc 0 (u++[0,0]))))/\Below w.heap.size w w':=by
 have H:=zY (venc_any w s u hs hu hz)
 clear hs hu hz
 go_enter Tryz.func254,Tryz.ntmps254
 go_wp2_with (go_at_call 255;refine H.out.mono ?_;rintro e w' ⟨rfl,hb⟩)
 go_ret
 exact⟨rfl,hb⟩
theorem fenc3_any (w:World) (s:ByteArray) (hs:s.size=836):Calls Tryz.prog 256 #[.string s] w fun e w'=>e=.returned (.string (strB (interL (bs s))))/\Below w.heap.size w w':=by
 have H:=zY (inter_any w s hs)
 clear hs
 go_enter Tryz.func256,Tryz.ntmps256
 go_wp2_with (go_at_call 257;refine H.out.mono ?_;rintro e w' ⟨rfl,hb⟩)
 go_ret
 exact⟨rfl,hb⟩
abbrev fnV (f:Nat):Value:=.func (.func f) #[] #[]
theorem fencs_any (w:World):Calls Tryz.prog 171 #[] w fun e w'=>e=.returned (.slice (some ⟨w.heap.size,0,none⟩) 4 4)/\w.alloc (.cells #[fnV 252,fnV 168,fnV 254,fnV 256] 113)=w':=by
 go_enter Tryz.func171,Tryz.ntmps171
 go_wp2
 go_ret
 exact⟨rfl,rfl⟩
theorem fenc_any (w:World) (k r s i l d p a:Int) (t:ByteArray) (ht:t.size<=1000) (ha:0<=a/\a<4294967296):
  Calls Tryz.prog 96 #[frV k r s i l d p a t] w fun e w'=>e=.returned (fencR k r s i l d p a t)/\Below w.heap.size w w':=by
 obtain⟨R,hR⟩:=zNm (fencR k r s i l d p a t)
 rw[hR]
 unfold fencR at hR
 have HMr:=zY (fun W=>fmar_any W k r s i l d p a t ht ha)
 have HB:=zY (zBl w (.cells #[.int .i64 k,.int .i64 r,.int .i64 s,.int .i64 i,.int .i64 l,.int .i64 d,.int .i64 p,.int .u32 a,.string t] 49))
 have HZ:=zY (Box9.blk (Blk.new w 49 [.int .i64 k,.int .i64 r,.int .i64 s,.int .i64 i,.int .i64 l,.int .i64 d,.int .i64 p,.int .u32 a,.string t]))
 change Hid (Box9 (w.alloc (.cells #[.int .i64 k,.int .i64 r,.int .i64 s,.int .i64 i,.int .i64 l,.int .i64 d,.int .i64 p,.int .u32 a,.string t] 49)) _ _ _ _ _ _ _ _ _ _)at HZ
 unfold marR at HMr
 by_cases h0:frE k r s i l d p t=0
 {
 rw[if_neg (by simpa using h0)]at hR HMr
 have hmb:Bytes (marL k.toNat r.toNat s.toNat i.toNat l.toNat d.toNat p.toNat a.toNat t)/\(marL k.toNat r.toNat s.toNat i.toNat l.toNat d.toNat p.toNat a.toNat t).length=44:=by
  obtain⟨h1,h2,h3,h4,h5,h6,h7,h8⟩:=frE_ok h0
  have e:frE (k.toNat:Int) (r.toNat:Int) (s.toNat:Int) (i.toNat:Int) (l.toNat:Int) (d.toNat:Int) (p.toNat:Int) t=0:=by
   rw[Int.toNat_of_nonneg (by omega),Int.toNat_of_nonneg (by omega),Int.toNat_of_nonneg (by omega),Int.toNat_of_nonneg (by omega),Int.toNat_of_nonneg (by omega),Int.toNat_of_nonneg (by omega),Int.toNat_of_nonneg (by omega)]
   exact h0
  obtain⟨c,_,_,h9,h10,_,_⟩:=mar_ok (a:=a.toNat) e (by omega)
  exact⟨h9,h10⟩
 obtain⟨m,hm⟩:=zNm (marL k.toNat r.toNat s.toNat i.toNat l.toNat d.toNat p.toNat a.toNat t)
 rw[hm]at hR HMr hmb
 obtain⟨hmB,hml⟩:=hmb
 obtain⟨hwl,hwB⟩:=rsEnc_ok hmB hml
 have H1:Hid (∀W:World,Calls Tryz.prog 252 #[.string (stepS m 0)] W fun e w'=>e=.returned (.string (stepS m 1))/\Below W.heap.size W w'):=zY (fun W=>by
  have h:=fenc1_any W (strB m) (by rw[strB_size,hml])
  rw[bs_strB hmB]at h
  exact h)
 have H2:Hid (∀W:World,Calls Tryz.prog 168 #[.string (stepS m 1)] W fun e w'=>e=.returned (.string (stepS m 2))/\Below W.heap.size W w'):=zY (fun W=>by
  have h:=cfrom_any W (strB (rsEnc m)) (by rw[strB_size,hwl];omega)
  rw[bs_strB hwB]at h
  exact h)
 have H3:Hid (∀W:World,Calls Tryz.prog 254 #[.string (stepS m 2)] W fun e w'=>e=.returned (.string (stepS m 3))/\Below W.heap.size W w'):=zY (fun W=>
  fenc2_any W (strB (frmB (rsEnc m))) (bitU (rsEnc m)) (by rw[bitsS_bitU,bs_strB];intro x hx;rcases frmB_01 _ x hx with rfl|rfl<;>decide) (bitU_bits _) (by rw[strB_size,frmB_len,hwl]))
 have H4:Hid (∀W:World,Calls Tryz.prog 256 #[.string (stepS m 3)] W fun e w'=>e=.returned (.string (stepS m 4))/\Below W.heap.size W w'):=zY (fun W=>by
  have h:=fenc3_any W (strB (cellL m)) (by rw[strB_size,cellL_len hmB hml])
  rw[bs_strB (fun x hx=>by rcases cellL_01 m x hx with rfl|rfl<;>decide)]at h
  exact h)
 have z4:(stepS m 4).size=836:=by show (strB (bodyL m)).size=_;rw[strB_size,bodyL_len]
 have zk:markS.size=16:=by decide
 have hap:∀x y:ByteArray,(x++y).size=x.size+y.size:=fun x y=>ByteArray.size_append
 have HR:Hid (Value.tuple #[.string (markS++stepS m 4),.int .i64 0]=R):=zY hR
 have HMr2:Hid (∀W:World,Calls Tryz.prog 170 #[frV k r s i l d p a t] W fun e w'=>e=.returned (.tuple #[.string (stepS m 0),.int .i64 0])/\Below W.heap.size W w'):=zY HMr.out
 clear hR h0 hm hmB hml hwl hwB HMr ht ha
 have HK:Hid (∀W:World,Calls Tryz.prog 172 #[] W fun e w'=>e=.returned (.string markS)/\W=w'):=zY (fun W=>mark_any W)
 generalize hS:stepS m=S at *
 clear hS
 generalize markS=K at *
 unfold frV at HMr2⊢
 go_enter Tryz.func96,Tryz.ntmps96
 go_upto_region 1 with fail
 generalize w.alloc (.cells #[.int .i64 k,.int .i64 r,.int .i64 s,.int .i64 i,.int .i64 l,.int .i64 d,.int .i64 p,.int .u32 a,.string t] 49)=wz at *
 obtain⟨c0,c1,c2,c3,c4,c5,c6,c7,c8⟩:=HZ.out
 go_upto_region 5 with(first|(go_at_call 170;refine(HMr2.out _).mono ?_;rintro e w1 ⟨rfl,hb1⟩)|(go_at_call 171;refine(fencs_any _).mono ?_;rintro e w2 ⟨rfl,rfl⟩))
 have hA:Below w1.heap.size w1 (w1.alloc (.cells #[fnV 252,fnV 168,fnV 254,fnV 256] 113)):=(Below.refl _ _).alloc (Nat.le_refl _) _
 have HB1:=zY (HB.out.trans ((hb1.trans (hA.mono hb1.size)).mono HB.out.size))
 have HF0:=zY (Blk.new w1 113 [fnV 252,fnV 168,fnV 254,fnV 256])
 change Hid (Blk (w1.alloc (.cells #[fnV 252,fnV 168,fnV 254,fnV 256] 113)) _ _ _)at HF0
 clear hb1 hA HZ HB HMr2 c0 c1 c2 c3 c4 c5 c6 c7 c8
 generalize w1.alloc (.cells #[fnV 252,fnV 168,fnV 254,fnV 256] 113)=w2 at *
 generalize w1.heap.size=g at *
 go_loopw [4,18] (fun v x wr=>∃i:Nat,i<=4/\x=.int .i64 (i:Int)/\v=.string (S i)/\Blk wr g 113 [fnV 252,fnV 168,fnV 254,fnV 256]/\Below w.heap.size w wr) (fun _ x _=>4-(intOf x).toNat)
 case atStart=>exact⟨0,by omega,rfl,rfl,HF0.out,HB1.out⟩
 case round=>
  obtain⟨i,hi,rfl,rfl,hf,hbw⟩:=hrel
  have HF:=zY hf
  have HBw:=zY hbw
  clear HF0 HB1
  rcases (by omega:i=0∨i=1∨i=2∨i=3∨i=4)with rfl|rfl|rfl|rfl|rfl
  {
  have c0:=hf.c 0
  clear hf hbw
  go_wp2_with (go_at_call 252;refine(H1.out _).mono ?_;rintro e w2 ⟨rfl,hb2⟩)
  go_roundw
  case rel=>exact⟨1,by omega,rfl,rfl,HF.out.kept hb2,HBw.out.trans (hb2.mono HBw.out.size)⟩
  case measure=>simp[intOf]}
  {
  have c1:=hf.c 1
  clear hf hbw
  go_wp2_with (go_at_call 168;refine(H2.out _).mono ?_;rintro e w2 ⟨rfl,hb2⟩)
  go_roundw
  case rel=>exact⟨2,by omega,rfl,rfl,HF.out.kept hb2,HBw.out.trans (hb2.mono HBw.out.size)⟩
  case measure=>simp[intOf]}
  {
  have c2:=hf.c 2
  clear hf hbw
  go_wp2_with (go_at_call 254;refine(H3.out _).mono ?_;rintro e w2 ⟨rfl,hb2⟩)
  go_roundw
  case rel=>exact⟨3,by omega,rfl,rfl,HF.out.kept hb2,HBw.out.trans (hb2.mono HBw.out.size)⟩
  case measure=>simp[intOf]}
  {
  have c3:=hf.c 3
  clear hf hbw
  go_wp2_with (go_at_call 256;refine(H4.out _).mono ?_;rintro e w2 ⟨rfl,hb2⟩)
  go_roundw
  case rel=>exact⟨4,by omega,rfl,rfl,HF.out.kept hb2,HBw.out.trans (hb2.mono HBw.out.size)⟩
  case measure=>simp[intOf]}
  {
  clear hf hbw
  go_wp2_with (go_at_call 172;refine(HK.out _).mono ?_;rintro e w2 ⟨rfl,rfl⟩)
  rw[<-HR.out]
  exact bodyPost_ret (v:=.tuple #[.string (K++S 4),.int .i64 0]) (by simp[results,Tryz.results96,go_sem]) rfl ⟨rfl,HBw.out⟩}}
 {
 have h1:(frE k r s i l d p t != 0)=true:=by simpa using h0
 rw[if_pos h0]at hR HMr
 obtain⟨E,hE⟩:=zNm (frE k r s i l d p t)
 rw[hE]at hR HMr h1
 have HR:=zY hR
 clear hR h0 hE ht ha
 unfold frV at HMr⊢
 go_enter Tryz.func96,Tryz.ntmps96
 go_upto_region 1 with fail
 generalize w.alloc (.cells #[.int .i64 k,.int .i64 r,.int .i64 s,.int .i64 i,.int .i64 l,.int .i64 d,.int .i64 p,.int .u32 a,.string t] 49)=wz at *
 obtain⟨c0,c1,c2,c3,c4,c5,c6,c7,c8⟩:=HZ.out
 go_wp2_with (go_at_call 170;refine(HMr.out _).mono ?_;rintro e w1 ⟨rfl,hb1⟩)
 rw[<-HR.out]
 exact bodyPost_ret (v:=.tuple #[.string ⟨#[]⟩,.int .i64 E]) (by simp[results,Tryz.results96,go_sem]) rfl ⟨rfl,HB.out.trans (hb1.mono HB.out.size)⟩
}
end
end Go.Proofs.YthgenkkkapilhaaGreatDoor
