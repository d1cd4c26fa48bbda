/-
  Joined: EncCz VrJ VrK.
-/
import Derived.Test.YthgenkkkapilhaaGreatDoorVFk32
import Derived.Test.YthgenkkkapilhaaGreatDoorVFk34
set_option linter.all false
set_option maxRecDepth 100000
set_option maxHeartbeats 64000000
namespace Go.Proofs.YthgenkkkapilhaaGreatDoor
section
open Go.RowKit Go.Shelf
attribute [local go_sem] Oper.semAt_some
def outsL:Nat->List Nat->List ByteArray
 |_,[]=>[]
 |s,b::r=>outS s b::outsL (cnx s b) r
theorem outsL_flat:∀(u:List Nat) (s:Nat),(outsL s u).flatMap bs=cenc s u
 |[],_=>rfl
 |b::r,s=>by
  rw[outsL,List.flatMap_cons,bs_outS,outsL_flat r (cnx s b)]
  rfl
def RdStr (x:ByteArray) (args:Array Value) (_:World):Prop:=args= #[.string x]
def iterLeft (W:World) (k:Nat):Nat:=match W.heap[k]? with
 |some (.stringIter s pos)=>s.size-pos
 |_=>0
theorem iterLeft_eq {W:World} {k:Nat} {s:ByteArray} {pos:Nat} (h:W.heap[k]?=some (.stringIter s pos)):iterLeft W k=s.size-pos:=by
 unfold iterLeft
 rw[h]
theorem aside_iterAt {A:World} {n k:Nat} {S:ByteArray} {pos:Nat} (hk:A.heap[k]?=some (.stringIter S pos)) (hn:n<=k) (pos':Nat):rangeOwn.Aside rangeStr.No n A (A.iterAt k S pos'):=
 ⟨rfl,rfl,rfl,by rw[Lib.iterAt_size];exact Nat.le_refl _,fun i hi _=>Lib.iterAt_other A k i S pos' (by omega),fun i o _ hi hc=>(Lib.iterAt_other A k i S pos' (fun e=>by subst e;rw[hk]at hi;cases hi;cases hc)).trans hi⟩
theorem outputs_all (s:ByteArray) (u:List Nat) (nb:Nat) (W0:World) (hs:bs s=bitsS u) (hu:Bits u) (hz:s.size=416) (hb0:Boxed W0 nb 9 (.string s)):
  rangeStr.IterStr Tryz.prog 358 #[.pointer (some ⟨nb,0,none⟩)] RdStr (fun _=>False) (outsL 0 (u++[0,0])) W0:=by
 intro l J W hb hJ hY h0
 have hbx:Boxed W nb 9 (.string s):=(hb.block nb hb0.lt).trans hb0
 have hcell:=hbx.cell
 obtain⟨S,hS⟩:=zNm (s++⟨#[48,48]⟩)
 have hul:u.length=416:=by rw[<-bitsS_len,<-hs,bs_len,hz]
 have hbS:bs S=bitsS (u++[0,0]):=by
  rw[<-hS,<-strB_bs s,show (⟨#[48,48]⟩:ByteArray)=strB [48,48] from rfl,strB_cat,bs_strB]
  ·rw[hs];unfold bitsS;rw[List.map_append];rfl
  {
  intro x hx
  rcases List.mem_append.1 hx with hx|hx
  ·exact bs_lt s x hx
  ·simp at hx;omega}
 have zS:S.size=418:=by rw[<-bs_len,hbS,bitsS_len,List.length_append,hul];rfl
 have hap:∀x y:ByteArray,(x++y).size=x.size+y.size:=fun x y=>ByteArray.size_append
 have z2:(⟨#[48,48]⟩:ByteArray).size=2:=rfl
 have HJ:=zY hJ
 have HY:=zY hY
 have HbS:=zY hbS
 have Hul:=zY hul
 have HN:Hid (∀(W:World) (st b:Nat),st<4->b<2->Calls Tryz.prog 334 #[.int .i64 (st:Int),.int .i64 (b:Int)] W fun e w'=>e=.returned (.tuple #[.int .i64 (cnx st b:Nat),.string (outS st b)])/\W=w'):=zY (fun W st b h1 h2=>vnext_any W st b h1 h2)
 have Hu2:Hid (Bits (u++[0,0])):=zY (fun x hx=>by
  rcases List.mem_append.1 hx with hx|hx
  ·exact hu x hx
  ·simp at hx;omega)
 obtain⟨v,hv⟩:=zNm (u++[0,0])
 have hvl:v.length=418:=by rw[<-hv,List.length_append,hul];rfl
 rw[hv]at HbS Hu2 HY⊢
 have Hvl:=zY hvl
 clear hbx hJ hY hbS hul hs hu hv hvl
 refine callsIn_of_wp Tryz.func358 rfl trivial ?_ rfl
 simp only[Tryz.ntmps358,List.size_toArray,List.length_cons,List.length_nil,Nat.reduceAdd,Nat.reduceSub,Array.replicate_succ,Array.replicate_zero,List.push_toArray,List.append_toArray,List.nil_append,List.cons_append]
 gi_wp2
 gi_loopw [3] (fun x wr=>∃(k st:Nat) (pre:List ByteArray),k<=418/\st<4/\x=.int .i64 (st:Int)/\wr.heap[W.heap.size]?=some (.stringIter S k)/\W.heap.size<=wr.heap.size/\pre++outsL st (v.drop k)=outsL 0 v/\J pre wr)
  (fun _ wr=>iterLeft wr W.heap.size)
 case atStart=>
  refine⟨0,0,[],by omega,by omega,rfl,?_,?_,rfl,HJ.out _ _ _ h0 (Nat.le_refl _) ?_⟩
  ·exact World.alloc_heap_new W (.stringIter S 0)
  ·exact Nat.le_of_lt (by simp[World.iter])
  ·exact rangeOwn.Aside.of_below ((Below.refl _ _).alloc (Nat.le_refl _) (.stringIter S 0)) (Nat.le_refl _)
 case round=>
  obtain⟨k,st,pre,hk,hst,rfl,hit,hsz,hpre,hj⟩:=hrel
  by_cases h:k<418
  {
  have hkS:k<S.size:=by omega
  have hkv:k<v.length:=by rw[Hvl.out];exact h
  obtain⟨b,hbk⟩:=zNm (v[k]'hkv)
  have hb2:b<2:=by rw[<-hbk];exact Hu2.out _ (List.getElem_mem hkv)
  have hsk:(S[k]'hkS).toNat=48+b:=by
   have h1:=bs_get S k hkS
   rw[HbS.out]at h1
   unfold bitsS at h1
   rw[List.getElem?_map,List.getElem?_eq_getElem hkv,hbk,Option.map_some]at h1
   exact(Option.some.inj h1).symm
  have hdr:v.drop k=b::v.drop (k+1):=by rw[List.drop_eq_getElem_cons hkv,hbk]
  rw[hdr,outsL]at hpre
  have hnx:∀ty,(Instr.next (.pointer (some ⟨W.heap.size,0,none⟩)) true ty).run Tryz.prog wr=.ok (.tuple #[.bool true,.int .i64 (k:Int),.int .i32 ((48+b:Nat):Int)]) (wr.iterAt W.heap.size S (k+1)):=fun ty=>by
   have h1:=Lib.run_next_ascii_at (P:=Tryz.prog) wr W.heap.size S k ty hit hkS (by omega)
   rw[hsk]at h1
   exact h1
  have hj2:=HJ.out _ _ _ hj hsz (aside_iterAt hit (Nat.le_refl _) (k+1))
  have hit2:=Lib.iterAt_heap wr W.heap.size S k (k+1) hit
  have hsz2:W.heap.size<=(wr.iterAt W.heap.size S (k+1)).heap.size:=by rw[Lib.iterAt_size];exact hsz
  generalize wr.iterAt W.heap.size S (k+1)=wt at *
  obtain⟨fn,tmps,assign,body,hy,hR⟩:=HY.out pre (outS st b) #[.string (outS st b)] wt hj2 rfl ⟨outsL (cnx st b) (v.drop (k+1)),by rw[<-hpre];simp⟩
  have HR:=zY hR
  have Hpre:=zY hpre
  have Hit:=zY hit
  have Hit2:=zY hit2
  have Hsz2:=zY hsz2
  have Hst:=zY hst
  have Hb2:=zY hb2
  clear hR hpre hit hit2 hj hj2 hsz hsz2 hst hdr hsk hbk
  rcases (by omega:b=0∨b=1)with rfl|rfl
  all_goals
   have HN2:=zY (HN.out wt st _ Hst.out Hb2.out)
   gi_wp2_with (refine⟨trivial,rfl,?_⟩;gi_at_call 334;refine(callsIn_wide.2 HN2.out).mono ?_;rintro e w' ⟨rfl,rfl⟩)
   refine⟨rfl,HR.out.mono ?_⟩
   rintro e W1 ⟨rfl,hj1,hk1⟩
   have Hj1:=zY hj1
   have Hk1:=zY hk1
   clear hj1 hk1
   gi_wp2
   go_roundw
   case rel=>exact⟨k+1,cnx st _,pre++[outS st _],by omega,cnx_lt Hst.out Hb2.out,rfl,Hk1.out.2 _ _ Hit2.out (.inl rfl),Nat.le_trans Hsz2.out Hk1.out.1,by rw[<-Hpre.out];simp,Hj1.out⟩
   case measure=>
    rw[iterLeft_eq (Hk1.out.2 _ _ Hit2.out (.inl rfl)),iterLeft_eq Hit.out]
    omega}
  {
  obtain rfl:k=418:=by omega
  have hnx:∀ty,(Instr.next (.pointer (some ⟨W.heap.size,0,none⟩)) true ty).run Tryz.prog wr=.ok (.tuple #[.bool false]) wr:=fun ty=>Lib.run_next_end_at (P:=Tryz.prog) wr W.heap.size S 418 ty hit (by omega)
  have e:pre=outsL 0 v:=by
   rw[<-hpre,List.drop_eq_nil_of_le (by rw[Hvl.out];exact Nat.le_refl _)]
   simp[outsL]
  have He:=zY e
  have Hj:=zY hj
  clear hpre hj e hit
  gi_wp2
  go_end0
  exact⟨⟨_,rfl⟩,He.out▸Hj.out⟩
}
attribute [local go_sem] Oper.semAt_some
theorem outputs_any (w:World) (s:ByteArray):Calls Tryz.prog 308 #[.string s] w fun e w'=>e=.returned (.func (.func 358) #[] #[.pointer (some ⟨w.heap.size,0,none⟩)])/\w.alloc (.cells #[.string s] 9)=w':=by
 go_enter Tryz.func308,Tryz.ntmps308
 go_wp2
 go_ret
 exact⟨rfl,rfl⟩
theorem wsk_any (w:World) (B b:Nat) (l:List Nat) (s:ByteArray) (h:Bld w B b l) (hl:l.length<=1000000) (hs:s.size<=1000000) (hB:B<=w.heap.size):
  Calls Tryz.prog 64 #[.pointer (some ⟨b,0,none⟩),.string s] w fun e w'=>e=.returned (.tuple #[.int .i64 s.size,.nilIface])/\Bld w' B b (l++bs s)/\Below B w w'/\Lib.OthersKept 5 (some b) w w':=by
 refine(Tryz.Builder_WriteString_k B b _ s w h (by rw[List.length_map];omega) hB).mono fun e w' ⟨he,h1,hb,hk⟩=>⟨he,?_,hb,hk⟩
 have:=Or.inr (a:=Lib.BuilderAtF 135 5 B b (.pointer none) (l.map u8V++Lib.strCells s) w') h1
 have e1:(l++bs s).map u8V=l.map u8V++Lib.strCells s:=by
  rw[List.map_append]
  unfold Lib.strCells bs
  rw[List.map_map]
  rfl
 show Lib.IsBuilderF _ _ _ _ _ _
 rw[e1]
 exact this
theorem strk_any (w:World) (B b:Nat) (l:List Nat) (hl:Bytes l) (h:Bld w B b l) (hB:B<=w.heap.size):
  Calls Tryz.prog 65 #[.pointer (some ⟨b,0,none⟩)] w fun e w'=>e=.returned (.string (strB l))/\Below B w w'/\Lib.OthersKept 5 (some b) w w':=by
 have e1:Lib.byteCells (l.map UInt8.ofNat)=l.map u8V:=by
  unfold Lib.byteCells
  rw[List.map_map]
  refine List.map_congr_left fun x hx=>?_
  have:=hl x hx
  simp[Nat.mod_eq_of_lt this]
 exact(Tryz.Builder_String_any_k B b (l.map UInt8.ofNat) w (by rw[e1];exact h) hB).mono fun e w' ⟨he,_,hb,hk⟩=>⟨he,hb,hk⟩
structure EncI (w:World) (B:Nat) (pre:List ByteArray) (W:World):Prop where
 bld:Bld W B B (pre.flatMap bs)
 below:Below w.heap.size w W
 le:w.heap.size<=B
 lt:B<W.heap.size
theorem outsL_mem:∀(u:List Nat) (s:Nat) (x:ByteArray),x∈outsL s u->x.size=2
 |[],_,x,h=>by cases h
 |b::r,s,x,h=>by
  rw[outsL]at h
  rcases List.mem_cons.1 h with rfl|h
  ·rw[<-bs_len,bs_outS];rfl
  {
  exact outsL_mem r _ x h
}
theorem venc_any (w:World) (s:ByteArray) (u:List Nat) (hs:bs s=bitsS u) (hu:Bits u) (hz:s.size=416):
  Calls Tryz.prog 255 #[.string s] w fun e w'=>e=.returned (.tuple #[.string (strB (cenc 0 (u++[0,0]))),.int .i64 0])/\Below w.heap.size w w':=by
 have hall:allIn (bs ⟨#[48,49]⟩) (bs s)=true:=by
  unfold allIn
  rw[List.all_eq_true,hs]
  intro x hx
  rcases bitsS_01 hu x hx with rfl|rfl<;>decide
 have Ht:=zY (fun W=>trim_any W s ⟨#[48,49]⟩ (by omega) (by decide) (by decide))
 have Hall:=zY hall
 have hI:decide ((65536:Int)<s.size)=false:=decide_eq_false (by omega)
 have Hs:=zY hs
 have Hu:=zY hu
 have Hz:=zY hz
 clear hall hs hu hz
 refine(callsIn_wide (n:=0)).1 ?_
 refine callsIn_of_wp_marks Tryz.func255 rfl trivial ?_ rfl
 simp only[Tryz.ntmps255,List.size_toArray,List.length_cons,List.length_nil,Nat.reduceAdd,Nat.reduceSub,Array.replicate_succ,Array.replicate_zero,List.push_toArray,List.append_toArray,List.nil_append,List.cons_append]
 gi_wp2_with fail
 refine⟨trivial,rfl,?_⟩
 gi_at_call 57
 refine(callsIn_wide.2 (Ht.out _)).mono ?_
 rintro e w1 ⟨t,rfl,ht,hb1⟩
 have ht1:t.toList.isEmpty=true:=ht.trans Hall.out
 have ht2:(!t.toList.isEmpty)=false:=by rw[ht1];rfl
 clear ht Ht
 gi_wp2_with (refine⟨trivial,rfl,?_⟩;gi_at_call 308;refine(callsIn_wide.2 (outputs_any _ _)).mono ?_;rintro e w' ⟨rfl,rfl⟩)
 have Hb1:=zY hb1
 have hs1:=hb1.size
 clear hb1
 obtain⟨W0,hW0⟩:=zNm ((w1.alloc (.cells #[.pointer none,.slice none 0 0] 135)).alloc (.cells #[.string s] 9))
 have hsz0:W0.heap.size=w1.heap.size+1+1:=by rw[<-hW0];simp
 have hb0:Below w.heap.size w W0:=by rw[<-hW0];exact((Hb1.out.alloc hs1 _).alloc (by simp;omega) _)
 have hbx:Boxed W0 (w1.heap.size+1) 9 (.string s):=by
  rw[<-hW0]
  have:=Boxed.new (w1.alloc (.cells #[.pointer none,.slice none 0 0] 135)) 9 (.string s)
  simpa using this
 have hbl0:Bld W0 w1.heap.size w1.heap.size []:=by
  rw[<-hW0]
  exact Lib.IsBuilderF.alloc (Bld.new w1) _
 have hI0:EncI w w1.heap.size [] W0:=⟨hbl0,hb0,hs1,by omega⟩
 have hIt:=outputs_all s u (w1.heap.size+1) W0 Hs.out Hu.out Hz.out hbx
 rw[hW0]
 clear hW0 hbx hbl0
 refine rangeStr.wpIn_rangeFunc_str (gf:=358) (lb:= #[.pointer (some ⟨w1.heap.size+1,0,none⟩)]) rfl (enters_of Tryz.func358 (by kernel_rfl) rfl) hIt
  (fun x args W hr=>by rw[show args= #[.string x] from hr];rfl) (fun x args X Y hr _=>hr)
  (EncI w w1.heap.size) (fun q X Y hq hsz ha=>?_) hI0
  (fun args=>{ tmps:= #[.string s,undef,.string ⟨#[]⟩,.int .i64 0,.pointer (some ⟨w1.heap.size,0,none⟩),args.getD 0 undef,.bool false,.string s,.int .i64 (s.size:Int),.bool false,.bool false,.string s,.string t,.bool false,.string s,
   .func (.func 358) #[] #[.pointer (some ⟨w1.heap.size+1,0,none⟩)],args.getD 0 undef,undef,undef,undef],defers:=[] })
  ?assign ?body ?done
 ·refine⟨hq.bld.moved (fun k o ho hc=>ha.cells k o (fun h=>h) ho hc),⟨ha.os.trans hq.below.os,ha.tape.trans hq.below.tape,ha.output.trans hq.below.output,Nat.le_trans hq.below.size ha.size,fun k hk=>(ha.low k (by omega) (fun h=>h)).trans (hq.below.block k hk)⟩,hq.le,Nat.lt_of_lt_of_le hq.lt ha.size⟩
 case assign=>
  intro l x args W K hr hK
  obtain rfl:args= #[.string x]:=hr
  simp only[Array.getD,List.size_toArray,List.length_cons,List.length_nil,Nat.zero_add,Nat.lt_add_one,dite_true,List.getElem_toArray,List.getElem_cons_zero,Array.getInternal_eq_getElem]at hK
  gi_wp2
  exact hK
 case body=>
  intro l pre x args W hsz hI hr hpre
  obtain rfl:args= #[.string x]:=hr
  have hx2:x.size=2:=outsL_mem _ _ x (hpre.subset (by simp))
  have hpl:(pre.flatMap bs).length<=1000000:=by
   obtain⟨rest,hrest⟩:=hpre
   have h1:=outsL_flat (u++[0,0]) 0
   rw[<-hrest,List.flatMap_append,List.flatMap_append]at h1
   have h2:=congrArg List.length h1
   rw[List.length_append,List.length_append,cenc_len,List.length_append,<-bitsS_len u,<-Hs.out,bs_len,Hz.out]at h2
   simp only[List.length_cons,List.length_nil]at h2
   omega
  have hc0:∃v0 v1,W.heap[w1.heap.size]?=some (.cells #[v0,v1] 135 (0,0)):=by
   rcases hI.bld with⟨_,v,hb,_⟩|⟨_,v,hb,_⟩
   ·exact⟨_,_,hb⟩
   ·exact⟨_,_,hb⟩
  have Hws:=zY (wsk_any W w1.heap.size w1.heap.size (pre.flatMap bs) x hI.bld hpl (by omega) (Nat.le_of_lt hI.lt))
  have HI:=zY hI
  clear hI hpl hpre hIt hb0 Hb1 ht1 ht2 hI0
  simp only[Array.getD,List.size_toArray,List.length_cons,List.length_nil,Nat.zero_add,Nat.lt_add_one,dite_true,List.getElem_toArray,List.getElem_cons_zero,Array.getInternal_eq_getElem]
  gi_wp2_with fail
  refine⟨trivial,rfl,(CallsIn.inRound l (callsIn_wide.2 Hws.out)).mono ?_⟩
  rintro e w2 ⟨rfl,hbl,hbw,hk⟩
  gi_wp2
  refine⟨⟨hbw.size,fun k o hko hor=>hk k o hko ?_ ?_⟩,by rw[List.flatMap_append];simpa using hbl,HI.out.below.trans (hbw.mono HI.out.le),HI.out.le,Nat.lt_of_lt_of_le HI.out.lt hbw.size⟩
  {
  intro e
  obtain⟨v0,v1,hc⟩:=hc0
  cases e
  rw[hc]at hko
  cases hko
  rcases hor with h|h
  ·cases h
  ·exact h}
  {
  intro c fz e
  subst e
  rcases hor with h|h
  ·cases h
  ·exact h}
 case done=>
  intro D W hD hI hk
  have hby:Bytes (cenc 0 (u++[0,0])):=fun c hc=>by
   have h1:=outsL_flat (u++[0,0]) 0
   rw[<-h1]at hc
   obtain⟨y,_,hy⟩:=List.mem_flatMap.1 hc
   exact bs_lt y c hy
  have hbl:=hI.bld
  rw[outsL_flat]at hbl
  have Hst:=zY (strk_any W w1.heap.size w1.heap.size _ hby hbl (Nat.le_of_lt hI.lt))
  have HI:=zY hI
  have Hk:=zY hk
  clear hI hbl hby hk hI0 hIt hb0 ht1 ht2
  gi_wp2_with fail
  refine⟨trivial,rfl,(callsIn_wide.2 Hst.out).mono ?_⟩
  rintro e w3 ⟨rfl,hb3,hk3⟩
  have hk4:w3.heap[D]?=some (.deferred (some [])):=hk3 D _ Hk.out (fun e=>by cases e;omega) (fun c fz e=>by cases e)
  have HB3:=zY (HI.out.below.trans (hb3.mono HI.out.le))
  clear hb3 hk3
  gi_wp2
  refine⟨by simp,.inl ⟨_,_,rfl,run_takeDeferred hk4,_,results_tmp2 rfl _ _ _,rfl,?_⟩⟩
  exact⟨HB3.out.os,HB3.out.tape,HB3.out.output,Nat.le_trans HB3.out.size (by simp),fun k hk2=>(World.putObj_heap_other (by omega)).trans (HB3.out.block k hk2)⟩
end
section
open Go.RowKit
def natS:Shape Nat where
 n:=1
 R _ cs x:=cs=[.int .u8 (x:Int)]
 len h:=by rw[h];rfl
 one h u hu:=by rw[h]at hu;rw[List.mem_singleton.1 hu];rfl
 keep h _:=h
theorem SeqAt.bytes {W:World} {v:Value} {xs:List Nat} (h:SeqAt natS W v xs):BytesAt W v xs:=by
 obtain⟨A,c,e,h1,h2,h3⟩:=h
 refine⟨A,c,e,h1,h2,fun i x hi=>?_⟩
 obtain⟨b,o,cs,e1,rfl,h4⟩:=h3 i x hi
 have:=h4 0 _ rfl
 rw[show o+i*natS.n+0=o+i by show o+i*1+0=o+i;omega]at this
 exact⟨b,o,_,e1,this,rfl⟩
theorem range_snoc (i:Nat):List.range (i+1)=List.range i++[i]:=List.range_succ
theorem r15enc_any (w:World) (v:Value) (data:List ByteArray) (hv:SeqAt strS w v data) (n s:Nat) (hn:∀b∈data,b.size=n) (hn2:n<=1000) (hd:1<=data.length) (hs:data.length+s<=15):
  Calls Tryz.prog 91 #[v,.int .i64 (s:Int)] w fun e w'=>(∃v',e=.returned (.tuple #[v',.int .i64 0])/\OwnSeq strS 9 w w' v' (sparL data n s))/\Below w.heap.size w w':=by
 have Hv:=zY hv
 have Hn:=zY hn
 obtain⟨A,c,rfl,h1,h2⟩:=hv.slice
 obtain⟨l,hl⟩:=zNm (data.length)
 have Hl:=zY hl
 have HAt:Hid (∀(W:World) (vx:Value) (x:Nat),Below w.heap.size w W->x<256->BytesAt W vx (List.range data.length)->Calls Tryz.prog 164 #[vx,.slice A data.length c,.int .u8 (x:Int)] W fun e w'=>e=.returned (.string (strB (atE (List.range data.length) (data.map bs) n x)))/\Below W.heap.size W w'):=zY (fun W vx x hW hx hvx=>by
  have hcf:∀i,i<data.length->cf (List.range data.length) i=i:=fun i hi=>by rw[cf,List.getElem?_range hi];rfl
  refine r15at_any W vx _ (List.range data.length) data hvx (hv.below hW) x n hx (fun i=>?_) (fun k i hk hi hne=>?_) hn (by simp) (by simpa using hd) (by simp;omega) hn2
  {
  by_cases hi:i<data.length
  ·rw[hcf i hi];omega
  ·rw[cf,List.getElem?_eq_none (by simp;omega)];decide}
  ·rw[List.length_range]at hk hi
   rw[hcf k hk,hcf i hi]
   omega)
 rw[hl]at h1
 have f1:((l:Int)==0)=false:=by rw[beq_eq_false_iff_ne];omega
 have f1b:¬(l:Int)=0:=by omega
 have f2:¬(s:Int)<0:=by omega
 have f3:¬(15:Int)<s:=by omega
 have f4:¬(15:Int)<(l:Int)+s:=by omega
 have f5:IntKind.i64.wrap ((l:Int)+s)=(l:Int)+s:=zIw (by omega)
 have f6:l≠0:=by omega
 rw[hl]
 clear hv hn
 go_enter Tryz.func91,Tryz.ntmps91
 go_wp2
 go_loopw [6,7] (fun y x wr=>∃i:Nat,i<=l/\x=.int .i64 (i:Int)/\OwnSeq natS 5 w wr y (List.range i)/\Below w.heap.size w wr) (fun _ x _=>l-(intOf x).toNat)
 case atStart=>exact⟨0,by omega,rfl,OwnSeq.new w,(Below.refl _ _).alloc (Nat.le_refl _) _⟩
 case round=>
  obtain⟨i,hi,rfl,ho,hB⟩:=hrel
  have HO:=zY ho
  have HB:=zY hB
  clear hB
  by_cases h:i<l
  {
  obtain⟨Ao,co,rfl⟩:=ho.slice
  clear ho
  rw[List.length_range]
  have hiI:(i:Int)<l:=by omega
  have h0I:(0:Int)<l:=by omega
  obtain⟨B,hBk⟩:∃B,data[i]?=some B:=⟨_,List.getElem?_eq_getElem (by omega)⟩
  obtain⟨B0,hB0⟩:∃B,data[0]?=some B:=⟨_,List.getElem?_eq_getElem (by omega)⟩
  have hz1:B.size=n:=Hn.out B (List.mem_of_getElem? hBk)
  have hz2:B0.size=n:=Hn.out B0 (List.mem_of_getElem? hB0)
  have hz3:((n:Int) != n)=false:=by simp
  obtain⟨_,_,e9,_,_,h5⟩:=Hv.out.below HB.out
  have e10:=(Value.slice.inj e9).1
  clear e9
  obtain⟨b1,o1,cs,e11,rfl,hc⟩:=h5 i B hBk
  obtain⟨b2,o2,cs2,e12,rfl,hc2⟩:=h5 0 B0 hB0
  rw[e11]at e12
  cases e12
  rw[e11]at e10
  subst e10
  have q1:wr.cell? ⟨b1,o1+i*1,none⟩=some (.string B):=hc 0 _ rfl
  have q2:wr.cell? ⟨b1,o1+0*1,none⟩=some (.string B0):=hc2 0 _ rfl
  rw[Nat.mul_one]at q1
  rw[Nat.zero_mul,Nat.add_zero]at q2
  have hw:IntKind.u8.wrap (i:Int)=i:=by rw[IntKind.wrap_u8];omega
  have hw2:(i:Int)%256=i:=by omega
  have Hl1:Hid ((List.range i).length+1<=100000000):=zY (by simp;omega)
  clear hc hc2 h5 hBk hB0 e11
  go_upto_region 7 with fail
  go_quiet (fail)
  have HB7:=zY (blwN HB.out nq)
  have HO7:=zY (HO.out.stay (W':=wr.drewN nq) fun k o _ ho _=>by simpa using ho)
  generalize wr.drewN nq=w7 at *
  have hcu:IntKind.u8.wrap (i:Int)=i:=hw
  clear q1 q2
  rw[List.length_range]at HO7
  go_wp2_with (at_builtin;refine append_seq (ρ:=natS) (w0:=w) (us:=[i]) Tryz.elemU8 rfl _ _ rfl rfl (HO7.out.alloc _) rfl (src1 (ρ:=natS) [.int .u8 (i:Int)] i rfl rfl) Hl1.out (HB7.out.alloc HB7.out.size _) ?_;intro vb wb hob _ hbb;have KV:=zY hob;have KC:=zY hbb;clear hob hbb)
  go_roundw
  case rel=>exact⟨i+1,by omega,by go_num,by rw[range_snoc];exact KV.out,KC.out⟩
  case measure=>simp[intOf];omega}
  {
  obtain rfl:i=l:=by omega
  have hiI:¬((i:Nat):Int)<(i:Int):=by omega
  have hx:=ho.at HB.out
  obtain⟨Ao,co,rfl⟩:=ho.slice
  have HX:=zY hx
  clear ho hx
  rw[List.length_range]at HX⊢
  obtain⟨wy,hwy⟩:∃x,x=wr:=⟨_,rfl⟩
  subst hwy
  have HNw:=zY (OwnSeq.new (ρ:=strS) (t:=9) wy)
  have HBn:=zY (zBl wy (.cells #[] 9))
  go_wp2
  go_loopw [8,9] (fun y x wr=>∃j:Nat,j<=s/\x=.int .i64 (j:Int)/\OwnSeq strS 9 wy wr y (sparL data n j)/\Below wy.heap.size wy wr) (fun _ x _=>s-(intOf x).toNat)
  case atStart=>exact⟨0,by omega,rfl,HNw.out,HBn.out⟩
  case round=>
   obtain⟨j,hj,rfl,ho,hB⟩:=hrel
   have HO:=zY ho
   have HBj:=zY hB
   obtain⟨As,ca,rfl⟩:=ho.slice
   clear ho hB
   generalize hno:(sparL data n j).length=no at *
   have hnl:no=j:=by rw[<-hno];simp[sparL]
   have Hno:=zY hno
   clear hno
   by_cases h:j<s
   {
   have hjI:(j:Int)<s:=by omega
   obtain⟨q,hq⟩:=zNm (i+j)
   have hq1:(i:Int)+j=q:=by omega
   have hq2:IntKind.i64.wrap ((i:Int)+j)=q:=by rw[hq1];exact zIw (by omega)
   have hq3:IntKind.u8.wrap (q:Int)=q:=by rw[IntKind.wrap_u8];omega
   have hq4:(q:Int)%256=q:=by omega
   have HC:=zY (HAt.out wr (.slice Ao i co) q (HB.out.trans (HBj.out.mono HB.out.size)) (by omega) (by rw[Hl.out];exact SeqAt.bytes (HX.out.below HBj.out)))
   obtain⟨T,hT⟩:=zNm (strB (atE (List.range data.length) (data.map bs) n q))
   have HSu:Hid (sparL data n (j+1)=sparL data n j++[T]):=zY (by rw[sparL_succ,Hl.out,hq,<-Hl.out,hT])
   rw[hT,Hl.out]at HC
   have Hl1:Hid ((sparL data n j).length+1<=100000000):=zY (by rw[Hno.out];omega)
   clear hT hnl hq
   go_wp2_with fail
   refine HC.out.mono ?_
   rintro e5 w5 ⟨rfl,hb5⟩
   have HB5:=zYt HBj hb5
   have HO5:=zY (HO.out.stay (W':=w5) fun k o _ ho _=>(hb5.block k (Array.getElem?_eq_some_iff.1 ho).1).trans ho)
   clear hb5 HC
   go_wp2_with (at_builtin;refine append_seq (ρ:=strS) (w0:=wy) (us:=[T]) Tryz.elemStr rfl _ _ rfl rfl (HO5.out.alloc _) rfl (src1 (ρ:=strS) [.string T] T rfl rfl) Hl1.out (HB5.out.alloc HB5.out.size _) ?_;intro vb wb hob _ hbb;have KV:=zY hob;have KC:=zY hbb;clear hob hbb)
   go_roundw
   case rel=>exact⟨j+1,by omega,by go_num,by rw[HSu.out];exact KV.out,KC.out⟩
   case measure=>simp[intOf];omega}
   {
   obtain rfl:j=s:=by omega
   have hjI:¬((j:Nat):Int)<(j:Int):=by omega
   clear hnl
   go_wp2
   go_ret2
   exact⟨⟨_,rfl,HO.out.low flatS HB.out.size⟩,HB.out.trans (HBj.out.mono HB.out.size)⟩}}
theorem append_rows {P:Program} {ops:Array Oper} {rest:List Oper} {o:Oper} {a:Act} {Q:Exit->Act->World->Prop} {TSS TS T:TypeId} {b:Nat} {z:Value} {w0 w:World} {v r:Value} {xss:List (List ByteArray)} {y:List ByteArray} {xb:Nat} (E:Elem P TSS TS 1 b z) (hgd:o.guard=none) (s x:Operand) (ho:o.op=.call { callee:=.builtin .append,args:= #[s,x],argTypes:= #[TSS,TSS] }) (hne:TS≠T)
  (hs:a.eval s=v) (hO:OwnRows TS T w0 w v xss) (hle:w0.heap.size<=w.heap.size) (hx:a.eval x=.slice (some ⟨xb,0,none⟩) 1 1) (hB:Blk w xb TS [r]) (hr:OwnSeq strS T w0 w r y) (hn:xss.length<=1000000)
  (h:∀v' w',OwnRows TS T w0 w' v' (xss++[y])->Below w0.heap.size w w'->wpList P ops Q rest (a.put o.dst v') w'):wpList P ops Q (o::rest) a w:=
 wpList_plain hgd fun _ hK=>wp_append_rows E s x ho hne hs hO hle hx hB hr hn fun v' w' h1 h2 _=>hK _ _ (h v' w' h1 h2)
theorem OwnRows.new {t t':TypeId} (W:World):OwnRows t t' W (W.alloc (.cells #[] t)) (.slice (some ⟨W.heap.size,0,none⟩) 0 0) []:=⟨[],OwnSeq.new W,.nil⟩
def blkI (st:ByteArray) (m i:Nat):ByteArray:=strB ((List.range i).map fun j=>cf (bs st) (28*m+j))
theorem blkI_size (st:ByteArray) (m i:Nat):(blkI st m i).size=i:=by rw[blkI,strB_size];simp
theorem blkI_in {st:ByteArray} {m i k:Nat} (hk:k=28*m+i) (h:k<st.size):blkI st m (i+1)=blkI st m i++st.extract k (k+1):=by
 have e:st.extract k (k+1)=strB [cf (bs st) k]:=by
  apply bs_inj
  rw[bs_extract,bs_strB (fun b hb=>by rw[List.mem_singleton.1 hb];exact cf_byte st k)]
  have hl:k<(bs st).length:=by rw[bs_len];exact h
  rw[List.take_add_one,List.drop_append_of_le_length (by rw[List.length_take];omega),List.drop_of_length_le (by rw[List.length_take];omega),List.getElem?_eq_getElem hl]
  rw[cf,List.getElem?_eq_getElem hl]
  rfl
 rw[e,blkI,List.range_succ,List.map_append,<-strB_cat,blkI,hk]
 rfl
theorem blkI_out {st:ByteArray} {m i k:Nat} (hk:k=28*m+i) (h:¬k<st.size):blkI st m (i+1)=blkI st m i++⟨#[0]⟩:=by
 rw[blkI,List.range_succ,List.map_append,<-strB_cat,blkI]
 have e:cf (bs st) (28*m+i)=0:=by rw[cf,List.getElem?_eq_none (by rw[bs_len];omega)];rfl
 simp only[List.map_cons,List.map_nil,e]
 rfl
def datT (d:Nat) (st:ByteArray) (k b:Nat):List ByteArray:=(List.range b).map fun i=>blockB st (k*d+i)
theorem datT_succ (d:Nat) (st:ByteArray) (k b:Nat):datT d st k (b+1)=datT d st k b++[blkI st (k*d+b) 28]:=by rw[datT,List.range_succ,List.map_append];rfl
theorem rows_step {d s:Nat} {st:ByteArray} {k:Nat} (h:k<strN d st.size):(rowsL d s st).take (k+1)=(rowsL d s st).take k++[datL d st k++sparL (datL d st k) 28 s]:=by
 rw[List.take_add_one,rowsL,List.getElem?_map,stripL,List.getElem?_map,List.getElem?_range h]
 rfl
theorem r16stripes_ok (w:World) (d s:Nat) (st:ByteArray) (hd:1<=d/\d<=8) (hsp:s<=7) (hs:st.size<=1835008):Calls Tryz.prog 43 #[.agg #[.int .i64 (d:Int),.int .i64 (s:Int)],.string st] w fun e w'=>(∃v,e=.returned (.tuple #[v,.int .i64 0])/\OwnRows 51 9 w w' v (rowsL d s st))/\Below w.heap.size w w':=by
 have hK:=Blk.new w 24 [.int .i64 (d:Int),.int .i64 (s:Int)]
 have HK:Hid (Blk (w.alloc (.cells #[.int .i64 (d:Int),.int .i64 (s:Int)] 24)) w.heap.size 24 [.int .i64 (d:Int),.int .i64 (s:Int)]):=zY hK
 have HB0:=zY (zBl w (.cells #[.int .i64 (d:Int),.int .i64 (s:Int)] 24))
 have HCk:Hid (∀W,Calls Tryz.prog 40 #[.agg #[.int .i64 (d:Int),.int .i64 (s:Int)]] W fun e w'=>e=.returned (.int .i64 0)/\Below W.heap.size W w'):=zY (fun W=>by
  have:=check16_any W (d:Int) (s:Int)
  rwa [layE,if_neg (by omega)]at this)
 obtain⟨m,hm⟩:=zNm (28*d)
 have hm1:(28:Int)*d=m:=by omega
 have hm2:IntKind.i64.wrap ((28:Int)*d)=m:=by rw[zIw (by omega)];omega
 obtain⟨p,hp⟩:=zNm (st.size+m-1)
 have hp0:IntKind.i64.wrap ((st.size:Int)+m)=(st.size:Int)+m:=zIw (by omega)
 have hp1:(st.size:Int)+m-1=p:=by omega
 have hp2:IntKind.i64.wrap ((st.size:Int)+m-1)=p:=by rw[hp1];exact zIw (by omega)
 obtain⟨N,hN⟩:=zNm (strN d st.size)
 have hNp:p/m=N:=by rw[<-hN,<-hp,<-hm];rfl
 have hN1:(p:Int)/m=N:=by rw[<-hNp];simp
 have hN2:Int.tdiv (p:Int) m=N:=by rw[<-hNp];simp
 have hNl:N<=65537:=by
  rw[<-hNp]
  apply Nat.le_of_lt_succ
  rw[Nat.div_lt_iff_lt_mul (by omega)]
  omega
 have hN3:IntKind.i64.wrap (N:Int)=N:=zIw (by omega)
 have hN4:¬(65536:Int)<N:=by
  have:N<=65536:=by
   rw[<-hNp]
   apply Nat.le_of_lt_succ
   rw[Nat.div_lt_iff_lt_mul (by omega)]
   omega
  omega
 have hm0:((m:Int)==0)=false:=by rw[beq_eq_false_iff_ne];omega
 have hm00:¬(m:Int)=0:=by omega
 have hm000:m≠0:=by omega
 have HLt:Hid (∀k,k<N↔m*k<st.size):=zY (fun k=>by rw[<-hN,strN_lt hd.1,hm])
 have Hm:=zY hm
 clear hK hN hNp hp hm
 go_enter Tryz.func43,Tryz.ntmps43
 go_upto_region 1 with fail
 generalize w.alloc (.cells #[.int .i64 (d:Int),.int .i64 (s:Int)] 24)=wb at *
 have c0:=HK.out.c 0
 have c1:=HK.out.c 1
 go_wp2_with fail
 refine(HCk.out _).mono ?_
 rintro e1 w1 ⟨rfl,hb1⟩
 have HK1:=zY (HK.out.kept hb1)
 have HB1:=zYt HB0 hb1
 clear hb1 HK HB0 c0 c1 HCk
 have c0:=HK1.out.c 0
 go_wp2
 go_loopw [7,8] (fun y x wr=>∃k:Nat,k<=N/\x=.int .i64 ((m*k:Nat):Int)/\OwnRows 51 9 w1 wr y ((rowsL d s st).take k)/\Below w1.heap.size w1 wr) (fun _ x _=>st.size+m-(intOf x).toNat)
 case atStart=>exact⟨0,by omega,rfl,OwnRows.new w1,(Below.refl _ _).alloc (Nat.le_refl _) _⟩
 case round=>
  obtain⟨k,hk,rfl,ho,hB⟩:=hrel
  have HR:=zY ho
  have HB:=zY hB
  obtain⟨Ar,cr,rfl⟩:=ho.slice
  clear ho hB c0
  generalize hnr:((rowsL d s st).take k).length=nr at *
  have Hnr:=zY hnr
  clear hnr
  obtain⟨wo,hwo⟩:∃x,x=wr:=⟨_,rfl⟩
  subst hwo
  by_cases h:k<N
  {
  have ha:=(HLt.out k).1 h
  have hak:m*k=28*(k*d):=by rw[<-Hm.out,Nat.mul_assoc,Nat.mul_comm d k]
  have hmk1:m*(k+1)=m*k+m:=by rw[Nat.mul_add,Nat.mul_one]
  have HRs:Hid ((rowsL d s st).take (k+1)=(rowsL d s st).take k++[datL d st k++sparL (datL d st k) 28 s]):=zY (rows_step ((strN_lt hd.1).2 (by rw[Hm.out];exact ha)))
  obtain⟨kd,hkd⟩:=zNm (k*d)
  rw[hkd]at hak
  have Hkd:=zY hkd
  obtain⟨a,haa⟩:=zNm (m*k)
  rw[haa]at ha hak hmk1⊢
  have haI:(a:Int)<st.size:=by omega
  have Hak:=zY hak
  have Hmk1:=zY hmk1
  have ham:IntKind.i64.wrap ((a:Int)+m)=((a+m:Nat):Int):=by rw[zIw (by omega)];omega
  have Hkl:=zY h
  clear hkd haa hmk1 h hak
  go_wp2
  go_loopw [9,10] (fun y x wr=>∃b:Nat,b<=d/\x=.int .i64 (b:Int)/\OwnSeq strS 9 wo wr y (datT d st k b)/\Below wo.heap.size wo wr) (fun _ x _=>d-(intOf x).toNat)
  case atStart=>exact⟨0,by omega,rfl,OwnSeq.nil wo,Below.refl _ _⟩
  case round=>
   obtain⟨b,hb,rfl,hod,hBd⟩:=hrel
   have HO:=zY hod
   have HBd:=zY hBd
   obtain⟨Ad,cd,rfl⟩:=hod.slice
   have hdl:(datT d st k b).length=b:=by simp[datT]
   rw[hdl]at HO⊢
   have HBw:=zYt HB hBd
   have c0:=(HK1.out.kept HBw.out).c 0
   have c1:=(HK1.out.kept HBw.out).c 1
   clear hod hBd hdl
   by_cases h:b<d
   {
   have hbI:(b:Int)<d:=by omega
   obtain⟨p1,hp1'⟩:∃q,28*b=q:=⟨_,rfl⟩
   have g1:(28:Int)*b=p1:=by omega
   have g2:IntKind.i64.wrap ((28:Int)*b)=p1:=by rw[g1];exact zIw (by omega)
   obtain⟨p2,hp2'⟩:∃q,a+p1=q:=⟨_,rfl⟩
   have g3:(a:Int)+p1=p2:=by omega
   have g4:IntKind.i64.wrap ((a:Int)+p1)=p2:=by rw[g3];exact zIw (by omega)
   obtain⟨M,hM⟩:=zNm (kd+b)
   have hpM:p2=28*M:=by have:=Hak.out;omega
   have HpM:=zY hpM
   have HMe:Hid (k*d+b=M):=zY (by rw[Hkd.out];exact hM)
   have hp2z:p2<=2000000:=by omega
   clear hp1' hp2' hM hpM
   go_wp2
   go_loopw [11,12] (fun t x wr'=>∃i:Nat,i<=28/\x=.int .i64 (i:Int)/\t=.string (blkI st M i)/\wr'=wr) (fun _ x _=>28-(intOf x).toNat)
   case atStart=>exact⟨0,by omega,rfl,rfl,rfl⟩
   case round=>
    obtain⟨i,hi,rfl,rfl,rfl⟩:=hrel
    obtain⟨T,hT⟩:=zNm (blkI st M i)
    have hTz:T.size=i:=by rw[<-hT,blkI_size]
    by_cases h':i<28
    {
    have hiI:(i:Int)<28:=by omega
    obtain⟨p3,hp3⟩:=zNm (p2+i)
    have g5:(p2:Int)+i=p3:=by omega
    have g6:IntKind.i64.wrap ((p2:Int)+i)=p3:=by rw[g5];exact zIw (by omega)
    have h3M:p3=28*M+i:=by rw[<-hp3,HpM.out]
    by_cases hin:p3<st.size
    {
    have hinI:(p3:Int)<st.size:=by omega
    have g7:IntKind.i64.wrap ((p3:Int)+1)=((p3+1:Nat):Int):=by rw[zIw (by omega)];omega
    have g8:(p3:Int)<=(p3:Int)+1:=by omega
    have g9:(p3:Int)+1<=st.size:=by omega
    have g10:p3<=p3+1:=by omega
    have g11:p3+1<=st.size:=by omega
    have HT:Hid (blkI st M (i+1)=T++st.extract p3 (p3+1)):=zY (by rw[blkI_in h3M hin,hT])
    obtain⟨Y,hY⟩:=zNm (st.extract p3 (p3+1))
    have hYz:Y.size=1:=by rw[<-hY,ByteArray.size_extract];omega
    have hcc:¬9223372036854775807<T.size+Y.size:=by omega
    have HY:=zY hY
    rw[hT]
    clear hT hTz hp3 h3M hYz
    go_wp2
    go_roundw
    case rel=>exact⟨i+1,by omega,by go_num,by rw[HT.out,HY.out],by trivial⟩
    case measure=>simp[intOf];omega}
    {
    have hinI:¬(p3:Int)<st.size:=by omega
    have HT:Hid (blkI st M (i+1)=T++⟨#[0]⟩):=zY (by rw[blkI_out h3M hin,hT])
    have hcc:¬9223372036854775807<T.size+(⟨#[0]⟩:ByteArray).size:=by show ¬9223372036854775807<T.size+1;omega
    have hcc2:¬9223372036854775807<T.size+1:=by omega
    rw[hT]
    clear hT hTz hp3 h3M
    go_wp2
    go_roundw
    case rel=>exact⟨i+1,by omega,by go_num,by rw[HT.out],by trivial⟩
    case measure=>simp[intOf];omega}}
    {
    obtain rfl:i=28:=by omega
    have hiI:¬((28:Nat):Int)<(28:Int):=by omega
    have HDs:Hid (datT d st k (b+1)=datT d st k b++[T]):=zY (by rw[datT_succ,HMe.out,hT])
    have Hl1:Hid ((datT d st k b).length+1<=100000000):=zY (by simp[datT];omega)
    rw[hT]
    clear hT hTz
    go_wp2_with (at_builtin;refine append_seq (ρ:=strS) (w0:=wo) (us:=[T]) Tryz.elemStr rfl _ _ rfl rfl (HO.out.alloc _) rfl (src1 (ρ:=strS) [.string T] T rfl rfl) Hl1.out (HBd.out.alloc HBd.out.size _) ?_;intro vb wb hob _ hbb;have KV:=zY hob;have KC:=zY hbb;clear hob hbb)
    go_roundw
    case rel=>exact⟨b+1,by omega,by go_num,by rw[HDs.out];exact KV.out,KC.out⟩
    case measure=>simp[intOf];omega}}
   {
   obtain rfl:b=d:=by omega
   have hbI:¬((b:Nat):Int)<(b:Int):=by omega
   have hsq:=HO.out.at HBd.out
   have HD:Hid (datT b st k b=datL b st k):=zY rfl
   rw[HD.out]at hsq HO
   have hdz:∀y∈datL b st k,y.size=28:=fun y hy=>by
    obtain⟨j,_,rfl⟩:=List.mem_map.1 hy
    exact blockB_size _ _
   have hen:=r15enc_any wr _ (datL b st k) hsq 28 s hdz (by omega) (by rw[datL_len];omega) (by rw[datL_len];omega)
   have HEn:=zY hen
   have HSl:Hid ((sparL (datL b st k) 28 s).length=s):=zY (by simp[sparL])
   have HDl:Hid ((datL b st k).length=b):=zY (datL_len _ _ _)
   have Hl1:Hid ((datL b st k).length+(sparL (datL b st k) 28 s).length<=100000000):=zY (by rw[HSl.out,HDl.out];omega)
   have Hl2:Hid (((rowsL b s st).take k).length<=1000000):=zY (by rw[List.length_take];omega)
   clear hsq hdz hen
   go_wp2_with fail
   refine HEn.out.mono ?_
   rintro e5 w5 ⟨⟨vs,rfl,hs5⟩,hb5⟩
   obtain⟨As,cs,rfl⟩:=hs5.slice
   rw[HSl.out]at hs5⊢
   have HB5:=zYt HBd hb5
   have HO5:=zY (HO.out.stay (W':=w5) fun k o _ ho _=>(hb5.block k (Array.getElem?_eq_some_iff.1 ho).1).trans ho)
   have HSr:Hid (SrcAt strS wo w5 (.slice As s cs) (sparL (datL b st k) 28 s)):=zY (SrcAt.flat flatS (hs5.at hb5))
   clear hs5 hb5 HEn c0 c1
   go_wp2_with (at_builtin;first|(refine append_seq (ρ:=strS) (w0:=wo) Tryz.elemStr rfl _ _ rfl rfl HO5.out rfl HSr.out Hl1.out HB5.out ?_;intro va wa hob _ hbb;obtain⟨Aa,ca,rfl⟩:=hob.slice;generalize hnl:(datL b st k++sparL (datL b st k) 28 s).length=nl at hob⊢;have Hnl:=zY hnl;clear hnl;have KV:=zY hob;have KC:=zY hbb;clear hob hbb)|(refine append_rows (w0:=w1) (T:=9) (y:=datL b st k++sparL (datL b st k) 28 s) Tryz.elemStrs rfl _ _ rfl (by decide) rfl (HR.out.kept (KC.out.alloc KC.out.size _)) (Nat.le_trans HB.out.size (KC.out.alloc KC.out.size _).size) rfl (Blk.new wa 51 [.slice Aa nl ca]) ((KV.out.low flatS HB.out.size).alloc _) Hl2.out ?_;intro vb wb hor hbr;have KR:=zY hor;have KB:=zY (HB.out.trans (((KC.out.alloc KC.out.size (.cells #[.slice Aa nl ca] 51)).mono HB.out.size).trans hbr));clear hor hbr))
   go_roundw
   case rel=>exact⟨k+1,by have:=Hkl.out;omega,by rw[Hmk1.out];go_num,by rw[HRs.out];exact KR.out,KB.out⟩
   case measure=>simp[intOf];omega}}
  {
  obtain rfl:k=N:=by omega
  have hnl:¬m*k<st.size:=fun e=>h ((HLt.out k).2 e)
  obtain⟨a,haa⟩:=zNm (m*k)
  rw[haa]at hnl⊢
  have haI:¬(a:Int)<st.size:=by omega
  have hall:(rowsL d s st).take k=rowsL d s st:=by
   refine List.take_of_length_le ?_
   rw[rowsL,List.length_map,stripL,List.length_map,List.length_range]
   by_cases hc:k<strN d st.size
   {
   have:=(strN_lt hd.1).1 hc
   rw[Hm.out]at this
   omega}
   ·omega
  rw[hall]at HR
  clear hall hnl haa
  go_wp2
  go_ret2
  exact⟨⟨_,rfl,HR.out.low HB1.out.size⟩,HB1.out.trans (HB.out.mono HB1.out.size)⟩}
end
end Go.Proofs.YthgenkkkapilhaaGreatDoor
