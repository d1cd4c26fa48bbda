/-
  Joined: VqH VqI VrO StrWz VoW VoX VoY VpA FrBz.
-/
import Derived.Test.YthgenkkkapilhaaGreatDoorVCn07
import Derived.Test.YthgenkkkapilhaaGreatDoorVCn08
set_option linter.all false
set_option maxRecDepth 100000
set_option maxHeartbeats 64000000
namespace Go.Proofs.YthgenkkkapilhaaGreatDoor
section
open Go.RowKit
theorem decD:∀u:Nat,(Lib.decDigits u).map (·.toNat)=digD u:=by
 intro u
 induction u using Nat.strongRecOn with
 |_ u ih=>
  by_cases h:u<10
  {
  rw[Lib.decDigits_one h,digD_small h]
  show [(UInt8.ofNat (48+u)).toNat]=_
  rw[UInt8.toNat_ofNat',Nat.mod_eq_of_lt (by omega)]}
  {
  rw[Lib.decDigits,dif_neg h,digD_great h,List.map_append,ih (u/10) (by omega),digD_small (u:=u%10) (by omega)]
  show _++[(UInt8.ofNat (48+u%10)).toNat]=_
  rw[UInt8.toNat_ofNat',Nat.mod_eq_of_lt (by omega)]}
theorem itoaB (n:Nat):(⟨(Lib.itoa (n:Int)).toArray⟩:ByteArray)=strB (digD n):=by
 rw[<-strB_bs ⟨(Lib.itoa (n:Int)).toArray⟩,Lib.itoa_nonneg,<-decD]
 rfl
def natL (l:List UInt8):List Nat:=l.map (·.toNat)
theorem index_cons (b:UInt8) (l:List UInt8):Lib.index (b::l) [47]=if b=47 then 0 else if Lib.index l [47]= -1 then -1 else Lib.index l [47]+1:=by
 rw[Lib.index]
 by_cases h:b=47
 {
 subst h
 simp[List.isPrefixOf]}
 {
 have hp:([47]:List UInt8).isPrefixOf (b::l)=false:=by simp[List.isPrefixOf,Ne.symm h]
 rw[hp,if_neg h]
 by_cases hm:Lib.index l [47]= -1
 ·rw[if_pos hm,hm];rfl
 {
 rw[if_neg hm]
 simp[hm]}}
theorem splits_key:∀l:List UInt8,∃h r,Lib.splitK [47] 0 (Lib.count l [47]) l=h::r/\∀p,splitG p (natL l)=(p++natL h)::r.map natL
 |[]=>⟨[],[],by rw[Lib.count_miss (by simp[Lib.index])];rfl,fun p=>by simp[natL,splitG]⟩
 |b::t=>by
  obtain⟨h,r,h1,h2⟩:=splits_key t
  by_cases hb:b=47
  {
  subst hb
  refine⟨[],h::r,?_,fun p=>?_⟩
  {
  rw[Lib.count_cons_eq,Nat.add_comm,Lib.splitK,index_cons,if_pos rfl,if_neg (by decide)]
  simp only[Int.toNat_zero,Nat.add_zero,List.take_zero,List.length_cons,List.length_nil,Nat.zero_add,List.drop_succ_cons,List.drop_zero]
  rw[h1]}
  {
  show splitG p (47::natL t)=_
  rw[splitG,if_pos rfl,h2 []]
  simp[natL]}}
  {
  have hn:¬b.toNat=47:=fun e=>hb (by rw[<-UInt8.toNat_inj,e];rfl)
  have hg:∀p,splitG p (natL (b::t))=(p++natL (b::h))::r.map natL:=fun p=>by
   show splitG p (b.toNat::natL t)=_
   rw[splitG,if_neg hn,h2 (p++[b.toNat])]
   simp[natL]
  rw[Lib.count_cons_ne b 47 t hb]
  refine⟨b::h,r,?_,hg⟩
  cases hk:Lib.count t [47]with
  |zero=>
   rw[hk]at h1
   rw[Lib.splitK]at h1
   obtain⟨rfl,rfl⟩:=List.cons.inj h1
   rfl
  |succ k=>
   rw[hk]at h1
   have hm:Lib.index t [47]≠ -1:=fun e=>by rw[Lib.count_miss e]at hk;cases hk
   have hge:=Lib.index_ge t [47]
   obtain⟨j,hj⟩:∃j:Nat,Lib.index t [47]=j:=⟨(Lib.index t [47]).toNat,by omega⟩
   have ej:¬((j:Int)== -1)=true:=fun e=>by have:=beq_iff_eq.1 e;omega
   have ej1:¬(((j:Int)+1)== -1)=true:=fun e=>by have:=beq_iff_eq.1 e;omega
   have ej2:¬(j:Int)= -1:=by omega
   rw[Lib.splitK,hj,if_neg ej]at h1
   rw[Lib.splitK,index_cons,if_neg hb,hj,if_neg ej2,if_neg ej1]
   obtain⟨e1,e2⟩:=List.cons.inj h1
   rw[<-e1,<-e2,show ((j:Int)+1).toNat=j+1 by omega,Int.toNat_natCast]
   rfl}
theorem splits_elems (s:ByteArray):Lib.splitB ⟨#[47]⟩ 0 (Lib.countB s ⟨#[47]⟩) s=(splitG [] (bs s)).map strB:=by
 obtain⟨h,r,h1,h2⟩:=splits_key s.data.toList
 have e1:=Lib.splitB_data ⟨#[47]⟩ 0 (Lib.countB s ⟨#[47]⟩) s
 have e2:(Lib.splitB ⟨#[47]⟩ 0 (Lib.countB s ⟨#[47]⟩) s).map (·.data.toList)=h::r:=e1.trans h1
 have e3:splitG [] (bs s)=(h::r).map natL:=by
  rw[show bs s=natL s.data.toList from rfl,h2 []]
  rfl
 rw[e3,<-e2,List.map_map,List.map_map]
 have:∀L:List ByteArray,L.map ((strB∘natL)∘fun x=>x.data.toList)=L:=fun L=>by
  induction L with
  |nil=>rfl
  |cons x r ih=>rw[List.map_cons,ih];exact congrArg (· :: r) (strB_bs x)
 exact(this _).symm
theorem idx_none {s:ByteArray} {p:Nat->Bool} (h:∀b∈bs s,b<128/\p b=false):∀(f pos:Nat),Lib.idxFuncFrom p true s f pos= -1
 |0,_=>rfl
 |f+1,pos=>by
  unfold Lib.idxFuncFrom
  by_cases hp:pos<s.size
  {
  have hb:=h _ (List.mem_of_getElem? (bs_get s pos hp))
  rw[if_pos hp,decode_ascii s pos hp hb.1]
  dsimp only
  rw[hb.2,if_neg (by decide)]
  exact idx_none h f (pos+1)}
  ·rw[if_neg hp]
structure Tab (w:World):Prop where
 pow : Lib.TabIs Tryz.prog w "internal/strconv.uint64pow10" .u64 Lib.pow10Tab
 most:∃m:Int,w.cell? ⟨1,0,none⟩=some (.int .i64 m)
theorem var_below {w w':World} {n:String} {cs:Array Value} (h:w.var? Tryz.prog n=some cs) (hb:Below w.heap.size w w'):w'.var? Tryz.prog n=some cs:=by
 unfold World.var? at h⊢
 cases hg:Tryz.prog.globalNamed n with
 |none=>rw[hg]at h;cases h
 |some g=>
  rw[hg]at h
  simp only[Option.bind_some]at h⊢
  have hlt:g<w.heap.size:=by
   rcases Nat.lt_or_ge g w.heap.size with h'|h'
   ·exact h'
   ·rw[Array.getElem?_eq_none h']at h;cases h
  rw[hb.block g hlt]
  exact h
theorem Tab.below {w w':World} (h:Tab w) (hb:Below w.heap.size w w'):Tab w':=⟨var_below h.pow hb,h.most.imp fun _ hm=>cell_below hb hm⟩
theorem blwN {B:Nat} {a w:World} (h:Below B a w) (n:Nat):Below B a (w.drewN n):=h.trans ⟨rfl,rfl,rfl,Nat.le_refl _,fun _ _=>rfl⟩
theorem itoa_any (w:World) (n:Nat) (hn:n<9223372036854775808) (hT:Tab w):Calls Tryz.prog 54 #[.int .i64 (n:Int)] w fun e w'=>e=.returned (.string (strB (digD n)))/\Below w.heap.size w w':=by
 refine(Tryz.strconv_Itoa (n:Int) (by omega) (by omega) w hT.pow).mono ?_
 rintro e w' ⟨rfl,k,os,rfl⟩
 refine⟨by rw[itoaB],rfl,rfl,rfl,?_,fun j hj=>?_⟩
 {
 show w.heap.size<=(w.heap++os).size
 rw[Array.size_append]
 omega}
 {
 show (w.heap++os)[j]?=_
 rw[Array.getElem?_append_left hj]
}
theorem nnumber_any (w:World) (n:Nat) (hn:n<9223372036854775808) (hT:Tab w):Calls Tryz.prog 72 #[.int .i64 (n:Int)] w fun e w'=>e=.returned (.string (strB (numL n)))/\Below w.heap.size w w':=by
 have H1:=zY (itoa_any w n hn hT)
 have hs1:(strB (digD n)).size<=20:=by rw[strB_size];exact digD_len20 (by omega)
 have Hc:Hid (strB (digD n)++⟨#[32]⟩=strB (numL n)):=zY (strB_cat (digD n) [32])
 generalize strB (digD n)=Q at *
 have hcc:¬9223372036854775807<Q.size+1:=by omega
 go_enter Tryz.func72,Tryz.ntmps72
 go_wp2_with fail
 refine H1.out.mono ?_
 rintro e1 w1 ⟨rfl,hb1⟩
 have HB1:=zY hb1
 clear hb1
 go_wp2_with fail
 go_ret
 exact⟨by rw[<-Hc.out]<;>rfl,HB1.out⟩
theorem nnstring_any (w:World) (s:ByteArray) (hs:s.size<=100000000) (hT:Tab w):Calls Tryz.prog 53 #[.string s] w fun e w'=>e=.returned (.string (strB (nstL (bs s))))/\Below w.heap.size w w':=by
 have H1:=zY (itoa_any w s.size (by omega) hT)
 have hs1:(strB (digD s.size)).size<=20:=by rw[strB_size];exact digD_len20 (by omega)
 have hc:strB (digD s.size)++⟨#[58]⟩++s++⟨#[44]⟩=strB (nstL (bs s)):=by
  have e1:=strB_cat (digD s.size) [58]
  have e2:=strB_cat (digD s.size++[58]) (bs s)
  have e3:=strB_cat (digD s.size++[58]++bs s) [44]
  rw[strB_bs]at e2
  rw[<-e1]at e2
  rw[<-e2]at e3
  rw[nstL,bs_len]
  exact e3
 have Hc:=zY hc
 clear hc
 generalize strB (digD s.size)=Q at *
 have hcc:¬9223372036854775807<Q.size+1:=by omega
 have hcd:¬9223372036854775807<Q.size+1+s.size:=by omega
 have hce:¬9223372036854775807<Q.size+1+s.size+1:=by omega
 go_enter Tryz.func53,Tryz.ntmps53
 go_wp2_with fail
 refine H1.out.mono ?_
 rintro e1 w1 ⟨rfl,hb1⟩
 have HB1:=zY hb1
 clear hb1
 go_wp2_with fail
 go_ret
 exact⟨by rw[<-Hc.out]<;>rfl,HB1.out⟩
theorem holds_zero0 (w:World) (T:TypeId) (nd:Nat) (hs:nd<=24):Sort.Holds (fun(b:UInt8)=>Value.int .u8 (b.toNat:Int)) (w.alloc (.cells Lib.zeros24 T)) w.heap.size 0 (Array.replicate nd (0:UInt8)):=fun j hj=>by
 have hj':j<nd:=by simpa using hj
 refine⟨?_,World.frozen?_alloc_new _ _ _ _⟩
 rw[World.cell?_alloc_new,Lib.zeros24_at _ (by omega),getElem!_pos _ j hj]
 simp
theorem below_row (w:World) (o:Obj) (dk:Array UInt8) (k:Nat):Below w.heap.size w ((Sort.putRow (fun(b:UInt8)=>Value.int .u8 (b.toNat:Int)) (w.alloc o) w.heap.size 0 dk).drewN k):=by
 obtain⟨os,e⟩:∃os,(Sort.putRow (fun(b:UInt8)=>Value.int .u8 (b.toNat:Int)) (w.alloc o) w.heap.size 0 dk).drewN k=Sort.grow (w.drewN k) os:=by
  rw[Sort.alloc_eq_grow]
  obtain⟨os',_,e⟩:=Sort.putRow_grow_new (fun(b:UInt8)=>Value.int .u8 (b.toNat:Int)) w #[o] w.heap.size 0 dk (Nat.le_refl _)
  exact⟨os',by rw[e];rfl⟩
 rw[e]
 refine⟨rfl,rfl,rfl,?_,fun j hj=>?_⟩
 {
 show w.heap.size<=(w.heap++os).size
 rw[Array.size_append]
 omega}
 {
 show (w.heap++os)[j]?=_
 rw[Array.getElem?_append_left hj]}
theorem decB (n:Nat):(⟨(Lib.decDigits n).toArray⟩:ByteArray)=strB (digD n):=by rw[<-itoaB,Lib.itoa_nonneg]
theorem ifmtU_any (w:World) (u:Nat) (hu64:u<18446744073709551616) (hT:Tab w):Calls Tryz.prog 303 #[.int .u64 (u:Int),.int .i64 10] w fun e w'=>e=.returned (.string (strB (digD u)))/\Below w.heap.size w w':=by
 rw[<-decB]
 by_cases hs:u<100
 {
 have hsI:(u:Int)<100:=by omega
 have huw:IntKind.i64.wrap (u:Int)=u:=zIw (by omega)
 go_enter Tryz.func303,Tryz.ntmps303
 go_wp2_with fail
 refine(Tryz.internal_strconv_small u hs _).mono ?_
 rintro e w' ⟨rfl,rfl⟩
 go_wp2
 go_ret
 exact⟨rfl,Below.refl _ _⟩}
 {
 have hu1:1<=u:=by omega
 have hsI:¬(u:Int)<100:=by omega
 have hnd20:Lib.nDigits u<=20:=by have:=Lib.numDigits_eq u hu1 hu64;split at this<;>omega
 have hb3:Lib.nDigits u<=24:=by omega
 have hal:Tryz.prog.arrayLen 323=24:=by simp[Program.arrayLen,Tryz.underlying323]
 have hsl1:∀W,(Instr.sliceAt 323 (.pointer (some ⟨w.heap.size,0,none⟩)) none (some (.int .i64 (Lib.nDigits u:Int))) none).run Tryz.prog W=.ok (.slice (some ⟨w.heap.size,0,none⟩) (Lib.nDigits u) 24) W:=fun W=>by
  rw[run_sliceAt_array_h W 323 ⟨w.heap.size,0,none⟩ (by simp[Program.arrayLen,Program.elem,Tryz.underlying323]) .i64 (Lib.nDigits u:Int) (by omega) (by rw[hal];omega)]
  go_simp
 have hH0:=holds_zero0 w 323 (Lib.nDigits u) (by omega)
 have hfmt:=Tryz.internal_strconv_formatBase10 w.heap.size 0 24 u (Array.replicate (Lib.nDigits u) 0) (w.alloc (.cells Lib.zeros24 323)) hH0 (by rw[Array.size_replicate];exact Lib.lt_pow_nDigits u) hu64 (by rw[Array.size_replicate];omega)
 rw[Array.size_replicate]at hfmt
 have HH0:=zY hH0
 have HT:=zY hT
 clear hH0 hal hT
 go_enter Tryz.func303,Tryz.ntmps303
 go_wp2_with fail
 refine(Tryz.internal_strconv_numDigits u hu1 hu64 _ (Lib.tabIs_alloc HT.out.pow _)).mono ?_
 rintro e w' ⟨rfl,rfl⟩
 go_wp2_with fail
 refine hfmt.mono ?_
 rintro e w' ⟨rfl,k,v',dk,rfl,hF⟩
 have hcv:(convert 117 9 (.slice (some ⟨w.heap.size,0,none⟩) (Lib.nDigits u) 24)).run Tryz.prog ((Sort.putRow (fun(b:UInt8)=>Value.int .u8 (b.toNat:Int)) (w.alloc (.cells Lib.zeros24 323)) w.heap.size 0 dk).drewN k)=.ok (.string ⟨(Lib.decDigits u).toArray⟩) ((Sort.putRow (fun(b:UInt8)=>Value.int .u8 (b.toNat:Int)) (w.alloc (.cells Lib.zeros24 323)) w.heap.size 0 dk).drewN k):=by
  have h:=run_convert_bytes_back (P:=Tryz.prog) ((Sort.putRow (fun(b:UInt8)=>Value.int .u8 (b.toNat:Int)) (w.alloc (.cells Lib.zeros24 323)) w.heap.size 0 dk).drewN k) 117 9 5 ⟨w.heap.size,0,none⟩ 24 (Lib.decDigits u) Tryz.underlying117 Tryz.underlying5 Tryz.underlying9 (fun j hj=>by
   rw[Lib.row_is_numeral hF j hj,Lib.add_plain,World.cell?_drewN]
   exact Sort.cell?_putRow (fun(b:UInt8)=>Value.int .u8 (b.toNat:Int)) _ w.heap.size 0 _ dk HH0.out (by rw[hF.size,Array.size_replicate]) j (by rw[hF.size];rw[Lib.decDigits_length]at hj;exact hj))
  rw[Lib.decDigits_length]at h
  exact h
 have HBz:=zY (below_row w (.cells Lib.zeros24 323) dk k)
 clear hF
 go_wp2
 go_ret
 exact⟨rfl,HBz.out⟩
}
theorem fmtU_any (w:World) (u:Nat) (hu64:u<18446744073709551616) (hT:Tab w):Calls Tryz.prog 245 #[.int .u64 (u:Int),.int .i64 10] w fun e w'=>e=.returned (.string (strB (digD u)))/\Below w.heap.size w w':=by
 have H:=zY (ifmtU_any w u hu64 hT)
 clear hT
 go_enter Tryz.func245,Tryz.ntmps245
 go_wp2_with fail
 refine H.out.mono ?_
 rintro e w' ⟨rfl,hb⟩
 have HB:=zY hb
 clear hb
 go_wp2
 go_ret
 exact⟨rfl,HB.out⟩
def padL (n v:Nat):List Nat:=List.replicate (n-(digD v).length) 48++digD v
def digF (g:Nat):Value:=.func (.func 244) #[] #[.pointer (some ⟨g,0,none⟩)]
theorem pdigits_any (w:World) (n:Int):Calls Tryz.prog 166 #[.int .i64 n] w fun e w'=>e=.returned (.tuple #[digF w.heap.size,.func (.func 246) #[] #[]])/\w.alloc (.cells #[.int .i64 n] 3)=w':=by
 go_enter Tryz.func166,Tryz.ntmps166
 go_wp2
 go_ret2
 exact⟨rfl,rfl⟩
theorem pdig1_any (w:World) (g n v:Nat) (hg:w.cell? ⟨g,0,none⟩=some (.int .i64 (n:Int))) (hn:n<=100) (hv:v<18446744073709551616) (hT:Tab w):Calls Tryz.prog 244 #[.int .u64 (v:Int),.pointer (some ⟨g,0,none⟩)] w fun e w'=>e=.returned (.string (strB (padL n v)))/\Below w.heap.size w w':=by
 have H1:=zY (fmtU_any w v hv hT)
 have Hg:=zY hg
 obtain⟨z,hz⟩:=zNm (n-(digD v).length)
 have hl:=digD_len20 (u:=v) (by omega)
 have hsz:(strB (digD v)).size=(digD v).length:=strB_size _
 have hmx:max (0:Int) ((n:Int)-(strB (digD v)).size)=z:=by rw[hsz];omega
 have hw1:IntKind.i64.wrap ((n:Int)-(strB (digD v)).size)=(n:Int)-(strB (digD v)).size:=IntWalk.i64_in _ (by rw[hsz];omega)
 have H2:Hid (∀W:World,Calls Tryz.prog 55 #[.string ⟨#[48]⟩,.int .i64 (z:Int)] W fun e w'=>e=.returned (.string (strB (List.replicate z 48)))/\Below W.heap.size W w'):=zY (fun W=>repeat_any W 48 z (by omega))
 have Hc:Hid (strB (List.replicate z 48)++strB (digD v)=strB (padL n v)):=zY (by rw[padL,hz];exact strB_cat _ _)
 obtain⟨Z,hZ⟩:=zNm (strB (List.replicate z 48))
 have hZz:Z.size=z:=by rw[<-hZ,strB_size,List.length_replicate]
 rw[hZ]at H2 Hc
 have hcc:¬9223372036854775807<Z.size+(strB (digD v)).size:=by omega
 generalize strB (digD v)=Q at *
 clear hg hT hz hl hsz hZ hZz
 go_enter Tryz.func244,Tryz.ntmps244
 go_wp2_with fail
 refine H1.out.mono ?_
 rintro e w1 ⟨rfl,hb1⟩
 have g1:=cell_below hb1 Hg.out
 have HB1:=zY hb1
 clear hb1
 go_upto_region 2 with fail
 go_wp2_with fail
 refine(H2.out _).mono ?_
 rintro e w2 ⟨rfl,hb2⟩
 have HB2:=zYt HB1 hb2
 clear hb2
 go_wp2
 go_ret
 exact⟨by rw[Hc.out]<;>rfl,HB2.out⟩
theorem bs_data (s:ByteArray):bs s=s.data.toList.map (·.toNat):=rfl
theorem inter1_any (w:World) (a b:Int):Calls Tryz.prog 310 #[.int .i64 a,.int .i64 b] w fun e w'=>e=.returned (.tuple #[.int .i64 a,.int .i64 b])/\w=w':=by
 go_enter Tryz.func310,Tryz.ntmps310
 go_wp2
 go_ret2
 exact⟨rfl,rfl⟩
theorem Tryz.infoHolV:(Tryz.prog.info? 289).map (fun i=>(i.zero,i.size,i.bytes))=some (some (.agg #[.string ⟨#[]⟩,.int .i64 0]),2,24):=by kernel_rfl
def RetHols (w0 W:World) (p:List Hol->Prop) (e:Ending):Prop:=∃v l,e=.returned v/\OwnSeq holS 289 w0 W v l/\p l
theorem active_any (w:World) (v:Value) (l:List Hol) (hv:SeqAt holS w v l) (hl:l.length<=100000) (date:Int):Calls Tryz.prog 150 #[v,.int .i64 date] w fun e w'=>RetHols w w' (fun m=>m.length<=l.length/\∀h∈m,h∈l) e/\Below w.heap.size w w':=by
 have Hv:=zY hv
 obtain⟨iS,hi,hq0,hq1,hq2⟩:=infoV_parts Tryz.infoHolV
 have HiS:Hid (Tryz.prog.info? 289=some iS/\iS.zero=some (.agg #[.string ⟨#[]⟩,.int .i64 0])/\iS.size=2/\iS.bytes=24):=zY ⟨hi,hq0,hq1,hq2⟩
 clear hi hq0 hq1 hq2
 obtain⟨A,c,rfl,h1,h2⟩:=hv.slice
 clear hv
 go_enter Tryz.func150,Tryz.ntmps150
 go_wp2
 go_loopw [5,6] (fun y x wr=>∃(i:Nat) (m:List Hol),i<=l.length/\x=.int .i64 (i:Int)/\m.length<=i/\(∀h∈m,h∈l)/\OwnSeq holS 289 w wr y m/\Below w.heap.size w wr) (fun _ x _=>l.length-(intOf x).toNat)
 case atStart=>exact⟨0,[],by omega,rfl,by simp,(fun h hh=>nomatch hh),⟨[],ownV_new _ _ _,.nil⟩,(Below.refl _ _).alloc (Nat.le_refl _) _⟩
 case round=>
  obtain⟨i,m,hi,rfl,hm,hall,ho,hB⟩:=hrel
  have HB:=zY hB
  have Hall:=zY hall
  obtain⟨css,ho,hbt⟩:=ho
  have Ho:=zY ho
  have Hbt:=zY hbt
  clear hB hall ho hbt
  obtain⟨Av,cv,rfl⟩:=ownV_slice Ho.out
  by_cases h:i<l.length
  {
  have hiI:(i:Int)<l.length:=by omega
  obtain⟨x,hx⟩:∃x,l[i]?=some x:=⟨_,List.getElem?_eq_getElem h⟩
  have Hxm:=zY (List.mem_of_getElem? hx)
  obtain⟨_,_,e9,_,_,h4⟩:=Hv.out.below HB.out
  cases e9
  obtain⟨b,o,cs,rfl,rfl,hc⟩:=h4 i x hx
  have c0:wr.cell? ⟨b,o+i*2,none⟩=some (.string x.p):=hc 0 _ rfl
  have c1:wr.cell? ⟨b,o+i*2+1,none⟩=some (.int .i64 x.u):=hc 1 _ rfl
  clear hc h4 hx
  obtain⟨p,u⟩:=x
  dsimp only at c0 c1
  by_cases hd:date<=u
  {
  have Hnews:Hid (∀(q:Nat) (x:Value),([.string p,.int .i64 u]:List Value)[q]?=some x->(wr.alloc (.cells #[.string p,.int .i64 u] 289)).cell? ((⟨wr.heap.size,0,none⟩:Addr).add q)=some x):=zY (fun q x hq=>by
   rw[Addr.add_lit,Nat.zero_add]
   exact(Blk.new wr 289 [.string p,.int .i64 u]).cell hq)
  have Hone:Hid (∀x∈([.string p,.int .i64 u]:List Value),x.oneCell'=true):=zY (by simp[Value.oneCell'])
  have HU:=zY (Ho.out.alloc (.cells #[.string p,.int .i64 u] 289))
  have HB6:=zY (HB.out.alloc HB.out.size (.cells #[.string p,.int .i64 u] 289))
  go_wp2_with (at_builtin;refine append_atV _ rfl _ _ 161 rfl w.heap.size 289 iS (.agg #[.string ⟨#[]⟩,.int .i64 0]) 2 24 Tryz.underlying161 HiS.out.1 HiS.out.2.1 HiS.out.2.2.1 HiS.out.2.2.2 rfl (by omega) (.slice Av m.length cv) m.length _ rfl HU.out ⟨wr.heap.size,0,none⟩ 1 1 _ rfl rfl Hnews.out Hone.out (by unfold maxLen;omega) (by omega) HB6.out.size ?_;intro va wa hob hgb _;have KU:=zY hob;have KB:=zY (HB6.out.grown hgb HB6.out.size (ownV_ge HU.out));clear hob hgb)
  go_roundw
  case rel=>exact⟨i+1,m++[⟨p,u⟩],by omega,by go_num,by simp;omega,(fun x hx=>by
   rcases List.mem_append.1 hx with hx|hx
   ·exact Hall.out x hx
   ·rw[List.mem_singleton.1 hx];exact Hxm.out),⟨css++[[.string p,.int .i64 u]],by rw[List.flatten_append,List.length_append];exact KU.out,Hbt.out.app (.cons (show holS.R w [.string p,.int .i64 u] ⟨p,u⟩ from rfl) .nil)⟩,KB.out⟩
  case measure=>simp[intOf];omega}
  {
  go_wp2
  go_roundw
  case rel=>exact⟨i+1,m,by omega,by go_num,by omega,Hall.out,⟨css,Ho.out,Hbt.out⟩,HB.out⟩
  case measure=>simp[intOf];omega}}
  {
  have hiI:¬(i:Int)<l.length:=by omega
  go_wp2
  go_ret
  exact⟨⟨_,m,rfl,⟨css,Ho.out,Hbt.out⟩,by omega,Hall.out⟩,HB.out⟩}
def RetHolsI (w0 W:World) (p:List Hol->Prop) (e:Ending):Prop:=∃v l n,e=.returned (.tuple #[v,.int .i64 n])/\OwnSeq holS 289 w0 W v l/\p l
theorem without_any (w:World) (v:Value) (l:List Hol) (hv:SeqAt holS w v l) (hl:l.length<=100000) (s:ByteArray):Calls Tryz.prog 232 #[v,.string s] w fun e w'=>RetHolsI w w' (fun m=>m.length<=l.length/\∀h∈m,h∈l) e/\Below w.heap.size w w':=by
 have Hv:=zY hv
 obtain⟨iS,hi,hq0,hq1,hq2⟩:=infoV_parts Tryz.infoHolV
 have HiS:Hid (Tryz.prog.info? 289=some iS/\iS.zero=some (.agg #[.string ⟨#[]⟩,.int .i64 0])/\iS.size=2/\iS.bytes=24):=zY ⟨hi,hq0,hq1,hq2⟩
 clear hi hq0 hq1 hq2
 obtain⟨A,c,rfl,h1,h2⟩:=hv.slice
 clear hv
 go_enter Tryz.func232,Tryz.ntmps232
 go_wp2
 go_loopw [6,7,8] (fun y z x wr=>∃(i:Nat) (m:List Hol) (q:Int),z=.int .i64 q/\i<=l.length/\x=.int .i64 (i:Int)/\m.length<=i/\(∀h∈m,h∈l)/\OwnSeq holS 289 w wr y m/\Below w.heap.size w wr) (fun _ _ x _=>l.length-(intOf x).toNat)
 case atStart=>exact⟨0,[],-1,rfl,by omega,rfl,by simp,(fun h hh=>nomatch hh),⟨[],ownV_new _ _ _,.nil⟩,(Below.refl _ _).alloc (Nat.le_refl _) _⟩
 case round=>
  obtain⟨i,m,q0,rfl,hi,rfl,hm,hall,ho,hB⟩:=hrel
  have HB:=zY hB
  have Hall:=zY hall
  obtain⟨css,ho,hbt⟩:=ho
  have Ho:=zY ho
  have Hbt:=zY hbt
  clear hB hall ho hbt
  obtain⟨Av,cv,rfl⟩:=ownV_slice Ho.out
  by_cases h:i<l.length
  {
  have hiI:(i:Int)<l.length:=by omega
  obtain⟨x,hx⟩:∃x,l[i]?=some x:=⟨_,List.getElem?_eq_getElem h⟩
  have Hxm:=zY (List.mem_of_getElem? hx)
  obtain⟨_,_,e9,_,_,h4⟩:=Hv.out.below HB.out
  cases e9
  obtain⟨b,o,cs,rfl,rfl,hc⟩:=h4 i x hx
  have c0:wr.cell? ⟨b,o+i*2,none⟩=some (.string x.p):=hc 0 _ rfl
  have c1:wr.cell? ⟨b,o+i*2+1,none⟩=some (.int .i64 x.u):=hc 1 _ rfl
  clear hc h4 hx
  obtain⟨p,u⟩:=x
  dsimp only at c0 c1
  by_cases hps:¬p=s
  {
  have b3:¬p.toList=s.toList:=fun e=>hps (by rw[ByteArray.toList_eq,ByteArray.toList_eq]at e;exact ByteArray.ext (Array.toList_inj.1 e))
  have b4:(p.toList==s.toList)=false:=by rw[beq_eq_false_iff_ne];exact b3
  clear hps
  have Hnews:Hid (∀(q:Nat) (x:Value),([.string p,.int .i64 u]:List Value)[q]?=some x->(wr.alloc (.cells #[.string p,.int .i64 u] 289)).cell? ((⟨wr.heap.size,0,none⟩:Addr).add q)=some x):=zY (fun q x hq=>by
   rw[Addr.add_lit,Nat.zero_add]
   exact(Blk.new wr 289 [.string p,.int .i64 u]).cell hq)
  have Hone:Hid (∀x∈([.string p,.int .i64 u]:List Value),x.oneCell'=true):=zY (by simp[Value.oneCell'])
  have HU:=zY (Ho.out.alloc (.cells #[.string p,.int .i64 u] 289))
  have HB6:=zY (HB.out.alloc HB.out.size (.cells #[.string p,.int .i64 u] 289))
  go_wp2_with (at_builtin;refine append_atV _ rfl _ _ 161 rfl w.heap.size 289 iS (.agg #[.string ⟨#[]⟩,.int .i64 0]) 2 24 Tryz.underlying161 HiS.out.1 HiS.out.2.1 HiS.out.2.2.1 HiS.out.2.2.2 rfl (by omega) (.slice Av m.length cv) m.length _ rfl HU.out ⟨wr.heap.size,0,none⟩ 1 1 _ rfl rfl Hnews.out Hone.out (by unfold maxLen;omega) (by omega) HB6.out.size ?_;intro va wa hob hgb _;have KU:=zY hob;have KB:=zY (HB6.out.grown hgb HB6.out.size (ownV_ge HU.out));clear hob hgb)
  go_roundw
  case rel=>exact⟨i+1,m++[⟨p,u⟩],q0,rfl,by omega,by go_num,by simp;omega,(fun x hx=>by
   rcases List.mem_append.1 hx with hx|hx
   ·exact Hall.out x hx
   ·rw[List.mem_singleton.1 hx];exact Hxm.out),⟨css++[[.string p,.int .i64 u]],by rw[List.flatten_append,List.length_append];exact KU.out,Hbt.out.app (.cons (show holS.R w [.string p,.int .i64 u] ⟨p,u⟩ from rfl) .nil)⟩,KB.out⟩
  case measure=>simp[intOf];omega}
  {
  obtain rfl:p=s:=by simpa using hps
  clear hps
  go_wp2
  go_roundw
  case rel=>exact⟨i+1,m,u,rfl,by omega,by go_num,by omega,Hall.out,⟨css,Ho.out,Hbt.out⟩,HB.out⟩
  case measure=>simp[intOf];omega}}
  {
  have hiI:¬(i:Int)<l.length:=by omega
  go_wp2
  go_ret2
  exact⟨⟨_,m,q0,rfl,⟨css,Ho.out,Hbt.out⟩,by omega,Hall.out⟩,HB.out⟩}
structure Elem (P:Program) (t e:TypeId) (n bytes:Nat) (z:Value):Prop where
 ht:P.underlying t=some (.slice e)
 hi:(P.info? e).map (fun i=>(i.zero,i.size,i.bytes))=some (some z,n,bytes)
 hz:z.cells.size=n
 hn:0<n
 hb:bytes<=1000
def SrcAt {α:Type} (ρ:Shape α) (w0 w:World) (v:Value) (us:List α):Prop:=
 ∃(A:Option Addr) (c:Nat),v=.slice A us.length c/\∀i x,us[i]?=some x->∃b o cs,A=some ⟨b,o,none⟩/\ρ.R w0 cs x/\∀j u,cs[j]?=some u->w.cell? ⟨b,o+i*ρ.n+j,none⟩=some u
section
variable {α:Type} {ρ:Shape α} {w0 w W:World} {v:Value} {xs us:List α}
theorem SrcAt.of (h:SeqAt ρ w0 v us) (hb:Below w0.heap.size w0 w):SrcAt ρ w0 w v us:=by
 obtain⟨A,c,e,h1,h2,h3⟩:=h
 refine⟨A,c,e,fun i x hx=>?_⟩
 obtain⟨b,o,cs,e1,hr,h4⟩:=h3 i x hx
 exact⟨b,o,cs,e1,hr,fun j u hu=>cell_below hb (h4 j u hu)⟩
theorem SrcAt.lit {g:Nat} {t:TypeId} {cs:List Value} {x:α} (hr:ρ.R w0 cs x) (hB:Blk w g t cs):SrcAt ρ w0 w (.slice (some ⟨g,0,none⟩) 1 1) [x]:=by
 refine⟨_,_,rfl,fun i y hy=>?_⟩
 cases i with
 |zero=>
  obtain rfl:x=y:=by simpa using hy
  refine⟨g,0,cs,rfl,hr,fun j u hu=>?_⟩
  rw[Nat.zero_mul,Nat.zero_add]
  exact hB.cell hu
 |succ i=>simp at hy
theorem SrcAt.cells (h:SrcAt ρ w0 w v us) (h0:us≠[]):∃(ad:Addr) (c:Nat) (css:List (List Value)),v=.slice (some ad) us.length c/\Both (ρ.R w0) css us/\∀j u,css.flatten[j]?=some u->w.cell? (ad.add j)=some u:=by
 obtain⟨A,c,rfl,h⟩:=h
 have key:∀(l:List α) (b o:Nat),(∀i x,l[i]?=some x->∃cs,ρ.R w0 cs x/\∀j u,cs[j]?=some u->w.cell? ⟨b,o+i*ρ.n+j,none⟩=some u)->∃css,Both (ρ.R w0) css l/\∀j u,css.flatten[j]?=some u->w.cell? ⟨b,o+j,none⟩=some u:=by
  intro l
  induction l with
  |nil=>exact fun b o _=>⟨[],.nil,fun j u hu=>by simp at hu⟩
  |cons x r ih=>
   intro b o hl
   obtain⟨cs,hr,hc⟩:=hl 0 x rfl
   obtain⟨css,hb,hcs⟩:=ih b (o+ρ.n) (fun i y hy=>by
    obtain⟨cs',hr',hc'⟩:=hl (i+1) y (by simpa using hy)
    refine⟨cs',hr',fun j u hu=>?_⟩
    rw[<-hc' j u hu]
    congr 2
    rw[Nat.add_mul]
    omega)
   refine⟨cs::css,.cons hr hb,fun j u hu=>?_⟩
   rw[List.flatten_cons]at hu
   have hn:=ρ.len hr
   by_cases hj:j<cs.length
   {
   rw[List.getElem?_append_left hj]at hu
   have:=hc j u hu
   rwa [Nat.zero_mul,Nat.add_zero]at this}
   {
   rw[List.getElem?_append_right (by omega)]at hu
   rw[<-hcs _ u hu]
   congr 2
   omega}
 cases us with
 |nil=>exact absurd rfl h0
 |cons x r=>
  obtain⟨b,o,_,e,_⟩:=h 0 x rfl
  cases e
  obtain⟨css,h1,h2⟩:=key (x::r) b o (fun i y hy=>by
   obtain⟨b',o',cs,e,hr,hc⟩:=h i y hy
   cases e
   exact⟨cs,hr,hc⟩)
  exact⟨_,c,css,rfl,h1,fun j u hu=>by rw[Addr.add_lit];exact h2 j u hu⟩
theorem OwnSeq.alloc {t:TypeId} (h:OwnSeq ρ t w0 W v xs) (o:Obj):OwnSeq ρ t w0 (W.alloc o) v xs:=h.below ((Below.refl _ _).alloc (Nat.le_refl _) _)
theorem OwnSeq.drew {t:TypeId} (h:OwnSeq ρ t w0 W v xs):OwnSeq ρ t w0 W.drew v xs:=h.below (Below.refl _ _).drew
theorem OwnSeq.new {t:TypeId} (W:World):OwnSeq ρ t W (W.alloc (.cells #[] t)) (.slice (some ⟨W.heap.size,0,none⟩) 0 0) []:=⟨[],ownV_new _ _ _,.nil⟩
theorem OwnSeq.slice {t:TypeId} (h:OwnSeq ρ t w0 W v xs):∃A c,v=.slice A xs.length c:=by
 obtain⟨_,h,_⟩:=h
 exact ownV_slice h
theorem OwnSeq.one {t:TypeId} (h:OwnSeq ρ t w0 W v xs):v.oneCell'=true:=by
 obtain⟨A,c,rfl⟩:=h.slice
 rfl
theorem OwnSeq.ge {t:TypeId} (h:OwnSeq ρ t w0 W v xs):∀k,v.ownBlock=some k->w0.heap.size<=k:=by
 obtain⟨_,h,_⟩:=h
 exact ownV_ge h
theorem run_append_nilS {P:Program} {TS T:TypeId} {n:Nat} {b:Nat} {z:Value} (E:Elem P TS T n b z) (B:Nat) (ty:TypeId) (v:Value) (k c:Nat) (us:List Value) (hown:w.ownsRow B T n v k us):(Builtin.append_ #[TS,TS] ty #[v,.slice none 0 c]).run P w=.ok v w:=by
 obtain⟨i0,hi,hz0,hz1,hz2⟩:=info_parts E.hi
 rcases hown.2 with⟨rfl,rfl⟩|⟨g,cap,cur,rfl,_,_,hnc,_⟩
 ·simp[Builtin.append_,run_underlying E.ht,sizeOf,typeInfo,hi,Builtin.lenOf,Builtin.firstCells]
 {
 simp[Builtin.append_,run_underlying E.ht,sizeOf,typeInfo,hi,Builtin.lenOf,Builtin.firstCells,hnc,storeCells]
}
theorem run_appendS {P:Program} {TS T:TypeId} {b:Nat} {z:Value} (E:Elem P TS T ρ.n b z) (ty:TypeId) (hown:OwnSeq ρ T w0 w v xs) {vx:Value} (hv:SrcAt ρ w0 w vx us) (hn:xs.length+us.length<=100000000) (hB:Below w0.heap.size w0 w):
  ∃v' w',(Builtin.append_ #[TS,TS] ty #[v,vx]).run P w=.ok v' w'/\OwnSeq ρ T w0 w' v' (xs++us)/\w.grownBy w' v.ownBlock/\(v'.ownBlock=v.ownBlock∨v'.ownBlock=some w.heap.size)/\Below w0.heap.size w0 w':=by
 have hge:=hown.ge
 obtain⟨css,ho,hb⟩:=hown
 by_cases h0:us=[]
 {
 subst h0
 obtain⟨A,c,rfl,h⟩:=hv
 cases A with
 |none=>
  refine⟨v,w,run_append_nilS E w0.heap.size ty v _ c _ ho,?_,World.grownBy.refl w _,.inl rfl,hB⟩
  rw[List.append_nil]
  exact⟨css,ho,hb⟩
 |some ad=>
  obtain⟨i0,hi,hz0,hz1,hz2⟩:=info_parts E.hi
  obtain⟨v',w',hr,k1,k2,_,k3⟩:=run_append_own_at (P:=P) w w0.heap.size TS ty T i0 z ρ.n b E.ht hi hz0 hz1 hz2 E.hz E.hn v _ _ ho ad 0 c [] (by simp) (fun j u hu=>by simp at hu) (fun u hu=>nomatch hu) (by unfold maxLen;simp at hn;omega)
   (Nat.le_trans (Nat.mul_le_mul (show xs.length+0<=100000000 by simp at hn;omega) E.hb) (by omega)) hB.size
  exact⟨v',w',hr,⟨css,by simpa using k1,by simpa using hb⟩,k2,k3,hB.grown k2 hB.size hge⟩}
 {
 obtain⟨ad,c,cu,rfl,hbu,hc⟩:=hv.cells h0
 obtain⟨i0,hi,hz0,hz1,hz2⟩:=info_parts E.hi
 obtain⟨v',w',hr,k1,k2,_,k3⟩:=run_append_own_at (P:=P) w w0.heap.size TS ty T i0 z ρ.n b E.ht hi hz0 hz1 hz2 E.hz E.hn v _ _ ho ad us.length c cu.flatten (by rw[flat_len hbu.lens,hbu.len]) hc hbu.ones (by unfold maxLen;omega)
  (Nat.le_trans (Nat.mul_le_mul hn E.hb) (by omega)) hB.size
 exact⟨v',w',hr,⟨css++cu,by rw[List.flatten_append,List.length_append];exact k1,hb.app hbu⟩,k2,k3,hB.grown k2 hB.size hge⟩
}
theorem append_seq {P:Program} {ops:Array Oper} {rest:List Oper} {o:Oper} {a:Act} {Q:Exit->Act->World->Prop} {TS T:TypeId} {b:Nat} {z:Value} (E:Elem P TS T ρ.n b z) (hgd:o.guard=none) (s x:Operand) (ho:o.op=.call { callee:=.builtin .append,args:= #[s,x],argTypes:= #[TS,TS] })
  (hs:a.eval s=v) (hown:OwnSeq ρ T w0 w v xs) {vx:Value} (hx:a.eval x=vx) (hv:SrcAt ρ w0 w vx us) (hn:xs.length+us.length<=100000000) (hB:Below w0.heap.size w0 w)
  (h:∀v' w',OwnSeq ρ T w0 w' v' (xs++us)->w.grownBy w' v.ownBlock->Below w0.heap.size w0 w'->wpList P ops Q rest (a.put o.dst v') w'):wpList P ops Q (o::rest) a w:=by
 obtain⟨v',w',hr,g1,g2,_,g3⟩:=run_appendS E o.type hown hv hn hB
 refine wpList_plain hgd fun K hK=>?_
 unfold Oper.wp execOp
 simp only[ho,resolve,invoke,builtin,Sem.run_bind,Sem.run_pure,Result.andThen_ok,List.map_toArray,List.map_cons,List.map_nil,hs,hx,hr]
 exact hK _ _ (h v' w' g1 g2 g3)
theorem wp_append_seq {P:Program} {o:Oper} {a:Act} {K:Act->World->Prop} {Q:Exit->Act->World->Prop} {TS T:TypeId} {b:Nat} {z:Value} (E:Elem P TS T ρ.n b z) (s x:Operand) (ho:o.op=.call { callee:=.builtin .append,args:= #[s,x],argTypes:= #[TS,TS] })
  (hs:a.eval s=v) (hown:OwnSeq ρ T w0 w v xs) {vx:Value} (hx:a.eval x=vx) (hv:SrcAt ρ w0 w vx us) (hn:xs.length+us.length<=100000000) (hB:Below w0.heap.size w0 w)
  (h:∀v' w',OwnSeq ρ T w0 w' v' (xs++us)->w.grownBy w' v.ownBlock->Below w0.heap.size w0 w'->K (a.put o.dst v') w'):o.wp P a w K Q:=by
 obtain⟨v',w',hr,g1,g2,_,g3⟩:=run_appendS E o.type hown hv hn hB
 unfold Oper.wp execOp
 simp only[ho,resolve,invoke,builtin,Sem.run_bind,Sem.run_pure,Result.andThen_ok,List.map_toArray,List.map_cons,List.map_nil,hs,hx,hr]
 exact h v' w' g1 g2 g3
end
end
section
open Go.RowKit
structure Seg where
 n:Int
 d:ByteArray
def segS:Shape Seg where
 n:=2
 R _ cs x:=cs=[.int .i64 x.n,.string x.d]
 len h:=by rw[h];rfl
 one h u hu:=by
  rw[h]at hu
  simp only[List.mem_cons,List.not_mem_nil,or_false]at hu
  rcases hu with rfl|rfl<;>rfl
 keep h _:=h
structure Cnk where
 d:ByteArray
 x:Ext
def chkS:Shape Cnk where
 n:=4
 R _ cs x:=cs=[.string x.d,.int .i64 x.x.s,.int .i64 x.x.o,.int .i64 x.x.l]
 len h:=by rw[h];rfl
 one h u hu:=by
  rw[h]at hu
  simp only[List.mem_cons,List.not_mem_nil,or_false]at hu
  rcases hu with rfl|rfl|rfl|rfl<;>rfl
 keep h _:=h
structure Cha where
 k:Int
 path:ByteArray
 attrs:List Atr
 tgt:ByteArray
 cont:ByteArray
def chaS:Shape Cha where
 n:=5
 R w cs x:=∃va,cs=[.int .i64 x.k,.string x.path,va,.string x.tgt,.string x.cont]/\SeqAt atrS w va x.attrs
 len h:=by
  obtain⟨_,rfl,_⟩:=h
  rfl
 one h u hu:=by
  obtain⟨_,rfl,h1⟩:=h
  simp only[List.mem_cons,List.not_mem_nil,or_false]at hu
  rcases hu with rfl|rfl|rfl|rfl|rfl
  any_goals rfl
  exact h1.one
 keep h hb:=by
  obtain⟨va,e,h1⟩:=h
  exact⟨va,e,h1.below hb⟩
structure Bat where
 date:Int
 l:List Cha
def batS:Shape Bat where
 n:=2
 R w cs x:=∃va,cs=[.int .i64 x.date,va]/\SeqAt chaS w va x.l
 len h:=by
  obtain⟨_,rfl,_⟩:=h
  rfl
 one h u hu:=by
  obtain⟨_,rfl,h1⟩:=h
  simp only[List.mem_cons,List.not_mem_nil,or_false]at hu
  rcases hu with rfl|rfl
  ·rfl
  ·exact h1.one
 keep h hb:=by
  obtain⟨va,e,h1⟩:=h
  exact⟨va,e,h1.below hb⟩
structure Ses where
 num:Int
 date:Int
 prev:ByteArray
 ents:List Ent
 str:ByteArray
 sig:ByteArray
def sesS:Shape Ses where
 n:=6
 R w cs x:=∃ve,cs=[.int .i64 x.num,.int .i64 x.date,.string x.prev,ve,.string x.str,.string x.sig]/\SeqAt entS w ve x.ents
 len h:=by
  obtain⟨_,rfl,_⟩:=h
  rfl
 one h u hu:=by
  obtain⟨_,rfl,h1⟩:=h
  simp only[List.mem_cons,List.not_mem_nil,or_false]at hu
  rcases hu with rfl|rfl|rfl|rfl|rfl|rfl
  any_goals rfl
  exact h1.one
 keep h hb:=by
  obtain⟨va,e,h1⟩:=h
  exact⟨va,e,h1.below hb⟩
theorem beL_length (n:Nat):∀k,(beL n k).length=k
 |0=>rfl
 |k+1=>by rw[beL,List.length_cons,beL_length n k]
def numK (n m k:Nat):List Nat:=List.replicate (m-k) 0++beL n k
theorem numK_len {n m k:Nat} (h:k<=m):(numK n m k).length=m:=by
 unfold numK
 rw[List.length_append,List.length_replicate,beL_length]
 omega
theorem numK_set {n m k:Nat} (h:k<m):(numK n m k).set (m-1-k) (n/256^k%256)=numK n m (k+1):=by
 unfold numK
 rw[beL,show m-k=(m-(k+1))+1 by omega,List.replicate_succ',List.append_assoc,List.set_append_right _ _ (by rw[List.length_replicate];omega),List.length_replicate,show m-1-k-(m-(k+1))=0 by omega]
 rfl
theorem numK_get {n m k:Nat} (h:k<m):(numK n m k)[m-1-k]?=some 0:=by
 unfold numK
 rw[List.getElem?_append_left (by rw[List.length_replicate];omega),List.getElem?_replicate,if_pos (by omega)]
theorem fnumber_any (w:World) (n m:Nat) (_hn:n<4294967296) (hm:m<=8):Calls Tryz.prog 250 #[.int .u32 (n:Int),.int .i64 (m:Int)] w fun e w'=>e=.returned (.string (strB (beL n m)))/\Below w.heap.size w w':=by
 have hmk:=make_u8 m m (Nat.le_refl _) (by omega)
 have hmJ:(m:Int)<=8:=by omega
 go_enter Tryz.func250,Tryz.ntmps250
 go_wp2
 go_loopw [0,11] (fun v c wr=>∃k:Nat,k<=m/\v=.int .u32 ((n/256^k:Nat):Int)/\c=.int .i64 (k:Int)/\U8B wr w.heap.size (numK n m k)/\Below w.heap.size w wr) (fun _ c _=>m-(intOf c).toNat)
 case atStart=>exact⟨0,by omega,by simp,rfl,by have:=U8B.new w (List.replicate m 0);unfold numK beL;simpa using this,(Below.refl _ _).alloc (Nat.le_refl _) _⟩
 case round=>
  obtain⟨k,hk,rfl,rfl,hb,hB⟩:=hrel
  have Hb:=zY hb
  have HB:=zY hB
  by_cases h:k<m
  {
  have hkI:(k:Int)<m:=by omega
  have hc:=hb.cell (numK_get (n:=n) h)
  have hf:=hb.frozen (m-1-k)
  have hi:((m:Int)-1-k).toNat=m-1-k:=by omega
  have hw:IntKind.i64.wrap ((m:Int)-1-k)=m-1-k:=by rw[IntKind.wrap_i64];omega
  have hw1:IntKind.i64.wrap ((m:Int)-1)=m-1:=by rw[IntKind.wrap_i64];omega
  have h0:(0:Int)<=m-1-k:=by omega
  have h2:(m:Int)-1-k<m:=by omega
  have HS:=zY (hb.set (m-1-k) (n/256^k%256))
  have Hset:=zY (numK_set (n:=n) h)
  clear hb hB
  go_wp2
  go_roundw
  case rel=>
   have e1:((n:Int)/256^k/256)=((n/256^(k+1):Nat):Int):=by rw[Nat.pow_succ,<-Nat.div_div_eq_div_mul];push_cast;rfl
   have e2:((n:Int)/256^k%256)=((n/256^k%256:Nat):Int):=by push_cast;rfl
   rw[e1,e2]
   exact⟨k+1,by omega,rfl,by go_num,by rw[<-Hset.out];exact HS.out,HB.out.setCell (p:=⟨w.heap.size,m-1-k,none⟩) (Nat.le_refl _) _⟩
  case measure=>simp[intOf];omega}
  {
  have hkm:k=m:=by omega
  subst hkm
  have hcs:=run_toStr (hb.bytes (n:=k) (c:=k) (numK_len (Nat.le_refl _)).symm (Nat.le_refl _) (by omega)) (numK_len (Nat.le_refl _)).symm
  have e:numK n k k=beL n k:=by unfold numK;simp
  rw[e]at hcs
  clear hb hB
  go_wp2
  go_ret
  exact⟨rfl,HB.out⟩
}
end
end Go.Proofs.YthgenkkkapilhaaGreatDoor
