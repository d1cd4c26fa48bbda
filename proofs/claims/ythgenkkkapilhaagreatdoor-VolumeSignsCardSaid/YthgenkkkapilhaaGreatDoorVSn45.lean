/-
  Joined: SgA SgB VrR VrT VrS VrG Shelj SgD.
-/
import Derived.Test.YthgenkkkapilhaaGreatDoorVSn40
import Derived.Test.YthgenkkkapilhaaGreatDoorVSn44
set_option linter.all false
set_option maxRecDepth 100000
set_option maxHeartbeats 64000000
namespace Go.Proofs.YthgenkkkapilhaaGreatDoor
section
open Go.RowKit
def hshB (l:List ByteArray):ByteArray:=strB ((digL (nstsL l)).take 16)
theorem hshB_size (l:List ByteArray):(hshB l).size=16:=by rw[hshB,strB_size,List.length_take,digL_len];rfl
def chainB:ByteArray:=⟨#[99,104,97,105,110]⟩
def wotsB:ByteArray:=⟨#[119,111,116,115]⟩
def pubB:ByteArray:=⟨#[112,117,98,108,105,99]⟩
def nodeB:ByteArray:=⟨#[110,111,100,101]⟩
def walkB (x:ByteArray):Nat->ByteArray
 |0=>x
 |n+1=>hshB [chainB,walkB x n]
theorem walkB_add (x:ByteArray) (a:Nat):∀b,walkB (walkB x a) b=walkB x (a+b)
 |0=>rfl
 |b+1=>by
  show hshB [chainB,walkB (walkB x a) b]=hshB [chainB,walkB x (a+b)]
  rw[walkB_add x a b]
theorem walkB_size {x:ByteArray} {m:Nat} (hx:x.size<=m) (hm:16<=m):∀n,(walkB x n).size<=m
 |0=>hx
 |n+1=>by
  rw[walkB,hshB_size]
  exact hm
def secB (seed:ByteArray) (key chain:Nat):ByteArray:=hshB [wotsB,seed,strB (numL key),strB (numL chain)]
def endsB (seed:ByteArray) (key n:Nat):List ByteArray:=(List.range n).map fun i=>walkB (secB seed key i) 15
def wpubB (seed:ByteArray) (key:Nat):ByteArray:=hshB (pubB::endsB seed key 35)
def nodeS (a b:ByteArray):ByteArray:=hshB [nodeB,a,b]
theorem endsB_succ (seed:ByteArray) (key n:Nat):endsB seed key (n+1)=endsB seed key n++[walkB (secB seed key n) 15]:=by
 rw[endsB,endsB,List.range_succ,List.map_append]
 rfl
theorem endsB_len (seed:ByteArray) (key n:Nat):(endsB seed key n).length=n:=by simp[endsB]
theorem hsh_extract {D:ByteArray} {l:List ByteArray} (h:strB (digL (nstsL l))=D):D.size=32/\D.extract 0 16=hshB l:=by
 refine⟨by rw[<-h,strB_size,digL_len],?_⟩
 rw[<-strB_bs (D.extract 0 16),bs_extract,<-h,bs_strB (digL_lt _),List.drop_zero]
 rfl
theorem bs_nsts (l:List ByteArray):bs (strB (nstsL l))=nstsL l:=bs_strB (nstsL_lt l)
theorem whash_any (w:World) (v:Value) (l:List ByteArray) (hv:SeqAt strS w v l) (hl:l.length<=100) (hs:∀s∈l,s.size<=1000000) (hT:Tab w):
  Calls Tryz.prog 204 #[v] w fun e w'=>e=.returned (.string (hshB l))/\Below w.heap.size w w':=by
 have HN:=zY (nstrings_any w v l hv hl hs hT)
 have hz:(nstsL l).length<=100*1000022:=Nat.le_trans (nstsL_len (m:=1000000) (by omega) hs) (Nat.mul_le_mul hl (Nat.le_refl _))
 have HBs0:=bs_nsts l
 obtain⟨A,c,rfl,_,_⟩:=hv.slice
 obtain⟨X,hX⟩:=zNm (strB (nstsL l))
 have hXz:X.size<=200000000:=by rw[<-hX,strB_size];omega
 rw[hX]at HN HBs0
 obtain⟨D,hD⟩:=zNm (strB (digL (nstsL l)))
 have HD:=zY (hsh_extract hD)
 have hDz:=HD.out.1
 have HBs:=zY (fun(W:World) (v:Value) (hv:SeqAt strS W v [X])=>bsum_any W v X hv (by omega))
 rw[HBs0,hD]at HBs
 clear hv hs hT hX hz HBs0 hD hXz
 go_enter Tryz.func204,Tryz.ntmps204
 go_wp2_with fail
 refine HN.out.mono ?_
 rintro e1 w1 ⟨rfl,hb1⟩
 have HB1:=zY hb1
 have HV:=zY (SeqAt.strs w1 [X] 1 (Nat.le_refl _) (by decide))
 have HB2:=zY (HB1.out.alloc HB1.out.size (.cells #[.string X] 9))
 clear hb1 HN
 go_wp2_with fail
 refine(HBs.out _ _ HV.out).mono ?_
 rintro e2 w2 ⟨rfl,hb2⟩
 have HB3:=zYt HB2 hb2
 clear hb2 HV
 go_wp2
 go_ret
 exact⟨by first|rfl|(rw[HD.out.2];rfl),HB3.out⟩
theorem knode_any (w:World) (a b:ByteArray) (ha:a.size<=1000000) (hb:b.size<=1000000) (hT:Tab w):
  Calls Tryz.prog 78 #[.string a,.string b] w fun e w'=>e=.returned (.string (nodeS a b))/\Below w.heap.size w w':=by
 have hs:∀s∈[nodeB,a,b],s.size<=1000000:=fun s hs=>by
  simp only[List.mem_cons,List.not_mem_nil,or_false]at hs
  rcases hs with rfl|rfl|rfl
  ·decide
  ·exact ha
  ·exact hb
 have hz:(nstsL [nodeB,a,b]).length<=3*1000022:=nstsL_len (m:=1000000) (by omega) hs
 have HB0:=zY (zBl w (.cells #[.string nodeB,.string a,.string b] 9))
 have HN:=zY (nstrings_any _ _ [nodeB,a,b] (SeqAt.strs w [nodeB,a,b] 3 (Nat.le_refl _) (by decide)) (by simp) hs (hT.below HB0.out))
 have HBs0:=bs_nsts [nodeB,a,b]
 obtain⟨X,hX⟩:=zNm (strB (nstsL [nodeB,a,b]))
 have hXz:X.size<=200000000:=by rw[<-hX,strB_size];omega
 rw[hX]at HN HBs0
 obtain⟨D,hD⟩:=zNm (strB (digL (nstsL [nodeB,a,b])))
 have HD:=zY (hsh_extract hD)
 have hDz:=HD.out.1
 have HBs:=zY (fun(W:World) (v:Value) (hv:SeqAt strS W v [X])=>bsum_any W v X hv (by omega))
 rw[HBs0,hD]at HBs
 clear hs hT hX hz HBs0 hD hXz ha hb
 go_enter Tryz.func78,Tryz.ntmps78
 go_wp2_with fail
 refine HN.out.mono ?_
 rintro e1 w1 ⟨rfl,hb1⟩
 have HB1:=zYt HB0 hb1
 have HV:=zY (SeqAt.strs w1 [X] 1 (Nat.le_refl _) (by decide))
 have HB2:=zY (HB1.out.alloc HB1.out.size (.cells #[.string X] 9))
 clear hb1 HN
 go_wp2_with fail
 refine(HBs.out _ _ HV.out).mono ?_
 rintro e2 w2 ⟨rfl,hb2⟩
 have HB3:=zYt HB2 hb2
 clear hb2 HV
 go_wp2
 go_ret
 exact⟨by first|rfl|(rw[HD.out.2];rfl),HB3.out⟩
theorem wwalk1_any (w:World) (g:Nat) (x:ByteArray) (hk:Blk w g 9 [.string x]) (hx:x.size<=1000000) (hT:Tab w):
  Calls Tryz.prog 205 #[.pointer (some ⟨g,0,none⟩)] w fun e w'=>e=.returned (.tuple #[])/\∃wm,Below w.heap.size w wm/\w'=wm.setCell ⟨g,0,none⟩ (.string (hshB [chainB,x])):=by
 have HB0:=zY (zBl w (.cells #[.string chainB,.string x] 9))
 have HH:=zY (whash_any _ _ [chainB,x] (SeqAt.strs w [chainB,x] 2 (Nat.le_refl _) (by decide)) (by simp) (fun s hs=>by
  simp only[List.mem_cons,List.not_mem_nil,or_false]at hs
  rcases hs with rfl|rfl
  ·decide
  ·exact hx) (hT.below HB0.out))
 have HK:=zY hk
 have c0:=hk.c 0
 clear hk hT
 go_enter Tryz.func205,Tryz.ntmps205
 go_wp2_with fail
 refine HH.out.mono ?_
 rintro e1 w1 ⟨rfl,hb1⟩
 have HB1:=zYt HB0 hb1
 have c0:=(HK.out.kept HB1.out).c 0
 have z0:=(HK.out.kept HB1.out).frozen 0
 clear hb1 HH
 go_wp2
 first|refine bodyPost_end (results_none rfl _ _ _) rfl ?_|refine bodyPost_ret (results_none rfl _ _ _) rfl ?_
 exact⟨rfl,w1,HB1.out,rfl⟩
theorem wwalk_any (w:World) (x:ByteArray) (n:Nat) (hn:n<=1000) (hx:x.size<=1000000) (hT:Tab w):
  Calls Tryz.prog 135 #[.string x,.int .i64 (n:Int)] w fun e w'=>e=.returned (.string (walkB x n))/\Below w.heap.size w w':=by
 have HT:=zY hT
 have HK:Hid (Blk (w.alloc (.cells #[.string x] 9)) w.heap.size 9 [.string x]):=zY (Blk.new w _ _)
 have HB0:=zY (zBl w (.cells #[.string x] 9))
 have HSz:=zY (walkB_size hx (by decide))
 clear hT
 go_enter Tryz.func135,Tryz.ntmps135
 go_wp2
 go_loopw [8] (fun t wr=>∃i:Nat,i<=n/\t=.int .i64 (i:Int)/\Blk wr w.heap.size 9 [.string (walkB x i)]/\Below w.heap.size w wr) (fun t _=>n-(intOf t).toNat)
 case atStart=>exact⟨0,by omega,rfl,HK.out,HB0.out⟩
 case round=>
  obtain⟨i,hi,rfl,hk,hB⟩:=hrel
  have HKr:=zY hk
  have HB:=zY hB
  clear hk hB
  by_cases h:i<n
  {
  have hiI:(i:Int)<n:=by omega
  have HW:=zY (wwalk1_any wr _ _ HKr.out (HSz.out i) (HT.out.below HB.out))
  go_wp2_with fail
  refine HW.out.mono ?_
  rintro e1 w1 ⟨rfl,wm,hb1,rfl⟩
  have HBn:=zY ((HB.out.trans (hb1.mono HB.out.size)).setCell (p:=⟨w.heap.size,0,none⟩) (Nat.le_refl _) (.string (hshB [chainB,walkB x i])))
  have HKn:=zY ((HKr.out.kept hb1).set 0 (.string (hshB [chainB,walkB x i])))
  clear hb1 HW
  generalize wm.setCell ⟨w.heap.size,0,none⟩ (.string (hshB [chainB,walkB x i]))=wn at *
  go_wp2
  go_roundw
  case rel=>exact⟨i+1,by omega,by go_num,HKn.out,HBn.out⟩
  case measure=>simp[intOf];omega}
  {
  obtain rfl:i=n:=by omega
  have hiI:¬((i:Nat):Int)<(i:Int):=by omega
  have c0:=HKr.out.c 0
  go_wp2
  go_ret
  exact⟨rfl,HB.out⟩
}
theorem wsecret_any (w:World) (seed:ByteArray) (key chain:Nat) (hs:seed.size<=1000000) (hk:key<=1000000) (hc:chain<=1000000) (hT:Tab w):
  Calls Tryz.prog 136 #[.string seed,.int .i64 (key:Int),.int .i64 (chain:Int)] w fun e w'=>e=.returned (.string (secB seed key chain))/\Below w.heap.size w w':=by
 have HT:=zY hT
 have H1:=zY (nnumber_any w key (by omega) hT)
 have H2:=zY (fun(W:World) (hW:Below w.heap.size w W)=>nnumber_any W chain (by omega) (HT.out.below hW))
 have hz1:(strB (numL key)).size<=1000000:=by
  have:=numL_len key (by omega)
  omega
 have hz2:(strB (numL chain)).size<=1000000:=by
  have:=numL_len chain (by omega)
  omega
 obtain⟨K,hK⟩:=zNm (strB (numL key))
 obtain⟨C,hC⟩:=zNm (strB (numL chain))
 have HR:Hid (secB seed key chain=hshB [wotsB,seed,K,C]):=zY (by rw[secB,hK,hC])
 rw[hK]at H1 hz1
 rw[hC]at H2 hz2
 have HH:=zY (fun(W:World) (hW:Below w.heap.size w W)=>whash_any _ _ [wotsB,seed,K,C] (SeqAt.strs W [wotsB,seed,K,C] 4 (Nat.le_refl _) (by decide)) (by simp) (fun s hs'=>by
  simp only[List.mem_cons,List.not_mem_nil,or_false]at hs'
  rcases hs' with rfl|rfl|rfl|rfl
  ·decide
  ·exact hs
  ·exact hz1
  ·exact hz2) (HT.out.below (hW.alloc hW.size (.cells #[.string wotsB,.string seed,.string K,.string C] 9))))
 clear hT hK hC hz1 hz2
 go_enter Tryz.func136,Tryz.ntmps136
 go_wp2_with fail
 refine H1.out.mono ?_
 rintro e1 w1 ⟨rfl,hb1⟩
 have HB1:=zY hb1
 clear hb1
 go_wp2_with fail
 refine(H2.out w1 HB1.out).mono ?_
 rintro e2 w2 ⟨rfl,hb2⟩
 have HB2:=zYt HB1 hb2
 have HB3:=zY (HB2.out.alloc HB2.out.size (.cells #[.string wotsB,.string seed,.string K,.string C] 9))
 clear hb2
 go_wp2_with fail
 refine(HH.out w2 HB2.out).mono ?_
 rintro e3 w3 ⟨rfl,hb3⟩
 have HB4:=zYt HB3 hb3
 clear hb3
 go_wp2
 go_ret
 exact⟨by first|rfl|(rw[HR.out];rfl),HB4.out⟩
def natI:Shape Nat where
 n:=1
 R _ cs x:=cs=[.int .i64 (x:Int)]
 len h:=by rw[h];rfl
 one h u hu:=by rw[h]at hu;rw[List.mem_singleton.1 hu];rfl
 keep h _:=h
theorem flatNI:Flat natI:=fun _ _ _ _ h=>h
theorem Tryz.elemInt:Elem Tryz.prog 65 3 1 8 (.int .i64 0):=⟨Tryz.underlying65,by kernel_rfl,rfl,by decide,by decide⟩
theorem SrcAt.blk {α:Type} {ρ:Shape α} {w0 W:World} {t:TypeId} {g:Nat} {css:List (List Value)} {us:List α} (hB:Blk W g t css.flatten) (hb:Both (ρ.R w0) css us):SrcAt ρ w0 W (.slice (some ⟨g,0,none⟩) us.length us.length) us:=by
 refine⟨_,_,rfl,fun i x hx=>?_⟩
 obtain⟨cs,h1,h2⟩:=hb.at hx
 refine⟨g,0,cs,rfl,h2,fun j u hu=>?_⟩
 have hj:j<ρ.n:=by rw[<-ρ.len h2];exact(List.getElem?_eq_some_iff.1 hu).1
 rw[Nat.zero_add]
 exact hB.cell (by rw[flat_get hb.lens h1 j hj];exact hu)
theorem wpub_any (w:World) (v:Value) (l:List ByteArray) (hv:SeqAt strS w v l) (hl:l.length<=50) (hs:∀s∈l,s.size<=1000000) (hT:Tab w):
  Calls Tryz.prog 142 #[v] w fun e w'=>e=.returned (.string (hshB (pubB::l)))/\Below w.heap.size w w':=by
 have HV:=zY hv
 have HT:=zY hT
 obtain⟨A,c,rfl,_,_⟩:=hv.slice
 have HB0:=zY (zBl w (.cells #[.string pubB] 9))
 have HO:Hid (OwnSeq strS 9 w (w.alloc (.cells #[.string pubB] 9)) (.slice (some ⟨w.heap.size,0,none⟩) 1 1) [pubB]):=zY (OwnSeq.blk (css:=[[.string pubB]]) (Blk.new w 9 [.string pubB]) (.cons rfl .nil) (Nat.le_refl _) (by decide))
 have Hl1:Hid ([pubB].length+l.length<=100000000):=zY (by simp;omega)
 have HHs:=zY (fun(W:World) (v:Value) (hv:SeqAt strS W v (pubB::l)) (hT:Tab W)=>whash_any W v (pubB::l) hv (by simp;omega) (fun s hs'=>by
  rcases List.mem_cons.1 hs' with rfl|h
  ·decide
  ·exact hs s h) hT)
 clear hv hs hT
 go_enter Tryz.func142,Tryz.ntmps142
 go_wp2_with (at_builtin;refine append_seq (w0:=w) (xs:=[pubB]) (us:=l) Tryz.elemStr rfl _ _ rfl rfl HO.out rfl (SrcAt.of HV.out HB0.out) Hl1.out HB0.out ?_;intro va wa hob _ hbb;have KU:=zY hob;have KB:=zY hbb;clear hob hbb)
 refine(HHs.out _ _ (KU.out.at KB.out) (HT.out.below KB.out)).mono ?_
 rintro e1 w1 ⟨rfl,hb1⟩
 have HB1:=zYt KB hb1
 clear hb1
 go_wp2
 go_ret
 exact⟨rfl,HB1.out⟩
theorem wpublic_any (w:World) (seed:ByteArray) (key:Nat) (hs:seed.size<=1000000) (hk:key<=1000000) (hT:Tab w):
  Calls Tryz.prog 137 #[.string seed,.int .i64 (key:Int)] w fun e w'=>e=.returned (.string (wpubB seed key))/\Below w.heap.size w w':=by
 have HT:=zY hT
 have i0:¬(key:Int)<0:=by omega
 have HS:=zY (fun(W:World) (i:Nat) (hi:i<=35) (hT:Tab W)=>wsecret_any W seed key i hs hk (by omega) hT)
 have HW:=zY (fun(W:World) (i:Nat) (hT:Tab W)=>wwalk_any W (secB seed key i) 15 (by omega) (by rw[secB,hshB_size];decide) hT)
 clear hT
 go_enter Tryz.func137,Tryz.ntmps137
 go_wp2
 go_loopw [5,9] (fun y t wr=>∃i:Nat,i<=35/\t=.int .i64 (i:Int)/\OwnSeq strS 9 w wr y (endsB seed key i)/\Below w.heap.size w wr) (fun _ t _=>35-(intOf t).toNat)
 case atStart=>exact⟨0,by omega,rfl,OwnSeq.nil _,Below.refl _ _⟩
 case round=>
  obtain⟨i,hi,rfl,ho,hB⟩:=hrel
  have HO:=zY ho
  have HB:=zY hB
  obtain⟨Ao,co,rfl⟩:=ho.slice
  clear ho hB
  by_cases h:i<35
  {
  have hiI:(i:Int)<35:=by omega
  have HSi:=zY (HS.out wr i hi (HT.out.below HB.out))
  have HSu:=zY (endsB_succ seed key i)
  have HWi:=zY (fun(W:World) (hT:Tab W)=>HW.out W i hT)
  have Hl1:Hid ((endsB seed key i).length+1<=100000000):=zY (by rw[endsB_len];omega)
  obtain⟨S,hS⟩:=zNm (secB seed key i)
  obtain⟨X,hX⟩:=zNm (walkB S 15)
  rw[hS]at HSi HWi HSu
  rw[hX]at HWi HSu
  clear hS hX
  go_wp2_with fail
  refine HSi.out.mono ?_
  rintro e1 w1 ⟨rfl,hb1⟩
  have HB1:=zYt HB hb1
  have HO1:=zY (HO.out.below hb1)
  clear hb1
  go_wp2_with fail
  refine(HWi.out w1 (HT.out.below HB1.out)).mono ?_
  rintro e2 w2 ⟨rfl,hb2⟩
  have HB2:=zYt HB1 hb2
  have HO2:=zY (HO1.out.below hb2)
  clear hb2
  go_wp2_with (at_builtin;refine append_seq (w0:=w) (us:=[X]) Tryz.elemStr rfl _ _ rfl rfl (HO2.out.alloc _) rfl (src1 (ρ:=strS) [.string X] X rfl rfl) Hl1.out (HB2.out.alloc HB2.out.size _) ?_;intro va wa hob _ hbb;have KU:=zY hob;have KB:=zY hbb;clear hob hbb)
  go_roundw
  case rel=>exact⟨i+1,by omega,by go_num,by rw[HSu.out];exact KU.out,KB.out⟩
  case measure=>simp[intOf];omega}
  {
  obtain rfl:i=35:=by omega
  have HP:=zY (wpub_any wr _ _ (HO.out.at HB.out) (by rw[endsB_len];decide) (fun s hs'=>by
   obtain⟨j,_,rfl⟩:=List.mem_map.1 hs'
   exact walkB_size (by rw[secB,hshB_size];decide) (by decide) _) (HT.out.below HB.out))
  go_wp2_with fail
  refine HP.out.mono ?_
  rintro e1 w1 ⟨rfl,hb1⟩
  have HB1:=zYt HB hb1
  clear hb1
  go_wp2
  go_ret
  exact⟨rfl,HB1.out⟩
}
def msgB:ByteArray:=⟨#[109,101,115,115,97,103,101]⟩
def nibs (l:List Nat):List Nat:=l.flatMap fun b=>[b/16,b%16]
def chk:List Nat->Nat
 |[]=>0
 |b::r=>(30-b/16-b%16)+chk r
theorem chk_app (l m:List Nat):chk (l++m)=chk l+chk m:=by
 induction l with
 |nil=>simp[chk]
 |cons b r ih=>rw[List.cons_append,chk,chk,ih,Nat.add_assoc]
theorem chk_le (l:List Nat):chk l<=30*l.length:=by
 induction l with
 |nil=>simp[chk]
 |cons b r ih=>rw[chk,List.length_cons];omega
theorem nibs_take {l:List Nat} {i b:Nat} (h:l[i]?=some b):nibs (l.take (i+1))=nibs (l.take i)++[b/16,b%16]/\chk (l.take (i+1))=chk (l.take i)+(30-b/16-b%16):=by
 rw[List.take_add_one,h,chk_app,nibs,nibs,List.flatMap_append]
 simp[chk]
theorem nibs_len (l:List Nat):(nibs l).length=2*l.length:=by
 induction l with
 |nil=>rfl
 |cons b r ih=>
  have e:nibs (b::r)=[b/16,b%16]++nibs r:=rfl
  rw[e,List.length_append,ih,List.length_cons]
  simp
  omega
def wdgM (m:ByteArray):List Nat:=nibs (bs (hshB [msgB,m]))++[chk (bs (hshB [msgB,m]))/256,chk (bs (hshB [msgB,m]))/16%16,chk (bs (hshB [msgB,m]))%16]
theorem wdgM_len (m:ByteArray):(wdgM m).length=35:=by rw[wdgM,List.length_append,nibs_len,bs_len,hshB_size];rfl
theorem wdgM_lt (m:ByteArray):∀d∈wdgM m,d<16:=by
 intro d hd
 rcases List.mem_append.1 hd with h|h
 {
 obtain⟨b,hb,hd⟩:=List.mem_flatMap.1 h
 have:=bs_lt _ b hb
 simp only[List.mem_cons,List.not_mem_nil,or_false]at hd
 rcases hd with rfl|rfl<;>omega}
 {
 have h1:=chk_le (bs (hshB [msgB,m]))
 rw[bs_len,hshB_size]at h1
 generalize chk (bs (hshB [msgB,m]))=c at *
 simp only[List.mem_cons,List.not_mem_nil,or_false]at h
 omega
}
theorem wdigits_any (w:World) (m:ByteArray) (hm:m.size<=1000000) (hT:Tab w):
  Calls Tryz.prog 134 #[.string m] w fun e w'=>(∃v,e=.returned v/\OwnSeq natI 3 w w' v (wdgM m))/\Below w.heap.size w w':=by
 have HB0:=zY (zBl w (.cells #[.string msgB,.string m] 9))
 have HH:=zY (whash_any _ _ [msgB,m] (SeqAt.strs w [msgB,m] 2 (Nat.le_refl _) (by decide)) (by simp) (fun s hs=>by
  simp only[List.mem_cons,List.not_mem_nil,or_false]at hs
  rcases hs with rfl|rfl
  ·decide
  ·exact hm) (hT.below HB0.out))
 obtain⟨D,hD⟩:=zNm (hshB [msgB,m])
 have hDz:D.size=16:=by rw[<-hD];exact hshB_size _
 have HR:Hid (wdgM m=nibs (bs D)++[chk (bs D)/256,chk (bs D)/16%16,chk (bs D)%16]):=zY (by rw[wdgM,hD])
 rw[hD]at HH
 clear hD hT
 go_enter Tryz.func134,Tryz.ntmps134
 go_wp2_with fail
 refine HH.out.mono ?_
 rintro e1 w1 ⟨rfl,hb1⟩
 have HB1:=zYt HB0 hb1
 obtain⟨cc,w2,hcv,hc1,hc2,hrow,hbb,_⟩:=run_toBytes w1 D (by omega)
 have Hrow:=zY hrow
 have HB2:=zYt HB1 hbb
 clear hb1 hrow hbb HH HB0
 have HBy:=zY (Hrow.out.bytes (n:=D.size) (by rw[bs_len]) hc1 hc2)
 clear Hrow
 go_wp2
 go_loopw [3,4,14] (fun y s t wr=>∃i:Nat,i<=D.size/\t=.int .i64 (i:Int)/\s=.int .i64 (chk ((bs D).take i):Int)/\OwnSeq natI 3 w2 wr y (nibs ((bs D).take i))/\Below w2.heap.size w2 wr) (fun _ _ t _=>D.size-(intOf t).toNat)
 case atStart=>exact⟨0,by omega,rfl,rfl,OwnSeq.nil _,Below.refl _ _⟩
 case round=>
  obtain⟨i,hi,rfl,rfl,ho,hB⟩:=hrel
  have HO:=zY ho
  have HB:=zY hB
  obtain⟨Ao,co,rfl⟩:=ho.slice
  clear ho hB hcv
  have hck:chk ((bs D).take i)<=480:=by
   have:=chk_le ((bs D).take i)
   rw[List.length_take,bs_len]at this
   omega
  obtain⟨ck,hckE⟩:=zNm (chk ((bs D).take i))
  by_cases h:i<D.size
  {
  have hiI:(i:Int)<D.size:=by omega
  obtain⟨b,hb⟩:∃b,(bs D)[i]?=some b:=⟨_,List.getElem?_eq_getElem (by rw[bs_len];exact h)⟩
  have hb256:=bs_lt D b (List.mem_of_getElem? hb)
  have HN:=zY (nibs_take hb)
  obtain⟨b2,o2,e9,e0⟩:=(HBy.out.belowV HB.out).cell hb
  cases e9
  rw[Nat.zero_add]at e0
  rw[hckE]at HN hck⊢
  have hwb:IntKind.i64.wrap (b:Int)=(b:Int):=zIw (by omega)
  obtain⟨p,hp⟩:=zNm (b/16)
  obtain⟨q,hq⟩:=zNm (b%16)
  have hp1:Int.tdiv (b:Int) 16=(p:Int):=by rw[<-hp];rfl
  have hq1:Int.tmod (b:Int) 16=(q:Int):=by rw[<-hq];rfl
  have hp2:IntKind.i64.wrap (p:Int)=(p:Int):=zIw (by omega)
  have hp3:p<=15:=by omega
  have hq3:q<=15:=by omega
  rw[hp,hq]at HN
  have hs1:IntKind.i64.wrap ((30:Int)-(p:Int))=(30:Int)-(p:Int):=zIw (by omega)
  have hs2:IntKind.i64.wrap ((30:Int)-(p:Int)-(q:Int))=(30:Int)-(p:Int)-(q:Int):=zIw (by omega)
  have hs3:IntKind.i64.wrap ((ck:Int)+((30:Int)-(p:Int)-(q:Int)))=((ck+(30-p-q):Nat):Int):=by rw[zIw (by omega)];omega
  have Hl1:Hid ((nibs ((bs D).take i)).length+2<=100000000):=zY (by rw[nibs_len,List.length_take,bs_len];omega)
  have HS2:Hid (SrcAt natI w2 (wr.alloc (.cells #[.int .i64 (p:Int),.int .i64 (q:Int)] 3)) (.slice (some ⟨wr.heap.size,0,none⟩) 2 2) [p,q]):=zY (SrcAt.blk (ρ:=natI) (w0:=w2) (css:=[[.int .i64 (p:Int)],[.int .i64 (q:Int)]]) (Blk.new wr 3 [.int .i64 (p:Int),.int .i64 (q:Int)]) (.cons rfl (.cons rfl .nil)))
  clear hb hp hq
  go_wp2_with (at_builtin;refine append_seq (w0:=w2) (us:=[p,q]) Tryz.elemInt rfl _ _ rfl rfl (HO.out.alloc _) rfl HS2.out Hl1.out (HB.out.alloc HB.out.size _) ?_;intro va wa hob _ hbb;have KU:=zY hob;have KB:=zY hbb;clear hob hbb)
  go_roundw
  case rel=>exact⟨i+1,by omega,by go_num,by rw[HN.out.2];(try simp only[hs3]);(try congr 1);(try omega),by rw[HN.out.1];exact KU.out,KB.out⟩
  case measure=>simp[intOf];omega}
  {
  obtain rfl:i=D.size:=by omega
  have hiI:¬((D.size:Nat):Int)<(D.size:Int):=by omega
  have hTk:(bs D).take D.size=bs D:=List.take_of_length_le (by rw[bs_len];exact Nat.le_refl _)
  rw[hTk]at hckE HO
  rw[hTk,hckE]at⊢hck
  rw[hckE]at HR
  obtain⟨p,hp⟩:=zNm (ck/256)
  obtain⟨u,hu⟩:=zNm (ck/16)
  obtain⟨q,hq⟩:=zNm (u%16)
  obtain⟨r,hr⟩:=zNm (ck%16)
  rw[hp,hu,hq,hr]at HR
  have hp1:Int.tdiv (ck:Int) 256=(p:Int):=by rw[<-hp];rfl
  have hu1:Int.tdiv (ck:Int) 16=(u:Int):=by rw[<-hu];rfl
  have hq1:Int.tmod (u:Int) 16=(q:Int):=by rw[<-hq];rfl
  have hr1:Int.tmod (ck:Int) 16=(r:Int):=by rw[<-hr];rfl
  have hp2:IntKind.i64.wrap (p:Int)=(p:Int):=zIw (by omega)
  have hu2:IntKind.i64.wrap (u:Int)=(u:Int):=zIw (by omega)
  have Hl1:Hid ((nibs (bs D)).length+3<=100000000):=zY (by rw[nibs_len,bs_len];omega)
  have HS2:Hid (SrcAt natI w2 (wr.alloc (.cells #[.int .i64 (p:Int),.int .i64 (q:Int),.int .i64 (r:Int)] 3)) (.slice (some ⟨wr.heap.size,0,none⟩) 3 3) [p,q,r]):=zY (SrcAt.blk (ρ:=natI) (w0:=w2) (css:=[[.int .i64 (p:Int)],[.int .i64 (q:Int)],[.int .i64 (r:Int)]]) (Blk.new wr 3 [.int .i64 (p:Int),.int .i64 (q:Int),.int .i64 (r:Int)]) (.cons rfl (.cons rfl (.cons rfl .nil))))
  clear hp hu hq hr hTk
  go_wp2_with (at_builtin;refine append_seq (w0:=w2) (us:=[p,q,r]) Tryz.elemInt rfl _ _ rfl rfl (HO.out.alloc _) rfl HS2.out Hl1.out (HB.out.alloc HB.out.size _) ?_;intro va wa hob _ hbb;have KU:=zY hob;have KB:=zY hbb;clear hob hbb)
  go_ret
  exact⟨⟨_,rfl,by rw[HR.out];exact KU.out.low flatNI HB2.out.size⟩,HB2.out.trans (KB.out.mono HB2.out.size)⟩}
def UpV (lo:Nat) (v:Value):Prop:=∀b o n c,v=.slice (some ⟨b,o,none⟩) n c->lo<=b
def rowO {α:Type} (ρ:Shape α) (lo:Nat):Shape (List α) where
 n:=1
 R w cs x:=∃v,cs=[v]/\SeqAt ρ w v x/\UpV lo v
 len h:=by obtain⟨_,rfl,_⟩:=h;rfl
 one h u hu:=by
  obtain⟨v,rfl,h,_⟩:=h
  rw[List.mem_singleton.1 hu]
  exact h.one
 keep h hb:=by
  obtain⟨v,e,h,k⟩:=h
  exact⟨v,e,h.below hb,k⟩
def chkF {α:Type} (k:Nat) (l:List α) (i:Nat):List (List α):=(List.range i).map fun j=>(l.drop (k*j)).take k
def chks {α:Type} (k:Nat) (l:List α):List (List α):=chkF k l ((l.length+k-1)/k)
theorem chkF_len {α:Type} (k:Nat) (l:List α) (i:Nat):(chkF k l i).length=i:=by simp[chkF]
theorem chks_end {α:Type} {k i:Nat} {l:List α} (hk:1<=k) (h1:l.length<=k*i) (h2:k*i<l.length+k):chkF k l i=chks k l:=by
 rw[chks]
 congr 1
 apply Nat.le_antisymm
 {
 apply Nat.le_of_lt_succ
 rw[<-Nat.not_le]
 intro h
 have h3:k*((l.length+k-1)/k+1)<=k*i:=Nat.mul_le_mul_left k h
 have h4:=Nat.div_add_mod (l.length+k-1) k
 have h5:=Nat.mod_lt (l.length+k-1) hk
 rw[Nat.mul_add,Nat.mul_one]at h3
 omega}
 {
 rw[Nat.div_le_iff_le_mul_add_pred hk]
 omega}
def lenV (v:Value):Nat:=match v with
 |.slice _ n _=>n
 |_=>0
theorem Tryz.elemGrF:Elem Tryz.prog 108 32 1 24 (.slice none 0 0):=⟨Tryz.underlying108,by kernel_rfl,rfl,by decide,by decide⟩
theorem groupsF_any (w:World) (v:Value) (l:List Frm) (k:Nat) (hk:1<=k/\k<=100) (hv:SeqAt frmS w v l) (lo:Nat) (hlo:UpV lo v) (hl:l.length<=10000000):Calls Tryz.prog 47 #[v,.int .i64 (k:Int)] w fun e w'=>RetSeq (rowO frmS lo) 32 w w' (chks k l) e/\Below w.heap.size w w':=by
 have hv0:SeqAt frmS w v (l.drop (k*0)):=by rw[Nat.mul_zero,List.drop_zero];exact hv
 have HV:=zY hv0
 have HL:=zY hlo
 clear hv hv0 hlo
 go_enter Tryz.func47,Tryz.ntmps47
 go_wp2
 go_loopw [0,5] (fun x y wr=>∃i:Nat,k*i<l.length+k/\SeqAt frmS w x (l.drop (k*i))/\UpV lo x/\OwnSeq (rowO frmS lo) 32 w wr y (chkF k l i)/\Below w.heap.size w wr) (fun x _ _=>lenV x)
 case atStart=>exact⟨0,by omega,HV.out,HL.out,OwnSeq.nil _,Below.refl _ _⟩
 case round=>
  obtain⟨i,hi,hx,hup,ho,hB⟩:=hrel
  have HU:=zY hup
  have HO:=zY ho
  have HB:=zY hB
  obtain⟨Ao,co,rfl⟩:=ho.slice
  clear ho hB HV HL hup
  by_cases h:k*i<l.length
  {
  have Hx:=zY hx
  obtain⟨A,c,rfl,h1,h2,h3⟩:=hx
  obtain⟨r,hr⟩:=zNm ((l.drop (k*i)).length)
  have hrl:r=l.length-k*i:=by rw[<-hr,List.length_drop]
  obtain⟨x0,hx0⟩:∃x,(l.drop (k*i))[0]?=some x:=⟨_,List.getElem?_eq_getElem (by omega)⟩
  obtain⟨b,o,_,rfl,_,_⟩:=h3 0 x0 hx0
  have HLo:Hid (∀n c,UpV lo (.slice (some ⟨b,o,none⟩) n c)):=zY (fun n c b' o' n' c' e=>by cases e;exact HU.out _ _ _ _ rfl)
  have HLo2:Hid (∀n c m,UpV lo (.slice (some ⟨b,o+m,none⟩) n c)):=zY (fun n c m b' o' n' c' e=>by cases e;exact HU.out _ _ _ _ rfl)
  rw[hr]at h1⊢
  have Hx2:=Hx.out
  rw[hr]at Hx2
  obtain⟨n,hn⟩:=zNm (min k r)
  have hmin:min (k:Int) (r:Int)=n:=by omega
  have hr0:(0:Int)<r:=by omega
  have hn0:(0:Int)<=n:=by omega
  have hnc:(n:Int)<=c:=by omega
  have hnr:(n:Int)<=r:=by omega
  have hncN:n<=c:=by omega
  have hnrN:n<=r:=by omega
  have HT:Hid (SeqAt frmS w (.slice (some ⟨b,o,none⟩) n c) ((l.drop (k*i)).take k)):=zY (by
   have h9:=SeqAt.take (m:=n) Hx2 (by rw[hr];omega)
   have e:(l.drop (k*i)).take n=(l.drop (k*i)).take k:=by
    rw[<-hn]
    by_cases hkr:k<=r
    ·rw[Nat.min_eq_left hkr]
    ·rw[Nat.min_eq_right (by omega),List.take_of_length_le (by omega),List.take_of_length_le (by omega)]
   rwa [e]at h9)
  have hdn:(l.drop (k*i)).drop n=l.drop (k*(i+1)):=by
   rw[List.drop_drop,Nat.mul_add,Nat.mul_one]
   by_cases hkr:k<=r
   ·rw[<-hn,Nat.min_eq_left hkr]
   ·rw[List.drop_of_length_le (by omega),List.drop_of_length_le (by omega)]
  have HD:Hid (SeqAt frmS w (.slice (some ⟨b,o+n*9,none⟩) (r-n) (c-n)) (l.drop (k*(i+1)))):=zY (by
   rw[<-hdn]
   exact SeqAt.drop Hx2 (by rw[hr];omega))
  have HE:Hid (c=n->∀A,SeqAt frmS w (.slice A (r-n) (c-n)) (l.drop (k*(i+1)))):=zY (fun e A=>by
   have e1:l.drop (k*(i+1))=[]:=by
    rw[<-hdn]
    exact List.drop_of_length_le (by omega)
   rw[e1,show r-n=0 by omega]
   exact⟨A,c-n,rfl,Nat.zero_le _,by omega,fun i x hx=>by cases hx⟩)
  have Hni:Hid (k*(i+1)<l.length+k):=zY (by rw[Nat.mul_add];omega)
  have Hms:Hid (r-n<r):=zY (by omega)
  have HF:Hid (chkF k l (i+1)=chkF k l i++[(l.drop (k*i)).take k]):=zY (by rw[chkF,List.range_succ,List.map_append];rfl)
  have Hl1:Hid ((chkF k l i).length+1<=100000000):=zY (by
   rw[chkF_len]
   have:=Nat.mul_le_mul_right i hk.1
   omega)
  obtain⟨T,hT⟩:=zNm ((l.drop (k*i)).take k)
  rw[hT]at HT HF
  generalize hno:(chkF k l i).length=no at *
  have Hno:=zY hno
  have Hl1:Hid ((chkF k l i).length+1<=100000000):=zY (by rw[hno];exact Hl1.out)
  have HX1:Hid (SrcAt (rowO frmS lo) w (wr.alloc (.cells #[.slice (some ⟨b,o,none⟩) n c] 32)) (.slice (some ⟨wr.heap.size,0,none⟩) 1 1) [T]):=zY (src1 (ρ:=rowO frmS lo) (wr:=wr) [.slice (some ⟨b,o,none⟩) n c] T ⟨_,rfl,HT.out,HLo.out _ _⟩ rfl)
  have HO1:=zY (HO.out.alloc (.cells #[.slice (some ⟨b,o,none⟩) n c] 32))
  have HB1:=zY (HB.out.alloc HB.out.size (.cells #[.slice (some ⟨b,o,none⟩) n c] 32))
  clear hno hT hdn Hx2 Hx h3 hx0 hr hrl h1 h2 hi h hn
  by_cases hcn:c=n
  {
  have hcp:(c=n)=True:=eq_true hcn
  have HE:=zY (HE.out hcn)
  clear hcn
  go_wp2_with (at_builtin;refine append_seq (w0:=w) Tryz.elemGrF rfl _ _ rfl rfl HO1.out rfl HX1.out Hl1.out HB1.out ?_;intro vb w6 hob _ hbb;have KV:=zY hob;have KC:=zY hbb;clear hob hbb)
  go_roundw
  case rel=>exact⟨i+1,Hni.out,HE.out _,HLo.out _ _,by rw[HF.out];exact KV.out,KC.out⟩
  case measure=>exact Hms.out}
  {
  have hcp:(c=n)=False:=eq_false hcn
  clear hcn
  go_wp2_with (at_builtin;refine append_seq (w0:=w) Tryz.elemGrF rfl _ _ rfl rfl HO1.out rfl HX1.out Hl1.out HB1.out ?_;intro vb w6 hob _ hbb;have KV:=zY hob;have KC:=zY hbb;clear hob hbb)
  go_roundw
  case rel=>exact⟨i+1,Hni.out,HD.out,HLo2.out _ _ _,by rw[HF.out];exact KV.out,KC.out⟩
  case measure=>exact Hms.out}}
  {
  obtain⟨A,c,rfl,_,_,_⟩:=hx
  have hz:(l.drop (k*i)).length=0:=by rw[List.length_drop];omega
  rw[hz]
  have HF:=zY (chks_end (l:=l) hk.1 (by omega) hi)
  clear hz
  generalize hno:(chkF k l i).length=no at *
  clear hno h hi
  go_wp2
  go_ret
  exact⟨⟨_,rfl,by rw[<-HF.out];exact HO.out⟩,HB.out⟩
}
theorem Tryz.elemGrP:Elem Tryz.prog 176 59 1 24 (.slice none 0 0):=⟨Tryz.underlying176,by kernel_rfl,rfl,by decide,by decide⟩
theorem groupsP_any (w:World) (v:Value) (l:List Pln) (k:Nat) (hk:1<=k/\k<=100) (hv:SeqAt plnS w v l) (lo:Nat) (hlo:UpV lo v) (hl:l.length<=10000000):Calls Tryz.prog 94 #[v,.int .i64 (k:Int)] w fun e w'=>RetSeq (rowO plnS lo) 59 w w' (chks k l) e/\Below w.heap.size w w':=by
 have hv0:SeqAt plnS w v (l.drop (k*0)):=by rw[Nat.mul_zero,List.drop_zero];exact hv
 have HV:=zY hv0
 have HL:=zY hlo
 clear hv hv0 hlo
 go_enter Tryz.func94,Tryz.ntmps94
 go_wp2
 go_loopw [0,5] (fun x y wr=>∃i:Nat,k*i<l.length+k/\SeqAt plnS w x (l.drop (k*i))/\UpV lo x/\OwnSeq (rowO plnS lo) 59 w wr y (chkF k l i)/\Below w.heap.size w wr) (fun x _ _=>lenV x)
 case atStart=>exact⟨0,by omega,HV.out,HL.out,OwnSeq.nil _,Below.refl _ _⟩
 case round=>
  obtain⟨i,hi,hx,hup,ho,hB⟩:=hrel
  have HU:=zY hup
  have HO:=zY ho
  have HB:=zY hB
  obtain⟨Ao,co,rfl⟩:=ho.slice
  clear ho hB HV HL hup
  by_cases h:k*i<l.length
  {
  have Hx:=zY hx
  obtain⟨A,c,rfl,h1,h2,h3⟩:=hx
  obtain⟨r,hr⟩:=zNm ((l.drop (k*i)).length)
  have hrl:r=l.length-k*i:=by rw[<-hr,List.length_drop]
  obtain⟨x0,hx0⟩:∃x,(l.drop (k*i))[0]?=some x:=⟨_,List.getElem?_eq_getElem (by omega)⟩
  obtain⟨b,o,_,rfl,_,_⟩:=h3 0 x0 hx0
  have HLo:Hid (∀n c,UpV lo (.slice (some ⟨b,o,none⟩) n c)):=zY (fun n c b' o' n' c' e=>by cases e;exact HU.out _ _ _ _ rfl)
  have HLo2:Hid (∀n c m,UpV lo (.slice (some ⟨b,o+m,none⟩) n c)):=zY (fun n c m b' o' n' c' e=>by cases e;exact HU.out _ _ _ _ rfl)
  rw[hr]at h1⊢
  have Hx2:=Hx.out
  rw[hr]at Hx2
  obtain⟨n,hn⟩:=zNm (min k r)
  have hmin:min (k:Int) (r:Int)=n:=by omega
  have hr0:(0:Int)<r:=by omega
  have hn0:(0:Int)<=n:=by omega
  have hnc:(n:Int)<=c:=by omega
  have hnr:(n:Int)<=r:=by omega
  have hncN:n<=c:=by omega
  have hnrN:n<=r:=by omega
  have HT:Hid (SeqAt plnS w (.slice (some ⟨b,o,none⟩) n c) ((l.drop (k*i)).take k)):=zY (by
   have h9:=SeqAt.take (m:=n) Hx2 (by rw[hr];omega)
   have e:(l.drop (k*i)).take n=(l.drop (k*i)).take k:=by
    rw[<-hn]
    by_cases hkr:k<=r
    ·rw[Nat.min_eq_left hkr]
    ·rw[Nat.min_eq_right (by omega),List.take_of_length_le (by omega),List.take_of_length_le (by omega)]
   rwa [e]at h9)
  have hdn:(l.drop (k*i)).drop n=l.drop (k*(i+1)):=by
   rw[List.drop_drop,Nat.mul_add,Nat.mul_one]
   by_cases hkr:k<=r
   ·rw[<-hn,Nat.min_eq_left hkr]
   ·rw[List.drop_of_length_le (by omega),List.drop_of_length_le (by omega)]
  have HD:Hid (SeqAt plnS w (.slice (some ⟨b,o+n*4,none⟩) (r-n) (c-n)) (l.drop (k*(i+1)))):=zY (by
   rw[<-hdn]
   exact SeqAt.drop Hx2 (by rw[hr];omega))
  have HE:Hid (c=n->∀A,SeqAt plnS w (.slice A (r-n) (c-n)) (l.drop (k*(i+1)))):=zY (fun e A=>by
   have e1:l.drop (k*(i+1))=[]:=by
    rw[<-hdn]
    exact List.drop_of_length_le (by omega)
   rw[e1,show r-n=0 by omega]
   exact⟨A,c-n,rfl,Nat.zero_le _,by omega,fun i x hx=>by cases hx⟩)
  have Hni:Hid (k*(i+1)<l.length+k):=zY (by rw[Nat.mul_add];omega)
  have Hms:Hid (r-n<r):=zY (by omega)
  have HF:Hid (chkF k l (i+1)=chkF k l i++[(l.drop (k*i)).take k]):=zY (by rw[chkF,List.range_succ,List.map_append];rfl)
  have Hl1:Hid ((chkF k l i).length+1<=100000000):=zY (by
   rw[chkF_len]
   have:=Nat.mul_le_mul_right i hk.1
   omega)
  obtain⟨T,hT⟩:=zNm ((l.drop (k*i)).take k)
  rw[hT]at HT HF
  generalize hno:(chkF k l i).length=no at *
  have Hno:=zY hno
  have Hl1:Hid ((chkF k l i).length+1<=100000000):=zY (by rw[hno];exact Hl1.out)
  have HX1:Hid (SrcAt (rowO plnS lo) w (wr.alloc (.cells #[.slice (some ⟨b,o,none⟩) n c] 59)) (.slice (some ⟨wr.heap.size,0,none⟩) 1 1) [T]):=zY (src1 (ρ:=rowO plnS lo) (wr:=wr) [.slice (some ⟨b,o,none⟩) n c] T ⟨_,rfl,HT.out,HLo.out _ _⟩ rfl)
  have HO1:=zY (HO.out.alloc (.cells #[.slice (some ⟨b,o,none⟩) n c] 59))
  have HB1:=zY (HB.out.alloc HB.out.size (.cells #[.slice (some ⟨b,o,none⟩) n c] 59))
  clear hno hT hdn Hx2 Hx h3 hx0 hr hrl h1 h2 hi h hn
  by_cases hcn:c=n
  {
  have hcp:(c=n)=True:=eq_true hcn
  have HE:=zY (HE.out hcn)
  clear hcn
  go_wp2_with (at_builtin;refine append_seq (w0:=w) Tryz.elemGrP rfl _ _ rfl rfl HO1.out rfl HX1.out Hl1.out HB1.out ?_;intro vb w6 hob _ hbb;have KV:=zY hob;have KC:=zY hbb;clear hob hbb)
  go_roundw
  case rel=>exact⟨i+1,Hni.out,HE.out _,HLo.out _ _,by rw[HF.out];exact KV.out,KC.out⟩
  case measure=>exact Hms.out}
  {
  have hcp:(c=n)=False:=eq_false hcn
  clear hcn
  go_wp2_with (at_builtin;refine append_seq (w0:=w) Tryz.elemGrP rfl _ _ rfl rfl HO1.out rfl HX1.out Hl1.out HB1.out ?_;intro vb w6 hob _ hbb;have KV:=zY hob;have KC:=zY hbb;clear hob hbb)
  go_roundw
  case rel=>exact⟨i+1,Hni.out,HD.out,HLo2.out _ _ _,by rw[HF.out];exact KV.out,KC.out⟩
  case measure=>exact Hms.out}}
  {
  obtain⟨A,c,rfl,_,_,_⟩:=hx
  have hz:(l.drop (k*i)).length=0:=by rw[List.length_drop];omega
  rw[hz]
  have HF:=zY (chks_end (l:=l) hk.1 (by omega) hi)
  clear hz
  generalize hno:(chkF k l i).length=no at *
  clear hno h hi
  go_wp2
  go_ret
  exact⟨⟨_,rfl,by rw[<-HF.out];exact HO.out⟩,HB.out⟩}
theorem prt_cut {s:ByteArray} (h:prtL (bs s)=true) (i j:Nat):prtL (bs (s.extract i j))=true:=by
 rw[prtL,List.all_eq_true]at h⊢
 intro b hb
 rw[bs_extract]at hb
 exact h b (List.mem_of_mem_take (List.mem_of_mem_drop hb))
theorem prt_pad {s:ByteArray} (h:prtL (bs s)=true):prtL (bs (padS s))=true:=by
 rw[prtL,List.all_eq_true]at h⊢
 intro b hb
 have e:bs (padS s)=bs s++List.replicate (64*plnT s-s.size) 32:=by
  have:=strB_cat (bs s) (List.replicate (64*plnT s-s.size) 32)
  rw[strB_bs]at this
  rw[padS,this,bs_strB]
  intro c hc
  rcases List.mem_append.1 hc with h1|h1
  {
  obtain⟨d,_,rfl⟩:=List.mem_map.1 h1
  exact UInt8.toNat_lt d}
  ·rw[(List.mem_replicate.1 h1).2];omega
 rw[e]at hb
 rcases List.mem_append.1 hb with h1|h1
 ·exact h b h1
 ·rw[(List.mem_replicate.1 h1).2];decide
theorem plnAt_ok {a i:Nat} {s:ByteArray} (ha:a<4294967296) (hs:splitE s=0) (hi:i<plnT s):PlnOk a i (plnT s) (plnAt a s i).x:=by
 unfold splitE at hs
 split at hs
 ·cases hs
 {
 next h1=>
 split at hs
 ·cases hs
 {
 next h2=>
 have h3:prtL (bs s)=true:=by
  cases h:prtL (bs s)with
  |true=>rfl
  |false=>exact absurd h h2
 refine⟨ha,hi,by unfold plnT;omega,?_,prt_cut (prt_pad h3) _ _⟩
 rw[plnAt,ByteArray.size_extract,padS_size]
 omega}}
def plCells (g:List Pln):List Nat:=g.flatMap fun p=>plnL p.a p.i p.t p.x
theorem plCells_snoc (g:List Pln) (p:Pln):plCells (g++[p])=plCells g++plnL p.a p.i p.t p.x:=by simp[plCells]
def stripsT (a:Nat) (s:ByteArray):List ByteArray:=(chks 4 (plnsL a s)).map fun g=>strB (plCells g)
def stripR (a:Nat) (s:ByteArray):List ByteArray:=if splitE s=0 then stripsT a s else []
theorem chks_mem {α:Type} {k:Nat} {l g:List α} (h:g∈chks k l):(∀x∈g,x∈l)/\g.length<=k:=by
 obtain⟨j,_,rfl⟩:=List.mem_map.1 h
 exact⟨fun x hx=>List.mem_of_mem_drop (List.mem_of_mem_take hx),by rw[List.length_take];omega⟩
theorem plnL_len {a i t:Nat} {x:ByteArray} (h:PlnOk a i t x):(plnL a i t x).length<=8000:=by
 rw[plnL,List.length_append,frmB_len]
 have:=sealL_len (textL_len h)
 show 16+_<=_
 omega
theorem plnL_01 (a i t:Nat) (x:ByteArray):B01 (plnL a i t x):=by
 intro c hc
 rcases List.mem_append.1 hc with h|h
 {
 simp only[markP,List.mem_cons,List.not_mem_nil,or_false]at h
 omega}
 ·exact frmB_01 _ c h
theorem plCells_bytes (g:List Pln):Bytes (plCells g):=fun c hc=>by
 obtain⟨p,_,h⟩:=List.mem_flatMap.1 hc
 exact b01_bytes (plnL_01 _ _ _ _) c h
theorem plCells_len {g:List Pln} (h:∀p∈g,PlnOk p.a p.i p.t p.x):(plCells g).length<=8000*g.length:=by
 induction g with
 |nil=>simp[plCells]
 |cons p r ih=>
  have h1:=ih fun q hq=>h q (List.mem_cons_of_mem _ hq)
  have h2:=plnL_len (h p List.mem_cons_self)
  show (plnL p.a p.i p.t p.x++plCells r).length<=_
  rw[List.length_append,List.length_cons,Nat.mul_add]
  omega
theorem volstrips_any (w:World) (a:Nat) (d s:Int) (v:Value) (hv:v.oneCell'=true) (x:ByteArray) (ha:a<4294967296) (hx:x.size<=1000000) (hT:Tab w):Calls Tryz.prog 46 #[.agg #[.int .u32 (a:Int),.int .i64 d,.int .i64 s,v],.string x] w fun e w'=>(∃vf,e=.returned (.tuple #[vf,.int .i64 (splitE x)])/\OwnSeq strS 9 w w' vf (stripR a x))/\Below w.heap.size w w':=by
 have HT:=zY hT
 have HS:=zY (fun W=>plsplit_any W x a hx)
 obtain⟨E,hE⟩:=zNm (splitE x)
 rw[hE]at HS⊢
 have hK:=Blk.new w 28 [.int .u32 (a:Int),.int .i64 d,.int .i64 s,v]
 have HK:Hid (Blk (w.alloc (.cells #[.int .u32 (a:Int),.int .i64 d,.int .i64 s,v] 28)) w.heap.size 28 [.int .u32 (a:Int),.int .i64 d,.int .i64 s,v]):=zY hK
 have HB0:=zY (zBl w (.cells #[.int .u32 (a:Int),.int .i64 d,.int .i64 s,v] 28))
 have HE:=zY hE
 clear hT hK hE
 go_enter Tryz.func46,Tryz.ntmps46
 go_upto_region 1 with fail
 generalize w.alloc (.cells #[.int .u32 (a:Int),.int .i64 d,.int .i64 s,v] 28)=wa at *
 have c0:=HK.out.c 0
 go_wp2_with fail
 refine(HS.out _).mono ?_
 rintro e1 w1 ⟨⟨vl,rfl,hl⟩,hb1⟩
 have HB1:=zYt HB0 hb1
 have HL:=zY (hl.atF flatP hb1.size)
 obtain⟨Al,cl,rfl⟩:=hl.slice
 clear hl hb1 c0 HK HB0 HS
 by_cases h0:E=0
 {
 subst h0
 have HR:Hid (stripR a x=stripsT a x):=zY (by rw[stripR,if_pos HE.out])
 have HSp:Hid (splitR a x=plnsL a x):=zY (by rw[splitR,if_pos HE.out])
 rw[HSp.out]at HL⊢
 have hll:(plnsL a x).length<=20000:=by
  have h1:(plnsL a x).length=plnT x:=by simp[plnsL]
  rw[h1]
  unfold plnT
  omega
 have HOk:Hid (∀p∈plnsL a x,PlnOk p.a p.i p.t p.x):=zY (fun p hp=>by
  obtain⟨i,hi,rfl⟩:=List.mem_map.1 hp
  exact plnAt_ok ha HE.out (List.mem_range.1 hi))
 have HG:=zY (groupsP_any w1 _ (plnsL a x) 4 (by omega) HL.out 0 (fun _ _ _ _ _=>Nat.zero_le _) (by omega))
 have hml:(chks 4 (plnsL a x)).length<=20000:=by rw[chks,chkF_len];omega
 have HC4:Hid (∀g∈chks 4 (plnsL a x),(∀p∈g,PlnOk p.a p.i p.t p.x)/\g.length<=4):=zY (fun g hg=>⟨fun p hp=>HOk.out p ((chks_mem hg).1 p hp),(chks_mem hg).2⟩)
 have HSt:Hid (stripsT a x=(chks 4 (plnsL a x)).map fun g=>strB (plCells g)):=zY rfl
 generalize chks 4 (plnsL a x)=G at *
 generalize (plnsL a x).length=nl at *
 obtain⟨m,hm⟩:=zNm (G.length)
 have Hm:=zY hm
 rw[hm]at hml
 clear hll hm HL HOk HSp
 go_upto_region 5 with fail
 go_wp2_with fail
 refine HG.out.mono ?_
 rintro e2 w2 ⟨⟨vg,rfl,hg⟩,hb2⟩
 have HB2:=zYt HB1 hb2
 have HGa:Hid (SeqAt (rowO plnS 0) w2 vg G):=zY ((hg.at hb2))
 obtain⟨Ag,cg,rfl⟩:=hg.slice
 have HT2:=zY (HT.out.below HB2.out)
 rw[Hm.out]
 rw[Hm.out]at HGa
 clear hg hb2 HG HT HB1
 go_wp2
 go_loopw [8,29] (fun y z wr=>∃i:Nat,i<=m/\z=.int .i64 (i:Int)/\OwnSeq strS 9 w2 wr y ((stripsT a x).take i)/\Below w2.heap.size w2 wr) (fun _ z _=>m-(intOf z).toNat)
 case atStart=>exact⟨0,by omega,rfl,OwnSeq.nil _,Below.refl _ _⟩
 case round=>
  obtain⟨i,hi,rfl,ho,hB⟩:=hrel
  obtain⟨wq,rfl⟩:∃z,z=wr:=⟨_,rfl⟩
  have HO:=zY ho
  have HB:=zY hB
  obtain⟨Ao,co,rfl⟩:=ho.slice
  clear ho hB
  generalize hno:((stripsT a x).take i).length=no at *
  have Hno:=zY hno
  clear hno
  by_cases h:i<m
  {
  have hiI:(i:Int)<m:=by omega
  obtain⟨g,hg⟩:∃g,G[i]?=some g:=⟨_,List.getElem?_eq_getElem (by rw[Hm.out];exact h)⟩
  obtain⟨_,_,e9,_,_,h4⟩:=HGa.out.below HB.out
  cases e9
  obtain⟨b,o,cs,rfl,⟨vi,rfl,hvi,_⟩,hc⟩:=h4 i g hg
  have k0:wq.cell? ⟨b,o+i,none⟩=some vi:=by
   have:=hc 0 _ rfl
   rwa [show o+i*(rowO plnS 0).n+0=o+i by show o+i*1+0=o+i;omega]at this
  have HVi:=zY hvi
  obtain⟨Ai,ci,rfl,_,_⟩:=hvi.slice
  obtain⟨hok,hg4⟩:=HC4.out g (List.mem_of_getElem? hg)
  have Hok:=zY hok
  have HF:Hid ((stripsT a x).take (i+1)=(stripsT a x).take i++[strB (plCells g)]):=zY (by
   rw[HSt.out,List.take_add_one,List.getElem?_map,hg]
   rfl)
  have Hl1:Hid (((stripsT a x).take i).length+1<=100000000):=zY (by rw[List.length_take];omega)
  obtain⟨gl,hgl⟩:=zNm (g.length)
  rw[hgl]at hg4 k0 HVi
  have Hgl:=zY hgl
  clear hc h4 hg hvi hok hgl
  go_upto_region 9 with fail
  have HBl0:Hid (Bld (wq.alloc (.cells #[.pointer none,.slice none 0 0] 135)) wq.heap.size wq.heap.size (plCells (g.take 0))):=zY (Bld.new wq)
  have HBq0:=zY (zBl wq (.cells #[.pointer none,.slice none 0 0] 135))
  clear k0
  go_wp2
  go_loopw [35] (fun z wr=>∃k:Nat,k<=gl/\z=.int .i64 (k:Int)/\Bld wr wq.heap.size wq.heap.size (plCells (g.take k))/\Below wq.heap.size wq wr) (fun z _=>gl-(intOf z).toNat)
  case atStart=>exact⟨0,by omega,rfl,HBl0.out,HBq0.out⟩
  case round=>
   obtain⟨k,hk,rfl,hbl,hBr⟩:=hrel
   have HBl:=zY hbl
   have HBr:=zY hBr
   clear hbl hBr HBl0 HBq0
   by_cases h':k<gl
   {
   have hkI:(k:Int)<gl:=by omega
   obtain⟨p,hp⟩:∃p,g[k]?=some p:=⟨_,List.getElem?_eq_getElem (by rw[Hgl.out];exact h')⟩
   have hpo:=Hok.out p (List.mem_of_getElem? hp)
   obtain⟨_,_,e9,_,_,h5⟩:=HVi.out.below HBr.out
   cases e9
   obtain⟨b2,o2,_,rfl,rfl,h6⟩:=h5 k p hp
   have h6':∀j u,p.cells[j]?=some u->wr.cell? ⟨b2,o2+k*4+j,none⟩=some u:=h6
   have HTs:Hid (plCells (g.take (k+1))=plCells (g.take k)++plnL p.a p.i p.t p.x):=zY (by rw[List.take_add_one,hp];exact plCells_snoc _ _)
   have hln:(plCells (g.take k)).length<=40000:=by
    have h1:=plCells_len (g:=g.take k) fun q hq=>Hok.out q (List.mem_of_mem_take hq)
    rw[List.length_take]at h1
    omega
   have hCz:(strB (plnL p.a p.i p.t p.x)).size<=1000000:=by rw[strB_size];have:=plnL_len hpo;omega
   have HCb:Hid (bs (strB (plnL p.a p.i p.t p.x))=plnL p.a p.i p.t p.x):=zY (bs_strB (b01_bytes (plnL_01 _ _ _ _)))
   have HEn:=zY (fun(W:World) (hW:Below w2.heap.size w2 W)=>plenc_ok W p.a p.i p.t p.x hpo (HT2.out.below hW))
   have c0:=h6' 0 _ rfl
   have c1:=h6' 1 _ rfl
   have c2:=h6' 2 _ rfl
   have c3:=h6' 3 _ rfl
   rw[Nat.add_zero]at c0
   obtain⟨pa,pi,pt,px⟩:=p
   dsimp only at c0 c1 c2 c3 HEn HTs hCz HCb
   have Hln:=zY hln
   have HCz:=zY hCz
   clear h5 h6 h6' hp hpo hln hCz
   go_upto_region 12 with fail
   have HZ:Hid (Blk (wr.alloc (.cells #[.int .u32 (pa:Int),.int .i64 (pi:Int),.int .i64 (pt:Int),.string px] 124)) wr.heap.size 124 [.int .u32 (pa:Int),.int .i64 (pi:Int),.int .i64 (pt:Int),.string px]):=zY (Blk.new wr 124 [.int .u32 (pa:Int),.int .i64 (pi:Int),.int .i64 (pt:Int),.string px])
   have HBl1:=zY (HBl.out.alloc (.cells #[.int .u32 (pa:Int),.int .i64 (pi:Int),.int .i64 (pt:Int),.string px] 124))
   have HBr1:=zY (HBr.out.alloc HBr.out.size (.cells #[.int .u32 (pa:Int),.int .i64 (pi:Int),.int .i64 (pt:Int),.string px] 124))
   generalize wr.alloc (.cells #[.int .u32 (pa:Int),.int .i64 (pi:Int),.int .i64 (pt:Int),.string px] 124)=wz at *
   have z0:=HZ.out.c 0
   have z1:=HZ.out.c 1
   have z2:=HZ.out.c 2
   have z3:=HZ.out.c 3
   clear c0 c1 c2 c3 HBl HBr
   go_wp2_with fail
   refine(HEn.out _ (HB.out.trans (HBr1.out.mono HB.out.size))).mono ?_
   rintro e3 w3 ⟨rfl,hb3⟩
   have HBl3:=zY (HBl1.out.below hb3)
   have HBr3:=zYt HBr1 hb3
   have HWs:=zY (ws_any w3 wq.heap.size wq.heap.size _ (strB (plnL pa pi pt px)) HBl3.out (by have:=Hln.out;omega) HCz.out HBr3.out.size)
   rw[HCb.out]at HWs
   clear hb3 z0 z1 z2 z3 HZ HBl1 HBr1 HEn
   generalize strB (plnL pa pi pt px)=C at *
   go_wp2_with fail
   refine HWs.out.mono ?_
   rintro e4 w4 ⟨rfl,hbl4,hb4⟩
   have HBl4:=zY hbl4
   have HBr4:=zY (HBr3.out.trans hb4)
   clear hbl4 hb4
   go_wp2
   go_roundw
   case rel=>exact⟨k+1,by omega,by go_num,by rw[HTs.out];exact HBl4.out,HBr4.out⟩
   case measure=>simp[intOf];omega}
   {
   obtain rfl:k=gl:=by omega
   have hkI:¬((k:Nat):Int)<(k:Int):=by omega
   have hall:g.take k=g:=List.take_of_length_le (by rw[Hgl.out];exact Nat.le_refl _)
   rw[hall]at HBl
   have HSt:=zY (str_any wr wq.heap.size wq.heap.size _ (plCells_bytes g) HBl.out HBr.out.size)
   obtain⟨C,hC⟩:=zNm (strB (plCells g))
   rw[hC]at HF HSt
   clear hall hC HBl
   go_wp2_with fail
   refine HSt.out.mono ?_
   rintro e5 w5 ⟨rfl,_,hb5⟩
   have HB5q:=zY (HBr.out.trans hb5)
   have HB5:=zY (HB.out.trans (HB5q.out.mono HB.out.size))
   have HO5:=zY (HO.out.below HB5q.out)
   have HO6:=zY (HO5.out.alloc (.cells #[.string C] 9))
   have HB6:=zY (HB5.out.alloc HB5.out.size (.cells #[.string C] 9))
   have HX6:Hid (SrcAt strS w2 (w5.alloc (.cells #[.string C] 9)) (.slice (some ⟨w5.heap.size,0,none⟩) 1 1) [C]):=zY (src1 (ρ:=strS) (wr:=w5) [.string C] C rfl rfl)
   clear hb5 HBr HB5q
   go_wp2_with (at_builtin;refine append_seq (ρ:=strS) (w0:=w2) Tryz.elemStr rfl _ _ rfl rfl HO6.out rfl HX6.out Hl1.out HB6.out ?_;intro vb w6 hob _ hbb;have KV:=zY hob;have KC:=zY hbb;clear hob hbb)
   go_roundw
   case rel=>exact⟨i+1,by omega,by go_num,by rw[HF.out];exact KV.out,KC.out⟩
   case measure=>simp[intOf];omega}}
  {
  obtain rfl:i=m:=by omega
  have hiI:¬((i:Nat):Int)<(i:Int):=by omega
  have hall:(stripsT a x).take i=stripsT a x:=List.take_of_length_le (by rw[HSt.out,List.length_map,Hm.out];exact Nat.le_refl _)
  rw[hall]at HO
  clear hall
  go_wp2
  go_ret2
  exact⟨⟨_,rfl,by rw[HR.out];exact HO.out.low flatS HB2.out.size⟩,HB2.out.trans (HB.out.mono HB2.out.size)⟩}}
 {
 have h0b:(E==0)=false:=by rw[beq_eq_false_iff_ne];exact h0
 have HR:Hid (stripR a x=[]):=zY (by rw[stripR,if_neg (by rw[HE.out];exact h0)])
 go_wp2
 go_ret2
 exact⟨⟨_,rfl,by rw[HR.out];exact OwnSeq.nil _⟩,HB1.out⟩}
def FrmOk (f:Frm):Prop:=frE f.k f.r f.s f.i f.l f.d f.p f.t=0/\0<=f.a/\f.a<4294967296
def frmM (f:Frm):List Nat:=marL f.k.toNat f.r.toNat f.s.toNat f.i.toNat f.l.toNat f.d.toNat f.p.toNat f.a.toNat f.t
def celsL (fs:List Frm):List Nat:=flatCl (fs.map frmM)
theorem frmM_ok {f:Frm} (h:FrmOk f):Bytes (frmM f)/\(frmM f).length=44/\fencR f.k f.r f.s f.i f.l f.d f.p f.a f.t=.tuple #[.string (strB (markL++bodyL (frmM f))),.int .i64 0]:=by
 obtain⟨h',ha⟩:=h
 have h3:fencR f.k f.r f.s f.i f.l f.d f.p f.a f.t=.tuple #[.string (markS++strB (bodyL (frmM f))),.int .i64 0]:=by
  unfold fencR frmM
  rw[if_neg (by simpa using h')]
 rw[mark_cat]at h3
 have hm:Bytes (frmM f)/\(frmM f).length=44:=by
  obtain⟨k,r,s,i,l,d,p,a,t⟩:=f
  have h':frE k r s i l d p t=0:=h'
  have ha':0<=a/\a<4294967296:=ha
  obtain⟨g1,g2,g3,g4,g5,g6,g7,g8⟩:=frE_ok h'
  obtain⟨k,rfl⟩:∃n:Nat,k=n:=⟨k.toNat,by omega⟩
  obtain⟨r,rfl⟩:∃n:Nat,r=n:=⟨r.toNat,by omega⟩
  obtain⟨s,rfl⟩:∃n:Nat,s=n:=⟨s.toNat,by omega⟩
  obtain⟨i,rfl⟩:∃n:Nat,i=n:=⟨i.toNat,by omega⟩
  obtain⟨l,rfl⟩:∃n:Nat,l=n:=⟨l.toNat,by omega⟩
  obtain⟨d,rfl⟩:∃n:Nat,d=n:=⟨d.toNat,by omega⟩
  obtain⟨p,rfl⟩:∃n:Nat,p=n:=⟨p.toNat,by omega⟩
  obtain⟨a,rfl⟩:∃n:Nat,a=n:=⟨a.toNat,by omega⟩
  obtain⟨_,_,_,hb,hl,_,_⟩:=mar_ok h' (by omega:a<4294967296)
  exact⟨hb,hl⟩
 exact⟨hm.1,hm.2,h3⟩
theorem celsL_len (fs:List Frm):(celsL fs).length=852*fs.length:=by rw[celsL,flatC_len,List.length_map]
theorem celsL_snoc (fs:List Frm) (f:Frm):celsL (fs++[f])=celsL fs++(markL++bodyL (frmM f)):=by
 rw[celsL,List.map_append,flatC_app]
 show flatCl _++((markL++bodyL (frmM f))++[])=_
 rw[List.append_nil]
 rfl
theorem celsL_bytes {fs:List Frm} (h:∀f∈fs,FrmOk f):Bytes (celsL fs):=flatC_bytes fun m hm=>by
 obtain⟨f,hf,rfl⟩:=List.mem_map.1 hm
 exact⟨(frmM_ok (h f hf)).1,(frmM_ok (h f hf)).2.1⟩
theorem scjoin_ok (w:World) (v:Value) (fs:List Frm) (hv:SeqAt frmS w v fs) (hl:fs.length<=100) (ha:∀f∈fs,FrmOk f):
  Calls Tryz.prog 48 #[v] w fun e w'=>e=.returned (.tuple #[.string (strB (celsL fs)),.int .i64 0])/\Below w.heap.size w w':=by
 have Hv:=zY hv
 have Ha:=zY ha
 have Hby:=zY (celsL_bytes ha)
 obtain⟨A,c,rfl,h1,h2,h3⟩:=hv
 have HK0:Hid (Bld (w.alloc (.cells #[.pointer none,.slice none 0 0] 135)) w.heap.size w.heap.size (celsL (fs.take 0))):=zY (Bld.new w)
 have HB0:=zY (zBl w (.cells #[.pointer none,.slice none 0 0] 135))
 clear h3 ha
 obtain⟨R,hR⟩:=zNm (strB (celsL fs))
 rw[hR]
 have HR:=zY hR
 clear hR
 go_enter Tryz.func48,Tryz.ntmps48
 go_wp2
 go_loopw [11] (fun x wr=>∃k:Nat,k<=fs.length/\x=.int .i64 (k:Int)/\Bld wr w.heap.size w.heap.size (celsL (fs.take k))/\Below w.heap.size w wr) (fun x _=>fs.length-(intOf x).toNat)
 case atStart=>exact⟨0,by omega,rfl,HK0.out,HB0.out⟩
 case round=>
  obtain⟨k,hk,rfl,hbl,hB⟩:=hrel
  have Hbl:=zY hbl
  have HBr:=zY hB
  clear hbl hB HK0 HB0
  by_cases h:k<fs.length
  {
  have hkI:(k:Int)<fs.length:=by omega
  obtain⟨f,hf⟩:∃f,fs[k]?=some f:=⟨_,List.getElem?_eq_getElem h⟩
  have hok:=Ha.out f (List.mem_of_getElem? hf)
  obtain⟨hm1,hm2,hm3⟩:=frmM_ok hok
  obtain⟨_,_,e9,_,_,h4⟩:=Hv.out.below HBr.out
  cases e9
  obtain⟨b,o,_,rfl,rfl,h5⟩:=h4 k f hf
  have h28:=(frE_ok hok.1).2.2.2.2.2.2.2
  have HE:=zY (fun W=>fenc_any W f.k f.r f.s f.i f.l f.d f.p f.a f.t (by omega) hok.2)
  rw[hm3]at HE
  obtain⟨C,hC⟩:=zNm (strB (markL++bodyL (frmM f)))
  rw[hC]at HE
  have HCb:Hid (bs C=markL++bodyL (frmM f)):=zY (by rw[<-hC,bs_strB (bytes_app (b01_bytes markL_01) (bodyL_bytes hm1 hm2))])
  have hCz:C.size<=1000000:=by rw[<-hC,strB_size,List.length_append,markL_len,bodyL_len];omega
  have HTs:Hid (celsL (fs.take (k+1))=celsL (fs.take k)++bs C):=zY (by rw[List.take_add_one,hf,HCb.out,<-celsL_snoc];rfl)
  clear hm1 hm2 hm3 hok hC HCb h28
  have h5':∀j u,f.cells[j]?=some u->wr.cell? ⟨b,o+k*9+j,none⟩=some u:=h5
  obtain⟨k0,r0,s0,i0,l0,d0,p0,a0,t0⟩:=f
  have c0:=h5' 0 _ rfl
  have c1:=h5' 1 _ rfl
  have c2:=h5' 2 _ rfl
  have c3:=h5' 3 _ rfl
  have c4:=h5' 4 _ rfl
  have c5:=h5' 5 _ rfl
  have c6:=h5' 6 _ rfl
  have c7:=h5' 7 _ rfl
  have c8:=h5' 8 _ rfl
  dsimp only at c0 c1 c2 c3 c4 c5 c6 c7 c8 HE
  clear h4 h5 h5' hf
  rw[Nat.add_zero]at c0
  go_upto_region 5 with fail
  have hA:Below wr.heap.size wr (wr.alloc (.cells #[.int .i64 k0,.int .i64 r0,.int .i64 s0,.int .i64 i0,.int .i64 l0,.int .i64 d0,.int .i64 p0,.int .u32 a0,.string t0] 49)):=(Below.refl _ _).alloc (Nat.le_refl _) _
  have HZ:=zY (Box9.blk (Blk.new wr 49 [.int .i64 k0,.int .i64 r0,.int .i64 s0,.int .i64 i0,.int .i64 l0,.int .i64 d0,.int .i64 p0,.int .u32 a0,.string t0]))
  change Hid (Box9 (wr.alloc (.cells #[.int .i64 k0,.int .i64 r0,.int .i64 s0,.int .i64 i0,.int .i64 l0,.int .i64 d0,.int .i64 p0,.int .u32 a0,.string t0] 49)) _ _ _ _ _ _ _ _ _ _)at HZ
  have Hbl1:=zY (Bld.moved Hbl.out (fun k o hk _=>(hA.block k (Array.getElem?_eq_some_iff.1 hk).1).trans hk))
  have HB1:=zYt HBr hA
  clear hA Hbl HBr c0 c1 c2 c3 c4 c5 c6 c7 c8
  generalize wr.alloc (.cells #[.int .i64 k0,.int .i64 r0,.int .i64 s0,.int .i64 i0,.int .i64 l0,.int .i64 d0,.int .i64 p0,.int .u32 a0,.string t0] 49)=wa at *
  obtain⟨c0,c1,c2,c3,c4,c5,c6,c7,c8⟩:=HZ.out
  unfold frV at HE
  go_upto_region 8 with(go_at_call 96;refine(HE.out _).mono ?_;rintro e w1 ⟨rfl,hb1⟩)
  have HB2:=zYt HB1 hb1
  have hbl2:=Bld.moved Hbl1.out (fun k o hk _=>(hb1.block k (Array.getElem?_eq_some_iff.1 hk).1).trans hk)
  have hln:(celsL (fs.take k)).length<=1000000:=by
   rw[celsL_len,List.length_take]
   omega
  have HW:=zY (ws_any w1 w.heap.size w.heap.size _ C hbl2 hln hCz HB2.out.size)
  clear hb1 HB1 Hbl1 HZ HE hbl2 c0 c1 c2 c3 c4 c5 c6 c7 c8
  go_wp2_with (go_at_call 64;refine HW.out.mono ?_;rintro e w2 ⟨rfl,hbl3,hb2⟩)
  go_roundw
  case rel=>exact⟨k+1,by omega,by go_num,by rw[HTs.out];exact hbl3,HB2.out.trans hb2⟩
  case measure=>simp[intOf];omega}
  {
  obtain rfl:k=fs.length:=by omega
  have hbl:=Hbl.out
  rw[List.take_length]at hbl
  have HS:=zY (str_any wr w.heap.size w.heap.size _ Hby.out hbl HBr.out.size)
  rw[HR.out]at HS
  clear hbl
  go_wp2_with (go_at_call 65;refine HS.out.mono ?_;rintro e w1 ⟨rfl,_,hb1⟩)
  go_ret2
  exact⟨rfl,HBr.out.trans hb1⟩}
def reelsL (id d s n:Int) (x:Ses):List (List Frm):=(List.range (d.toNat+s.toNat)).map fun r=>reelL id d s n r (partsB (strB (dirL x))) (rowsL d.toNat s.toNat x.str) x.str
def framesF (id d s:Int) (L:List Ses) (n:Int):List Frm:=
 if contE d s L n≠0 then [] else match L[(n-1).toNat]? with
  |none=>[]
  |some x=>(reelsL id d s n x).flatten
theorem framesF_err {id d s n:Int} {L:List Ses} (h:contE d s L n≠0):framesF id d s L n=[]:=by rw[framesF,if_pos h]
theorem framesF_ok {id d s n:Int} {L:List Ses} {x:Ses} (h:contE d s L n=0) (hx:L[(n-1).toNat]?=some x):framesF id d s L n=(reelsL id d s n x).flatten:=by rw[framesF,if_neg (by omega),hx]
theorem contE_parts {d s n:Int} {L:List Ses} {x:Ses} (h:contE d s L n=0) (hx:L[(n-1).toNat]?=some x):(partsB (strB (dirL x))).length<=65536:=by
 unfold contE at h
 split at h
 ·omega
 {
 split at h
 ·omega
 {
 rw[hx]at h
 dsimp only at h
 split at h
 ·omega
 ·omega}}
theorem partsB_size (s:ByteArray):∀p∈partsB s,p.size<=28:=by
 intro p hp
 obtain⟨k,_,rfl⟩:=List.mem_map.1 hp
 rw[partB,ByteArray.size_extract]
 omega
theorem rowsL_mem {d s:Nat} {st:ByteArray} {x:List ByteArray} (h:x∈rowsL d s st):x.length=d+s:=by
 obtain⟨y,hy,rfl⟩:=List.mem_map.1 h
 obtain⟨k,_,rfl⟩:=List.mem_map.1 hy
 rw[List.length_append,datL_len]
 simp[sparL]
theorem rowsL_len {d s:Nat} {st:ByteArray} (hd:1<=d) (hs:st.size<=1835008):(rowsL d s st).length<=65537:=by
 rw[rowsL,List.length_map,stripL,List.length_map,List.length_range]
 unfold strN
 apply Nat.le_of_lt_succ
 rw[Nat.div_lt_iff_lt_mul (by omega)]
 have:28*1<=28*d:=by omega
 have:=Nat.mul_le_mul_left (65537+1) this
 omega
theorem reelL_len {id d s n:Int} {r:Nat} {P:List ByteArray} {S:List (List ByteArray)} {st:ByteArray}:(reelL id d s n r P S st).length=P.length+S.length:=by
 rw[reelL,List.length_append]
 simp[partsF,stripsF]
theorem frames_any (w:World) (id d s:Int) (v:Value) (L:List Ses) (n:Int) (hv:SeqAt sesS w v L) (hl:L.length<=1000) (hL:SesAll L) (hT:Tab w):Calls Tryz.prog 13 #[.agg #[.int .u32 id,.int .i64 d,.int .i64 s,v],.int .i64 n] w fun e w'=>(∃vf,e=.returned (.tuple #[vf,.int .i64 (contE d s L n)])/\OwnSeq frmS 49 w w' vf (framesF id d s L n))/\Below w.heap.size w w':=by
 have Hv:=zY hv
 have HL:=zY hL
 have HCo:=zY (fun W (hW:Below w.heap.size w W)=>contents_any W id d s v L n (hv.below hW) hl hL (hT.below hW))
 obtain⟨A,c,rfl,_,_⟩:=hv.slice
 have hK:=Blk.new w 28 [.int .u32 id,.int .i64 d,.int .i64 s,.slice A L.length c]
 have HK:Hid (Blk (w.alloc (.cells #[.int .u32 id,.int .i64 d,.int .i64 s,.slice A L.length c] 28)) w.heap.size 28 [.int .u32 id,.int .i64 d,.int .i64 s,.slice A L.length c]):=zY hK
 have HB0:=zY (zBl w (.cells #[.int .u32 id,.int .i64 d,.int .i64 s,.slice A L.length c] 28))
 obtain⟨k,hk⟩:=zNm (contE d s L n)
 rw[hk]
 have Hk:=zY hk
 clear hv hL hT hK hk
 go_enter Tryz.func13,Tryz.ntmps13
 go_upto_region 1 with fail
 generalize w.alloc (.cells #[.int .u32 id,.int .i64 d,.int .i64 s,.slice A L.length c] 28)=wa at *
 have c0:=HK.out.c 0
 have c1:=HK.out.c 1
 have c2:=HK.out.c 2
 have c3:=HK.out.c 3
 go_wp2_with fail
 refine(HCo.out _ HB0.out).mono ?_
 rintro e1 w1 ⟨⟨vp,vs,st,P,S,rfl,hpo,hso,hok⟩,hb1⟩
 have hp:=hpo.atF flatS hb1.size
 have hs:=hso.at hb1.size
 clear hpo hso
 obtain⟨Ap,cp,rfl,_,_⟩:=hp.slice
 obtain⟨As,cs,rfl,_,_⟩:=hs.slice
 have HP:=zY hp
 have HS:=zY hs
 have Hok:=zY hok
 have HK1:=zY (HK.out.kept hb1)
 have HB1:=zYt HB0 hb1
 clear hb1 hp hs hok c0 c1 c2 c3 HK HB0 HCo
 have hk:=Hk.out
 rw[hk]at Hok⊢
 have HC0:=zY (Blk.new w1 98 [.slice Ap P.length cp,.slice As S.length cs,.string st])
 have HC:Hid (Blk (w1.alloc (.cells #[.slice Ap P.length cp,.slice As S.length cs,.string st] 98)) w1.heap.size 98 [.slice Ap P.length cp,.slice As S.length cs,.string st]):=zY HC0.out
 have HK2:=zY (HK1.out.alloc (.cells #[.slice Ap P.length cp,.slice As S.length cs,.string st] 98))
 have HB2:=zY (HB1.out.alloc HB1.out.size (.cells #[.slice Ap P.length cp,.slice As S.length cs,.string st] 98))
 have HBw:=zY (zBl w1 (.cells #[.slice Ap P.length cp,.slice As S.length cs,.string st] 98))
 have HPb:=zY (HP.out.below HBw.out)
 have HSb:=zY (HS.out.below HBw.out)
 clear HC0 HK1 HB1 HP HS
 by_cases h0:k=0
 {
 subst h0
 obtain⟨x,hn1,hn2,hd1,hd2,hs1,hs2,hx,rfl,rfl,rfl⟩:=Hok.out rfl
 have hF:framesF id d s L n=(reelsL id d s n x).flatten:=framesF_ok hk hx
 have HF:=zY hF
 have hPl:=contE_parts hk hx
 have hPz:=partsB_size (strB (dirL x))
 have hst:=(HL.out _ _ hx).2.2
 have hSl:(rowsL d.toNat s.toNat x.str).length<=65537:=rowsL_len (by omega) hst
 have hSm:∀y∈rowsL d.toNat s.toNat x.str,y.length=d.toNat+s.toNat:=fun y hy=>rowsL_mem hy
 obtain⟨RL,hRL⟩:∃RL,RL=reelsL id d s n x:=⟨_,rfl⟩
 have HRl:Hid (RL.length=d.toNat+s.toNat):=zY (by rw[hRL];simp[reelsL])
 have HRg:Hid (∀i,i<d.toNat+s.toNat->RL[i]?=some (reelL id d s n i (partsB (strB (dirL x))) (rowsL d.toNat s.toNat x.str) x.str)):=zY (fun i hi=>by rw[hRL,reelsL,List.getElem?_map,List.getElem?_range hi];rfl)
 have HRz:Hid (∀y∈RL,y.length<=131073):=zY (by
  rw[hRL]
  intro y hy
  obtain⟨r,_,rfl⟩:=List.mem_map.1 hy
  rw[reelL_len]
  omega)
 rw[<-hRL]at HF
 have Hx:=zY hx
 generalize partsB (strB (dirL x))=P at *
 generalize rowsL d.toNat s.toNat x.str=S at *
 generalize x.str=st at *
 have HPz:=zY hPz
 have HSm:=zY hSm
 have hone:(Value.slice A L.length c).oneCell'=true:=rfl
 obtain⟨wb,hwb⟩:∃wb,wb=w1.alloc (.cells #[.slice Ap P.length cp,.slice As S.length cs,.string st] 98):=⟨_,rfl⟩
 rw[<-hwb]at HC HK2 HB2 HPb HSb
 have HOn:Hid (∀(V:World) (r:Nat),Below wb.heap.size wb V->r<d.toNat+s.toNat->Calls Tryz.prog 39 #[.agg #[.int .u32 id,.int .i64 d,.int .i64 s,.slice A L.length c],.int .i64 n,.int .i64 (r:Int),.agg #[.slice Ap P.length cp,.slice As S.length cs,.string st]] V fun e w'=>RetSeq frmS 49 V w' (reelL id d s n r P S st) e/\Below V.heap.size V w'):=zY (fun V r hV hr=>onreel_any V id d s n r _ _ _ st P S hone (HPb.out.below hV) (HSb.out.below hV) hPl HPz.out hSl (fun y hy=>by rw[HSm.out y hy];exact hr) ⟨hd1,hd2⟩ (by omega) (by omega))
 have c1:=HK2.out.c 1
 have c2:=HK2.out.c 2
 have hdsI:d+s=((d.toNat+s.toNat:Nat):Int):=by omega
 obtain⟨N,hN⟩:=zNm (d.toNat+s.toNat)
 rw[hN]at hdsI HRl HRg HOn
 have hN15:N<=15:=by omega
 have hdsw:IntKind.i64.wrap (d+s)=N:=by rw[hdsI];exact zIw (by omega)
 clear hF hRL hx hPl hPz hst hSl hSm hone hk Hok hN
 go_upto_region 4 with fail
 rw[<-hwb]
 clear hwb HBw
 go_wp2
 go_loopw [8,26] (fun y x wr=>∃i:Nat,i<=N/\x=.int .i64 (i:Int)/\OwnSeq frmS 49 wb wr y (RL.take i).flatten/\Below wb.heap.size wb wr) (fun _ x _=>N-(intOf x).toNat)
 case atStart=>exact⟨0,by omega,rfl,OwnSeq.nil _,Below.refl _ _⟩
 case round=>
  obtain⟨i,hi,rfl,ho,hB⟩:=hrel
  have HO:=zY ho
  have HB:=zY hB
  clear c1 c2
  by_cases h:i<N
  {
  obtain⟨Ao,co,rfl⟩:=ho.slice
  clear ho hB
  have hiI:(i:Int)<N:=by omega
  have hx:=HRg.out i h
  obtain⟨F,hF⟩:=zNm (reelL id d s n i P S st)
  rw[hF]at hx
  have HT:Hid ((RL.take (i+1)).flatten=(RL.take i).flatten++F):=zY (by rw[List.take_add_one,hx,List.flatten_append];simp)
  have hzz:∀(l:List (List Frm)),(∀y∈l,y.length<=131073)->l.flatten.length<=l.length*131073:=by
   intro l
   induction l with
   |nil=>intro _;simp
   |cons y r ih=>
    intro h
    have h1:=ih fun z hz=>h z (List.mem_cons_of_mem _ hz)
    have h2:=h y List.mem_cons_self
    rw[List.flatten_cons,List.length_append,List.length_cons,Nat.add_mul]
    omega
  have hz1:=hzz (RL.take i) fun y hy=>HRz.out y (List.mem_of_mem_take hy)
  have hz2:=HRz.out F (List.mem_of_getElem? hx)
  rw[List.length_take]at hz1
  have Hl1:Hid ((RL.take i).flatten.length+F.length<=100000000):=zY (by
   have:min i RL.length*131073<=15*131073:=Nat.mul_le_mul (by omega) (Nat.le_refl _)
   omega)
  have HCl:=zY (HOn.out wr i HB.out h)
  rw[hF]at HCl
  have HKr:=HK2.out.kept HB.out
  have HCr:=HC.out.kept HB.out
  have a0:=HKr.c 0
  have a1:=HKr.c 1
  have a2:=HKr.c 2
  have a3:=HKr.c 3
  have k0:=HCr.c 0
  have k1:=HCr.c 1
  have k2:=HCr.c 2
  generalize hno:(RL.take i).flatten.length=no at *
  have Hno:=zY hno
  have Hl1:Hid ((RL.take i).flatten.length+F.length<=100000000):=zY (by rw[hno];exact Hl1.out)
  clear hno hzz hz1 hz2 hx hF HKr HCr
  go_wp2_with fail
  refine HCl.out.mono ?_
  rintro e5 w5 ⟨⟨vf,rfl,hf⟩,hb5⟩
  have HB5:=zYt HB hb5
  have HO5:=zY (HO.out.stay (W':=w5) fun k o _ ho _=>(hb5.block k (Array.getElem?_eq_some_iff.1 ho).1).trans ho)
  have HSr:Hid (SrcAt frmS wb w5 vf F):=zY (SrcAt.flat flatFrm (hf.at hb5))
  clear hf hb5 a0 a1 a2 a3 k0 k1 k2 HCl
  go_wp2_with (at_builtin;refine append_seq (w0:=wb) Tryz.elemFrm rfl _ _ rfl rfl HO5.out rfl HSr.out Hl1.out HB5.out ?_;intro vb w6 hob _ hbb;have KV:=zY hob;have KC:=zY hbb;clear hob hbb)
  go_roundw
  case rel=>exact⟨i+1,by omega,by go_num,by rw[HT.out];exact KV.out,KC.out⟩
  case measure=>simp[intOf];omega}
  {
  obtain rfl:i=N:=by omega
  have hiI:¬((i:Nat):Int)<(i:Int):=by omega
  have hall:(RL.take i).flatten=framesF id d s L n:=by rw[HF.out,List.take_of_length_le (by rw[HRl.out];exact Nat.le_refl _)]
  rw[hall]at HO
  clear hall ho hB
  go_wp2
  go_ret2
  exact⟨⟨_,rfl,HO.out.low flatFrm HB2.out.size⟩,HB2.out.trans (HB.out.mono HB2.out.size)⟩}}
 {
 have h0b:(k==0)=false:=by rw[beq_eq_false_iff_ne];exact h0
 have HF:=zY (framesF_err (id:=id) (by rw[hk];exact h0:contE d s L n≠0))
 clear hk Hok
 go_wp2
 go_ret2
 exact⟨⟨_,rfl,by rw[HF.out];exact OwnSeq.nil _⟩,HB2.out⟩}
end
end Go.Proofs.YthgenkkkapilhaaGreatDoor
namespace Go.Proofs
section
open Go.Shelf
def Tryz.lays137_ren:Go.Shelf.Ren:=⟨fun|137=>276|217=>326|266=>370|n=>n,fun|9=>9|5=>5|3=>3|n=>n,fun|n=>n⟩
theorem Tryz.lays137:Go.Proofs.Lays.n137 Tryz.prog Tryz.lays137_ren:={
  mixed:=by kernel_rfl
  f137:=Tryz.func276.trans (congrArg some (by kernel_rfl))
  f217:=Tryz.func326.trans (congrArg some (by kernel_rfl))
  f266:=Tryz.func370.trans (congrArg some (by kernel_rfl))
  t3:=Tryz.underlying3
  a3:=Tryz.isAgg3
  z3:=Tryz.sizeOf3
  v3:=Tryz.zeroValue3
  t5:=Tryz.underlying5
  a5:=Tryz.isAgg5
  z5:=Tryz.sizeOf5
  v5:=Tryz.zeroValue5
  t9:=Tryz.underlying9
  a9:=Tryz.isAgg9
  z9:=Tryz.sizeOf9
  v9:=Tryz.zeroValue9 }
open Go.RowKit in
theorem Tryz.strings_IndexByte (s:ByteArray) (c:Int) (w:World):
    Calls Tryz.prog 276 #[.string s,.int .u8 c] w fun e w'=>e=.returned (.int .i64 (Lib.indexByte s.data.toList c.toNat.toUInt8))/\w'=w:=Any.strings_IndexByte Tryz.lays137 s c w
def Tryz.lays101_ren:Go.Shelf.Ren:=⟨fun|101=>281|208=>327|206=>66|n=>n,fun|9=>9|4=>4|3=>3|n=>n,fun|n=>n⟩
theorem Tryz.lays101:Go.Proofs.Lays.n101 Tryz.prog Tryz.lays101_ren:={
  mixed:=by kernel_rfl
  f101:=Tryz.func281.trans (congrArg some (by kernel_rfl))
  f206:=Tryz.func66.trans (congrArg some (by kernel_rfl))
  f208:=Tryz.func327.trans (congrArg some (by kernel_rfl))
  t3:=Tryz.underlying3
  a3:=Tryz.isAgg3
  z3:=Tryz.sizeOf3
  v3:=Tryz.zeroValue3
  t4:=Tryz.underlying4
  a4:=Tryz.isAgg4
  z4:=Tryz.sizeOf4
  v4:=Tryz.zeroValue4
  t9:=Tryz.underlying9
  a9:=Tryz.isAgg9
  z9:=Tryz.sizeOf9
  v9:=Tryz.zeroValue9 }
open Go.RowKit Go.Lib in
theorem Tryz.strings_TrimPrefix (s p:ByteArray) (w:World):
    Calls Tryz.prog 281 #[.string s,.string p] w fun e w'=>e=.returned (.string ⟨(Lib.trimPrefix s.data.toList p.data.toList).toArray⟩)/\w'=w:=Any.strings_TrimPrefix Tryz.lays101 s p w
end
end Go.Proofs
namespace Go.Proofs.YthgenkkkapilhaaGreatDoor
section
open Go.RowKit
theorem valD_digD (n:Nat):valD (digD n)=n:=by
 induction n using Nat.strongRecOn with
 |_ n ih=>
  by_cases h:n<10
  {
  rw[digD_small h]
  simp[valD]}
  {
  rw[digD_great h,digD_small (show n%10<10 by omega)]
  have e:=ih (n/10) (by omega)
  unfold valD at e⊢
  rw[List.foldl_append,e]
  simp
  omega}
theorem digD_ne (n:Nat):digD n≠[]:=by
 by_cases h:n<10
 ·rw[digD_small h];simp
 ·rw[digD_great h,digD_small (show n%10<10 by omega)];simp
theorem digD_head (n:Nat):0<n->cf (digD n) 0≠48:=by
 induction n using Nat.strongRecOn with
 |_ n ih=>
  intro h0
  by_cases h:n<10
  {
  rw[digD_small h]
  show 48+n≠48
  omega}
  {
  rw[digD_great h]
  have h1:=ih (n/10) (by omega) (by omega)
  have h2:0<(digD (n/10)).length:=List.length_pos_iff.2 (digD_ne _)
  rwa [cf,List.getElem?_append_left h2]}
theorem idxB_nat {c:Nat} (hc:c<256):∀{L:List UInt8} {p r:List Nat},natL L=p++c::r->(∀b∈p,b≠c)->Lib.indexByte L c.toUInt8=(p.length:Int)
 |[],p,r,h,_=>by
  cases p<;>simp[natL]at h
 |b::t,[],r,h,_=>by
  have h1:b.toNat=c:=by
   have:=congrArg List.head? h
   simpa [natL]using this
  have h2:b=c.toUInt8:=UInt8.toNat_inj.1 (by rw[h1];simp;omega)
  unfold Lib.indexByte
  rw[h2,if_pos (by simp)]
  rfl
 |b::t,x::p,r,h,hp=>by
  have h1:b.toNat=x/\natL t=p++c::r:=by
   have h':b.toNat::natL t=x::(p++c::r):=h
   injection h' with h1 h2
   exact⟨h1,h2⟩
  have hx:=hp x List.mem_cons_self
  have hne:(b==c.toUInt8)=false:=by
   rw[beq_eq_false_iff_ne]
   intro e
   apply hx
   rw[<-h1.1,e]
   simp
   omega
  have ih:=idxB_nat hc h1.2 (fun y hy=>hp y (List.mem_cons_of_mem _ hy))
  unfold Lib.indexByte
  rw[hne,ih,if_neg (by simp),if_neg (by rw[beq_iff_eq];omega)]
  simp
theorem drop_extract {s:ByteArray} {a:Nat} (_:a<=s.size):natL (s.extract a s.size).data.toList=(bs s).drop a:=by
 have h1:=bs_extract s a s.size
 rw[List.take_of_length_le (by rw[bs_len];exact Nat.le_refl _)]at h1
 exact h1
theorem drop_size {s:ByteArray} {a:Nat} {p:List Nat} (h:(bs s).drop a=p) (h0:0<p.length):s.size=a+p.length:=by
 have h1:=congrArg List.length h
 rw[List.length_drop,bs_len]at h1
 omega
theorem bs_cut {s:ByteArray} {a:Nat} {p q:List Nat} (h:(bs s).drop a=p++q):bs (s.extract a (a+p.length))=p:=by
 rw[bs_extract,<-List.take_drop,h,List.take_left]
theorem nuntil_ok (w:World) (s:ByteArray) (a:Nat) (p r:List Nat) (c:Nat) (hc:c<256) (h:(bs s).drop a=p++c::r) (hp:∀b∈p,b≠c) (hs:s.size<=1000000000):
  Calls Tryz.prog 207 #[.string s,.int .i64 (a:Int),.int .u8 (c:Int)] w fun e w'=>e=.returned (.tuple #[.string (s.extract a (a+p.length)),.int .i64 ((a+p.length+1:Nat):Int),.int .i64 0])/\w'=w:=by
 have hz:=drop_size h (by rw[List.length_append,List.length_cons];omega)
 rw[List.length_append,List.length_cons]at hz
 have hI:=idxB_nat hc ((drop_extract (s:=s) (a:=a) (by omega)).trans h) hp
 have HI:=zY (fun W=>Tryz.strings_IndexByte (s.extract a s.size) (c:Int) W)
 rw[Int.toNat_natCast,hI]at HI
 obtain⟨n,hn⟩:=zNm (p.length)
 rw[hn]at HI hz⊢
 obtain⟨q,hq⟩:=zNm (a+n)
 have i0:¬(a:Int)<0:=by omega
 have i1:¬((s.size:Nat):Int)<(a:Int):=by omega
 have i2:¬(n:Int)<0:=by omega
 have haz:a<=s.size:=by omega
 have hazI:(a:Int)<=(s.size:Int):=by omega
 have hw1:IntKind.i64.wrap ((a:Int)+(n:Int))=(q:Int):=by rw[zIw (by omega)];omega
 have hw2:IntKind.i64.wrap ((q:Int)+1)=((q+1:Nat):Int):=by rw[zIw (by omega)];omega
 have ha2:(a:Int)+(n:Int)=(q:Int):=by omega
 have haq:a<=q:=by omega
 have hqz:q<=s.size:=by omega
 have haqI:(a:Int)<=(q:Int):=by omega
 have hqzI:(q:Int)<=(s.size:Int):=by omega
 rw[hq]
 clear hI h hp hn hz hq
 go_enter Tryz.func207,Tryz.ntmps207
 go_wp2_with fail
 refine(HI.out w).mono ?_
 rintro e1 w1 ⟨rfl,rfl⟩
 go_wp2
 go_ret3
 exact⟨by first|rfl|simp,rfl⟩
theorem ndecimal_ok (w:World) (n:Nat) (hn:n<18446744073709551616):Calls Tryz.prog 208 #[.string (strB (digD n))] w fun e w'=>e=.returned (.bool true)/\Below w.heap.size w w':=by
 have hl:=digD_len20 hn
 have hb:∀b∈digD n,b<256:=fun b hb=>by have:=digD_bytes n b hb;omega
 obtain⟨s,hs⟩:=zNm (strB (digD n))
 have hbs:bs s=digD n:=by rw[<-hs,bs_strB hb]
 have hz:s.size=(digD n).length:=by rw[<-bs_len,hbs]
 have h0:0<s.size:=by rw[hz];exact List.length_pos_iff.2 (digD_ne n)
 have hP:(⟨(Lib.trimPrefix s.data.toList [45]).toArray⟩:ByteArray)=s:=by
  have hh:Lib.hasPrefix s.data.toList [45]=false:=by
   cases e:Lib.hasPrefix s.data.toList [45]with
   |false=>rfl
   |true=>
    exfalso
    have h1:[45] <+: s.data.toList:=by
     unfold Lib.hasPrefix at e
     simpa using e
    obtain⟨t,ht⟩:=h1
    have h2:(45:UInt8)∈s.data.toList:=by rw[<-ht];simp
    have h3:(45:Nat)∈bs s:=mem_bs.2 ⟨45,h2,rfl⟩
    rw[hbs]at h3
    have:=digD_bytes n 45 h3
    omega
  rw[Lib.trimPrefix,hh]
  rfl
 have HP:=zY (Tryz.strings_TrimPrefix s ⟨#[45]⟩ w)
 rw[show ((⟨#[45]⟩:ByteArray).data.toList)=[45] from rfl,hP]at HP
 have HT:=zY (trim_any w s ⟨#[48,49,50,51,52,53,54,55,56,57]⟩ (by omega) (by decide) (by decide))
 have ha:allIn (bs ⟨#[48,49,50,51,52,53,54,55,56,57]⟩) (bs s)=true:=by
  rw[hbs,allIn,List.all_eq_true]
  intro b hb'
  have h1:=digD_bytes n b hb'
  have h2:b=48∨b=49∨b=50∨b=51∨b=52∨b=53∨b=54∨b=55∨b=56∨b=57:=by omega
  rcases h2 with rfl|rfl|rfl|rfl|rfl|rfl|rfl|rfl|rfl|rfl<;>decide
 rw[ha]at HT
 have hem:s.toList.isEmpty=false:=isEmptyV (by omega)
 have hI:(0:Int)<(s.size:Int):=by omega
 obtain⟨b,hb0⟩:=zNm ((s[0]'h0).toNat)
 have hbI:(((s[0]'h0).toNat:Nat):Int)=(b:Int):=by rw[hb0]
 have hb2:cf (digD n) 0=b:=by
  rw[<-hbs,cf_get (bs_get s 0 h0),<-hb0]
  try rfl
 have hlast:((b:Int) != 48)=true∨s.toList=[48]:=by
  by_cases e:n=0
  {
  right
  subst e
  rw[toListV,<-hs,digD_small (by decide)]
  rfl}
  {
  left
  have:=digD_head n (by omega)
  rw[hb2]at this
  rw[bne_iff_ne]
  omega}
 rw[hs]
 clear hb0 hb2 ha hP hbs hs hz hb hl
 go_enter Tryz.func208,Tryz.ntmps208
 go_wp2_with fail
 refine HP.out.mono ?_
 rintro e1 w1 ⟨rfl,rfl⟩
 go_wp2_with fail
 refine HT.out.mono ?_
 rintro e2 w2 ⟨t,rfl,ht,hb2⟩
 have HB2:=zY hb2
 have ht1:t.toList=[]:=List.isEmpty_iff.1 ht
 clear hb2 HP HT
 rcases hlast with h1|h1
 {
 go_wp2
 go_ret
 first|exact⟨rfl,HB2.out⟩|exact⟨ret_bool' (by simp),HB2.out⟩}
 {
 by_cases h2:((b:Int) != 48)=true
 {
 go_wp2
 go_ret
 first|exact⟨rfl,HB2.out⟩|exact⟨ret_bool' (by simp),HB2.out⟩}
 {
 have h2:((b:Int) != 48)=false:=by simpa using h2
 go_wp2
 go_ret
 first|exact⟨rfl,HB2.out⟩|exact⟨ret_bool' (by simp[h1]),HB2.out⟩
}}
theorem atoi_digD (w:World) (n:Nat) (hn:(digD n).length<=18):Calls Tryz.prog 209 #[.string (strB (digD n))] w fun e w'=>e=.returned (.tuple #[.int .i64 (n:Int),.nilIface])/\Below w.heap.size w w':=by
 have hb:∀b∈digD n,b<256:=fun b hb=>by have:=digD_bytes n b hb;omega
 have hbs:natL (strB (digD n)).data.toList=digD n:=bs_strB hb
 have h2:=atoi_val (l:=(strB (digD n)).data.toList) (by rw[hbs];exact digD_ne n) (by
  rw[hbs,List.all_eq_true]
  intro b hb
  have:=digD_bytes n b hb
  exact decide_eq_true (by omega))
 rw[hbs,valD_digD]at h2
 refine(Tryz.strconv_Atoi _ _ (by rw[strB_size];exact hn) h2 w).mono ?_
 rintro e w' ⟨rfl,t,rfl⟩
 exact⟨rfl,below_bytes _ _ _⟩
theorem digD_18 {n:Nat} (h:n<=2147483647):(digD n).length<=18:=digD_len 17 n (by omega)
theorem digD_no (n:Nat) {c:Nat} (hc:c<48∨58<=c):∀b∈digD n,b≠c:=fun b hb=>by
 have:=digD_bytes n b hb
 omega
theorem nrdnum_ok (w:World) (s:ByteArray) (a n:Nat) (r:List Nat) (h:(bs s).drop a=numL n++r) (hn:n<=2147483647) (hs:s.size<=1000000000):
  Calls Tryz.prog 140 #[.string s,.int .i64 (a:Int)] w fun e w'=>e=.returned (.tuple #[.int .i64 (n:Int),.int .i64 ((a+(numL n).length:Nat):Int),.int .i64 0])/\Below w.heap.size w w':=by
 have h':(bs s).drop a=digD n++32::r:=by rw[h,numL,List.append_assoc];rfl
 have HU:=zY (nuntil_ok w s a (digD n) r 32 (by decide) h' (digD_no n (by omega)) hs)
 have hx:s.extract a (a+(digD n).length)=strB (digD n):=by rw[<-strB_bs (s.extract _ _),bs_cut h']
 have hl:(numL n).length=(digD n).length+1:=by rw[numL,List.length_append];rfl
 rw[hx]at HU
 have HD:=zY (fun W=>ndecimal_ok W n (by omega))
 have HA:=zY (fun W=>atoi_digD W n (digD_18 hn))
 have i1:¬(n:Int)< -2147483648:=by omega
 have i2:¬(2147483647:Int)<(n:Int):=by omega
 obtain⟨D,hD⟩:=zNm (strB (digD n))
 rw[hD]at HU HD HA
 obtain⟨q,hq⟩:=zNm (a+(digD n).length+1)
 rw[hq]at HU
 rw[hl,show a+((digD n).length+1)=q by omega]
 clear h h' hx hl hD hq
 go_enter Tryz.func140,Tryz.ntmps140
 go_wp2_with fail
 refine HU.out.mono ?_
 rintro e1 w1 ⟨rfl,rfl⟩
 go_wp2_with fail
 refine(HD.out _).mono ?_
 rintro e2 w2 ⟨rfl,hb2⟩
 have HB2:=zY hb2
 clear hb2
 go_wp2_with fail
 refine(HA.out _).mono ?_
 rintro e3 w3 ⟨rfl,hb3⟩
 have HB3:=zYt HB2 hb3
 clear hb3
 go_wp2
 go_ret3
 exact⟨rfl,HB3.out⟩
theorem nrdstr_ok (w:World) (s x:ByteArray) (a:Nat) (r:List Nat) (h:(bs s).drop a=nstL (bs x)++r) (hx:x.size<=100000000) (hs:s.size<=1000000000):
  Calls Tryz.prog 210 #[.string s,.int .i64 (a:Int)] w fun e w'=>e=.returned (.tuple #[.string x,.int .i64 ((a+(nstL (bs x)).length:Nat):Int),.int .i64 0])/\Below w.heap.size w w':=by
 have h':(bs s).drop a=digD x.size++58::(bs x++44::r):=by rw[h,nstL,bs_len];simp
 have HU:=zY (nuntil_ok w s a (digD x.size) _ 58 (by decide) h' (digD_no _ (by omega)) hs)
 have hex:s.extract a (a+(digD x.size).length)=strB (digD x.size):=by rw[<-strB_bs (s.extract _ _),bs_cut h']
 have hl:(nstL (bs x)).length=(digD x.size).length+1+x.size+1:=by
  rw[nstL,bs_len]
  simp only[List.length_append,bs_len,List.length_cons,List.length_nil]
 rw[hex]at HU
 have HD:=zY (fun W=>ndecimal_ok W x.size (by omega))
 have HA:=zY (fun W=>atoi_digD W x.size (digD_18 (by omega)))
 have hb:∀b∈digD x.size,b<256:=fun b hb=>by have:=digD_bytes _ b hb;omega
 have hlt:=digD_18 (n:=x.size) (by omega)
 have hp:0<(digD x.size).length:=List.length_pos_iff.2 (digD_ne _)
 obtain⟨D,hD⟩:=zNm (strB (digD x.size))
 have hDz:D.size=(digD x.size).length:=by rw[<-hD,strB_size]
 have hD0:0<D.size:=by omega
 have hDI:(0:Int)<(D.size:Int):=by omega
 obtain⟨d,hd⟩:=zNm ((D[0]'hD0).toNat)
 have hdI:(((D[0]'hD0).toNat:Nat):Int)=(d:Int):=by rw[hd]
 have hd45:((d:Int)==45)=false:=by
  rw[beq_eq_false_iff_ne]
  have h1:=List.mem_of_getElem? (bs_get D 0 hD0)
  rw[hd,<-hD,bs_strB hb]at h1
  have:=digD_bytes _ d h1
  omega
 have hsz:=drop_size h' (by simp;omega)
 simp only[List.length_append,List.length_cons,bs_len]at hsz
 obtain⟨n,hn⟩:=zNm (x.size)
 obtain⟨b0,hb0⟩:=zNm (a+(digD x.size).length+1)
 have hcut:(bs s).drop b0=bs x++44::r:=by
  rw[<-hb0,Nat.add_assoc,<-List.drop_drop,h',show digD x.size++58::(bs x++44::r)=(digD x.size++[58])++(bs x++44::r) by simp]
  rw[List.drop_left' (by simp)]
 have hxx:s.extract b0 (b0+n)=x:=by
  have:=bs_cut hcut
  rw[bs_len,hn]at this
  rw[<-strB_bs (s.extract _ _),this,strB_bs]
 obtain⟨q,hq⟩:=zNm (b0+n)
 have hqs:q<s.size:=by omega
 obtain⟨c,hc⟩:=zNm ((s[q]'hqs).toNat)
 have hcI:(((s[q]'hqs).toNat:Nat):Int)=(c:Int):=by rw[hc]
 have hc44:((c:Int) != 44)=false:=by
  have h1:=bs_get s q hqs
  have h2:(bs s)[q]?=some 44:=by
   have h3:((bs s).drop b0)[n]?=some 44:=by
    rw[hcut,List.getElem?_append_right (by rw[bs_len];omega),bs_len,hn,Nat.sub_self]
    rfl
   rwa [List.getElem?_drop,hq]at h3
  rw[h2]at h1
  have h3:44=c:=by rw[<-hc];exact Option.some.inj h1
  rw[<-h3]
  rfl
 rw[hD]at HU HD HA
 rw[hb0]at HU
 rw[hn]at HA
 rw[hl,show a+((digD x.size).length+1+x.size+1)=q+1 by omega]
 rw[hq]at hxx
 have i1:¬(s.size:Int)-(b0:Int)<=(n:Int):=by omega
 have hw1:IntKind.i64.wrap ((s.size:Int)-(b0:Int))=(s.size:Int)-(b0:Int):=zIw (by omega)
 have hw2:IntKind.i64.wrap ((b0:Int)+(n:Int))=(q:Int):=by rw[zIw (by omega)];omega
 have hw3:IntKind.i64.wrap ((q:Int)+1)=((q+1:Nat):Int):=by rw[zIw (by omega)];omega
 have hw4:(b0:Int)+(n:Int)=(q:Int):=by omega
 have hqI:(q:Int)<(s.size:Int):=by omega
 have hbq:b0<=q:=by omega
 have hqz:q<=s.size:=by omega
 have hbqI:(b0:Int)<=(q:Int):=by omega
 have hqzI:(q:Int)<=(s.size:Int):=by omega
 clear h h' hex hl hD hq hb0 hd hc hcut hsz hn hb hlt hp hDz
 go_enter Tryz.func210,Tryz.ntmps210
 go_wp2_with fail
 refine HU.out.mono ?_
 rintro e1 w1 ⟨rfl,rfl⟩
 go_wp2_with fail
 refine(HD.out _).mono ?_
 rintro e2 w2 ⟨rfl,hb2⟩
 have HB2:=zY hb2
 clear hb2
 go_wp2_with fail
 refine(HA.out _).mono ?_
 rintro e3 w3 ⟨rfl,hb3⟩
 have HB3:=zYt HB2 hb3
 clear hb3
 go_wp2
 go_ret3
 exact⟨by first|rfl|(rw[hxx];rfl),HB3.out⟩
theorem nstsL_drop {l:List ByteArray} {i:Nat} {x:ByteArray} (h:l[i]?=some x):(nstsL l).drop (nstsL (l.take i)).length=nstL (bs x)++nstsL (l.drop (i+1)):=by
 have hi:=List.getElem?_eq_some_iff.1 h
 have e:l=l.take i++x::l.drop (i+1):=by
  rw[<-hi.2,<-List.drop_eq_getElem_cons hi.1,List.take_append_drop]
 have e2:nstsL l=nstsL (l.take i)++(nstL (bs x)++nstsL (l.drop (i+1))):=by
  conv=>lhs;rw[e]
  simp[nstsL]
 rw[e2,List.drop_left]
theorem nrdstrs_ok (w:World) (s:ByteArray) (l:List ByteArray) (h:bs s=nstsL l) (hl:l.length<=1000) (hx:∀x∈l,x.size<=100000) (hs:s.size<=1000000000):
  Calls Tryz.prog 141 #[.string s] w fun e w'=>(∃v,e=.returned (.tuple #[v,.int .i64 0])/\OwnSeq strS 9 w w' v l)/\Below w.heap.size w w':=by
 have HR:=zY (fun(W:World) (i:Nat) (x:ByteArray) (hi:l[i]?=some x)=>nrdstr_ok W s x (nstsL (l.take i)).length _ (by rw[h];exact nstsL_drop hi) (by have:=hx x (List.mem_of_getElem? hi);omega) hs)
 have HT:=zY (fun(i:Nat) (x:ByteArray) (hi:l[i]?=some x)=>nstsL_take hi)
 have HZ:Hid (∀i x,l[i]?=some x->(nstsL (l.take i)).length<s.size):=zY (fun i x hi=>by
  have h1:=congrArg List.length (nstsL_drop hi)
  rw[List.length_drop,<-h,bs_len,List.length_append]at h1
  have h2:0<(nstL (bs x)).length:=by rw[nstL];simp only[List.length_append,List.length_cons];omega
  omega)
 have HE:Hid ((nstsL (l.take l.length)).length=s.size):=zY (by rw[List.take_length,<-h,bs_len])
 clear h hx
 go_enter Tryz.func141,Tryz.ntmps141
 go_wp2
 go_loopw [4,5] (fun y t wr=>∃i:Nat,i<=l.length/\t=.int .i64 ((nstsL (l.take i)).length:Int)/\OwnSeq strS 9 w wr y (l.take i)/\Below w.heap.size w wr) (fun _ t _=>s.size-(intOf t).toNat)
 case atStart=>exact⟨0,by omega,rfl,OwnSeq.nil _,Below.refl _ _⟩
 case round=>
  obtain⟨i,hi,rfl,ho,hB⟩:=hrel
  have HO:=zY ho
  have HB:=zY hB
  obtain⟨Ao,co,rfl⟩:=ho.slice
  clear ho hB
  by_cases hlt:i<l.length
  {
  obtain⟨x,hx⟩:∃x,l[i]?=some x:=⟨_,List.getElem?_eq_getElem hlt⟩
  have hz:=HZ.out i x hx
  have HRi:=zY (HR.out wr i x hx)
  have HTi:=zY (HT.out i x hx)
  have HSu:Hid (l.take (i+1)=l.take i++[x]):=zY (by rw[List.take_add_one,hx];rfl)
  have Hl1:Hid ((l.take i).length+1<=100000000):=zY (by rw[List.length_take];omega)
  have hn0:0<(nstL (bs x)).length:=by rw[nstL];simp only[List.length_append,List.length_cons];omega
  have HLn:Hid ((nstsL (l.take (i+1))).length=(nstsL (l.take i)).length+(nstL (bs x)).length):=zY (by rw[HTi.out,List.length_append])
  obtain⟨a,ha⟩:=zNm ((nstsL (l.take i)).length)
  obtain⟨b,hb⟩:=zNm (a+(nstL (bs x)).length)
  rw[ha]at hz HRi HLn⊢
  rw[hb]at HRi HLn
  have hab:a<b:=by omega
  have haI:(a:Int)<s.size:=by omega
  have htk:(l.take i).length=i:=by rw[List.length_take];omega
  rw[htk]at HO⊢
  clear hx ha hb hn0 htk
  go_wp2_with fail
  refine HRi.out.mono ?_
  rintro e1 w1 ⟨rfl,hb1⟩
  have HO1:=zY (HO.out.below hb1)
  have HB1:=zYt HB hb1
  clear hb1
  go_wp2_with (at_builtin;refine append_seq (w0:=w) (us:=[x]) Tryz.elemStr rfl _ _ rfl rfl (HO1.out.alloc _) rfl (src1 (ρ:=strS) [.string x] x rfl rfl) Hl1.out (HB1.out.alloc HB1.out.size _) ?_;intro va wa hob _ hbb;have KU:=zY hob;have KB:=zY hbb;clear hob hbb)
  go_roundw
  case rel=>exact⟨i+1,by omega,by rw[HLn.out],by rw[HSu.out];exact KU.out,KB.out⟩
  case measure=>simp[intOf];omega}
  {
  obtain rfl:i=l.length:=by omega
  rw[HE.out]
  rw[List.take_length]at HO
  have hzI:¬((s.size:Nat):Int)<(s.size:Int):=by omega
  go_wp2
  go_ret2
  exact⟨⟨_,rfl,HO.out⟩,HB.out⟩}
end
end Go.Proofs.YthgenkkkapilhaaGreatDoor
