/-
  Joined: VrQ FrNz OpnV.
-/
import Derived.Test.YthgenkkkapilhaaGreatDoorVCn30
import Derived.Test.YthgenkkkapilhaaGreatDoorVCn33
import Derived.Test.YthgenkkkapilhaaGreatDoorVCn34
import Derived.HandedShaped
set_option linter.all false
set_option maxRecDepth 100000
set_option maxHeartbeats 64000000
namespace Go.Proofs.YthgenkkkapilhaaGreatDoor
section
open Go.RowKit
structure Pln where
 a:Nat
 i:Nat
 t:Nat
 x:ByteArray
def Pln.cells (p:Pln):List Value:=[.int .u32 (p.a:Int),.int .i64 (p.i:Int),.int .i64 (p.t:Int),.string p.x]
def plnS:Shape Pln where
 n:=4
 R _ cs f:=cs=f.cells
 len h:=by rw[h];rfl
 one h u hu:=by
  rw[h]at hu
  simp only[Pln.cells,List.mem_cons,List.not_mem_nil,or_false]at hu
  rcases hu with rfl|rfl|rfl|rfl<;>rfl
 keep h _:=h
theorem flatP:Flat plnS:=fun _ _ _ _ h=>h
theorem Tryz.elemPln:Elem Tryz.prog 59 124 4 40 (.agg #[.int .u32 0,.int .i64 0,.int .i64 0,.string ⟨#[]⟩]):=⟨Tryz.underlying59,by kernel_rfl,rfl,by decide,by decide⟩
def plnT (s:ByteArray):Nat:=(s.size+63)/64
def padS (s:ByteArray):ByteArray:=s++strB (List.replicate (64*plnT s-s.size) 32)
def plnAt (a:Nat) (s:ByteArray) (i:Nat):Pln:=⟨a,i,plnT s,(padS s).extract (64*i) (64*i+64)⟩
def plnsL (a:Nat) (s:ByteArray):List Pln:=(List.range (plnT s)).map (plnAt a s)
def splitE (s:ByteArray):Int:=if 40000<s.size then 6 else if prtL (bs s)=false then 3 else 0
def splitR (a:Nat) (s:ByteArray):List Pln:=if splitE s=0 then plnsL a s else []
theorem padS_size (s:ByteArray):(padS s).size=64*plnT s:=by
 rw[padS,ByteArray.size_append,strB_size,List.length_replicate]
 unfold plnT
 omega
theorem plsplit_any (w:World) (s:ByteArray) (a:Nat) (hs:s.size<=1000000):Calls Tryz.prog 23 #[.string s,.int .u32 (a:Int)] w fun e w'=>(∃v,e=.returned (.tuple #[v,.int .i64 (splitE s)])/\OwnSeq plnS 124 w w' v (splitR a s))/\Below w.heap.size w w':=by
 have HP:=zY (fun W=>printable_any W s hs)
 obtain⟨n,hn⟩:=zNm (s.size)
 have hnI:(s.size:Int)=n:=by omega
 by_cases h1:40000<n
 {
 have h1I:(40000:Int)<n:=by omega
 have he:splitE s=6:=by rw[splitE,if_pos (by omega)]
 have HR:Hid (splitR a s=[]):=zY (by rw[splitR,if_neg (by rw[he];decide)])
 rw[he]
 clear hn he
 go_enter Tryz.func23,Tryz.ntmps23
 go_wp2
 go_ret2
 exact⟨⟨_,rfl,by rw[HR.out];exact OwnSeq.nil _⟩,Below.refl _ _⟩}
 {
 have h1I:¬(40000:Int)<n:=by omega
 obtain⟨b,hb⟩:=zNm (prtL (bs s))
 rw[hb]at HP
 cases b with
 |false=>
  have he:splitE s=3:=by rw[splitE,if_neg (by omega),if_pos hb]
  have HR:Hid (splitR a s=[]):=zY (by rw[splitR,if_neg (by rw[he];decide)])
  rw[he]
  clear hn he hb
  go_enter Tryz.func23,Tryz.ntmps23
  go_wp2_with fail
  refine(HP.out _).mono ?_
  rintro e1 w1 ⟨rfl,rfl⟩
  go_wp2
  go_ret2
  exact⟨⟨_,rfl,by rw[HR.out];exact OwnSeq.nil _⟩,Below.refl _ _⟩
 |true=>
  have he:splitE s=0:=by rw[splitE,if_neg (by omega),if_neg (by rw[hb];decide)]
  obtain⟨t,ht⟩:=zNm (plnT s)
  have htn:t=(n+63)/64:=by rw[<-ht,plnT,hn]
  obtain⟨z,hz⟩:=zNm (64*t-n)
  have HR:Hid (splitR a s=(List.range t).map (plnAt a s)):=zY (by rw[splitR,if_pos he,plnsL,ht])
  have HR2:=zY (fun W=>repeat_any W 32 z (by omega))
  have hcI:((32:UInt8).toNat)=32:=rfl
  rw[hcI]at HR2
  obtain⟨X,hX⟩:=zNm (padS s)
  obtain⟨Z,hZ⟩:=zNm (strB (List.replicate z 32))
  have hZz:Z.size=z:=by rw[<-hZ,strB_size,List.length_replicate]
  have hXz:X.size=64*t:=by rw[<-hX,padS_size,ht]
  have HX:Hid (s++Z=X):=zY (by rw[<-hX,padS,ht,hn,hz,hZ])
  have HA:Hid (∀i,plnAt a s i=⟨a,i,t,X.extract (64*i) (64*i+64)⟩):=zY (fun i=>by rw[plnAt,ht,hX])
  rw[hZ]at HR2
  have hcc:¬9223372036854775807<s.size+Z.size:=by omega
  have g1:IntKind.i64.wrap ((n:Int)+64)=(n:Int)+64:=zIw (by omega)
  have g2:IntKind.i64.wrap ((n:Int)+64-1)=(n:Int)+63:=by rw[show (n:Int)+64-1=n+63 by omega];exact zIw (by omega)
  have g3:((n:Int)+63)/64=t:=by omega
  have g4:IntKind.i64.wrap (t:Int)=t:=zIw (by omega)
  have g5:IntKind.i64.wrap ((t:Int)*64)=(t:Int)*64:=zIw (by omega)
  have g6:IntKind.i64.wrap ((t:Int)*64-n)=z:=by rw[show (t:Int)*64-n=z by omega];exact zIw (by omega)
  have ht1:t<=626:=by omega
  have hXzI:(X.size:Int)=64*(t:Int):=by omega
  have HXz:=zY hXz
  rw[he]
  clear hb he hn ht htn hz hX hZ hZz hcI hXz
  go_enter Tryz.func23,Tryz.ntmps23
  go_wp2_with fail
  refine(HP.out _).mono ?_
  rintro e1 w1 ⟨rfl,rfl⟩
  go_upto_region 6 with fail
  go_wp2_with fail
  refine(HR2.out _).mono ?_
  rintro e2 w2 ⟨rfl,hb2⟩
  have HB2:=zY hb2
  clear hb2
  go_upto_region 7 with fail
  rw[HX.out]
  clear hcc g1 g2 g3 g5 g6 HP HR2
  go_wp2
  go_loopw [7,31] (fun y x wr=>∃i:Nat,i<=t/\x=.int .i64 (i:Int)/\OwnSeq plnS 124 w2 wr y ((List.range i).map (plnAt a s))/\Below w2.heap.size w2 wr) (fun _ x _=>t-(intOf x).toNat)
  case atStart=>exact⟨0,by omega,rfl,OwnSeq.nil _,Below.refl _ _⟩
  case round=>
   obtain⟨i,hi,rfl,ho,hB⟩:=hrel
   have HO:=zY ho
   have HB:=zY hB
   obtain⟨Ao,co,rfl⟩:=ho.slice
   clear ho hB
   by_cases h:i<t
   {
   have hiI:(i:Int)<t:=by omega
   obtain⟨q,hq⟩:=zNm (64*i)
   have hqI:(i:Int)*64=q:=by omega
   have hqw:IntKind.i64.wrap ((i:Int)*64)=q:=by rw[hqI];exact zIw (by omega)
   have hi1:IntKind.i64.wrap ((i:Int)+1)=(i:Int)+1:=zIw (by omega)
   have hq2:IntKind.i64.wrap (((i:Int)+1)*64)=((q+64:Nat):Int):=by rw[show ((i:Int)+1)*64=((q+64:Nat):Int) by omega];exact zIw (by omega)
   have hq3:q+64<=X.size:=by have:=HXz.out;omega
   have hq4:((q+64:Nat):Int)<=X.size:=by omega
   have hq5:(q:Int)<=((q+64:Nat):Int):=by omega
   have hq0:(0:Int)<=q:=by omega
   obtain⟨T,hT⟩:=zNm (X.extract q (q+64))
   have HF:Hid ((List.range (i+1)).map (plnAt a s)=(List.range i).map (plnAt a s)++[⟨a,i,t,T⟩]):=zY (by rw[List.range_succ,List.map_append,List.map_singleton,HA.out,hq,hT])
   have Hl1:Hid (((List.range i).map (plnAt a s)).length+1<=100000000):=zY (by simp;omega)
   generalize hno:((List.range i).map (plnAt a s)).length=no at *
   have Hno:=zY hno
   have Hl1:Hid (((List.range i).map (plnAt a s)).length+1<=100000000):=zY (by rw[hno];exact Hl1.out)
   have HX1:Hid (SrcAt plnS w2 (wr.alloc (.cells (Pln.cells ⟨a,i,t,T⟩).toArray 124)) (.slice (some ⟨wr.heap.size,0,none⟩) 1 1) [⟨a,i,t,T⟩]):=zY (src1 (ρ:=plnS) (wr:=wr) (Pln.cells ⟨a,i,t,T⟩) ⟨a,i,t,T⟩ rfl rfl)
   have HO1:=zY (HO.out.alloc (.cells (Pln.cells ⟨a,i,t,T⟩).toArray 124))
   have HB1:=zY (HB.out.alloc HB.out.size (.cells (Pln.cells ⟨a,i,t,T⟩).toArray 124))
   clear hno hq
   go_wp2_with (at_builtin;refine append_seq (w0:=w2) Tryz.elemPln rfl _ _ rfl rfl HO1.out rfl HX1.out Hl1.out HB1.out ?_;intro vb w6 hob _ hbb;have KV:=zY hob;have KC:=zY hbb;clear hob hbb)
   go_roundw
   case rel=>exact⟨i+1,by omega,by go_num,by rw[HF.out];exact KV.out,KC.out⟩
   case measure=>simp[intOf];omega}
   {
   obtain rfl:i=t:=by omega
   have hiI:¬((i:Nat):Int)<(i:Int):=by omega
   have hlen:((List.range i).map (plnAt a s)).length=i:=by simp
   rw[hlen]at HO
   clear hlen
   go_wp2
   go_ret2
   exact⟨⟨_,rfl,by rw[HR.out];exact HO.out.low flatP HB2.out.size⟩,HB2.out.trans (HB.out.mono HB2.out.size)⟩}}
theorem fenc1_any (w:World) (s:ByteArray) (hs:s.size=44):Calls Tryz.prog 252 #[.string s] w fun e w'=>e=.returned (.string (strB (rsEnc (bs s))))/\Below w.heap.size w w':=by
 have H:=zY (rsencode_any w s hs)
 clear hs
 go_enter Tryz.func252,Tryz.ntmps252
 go_wp2_with (go_at_call 253;refine H.out.mono ?_;rintro e w' ⟨rfl,hb⟩)
 go_ret
 exact⟨rfl,hb⟩
theorem fenc2_any (w:World) (s:ByteArray) (u:List Nat) (hs:bs s=bitsS u) (hu:Bits u) (hz:s.size=416):Calls Tryz.prog 254 #[.string s] w fun e w'=>e=.returned (.string (strB (cenc 0 (u++[0,0]))))/\Below w.heap.size w w':=by
 have H:=zY (venc_any w s u hs hu hz)
 clear hs hu hz
 go_enter Tryz.func254,Tryz.ntmps254
 go_wp2_with (go_at_call 255;refine H.out.mono ?_;rintro e w' ⟨rfl,hb⟩)
 go_ret
 exact⟨rfl,hb⟩
theorem fenc3_any (w:World) (s:ByteArray) (hs:s.size=836):Calls Tryz.prog 256 #[.string s] w fun e w'=>e=.returned (.string (strB (interL (bs s))))/\Below w.heap.size w w':=by
 have H:=zY (inter_any w s hs)
 clear hs
 go_enter Tryz.func256,Tryz.ntmps256
 go_wp2_with (go_at_call 257;refine H.out.mono ?_;rintro e w' ⟨rfl,hb⟩)
 go_ret
 exact⟨rfl,hb⟩
abbrev fnV (f:Nat):Value:=.func (.func f) #[] #[]
theorem fencs_any (w:World):Calls Tryz.prog 171 #[] w fun e w'=>e=.returned (.slice (some ⟨w.heap.size,0,none⟩) 4 4)/\w.alloc (.cells #[fnV 252,fnV 168,fnV 254,fnV 256] 113)=w':=by
 go_enter Tryz.func171,Tryz.ntmps171
 go_wp2
 go_ret
 exact⟨rfl,rfl⟩
theorem fenc_any (w:World) (k r s i l d p a:Int) (t:ByteArray) (ht:t.size<=1000) (ha:0<=a/\a<4294967296):
  Calls Tryz.prog 96 #[frV k r s i l d p a t] w fun e w'=>e=.returned (fencR k r s i l d p a t)/\Below w.heap.size w w':=by
 obtain⟨R,hR⟩:=zNm (fencR k r s i l d p a t)
 rw[hR]
 unfold fencR at hR
 have HMr:=zY (fun W=>fmar_any W k r s i l d p a t ht ha)
 have HB:=zY (zBl w (.cells #[.int .i64 k,.int .i64 r,.int .i64 s,.int .i64 i,.int .i64 l,.int .i64 d,.int .i64 p,.int .u32 a,.string t] 49))
 have HZ:=zY (Box9.blk (Blk.new w 49 [.int .i64 k,.int .i64 r,.int .i64 s,.int .i64 i,.int .i64 l,.int .i64 d,.int .i64 p,.int .u32 a,.string t]))
 change Hid (Box9 (w.alloc (.cells #[.int .i64 k,.int .i64 r,.int .i64 s,.int .i64 i,.int .i64 l,.int .i64 d,.int .i64 p,.int .u32 a,.string t] 49)) _ _ _ _ _ _ _ _ _ _)at HZ
 unfold marR at HMr
 by_cases h0:frE k r s i l d p t=0
 {
 rw[if_neg (by simpa using h0)]at hR HMr
 have hmb:Bytes (marL k.toNat r.toNat s.toNat i.toNat l.toNat d.toNat p.toNat a.toNat t)/\(marL k.toNat r.toNat s.toNat i.toNat l.toNat d.toNat p.toNat a.toNat t).length=44:=by
  obtain⟨h1,h2,h3,h4,h5,h6,h7,h8⟩:=frE_ok h0
  have e:frE (k.toNat:Int) (r.toNat:Int) (s.toNat:Int) (i.toNat:Int) (l.toNat:Int) (d.toNat:Int) (p.toNat:Int) t=0:=by
   rw[Int.toNat_of_nonneg (by omega),Int.toNat_of_nonneg (by omega),Int.toNat_of_nonneg (by omega),Int.toNat_of_nonneg (by omega),Int.toNat_of_nonneg (by omega),Int.toNat_of_nonneg (by omega),Int.toNat_of_nonneg (by omega)]
   exact h0
  obtain⟨c,_,_,h9,h10,_,_⟩:=mar_ok (a:=a.toNat) e (by omega)
  exact⟨h9,h10⟩
 obtain⟨m,hm⟩:=zNm (marL k.toNat r.toNat s.toNat i.toNat l.toNat d.toNat p.toNat a.toNat t)
 rw[hm]at hR HMr hmb
 obtain⟨hmB,hml⟩:=hmb
 obtain⟨hwl,hwB⟩:=rsEnc_ok hmB hml
 have H1:Hid (∀W:World,Calls Tryz.prog 252 #[.string (stepS m 0)] W fun e w'=>e=.returned (.string (stepS m 1))/\Below W.heap.size W w'):=zY (fun W=>by
  have h:=fenc1_any W (strB m) (by rw[strB_size,hml])
  rw[bs_strB hmB]at h
  exact h)
 have H2:Hid (∀W:World,Calls Tryz.prog 168 #[.string (stepS m 1)] W fun e w'=>e=.returned (.string (stepS m 2))/\Below W.heap.size W w'):=zY (fun W=>by
  have h:=cfrom_any W (strB (rsEnc m)) (by rw[strB_size,hwl];omega)
  rw[bs_strB hwB]at h
  exact h)
 have H3:Hid (∀W:World,Calls Tryz.prog 254 #[.string (stepS m 2)] W fun e w'=>e=.returned (.string (stepS m 3))/\Below W.heap.size W w'):=zY (fun W=>
  fenc2_any W (strB (frmB (rsEnc m))) (bitU (rsEnc m)) (by rw[bitsS_bitU,bs_strB];intro x hx;rcases frmB_01 _ x hx with rfl|rfl<;>decide) (bitU_bits _) (by rw[strB_size,frmB_len,hwl]))
 have H4:Hid (∀W:World,Calls Tryz.prog 256 #[.string (stepS m 3)] W fun e w'=>e=.returned (.string (stepS m 4))/\Below W.heap.size W w'):=zY (fun W=>by
  have h:=fenc3_any W (strB (cellL m)) (by rw[strB_size,cellL_len hmB hml])
  rw[bs_strB (fun x hx=>by rcases cellL_01 m x hx with rfl|rfl<;>decide)]at h
  exact h)
 have z4:(stepS m 4).size=836:=by show (strB (bodyL m)).size=_;rw[strB_size,bodyL_len]
 have zk:markS.size=16:=by decide
 have hap:∀x y:ByteArray,(x++y).size=x.size+y.size:=fun x y=>ByteArray.size_append
 have HR:Hid (Value.tuple #[.string (markS++stepS m 4),.int .i64 0]=R):=zY hR
 have HMr2:Hid (∀W:World,Calls Tryz.prog 170 #[frV k r s i l d p a t] W fun e w'=>e=.returned (.tuple #[.string (stepS m 0),.int .i64 0])/\Below W.heap.size W w'):=zY HMr.out
 clear hR h0 hm hmB hml hwl hwB HMr ht ha
 have HK:Hid (∀W:World,Calls Tryz.prog 172 #[] W fun e w'=>e=.returned (.string markS)/\W=w'):=zY (fun W=>mark_any W)
 generalize hS:stepS m=S at *
 clear hS
 generalize markS=K at *
 unfold frV at HMr2⊢
 go_enter Tryz.func96,Tryz.ntmps96
 go_upto_region 1 with fail
 generalize w.alloc (.cells #[.int .i64 k,.int .i64 r,.int .i64 s,.int .i64 i,.int .i64 l,.int .i64 d,.int .i64 p,.int .u32 a,.string t] 49)=wz at *
 obtain⟨c0,c1,c2,c3,c4,c5,c6,c7,c8⟩:=HZ.out
 go_upto_region 5 with(first|(go_at_call 170;refine(HMr2.out _).mono ?_;rintro e w1 ⟨rfl,hb1⟩)|(go_at_call 171;refine(fencs_any _).mono ?_;rintro e w2 ⟨rfl,rfl⟩))
 have hA:Below w1.heap.size w1 (w1.alloc (.cells #[fnV 252,fnV 168,fnV 254,fnV 256] 113)):=(Below.refl _ _).alloc (Nat.le_refl _) _
 have HB1:=zY (HB.out.trans ((hb1.trans (hA.mono hb1.size)).mono HB.out.size))
 have HF0:=zY (Blk.new w1 113 [fnV 252,fnV 168,fnV 254,fnV 256])
 change Hid (Blk (w1.alloc (.cells #[fnV 252,fnV 168,fnV 254,fnV 256] 113)) _ _ _)at HF0
 clear hb1 hA HZ HB HMr2 c0 c1 c2 c3 c4 c5 c6 c7 c8
 generalize w1.alloc (.cells #[fnV 252,fnV 168,fnV 254,fnV 256] 113)=w2 at *
 generalize w1.heap.size=g at *
 go_loopw [4,18] (fun v x wr=>∃i:Nat,i<=4/\x=.int .i64 (i:Int)/\v=.string (S i)/\Blk wr g 113 [fnV 252,fnV 168,fnV 254,fnV 256]/\Below w.heap.size w wr) (fun _ x _=>4-(intOf x).toNat)
 case atStart=>exact⟨0,by omega,rfl,rfl,HF0.out,HB1.out⟩
 case round=>
  obtain⟨i,hi,rfl,rfl,hf,hbw⟩:=hrel
  have HF:=zY hf
  have HBw:=zY hbw
  clear HF0 HB1
  rcases (by omega:i=0∨i=1∨i=2∨i=3∨i=4)with rfl|rfl|rfl|rfl|rfl
  {
  have c0:=hf.c 0
  clear hf hbw
  go_wp2_with (go_at_call 252;refine(H1.out _).mono ?_;rintro e w2 ⟨rfl,hb2⟩)
  go_roundw
  case rel=>exact⟨1,by omega,rfl,rfl,HF.out.kept hb2,HBw.out.trans (hb2.mono HBw.out.size)⟩
  case measure=>simp[intOf]}
  {
  have c1:=hf.c 1
  clear hf hbw
  go_wp2_with (go_at_call 168;refine(H2.out _).mono ?_;rintro e w2 ⟨rfl,hb2⟩)
  go_roundw
  case rel=>exact⟨2,by omega,rfl,rfl,HF.out.kept hb2,HBw.out.trans (hb2.mono HBw.out.size)⟩
  case measure=>simp[intOf]}
  {
  have c2:=hf.c 2
  clear hf hbw
  go_wp2_with (go_at_call 254;refine(H3.out _).mono ?_;rintro e w2 ⟨rfl,hb2⟩)
  go_roundw
  case rel=>exact⟨3,by omega,rfl,rfl,HF.out.kept hb2,HBw.out.trans (hb2.mono HBw.out.size)⟩
  case measure=>simp[intOf]}
  {
  have c3:=hf.c 3
  clear hf hbw
  go_wp2_with (go_at_call 256;refine(H4.out _).mono ?_;rintro e w2 ⟨rfl,hb2⟩)
  go_roundw
  case rel=>exact⟨4,by omega,rfl,rfl,HF.out.kept hb2,HBw.out.trans (hb2.mono HBw.out.size)⟩
  case measure=>simp[intOf]}
  {
  clear hf hbw
  go_wp2_with (go_at_call 172;refine(HK.out _).mono ?_;rintro e w2 ⟨rfl,rfl⟩)
  rw[<-HR.out]
  exact bodyPost_ret (v:=.tuple #[.string (K++S 4),.int .i64 0]) (by simp[results,Tryz.results96,go_sem]) rfl ⟨rfl,HBw.out⟩}}
 {
 have h1:(frE k r s i l d p t != 0)=true:=by simpa using h0
 rw[if_pos h0]at hR HMr
 obtain⟨E,hE⟩:=zNm (frE k r s i l d p t)
 rw[hE]at hR HMr h1
 have HR:=zY hR
 clear hR h0 hE ht ha
 unfold frV at HMr⊢
 go_enter Tryz.func96,Tryz.ntmps96
 go_upto_region 1 with fail
 generalize w.alloc (.cells #[.int .i64 k,.int .i64 r,.int .i64 s,.int .i64 i,.int .i64 l,.int .i64 d,.int .i64 p,.int .u32 a,.string t] 49)=wz at *
 obtain⟨c0,c1,c2,c3,c4,c5,c6,c7,c8⟩:=HZ.out
 go_wp2_with (go_at_call 170;refine(HMr.out _).mono ?_;rintro e w1 ⟨rfl,hb1⟩)
 rw[<-HR.out]
 exact bodyPost_ret (v:=.tuple #[.string ⟨#[]⟩,.int .i64 E]) (by simp[results,Tryz.results96,go_sem]) rfl ⟨rfl,HB.out.trans (hb1.mono HB.out.size)⟩
}
end
section
open Go.ChangeShapes Go.WideShapes Go.ChangeAt Go.RowKit Go.Deep
theorem cellsBat:Tryz.prog.cellsOf 88=2:=by kernel_rfl
theorem cellsCha:Tryz.prog.cellsOf 91=5:=by kernel_rfl
theorem cellsAtr:Tryz.prog.cellsOf 93=2:=by kernel_rfl
theorem cellsAtrs:Tryz.prog.cellsOf 89=1:=by kernel_rfl
theorem cellsChas:Tryz.prog.cellsOf 86=1:=by kernel_rfl
instance:Inhabited Atr:=⟨⟨⟨#[]⟩,⟨#[]⟩⟩⟩
instance:Inhabited Cha:=⟨⟨0,⟨#[]⟩,[],⟨#[]⟩,⟨#[]⟩⟩⟩
instance:Inhabited Bat:=⟨⟨0,[]⟩⟩
theorem list5 {α:Type} {l:List α} (h:l.length=5):∃c0 c1 c2 c3 c4,l=[c0,c1,c2,c3,c4]:=by
 match l,h with
 |[c0,c1,c2,c3,c4],_=>exact⟨c0,c1,c2,c3,c4,rfl⟩
theorem list2 {α:Type} {l:List α} (h:l.length=2):∃c0 c1,l=[c0,c1]:=by
 match l,h with
 |[c0,c1],_=>exact⟨c0,c1,rfl⟩
section
variable {H:Type} {enc:TypeId×Value->H} {w:World}
theorem seq_of {α:Type} [Inhabited α] {ρ:Shape α} {TS T:TypeId} (hu:Tryz.prog.underlying TS=some (.slice T)) (hc:Tryz.prog.cellsOf T=ρ.n) (hn:0<ρ.n)
  (hcell:∀{fuel:Nat} {cs:List Value} {y:DataW H×List MemPlace},cs.length=ρ.n->DataW.trod enc Tryz.prog w 0 (fun _=>true) true fuel T cs=some y->∃x,ρ.R w cs x)
  {fuel:Nat} {c:Value} {y:DataW H×List MemPlace} (hf:DataW.trod enc Tryz.prog w 0 (fun _=>true) true fuel TS [c]=some y):∃xs,SeqAt ρ w c xs:=by
 rcases open_slice hu hf with⟨hcs,_⟩|⟨a,len,cap,m,n,D,Pl,hcs,_,hl,hm,hmm,_,hx⟩
 {
 simp only[List.cons.injEq,and_true]at hcs
 subst hcs
 exact⟨[],SeqAt.nil _⟩}
 {
 simp only[List.cons.injEq,and_true]at hcs
 have hmc:m=cap:=by simpa using hmm
 rw[hc]at hx
 obtain⟨F,hF⟩:=choose_lt (α:=α) (n:=len) (p:=fun i x=>∃cs,ρ.R w cs x/\∀j u,cs[j]?=some u->w.cell? ((a.add (i*ρ.n)).add j)=some u) fun i hi=>by
  obtain⟨cs',hcc,ht⟩:=hx i (by omega)
  obtain⟨_,hcl,hat⟩:=World.cells?_some hcc
  obtain⟨x,hr⟩:=hcell hcl ht
  exact⟨x,cs',hr,fun j u hu=>by
   have hj:j<ρ.n:=by
    have:=(List.getElem?_eq_some_iff.1 hu).1
    rwa [hcl]at this
   rw[hat j hj,hu]⟩
 obtain⟨b,o,spt⟩:=a
 refine⟨(List.range len).map F,some ⟨b,o,spt⟩,cap,by simpa using hcs,by simpa using hl,by unfold maxLen at hm;omega,fun i x hi=>?_⟩
 rw[List.getElem?_map]at hi
 obtain⟨j,hj,rfl⟩:=Option.map_eq_some_iff.1 hi
 obtain⟨h1,h2⟩:=List.getElem?_eq_some_iff.1 hj
 simp at h1 h2
 subst h2
 obtain⟨cs,hr,hcs2⟩:=hF i h1
 have hspot:spt=none:=by
  obtain⟨cs0,hr0,hc0⟩:=hF 0 (by omega)
  have h0:0<cs0.length:=by rw[ρ.len hr0];exact hn
  have h3:=hc0 0 _ (List.getElem?_eq_getElem h0)
  simpa [Addr.add]using World.cell?_spot h3
 subst hspot
 exact⟨b,o,cs,rfl,hr,fun j u hu=>by
  have h:=hcs2 j u hu
  rwa [Addr.add_lit,Addr.add_lit]at h⟩
}
theorem atr_cells {fuel:Nat} {cs:List Value} {y:DataW H×List MemPlace} (hl:cs.length=2) (hf:DataW.trod enc Tryz.prog w 0 (fun _=>true) true fuel 93 cs=some y):∃x:Atr,atrS.R w cs x:=by
 obtain⟨c0,c1,rfl⟩:=list2 hl
 obtain⟨xs,n,_,_,_,hlen,hfs⟩:=DataW.trod_struct Tryz.underlying93 hf
 obtain⟨y0,y1,rfl⟩:=list2 (l:=xs) hlen
 have f0:DataW.trod enc Tryz.prog w 0 (fun _=>true) true n 9 (([c0,c1].drop 0).take (Tryz.prog.cellsOf 9))=some y0:=hfs 0 _ rfl
 have f1:DataW.trod enc Tryz.prog w 0 (fun _=>true) true n 9 (([c0,c1].drop 1).take (Tryz.prog.cellsOf 9))=some y1:=hfs 1 _ rfl
 rw[cellsS]at f0 f1
 replace f0:DataW.trod enc Tryz.prog w 0 (fun _=>true) true n 9 [c0]=some y0:=f0
 replace f1:DataW.trod enc Tryz.prog w 0 (fun _=>true) true n 9 [c1]=some y1:=f1
 obtain⟨k,e0,_,_⟩:=DataW.trod_string Tryz.underlying9 f0
 obtain⟨v,e1,_,_⟩:=DataW.trod_string Tryz.underlying9 f1
 have h0:c0=.string k:=by simpa [Value.cells]using e0
 have h1:c1=.string v:=by simpa [Value.cells]using e1
 subst h0 h1
 exact⟨⟨k,v⟩,rfl⟩
theorem cha_cells {fuel:Nat} {cs:List Value} {y:DataW H×List MemPlace} (hl:cs.length=5) (hf:DataW.trod enc Tryz.prog w 0 (fun _=>true) true fuel 91 cs=some y):∃x:Cha,chaS.R w cs x:=by
 obtain⟨c0,c1,c2,c3,c4,rfl⟩:=list5 hl
 obtain⟨xs,n,_,_,_,hlen,hfs⟩:=DataW.trod_struct Tryz.underlying91 hf
 obtain⟨y0,y1,y2,y3,y4,rfl⟩:=list5 (l:=xs) hlen
 have f0:DataW.trod enc Tryz.prog w 0 (fun _=>true) true n 3 (([c0,c1,c2,c3,c4].drop 0).take (Tryz.prog.cellsOf 3))=some y0:=hfs 0 _ rfl
 have f1:DataW.trod enc Tryz.prog w 0 (fun _=>true) true n 9 (([c0,c1,c2,c3,c4].drop 1).take (Tryz.prog.cellsOf 9))=some y1:=hfs 1 _ rfl
 have f2:DataW.trod enc Tryz.prog w 0 (fun _=>true) true n 89 (([c0,c1,c2,c3,c4].drop 2).take (Tryz.prog.cellsOf 89))=some y2:=hfs 2 _ rfl
 have f3:DataW.trod enc Tryz.prog w 0 (fun _=>true) true n 9 (([c0,c1,c2,c3,c4].drop 3).take (Tryz.prog.cellsOf 9))=some y3:=hfs 3 _ rfl
 have f4:DataW.trod enc Tryz.prog w 0 (fun _=>true) true n 9 (([c0,c1,c2,c3,c4].drop 4).take (Tryz.prog.cellsOf 9))=some y4:=hfs 4 _ rfl
 rw[cellsI]at f0
 rw[cellsS]at f1 f3 f4
 rw[cellsAtrs]at f2
 replace f0:DataW.trod enc Tryz.prog w 0 (fun _=>true) true n 3 [c0]=some y0:=f0
 replace f1:DataW.trod enc Tryz.prog w 0 (fun _=>true) true n 9 [c1]=some y1:=f1
 replace f2:DataW.trod enc Tryz.prog w 0 (fun _=>true) true n 89 [c2]=some y2:=f2
 replace f3:DataW.trod enc Tryz.prog w 0 (fun _=>true) true n 9 [c3]=some y3:=f3
 replace f4:DataW.trod enc Tryz.prog w 0 (fun _=>true) true n 9 [c4]=some y4:=f4
 obtain⟨k0,e0,_,_⟩:=DataW.trod_int Tryz.underlying3 f0
 obtain⟨k1,e1,_,_⟩:=DataW.trod_string Tryz.underlying9 f1
 obtain⟨al,h2⟩:=seq_of (ρ:=atrS) Tryz.underlying89 cellsAtr (by decide) atr_cells f2
 obtain⟨k3,e3,_,_⟩:=DataW.trod_string Tryz.underlying9 f3
 obtain⟨k4,e4,_,_⟩:=DataW.trod_string Tryz.underlying9 f4
 have h0:c0=.int .i64 k0:=by simpa [Value.cells]using e0
 have h1:c1=.string k1:=by simpa [Value.cells]using e1
 have h3:c3=.string k3:=by simpa [Value.cells]using e3
 have h4:c4=.string k4:=by simpa [Value.cells]using e4
 subst h0 h1 h3 h4
 exact⟨⟨k0,k1,al,k3,k4⟩,c2,rfl,h2⟩
theorem bat_cells {fuel:Nat} {cs:List Value} {y:DataW H×List MemPlace} (hl:cs.length=2) (hf:DataW.trod enc Tryz.prog w 0 (fun _=>true) true fuel 88 cs=some y):∃x:Bat,batS.R w cs x:=by
 obtain⟨c0,c1,rfl⟩:=list2 hl
 obtain⟨xs,n,_,_,_,hlen,hfs⟩:=DataW.trod_struct Tryz.underlying88 hf
 obtain⟨y0,y1,rfl⟩:=list2 (l:=xs) hlen
 have f0:DataW.trod enc Tryz.prog w 0 (fun _=>true) true n 3 (([c0,c1].drop 0).take (Tryz.prog.cellsOf 3))=some y0:=hfs 0 _ rfl
 have f1:DataW.trod enc Tryz.prog w 0 (fun _=>true) true n 86 (([c0,c1].drop 1).take (Tryz.prog.cellsOf 86))=some y1:=hfs 1 _ rfl
 rw[cellsI]at f0
 rw[cellsChas]at f1
 replace f0:DataW.trod enc Tryz.prog w 0 (fun _=>true) true n 3 [c0]=some y0:=f0
 replace f1:DataW.trod enc Tryz.prog w 0 (fun _=>true) true n 86 [c1]=some y1:=f1
 obtain⟨k0,e0,_,_⟩:=DataW.trod_int Tryz.underlying3 f0
 obtain⟨cs',h1⟩:=seq_of (ρ:=chaS) Tryz.underlying86 cellsCha (by decide) cha_cells f1
 have h0:c0=.int .i64 k0:=by simpa [Value.cells]using e0
 subst h0
 exact⟨⟨k0,cs'⟩,c1,rfl,h1⟩
theorem open_bats {v:Value} {d:DataW H} {p:List MemPlace} {b0:Nat} (hv:Value.okWide Tryz.prog w .any b0 22 v) (h:DataW.Trod enc Tryz.prog w 0 (fun _=>true) true 22 v d p):∃l,SeqAt batS w v l:=by
 obtain⟨a0,len0,cap0,rfl⟩:=okWide_slice Tryz.underlying22 hv
 obtain⟨fuel,hf⟩:=h
 exact seq_of (ρ:=batS) Tryz.underlying22 cellsBat (by decide) bat_cells (by simpa [Value.cells]using hf)
theorem open_layout {v:Value} {d:DataW H} {p:List MemPlace} {b0:Nat} (hval:Value.okWide Tryz.prog w .any b0 24 v) (hd:DataW.Trod enc Tryz.prog w 0 (fun _=>true) true 24 v d p):
  ∃a b:Int,v=.agg #[.int .i64 a,.int .i64 b]:=by
 obtain⟨⟨cs⟩,rfl,hsz⟩:=okWide_struct Tryz.underlying24 hval
 rw[cellsL]at hsz
 obtain⟨c0,c1,rfl⟩:=list2 hsz
 obtain⟨fuel,hf⟩:=hd
 obtain⟨z0,z1,m,_,_,g0,g1⟩:=trod_struct2 Tryz.underlying24 hf
 replace g0:DataW.trod enc Tryz.prog w 0 (fun _=>true) true m 3 (([c0,c1].drop 0).take (Tryz.prog.cellsOf 3))=some z0:=g0
 replace g1:DataW.trod enc Tryz.prog w 0 (fun _=>true) true m 3 (([c0,c1].drop 1).take (Tryz.prog.cellsOf 3))=some z1:=g1
 rw[cellsI]at g0 g1
 replace g0:DataW.trod enc Tryz.prog w 0 (fun _=>true) true m 3 [c0]=some z0:=g0
 replace g1:DataW.trod enc Tryz.prog w 0 (fun _=>true) true m 3 [c1]=some z1:=g1
 obtain⟨k0,e0,_,_⟩:=DataW.trod_int Tryz.underlying3 g0
 obtain⟨k1,e1,_,_⟩:=DataW.trod_int Tryz.underlying3 g1
 have h0:c0=.int .i64 k0:=by simpa [Value.cells]using e0
 have h1:c1=.int .i64 k1:=by simpa [Value.cells]using e1
 subst h0 h1
 exact⟨k0,k1,rfl⟩
end
theorem tab_of {W : World} {L : List (String × DataW Unit)} (hL : laidMetH Tryz.prog L W) (hk : (L.filter fun x => x.1 == "internal/strconv.uint64pow10") = [("internal/strconv.uint64pow10", Lib.tabData .u64 Lib.pow10Tab)]) (hsh : W.ShapedOpen Tryz.prog) : Tab W := by
 have h1 := hL.filter fun x => x.1 == "internal/strconv.uint64pow10"
 rw[hk,MakeChecks.laidMetH_plain _ _ _ (by kernel_rfl)]at h1
 refine⟨?_,?_⟩
 ·exact Lib.tabIs_of_head (g:=0) (t:=356) (e:=211) (n:=20) (by kernel_rfl) (by kernel_rfl) Tryz.underlying356 Tryz.underlying211 (by kernel_rfl) (by kernel_rfl) h1
 {
 exact cell_of_shapedOpen_int (P:=Tryz.prog) (g:=1) (t:=3) (zero:= #[.int .i64 0]) hsh (of_decide_eq_true (by kernel_rfl)) (by kernel_rfl) rfl (by kernel_rfl) (by kernel_rfl) Tryz.underlying3
}
theorem returns_shaped {H:Type} {enc:TypeId×Value->H} {a:Assume} {C:Checked} {os:Os} {f:FuncId} {fn:Func} {s:ChangeSpec} {conds:List PathCond} {apart fresh handsOn again:Bool} {X:World->Array Value->Prop}
  (hX:∀(w w':World) (args:Array Value),w.heap=w'.heap->X w args->X w' args)
  (own:ownKnob C.prog.godebug=none) (started:os.Started) (noInit:C.prog.inits.idxOf? f=none) (hfn:C.prog.funcs[f]?=some fn)
  (witness:∃(w:World) (tape:Tape) (i:Input),w.os=os/\(w.forCall tape i).Shaped C.prog/\i.vars=[]/\Input.okWide C.prog (w.forCall tape i) .any w.heap.size f i /\
   ((s.pre enc C.prog fn conds apart (w.forCall tape i).memory i.args/\X (w.forCall tape i).memory i.args)/\sizedMet enc C.prog fn (OpenSpec.ofChange s) apart (w.forCall tape i).memory i.args)/\a.holds C.prog (lone (Frame.enter C.prog f i.args .normal) [] (w.forCall tape i)))
  (contract:∀(W:World) (base:Nat) (args:Array Value) (ds gs:List (DataW H)) (before:List MemPlace),
   (∀(j:Nat) t v,fn.params[j]?=some t->args[j]?=some v->Value.okWide C.prog W .any base t v) ->
   DataW.Whole enc C.prog fn.params.toList s.vars apart W args.toList ds gs before ->
   conds.all (PathCond.test C.prog ⟨fn.params.toList,ds,s.plain.varTypes C.prog,gs⟩)=true ->
   (DataW.weightsEach C.prog (fn.params.toList++s.plain.varTypes C.prog) (ds++gs)).all (· <= reachBytes)=true->X W args->W.ShapedOpen C.prog ->
   a.holds C.prog (lone (Frame.enter C.prog f args .normal) [] W) ->
   Calls C.prog f args W fun e W'=>∃v,e=.returned v/\s.post enc C.prog fn apart fresh handsOn again W args v W'):
  ReturnsInHanded a C os f .any (fun w args=>(s.pre enc C.prog fn conds apart w args/\X w args)/\sizedMet enc C.prog fn (OpenSpec.ofChange s) apart w args) (s.post enc C.prog fn apart fresh handsOn again):=by
 refine returnsInHanded_of_calls own started noInit witness ?_
 intro w tape i _ hsh _ hok hpre hholds
 obtain⟨_,_,_,fn',hfn',_,_,_,_,hval⟩:=hok
 have e:fn'=fn:=Option.some.inj (hfn'.symm.trans hfn)
 subst e
 obtain⟨⟨⟨ds,gs,before,hw,hc⟩,hx⟩,hz⟩:=hpre
 have hw':=DataW.Whole.of_heap (w':=w.forCall tape i) (by rfl) hw
 refine(contract (w.forCall tape i) w.heap.size i.args ds gs before hval hw' hc (hz.weights hw) (hX _ _ _ (by rfl) hx) hsh hholds).mono fun e W' ⟨v,he,hp⟩=>?_
 subst he
 exact ChangeSpec.post_blind hp
end
end Go.Proofs.YthgenkkkapilhaaGreatDoor
