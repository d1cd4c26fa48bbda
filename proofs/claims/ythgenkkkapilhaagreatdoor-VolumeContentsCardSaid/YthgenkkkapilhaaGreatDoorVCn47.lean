/-
  Joined: VsD LvoA.
-/
import Derived.Test.YthgenkkkapilhaaGreatDoorVCn46
import Derived.Test.YthgenkkkapilhaaGreatDoorCards
set_option linter.all false
set_option maxRecDepth 100000
set_option maxHeartbeats 64000000
namespace Go.Proofs.YthgenkkkapilhaaGreatDoor
section
open Go.RowKit
theorem lawcontents_any (w:World) (v:Value) (l:List Bat) (hv:SeqAt batS w v l) (x:Nat) (hx:x<256) (hT:Tab w):Calls Tryz.prog 5 #[v,.int .u8 (x:Int)] w fun e w'=>e=.returned (.bool true)/\Below w.heap.size w w':=by
 have HT:=zY hT
 have HM:=zY (made_any w v l hv x hx)
 obtain⟨Av,cv,rfl,_,_⟩:=hv.slice
 generalize l.length=ll at *
 clear hv hT
 go_enter Tryz.func5,Tryz.ntmps5
 go_upto_region 1 with fail
 go_wp2_with fail
 refine HM.out.mono ?_
 rintro e1 w1 ⟨⟨d,s,va,L,ok,rfl,hd1,hd3,hs2,hva,hok⟩,hb1⟩
 obtain⟨A,c,rfl,_,_⟩:=hva.slice
 have HVa:=zY hva
 have HOk:=zY hok
 have HB1:=zY hb1
 clear hva hok hb1 HM
 go_upto_region 2 with fail
 have hA:=Blk.new w1 28 [.int .u32 7,.int .i64 (d:Int),.int .i64 (s:Int),.slice A L.length c]
 have HA:Hid (Blk (w1.alloc (.cells #[.int .u32 7,.int .i64 (d:Int),.int .i64 (s:Int),.slice A L.length c] 28)) w1.heap.size 28 [.int .u32 7,.int .i64 (d:Int),.int .i64 (s:Int),.slice A L.length c]):=zY hA
 have HVb:=zY (HVa.out.below (zBl w1 (.cells #[.int .u32 7,.int .i64 (d:Int),.int .i64 (s:Int),.slice A L.length c] 28)))
 have HB2:=zY (HB1.out.alloc HB1.out.size (.cells #[.int .u32 7,.int .i64 (d:Int),.int .i64 (s:Int),.slice A L.length c] 28))
 clear hA HB1 HVa
 generalize w1.alloc (.cells #[.int .u32 7,.int .i64 (d:Int),.int .i64 (s:Int),.slice A L.length c] 28)=w2 at *
 obtain⟨ga,hga⟩:=zNm (w1.heap.size)
 rw[hga]at HA⊢
 clear hga
 cases ok with
 |false=>
  have HAw:=zY (awake43_any w2 (HT.out.below HB2.out))
  go_wp2_with fail
  refine HAw.out.mono ?_
  rintro e3 w3 ⟨rfl,hb3⟩
  have HB3:=zYt HB2 hb3
  clear hb3
  go_wp2
  go_ret
  exact⟨rfl,HB3.out⟩
 |true=>
  have HMo:=zY (HOk.out rfl)
  have HAl:=zY HMo.out.all
  have hl2:=HMo.out.len
  have HDS:Hid (1<=d/\d<=3/\s<=2):=zY ⟨hd1,hd3,hs2⟩
  have HF1:=zY (fun(W:World) (n:Int) (hW:SeqAt sesS W (.slice A L.length c) L) (hT:Tab W)=>frames_any W 7 d s _ L n hW (by omega) HAl.out hT)
  have HTb:=zY (fun(W:World) (hW:Below w2.heap.size w2 W)=>HT.out.below (HB2.out.trans (hW.mono HB2.out.size)))
  have HLi:Hid (L.length<=2):=zY hl2
  have a1:=HA.out.c 1
  have a2:=HA.out.c 2
  have a3:=HA.out.c 3
  clear HT HOk
  go_upto_region 4 with fail
  go_wp2
  go_loopw [34] (fun t wr=>∃i:Nat,i<=L.length/\t=.int .i64 (i:Int)/\Below w2.heap.size w2 wr) (fun t _=>L.length-(intOf t).toNat)
  case atStart=>exact⟨0,by omega,rfl,Below.refl _ _⟩
  case round=>
   obtain⟨i,hi,rfl,hB⟩:=hrel
   have HB:=zY hB
   clear a1 a2 a3
   by_cases h:i<L.length
   {
   obtain⟨y,hy⟩:∃y,L[i]?=some y:=⟨_,List.getElem?_eq_getElem h⟩
   have hiI:(i:Int)<L.length:=by omega
   have hV:=(HAl.out i y hy).2.1
   have hstr:=(HAl.out i y hy).2.2
   have HFr:=zY (And.intro (framesF_ok (id:=7) (contE_made HMo.out hy (d:=d) (s:=s) ⟨HDS.out.1,HDS.out.2.1⟩ HDS.out.2.2).1 (contE_made HMo.out hy (d:=d) (s:=s) ⟨HDS.out.1,HDS.out.2.1⟩ HDS.out.2.2).2) (made_frames HMo.out hy (d:=d) (s:=s) ⟨HDS.out.1,HDS.out.2.1⟩ HDS.out.2.2).1)
   have HCe:=zY (contE_made HMo.out hy (d:=d) (s:=s) ⟨HDS.out.1,HDS.out.2.1⟩ HDS.out.2.2).1
   have HSV:=zY hV
   have HSt:=zY hstr
   have HPs:=zY (parts_small HMo.out hy)
   have HDl:=zY (dir_small HMo.out hy)
   obtain⟨_,_,e9,_,_,h4⟩:=HVb.out.below HB.out
   cases e9
   obtain⟨b,o,cs,rfl,⟨ve,rfl,hve⟩,hc⟩:=h4 i y hy
   have HVe:=zY hve
   obtain⟨Ae,ce,rfl,_,_⟩:=hve.slice
   have e0:wr.cell? ⟨b,o+i*6,none⟩=some (.int .i64 y.num):=hc 0 _ rfl
   have e1:wr.cell? ⟨b,o+i*6+1,none⟩=some (.int .i64 y.date):=hc 1 _ rfl
   have e2:wr.cell? ⟨b,o+i*6+2,none⟩=some (.string y.prev):=hc 2 _ rfl
   have e3:wr.cell? ⟨b,o+i*6+3,none⟩=some (.slice Ae y.ents.length ce):=hc 3 _ rfl
   have e4:wr.cell? ⟨b,o+i*6+4,none⟩=some (.string y.str):=hc 4 _ rfl
   have e5:wr.cell? ⟨b,o+i*6+5,none⟩=some (.string y.sig):=hc 5 _ rfl
   clear hc h4 hy hve hV hstr hB
   go_upto_region 7 with fail
   have HSe0:=zY (Blk.new wr 45 [.int .i64 y.num,.int .i64 y.date,.string y.prev,.slice Ae y.ents.length ce,.string y.str,.string y.sig])
   have HSe:Hid (Blk (wr.alloc (.cells #[.int .i64 y.num,.int .i64 y.date,.string y.prev,.slice Ae y.ents.length ce,.string y.str,.string y.sig] 45)) wr.heap.size 45 [.int .i64 y.num,.int .i64 y.date,.string y.prev,.slice Ae y.ents.length ce,.string y.str,.string y.sig]):=zY HSe0.out
   have HAb:=zY ((HA.out.kept HB.out).alloc (.cells #[.int .i64 y.num,.int .i64 y.date,.string y.prev,.slice Ae y.ents.length ce,.string y.str,.string y.sig] 45))
   have HBb:=zY (HB.out.alloc HB.out.size (.cells #[.int .i64 y.num,.int .i64 y.date,.string y.prev,.slice Ae y.ents.length ce,.string y.str,.string y.sig] 45))
   have HVeb:=zY (HVe.out.below (zBl wr (.cells #[.int .i64 y.num,.int .i64 y.date,.string y.prev,.slice Ae y.ents.length ce,.string y.str,.string y.sig] 45)))
   obtain⟨gs,hgs⟩:=zNm (wr.heap.size)
   rw[hgs]at HSe⊢
   clear HSe0 e0 e1 e2 e3 e4 e5 hgs HVe HB
   generalize wr.alloc (.cells #[.int .i64 y.num,.int .i64 y.date,.string y.prev,.slice Ae y.ents.length ce,.string y.str,.string y.sig] 45)=wb at *
   have a0:=HAb.out.c 0
   have a1:=HAb.out.c 1
   have a2:=HAb.out.c 2
   have a3:=HAb.out.c 3
   have s0:=HSe.out.c 0
   go_wp2_with fail
   refine(HF1.out wb y.num (HVb.out.below HBb.out) (HTb.out wb HBb.out)).mono ?_
   rintro e3 w3 ⟨⟨vf,rfl,hfo⟩,hb3⟩
   have HQ:=zY (hfo.at hb3)
   have HA3:=zY (HAb.out.kept hb3)
   have HS3:=zY (HSe.out.kept hb3)
   have HB3:=zYt HBb hb3
   have HV3:=zY (HVeb.out.below hb3)
   rw[HCe.out]
   clear hfo hb3 a0 a1 a2 a3 s0 HAb HSe HBb HVeb HCe
   obtain⟨F,hF⟩:=zNm (framesF 7 (d:Int) (s:Int) L y.num)
   rw[hF]at HFr HQ
   obtain⟨AF,cF,rfl,_,_⟩:=HQ.out.slice
   clear hF
   go_upto_region 8 with fail
   have s0:=HS3.out.c 0
   have s1:=HS3.out.c 1
   have s2:=HS3.out.c 2
   have s3:=HS3.out.c 3
   have s4:=HS3.out.c 4
   have s5:=HS3.out.c 5
   go_wp2_with fail
   refine(direncode_ok w3 y _ HV3.out HSV.out (HTb.out w3 HB3.out)).mono ?_
   rintro e4 w4 ⟨rfl,hb4⟩
   have HQ4:=zY (HQ.out.below hb4)
   have HA4:=zY (HA3.out.kept hb4)
   have HS4:=zY (HS3.out.kept hb4)
   have HB4:=zYt HB3 hb4
   clear hb4 s0 s1 s2 s3 s4 s5 HQ HA3 HS3 HB3 HV3
   obtain⟨T,hT⟩:=zNm (strB (dirL y))
   have HTz:Hid (T.size<=1400000):=zY (by rw[<-hT,strB_size];exact HDl.out)
   have HFf:Hid (F=(reelsL 7 d s y.num y).flatten):=zY (by rw[<-HFr.out.1])
   have HDc:Hid (∀r,r<d+s->catF (onD r) F=bs T):=zY (fun r hr=>by rw[HFf.out,dir_cat hr,hT])
   have HBc:Hid (∀i r,r<d->catF (onB i r) F=((bs y.str).take (28*(i*d+r)+28)).drop (28*(i*d+r))):=zY (fun i r hr=>by rw[HFf.out,block_cat hr])
   have HSl:Hid (strN d y.str.size<=F.length):=zY (by
    rw[HFr.out.2,eachN]
    have:=HDS.out
    exact Nat.le_trans (Nat.le_add_left _ _) (Nat.le_mul_of_pos_right _ (by omega)))
   have HFz:Hid (F.length<=100000000):=zY (by
    have h1:=rowsL_len2 (d:=d) (s:=s) (st:=y.str) HDS.out.1 HSt.out
    rw[rowsL_strN]at h1
    have h2:=HPs.out
    have h3:eachN d y*(d+s)<=131072*5:=Nat.mul_le_mul (by rw[eachN];omega) (by have:=HDS.out;omega)
    rw[HFr.out.2]
    omega)
   have HYs:Hid (y.str.size<=1835008):=zY HSt.out
   rw[hT]
   clear hT HFr HFf HPs HDl HSt
   have a1:=HA4.out.c 1
   have a2:=HA4.out.c 2
   have hd1:=HDS.out.1
   have hd3:=HDS.out.2.1
   have hs2:=HDS.out.2.2
   have hfz:=HFz.out
   go_upto_region 9 with fail
   go_wp2
   go_loopw [63] (fun t W=>∃r:Nat,r<=d+s/\t=.int .i64 (r:Int)/\Below w4.heap.size w4 W) (fun t _=>d+s-(intOf t).toNat)
   case atStart=>exact⟨0,by omega,rfl,Below.refl _ _⟩
   case round=>
    obtain⟨r,hr,rfl,hBr⟩:=hrel
    have HBr:=zY hBr
    clear hBr a1 a2
    by_cases hlr:r<d+s
    {
    have hrI:(r:Int)<(d:Int)+(s:Int):=by omega
    have HDr:=zY (HDc.out r hlr)
    obtain⟨w5,hw5⟩:=zNm (wr)
    rw[hw5]at HBr⊢
    clear hw5
    go_wp2
    go_loopw [14,68] (fun dv t W=>∃k:Nat,k<=F.length/\t=.int .i64 (k:Int)/\dv=.string (strB (catF (onD r) (F.take k)))/\Below w5.heap.size w5 W) (fun _ t _=>F.length-(intOf t).toNat)
    case atStart=>exact⟨0,by omega,rfl,rfl,Below.refl _ _⟩
    case round=>
     obtain⟨k,hk,rfl,rfl,hBk⟩:=hrel
     have HBk:=zY hBk
     clear hBk
     by_cases hlt:k<F.length
     {
     obtain⟨f,hf⟩:∃f,F[k]?=some f:=⟨_,List.getElem?_eq_getElem hlt⟩
     have hkI:(k:Int)<F.length:=by omega
     obtain⟨_,_,e9,_,_,h4⟩:=HQ4.out.below (HBr.out.trans (HBk.out.mono HBr.out.size))
     cases e9
     obtain⟨b2,o2,cs2,rfl,rfl,hc⟩:=h4 k f hf
     obtain⟨k0,r0,s0,i0,l0,d0,p0,a0,t0⟩:=f
     have hc2:∀j u,(Frm.cells ⟨k0,r0,s0,i0,l0,d0,p0,a0,t0⟩)[j]?=some u->wr.cell? ⟨b2,o2+k*9+j,none⟩=some u:=hc
     have c0:=hc2 0 _ rfl
     have c1:=hc2 1 _ rfl
     have c2:=hc2 2 _ rfl
     have c3:=hc2 3 _ rfl
     have c4:=hc2 4 _ rfl
     have c5:=hc2 5 _ rfl
     have c6:=hc2 6 _ rfl
     have c7:=hc2 7 _ rfl
     have c8:=hc2 8 _ rfl
     dsimp only at c0 c1 c2 c3 c4 c5 c6 c7 c8
     rw[Nat.add_zero]at c0
     have HSt:=zY (catF_step (c:=onD r) hf)
     clear hc hc2 h4 hf
     go_upto_region 18 with fail
     have HFb0:=zY (Blk.new wr 49 [.int .i64 k0,.int .i64 r0,.int .i64 s0,.int .i64 i0,.int .i64 l0,.int .i64 d0,.int .i64 p0,.int .u32 a0,.string t0])
     have HFb:Hid (Blk (wr.alloc (.cells #[.int .i64 k0,.int .i64 r0,.int .i64 s0,.int .i64 i0,.int .i64 l0,.int .i64 d0,.int .i64 p0,.int .u32 a0,.string t0] 49)) wr.heap.size 49 [.int .i64 k0,.int .i64 r0,.int .i64 s0,.int .i64 i0,.int .i64 l0,.int .i64 d0,.int .i64 p0,.int .u32 a0,.string t0]):=zY HFb0.out
     have HBf:=zY (zBl wr (.cells #[.int .i64 k0,.int .i64 r0,.int .i64 s0,.int .i64 i0,.int .i64 l0,.int .i64 d0,.int .i64 p0,.int .u32 a0,.string t0] 49))
     obtain⟨gf,hgf⟩:=zNm (wr.heap.size)
     rw[hgf]at HFb⊢
     clear HFb0 c0 c1 c2 c3 c4 c5 c6 c7 c8 hgf
     generalize wr.alloc (.cells #[.int .i64 k0,.int .i64 r0,.int .i64 s0,.int .i64 i0,.int .i64 l0,.int .i64 d0,.int .i64 p0,.int .u32 a0,.string t0] 49)=wf at *
     have q0:=HFb.out.c 0
     have q1:=HFb.out.c 1
     have q3:=HFb.out.c 3
     have q4:=HFb.out.c 4
     have q8:=HFb.out.c 8
     by_cases e0:k0=68
     {
     subst e0
     by_cases e1:r0=(r:Int)
     {
     subst e1
     by_cases hl0:0<=l0
     {
     obtain⟨n,rfl⟩:∃n:Nat,l0=(n:Int):=⟨l0.toNat,by omega⟩
     by_cases hl1:n<=t0.size
     {
     have hl1I:(n:Int)<=(t0.size:Int):=by omega
     have HZ:Hid (catF (onD r) (F.take (k+1))=catF (onD r) (F.take k)++(bs t0).take n):=zY (HSt.out.trans (by rw[selF,if_pos ⟨by simp[onD,onB],by simp,by simpa using hl1⟩];rfl))
     have hle:=catF_le (onD r) F (k+1)
     rw[HZ.out,HDr.out]at hle
     simp only[List.length_append,List.length_take,List.length_drop,bs_len]at hle
     have hex:bs (t0.extract 0 n)=(bs t0).take n:=by rw[bs_extract];rfl
     have HEx:=zY hex
     obtain⟨X,hX⟩:=zNm (strB (catF (onD r) (F.take k)))
     have hTz:=HTz.out
     have hYs:=HYs.out
     have hXz:X.size+n<=4000000:=by rw[<-hX,strB_size];(try simp only[List.length_append,List.length_take,bs_len]);omega
     have hez:(t0.extract 0 n).size=n:=by rw[ByteArray.size_extract];omega
     have hcc:¬9223372036854775807<X.size+n:=by omega
     have hcd:¬9223372036854775807<X.size+(t0.extract 0 n).size:=by omega
     have hce:¬9223372036854775807<X.size+min n t0.size:=by omega
     have HX:=zY hX
     rw[hX]
     clear hex hX hTz hYs hle hXz
     go_wp2_with fail
     go_roundw
     case rel=>exact⟨k+1,by omega,by go_num,by rw[HZ.out,<-strB_cat,HX.out,<-HEx.out,strB_bs],HBk.out.trans (HBf.out.mono HBk.out.size)⟩
     case measure=>simp[intOf];omega}
     {
     have hl1I:¬(n:Int)<=(t0.size:Int):=by omega
     have HZ:=zY (HSt.out.trans (by rw[selF,if_neg (by simp[onD,onB]<;>omega),List.append_nil]))
     go_wp2_with fail
     go_roundw
     case rel=>exact⟨k+1,by omega,by go_num,by rw[HZ.out],HBk.out.trans (HBf.out.mono HBk.out.size)⟩
     case measure=>simp[intOf];omega}}
     {
     have hl0n:¬(0:Int)<=l0:=hl0
     have HZ:=zY (HSt.out.trans (by rw[selF,if_neg (by simp[onD,onB]<;>omega),List.append_nil]))
     go_wp2_with fail
     go_roundw
     case rel=>exact⟨k+1,by omega,by go_num,by rw[HZ.out],HBk.out.trans (HBf.out.mono HBk.out.size)⟩
     case measure=>simp[intOf];omega}}
     {
     have f1:(r0==(r:Int))=false:=by rw[beq_eq_false_iff_ne];exact e1
     have HZ:=zY (HSt.out.trans (by rw[selF,if_neg (by simp[onD,onB]<;>omega),List.append_nil]))
     go_wp2_with fail
     go_roundw
     case rel=>exact⟨k+1,by omega,by go_num,by rw[HZ.out],HBk.out.trans (HBf.out.mono HBk.out.size)⟩
     case measure=>simp[intOf];omega}}
     {
     have f0:(k0==68)=false:=by rw[beq_eq_false_iff_ne];exact e0
     have HZ:=zY (HSt.out.trans (by rw[selF,if_neg (by simp[onD,onB]<;>omega),List.append_nil]))
     go_wp2_with fail
     go_roundw
     case rel=>exact⟨k+1,by omega,by go_num,by rw[HZ.out],HBk.out.trans (HBf.out.mono HBk.out.size)⟩
     case measure=>simp[intOf];omega}}
     {
     obtain rfl:k=F.length:=by omega
     have hkI:¬((F.length:Nat):Int)<(F.length:Int):=by omega
     rw[List.take_length,HDr.out,strB_bs]
     go_wp2
     go_roundw
     case rel=>exact⟨r+1,by omega,by go_num,HBr.out.trans (HBk.out.mono HBr.out.size)⟩
     case measure=>simp[intOf];omega}}
    {
    obtain rfl:r=d+s:=by omega
    have hrI:¬((d:Int)+(s:Int))<(d:Int)+(s:Int):=by omega
    have hrJ:¬(((d+s:Nat):Int))<(d:Int)+(s:Int):=by omega
    obtain⟨w5,hw5⟩:=zNm (wr)
    rw[hw5]at HBr⊢
    clear hw5
    have HA5:=zY (HA4.out.kept HBr.out)
    have HS5:=zY (HS4.out.kept HBr.out)
    go_wp2
    go_loopw [17,108] (fun sv t W=>∃i2:Nat,i2<=F.length/\t=.int .i64 (i2:Int)/\sv=.string (strB ((bs y.str).take (28*(i2*d))))/\Below w5.heap.size w5 W) (fun _ t _=>F.length-(intOf t).toNat)
    case atStart=>exact⟨0,by omega,rfl,by simp;rfl,Below.refl _ _⟩
    case round=>
     obtain⟨i2,hi2,rfl,rfl,hB6⟩:=hrel
     have HB6:=zY hB6
     clear hB6
     by_cases hli:i2<F.length
     {
     have hiJ:(i2:Int)<F.length:=by omega
     obtain⟨w6,hw6⟩:=zNm (wr)
     rw[hw6]at HB6⊢
     clear hw6
     have a1:=(HA5.out.kept HB6.out).c 1
     have HBi:=zY (HBr.out.trans (HB6.out.mono HBr.out.size))
     go_wp2
     go_loopw [17,114] (fun sv t W=>∃r:Nat,r<=d/\t=.int .i64 (r:Int)/\sv=.string (strB ((bs y.str).take (28*(i2*d+r))))/\Below w6.heap.size w6 W) (fun _ t _=>d-(intOf t).toNat)
     case atStart=>exact⟨0,by omega,rfl,rfl,Below.refl _ _⟩
     case round=>
      obtain⟨r,hr,rfl,rfl,hBj⟩:=hrel
      have HBj:=zY hBj
      clear hBj a1
      by_cases hlr:r<d
      {
      have hrI:(r:Int)<d:=by omega
      have HDr:=zY (HBc.out i2 r hlr)
      obtain⟨w7,hw7⟩:=zNm (wr)
      rw[hw7]at HBj⊢
      clear hw7
      go_wp2
      go_loopw [17,119] (fun sv t W=>∃k:Nat,k<=F.length/\t=.int .i64 (k:Int)/\sv=.string (strB ((bs y.str).take (28*(i2*d+r))++catF (onB i2 r) (F.take k)))/\Below w7.heap.size w7 W) (fun _ t _=>F.length-(intOf t).toNat)
      case atStart=>exact⟨0,by omega,rfl,by rw[List.take_zero,catF,List.flatMap_nil,List.append_nil],Below.refl _ _⟩
      case round=>
       obtain⟨k,hk,rfl,rfl,hBk⟩:=hrel
       have HBk:=zY hBk
       clear hBk
       by_cases hlt:k<F.length
       {
       obtain⟨f,hf⟩:∃f,F[k]?=some f:=⟨_,List.getElem?_eq_getElem hlt⟩
       have hkI:(k:Int)<F.length:=by omega
       obtain⟨_,_,e9,_,_,h4⟩:=HQ4.out.below (HBi.out.trans ((HBj.out.trans (HBk.out.mono HBj.out.size)).mono HBi.out.size))
       cases e9
       obtain⟨b2,o2,cs2,rfl,rfl,hc⟩:=h4 k f hf
       obtain⟨k0,r0,s0,i0,l0,d0,p0,a0,t0⟩:=f
       have hc2:∀j u,(Frm.cells ⟨k0,r0,s0,i0,l0,d0,p0,a0,t0⟩)[j]?=some u->wr.cell? ⟨b2,o2+k*9+j,none⟩=some u:=hc
       have c0:=hc2 0 _ rfl
       have c1:=hc2 1 _ rfl
       have c2:=hc2 2 _ rfl
       have c3:=hc2 3 _ rfl
       have c4:=hc2 4 _ rfl
       have c5:=hc2 5 _ rfl
       have c6:=hc2 6 _ rfl
       have c7:=hc2 7 _ rfl
       have c8:=hc2 8 _ rfl
       dsimp only at c0 c1 c2 c3 c4 c5 c6 c7 c8
       rw[Nat.add_zero]at c0
       have HSt:=zY (catF_step (c:=onB i2 r) hf)
       clear hc hc2 h4 hf
       go_upto_region 34 with fail
       have HFb0:=zY (Blk.new wr 49 [.int .i64 k0,.int .i64 r0,.int .i64 s0,.int .i64 i0,.int .i64 l0,.int .i64 d0,.int .i64 p0,.int .u32 a0,.string t0])
       have HFb:Hid (Blk (wr.alloc (.cells #[.int .i64 k0,.int .i64 r0,.int .i64 s0,.int .i64 i0,.int .i64 l0,.int .i64 d0,.int .i64 p0,.int .u32 a0,.string t0] 49)) wr.heap.size 49 [.int .i64 k0,.int .i64 r0,.int .i64 s0,.int .i64 i0,.int .i64 l0,.int .i64 d0,.int .i64 p0,.int .u32 a0,.string t0]):=zY HFb0.out
       have HBf:=zY (zBl wr (.cells #[.int .i64 k0,.int .i64 r0,.int .i64 s0,.int .i64 i0,.int .i64 l0,.int .i64 d0,.int .i64 p0,.int .u32 a0,.string t0] 49))
       obtain⟨gf,hgf⟩:=zNm (wr.heap.size)
       rw[hgf]at HFb⊢
       clear HFb0 c0 c1 c2 c3 c4 c5 c6 c7 c8 hgf
       generalize wr.alloc (.cells #[.int .i64 k0,.int .i64 r0,.int .i64 s0,.int .i64 i0,.int .i64 l0,.int .i64 d0,.int .i64 p0,.int .u32 a0,.string t0] 49)=wf at *
       have q0:=HFb.out.c 0
       have q1:=HFb.out.c 1
       have q3:=HFb.out.c 3
       have q4:=HFb.out.c 4
       have q8:=HFb.out.c 8
       by_cases e0:k0=66
       {
       subst e0
       by_cases e1:i0=(i2:Int)
       {
       subst e1
       by_cases e2:r0=(r:Int)
       {
       subst e2
       by_cases hl0:0<=l0
       {
       obtain⟨n,rfl⟩:∃n:Nat,l0=(n:Int):=⟨l0.toNat,by omega⟩
       by_cases hl1:n<=t0.size
       {
       have hl1I:(n:Int)<=(t0.size:Int):=by omega
       have HZ:Hid (catF (onB i2 r) (F.take (k+1))=catF (onB i2 r) (F.take k)++(bs t0).take n):=zY (HSt.out.trans (by rw[selF,if_pos ⟨by simp[onD,onB],by simp,by simpa using hl1⟩];rfl))
       have hle:=catF_le (onB i2 r) F (k+1)
       rw[HZ.out,HDr.out]at hle
       simp only[List.length_append,List.length_take,List.length_drop,bs_len]at hle
       have hex:bs (t0.extract 0 n)=(bs t0).take n:=by rw[bs_extract];rfl
       have HEx:=zY hex
       obtain⟨X,hX⟩:=zNm (strB ((bs y.str).take (28*(i2*d+r))++catF (onB i2 r) (F.take k)))
       have hTz:=HTz.out
       have hYs:=HYs.out
       have hXz:X.size+n<=4000000:=by rw[<-hX,strB_size];(try simp only[List.length_append,List.length_take,bs_len]);omega
       have hez:(t0.extract 0 n).size=n:=by rw[ByteArray.size_extract];omega
       have hcc:¬9223372036854775807<X.size+n:=by omega
       have hcd:¬9223372036854775807<X.size+(t0.extract 0 n).size:=by omega
       have hce:¬9223372036854775807<X.size+min n t0.size:=by omega
       have HX:=zY hX
       rw[hX]
       clear hex hX hTz hYs hle hXz
       go_wp2_with fail
       go_roundw
       case rel=>exact⟨k+1,by omega,by go_num,by rw[HZ.out,<-List.append_assoc,<-strB_cat,HX.out,<-HEx.out,strB_bs],HBk.out.trans (HBf.out.mono HBk.out.size)⟩
       case measure=>simp[intOf];omega}
       {
       have hl1I:¬(n:Int)<=(t0.size:Int):=by omega
       have HZ:=zY (HSt.out.trans (by rw[selF,if_neg (by simp[onD,onB]<;>omega),List.append_nil]))
       go_wp2_with fail
       go_roundw
       case rel=>exact⟨k+1,by omega,by go_num,by rw[HZ.out],HBk.out.trans (HBf.out.mono HBk.out.size)⟩
       case measure=>simp[intOf];omega}}
       {
       have hl0n:¬(0:Int)<=l0:=hl0
       have HZ:=zY (HSt.out.trans (by rw[selF,if_neg (by simp[onD,onB]<;>omega),List.append_nil]))
       go_wp2_with fail
       go_roundw
       case rel=>exact⟨k+1,by omega,by go_num,by rw[HZ.out],HBk.out.trans (HBf.out.mono HBk.out.size)⟩
       case measure=>simp[intOf];omega}}
       {
       have f2:(r0==(r:Int))=false:=by rw[beq_eq_false_iff_ne];exact e2
       have HZ:=zY (HSt.out.trans (by rw[selF,if_neg (by simp[onD,onB]<;>omega),List.append_nil]))
       go_wp2_with fail
       go_roundw
       case rel=>exact⟨k+1,by omega,by go_num,by rw[HZ.out],HBk.out.trans (HBf.out.mono HBk.out.size)⟩
       case measure=>simp[intOf];omega}}
       {
       have f1:(i0==(i2:Int))=false:=by rw[beq_eq_false_iff_ne];exact e1
       have HZ:=zY (HSt.out.trans (by rw[selF,if_neg (by simp[onD,onB]<;>omega),List.append_nil]))
       go_wp2_with fail
       go_roundw
       case rel=>exact⟨k+1,by omega,by go_num,by rw[HZ.out],HBk.out.trans (HBf.out.mono HBk.out.size)⟩
       case measure=>simp[intOf];omega}}
       {
       have f0:(k0==66)=false:=by rw[beq_eq_false_iff_ne];exact e0
       have HZ:=zY (HSt.out.trans (by rw[selF,if_neg (by simp[onD,onB]<;>omega),List.append_nil]))
       go_wp2_with fail
       go_roundw
       case rel=>exact⟨k+1,by omega,by go_num,by rw[HZ.out],HBk.out.trans (HBf.out.mono HBk.out.size)⟩
       case measure=>simp[intOf];omega}}
       {
       obtain rfl:k=F.length:=by omega
       have hkI:¬((F.length:Nat):Int)<(F.length:Int):=by omega
       rw[List.take_length,HDr.out,cut_step _ (by omega)]
       go_wp2
       go_roundw
       case rel=>exact⟨r+1,by omega,by go_num,rfl,HBj.out.trans (HBk.out.mono HBj.out.size)⟩
       case measure=>simp[intOf];omega}}
      {
      obtain rfl:r=d:=by omega
      have hrI:¬(r:Int)<(r:Int):=by omega
      go_wp2
      go_roundw
      case rel=>exact⟨i2+1,by omega,by go_num,by rw[show (i2+1)*r=i2*r+r from Nat.succ_mul i2 r],HB6.out.trans (HBj.out.mono HB6.out.size)⟩
      case measure=>simp[intOf];omega}}
     {
     obtain rfl:i2=F.length:=by omega
     have hiJ:¬((F.length:Nat):Int)<(F.length:Int):=by omega
     have z4:=(HS5.out.kept HB6.out).c 4
     rw[stream_all (s:=0) hd1 HSl.out,strB_bs]
     go_wp2
     go_roundw
     case rel=>exact⟨i+1,by omega,by go_num,HB4.out.trans ((HBr.out.trans (HB6.out.mono HBr.out.size)).mono HB4.out.size)⟩
     case measure=>simp[intOf];omega}}}
   {
   obtain rfl:i=L.length:=by omega
   have hiI:¬((L.length:Nat):Int)<(L.length:Int):=by omega
   have HAw:=zY (awake43_any wr (HTb.out wr HB.out))
   clear hB
   go_wp2_with fail
   refine HAw.out.mono ?_
   rintro e3 w3 ⟨rfl,hb3⟩
   have HB3:=zY (HB2.out.trans ((HB.out.trans (hb3.mono HB.out.size)).mono HB2.out.size))
   clear hb3
   go_wp2
   go_ret
   exact⟨rfl,HB3.out⟩}
end
end Go.Proofs.YthgenkkkapilhaaGreatDoor
namespace Go.Proofs.YthgenkkkapilhaaGreatDoor.lawVoContents
section
open Go.ChangeShapes Go.WideShapes Go.ChangeAt Go.RowKit
theorem lifted (os:Os) (started:os.Started) (H:Type) (enc:TypeId×Value->H):
  ReturnsInHanded {} Tryz.checked os 5 .any (fun w args=>(Rows.volumeContentsSpec.pre enc Tryz.prog Tryz.f5 Rows.volumeContentsRow.domain false w args/\laidMetH Tryz.prog Rows.volumeContentsRow.laid w)/\sizedMet enc Tryz.prog Tryz.f5 (OpenSpec.ofChange Rows.volumeContentsSpec) false w args)
   (Rows.volumeContentsSpec.post enc Tryz.prog Tryz.f5 false true false false):=by
 refine returns_shaped (C:=Tryz.checked) (X:=fun w _=>laidMetH Tryz.prog Rows.volumeContentsRow.laid w) (fun _ _ _ hh h=>h.of_heap hh) ownN started (by kernel_rfl) Tryz.func5
  (ChangeSpec.witness_shaped (enc:=enc) (C:=Tryz.checked) (os:=os) (X:=fun w _=>laidMetH Tryz.prog Rows.volumeContentsRow.laid w) false (World.laidAll Tryz.prog os Rows.volumeContentsRow.laid) #[.slice none 0 0,.int .u8 0] 8 (World.laidAll_os _ _ _)
   (World.shaped_of_ZipB (by kernel_rfl) (by kernel_rfl)) (by kernel_rfl) (by kernel_rfl) (by kernel_rfl)
   (by rw[MakeChecks.laidMetH_plain _ _ _ (by kernel_rfl)];exact laidMet_laidAll _ (by kernel_rfl) (by kernel_rfl))) ?_
 intro W base args ds gs before hval0 hW hc _ hL hsh _
 have hT:Tab W:=tab_of hL (by kernel_rfl) hsh
 have hval:∀(j:Nat) t v,Tryz.f5.params[j]?=some t->args[j]?=some v->Value.okWide Tryz.prog W .any base t v:=hval0
 have hW':=hW
 obtain⟨p,q,hA0,hV,rfl,_,_⟩:=hW
 have hA:DataW.TrodAll enc Tryz.prog W 0 (fun _=>true) true Tryz.f5.params.toList args.toList ds p:=hA0
 rw[Tryz.params5]at hA hval
 obtain⟨v0,vs0,d0,ds0,p0,q0,hargs,rfl,rfl,h0,r0⟩:=trodAll_cons hA
 obtain⟨v1,vs1,d1,ds1,p1,q1,rfl,rfl,rfl,h1,r1⟩:=trodAll_cons r0
 obtain⟨rfl,rfl,rfl⟩:=trodAll_nil r1
 obtain rfl:args= #[v0,v1]:=by cases args;simp_all
 obtain⟨rfl,rfl⟩:=trodVars_none hV
 have k0:=h0
 have lt0:∀x∈p0,x.block<W.heap.size:=by obtain⟨m,hm⟩:=k0;exact DataW.trod_lt m _ _ _ hm
 have k1:=h1
 have lt1:∀x∈p1,x.block<W.heap.size:=by obtain⟨m,hm⟩:=k1;exact DataW.trod_lt m _ _ _ hm
 obtain⟨x0,hx0⟩:=open_bats (hval 0 22 v0 rfl rfl) h0
 obtain⟨x1,rfl,hx1⟩:=open_u8 (hval 1 5 v1 rfl rfl) h1
 clear hA0 hval0 hL
 refine(lawcontents_any W v0 x0 hx0 x1 hx1 hT).mono fun e W' ⟨he,bel⟩=>?_
 subst he
 exact⟨_,rfl,_,_,_,[],_,[],hW',trodAll_mk1 (shut_bool Tryz.underlying4 _),(trodAll_cons_mk (Below.trod laidN (by kernel_rfl) (of_decide_eq_true (by kernel_rfl)) k0 bel lt0) (trodAll_cons_mk (Below.trod laidN (by kernel_rfl) (of_decide_eq_true (by kernel_rfl)) k1 bel lt1) trodAll_mk0)),rfl,bel.frame _,fun h=>by cases h⟩
end
end Go.Proofs.YthgenkkkapilhaaGreatDoor.lawVoContents
