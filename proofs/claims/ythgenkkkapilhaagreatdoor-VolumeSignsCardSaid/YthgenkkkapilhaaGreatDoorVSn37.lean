/-
  Joined: VrE.
-/
import Derived.Test.YthgenkkkapilhaaGreatDoorVSn34
import Derived.Test.YthgenkkkapilhaaGreatDoorVSn36
set_option linter.all false
set_option maxRecDepth 100000
set_option maxHeartbeats 64000000
namespace Go.Proofs.YthgenkkkapilhaaGreatDoor
section
open Go.RowKit
def usedF (d reel stripe n:Nat):Nat:=if d<=reel then 28 else min (n-(stripe*d+reel)*28) 28
theorem volused_any (w:World) (d reel stripe:Nat) (sp:Int) (st:ByteArray) (hd:d<=8) (hr:reel<=15) (hs:stripe<=100000) (hst:st.size<=1000000000):Calls Tryz.prog 86 #[.agg #[.int .i64 (d:Int),.int .i64 sp],.string st,.int .i64 (stripe:Int),.int .i64 (reel:Int)] w fun e w'=>e=.returned (.int .i64 (usedF d reel stripe st.size:Int))/\Below w.heap.size w w':=by
 have hK:=Blk.new w 24 [.int .i64 (d:Int),.int .i64 sp]
 change Blk (w.alloc (.cells #[.int .i64 (d:Int),.int .i64 sp] 24)) _ _ _ at hK
 have HB:=zY (zBl w (.cells #[.int .i64 (d:Int),.int .i64 sp] 24))
 obtain⟨n,hn⟩:=zNm (st.size)
 have hnI:(st.size:Int)=n:=by omega
 have hm:(stripe:Int)*d=((stripe*d:Nat):Int):=by simp
 obtain⟨m,hmm⟩:=zNm (stripe*d)
 have hmz:m<=800000:=by rw[<-hmm];exact Nat.le_trans (Nat.mul_le_mul hs hd) (by decide)
 rw[hmm]at hm
 have hmw:IntKind.i64.wrap ((stripe:Int)*d)=m:=by rw[hm];exact zIw (by omega)
 obtain⟨q,hq⟩:=zNm (m+reel)
 have hqI:(m:Int)+reel=q:=by omega
 have hqw:IntKind.i64.wrap ((m:Int)+reel)=q:=by rw[hqI];exact zIw (by omega)
 obtain⟨p,hp⟩:=zNm (q*28)
 have hpI:(q:Int)*28=p:=by omega
 have hpw:IntKind.i64.wrap ((q:Int)*28)=p:=by rw[hpI];exact zIw (by omega)
 have hsw:IntKind.i64.wrap ((n:Int)-p)=(n:Int)-p:=zIw (by omega)
 have hmax:max ((n:Int)-p) 0=((n-p:Nat):Int):=by omega
 have hmin:min (((n-p:Nat):Int)) 28=((min (n-p) 28:Nat):Int):=by omega
 have HU:Hid (usedF d reel stripe n=if d<=reel then 28 else min (n-p) 28):=zY (by rw[usedF,hmm,hq,hp])
 have c0:=hK.c 0
 clear hq hp hmm hK
 rw[hn]
 by_cases h:d<=reel
 {
 have hI:(d:Int)<=reel:=by omega
 rw[if_pos h]at HU
 rw[HU.out]
 go_enter Tryz.func86,Tryz.ntmps86
 go_wp2
 go_ret
 exact⟨rfl,HB.out⟩}
 {
 have hI:¬(d:Int)<=reel:=by omega
 rw[if_neg h]at HU
 rw[HU.out]
 go_enter Tryz.func86,Tryz.ntmps86
 go_wp2
 go_ret
 exact⟨rfl,HB.out⟩
}
def contE (d s:Int) (L:List Ses) (n:Int):Int:=
 if layE d s≠0 then layE d s else if n<1∨(L.length:Int)<n then 9 else match L[(n-1).toNat]? with
  |none=>9
  |some x=>if 65536<(partsB (strB (dirL x))).length then 6 else 0
def RetCont (w w':World) (d s:Int) (L:List Ses) (n:Int) (e:Ending):Prop:=∃(vp vs:Value) (st:ByteArray) (P:List ByteArray) (S:List (List ByteArray)),
 e=.returned (.tuple #[.agg #[vp,vs,.string st],.int .i64 (contE d s L n)])/\OwnSeq strS 9 w w' vp P/\OwnRows 51 9 w w' vs S /\
  (contE d s L n=0->∃x,1<=n/\n<=L.length/\1<=d/\d<=8/\0<=s/\s<=7/\L[(n-1).toNat]?=some x/\P=partsB (strB (dirL x))/\S=rowsL d.toNat s.toNat x.str/\st=x.str)
theorem RetCont.err {w w':World} {d s n:Int} {L:List Ses} {k:Int} (hk:contE d s L n=k) (h0:k≠0):RetCont w w' d s L n (.returned (.tuple #[.agg #[.slice none 0 0,.slice none 0 0,.string ⟨#[]⟩],.int .i64 k])):=
 ⟨_,_,_,[],[],by rw[hk],OwnSeq.nil _,OwnRows.nil _,fun e=>absurd (hk.symm.trans e) h0⟩
def SesAll (L:List Ses):Prop:=∀(i:Nat) (x:Ses),L[i]?=some x->x.num=(i:Int)+1/\SesV x/\x.str.size<=1835008
theorem dirL_len {x:Ses} (h:SesV x):(dirL x).length<=100000000:=by
 have h1:=restL_len h
 rw[dirL,List.length_append,dig8_len]
 omega
theorem contents_any (w:World) (id d s:Int) (v:Value) (L:List Ses) (n:Int) (hv:SeqAt sesS w v L) (hl:L.length<=1000) (hL:SesAll L) (hT:Tab w):Calls Tryz.prog 38 #[.agg #[.int .u32 id,.int .i64 d,.int .i64 s,v],.int .i64 n] w fun e w'=>RetCont w w' d s L n e/\Below w.heap.size w w':=by
 have Hv:=zY hv
 have HT:=zY hT
 have HL:=zY hL
 obtain⟨A,c,rfl,_,_⟩:=hv.slice
 have hK:=Blk.new w 28 [.int .u32 id,.int .i64 d,.int .i64 s,.slice A L.length c]
 have hR:=Blk.new (w.alloc (.cells #[.int .u32 id,.int .i64 d,.int .i64 s,.slice A L.length c] 28)) 98 [.slice none 0 0,.slice none 0 0,.string ⟨#[]⟩]
 change Blk ((w.alloc (.cells #[.int .u32 id,.int .i64 d,.int .i64 s,.slice A L.length c] 28)).alloc (.cells #[.slice none 0 0,.slice none 0 0,.string ⟨#[]⟩] 98)) _ _ _ at hR
 have hK2:=hK.alloc (.cells #[.slice none 0 0,.slice none 0 0,.string ⟨#[]⟩] 98)
 change Blk ((w.alloc (.cells #[.int .u32 id,.int .i64 d,.int .i64 s,.slice A L.length c] 28)).alloc (.cells #[.slice none 0 0,.slice none 0 0,.string ⟨#[]⟩] 98)) _ _ _ at hK2
 rw[World.size_alloc]at hR
 have HK:=zY hK2
 have HR:=zY hR
 have HB0:=zY ((zBl w (.cells #[.int .u32 id,.int .i64 d,.int .i64 s,.slice A L.length c] 28)).alloc (by simp) (.cells #[.slice none 0 0,.slice none 0 0,.string ⟨#[]⟩] 98))
 clear hv hT hL hK hR hK2
 go_enter Tryz.func38,Tryz.ntmps38
 go_upto_region 1 with fail
 generalize (w.alloc (.cells #[.int .u32 id,.int .i64 d,.int .i64 s,.slice A L.length c] 28)).alloc (.cells #[.slice none 0 0,.slice none 0 0,.string ⟨#[]⟩] 98)=wa at *
 have c1:=HK.out.c 1
 have c2:=HK.out.c 2
 go_wp2_with fail
 refine(laycheck_any _ d s).mono ?_
 rintro e1 w1 ⟨rfl,hb1⟩
 have HK1:=zY (HK.out.kept hb1)
 have HR1:=zY (HR.out.kept hb1)
 have HB1:=zYt HB0 hb1
 clear hb1 c1 c2 HK HR HB0
 obtain⟨k,hk⟩:=zNm (layE d s)
 rw[hk]
 by_cases h0:k=0
 {
 subst h0
 have hds:1<=d/\d<=8/\0<=s/\s<=7:=by
  by_cases hc:d<1∨8<d∨s<0∨7<s
  {
  rw[layE,if_pos hc]at hk
  cases hk}
  ·omega
 have a3:=HK1.out.c 3
 by_cases h1:n<1
 {
 have HE:=zY (RetCont.err (w:=w) (d:=d) (s:=s) (n:=n) (L:=L) (k:=9) (by rw[contE,hk,if_neg (by decide),if_pos (.inl h1)]) (by decide) (w':=setAll w1 (w.heap.size+1) 0 [.slice none 0 0,.slice none 0 0,.string ⟨#[]⟩]))
 have z0:=HR1.out.c 0
 have z1:=HR1.out.c 1
 have z2:=HR1.out.c 2
 have y0:=HR1.out.frozen 0
 have y1:=HR1.out.frozen 1
 have y2:=HR1.out.frozen 2
 have HW:=zY (HR1.out.setAll (i:=0) [.slice none 0 0,.slice none 0 0,.string ⟨#[]⟩])
 have HBw:=zY (below_setAll (g:=w.heap.size+1) (by omega) [.slice none 0 0,.slice none 0 0,.string ⟨#[]⟩] w1 0 HB1.out)
 clear hk
 go_wp2
 refine bodyPost_ret (results_row_tmp rfl _ _ (w.heap.size+1) 98 _ (0,0) _ rfl HW.out Tryz.underlying98 rfl (by kernel_rfl)) rfl ?_
 exact⟨HE.out,HBw.out⟩}
 {
 by_cases h2:(L.length:Int)<n
 {
 have HE:=zY (RetCont.err (w:=w) (d:=d) (s:=s) (n:=n) (L:=L) (k:=9) (by rw[contE,hk,if_neg (by decide),if_pos (.inr h2)]) (by decide) (w':=setAll w1 (w.heap.size+1) 0 [.slice none 0 0,.slice none 0 0,.string ⟨#[]⟩]))
 have z0:=HR1.out.c 0
 have z1:=HR1.out.c 1
 have z2:=HR1.out.c 2
 have y0:=HR1.out.frozen 0
 have y1:=HR1.out.frozen 1
 have y2:=HR1.out.frozen 2
 have HW:=zY (HR1.out.setAll (i:=0) [.slice none 0 0,.slice none 0 0,.string ⟨#[]⟩])
 have HBw:=zY (below_setAll (g:=w.heap.size+1) (by omega) [.slice none 0 0,.slice none 0 0,.string ⟨#[]⟩] w1 0 HB1.out)
 clear hk
 go_wp2
 refine bodyPost_ret (results_row_tmp rfl _ _ (w.heap.size+1) 98 _ (0,0) _ rfl HW.out Tryz.underlying98 rfl (by kernel_rfl)) rfl ?_
 exact⟨HE.out,HBw.out⟩}
 {
 obtain⟨m,hm⟩:∃m:Nat,n=(m:Int)+1:=⟨(n-1).toNat,by omega⟩
 have hmI:n-1=m:=by omega
 have hmw:IntKind.i64.wrap (n-1)=m:=by rw[hmI];exact zIw (by omega)
 have hml:m<L.length:=by omega
 have hmL:(m:Int)<L.length:=by omega
 obtain⟨x,hx⟩:∃x,L[m]?=some x:=⟨_,List.getElem?_eq_getElem hml⟩
 obtain⟨hnum,hV,hstr⟩:=HL.out m x hx
 have Hx:=zY hx
 have HSV:=zY hV
 have HSt:=zY hstr
 obtain⟨_,_,e9,_,_,h4⟩:=Hv.out
 cases e9
 obtain⟨b,o,cs,rfl,⟨ve,rfl,hve⟩,hc⟩:=h4 m x hx
 have HVe:=zY hve
 obtain⟨Ae,ce,rfl,_,_⟩:=hve.slice
 have e0:w1.cell? ⟨b,o+m*6,none⟩=some (.int .i64 x.num):=cell_below HB1.out (hc 0 _ rfl)
 have e1:w1.cell? ⟨b,o+m*6+1,none⟩=some (.int .i64 x.date):=cell_below HB1.out (hc 1 _ rfl)
 have e2:w1.cell? ⟨b,o+m*6+2,none⟩=some (.string x.prev):=cell_below HB1.out (hc 2 _ rfl)
 have e3:w1.cell? ⟨b,o+m*6+3,none⟩=some (.slice Ae x.ents.length ce):=cell_below HB1.out (hc 3 _ rfl)
 have e4:w1.cell? ⟨b,o+m*6+4,none⟩=some (.string x.str):=cell_below HB1.out (hc 4 _ rfl)
 have e5:w1.cell? ⟨b,o+m*6+5,none⟩=some (.string x.sig):=cell_below HB1.out (hc 5 _ rfl)
 clear hc h4 hx hve hV hstr
 have hnn:x.num=n:=by omega
 rw[hnn]at e0
 generalize hNe:x.ents.length=ne at *
 have HNe:=zY hNe
 obtain⟨xd,hxd⟩:=zNm (x.date)
 obtain⟨xp,hxp⟩:=zNm (x.prev)
 obtain⟨xs,hxs⟩:=zNm (x.str)
 obtain⟨xg,hxg⟩:=zNm (x.sig)
 rw[hxd]at e1
 rw[hxp]at e2
 rw[hxs]at e4
 rw[hxg]at e5
 have HF:=zY (And.intro hxd (And.intro hxp (And.intro hxs (And.intro hxg hnn))))
 have hnt:((m:Nat):Int).toNat=m:=rfl
 have HC0:Hid (contE d s L n=if 65536<(partsB (strB (dirL x))).length then 6 else 0):=zY (by rw[contE,hk,if_neg (by decide),if_neg (by omega),hmI,hnt,Hx.out])
 have HmN:Hid ((n-1).toNat=m):=zY (by omega)
 clear hNe hxd hxp hxs hxg hnn hnum hnt hk hm
 go_upto_region 7 with fail
 have HSe:=zY (Blk.new w1 45 [.int .i64 n,.int .i64 xd,.string xp,.slice Ae ne ce,.string xs,.string xg])
 have HSb:Hid (Blk (w1.alloc (.cells #[.int .i64 n,.int .i64 xd,.string xp,.slice Ae ne ce,.string xs,.string xg] 45)) w1.heap.size 45 [.int .i64 n,.int .i64 xd,.string xp,.slice Ae ne ce,.string xs,.string xg]):=zY HSe.out
 have HKb:=zY (HK1.out.alloc (.cells #[.int .i64 n,.int .i64 xd,.string xp,.slice Ae ne ce,.string xs,.string xg] 45))
 have HRb:=zY (HR1.out.alloc (.cells #[.int .i64 n,.int .i64 xd,.string xp,.slice Ae ne ce,.string xs,.string xg] 45))
 have HBb:=zY (HB1.out.alloc HB1.out.size (.cells #[.int .i64 n,.int .i64 xd,.string xp,.slice Ae ne ce,.string xs,.string xg] 45))
 have H1w:Hid (w.heap.size+2<=w1.heap.size):=zY (by have:=HR1.out.lt;omega)
 generalize w1.alloc (.cells #[.int .i64 n,.int .i64 xd,.string xp,.slice Ae ne ce,.string xs,.string xg] 45)=wb at *
 obtain⟨T,hT⟩:=zNm (strB (dirL x))
 have HTe:=zY hT
 have HTz:Hid (T.size<=1000000000):=zY (by rw[<-hT,strB_size];have:=dirL_len HSV.out;omega)
 have HDe:Hid (∀W,Below w.heap.size w W->Calls Tryz.prog 19 #[.agg #[.int .i64 n,.int .i64 xd,.string xp,.slice Ae ne ce,.string xs,.string xg]] W fun r w'=>r=.returned (.tuple #[.string T,.int .i64 0])/\Below W.heap.size W w'):=zY (fun W hW=>by
  have h:=direncode_ok W x _ (HVe.out.below hW) HSV.out (HT.out.below hW)
  rw[HF.out.1,HF.out.2.1,HF.out.2.2.1,HF.out.2.2.2.1,HF.out.2.2.2.2,hT]at h
  exact h)
 rw[hT]at HC0
 have s0:=HSb.out.c 0
 have s1:=HSb.out.c 1
 have s2:=HSb.out.c 2
 have s3:=HSb.out.c 3
 have s4:=HSb.out.c 4
 have s5:=HSb.out.c 5
 clear e0 e1 e2 e3 e4 e5 a3 hT HSe HK1 HR1 HB1 hmI hmw hml hmL
 go_wp2_with fail
 refine(HDe.out _ HBb.out).mono ?_
 rintro e6 w6 ⟨rfl,hb6⟩
 have HSc:=zY (HSb.out.kept hb6)
 have HKc:=zY (HKb.out.kept hb6)
 have HRc:=zY (HRb.out.kept hb6)
 have HBc:=zYt HBb hb6
 clear hb6 s0 s1 s2 s3 s4 s5 HSb HKb HRb HBb HDe
 go_upto_region 12 with fail
 obtain⟨PT,hPT⟩:=zNm (partsB T)
 obtain⟨np,hnp⟩:=zNm (PT.length)
 rw[hPT,hnp]at HC0
 have HPT:=zY (And.intro hPT hnp)
 have HPc:Hid (∀W:World,Calls Tryz.prog 20 #[.string T] W fun e w'=>(∃Ap cp,e=.returned (.slice Ap np cp)/\OwnSeq strS 9 W w' (.slice Ap np cp) PT)/\Below W.heap.size W w'):=zY (fun W=>(dirparts_any W T HTz.out).mono (by
  rintro e w' ⟨⟨vp,rfl,hvp⟩,hb⟩
  obtain⟨Ap,cp,rfl⟩:=hvp.slice
  rw[HPT.out.1,HPT.out.2]at hvp
  exact⟨⟨Ap,cp,by rw[HPT.out.1,HPT.out.2],hvp⟩,hb⟩))
 clear hPT hnp
 have H6:Hid (w1.heap.size<w6.heap.size):=zY HSc.out.lt
 go_cut [10] (fun cb wz=>∃(gc:Nat) (Ap:Option Addr) (cp:Nat),cb=.pointer (some ⟨gc,0,none⟩)/\w6.heap.size<=gc/\OwnSeq strS 9 w6 wz (.slice Ap np cp) PT/\Blk wz gc 98 [.slice Ap np cp,.slice none 0 0,.string xs]/\Below w6.heap.size w6 wz)
 case first=>
  have HKS:Hid (∀W,Below w6.heap.size w6 W->W.cell? ⟨w1.heap.size,4,none⟩=some (.string xs)):=zY (fun W h=>cell_below h (HSc.out.c 4))
  have HB:=zY ((Below.refl w6.heap.size w6).drew)
  have HS:=zY (HKS.out _ HB.out)
  refine wp_region_held_drew (S:=(fun W=>W.cell? ⟨w1.heap.size,4,none⟩=some (.string xs))) (by kernel_rfl) ?_ (fun hHeld=>?_)
  ·exact HS.out
  refine tk 0 ?_
  refine tk 2 ?_
  refine tk 3 ?_
  refine zEs [1,5] (zEc (fun K hK=>?_) (zEc (fun K hK=>?_) AllReadyH.nil))
  go_simp
  refine(HPc.out _).mono ?_
  rintro e7 w7 ⟨⟨Ap,cp,rfl,hvp⟩,hb7⟩
  (try go_wp2_with fail)
  have HP:=zY (hvp.low flatS (w0:=w6) (by first|exact HB.out.size|(have:=HB.out.size;simpa using this)))
  first|(have HC:=zY (HC.out.kept hb7))|skip
  have HB:=zYt HB hb7
  clear hb7 hvp
  have HS:=zY (HKS.out _ HB.out)
  refine hko hK (by exact HS.out) (fun _=>?_)
  clear hK K
  refine tk 4 ?_
  refine zE1 5 fun K hK=>?_
  go_simp
  have HC:Hid (Blk (w7.alloc (.cells #[.slice none 0 0,.slice none 0 0,.string ⟨#[]⟩] 98)) w7.heap.size 98 [.slice none 0 0,.slice none 0 0,.string ⟨#[]⟩]):=zY (Blk.new w7 98 [.slice none 0 0,.slice none 0 0,.string ⟨#[]⟩])
  have Hgc:Hid (w6.heap.size<=w7.heap.size):=zY HB.out.size
  have HB7x:=zY HB.out
  have HB:=zY (HB.out.alloc HB.out.size (.cells #[.slice none 0 0,.slice none 0 0,.string ⟨#[]⟩] 98))
  have HP7:=zY HP.out
  have HB7:=zY HB7x.out
  have HP:=zY (HP.out.alloc (.cells #[.slice none 0 0,.slice none 0 0,.string ⟨#[]⟩] 98))
  have HS:=zY (HKS.out _ HB.out)
  refine hko hK (by exact HS.out) (fun _=>?_)
  clear hK K
  refine zE1 6 fun K hK=>?_
  have k0:=HC.out.c 0
  have k1:=HC.out.c 1
  have k2:=HC.out.c 2
  have f0:=HC.out.frozen 0
  have f1:=HC.out.frozen 1
  have f2:=HC.out.frozen 2
  go_simp
  have HP:=zY (HP7.out.alloc (.cells #[.slice Ap np cp,.slice none 0 0,.string xs] 98))
  have HC:Hid (Blk (w7.alloc (.cells #[.slice Ap np cp,.slice none 0 0,.string xs] 98)) w7.heap.size 98 [.slice Ap np cp,.slice none 0 0,.string xs]):=zY (Blk.new w7 98 [.slice Ap np cp,.slice none 0 0,.string xs])
  have HB:=zY (HB7.out.alloc HB7.out.size (.cells #[.slice Ap np cp,.slice none 0 0,.string xs] 98))
  rotate_left
  go_simp
  have HC:Hid (Blk (w6.drew.alloc (.cells #[.slice none 0 0,.slice none 0 0,.string ⟨#[]⟩] 98)) w6.heap.size 98 [.slice none 0 0,.slice none 0 0,.string ⟨#[]⟩]):=zY (Blk.new w6.drew 98 [.slice none 0 0,.slice none 0 0,.string ⟨#[]⟩])
  have Hgc:Hid (w6.heap.size<=w6.heap.size):=zY HB.out.size
  have HB7x:=zY HB.out
  have HB:=zY (HB.out.alloc HB.out.size (.cells #[.slice none 0 0,.slice none 0 0,.string ⟨#[]⟩] 98))
  have HS:=zY (HKS.out _ HB.out)
  refine hko hK (by exact HS.out) (fun _=>?_)
  clear hK K
  refine zE1 1 fun K hK=>?_
  go_simp
  refine(HPc.out _).mono ?_
  rintro e7 w7 ⟨⟨Ap,cp,rfl,hvp⟩,hb7⟩
  (try go_wp2_with fail)
  have HP:=zY (hvp.low flatS (w0:=w6) (by first|exact HB.out.size|(have:=HB.out.size;simpa using this)))
  first|(have HC:=zY (HC.out.kept hb7))|skip
  have HB:=zYt HB hb7
  clear hb7 hvp
  have HS:=zY (HKS.out _ HB.out)
  refine hko hK (by exact HS.out) (fun _=>?_)
  clear hK K
  refine tk 4 ?_
  refine zE1 6 fun K hK=>?_
  have k0:=HC.out.c 0
  have k1:=HC.out.c 1
  have k2:=HC.out.c 2
  have f0:=HC.out.frozen 0
  have f1:=HC.out.frozen 1
  have f2:=HC.out.frozen 2
  go_simp
  have HP:=zY (HP.out.grown (grown_setAll w6.heap.size [.slice Ap np cp,.slice none 0 0,.string xs] w7 0) (.inr (HP.out.neT HC.out (by decide))))
  have HC:=zY (HC.out.setAll (i:=0) [.slice Ap np cp,.slice none 0 0,.string xs])
  have HB:=zY (below_setAll Hgc.out [.slice Ap np cp,.slice none 0 0,.string xs] w7 0 HB.out)
  rotate_left
  all_goals
   clear k0 k1 k2 f0 f1 f2
   have HS:=zY (HKS.out _ HB.out)
   refine hko hK (by exact HS.out) (fun _=>?_)
   clear hK K
   refine wpAnyH_done (by kernel_rfl) ?_ _
   go_wp2_with fail
   go_meet
   exact⟨_,_,_,rfl,Hgc.out,HP.out,HC.out,HB.out⟩
 case rest=>
  obtain⟨gc,Ap,cp,rfl,hgc,hp,hC,hb⟩:=hcut
  obtain⟨wd,hwd⟩:∃x,x=wc:=⟨_,rfl⟩
  subst hwd
  have HP:=zY hp
  have HC:=zY hC
  have HBd:=zY hb
  have Hgc:=zY hgc
  have HKd:=zY (HKc.out.kept hb)
  have HSd:=zY (HSc.out.kept hb)
  have HRd:=zY (HRc.out.kept hb)
  have HB0:=zYt HBc hb
  clear hgc hp hC hb HKc HSc HRc HPc
  have k0:=HC.out.c 0
  by_cases h65:65536<np
  {
  have h65I:(65536:Int)<np:=by omega
  have HE:=zY (RetCont.err (w:=w) (d:=d) (s:=s) (n:=n) (L:=L) (k:=6) (by rw[HC0.out,if_pos h65]) (by decide) (w':=setAll wd (w.heap.size+1) 0 [.slice none 0 0,.slice none 0 0,.string ⟨#[]⟩]))
  have z0:=HRd.out.c 0
  have z1:=HRd.out.c 1
  have z2:=HRd.out.c 2
  have y0:=HRd.out.frozen 0
  have y1:=HRd.out.frozen 1
  have y2:=HRd.out.frozen 2
  have HW:=zY (HRd.out.setAll (i:=0) [.slice none 0 0,.slice none 0 0,.string ⟨#[]⟩])
  have HBw:=zY (below_setAll (g:=w.heap.size+1) (by omega) [.slice none 0 0,.slice none 0 0,.string ⟨#[]⟩] wd 0 HB0.out)
  first|clear hk|skip
  go_wp2
  refine bodyPost_ret (results_row_tmp rfl _ _ (w.heap.size+1) 98 _ (0,0) _ rfl HW.out Tryz.underlying98 rfl (by kernel_rfl)) rfl ?_
  exact⟨HE.out,HBw.out⟩}
  {
  have h65I:¬(65536:Int)<np:=by omega
  have hc0:contE d s L n=0:=by rw[HC0.out,if_neg h65]
  have HC1:=zY hc0
  have HSt2:Hid (∀W:World,Calls Tryz.prog 84 #[.agg #[.int .i64 d,.int .i64 s],.string xs] W fun e w'=>(∃v,e=.returned (.tuple #[v,.int .i64 0])/\OwnRows 51 9 W w' v (rowsL d.toNat s.toNat xs))/\Below W.heap.size W w'):=zY (fun W=>by
   have h:=laystripes_ok W d.toNat s.toNat xs (by omega) (by omega) (by have:=HSt.out;rw[HF.out.2.2.1]at this;exact this)
   rw[Int.toNat_of_nonneg (by omega),Int.toNat_of_nonneg (by omega)]at h
   exact h)
  have c1:=HKd.out.c 1
  have c2:=HKd.out.c 2
  have s4:=HSd.out.c 4
  clear hc0 h65
  go_wp2_with fail
  refine(HSt2.out _).mono ?_
  rintro e8 w8 ⟨⟨vs,rfl,hrow⟩,hb8⟩
  obtain⟨As,cs,rfl⟩:=hrow.slice
  generalize hns:(rowsL d.toNat s.toNat xs).length=ns at *
  have Hns:=zY hns
  have HRow:=zY hrow
  have HC8:=zY (HC.out.kept hb8)
  have HR8:=zY (HRd.out.kept hb8)
  have HB8:=zYt HB0 hb8
  have HP8:Hid (OwnSeq strS 9 w6 w8 (.slice Ap np cp) PT):=zY (HP.out.stay fun k o _ ho _=>(hb8.block k (Array.getElem?_eq_some_iff.1 ho).1).trans ho)
  have Hgd:Hid (gc<wd.heap.size/\wd.heap.size<=w8.heap.size/\w6.heap.size<=wd.heap.size/\w1.heap.size<=w6.heap.size):=zY ⟨HC.out.lt,hb8.size,HBd.out.size,Nat.le_of_lt H6.out⟩
  clear hb8 hrow hns c1 c2 s4 k0 HC HRd HB0 HKd HSd
  have k1:=HC8.out.c 1
  have f1:=HC8.out.frozen 1
  go_upto_region 18 with fail
  have HPx:=zY (HP8.out.grown (grown_set w8 gc 1 (.slice As ns cs)) (.inr (HP8.out.neT HC8.out (by decide))))
  have HCx:=zY (HC8.out.set 1 (.slice As ns cs))
  have HRx:=zY (HR8.out.far (p:=⟨gc,1,none⟩) (show w.heap.size+1≠gc by have:=Hgc.out;have:=Hgd.out;have:=H1w.out;omega) (.slice As ns cs))
  have HBx:=zY (HB8.out.setCell (p:=⟨gc,1,none⟩) (show w.heap.size<=gc by have:=Hgc.out;have:=Hgd.out;have:=H1w.out;omega) (.slice As ns cs))
  have HRw:=zY (HRow.out.stay (W':=w8.setCell ⟨gc,1,none⟩ (.slice As ns cs)) fun k o hk hko _=>(Below.heap_setCell _ ⟨gc,1,none⟩ _ k (show k≠gc by have:=Hgd.out;omega)).trans hko)
  have Hwz:Hid ((w8.setCell ⟨gc,1,none⟩ (.slice As ns cs)).heap.size=w8.heap.size):=zY (by simp)
  generalize w8.setCell ⟨gc,1,none⟩ (.slice As ns cs)=w9 at *
  change Hid (Blk w9 gc 98 [.slice Ap np cp,.slice As ns cs,.string xs])at HCx
  clear HC8 HR8 HB8 HP8 HRow k1 f1
  have k0:=HCx.out.c 0
  have k1:=HCx.out.c 1
  have k2:=HCx.out.c 2
  have z0:=HRx.out.c 0
  have z1:=HRx.out.c 1
  have z2:=HRx.out.c 2
  have y0:=HRx.out.frozen 0
  have y1:=HRx.out.frozen 1
  have y2:=HRx.out.frozen 2
  have HW:=zY (HRx.out.setAll (i:=0) [.slice Ap np cp,.slice As ns cs,.string xs])
  have HBw:=zY (below_setAll (g:=w.heap.size+1) (by omega) [.slice Ap np cp,.slice As ns cs,.string xs] w9 0 HBx.out)
  have hg:=grown_setAll (w.heap.size+1) [.slice Ap np cp,.slice As ns cs,.string xs] w9 0
  have HPw:=zY ((HPx.out.grown hg (.inr (HPx.out.neT HRx.out (by decide)))).low flatS (w0:=w) (by have:=Hgd.out;have:=H1w.out;omega))
  have HRz:=zY ((HRw.out.stay fun k o hk hko _=>(hg.block k (Array.getElem?_eq_some_iff.1 hko).1 (by have:=Hgd.out;have:=H1w.out;simp;omega)).trans hko).low (w0:=w) (by have:=Hgd.out;have:=H1w.out;omega))
  clear hg
  go_wp2
  refine bodyPost_ret (results_row_tmp rfl _ _ (w.heap.size+1) 98 _ (0,0) _ rfl HW.out Tryz.underlying98 rfl (by kernel_rfl)) rfl ?_
  refine⟨⟨_,_,xs,PT,rowsL d.toNat s.toNat xs,by rw[HC1.out];rfl,HPw.out,HRz.out,fun _=>⟨x,by omega,by omega,hds.1,hds.2.1,hds.2.2.1,hds.2.2.2,?_,?_,?_,?_⟩⟩,HBw.out⟩
  ·rw[HmN.out];exact Hx.out
  ·rw[HTe.out,HPT.out.1]
  ·rw[HF.out.2.2.1]
  ·exact HF.out.2.2.1.symm}}}}
 {
 have HE:=zY (RetCont.err (w:=w) (d:=d) (s:=s) (n:=n) (L:=L) (k:=k) (by rw[contE,hk,if_pos h0]) h0 (w':=setAll w1 (w.heap.size+1) 0 [.slice none 0 0,.slice none 0 0,.string ⟨#[]⟩]))
 have z0:=HR1.out.c 0
 have z1:=HR1.out.c 1
 have z2:=HR1.out.c 2
 have y0:=HR1.out.frozen 0
 have y1:=HR1.out.frozen 1
 have y2:=HR1.out.frozen 2
 have HW:=zY (HR1.out.setAll (i:=0) [.slice none 0 0,.slice none 0 0,.string ⟨#[]⟩])
 have HBw:=zY (below_setAll (g:=w.heap.size+1) (by omega) [.slice none 0 0,.slice none 0 0,.string ⟨#[]⟩] w1 0 HB1.out)
 first|clear hk|skip
 go_wp2
 refine bodyPost_ret (results_row_tmp rfl _ _ (w.heap.size+1) 98 _ (0,0) _ rfl HW.out Tryz.underlying98 rfl (by kernel_rfl)) rfl ?_
 exact⟨HE.out,HBw.out⟩}
end
end Go.Proofs.YthgenkkkapilhaaGreatDoor
