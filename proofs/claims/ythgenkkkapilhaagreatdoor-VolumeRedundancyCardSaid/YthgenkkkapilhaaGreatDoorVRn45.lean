/-
  Joined: VrS VrG VrJ ErF LvrB.
-/
import Derived.Test.YthgenkkkapilhaaGreatDoorVRn39
import Derived.Test.YthgenkkkapilhaaGreatDoorVRn44
set_option linter.all false
set_option maxRecDepth 100000
set_option maxHeartbeats 64000000
namespace Go.Proofs.YthgenkkkapilhaaGreatDoor
section
open Go.RowKit
def FrmOk (f:Frm):Prop:=frE f.k f.r f.s f.i f.l f.d f.p f.t=0/\0<=f.a/\f.a<4294967296
def frmM (f:Frm):List Nat:=marL f.k.toNat f.r.toNat f.s.toNat f.i.toNat f.l.toNat f.d.toNat f.p.toNat f.a.toNat f.t
def celsL (fs:List Frm):List Nat:=flatCl (fs.map frmM)
theorem frmM_ok {f:Frm} (h:FrmOk f):Bytes (frmM f)/\(frmM f).length=44/\fencR f.k f.r f.s f.i f.l f.d f.p f.a f.t=.tuple #[.string (strB (markL++bodyL (frmM f))),.int .i64 0]:=by
 obtain⟨h',ha⟩:=h
 have h3:fencR f.k f.r f.s f.i f.l f.d f.p f.a f.t=.tuple #[.string (markS++strB (bodyL (frmM f))),.int .i64 0]:=by
  unfold fencR frmM
  rw[if_neg (by simpa using h')]
 rw[mark_cat]at h3
 have hm:Bytes (frmM f)/\(frmM f).length=44:=by
  obtain⟨k,r,s,i,l,d,p,a,t⟩:=f
  have h':frE k r s i l d p t=0:=h'
  have ha':0<=a/\a<4294967296:=ha
  obtain⟨g1,g2,g3,g4,g5,g6,g7,g8⟩:=frE_ok h'
  obtain⟨k,rfl⟩:∃n:Nat,k=n:=⟨k.toNat,by omega⟩
  obtain⟨r,rfl⟩:∃n:Nat,r=n:=⟨r.toNat,by omega⟩
  obtain⟨s,rfl⟩:∃n:Nat,s=n:=⟨s.toNat,by omega⟩
  obtain⟨i,rfl⟩:∃n:Nat,i=n:=⟨i.toNat,by omega⟩
  obtain⟨l,rfl⟩:∃n:Nat,l=n:=⟨l.toNat,by omega⟩
  obtain⟨d,rfl⟩:∃n:Nat,d=n:=⟨d.toNat,by omega⟩
  obtain⟨p,rfl⟩:∃n:Nat,p=n:=⟨p.toNat,by omega⟩
  obtain⟨a,rfl⟩:∃n:Nat,a=n:=⟨a.toNat,by omega⟩
  obtain⟨_,_,_,hb,hl,_,_⟩:=mar_ok h' (by omega:a<4294967296)
  exact⟨hb,hl⟩
 exact⟨hm.1,hm.2,h3⟩
theorem celsL_len (fs:List Frm):(celsL fs).length=852*fs.length:=by rw[celsL,flatC_len,List.length_map]
theorem celsL_snoc (fs:List Frm) (f:Frm):celsL (fs++[f])=celsL fs++(markL++bodyL (frmM f)):=by
 rw[celsL,List.map_append,flatC_app]
 show flatCl _++((markL++bodyL (frmM f))++[])=_
 rw[List.append_nil]
 rfl
theorem celsL_bytes {fs:List Frm} (h:∀f∈fs,FrmOk f):Bytes (celsL fs):=flatC_bytes fun m hm=>by
 obtain⟨f,hf,rfl⟩:=List.mem_map.1 hm
 exact⟨(frmM_ok (h f hf)).1,(frmM_ok (h f hf)).2.1⟩
theorem scjoin_ok (w:World) (v:Value) (fs:List Frm) (hv:SeqAt frmS w v fs) (hl:fs.length<=100) (ha:∀f∈fs,FrmOk f):
  Calls Tryz.prog 48 #[v] w fun e w'=>e=.returned (.tuple #[.string (strB (celsL fs)),.int .i64 0])/\Below w.heap.size w w':=by
 have Hv:=zY hv
 have Ha:=zY ha
 have Hby:=zY (celsL_bytes ha)
 obtain⟨A,c,rfl,h1,h2,h3⟩:=hv
 have HK0:Hid (Bld (w.alloc (.cells #[.pointer none,.slice none 0 0] 135)) w.heap.size w.heap.size (celsL (fs.take 0))):=zY (Bld.new w)
 have HB0:=zY (zBl w (.cells #[.pointer none,.slice none 0 0] 135))
 clear h3 ha
 obtain⟨R,hR⟩:=zNm (strB (celsL fs))
 rw[hR]
 have HR:=zY hR
 clear hR
 go_enter Tryz.func48,Tryz.ntmps48
 go_wp2
 go_loopw [11] (fun x wr=>∃k:Nat,k<=fs.length/\x=.int .i64 (k:Int)/\Bld wr w.heap.size w.heap.size (celsL (fs.take k))/\Below w.heap.size w wr) (fun x _=>fs.length-(intOf x).toNat)
 case atStart=>exact⟨0,by omega,rfl,HK0.out,HB0.out⟩
 case round=>
  obtain⟨k,hk,rfl,hbl,hB⟩:=hrel
  have Hbl:=zY hbl
  have HBr:=zY hB
  clear hbl hB HK0 HB0
  by_cases h:k<fs.length
  {
  have hkI:(k:Int)<fs.length:=by omega
  obtain⟨f,hf⟩:∃f,fs[k]?=some f:=⟨_,List.getElem?_eq_getElem h⟩
  have hok:=Ha.out f (List.mem_of_getElem? hf)
  obtain⟨hm1,hm2,hm3⟩:=frmM_ok hok
  obtain⟨_,_,e9,_,_,h4⟩:=Hv.out.below HBr.out
  cases e9
  obtain⟨b,o,_,rfl,rfl,h5⟩:=h4 k f hf
  have h28:=(frE_ok hok.1).2.2.2.2.2.2.2
  have HE:=zY (fun W=>fenc_any W f.k f.r f.s f.i f.l f.d f.p f.a f.t (by omega) hok.2)
  rw[hm3]at HE
  obtain⟨C,hC⟩:=zNm (strB (markL++bodyL (frmM f)))
  rw[hC]at HE
  have HCb:Hid (bs C=markL++bodyL (frmM f)):=zY (by rw[<-hC,bs_strB (bytes_app (b01_bytes markL_01) (bodyL_bytes hm1 hm2))])
  have hCz:C.size<=1000000:=by rw[<-hC,strB_size,List.length_append,markL_len,bodyL_len];omega
  have HTs:Hid (celsL (fs.take (k+1))=celsL (fs.take k)++bs C):=zY (by rw[List.take_add_one,hf,HCb.out,<-celsL_snoc];rfl)
  clear hm1 hm2 hm3 hok hC HCb h28
  have h5':∀j u,f.cells[j]?=some u->wr.cell? ⟨b,o+k*9+j,none⟩=some u:=h5
  obtain⟨k0,r0,s0,i0,l0,d0,p0,a0,t0⟩:=f
  have c0:=h5' 0 _ rfl
  have c1:=h5' 1 _ rfl
  have c2:=h5' 2 _ rfl
  have c3:=h5' 3 _ rfl
  have c4:=h5' 4 _ rfl
  have c5:=h5' 5 _ rfl
  have c6:=h5' 6 _ rfl
  have c7:=h5' 7 _ rfl
  have c8:=h5' 8 _ rfl
  dsimp only at c0 c1 c2 c3 c4 c5 c6 c7 c8 HE
  clear h4 h5 h5' hf
  rw[Nat.add_zero]at c0
  go_upto_region 5 with fail
  have hA:Below wr.heap.size wr (wr.alloc (.cells #[.int .i64 k0,.int .i64 r0,.int .i64 s0,.int .i64 i0,.int .i64 l0,.int .i64 d0,.int .i64 p0,.int .u32 a0,.string t0] 49)):=(Below.refl _ _).alloc (Nat.le_refl _) _
  have HZ:=zY (Box9.blk (Blk.new wr 49 [.int .i64 k0,.int .i64 r0,.int .i64 s0,.int .i64 i0,.int .i64 l0,.int .i64 d0,.int .i64 p0,.int .u32 a0,.string t0]))
  change Hid (Box9 (wr.alloc (.cells #[.int .i64 k0,.int .i64 r0,.int .i64 s0,.int .i64 i0,.int .i64 l0,.int .i64 d0,.int .i64 p0,.int .u32 a0,.string t0] 49)) _ _ _ _ _ _ _ _ _ _)at HZ
  have Hbl1:=zY (Bld.moved Hbl.out (fun k o hk _=>(hA.block k (Array.getElem?_eq_some_iff.1 hk).1).trans hk))
  have HB1:=zYt HBr hA
  clear hA Hbl HBr c0 c1 c2 c3 c4 c5 c6 c7 c8
  generalize wr.alloc (.cells #[.int .i64 k0,.int .i64 r0,.int .i64 s0,.int .i64 i0,.int .i64 l0,.int .i64 d0,.int .i64 p0,.int .u32 a0,.string t0] 49)=wa at *
  obtain⟨c0,c1,c2,c3,c4,c5,c6,c7,c8⟩:=HZ.out
  unfold frV at HE
  go_upto_region 8 with(go_at_call 96;refine(HE.out _).mono ?_;rintro e w1 ⟨rfl,hb1⟩)
  have HB2:=zYt HB1 hb1
  have hbl2:=Bld.moved Hbl1.out (fun k o hk _=>(hb1.block k (Array.getElem?_eq_some_iff.1 hk).1).trans hk)
  have hln:(celsL (fs.take k)).length<=1000000:=by
   rw[celsL_len,List.length_take]
   omega
  have HW:=zY (ws_any w1 w.heap.size w.heap.size _ C hbl2 hln hCz HB2.out.size)
  clear hb1 HB1 Hbl1 HZ HE hbl2 c0 c1 c2 c3 c4 c5 c6 c7 c8
  go_wp2_with (go_at_call 64;refine HW.out.mono ?_;rintro e w2 ⟨rfl,hbl3,hb2⟩)
  go_roundw
  case rel=>exact⟨k+1,by omega,by go_num,by rw[HTs.out];exact hbl3,HB2.out.trans hb2⟩
  case measure=>simp[intOf];omega}
  {
  obtain rfl:k=fs.length:=by omega
  have hbl:=Hbl.out
  rw[List.take_length]at hbl
  have HS:=zY (str_any wr w.heap.size w.heap.size _ Hby.out hbl HBr.out.size)
  rw[HR.out]at HS
  clear hbl
  go_wp2_with (go_at_call 65;refine HS.out.mono ?_;rintro e w1 ⟨rfl,_,hb1⟩)
  go_ret2
  exact⟨rfl,HBr.out.trans hb1⟩}
def reelsL (id d s n:Int) (x:Ses):List (List Frm):=(List.range (d.toNat+s.toNat)).map fun r=>reelL id d s n r (partsB (strB (dirL x))) (rowsL d.toNat s.toNat x.str) x.str
def framesF (id d s:Int) (L:List Ses) (n:Int):List Frm:=
 if contE d s L n≠0 then [] else match L[(n-1).toNat]? with
  |none=>[]
  |some x=>(reelsL id d s n x).flatten
theorem framesF_err {id d s n:Int} {L:List Ses} (h:contE d s L n≠0):framesF id d s L n=[]:=by rw[framesF,if_pos h]
theorem framesF_ok {id d s n:Int} {L:List Ses} {x:Ses} (h:contE d s L n=0) (hx:L[(n-1).toNat]?=some x):framesF id d s L n=(reelsL id d s n x).flatten:=by rw[framesF,if_neg (by omega),hx]
theorem contE_parts {d s n:Int} {L:List Ses} {x:Ses} (h:contE d s L n=0) (hx:L[(n-1).toNat]?=some x):(partsB (strB (dirL x))).length<=65536:=by
 unfold contE at h
 split at h
 ·omega
 {
 split at h
 ·omega
 {
 rw[hx]at h
 dsimp only at h
 split at h
 ·omega
 ·omega}}
theorem partsB_size (s:ByteArray):∀p∈partsB s,p.size<=28:=by
 intro p hp
 obtain⟨k,_,rfl⟩:=List.mem_map.1 hp
 rw[partB,ByteArray.size_extract]
 omega
theorem rowsL_mem {d s:Nat} {st:ByteArray} {x:List ByteArray} (h:x∈rowsL d s st):x.length=d+s:=by
 obtain⟨y,hy,rfl⟩:=List.mem_map.1 h
 obtain⟨k,_,rfl⟩:=List.mem_map.1 hy
 rw[List.length_append,datL_len]
 simp[sparL]
theorem rowsL_len {d s:Nat} {st:ByteArray} (hd:1<=d) (hs:st.size<=1835008):(rowsL d s st).length<=65537:=by
 rw[rowsL,List.length_map,stripL,List.length_map,List.length_range]
 unfold strN
 apply Nat.le_of_lt_succ
 rw[Nat.div_lt_iff_lt_mul (by omega)]
 have:28*1<=28*d:=by omega
 have:=Nat.mul_le_mul_left (65537+1) this
 omega
theorem reelL_len {id d s n:Int} {r:Nat} {P:List ByteArray} {S:List (List ByteArray)} {st:ByteArray}:(reelL id d s n r P S st).length=P.length+S.length:=by
 rw[reelL,List.length_append]
 simp[partsF,stripsF]
theorem frames_any (w:World) (id d s:Int) (v:Value) (L:List Ses) (n:Int) (hv:SeqAt sesS w v L) (hl:L.length<=1000) (hL:SesAll L) (hT:Tab w):Calls Tryz.prog 13 #[.agg #[.int .u32 id,.int .i64 d,.int .i64 s,v],.int .i64 n] w fun e w'=>(∃vf,e=.returned (.tuple #[vf,.int .i64 (contE d s L n)])/\OwnSeq frmS 49 w w' vf (framesF id d s L n))/\Below w.heap.size w w':=by
 have Hv:=zY hv
 have HL:=zY hL
 have HCo:=zY (fun W (hW:Below w.heap.size w W)=>contents_any W id d s v L n (hv.below hW) hl hL (hT.below hW))
 obtain⟨A,c,rfl,_,_⟩:=hv.slice
 have hK:=Blk.new w 28 [.int .u32 id,.int .i64 d,.int .i64 s,.slice A L.length c]
 have HK:Hid (Blk (w.alloc (.cells #[.int .u32 id,.int .i64 d,.int .i64 s,.slice A L.length c] 28)) w.heap.size 28 [.int .u32 id,.int .i64 d,.int .i64 s,.slice A L.length c]):=zY hK
 have HB0:=zY (zBl w (.cells #[.int .u32 id,.int .i64 d,.int .i64 s,.slice A L.length c] 28))
 obtain⟨k,hk⟩:=zNm (contE d s L n)
 rw[hk]
 have Hk:=zY hk
 clear hv hL hT hK hk
 go_enter Tryz.func13,Tryz.ntmps13
 go_upto_region 1 with fail
 generalize w.alloc (.cells #[.int .u32 id,.int .i64 d,.int .i64 s,.slice A L.length c] 28)=wa at *
 have c0:=HK.out.c 0
 have c1:=HK.out.c 1
 have c2:=HK.out.c 2
 have c3:=HK.out.c 3
 go_wp2_with fail
 refine(HCo.out _ HB0.out).mono ?_
 rintro e1 w1 ⟨⟨vp,vs,st,P,S,rfl,hpo,hso,hok⟩,hb1⟩
 have hp:=hpo.atF flatS hb1.size
 have hs:=hso.at hb1.size
 clear hpo hso
 obtain⟨Ap,cp,rfl,_,_⟩:=hp.slice
 obtain⟨As,cs,rfl,_,_⟩:=hs.slice
 have HP:=zY hp
 have HS:=zY hs
 have Hok:=zY hok
 have HK1:=zY (HK.out.kept hb1)
 have HB1:=zYt HB0 hb1
 clear hb1 hp hs hok c0 c1 c2 c3 HK HB0 HCo
 have hk:=Hk.out
 rw[hk]at Hok⊢
 have HC0:=zY (Blk.new w1 98 [.slice Ap P.length cp,.slice As S.length cs,.string st])
 have HC:Hid (Blk (w1.alloc (.cells #[.slice Ap P.length cp,.slice As S.length cs,.string st] 98)) w1.heap.size 98 [.slice Ap P.length cp,.slice As S.length cs,.string st]):=zY HC0.out
 have HK2:=zY (HK1.out.alloc (.cells #[.slice Ap P.length cp,.slice As S.length cs,.string st] 98))
 have HB2:=zY (HB1.out.alloc HB1.out.size (.cells #[.slice Ap P.length cp,.slice As S.length cs,.string st] 98))
 have HBw:=zY (zBl w1 (.cells #[.slice Ap P.length cp,.slice As S.length cs,.string st] 98))
 have HPb:=zY (HP.out.below HBw.out)
 have HSb:=zY (HS.out.below HBw.out)
 clear HC0 HK1 HB1 HP HS
 by_cases h0:k=0
 {
 subst h0
 obtain⟨x,hn1,hn2,hd1,hd2,hs1,hs2,hx,rfl,rfl,rfl⟩:=Hok.out rfl
 have hF:framesF id d s L n=(reelsL id d s n x).flatten:=framesF_ok hk hx
 have HF:=zY hF
 have hPl:=contE_parts hk hx
 have hPz:=partsB_size (strB (dirL x))
 have hst:=(HL.out _ _ hx).2.2
 have hSl:(rowsL d.toNat s.toNat x.str).length<=65537:=rowsL_len (by omega) hst
 have hSm:∀y∈rowsL d.toNat s.toNat x.str,y.length=d.toNat+s.toNat:=fun y hy=>rowsL_mem hy
 obtain⟨RL,hRL⟩:∃RL,RL=reelsL id d s n x:=⟨_,rfl⟩
 have HRl:Hid (RL.length=d.toNat+s.toNat):=zY (by rw[hRL];simp[reelsL])
 have HRg:Hid (∀i,i<d.toNat+s.toNat->RL[i]?=some (reelL id d s n i (partsB (strB (dirL x))) (rowsL d.toNat s.toNat x.str) x.str)):=zY (fun i hi=>by rw[hRL,reelsL,List.getElem?_map,List.getElem?_range hi];rfl)
 have HRz:Hid (∀y∈RL,y.length<=131073):=zY (by
  rw[hRL]
  intro y hy
  obtain⟨r,_,rfl⟩:=List.mem_map.1 hy
  rw[reelL_len]
  omega)
 rw[<-hRL]at HF
 have Hx:=zY hx
 generalize partsB (strB (dirL x))=P at *
 generalize rowsL d.toNat s.toNat x.str=S at *
 generalize x.str=st at *
 have HPz:=zY hPz
 have HSm:=zY hSm
 have hone:(Value.slice A L.length c).oneCell'=true:=rfl
 obtain⟨wb,hwb⟩:∃wb,wb=w1.alloc (.cells #[.slice Ap P.length cp,.slice As S.length cs,.string st] 98):=⟨_,rfl⟩
 rw[<-hwb]at HC HK2 HB2 HPb HSb
 have HOn:Hid (∀(V:World) (r:Nat),Below wb.heap.size wb V->r<d.toNat+s.toNat->Calls Tryz.prog 39 #[.agg #[.int .u32 id,.int .i64 d,.int .i64 s,.slice A L.length c],.int .i64 n,.int .i64 (r:Int),.agg #[.slice Ap P.length cp,.slice As S.length cs,.string st]] V fun e w'=>RetSeq frmS 49 V w' (reelL id d s n r P S st) e/\Below V.heap.size V w'):=zY (fun V r hV hr=>onreel_any V id d s n r _ _ _ st P S hone (HPb.out.below hV) (HSb.out.below hV) hPl HPz.out hSl (fun y hy=>by rw[HSm.out y hy];exact hr) ⟨hd1,hd2⟩ (by omega) (by omega))
 have c1:=HK2.out.c 1
 have c2:=HK2.out.c 2
 have hdsI:d+s=((d.toNat+s.toNat:Nat):Int):=by omega
 obtain⟨N,hN⟩:=zNm (d.toNat+s.toNat)
 rw[hN]at hdsI HRl HRg HOn
 have hN15:N<=15:=by omega
 have hdsw:IntKind.i64.wrap (d+s)=N:=by rw[hdsI];exact zIw (by omega)
 clear hF hRL hx hPl hPz hst hSl hSm hone hk Hok hN
 go_upto_region 4 with fail
 rw[<-hwb]
 clear hwb HBw
 go_wp2
 go_loopw [8,26] (fun y x wr=>∃i:Nat,i<=N/\x=.int .i64 (i:Int)/\OwnSeq frmS 49 wb wr y (RL.take i).flatten/\Below wb.heap.size wb wr) (fun _ x _=>N-(intOf x).toNat)
 case atStart=>exact⟨0,by omega,rfl,OwnSeq.nil _,Below.refl _ _⟩
 case round=>
  obtain⟨i,hi,rfl,ho,hB⟩:=hrel
  have HO:=zY ho
  have HB:=zY hB
  clear c1 c2
  by_cases h:i<N
  {
  obtain⟨Ao,co,rfl⟩:=ho.slice
  clear ho hB
  have hiI:(i:Int)<N:=by omega
  have hx:=HRg.out i h
  obtain⟨F,hF⟩:=zNm (reelL id d s n i P S st)
  rw[hF]at hx
  have HT:Hid ((RL.take (i+1)).flatten=(RL.take i).flatten++F):=zY (by rw[List.take_add_one,hx,List.flatten_append];simp)
  have hzz:∀(l:List (List Frm)),(∀y∈l,y.length<=131073)->l.flatten.length<=l.length*131073:=by
   intro l
   induction l with
   |nil=>intro _;simp
   |cons y r ih=>
    intro h
    have h1:=ih fun z hz=>h z (List.mem_cons_of_mem _ hz)
    have h2:=h y List.mem_cons_self
    rw[List.flatten_cons,List.length_append,List.length_cons,Nat.add_mul]
    omega
  have hz1:=hzz (RL.take i) fun y hy=>HRz.out y (List.mem_of_mem_take hy)
  have hz2:=HRz.out F (List.mem_of_getElem? hx)
  rw[List.length_take]at hz1
  have Hl1:Hid ((RL.take i).flatten.length+F.length<=100000000):=zY (by
   have:min i RL.length*131073<=15*131073:=Nat.mul_le_mul (by omega) (Nat.le_refl _)
   omega)
  have HCl:=zY (HOn.out wr i HB.out h)
  rw[hF]at HCl
  have HKr:=HK2.out.kept HB.out
  have HCr:=HC.out.kept HB.out
  have a0:=HKr.c 0
  have a1:=HKr.c 1
  have a2:=HKr.c 2
  have a3:=HKr.c 3
  have k0:=HCr.c 0
  have k1:=HCr.c 1
  have k2:=HCr.c 2
  generalize hno:(RL.take i).flatten.length=no at *
  have Hno:=zY hno
  have Hl1:Hid ((RL.take i).flatten.length+F.length<=100000000):=zY (by rw[hno];exact Hl1.out)
  clear hno hzz hz1 hz2 hx hF HKr HCr
  go_wp2_with fail
  refine HCl.out.mono ?_
  rintro e5 w5 ⟨⟨vf,rfl,hf⟩,hb5⟩
  have HB5:=zYt HB hb5
  have HO5:=zY (HO.out.stay (W':=w5) fun k o _ ho _=>(hb5.block k (Array.getElem?_eq_some_iff.1 ho).1).trans ho)
  have HSr:Hid (SrcAt frmS wb w5 vf F):=zY (SrcAt.flat flatFrm (hf.at hb5))
  clear hf hb5 a0 a1 a2 a3 k0 k1 k2 HCl
  go_wp2_with (at_builtin;refine append_seq (w0:=wb) Tryz.elemFrm rfl _ _ rfl rfl HO5.out rfl HSr.out Hl1.out HB5.out ?_;intro vb w6 hob _ hbb;have KV:=zY hob;have KC:=zY hbb;clear hob hbb)
  go_roundw
  case rel=>exact⟨i+1,by omega,by go_num,by rw[HT.out];exact KV.out,KC.out⟩
  case measure=>simp[intOf];omega}
  {
  obtain rfl:i=N:=by omega
  have hiI:¬((i:Nat):Int)<(i:Int):=by omega
  have hall:(RL.take i).flatten=framesF id d s L n:=by rw[HF.out,List.take_of_length_le (by rw[HRl.out];exact Nat.le_refl _)]
  rw[hall]at HO
  clear hall ho hB
  go_wp2
  go_ret2
  exact⟨⟨_,rfl,HO.out.low flatFrm HB2.out.size⟩,HB2.out.trans (HB.out.mono HB2.out.size)⟩}}
 {
 have h0b:(k==0)=false:=by rw[beq_eq_false_iff_ne];exact h0
 have HF:=zY (framesF_err (id:=id) (by rw[hk];exact h0:contE d s L n≠0))
 clear hk Hok
 go_wp2
 go_ret2
 exact⟨⟨_,rfl,by rw[HF.out];exact OwnSeq.nil _⟩,HB2.out⟩}
def natS:Shape Nat where
 n:=1
 R _ cs x:=cs=[.int .u8 (x:Int)]
 len h:=by rw[h];rfl
 one h u hu:=by rw[h]at hu;rw[List.mem_singleton.1 hu];rfl
 keep h _:=h
theorem flatN:Flat natS:=fun _ _ _ _ h=>h
theorem SeqAt.bytes {W:World} {v:Value} {xs:List Nat} (h:SeqAt natS W v xs):BytesAt W v xs:=by
 obtain⟨A,c,e,h1,h2,h3⟩:=h
 refine⟨A,c,e,h1,h2,fun i x hi=>?_⟩
 obtain⟨b,o,cs,e1,rfl,h4⟩:=h3 i x hi
 have:=h4 0 _ rfl
 rw[show o+i*natS.n+0=o+i by show o+i*1+0=o+i;omega]at this
 exact⟨b,o,_,e1,this,rfl⟩
end
section
structure GF where
 n:Nat
 lt:n<256
theorem GF.ext:∀{a b:GF},a.n=b.n->a=b
 |⟨_,_⟩,⟨_,_⟩,rfl=>rfl
instance:Add GF:=⟨fun a b=>⟨a.n^^^b.n,xor_lt a.lt b.lt⟩⟩
instance:Mul GF:=⟨fun a b=>⟨gmul a.n b.n,gmul_lt _ a.lt⟩⟩
instance:OfNat GF 0:=⟨⟨0,by omega⟩⟩
instance:OfNat GF 1:=⟨⟨1,by omega⟩⟩
theorem GF.add_n (a b:GF):(a+b).n=a.n^^^b.n:=rfl
theorem GF.mul_n (a b:GF):(a*b).n=gmul a.n b.n:=rfl
theorem GF.add_assoc (a b c:GF):a+b+c=a+(b+c):=ext (Nat.xor_assoc _ _ _)
theorem GF.add_comm (a b:GF):a+b=b+a:=ext (Nat.xor_comm _ _)
theorem GF.add_self (a:GF):a+a=0:=ext (Nat.xor_self _)
theorem GF.add_zero (a:GF):a+0=a:=ext (Nat.xor_zero _)
theorem GF.zero_add (a:GF):0+a=a:=ext (Nat.zero_xor _)
theorem GF.mul_comm (a b:GF):a*b=b*a:=ext (gmul_comm a.lt b.lt)
theorem GF.mul_assoc (a b c:GF):a*b*c=a*(b*c):=ext (gmul_assoc a.lt b.lt c.lt)
theorem GF.mul_add (a b c:GF):a*(b+c)=a*b+a*c:=ext (gmul_xor_right _ _ _)
theorem GF.add_mul (a b c:GF):(a+b)*c=a*c+b*c:=ext (gmul_xor_left _ a.lt b.lt)
theorem GF.mul_zero (a:GF):a*0=0:=ext (show gmul a.n 0=0 from gmul_zero_right a.n)
theorem GF.zero_mul (a:GF):0*a=0:=ext (gmul_zero_left a.lt)
theorem GF.mul_eq_zero {a b:GF} (h:a*b=0):a=0∨b=0:=by
 have h1:gmul a.n b.n=0:=congrArg GF.n h
 rcases gmul_eq_zero a.lt b.lt h1 with e|e
 ·exact .inl (ext e)
 ·exact .inr (ext e)
theorem GF.add_eq_zero {a b:GF} (h:a+b=0):a=b:=by
 have h1:=congrArg (· + b) h
 simp only[add_assoc,add_self,add_zero,zero_add]at h1
 exact h1
instance:Std.Associative (α:=GF) (· + ·):=⟨GF.add_assoc⟩
instance:Std.Commutative (α:=GF) (· + ·):=⟨GF.add_comm⟩
instance:Std.Associative (α:=GF) (· * ·):=⟨GF.mul_assoc⟩
instance:Std.Commutative (α:=GF) (· * ·):=⟨GF.mul_comm⟩
def GF.ev (x:GF):List GF->GF
 |[]=>0
 |a::p=>a+x*ev x p
def GF.sdiv (r:GF):List GF->List GF
 |[]=>[]
 |[_]=>[]
 |_::b::p=>ev r (b::p)::sdiv r (b::p)
theorem GF.sdiv_len (r:GF):∀p,(sdiv r p).length=p.length-1
 |[]=>rfl
 |[_]=>rfl
 |_::b::p=>by
  show (sdiv r (b::p)).length+1=_
  rw[sdiv_len r (b::p)]
  rfl
theorem GF.sdiv_ev (r x:GF):∀p,ev x p=ev r p+(x+r)*ev x (sdiv r p)
 |[]=>by
  show (0:GF)=0+(x+r)*0
  rw[mul_zero,add_zero]
 |[a]=>by
  show a+x*0=a+r*0+(x+r)*0
  rw[mul_zero,mul_zero,mul_zero,add_zero,add_zero]
 |a::b::p=>by
  have ih:=sdiv_ev r x (b::p)
  show a+x*ev x (b::p)=a+r*ev r (b::p)+(x+r)*(ev r (b::p)+x*ev x (sdiv r (b::p)))
  generalize ev x (sdiv r (b::p))=q at *
  generalize ev r (b::p)=e at *
  rw[ih]
  simp only[mul_add,add_mul]
  have h0:=add_self (r*e)
  have h1:a+r*e+(x*e+r*e+(x*(x*q)+r*(x*q)))=a+(x*e+(x*(x*q)+r*(x*q)))+(r*e+r*e):=by ac_rfl
  rw[h1,h0,add_zero]
  ac_rfl
theorem GF.ev_zeros (x:GF):∀p:List GF,(∀c∈p,c=0)->ev x p=0
 |[],_=>rfl
 |a::p,h=>by
  show a+x*ev x p=0
  rw[h a List.mem_cons_self,ev_zeros x p fun c hc=>h c (List.mem_cons_of_mem _ hc),mul_zero,add_zero]
theorem GF.sdiv_zeros (r:GF):∀p:List GF,(∀c∈sdiv r p,c=0)->∀c∈p.drop 1,c=0
 |[],_,c,hc=>by cases hc
 |[_],_,c,hc=>by cases hc
 |a::b::p,h,c,hc=>by
  have h1:ev r (b::p)=0:=h _ List.mem_cons_self
  have h2:=sdiv_zeros r (b::p) fun c hc=>h c (List.mem_cons_of_mem _ hc)
  have h3:∀c∈p,c=0:=h2
  have h4:b=0:=by
   have h5:b+r*ev r p=0:=h1
   rw[ev_zeros r p h3,mul_zero,add_zero]at h5
   exact h5
  rcases List.mem_cons.1 hc with rfl|hc
  ·exact h4
  ·exact h3 c hc
theorem GF.roots_zero:∀(xs:List GF) (p:List GF),xs.Nodup->(∀x∈xs,ev x p=0)->p.length<=xs.length->∀c∈p,c=0
 |[],p,_,_,h,c,hc=>by
  rw[List.eq_nil_of_length_eq_zero (Nat.le_zero.1 h)]at hc
  cases hc
 |x::xs,[],_,_,_,c,hc=>by cases hc
 |x::xs,a::p,hn,hr,hl,c,hc=>by
  have h1:=hr x List.mem_cons_self
  have h2:=roots_zero xs (sdiv x (a::p)) (List.nodup_cons.1 hn).2 (fun y hy=>by
   have h3:=hr y (List.mem_cons_of_mem _ hy)
   rw[sdiv_ev x y,h1,zero_add]at h3
   rcases mul_eq_zero h3 with e|e
   {
   have:=add_eq_zero e
   subst this
   exact absurd hy (List.nodup_cons.1 hn).1}
   ·exact e) (by rw[sdiv_len];simp at hl⊢;omega)
  have h3:∀c∈p,c=0:=sdiv_zeros x (a::p) h2
  rcases List.mem_cons.1 hc with rfl|hc
  {
  have h4:c+x*ev x p=0:=h1
  rw[ev_zeros x p h3,mul_zero,add_zero]at h4
  exact h4}
  {
  exact h3 c hc
}
def gf (n:Nat):GF:=⟨n%256,Nat.mod_lt _ (by omega)⟩
theorem gf_n {n:Nat} (h:n<256):(gf n).n=n:=Nat.mod_eq_of_lt h
theorem gf_inj {a b:Nat} (ha:a<256) (hb:b<256) (h:gf a=gf b):a=b:=by
 have:=congrArg GF.n h
 rwa [gf_n ha,gf_n hb]at this
theorem gf_add {a b:Nat} (ha:a<256) (hb:b<256):gf (a^^^b)=gf a+gf b:=by
 apply GF.ext
 rw[GF.add_n,gf_n (xor_lt ha hb),gf_n ha,gf_n hb]
theorem gf_mul {a b:Nat} (ha:a<256) (hb:b<256):gf (gmul a b)=gf a*gf b:=by
 apply GF.ext
 rw[GF.mul_n,gf_n (gmul_lt b ha),gf_n ha,gf_n hb]
def addC:List GF->List GF->List GF
 |[],q=>q
 |p,[]=>p
 |a::p,b::q=>(a+b)::addC p q
theorem addC_len:∀(p q:List GF) (n:Nat),p.length<=n->q.length<=n->(addC p q).length<=n
 |[],q,n,_,h=>by simpa [addC]using h
 |a::p,[],n,h,_=>by simpa [addC]using h
 |a::p,b::q,n,h,k=>by
  cases n with
  |zero=>simp at h
  |succ n=>
   have:=addC_len p q n (by simpa using h) (by simpa using k)
   simpa [addC]using this
theorem addC_ev (x:GF):∀p q:List GF,GF.ev x (addC p q)=GF.ev x p+GF.ev x q
 |[],q=>by
  show GF.ev x q=0+GF.ev x q
  rw[GF.zero_add]
 |a::p,[]=>by
  show GF.ev x (a::p)=GF.ev x (a::p)+0
  rw[GF.add_zero]
 |a::p,b::q=>by
  show a+b+x*GF.ev x (addC p q)=a+x*GF.ev x p+(b+x*GF.ev x q)
  rw[addC_ev x p q,GF.mul_add]
  ac_rfl
theorem mapC_ev (x c:GF):∀p:List GF,GF.ev x (p.map (· * c))=GF.ev x p*c
 |[]=>(GF.zero_mul c).symm
 |a::p=>by
  show a*c+x*GF.ev x (p.map (· * c))=(a+x*GF.ev x p)*c
  rw[mapC_ev x c p,GF.add_mul,GF.mul_assoc]
def PolF (n:Nat) (f:Nat->Nat):Prop:=∃p:List GF,p.length<=n/\∀x,x<256->f x<256/\gf (f x)=GF.ev (gf x) p
theorem PolF.zero (n:Nat):PolF n (fun _=>0):=⟨[],Nat.zero_le _,fun _ _=>⟨(by decide:0<256),rfl⟩⟩
theorem PolF.one:PolF 1 (fun _=>1):=⟨[1],Nat.le_refl _,fun x _=>⟨(by decide:1<256),by
 show (1:GF)=1+gf x*0
 rw[GF.mul_zero,GF.add_zero]⟩⟩
theorem PolF.add {n:Nat} {f g:Nat->Nat} (hf:PolF n f) (hg:PolF n g):PolF n (fun x=>f x^^^g x):=by
 obtain⟨p,h1,h2⟩:=hf
 obtain⟨q,h3,h4⟩:=hg
 refine⟨addC p q,addC_len p q n h1 h3,fun x hx=>⟨xor_lt (h2 x hx).1 (h4 x hx).1,?_⟩⟩
 rw[gf_add (h2 x hx).1 (h4 x hx).1,addC_ev,(h2 x hx).2,(h4 x hx).2]
theorem PolF.scale {n:Nat} {f:Nat->Nat} (hf:PolF n f) {c:Nat} (hc:c<256):PolF n (fun x=>gmul (f x) c):=by
 obtain⟨p,h1,h2⟩:=hf
 refine⟨p.map (· * gf c),by rw[List.length_map];exact h1,fun x hx=>⟨gmul_lt _ (h2 x hx).1,?_⟩⟩
 rw[gf_mul (h2 x hx).1 hc,mapC_ev,(h2 x hx).2]
theorem PolF.lin {n:Nat} {f:Nat->Nat} (hf:PolF n f) {r:Nat} (hr:r<256):PolF (n+1) (fun x=>gmul (f x) (x^^^r)):=by
 obtain⟨p,h1,h2⟩:=hf
 refine⟨addC (0::p) (p.map (· * gf r)),addC_len _ _ _ (by rw[List.length_cons];omega) (by rw[List.length_map];omega),fun x hx=>⟨gmul_lt _ (h2 x hx).1,?_⟩⟩
 rw[gf_mul (h2 x hx).1 (xor_lt hx hr),gf_add hx hr,(h2 x hx).2,addC_ev,mapC_ev,GF.mul_add,GF.mul_comm (GF.ev (gf x) p) (gf x)]
 show _=0+gf x*GF.ev (gf x) p+_
 rw[GF.zero_add]
theorem wgtR_pol {xs:List Nat} {k:Nat} (hb:∀i,cf xs i<256):∀i,PolF (if k<i then i else i+1) (fun x=>wgtR xs k x i)
 |0=>by
  rw[if_neg (by omega)]
  exact PolF.one
 |i+1=>by
  have ih:=wgtR_pol (k:=k) hb i
  by_cases h:i=k
  {
  subst h
  rw[if_neg (Nat.lt_irrefl i)]at ih
  rw[if_pos (Nat.lt_succ_self i)]
  have e:(fun x=>wgtR xs i x (i+1))=fun x=>wgtR xs i x i:=by
   funext x
   rw[wgtR,if_pos rfl]
  rw[e]
  exact ih}
  {
  have hc:ginv (cf xs k^^^cf xs i)<256:=ginv_lt (xor_lt (hb k) (hb i))
  obtain⟨p,h1,h2⟩:=(ih.lin (hb i)).scale hc
  refine⟨p,?_,fun x hx=>?_⟩
  {
  refine Nat.le_trans h1 ?_
  split<;>split<;>omega}
  {
  have e:wgtR xs k x (i+1)=gmul (gmul (wgtR xs k x i) (x^^^cf xs i)) (ginv (cf xs k^^^cf xs i)):=by
   rw[wgtR,if_neg h,gdiv,gmul_assoc (wgtR_lt i) (xor_lt hx (hb i)) hc]
  dsimp only
  rw[e]
  exact h2 x hx}}
theorem sumE_pol {xs:List Nat} {bl:List (List Nat)} {i:Nat} (hb:∀i,cf xs i<256) (hB:∀k,cf (bl.getD k []) i<256):∀k,k<=xs.length->PolF xs.length (fun x=>sumE xs bl x i k)
 |0,_=>PolF.zero _
 |k+1,h=>by
  have h1:=wgtR_pol (xs:=xs) (k:=k) hb xs.length
  rw[if_pos (by omega)]at h1
  exact(sumE_pol hb hB k (by omega)).add (h1.scale (hB k))
theorem gdiv_self {a:Nat} (ha:a<256) (h:a≠0):gdiv a a=1:=gmul_inv ha h
theorem wgtR_one {xs:List Nat} {k:Nat} (hb:∀i,cf xs i<256) (hd:∀i,i<xs.length->i≠k->cf xs k≠cf xs i):∀i,i<=xs.length->wgtR xs k (cf xs k) i=1
 |0,_=>rfl
 |i+1,h=>by
  rw[wgtR,wgtR_one hb hd i (by omega)]
  split
  ·rfl
  {
  rw[gdiv_self (xor_lt (hb k) (hb i)) (xor_ne (hd i (by omega) ‹_›))]
  exact gmul_one_right 1}
theorem wgtR_zero {xs:List Nat} {j k:Nat} (hb:∀i,cf xs i<256) (hjk:j≠k):∀i,j<i->wgtR xs k (cf xs j) i=0
 |0,h=>absurd h (Nat.not_lt_zero _)
 |i+1,h=>by
  rw[wgtR]
  by_cases e:j=i
  {
  subst e
  rw[if_neg hjk,Nat.xor_self,gdiv,gmul_zero_left (ginv_lt (xor_lt (hb k) (hb j))),gmul_zero_right]}
  {
  have ih:=wgtR_zero hb hjk i (by omega)
  rw[ih]
  split
  ·rfl
  ·exact gmul_zero_left (gdiv_lt (xor_lt (hb j) (hb i)))}
theorem sumE_at {xs:List Nat} {bl:List (List Nat)} {i j:Nat} (hb:∀i,cf xs i<256) (hd:∀i j,i<xs.length->j<xs.length->i≠j->cf xs i≠cf xs j) (hB:∀k,cf (bl.getD k []) i<256) (hj:j<xs.length):∀k,k<=xs.length->sumE xs bl (cf xs j) i k=if j<k then cf (bl.getD j []) i else 0
 |0,_=>by rw[if_neg (Nat.not_lt_zero j)];rfl
 |k+1,h=>by
  rw[sumE,sumE_at hb hd hB hj k (by omega),wgt]
  by_cases e:j=k
  {
  subst e
  rw[wgtR_one hb (fun i hi hne=>hd j i hj hi (Ne.symm hne)) _ (Nat.le_refl _),gmul_one_left (hB j),if_neg (Nat.lt_irrefl j),if_pos (Nat.lt_succ_self j),Nat.zero_xor]}
  {
  rw[wgtR_zero hb e _ hj,gmul_zero_left (hB k),Nat.xor_zero]
  by_cases c:j<k
  ·rw[if_pos c,if_pos (by omega)]
  ·rw[if_neg c,if_neg (by omega)]}
theorem sumE_same {ys:List Nat} {bl:List (List Nat)} {i:Nat} (hb:∀i,cf ys i<256) (hd:∀i j,i<ys.length->j<ys.length->i≠j->cf ys i≠cf ys j) {F:Nat->Nat} (hF:PolF ys.length F) (hv:∀k,k<ys.length->cf (bl.getD k []) i=F (cf ys k)) (hB:∀k,cf (bl.getD k []) i<256) {x:Nat} (hx:x<256):sumE ys bl x i ys.length=F x:=by
 obtain⟨p,h1,h2⟩:=(sumE_pol hb hB ys.length (Nat.le_refl _)).add hF
 have hget:∀k,(h:k<ys.length)->ys[k]=cf ys k:=fun k h=>(cf_get (List.getElem?_eq_getElem h)).symm
 have h3:=GF.roots_zero (ys.map gf) p (by
  rw[List.nodup_iff_pairwise_ne,List.pairwise_map,List.pairwise_iff_getElem]
  intro a b ha hb' hab e
  rw[hget a ha,hget b hb']at e
  exact hd a b ha hb' (by omega) (gf_inj (hb a) (hb b) e)) (fun y hy=>by
   obtain⟨z,hz,rfl⟩:=List.mem_map.1 hy
   obtain⟨k,hk,rfl⟩:=List.getElem_of_mem hz
   have e:=(h2 ys[k] (by rw[hget k hk];exact hb k)).2
   rw[<-e,hget k hk]
   have e2:=sumE_at (bl:=bl) (i:=i) hb hd hB hk ys.length (Nat.le_refl _)
   rw[if_pos hk,hv k hk]at e2
   show gf (sumE ys bl (cf ys k) i ys.length^^^F (cf ys k))=0
   rw[e2,Nat.xor_self]
   rfl) (by rw[List.length_map];exact h1)
 have h4:=(h2 x hx).2
 rw[GF.ev_zeros _ p h3]at h4
 have h5:sumE ys bl x i ys.length^^^F x=0:=gf_inj (h2 x hx).1 (by omega) h4
 by_cases c:sumE ys bl x i ys.length=F x
 ·exact c
 ·exact absurd h5 (xor_ne c)
end
end Go.Proofs.YthgenkkkapilhaaGreatDoor
namespace Go.Proofs.YthgenkkkapilhaaGreatDoor.lawVoRedundancy
section
open Go.ChangeShapes Go.WideShapes Go.ChangeAt Go.RowKit
theorem closed:joinedFacts Tryz.prog 7 Tryz.f7 Rows.volumeRedundancySpec Rows.volumeRedundancyRow=true:=by
 unfold joinedFacts
 simp only[Bool.and_eq_true]
 repeat' apply And.intro
 all_goals as_aux_lemma=>kernel_rfl
end
end Go.Proofs.YthgenkkkapilhaaGreatDoor.lawVoRedundancy
