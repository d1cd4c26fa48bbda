/-
  Joined: VoR VoU VoV VoW VoX VoY TakeA VpA VpC ErA.
-/
import Derived.Test.YthgenkkkapilhaaGreatDoorVSn05
set_option linter.all false
set_option maxRecDepth 100000
set_option maxHeartbeats 64000000
namespace Go.Proofs.YthgenkkkapilhaaGreatDoor
section
open Go.RowKit
theorem compare31_any (w:World) (s d:ByteArray) (hs:s.size<=1000000) (hd:d.size<=1000000):Calls Tryz.prog 229 #[.string s,.string d] w fun e w'=>RetI e/\Below w.heap.size w w':=by
 have HEs:=zY (fun W=>elems_any W s hs)
 have HEd:=zY (fun W=>elems_any W d hd)
 have hl1:=(elemsL_size (s:=bs s)).2
 have hl2:=(elemsL_size (s:=bs d)).2
 rw[bs_len]at hl1 hl2
 generalize elemsL (bs s)=L at *
 generalize elemsL (bs d)=M at *
 go_enter Tryz.func229,Tryz.ntmps229
 go_wp2_with fail
 refine(HEs.out _).mono ?_
 rintro e3 w3 ⟨v3,rfl,ho3,hb3⟩
 have HO3:=zY ho3
 have HB3:=zY hb3
 clear ho3 hb3
 go_wp2_with fail
 refine(HEd.out _).mono ?_
 rintro e4 w2 ⟨v4,rfl,ho4,hb4⟩
 have HL:=zY (ownV_below HO3.out hb4)
 have HM:=zY ho4
 have HB4:=zYt HB3 hb4
 clear ho4 hb4 HB3 HO3
 obtain⟨A1,k1,rfl⟩:=ownV_slice HL.out
 obtain⟨A2,k2,rfl⟩:=ownV_slice HM.out
 go_wp2
 go_loopw [7] (fun x wr=>∃i:Nat,i<=L.length/\i<=M.length/\x=.int .i64 (i:Int)/\Below w2.heap.size w2 wr) (fun x _=>M.length-(intOf x).toNat)
 case atStart=>exact⟨0,by omega,by omega,rfl,Below.refl _ _⟩
 case round=>
  obtain⟨i,hiL1,hi,rfl,hB⟩:=hrel
  have HB:=zY hB
  clear hB
  by_cases h:i<L.length/\i<M.length
  {
  have hiI:(i:Int)<M.length:=by omega
  have hiL:(i:Int)<L.length:=by omega
  have hMi:i<M.length:=h.2
  have hLi:i<L.length:=h.1
  clear h
  obtain⟨p,hp⟩:∃p,L[i]?=some p:=⟨_,List.getElem?_eq_getElem hLi⟩
  obtain⟨q,hq⟩:∃q,M[i]?=some q:=⟨_,List.getElem?_eq_getElem hMi⟩
  obtain⟨g1,k1,e8,_⟩:=ownV_at HL.out (by omega)
  obtain⟨g2,k2,e9,_⟩:=ownV_at HM.out (by omega)
  cases e8
  cases e9
  have c1:w2.cell? ⟨g1,i,none⟩=some (.string (strB p)):=by
   rw[HL.out.cellAt i (by omega),strsV,List.getElem?_map,hp]
   rfl
  have c2:w2.cell? ⟨g2,i,none⟩=some (.string (strB q)):=by
   rw[HM.out.cellAt i (by omega),strsV,List.getElem?_map,hq]
   rfl
  have c1:=cell_below HB.out c1
  have c2:=cell_below HB.out c2
  clear hp hq hLi hMi
  generalize strB p=X at *
  generalize strB q=Y at *
  cases hB1:Op.bytesLess X.toList Y.toList with
  |true=>
   go_upto_region 5 with fail
   go_quiet (fail)
   go_wp2
   go_ret
   exact⟨RetI.of (-1),HB4.out.trans ((zBd HB.out _).mono HB4.out.size)⟩
  |false=>
   by_cases hxy:X=Y
   {
   subst hxy
   go_upto_region 5 with fail
   go_quiet (fail)
   go_upto_region 7 with fail
   go_quiet (fail)
   go_wp2
   go_roundw
   case rel=>exact⟨i+1,by omega,by omega,by go_num,by first|exact zBd HB.out _|exact zBd (zBd HB.out _) _⟩
   case measure=>simp[intOf];omega}
   {
   have b3:¬X.toList=Y.toList:=fun e=>hxy (by rw[ByteArray.toList_eq,ByteArray.toList_eq]at e;exact ByteArray.ext (Array.toList_inj.1 e))
   have b4:(X.toList==Y.toList)=false:=by rw[beq_eq_false_iff_ne];exact b3
   clear hxy
   go_upto_region 5 with fail
   go_quiet (fail)
   go_upto_region 7 with fail
   go_quiet (fail)
   go_wp2
   go_ret
   exact⟨RetI.of 1,HB4.out.trans (Below.mono (by first|exact zBd HB.out _|exact zBd (zBd HB.out _) _) HB4.out.size)⟩}}
  {
  have hz:¬(i:Int)<L.length∨((i:Int)<L.length/\¬(i:Int)<M.length):=by omega
  clear h
  rcases hz with f1|⟨f1,f2⟩
  all_goals
   by_cases g1:L.length<M.length
   {
   have g2:(L.length:Int)<M.length:=by omega
   go_wp2
   go_ret
   exact⟨RetI.of (-1),HB4.out.trans (HB.out.mono HB4.out.size)⟩}
   {
   have g2:¬(L.length:Int)<M.length:=by omega
   by_cases g3:M.length<L.length
   {
   have g4:(M.length:Int)<L.length:=by omega
   go_wp2
   go_ret
   exact⟨RetI.of 1,HB4.out.trans (HB.out.mono HB4.out.size)⟩}
   {
   have g4:¬(M.length:Int)<L.length:=by omega
   go_wp2
   go_ret
   exact⟨RetI.of 0,HB4.out.trans (HB.out.mono HB4.out.size)⟩}}}
structure Hol where
 p:ByteArray
 u:Int
def holS:Shape Hol where
 n:=2
 R _ cs x:=cs=[.string x.p,.int .i64 x.u]
 len h:=by rw[h];rfl
 one h u hu:=by
  rw[h]at hu
  simp only[List.mem_cons,List.not_mem_nil,or_false]at hu
  rcases hu with rfl|rfl<;>rfl
 keep h _:=h
theorem held_any (w:World) (v:Value) (l:List Hol) (hv:SeqAt holS w v l) (hl:∀h∈l,h.p.size<=1000000) (s:ByteArray) (hs:s.size<=1000000) (date:Int):Calls Tryz.prog 230 #[v,.string s,.int .i64 date] w fun e w'=>RetB e/\Below w.heap.size w w':=by
 have Hv:=zY hv
 have HU:=zY (fun(W:World) (h:Hol) (hm:h∈l)=>under_any W s h.p hs (hl h hm))
 obtain⟨A,c,rfl,h1,h2⟩:=hv.slice
 clear hv hl
 go_enter Tryz.func230,Tryz.ntmps230
 go_wp2
 go_loopw [7] (fun x wr=>∃i:Nat,i<=l.length/\x=.int .i64 (i:Int)/\Below w.heap.size w wr) (fun x _=>l.length-(intOf x).toNat)
 case atStart=>exact⟨0,by omega,rfl,Below.refl _ _⟩
 case round=>
  obtain⟨i,hi,rfl,hB⟩:=hrel
  have HB:=zY hB
  clear hB
  by_cases h:i<l.length
  {
  have hiI:(i:Int)<l.length:=by omega
  obtain⟨x,hx⟩:∃x,l[i]?=some x:=⟨_,List.getElem?_eq_getElem h⟩
  obtain⟨_,_,e9,_,_,h4⟩:=Hv.out.below HB.out
  cases e9
  obtain⟨b,o,cs,rfl,rfl,hc⟩:=h4 i x hx
  have HUx:=zY (fun W=>HU.out W x (List.mem_of_getElem? hx))
  have c0:wr.cell? ⟨b,o+i*2,none⟩=some (.string x.p):=hc 0 _ rfl
  have c1:wr.cell? ⟨b,o+i*2+1,none⟩=some (.int .i64 x.u):=hc 1 _ rfl
  clear hc h4 hx
  obtain⟨p,u⟩:=x
  dsimp only at c0 c1 HUx
  by_cases hd:date<=u
  {
  go_wp2_with fail
  refine(HUx.out _).mono ?_
  rintro e2 w2 ⟨⟨r,rfl⟩,hb2⟩
  have HB2:=zYt HB hb2
  clear hb2
  cases r with
  |true=>
   go_wp2
   go_ret
   exact⟨RetB.of true,HB2.out⟩
  |false=>
   go_wp2
   go_roundw
   case rel=>exact⟨i+1,by omega,by go_num,HB2.out⟩
   case measure=>simp[intOf];omega}
  {
  go_wp2_with fail
  first|(refine⟨trivial,?_⟩;go_wp2)|skip
  go_roundw
  case rel=>exact⟨i+1,by omega,by go_num,HB.out⟩
  case measure=>simp[intOf];omega}}
  {
  have hiI:¬(i:Int)<l.length:=by omega
  go_wp2
  go_ret
  exact⟨RetB.of false,HB.out⟩}
theorem date38_any (w:World) (s:ByteArray) (hs:s.size<=1000000):Calls Tryz.prog 231 #[.string s] w fun e w'=>RetI e/\w=w':=by
 by_cases h1:s.size=0
 {
 have i1:s.toList.isEmpty=true:=by
  rw[show s=⟨#[]⟩ by apply ByteArray.ext;exact Array.eq_empty_of_size_eq_zero h1]
  rw[ByteArray.toList_eq]
  rfl
 clear h1
 go_enter Tryz.func231,Tryz.ntmps231
 go_wp2
 go_ret
 exact⟨RetI.of (-1),rfl⟩}
 {
 have i1:s.toList.isEmpty=false:=isEmptyV h1
 by_cases h2:10<s.size
 {
 have i2:(10:Int)<s.size:=by omega
 go_enter Tryz.func231,Tryz.ntmps231
 go_wp2
 go_ret
 exact⟨RetI.of (-1),rfl⟩}
 {
 have i2:¬(10:Int)<s.size:=by omega
 have h0:0<s.size:=by omega
 have i0:(0:Int)<s.size:=by omega
 by_cases h3:1<s.size
 {
 have i3:(1:Int)<s.size:=by omega
 by_cases h4:(s[0]'h0).toNat=48
 {
 have i4:(((s[0]'h0).toNat:Int)==48)=true:=by rw[h4];rfl
 clear h4
 go_enter Tryz.func231,Tryz.ntmps231
 go_wp2
 go_ret
 exact⟨RetI.of (-1),rfl⟩}
 {
 have i4:(((s[0]'h0).toNat:Int)==48)=false:=by rw[beq_eq_false_iff_ne];omega
 clear h4
 go_enter Tryz.func231,Tryz.ntmps231
 go_wp2
 go_loop [3,4] (fun y x=>∃k n:Nat,k<=s.size/\x=.int .i64 (k:Int)/\y=.int .i64 (n:Int)/\n<10^k) (fun _ x=>s.size-(intOf x).toNat)
 case atStart=>exact⟨0,0,by omega,rfl,rfl,by decide⟩
 case round=>
  obtain⟨k,n,hk,rfl,rfl,hn⟩:=hrel
  have hn2:10^k<=10^10:=Nat.pow_le_pow_right (by decide) (by omega)
  have hn3:n<10000000000:=by omega
  by_cases h:k<s.size
  {
  have hkI:(k:Int)<s.size:=by omega
  by_cases a1:(s[k]'h).toNat<48
  {
  have f0:((s[k]'h).toNat:Int)<48:=by omega
  clear a1 hn hn2
  go_wp2
  go_ret
  exact⟨RetI.of (-1),rfl⟩}
  {
  by_cases a2:57<(s[k]'h).toNat
  {
  have f0:¬((s[k]'h).toNat:Int)<48:=by omega
  have f1:(57:Int)<((s[k]'h).toNat:Int):=by omega
  clear a1 a2 hn hn2
  go_wp2
  go_ret
  exact⟨RetI.of (-1),rfl⟩}
  {
  have f0:¬((s[k]'h).toNat:Int)<48:=by omega
  have f1:¬(57:Int)<((s[k]'h).toNat:Int):=by omega
  obtain⟨c,hc⟩:∃c,(s[k]'h).toNat=c+48:=⟨(s[k]'h).toNat-48,by omega⟩
  have hc9:c<=9:=by omega
  have hcI:((s[k]'h).toNat:Int)-48=(c:Int):=by omega
  have hcM:(((s[k]'h).toNat:Int)-48)%256=(c:Int):=by omega
  have hnn:n*10+c<10^(k+1):=by rw[Nat.pow_succ];omega
  have HN:=zY hnn
  clear a1 a2 hn hn2 hnn hc
  go_wp2
  go_round
  case rel=>exact⟨k+1,n*10+c,by omega,by go_num,by go_num,HN.out⟩
  case measure=>simp[intOf];omega}}}
  {
  have hkI:¬(k:Int)<s.size:=by omega
  clear hn hn2
  by_cases hle:1000000000<n
  {
  have i9:(1000000000:Int)<n:=by omega
  go_wp2
  go_ret
  exact⟨RetI.of (-1),rfl⟩}
  {
  have i9:¬(1000000000:Int)<n:=by omega
  go_wp2
  go_ret
  exact⟨RetI.of n,rfl⟩}}}}
 {
 have i3:¬(1:Int)<s.size:=by omega
 go_enter Tryz.func231,Tryz.ntmps231
 go_wp2
 go_loop [3,4] (fun y x=>∃k n:Nat,k<=s.size/\x=.int .i64 (k:Int)/\y=.int .i64 (n:Int)/\n<10^k) (fun _ x=>s.size-(intOf x).toNat)
 case atStart=>exact⟨0,0,by omega,rfl,rfl,by decide⟩
 case round=>
  obtain⟨k,n,hk,rfl,rfl,hn⟩:=hrel
  have hn2:10^k<=10^10:=Nat.pow_le_pow_right (by decide) (by omega)
  have hn3:n<10000000000:=by omega
  by_cases h:k<s.size
  {
  have hkI:(k:Int)<s.size:=by omega
  by_cases a1:(s[k]'h).toNat<48
  {
  have f0:((s[k]'h).toNat:Int)<48:=by omega
  clear a1 hn hn2
  go_wp2
  go_ret
  exact⟨RetI.of (-1),rfl⟩}
  {
  by_cases a2:57<(s[k]'h).toNat
  {
  have f0:¬((s[k]'h).toNat:Int)<48:=by omega
  have f1:(57:Int)<((s[k]'h).toNat:Int):=by omega
  clear a1 a2 hn hn2
  go_wp2
  go_ret
  exact⟨RetI.of (-1),rfl⟩}
  {
  have f0:¬((s[k]'h).toNat:Int)<48:=by omega
  have f1:¬(57:Int)<((s[k]'h).toNat:Int):=by omega
  obtain⟨c,hc⟩:∃c,(s[k]'h).toNat=c+48:=⟨(s[k]'h).toNat-48,by omega⟩
  have hc9:c<=9:=by omega
  have hcI:((s[k]'h).toNat:Int)-48=(c:Int):=by omega
  have hcM:(((s[k]'h).toNat:Int)-48)%256=(c:Int):=by omega
  have hnn:n*10+c<10^(k+1):=by rw[Nat.pow_succ];omega
  have HN:=zY hnn
  clear a1 a2 hn hn2 hnn hc
  go_wp2
  go_round
  case rel=>exact⟨k+1,n*10+c,by omega,by go_num,by go_num,HN.out⟩
  case measure=>simp[intOf];omega}}}
  {
  have hkI:¬(k:Int)<s.size:=by omega
  clear hn hn2
  by_cases hle:1000000000<n
  {
  have i9:(1000000000:Int)<n:=by omega
  go_wp2
  go_ret
  exact⟨RetI.of (-1),rfl⟩}
  {
  have i9:¬(1000000000:Int)<n:=by omega
  go_wp2
  go_ret
  exact⟨RetI.of n,rfl⟩}}}}}
theorem Tryz.infoHolV:(Tryz.prog.info? 289).map (fun i=>(i.zero,i.size,i.bytes))=some (some (.agg #[.string ⟨#[]⟩,.int .i64 0]),2,24):=by kernel_rfl
def RetHols (w0 W:World) (p:List Hol->Prop) (e:Ending):Prop:=∃v l,e=.returned v/\OwnSeq holS 289 w0 W v l/\p l
theorem active_any (w:World) (v:Value) (l:List Hol) (hv:SeqAt holS w v l) (hl:l.length<=100000) (date:Int):Calls Tryz.prog 150 #[v,.int .i64 date] w fun e w'=>RetHols w w' (fun m=>m.length<=l.length/\∀h∈m,h∈l) e/\Below w.heap.size w w':=by
 have Hv:=zY hv
 obtain⟨iS,hi,hq0,hq1,hq2⟩:=infoV_parts Tryz.infoHolV
 have HiS:Hid (Tryz.prog.info? 289=some iS/\iS.zero=some (.agg #[.string ⟨#[]⟩,.int .i64 0])/\iS.size=2/\iS.bytes=24):=zY ⟨hi,hq0,hq1,hq2⟩
 clear hi hq0 hq1 hq2
 obtain⟨A,c,rfl,h1,h2⟩:=hv.slice
 clear hv
 go_enter Tryz.func150,Tryz.ntmps150
 go_wp2
 go_loopw [5,6] (fun y x wr=>∃(i:Nat) (m:List Hol),i<=l.length/\x=.int .i64 (i:Int)/\m.length<=i/\(∀h∈m,h∈l)/\OwnSeq holS 289 w wr y m/\Below w.heap.size w wr) (fun _ x _=>l.length-(intOf x).toNat)
 case atStart=>exact⟨0,[],by omega,rfl,by simp,(fun h hh=>nomatch hh),⟨[],ownV_new _ _ _,.nil⟩,(Below.refl _ _).alloc (Nat.le_refl _) _⟩
 case round=>
  obtain⟨i,m,hi,rfl,hm,hall,ho,hB⟩:=hrel
  have HB:=zY hB
  have Hall:=zY hall
  obtain⟨css,ho,hbt⟩:=ho
  have Ho:=zY ho
  have Hbt:=zY hbt
  clear hB hall ho hbt
  obtain⟨Av,cv,rfl⟩:=ownV_slice Ho.out
  by_cases h:i<l.length
  {
  have hiI:(i:Int)<l.length:=by omega
  obtain⟨x,hx⟩:∃x,l[i]?=some x:=⟨_,List.getElem?_eq_getElem h⟩
  have Hxm:=zY (List.mem_of_getElem? hx)
  obtain⟨_,_,e9,_,_,h4⟩:=Hv.out.below HB.out
  cases e9
  obtain⟨b,o,cs,rfl,rfl,hc⟩:=h4 i x hx
  have c0:wr.cell? ⟨b,o+i*2,none⟩=some (.string x.p):=hc 0 _ rfl
  have c1:wr.cell? ⟨b,o+i*2+1,none⟩=some (.int .i64 x.u):=hc 1 _ rfl
  clear hc h4 hx
  obtain⟨p,u⟩:=x
  dsimp only at c0 c1
  by_cases hd:date<=u
  {
  have Hnews:Hid (∀(q:Nat) (x:Value),([.string p,.int .i64 u]:List Value)[q]?=some x->(wr.alloc (.cells #[.string p,.int .i64 u] 289)).cell? ((⟨wr.heap.size,0,none⟩:Addr).add q)=some x):=zY (fun q x hq=>by
   rw[Addr.add_lit,Nat.zero_add]
   exact(Blk.new wr 289 [.string p,.int .i64 u]).cell hq)
  have Hone:Hid (∀x∈([.string p,.int .i64 u]:List Value),x.oneCell'=true):=zY (by simp[Value.oneCell'])
  have HU:=zY (Ho.out.alloc (.cells #[.string p,.int .i64 u] 289))
  have HB6:=zY (HB.out.alloc HB.out.size (.cells #[.string p,.int .i64 u] 289))
  go_wp2_with (at_builtin;refine append_atV _ rfl _ _ 161 rfl w.heap.size 289 iS (.agg #[.string ⟨#[]⟩,.int .i64 0]) 2 24 Tryz.underlying161 HiS.out.1 HiS.out.2.1 HiS.out.2.2.1 HiS.out.2.2.2 rfl (by omega) (.slice Av m.length cv) m.length _ rfl HU.out ⟨wr.heap.size,0,none⟩ 1 1 _ rfl rfl Hnews.out Hone.out (by unfold maxLen;omega) (by omega) HB6.out.size ?_;intro va wa hob hgb _;have KU:=zY hob;have KB:=zY (HB6.out.grown hgb HB6.out.size (ownV_ge HU.out));clear hob hgb)
  go_roundw
  case rel=>exact⟨i+1,m++[⟨p,u⟩],by omega,by go_num,by simp;omega,(fun x hx=>by
   rcases List.mem_append.1 hx with hx|hx
   ·exact Hall.out x hx
   ·rw[List.mem_singleton.1 hx];exact Hxm.out),⟨css++[[.string p,.int .i64 u]],by rw[List.flatten_append,List.length_append];exact KU.out,Hbt.out.app (.cons (show holS.R w [.string p,.int .i64 u] ⟨p,u⟩ from rfl) .nil)⟩,KB.out⟩
  case measure=>simp[intOf];omega}
  {
  go_wp2
  go_roundw
  case rel=>exact⟨i+1,m,by omega,by go_num,by omega,Hall.out,⟨css,Ho.out,Hbt.out⟩,HB.out⟩
  case measure=>simp[intOf];omega}}
  {
  have hiI:¬(i:Int)<l.length:=by omega
  go_wp2
  go_ret
  exact⟨⟨_,m,rfl,⟨css,Ho.out,Hbt.out⟩,by omega,Hall.out⟩,HB.out⟩}
def RetHolsI (w0 W:World) (p:List Hol->Prop) (e:Ending):Prop:=∃v l n,e=.returned (.tuple #[v,.int .i64 n])/\OwnSeq holS 289 w0 W v l/\p l
theorem without_any (w:World) (v:Value) (l:List Hol) (hv:SeqAt holS w v l) (hl:l.length<=100000) (s:ByteArray):Calls Tryz.prog 232 #[v,.string s] w fun e w'=>RetHolsI w w' (fun m=>m.length<=l.length/\∀h∈m,h∈l) e/\Below w.heap.size w w':=by
 have Hv:=zY hv
 obtain⟨iS,hi,hq0,hq1,hq2⟩:=infoV_parts Tryz.infoHolV
 have HiS:Hid (Tryz.prog.info? 289=some iS/\iS.zero=some (.agg #[.string ⟨#[]⟩,.int .i64 0])/\iS.size=2/\iS.bytes=24):=zY ⟨hi,hq0,hq1,hq2⟩
 clear hi hq0 hq1 hq2
 obtain⟨A,c,rfl,h1,h2⟩:=hv.slice
 clear hv
 go_enter Tryz.func232,Tryz.ntmps232
 go_wp2
 go_loopw [6,7,8] (fun y z x wr=>∃(i:Nat) (m:List Hol) (q:Int),z=.int .i64 q/\i<=l.length/\x=.int .i64 (i:Int)/\m.length<=i/\(∀h∈m,h∈l)/\OwnSeq holS 289 w wr y m/\Below w.heap.size w wr) (fun _ _ x _=>l.length-(intOf x).toNat)
 case atStart=>exact⟨0,[],-1,rfl,by omega,rfl,by simp,(fun h hh=>nomatch hh),⟨[],ownV_new _ _ _,.nil⟩,(Below.refl _ _).alloc (Nat.le_refl _) _⟩
 case round=>
  obtain⟨i,m,q0,rfl,hi,rfl,hm,hall,ho,hB⟩:=hrel
  have HB:=zY hB
  have Hall:=zY hall
  obtain⟨css,ho,hbt⟩:=ho
  have Ho:=zY ho
  have Hbt:=zY hbt
  clear hB hall ho hbt
  obtain⟨Av,cv,rfl⟩:=ownV_slice Ho.out
  by_cases h:i<l.length
  {
  have hiI:(i:Int)<l.length:=by omega
  obtain⟨x,hx⟩:∃x,l[i]?=some x:=⟨_,List.getElem?_eq_getElem h⟩
  have Hxm:=zY (List.mem_of_getElem? hx)
  obtain⟨_,_,e9,_,_,h4⟩:=Hv.out.below HB.out
  cases e9
  obtain⟨b,o,cs,rfl,rfl,hc⟩:=h4 i x hx
  have c0:wr.cell? ⟨b,o+i*2,none⟩=some (.string x.p):=hc 0 _ rfl
  have c1:wr.cell? ⟨b,o+i*2+1,none⟩=some (.int .i64 x.u):=hc 1 _ rfl
  clear hc h4 hx
  obtain⟨p,u⟩:=x
  dsimp only at c0 c1
  by_cases hps:¬p=s
  {
  have b3:¬p.toList=s.toList:=fun e=>hps (by rw[ByteArray.toList_eq,ByteArray.toList_eq]at e;exact ByteArray.ext (Array.toList_inj.1 e))
  have b4:(p.toList==s.toList)=false:=by rw[beq_eq_false_iff_ne];exact b3
  clear hps
  have Hnews:Hid (∀(q:Nat) (x:Value),([.string p,.int .i64 u]:List Value)[q]?=some x->(wr.alloc (.cells #[.string p,.int .i64 u] 289)).cell? ((⟨wr.heap.size,0,none⟩:Addr).add q)=some x):=zY (fun q x hq=>by
   rw[Addr.add_lit,Nat.zero_add]
   exact(Blk.new wr 289 [.string p,.int .i64 u]).cell hq)
  have Hone:Hid (∀x∈([.string p,.int .i64 u]:List Value),x.oneCell'=true):=zY (by simp[Value.oneCell'])
  have HU:=zY (Ho.out.alloc (.cells #[.string p,.int .i64 u] 289))
  have HB6:=zY (HB.out.alloc HB.out.size (.cells #[.string p,.int .i64 u] 289))
  go_wp2_with (at_builtin;refine append_atV _ rfl _ _ 161 rfl w.heap.size 289 iS (.agg #[.string ⟨#[]⟩,.int .i64 0]) 2 24 Tryz.underlying161 HiS.out.1 HiS.out.2.1 HiS.out.2.2.1 HiS.out.2.2.2 rfl (by omega) (.slice Av m.length cv) m.length _ rfl HU.out ⟨wr.heap.size,0,none⟩ 1 1 _ rfl rfl Hnews.out Hone.out (by unfold maxLen;omega) (by omega) HB6.out.size ?_;intro va wa hob hgb _;have KU:=zY hob;have KB:=zY (HB6.out.grown hgb HB6.out.size (ownV_ge HU.out));clear hob hgb)
  go_roundw
  case rel=>exact⟨i+1,m++[⟨p,u⟩],q0,rfl,by omega,by go_num,by simp;omega,(fun x hx=>by
   rcases List.mem_append.1 hx with hx|hx
   ·exact Hall.out x hx
   ·rw[List.mem_singleton.1 hx];exact Hxm.out),⟨css++[[.string p,.int .i64 u]],by rw[List.flatten_append,List.length_append];exact KU.out,Hbt.out.app (.cons (show holS.R w [.string p,.int .i64 u] ⟨p,u⟩ from rfl) .nil)⟩,KB.out⟩
  case measure=>simp[intOf];omega}
  {
  obtain rfl:p=s:=by simpa using hps
  clear hps
  go_wp2
  go_roundw
  case rel=>exact⟨i+1,m,u,rfl,by omega,by go_num,by omega,Hall.out,⟨css,Ho.out,Hbt.out⟩,HB.out⟩
  case measure=>simp[intOf];omega}}
  {
  have hiI:¬(i:Int)<l.length:=by omega
  go_wp2
  go_ret2
  exact⟨⟨_,m,q0,rfl,⟨css,Ho.out,Hbt.out⟩,by omega,Hall.out⟩,HB.out⟩}
structure Elem (P:Program) (t e:TypeId) (n bytes:Nat) (z:Value):Prop where
 ht:P.underlying t=some (.slice e)
 hi:(P.info? e).map (fun i=>(i.zero,i.size,i.bytes))=some (some z,n,bytes)
 hz:z.cells.size=n
 hn:0<n
 hb:bytes<=1000
def SrcAt {α:Type} (ρ:Shape α) (w0 w:World) (v:Value) (us:List α):Prop:=
 ∃(A:Option Addr) (c:Nat),v=.slice A us.length c/\∀i x,us[i]?=some x->∃b o cs,A=some ⟨b,o,none⟩/\ρ.R w0 cs x/\∀j u,cs[j]?=some u->w.cell? ⟨b,o+i*ρ.n+j,none⟩=some u
section
variable {α:Type} {ρ:Shape α} {w0 w W:World} {v:Value} {xs us:List α}
theorem SrcAt.of (h:SeqAt ρ w0 v us) (hb:Below w0.heap.size w0 w):SrcAt ρ w0 w v us:=by
 obtain⟨A,c,e,h1,h2,h3⟩:=h
 refine⟨A,c,e,fun i x hx=>?_⟩
 obtain⟨b,o,cs,e1,hr,h4⟩:=h3 i x hx
 exact⟨b,o,cs,e1,hr,fun j u hu=>cell_below hb (h4 j u hu)⟩
theorem SrcAt.lit {g:Nat} {t:TypeId} {cs:List Value} {x:α} (hr:ρ.R w0 cs x) (hB:Blk w g t cs):SrcAt ρ w0 w (.slice (some ⟨g,0,none⟩) 1 1) [x]:=by
 refine⟨_,_,rfl,fun i y hy=>?_⟩
 cases i with
 |zero=>
  obtain rfl:x=y:=by simpa using hy
  refine⟨g,0,cs,rfl,hr,fun j u hu=>?_⟩
  rw[Nat.zero_mul,Nat.zero_add]
  exact hB.cell hu
 |succ i=>simp at hy
theorem SrcAt.cells (h:SrcAt ρ w0 w v us) (h0:us≠[]):∃(ad:Addr) (c:Nat) (css:List (List Value)),v=.slice (some ad) us.length c/\Both (ρ.R w0) css us/\∀j u,css.flatten[j]?=some u->w.cell? (ad.add j)=some u:=by
 obtain⟨A,c,rfl,h⟩:=h
 have key:∀(l:List α) (b o:Nat),(∀i x,l[i]?=some x->∃cs,ρ.R w0 cs x/\∀j u,cs[j]?=some u->w.cell? ⟨b,o+i*ρ.n+j,none⟩=some u)->∃css,Both (ρ.R w0) css l/\∀j u,css.flatten[j]?=some u->w.cell? ⟨b,o+j,none⟩=some u:=by
  intro l
  induction l with
  |nil=>exact fun b o _=>⟨[],.nil,fun j u hu=>by simp at hu⟩
  |cons x r ih=>
   intro b o hl
   obtain⟨cs,hr,hc⟩:=hl 0 x rfl
   obtain⟨css,hb,hcs⟩:=ih b (o+ρ.n) (fun i y hy=>by
    obtain⟨cs',hr',hc'⟩:=hl (i+1) y (by simpa using hy)
    refine⟨cs',hr',fun j u hu=>?_⟩
    rw[<-hc' j u hu]
    congr 2
    rw[Nat.add_mul]
    omega)
   refine⟨cs::css,.cons hr hb,fun j u hu=>?_⟩
   rw[List.flatten_cons]at hu
   have hn:=ρ.len hr
   by_cases hj:j<cs.length
   {
   rw[List.getElem?_append_left hj]at hu
   have:=hc j u hu
   rwa [Nat.zero_mul,Nat.add_zero]at this}
   {
   rw[List.getElem?_append_right (by omega)]at hu
   rw[<-hcs _ u hu]
   congr 2
   omega}
 cases us with
 |nil=>exact absurd rfl h0
 |cons x r=>
  obtain⟨b,o,_,e,_⟩:=h 0 x rfl
  cases e
  obtain⟨css,h1,h2⟩:=key (x::r) b o (fun i y hy=>by
   obtain⟨b',o',cs,e,hr,hc⟩:=h i y hy
   cases e
   exact⟨cs,hr,hc⟩)
  exact⟨_,c,css,rfl,h1,fun j u hu=>by rw[Addr.add_lit];exact h2 j u hu⟩
theorem OwnSeq.alloc {t:TypeId} (h:OwnSeq ρ t w0 W v xs) (o:Obj):OwnSeq ρ t w0 (W.alloc o) v xs:=h.below ((Below.refl _ _).alloc (Nat.le_refl _) _)
theorem OwnSeq.drew {t:TypeId} (h:OwnSeq ρ t w0 W v xs):OwnSeq ρ t w0 W.drew v xs:=h.below (Below.refl _ _).drew
theorem OwnSeq.new {t:TypeId} (W:World):OwnSeq ρ t W (W.alloc (.cells #[] t)) (.slice (some ⟨W.heap.size,0,none⟩) 0 0) []:=⟨[],ownV_new _ _ _,.nil⟩
theorem OwnSeq.slice {t:TypeId} (h:OwnSeq ρ t w0 W v xs):∃A c,v=.slice A xs.length c:=by
 obtain⟨_,h,_⟩:=h
 exact ownV_slice h
theorem OwnSeq.one {t:TypeId} (h:OwnSeq ρ t w0 W v xs):v.oneCell'=true:=by
 obtain⟨A,c,rfl⟩:=h.slice
 rfl
theorem OwnSeq.ge {t:TypeId} (h:OwnSeq ρ t w0 W v xs):∀k,v.ownBlock=some k->w0.heap.size<=k:=by
 obtain⟨_,h,_⟩:=h
 exact ownV_ge h
theorem run_append_nilS {P:Program} {TS T:TypeId} {n:Nat} {b:Nat} {z:Value} (E:Elem P TS T n b z) (B:Nat) (ty:TypeId) (v:Value) (k c:Nat) (us:List Value) (hown:w.ownsRow B T n v k us):(Builtin.append_ #[TS,TS] ty #[v,.slice none 0 c]).run P w=.ok v w:=by
 obtain⟨i0,hi,hz0,hz1,hz2⟩:=info_parts E.hi
 rcases hown.2 with⟨rfl,rfl⟩|⟨g,cap,cur,rfl,_,_,hnc,_⟩
 ·simp[Builtin.append_,run_underlying E.ht,sizeOf,typeInfo,hi,Builtin.lenOf,Builtin.firstCells]
 {
 simp[Builtin.append_,run_underlying E.ht,sizeOf,typeInfo,hi,Builtin.lenOf,Builtin.firstCells,hnc,storeCells]
}
theorem run_appendS {P:Program} {TS T:TypeId} {b:Nat} {z:Value} (E:Elem P TS T ρ.n b z) (ty:TypeId) (hown:OwnSeq ρ T w0 w v xs) {vx:Value} (hv:SrcAt ρ w0 w vx us) (hn:xs.length+us.length<=100000000) (hB:Below w0.heap.size w0 w):
  ∃v' w',(Builtin.append_ #[TS,TS] ty #[v,vx]).run P w=.ok v' w'/\OwnSeq ρ T w0 w' v' (xs++us)/\w.grownBy w' v.ownBlock/\(v'.ownBlock=v.ownBlock∨v'.ownBlock=some w.heap.size)/\Below w0.heap.size w0 w':=by
 have hge:=hown.ge
 obtain⟨css,ho,hb⟩:=hown
 by_cases h0:us=[]
 {
 subst h0
 obtain⟨A,c,rfl,h⟩:=hv
 cases A with
 |none=>
  refine⟨v,w,run_append_nilS E w0.heap.size ty v _ c _ ho,?_,World.grownBy.refl w _,.inl rfl,hB⟩
  rw[List.append_nil]
  exact⟨css,ho,hb⟩
 |some ad=>
  obtain⟨i0,hi,hz0,hz1,hz2⟩:=info_parts E.hi
  obtain⟨v',w',hr,k1,k2,_,k3⟩:=run_append_own_at (P:=P) w w0.heap.size TS ty T i0 z ρ.n b E.ht hi hz0 hz1 hz2 E.hz E.hn v _ _ ho ad 0 c [] (by simp) (fun j u hu=>by simp at hu) (fun u hu=>nomatch hu) (by unfold maxLen;simp at hn;omega)
   (Nat.le_trans (Nat.mul_le_mul (show xs.length+0<=100000000 by simp at hn;omega) E.hb) (by omega)) hB.size
  exact⟨v',w',hr,⟨css,by simpa using k1,by simpa using hb⟩,k2,k3,hB.grown k2 hB.size hge⟩}
 {
 obtain⟨ad,c,cu,rfl,hbu,hc⟩:=hv.cells h0
 obtain⟨i0,hi,hz0,hz1,hz2⟩:=info_parts E.hi
 obtain⟨v',w',hr,k1,k2,_,k3⟩:=run_append_own_at (P:=P) w w0.heap.size TS ty T i0 z ρ.n b E.ht hi hz0 hz1 hz2 E.hz E.hn v _ _ ho ad us.length c cu.flatten (by rw[flat_len hbu.lens,hbu.len]) hc hbu.ones (by unfold maxLen;omega)
  (Nat.le_trans (Nat.mul_le_mul hn E.hb) (by omega)) hB.size
 exact⟨v',w',hr,⟨css++cu,by rw[List.flatten_append,List.length_append];exact k1,hb.app hbu⟩,k2,k3,hB.grown k2 hB.size hge⟩
}
theorem append_seq {P:Program} {ops:Array Oper} {rest:List Oper} {o:Oper} {a:Act} {Q:Exit->Act->World->Prop} {TS T:TypeId} {b:Nat} {z:Value} (E:Elem P TS T ρ.n b z) (hgd:o.guard=none) (s x:Operand) (ho:o.op=.call { callee:=.builtin .append,args:= #[s,x],argTypes:= #[TS,TS] })
  (hs:a.eval s=v) (hown:OwnSeq ρ T w0 w v xs) {vx:Value} (hx:a.eval x=vx) (hv:SrcAt ρ w0 w vx us) (hn:xs.length+us.length<=100000000) (hB:Below w0.heap.size w0 w)
  (h:∀v' w',OwnSeq ρ T w0 w' v' (xs++us)->w.grownBy w' v.ownBlock->Below w0.heap.size w0 w'->wpList P ops Q rest (a.put o.dst v') w'):wpList P ops Q (o::rest) a w:=by
 obtain⟨v',w',hr,g1,g2,_,g3⟩:=run_appendS E o.type hown hv hn hB
 refine wpList_plain hgd fun K hK=>?_
 unfold Oper.wp execOp
 simp only[ho,resolve,invoke,builtin,Sem.run_bind,Sem.run_pure,Result.andThen_ok,List.map_toArray,List.map_cons,List.map_nil,hs,hx,hr]
 exact hK _ _ (h v' w' g1 g2 g3)
theorem wp_append_seq {P:Program} {o:Oper} {a:Act} {K:Act->World->Prop} {Q:Exit->Act->World->Prop} {TS T:TypeId} {b:Nat} {z:Value} (E:Elem P TS T ρ.n b z) (s x:Operand) (ho:o.op=.call { callee:=.builtin .append,args:= #[s,x],argTypes:= #[TS,TS] })
  (hs:a.eval s=v) (hown:OwnSeq ρ T w0 w v xs) {vx:Value} (hx:a.eval x=vx) (hv:SrcAt ρ w0 w vx us) (hn:xs.length+us.length<=100000000) (hB:Below w0.heap.size w0 w)
  (h:∀v' w',OwnSeq ρ T w0 w' v' (xs++us)->w.grownBy w' v.ownBlock->Below w0.heap.size w0 w'->K (a.put o.dst v') w'):o.wp P a w K Q:=by
 obtain⟨v',w',hr,g1,g2,_,g3⟩:=run_appendS E o.type hown hv hn hB
 unfold Oper.wp execOp
 simp only[ho,resolve,invoke,builtin,Sem.run_bind,Sem.run_pure,Result.andThen_ok,List.map_toArray,List.map_cons,List.map_nil,hs,hx,hr]
 exact h v' w' g1 g2 g3
end
end
section
open Go.RowKit
section
variable {P:Program} {ops:Array Oper} {Q:Exit->Act->World->Prop} {md:Region.Mode} {S:World->Prop}
def GivesIf (P:Program) (ops:Array Oper) (S:World->Prop) (o:Oper) (v:Value) (a:Act):Prop:=
 Region.wanted o (yielded ops a.tmps)=true/\∀w,S w->∃f args,(execOp a.eval o).run P w=.ok (.enter f args) w/\Calls P f args w fun e w'=>e=.returned v/\w=w'
theorem GivesIf.here {i:Nat} {o:Oper} {v:Value} {a:Act} (hi:ops[i]?=some o) (hg:GivesIf P ops S o v a) {K:Act->World->Prop} {w:World} (hS:S w) (h:K (a.put o.dst v) w):wpOp P ops Q i K a w:=by
 obtain⟨hw,hv⟩:=hg
 obtain⟨f,args,hr,hc⟩:=hv w hS
 unfold wpOp
 rw[hi]
 show if _ then _ else _
 rw[if_pos hw]
 refine .inl ?_
 unfold Oper.wp
 rw[hr,Oper.upon_enter]
 refine hc.mono ?_
 rintro e w' ⟨rfl,rfl⟩
 exact h
theorem wpOp_shape {j:Nat} {oj:Oper} (hj:ops[j]?=some oj) {Y:Act->Prop} (hput:∀b,Y b->∀u,Y (b.put oj.dst u)) (hdef:∀b d,Y b->Y { b with defers:=d::b.defers })
  {K:Act->World->Prop} {a:Act} {w:World} (hy:Y a) (h:wpOp P ops Q j K a w):wpOp P ops Q j (fun a' w'=>Y a'/\K a' w') a w:=by
 unfold wpOp at *
 rw[hj]at *
 dsimp only at *
 split
 {
 next hw=>
 rw[if_pos hw]at h
 rcases h with h|h
 {
 left
 unfold Oper.wp at *
 cases hr:(execOp a.eval oj).run P w with
 |ok n w'=>
  rw[hr]at h
  cases n<;>simp only[Oper.upon]at h⊢
  all_goals first
   |exact⟨hput _ hy _,h⟩
   |exact⟨hput _ (hdef _ _ hy) _,h⟩
   |exact Calls.mono h fun e w'' he=>by cases e<;>first|exact⟨hput _ hy _,he⟩|exact he
   |exact Rows.mono h fun u w'' he=>⟨hput _ hy _,he⟩
 |halt x w'=>
  rw[hr]at h
  cases x<;>simp only[Oper.upon]at h⊢
  exact h}
 ·exact .inr h}
 {
 next hw=>
 rw[if_neg hw]at h
 exact⟨hput _ hy _,h⟩}
theorem call_first {i:Nat} {oi:Oper} {v:Value} (hi:ops[i]?=some oi) (hsel:∀(j:Nat) (o:Oper) cs b,ops[j]?=some o->o.op≠.select cs b)
  (hQ:∀c a w,Q (.panic c) (a.put oi.dst v) w->Q (.panic c) a w) (fuel:Nat):∀(listed:Array Bool) (a:Act) (w:World),
   (∀j oj,ops[j]?=some oj->j≠i->listed.getD j true=false->(∀e∈oj.after,Region.binds md e=true->e.on≠i)->oi.apart ops oj=true) ->
   i∈Region.ready md ops listed->GivesIf P ops S oi v a->S w ->
   wpAnyH P md ops Q S fuel (listed.setIfInBounds i true) (a.put oi.dst v) w->wpAnyH P md ops Q S (fuel+1) listed a w:=by
 have key:∀(listed:Array Bool) (j:Nat) (oj:Oper),ops[j]?=some oj->i∈Region.ready md ops listed->j∈Region.ready md ops listed->∀e∈oj.after,Region.binds md e=true->e.on≠i:=by
  intro listed j oj hj hir hjr e he hb heq
  have h0:=(mem_ready.1 hir).1
  obtain⟨_,o,ho,hall⟩:=mem_ready.1 hjr
  rw[hj]at ho
  cases ho
  have h1:=hall e he hb
  rw[heq]at h1
  by_cases hlt:i<listed.size
  {
  simp[hlt]at h0 h1
  rw[h0]at h1
  cases h1}
  ·simp[hlt]at h0
 induction fuel with
 |zero=>
  intro listed a w _ hir hg hS H
  refine⟨fun e=>(by rw[e]at hir;cases hir),fun j hjr=>?_⟩
  by_cases hji:j=i
  {
  subst hji
  exact hg.here hi hS ⟨hS,H⟩}
  {
  have:=ready_mono hjr hji
  rw[H.1]at this
  cases this}
 |succ fuel ih=>
  intro listed a w hfree hir hg hS H
  refine⟨fun e=>(by rw[e]at hir;cases hir),fun j hjr=>?_⟩
  by_cases hji:j=i
  {
  subst hji
  exact hg.here hi hS ⟨hS,H⟩}
  obtain⟨hun,oj,hj,_⟩:=mem_ready.1 hjr
  have hap:=hfree j oj hj hji hun (key listed j oj hj hir hjr)
  obtain⟨_,_,hq3⟩:=Oper.apart_spec hap
  have hyF:YieldsIf P ops (fun _=>False) oi v a:=.inl ⟨hg.1,fun _ hf=>hf.elim⟩
  have h2:=wpOp_putIf hj hap (fun cs b=>hsel i oi cs b hi) (fun cs b=>hsel j oj cs b hj) hQ hyF (H.2 j (ready_mono hjr hji))
  have h3:=wpOp_shape hj (Y:=GivesIf P ops S oi v) (fun b hb u=>by
   unfold GivesIf at *
   rw[execOp_put oi (fun cs b=>hsel i oi cs b hi) b oj.dst u hq3,wanted_put oi b oj.dst u hq3]
   exact hb) (fun b d hb=>hb) hg h2
  refine wpOp_mono (fun a' w' h4=>⟨h4.2.2.1,ih (listed.setIfInBounds j true) a' w' (fun k ok hk hki hku hkw=>?_) (ready_mono hir (Ne.symm hji)) h4.1 h4.2.2.1 ?_⟩) h3
  {
  refine hfree k ok hk hki ?_ hkw
  by_cases hjk:j=k
  {
  subst hjk
  exact hun}
  ·rwa [getD_set_ne true hjk]at hku}
  {
  rw[Array.setIfInBounds_comm _ _ hji]
  exact h4.2.2.2}
theorem take_call {i:Nat} {oi:Oper} {v:Value} {fuel:Nat} {listed:Array Bool} {a:Act} {w:World} (hi:ops[i]?=some oi)
  (hs:Region.noSelect ops=true) (hf:Region.free md ops listed i=true) (hr:(Region.ready md ops listed).contains i=true)
  (hQ:∀c a w,Q (.panic c) (a.put oi.dst v) w->Q (.panic c) a w) (hg:GivesIf P ops S oi v a) (hS:S w)
  (h:wpAnyH P md ops Q S fuel (listed.setIfInBounds i true) (a.put oi.dst v) w):wpAnyH P md ops Q S (fuel+1) listed a w:=
 call_first hi (Region.noSelect_spec hs) hQ fuel listed a w (Region.free_spec hi hf) (by simpa using hr) hg hS h
end
end
section
open Go.RowKit
structure Seg where
 n:Int
 d:ByteArray
def segS:Shape Seg where
 n:=2
 R _ cs x:=cs=[.int .i64 x.n,.string x.d]
 len h:=by rw[h];rfl
 one h u hu:=by
  rw[h]at hu
  simp only[List.mem_cons,List.not_mem_nil,or_false]at hu
  rcases hu with rfl|rfl<;>rfl
 keep h _:=h
structure Cnk where
 d:ByteArray
 x:Ext
def chkS:Shape Cnk where
 n:=4
 R _ cs x:=cs=[.string x.d,.int .i64 x.x.s,.int .i64 x.x.o,.int .i64 x.x.l]
 len h:=by rw[h];rfl
 one h u hu:=by
  rw[h]at hu
  simp only[List.mem_cons,List.not_mem_nil,or_false]at hu
  rcases hu with rfl|rfl|rfl|rfl<;>rfl
 keep h _:=h
structure Cha where
 k:Int
 path:ByteArray
 attrs:List Atr
 tgt:ByteArray
 cont:ByteArray
def chaS:Shape Cha where
 n:=5
 R w cs x:=∃va,cs=[.int .i64 x.k,.string x.path,va,.string x.tgt,.string x.cont]/\SeqAt atrS w va x.attrs
 len h:=by
  obtain⟨_,rfl,_⟩:=h
  rfl
 one h u hu:=by
  obtain⟨_,rfl,h1⟩:=h
  simp only[List.mem_cons,List.not_mem_nil,or_false]at hu
  rcases hu with rfl|rfl|rfl|rfl|rfl
  any_goals rfl
  exact h1.one
 keep h hb:=by
  obtain⟨va,e,h1⟩:=h
  exact⟨va,e,h1.below hb⟩
structure Bat where
 date:Int
 l:List Cha
def batS:Shape Bat where
 n:=2
 R w cs x:=∃va,cs=[.int .i64 x.date,va]/\SeqAt chaS w va x.l
 len h:=by
  obtain⟨_,rfl,_⟩:=h
  rfl
 one h u hu:=by
  obtain⟨_,rfl,h1⟩:=h
  simp only[List.mem_cons,List.not_mem_nil,or_false]at hu
  rcases hu with rfl|rfl
  ·rfl
  ·exact h1.one
 keep h hb:=by
  obtain⟨va,e,h1⟩:=h
  exact⟨va,e,h1.below hb⟩
structure Ses where
 num:Int
 date:Int
 prev:ByteArray
 ents:List Ent
 str:ByteArray
 sig:ByteArray
def sesS:Shape Ses where
 n:=6
 R w cs x:=∃ve,cs=[.int .i64 x.num,.int .i64 x.date,.string x.prev,ve,.string x.str,.string x.sig]/\SeqAt entS w ve x.ents
 len h:=by
  obtain⟨_,rfl,_⟩:=h
  rfl
 one h u hu:=by
  obtain⟨_,rfl,h1⟩:=h
  simp only[List.mem_cons,List.not_mem_nil,or_false]at hu
  rcases hu with rfl|rfl|rfl|rfl|rfl|rfl
  any_goals rfl
  exact h1.one
 keep h hb:=by
  obtain⟨va,e,h1⟩:=h
  exact⟨va,e,h1.below hb⟩
theorem Tryz.elemSeg:Elem Tryz.prog 290 293 2 24 (.agg #[.int .i64 0,.string ⟨#[]⟩]):=⟨Tryz.underlying290,by kernel_rfl,rfl,by decide,by decide⟩
theorem Tryz.elemChk:Elem Tryz.prog 158 298 4 40 (.agg #[.string ⟨#[]⟩,.int .i64 0,.int .i64 0,.int .i64 0]):=⟨Tryz.underlying158,by kernel_rfl,rfl,by decide,by decide⟩
theorem Tryz.elemExt:Elem Tryz.prog 180 252 3 24 (.agg #[.int .i64 0,.int .i64 0,.int .i64 0]):=⟨Tryz.underlying180,by kernel_rfl,rfl,by decide,by decide⟩
theorem Tryz.elemHol:Elem Tryz.prog 161 289 2 24 (.agg #[.string ⟨#[]⟩,.int .i64 0]):=⟨Tryz.underlying161,by kernel_rfl,rfl,by decide,by decide⟩
theorem Tryz.elemStr:Elem Tryz.prog 51 9 1 16 (.string ⟨#[]⟩):=⟨Tryz.underlying51,by kernel_rfl,rfl,by decide,by decide⟩
theorem Tryz.elemEnt:Elem Tryz.prog 43 182 7 112 (.agg #[.int .i64 0,.string ⟨#[]⟩,.slice none 0 0,.string ⟨#[]⟩,.int .i64 0,.string ⟨#[]⟩,.slice none 0 0]):=⟨Tryz.underlying43,by kernel_rfl,rfl,by decide,by decide⟩
theorem src1 {α:Type} {ρ:Shape α} {w0 wr:World} {t:TypeId} (cs:List Value) (x:α) {o:Obj} (h:ρ.R w0 cs x) (ho:o=.cells cs.toArray t):SrcAt ρ w0 (wr.alloc o) (.slice (some ⟨wr.heap.size,0,none⟩) 1 1) [x]:=by
 subst ho
 exact SrcAt.lit h (Blk.new _ _ _)
def segSum:List Seg->Nat
 |[]=>0
 |x::r=>x.n.toNat+x.d.size+segSum r
theorem segSum_app (l m:List Seg):segSum (l++m)=segSum l+segSum m:=by
 induction l with
 |nil=>simp[segSum]
 |cons x r ih=>rw[List.cons_append,segSum,segSum,ih];omega
def SegOk (n m:Nat) (l:List Seg):Prop:=l.length<=m/\segSum l<=n/\∀x∈l,0<=x.n
theorem SegOk.snoc {n m k:Nat} {l:List Seg} {x:Seg} (h:SegOk n m l) (h0:0<=x.n) (hk:n+x.n.toNat+x.d.size<=k):SegOk k (m+1) (l++[x]):=
 ⟨by rw[List.length_append];have:=h.1;simp;omega,by rw[segSum_app];have:=h.2.1;simp only[segSum];omega,fun y hy=>by
  rcases List.mem_append.1 hy with hy|hy
  ·exact h.2.2 y hy
  ·rw[List.mem_singleton.1 hy];exact h0⟩
theorem SegOk.mono {n m n' m':Nat} {l:List Seg} (h:SegOk n m l) (hn:n<=n') (hm:m<=m'):SegOk n' m' l:=⟨by have:=h.1;omega,by have:=h.2.1;omega,h.2.2⟩
theorem SegOk.mem {n m:Nat} {l:List Seg} (h:SegOk n m l) {x:Seg} (hx:x∈l):0<=x.n/\x.n.toNat+x.d.size<=n:=by
 refine⟨h.2.2 x hx,?_⟩
 have h2:=h.2.1
 clear h
 induction l with
 |nil=>cases hx
 |cons y r ih=>
  rw[segSum]at h2
  rcases List.mem_cons.1 hx with rfl|hx
  ·omega
  {
  have:=ih hx (by omega)
  omega}
def RetSegs (w0 W:World) (n:Nat) (e:Ending):Prop:=∃v l,e=.returned v/\OwnSeq segS 293 w0 W v l/\SegOk n (2*n+1) l
theorem split34_any (w:World) (s:ByteArray) (hs:s.size<=100000):Calls Tryz.prog 218 #[.string s] w fun e w'=>RetSegs w w' s.size e/\Below w.heap.size w w':=by
 have HZ:=zY (fun(W:World) (i:Nat) (hi:i<=s.size)=>zeros_any W s i hi (by omega))
 go_enter Tryz.func218,Tryz.ntmps218
 go_wp2
 go_loopw [3,4,5,6] (fun y f x _ wr=>∃(fr i:Nat) (l:List Seg),fr<=i/\i<=s.size/\x=.int .i64 (i:Int)/\f=.int .i64 (fr:Int)/\SegOk fr (2*i) l/\OwnSeq segS 293 w wr y l/\Below w.heap.size w wr) (fun _ _ x _ _=>s.size-(intOf x).toNat)
 case atStart=>exact⟨0,0,[],by omega,by omega,rfl,rfl,⟨by simp,by simp[segSum],(fun x hx=>nomatch hx)⟩,OwnSeq.new _,(Below.refl _ _).alloc (Nat.le_refl _) _⟩
 case round=>
  obtain⟨fr,i,l,hfi,his,rfl,rfl,hok,ho,hB⟩:=hrel
  have Hok:=zY hok
  have Ho:=zY ho
  have HB:=zY hB
  have hll:l.length<=2*i:=hok.1
  clear hok ho hB
  by_cases h:i<s.size
  {
  have hI:(i:Int)<s.size:=by omega
  have HF:=zY (HZ.out wr i his)
  go_wp2_with fail
  refine HF.out.mono ?_
  rintro e1 w1 ⟨⟨n,rfl,hn1⟩,rfl⟩
  obtain⟨j,hj⟩:=zNm (i+n)
  have hjI:(i:Int)+n=j:=by omega
  have Hl1:Hid (l.length+1<=100000000):=zY (by omega)
  by_cases h32:32<=n
  {
  have g1:(32:Int)<=n:=by omega
  have g2:((n:Int)==0)=false:=by rw[beq_eq_false_iff_ne];omega
  by_cases hif:fr<i
  {
  have g3:(fr:Int)<i:=by omega
  obtain⟨S,hS⟩:=zNm (s.extract fr i)
  have HSz:Hid (S.size=i-fr):=zY (by rw[<-hS,ByteArray.size_extract];omega)
  have Hl2:Hid ((l++[(⟨0,S⟩:Seg)]).length+1<=100000000):=zY (by simp;omega)
  have HL:Hid (SegOk j (2*i+1+1) (l++[(⟨0,S⟩:Seg)]++[(⟨(n:Int),⟨#[]⟩⟩:Seg)])):=zY (SegOk.snoc (SegOk.snoc Hok.out (Int.le_refl 0) (k:=i) (by show fr+0+S.size<=i;have:=HSz.out;omega)) (by simp) (by show i+n+0<=j;omega))
  have hjs:j<=s.size:=by omega
  have hij:i+32<=j:=by omega
  clear hj
  go_wp2_with (at_builtin;first|(refine append_seq (w0:=w) Tryz.elemSeg rfl _ _ rfl rfl (Ho.out.alloc _) rfl (src1 (ρ:=segS) [.int .i64 0,.string S] ⟨0,S⟩ rfl rfl) Hl1.out (HB.out.alloc HB.out.size _) ?_;intro va wa hob _ hbb;have KU:=zY hob;have KB:=zY hbb;clear hob hbb)|(refine append_seq (w0:=w) Tryz.elemSeg rfl _ _ rfl rfl (KU.out.alloc _) rfl (src1 (ρ:=segS) [.int .i64 (n:Int),.string ⟨#[]⟩] ⟨(n:Int),⟨#[]⟩⟩ rfl rfl) Hl2.out (KB.out.alloc KB.out.size _) ?_;intro vb wb hob _ hbb;have KV:=zY hob;have KC:=zY hbb;clear hob hbb))
  go_roundw
  case rel=>exact⟨j,j,_,Nat.le_refl _,hjs,rfl,rfl,HL.out.mono (Nat.le_refl _) (by omega),KV.out,KC.out⟩
  case measure=>simp[intOf];omega}
  {
  have g3:¬(fr:Int)<i:=by omega
  obtain rfl:fr=i:=by omega
  have HL:Hid (SegOk j (2*fr+1) (l++[(⟨(n:Int),⟨#[]⟩⟩:Seg)])):=zY (SegOk.snoc Hok.out (by simp) (by show fr+n+0<=j;omega))
  have hjs:j<=s.size:=by omega
  have hij:fr+32<=j:=by omega
  clear hj
  go_wp2_with (at_builtin;refine append_seq (w0:=w) Tryz.elemSeg rfl _ _ rfl rfl (Ho.out.alloc _) rfl (src1 (ρ:=segS) [.int .i64 (n:Int),.string ⟨#[]⟩] ⟨(n:Int),⟨#[]⟩⟩ rfl rfl) Hl1.out (HB.out.alloc HB.out.size _) ?_;intro vb wb hob _ hbb;have KV:=zY hob;have KC:=zY hbb;clear hob hbb)
  go_roundw
  case rel=>exact⟨j,j,_,Nat.le_refl _,hjs,rfl,rfl,HL.out.mono (Nat.le_refl _) (by omega),KV.out,KC.out⟩
  case measure=>simp[intOf];omega}}
  {
  have g1:¬(32:Int)<=n:=by omega
  by_cases h0:n=0
  {
  subst h0
  rw[show ((0:Nat):Int)=0 from rfl]
  clear hj hjI
  go_wp2
  go_roundw
  case rel=>exact⟨fr,i+1,l,by omega,by omega,by go_num,rfl,Hok.out.mono (Nat.le_refl _) (by omega),Ho.out,HB.out⟩
  case measure=>simp[intOf];omega}
  {
  have g2:((n:Int)==0)=false:=by rw[beq_eq_false_iff_ne];omega
  have hjs:j<=s.size:=by omega
  have hij:i<j:=by omega
  clear hj
  go_wp2
  go_roundw
  case rel=>exact⟨fr,j,l,by omega,by omega,rfl,rfl,Hok.out.mono (Nat.le_refl _) (by omega),Ho.out,HB.out⟩
  case measure=>simp[intOf];omega}}}
  {
  obtain rfl:i=s.size:=by omega
  have hI:¬((s.size:Nat):Int)<(s.size:Int):=by omega
  by_cases hif:fr<s.size
  {
  have g3:(fr:Int)<s.size:=by omega
  obtain⟨S,hS⟩:=zNm (s.extract fr s.size)
  have HSz:Hid (S.size=s.size-fr):=zY (by rw[<-hS,ByteArray.size_extract];omega)
  have Hl1:Hid (l.length+1<=100000000):=zY (by omega)
  have HL:Hid (SegOk s.size (2*s.size+1) (l++[(⟨0,S⟩:Seg)])):=zY (SegOk.snoc Hok.out (Int.le_refl 0) (by show fr+0+S.size<=s.size;have:=HSz.out;omega))
  go_wp2_with (at_builtin;refine append_seq (w0:=w) Tryz.elemSeg rfl _ _ rfl rfl (Ho.out.alloc _) rfl (src1 (ρ:=segS) [.int .i64 0,.string S] ⟨0,S⟩ rfl rfl) Hl1.out (HB.out.alloc HB.out.size _) ?_;intro va wa hob _ hbb;have KU:=zY hob;have KB:=zY hbb;clear hob hbb)
  go_ret
  exact⟨⟨_,_,rfl,KU.out,HL.out⟩,KB.out⟩}
  {
  have g3:¬(fr:Int)<s.size:=by omega
  go_wp2
  go_ret
  exact⟨⟨_,l,rfl,Ho.out,Hok.out.mono (by omega) (by omega)⟩,HB.out⟩}}
end
section
def gdiv (a b:Nat):Nat:=gmul a (ginv b)
theorem xor_ne {a b:Nat} (h:a≠b):a^^^b≠0:=fun e=>h (by
 have:a^^^b^^^b=0^^^b:=by rw[e]
 rwa [Nat.xor_assoc,Nat.xor_self,Nat.xor_zero,Nat.zero_xor]at this)
theorem ginv_mul {a b:Nat} (ha:a<256) (hb:b<256) (h:a≠0) (k:b≠0):ginv (gmul a b)=gmul (ginv a) (ginv b):=by
 refine(inv_unique (gmul_lt _ ha) (gmul_lt _ (ginv_lt ha)) ?_).symm
 rw[gmul_assoc ha hb (gmul_lt _ (ginv_lt ha)),<-gmul_assoc hb (ginv_lt ha) (ginv_lt hb),gmul_comm hb (ginv_lt ha),gmul_assoc (ginv_lt ha) hb (ginv_lt hb),gmul_inv hb k,gmul_one_right,gmul_inv ha h]
def wgtR (xs:List Nat) (k x:Nat):Nat->Nat
 |0=>1
 |i+1=>if i=k then wgtR xs k x i else gmul (wgtR xs k x i) (gdiv (x^^^cf xs i) (cf xs k^^^cf xs i))
def aboR (xs:List Nat) (k x:Nat):Nat->Nat
 |0=>1
 |i+1=>if i=k then aboR xs k x i else gmul (aboR xs k x i) (x^^^cf xs i)
def belR (xs:List Nat) (k:Nat):Nat->Nat
 |0=>1
 |i+1=>if i=k then belR xs k i else gmul (belR xs k i) (cf xs k^^^cf xs i)
theorem aboR_lt {xs:List Nat} {k x:Nat}:∀i,aboR xs k x i<256
 |0=>(by decide:1<256)
 |i+1=>by
  rw[aboR]
  split
  ·exact aboR_lt i
  ·exact gmul_lt _ (aboR_lt i)
theorem belR_lt {xs:List Nat} {k:Nat}:∀i,belR xs k i<256
 |0=>(by decide:1<256)
 |i+1=>by
  rw[belR]
  split
  ·exact belR_lt i
  ·exact gmul_lt _ (belR_lt i)
theorem wgtR_lt {xs:List Nat} {k x:Nat}:∀i,wgtR xs k x i<256
 |0=>(by decide:1<256)
 |i+1=>by
  rw[wgtR]
  split
  ·exact wgtR_lt i
  ·exact gmul_lt _ (wgtR_lt i)
theorem wgt_eq {xs:List Nat} {k x:Nat} (hx:x<256) (hb:∀i,cf xs i<256) (hd:∀i,i<xs.length->i≠k->cf xs k≠cf xs i):∀i,i<=xs.length->wgtR xs k x i=gdiv (aboR xs k x i) (belR xs k i)/\belR xs k i≠0
 |0,_=>⟨(by decide:1=gdiv 1 1),(by decide:1≠0)⟩
 |i+1,hi=>by
  obtain⟨h1,h2⟩:=wgt_eq hx hb hd i (by omega)
  by_cases h:i=k
  {
  rw[wgtR,aboR,belR,if_pos h,if_pos h,if_pos h]
  exact⟨h1,h2⟩}
  {
  rw[wgtR,aboR,belR,if_neg h,if_neg h,if_neg h]
  have hne:cf xs k^^^cf xs i≠0:=xor_ne (hd i (by omega) h)
  have l1:=xor_lt hx (hb i)
  have l2:=xor_lt (hb k) (hb i)
  have l3:=aboR_lt (xs:=xs) (k:=k) (x:=x) i
  have l4:=belR_lt (xs:=xs) (k:=k) i
  refine⟨?_,fun e=>(gmul_eq_zero l4 l2 e).elim h2 hne⟩
  rw[h1,gdiv,gdiv,gdiv,ginv_mul l4 l2 h2 hne]
  rw[gmul_assoc l3 (ginv_lt l4) (gmul_lt _ l1),<-gmul_assoc (ginv_lt l4) l1 (ginv_lt l2),gmul_comm (ginv_lt l4) l1,gmul_assoc l1 (ginv_lt l4) (ginv_lt l2),<-gmul_assoc l3 l1 (gmul_lt _ (ginv_lt l4))]
}
def wgt (xs:List Nat) (x k:Nat):Nat:=wgtR xs k x xs.length
theorem wgt_lt (xs:List Nat) (x k:Nat):wgt xs x k<256:=wgtR_lt _
def sumE (xs:List Nat) (bl:List (List Nat)) (x i:Nat):Nat->Nat
 |0=>0
 |k+1=>sumE xs bl x i k^^^gmul (wgt xs x k) (cf (bl.getD k []) i)
theorem sumE_lt {xs:List Nat} {bl:List (List Nat)} {x i:Nat}:∀k,sumE xs bl x i k<256
 |0=>(by decide:0<256)
 |k+1=>xor_lt (sumE_lt k) (gmul_lt _ (wgt_lt _ _ _))
def atE (xs:List Nat) (bl:List (List Nat)) (n x:Nat):List Nat:=(List.range n).map fun i=>sumE xs bl x i xs.length
def rowE (xs:List Nat) (bl:List (List Nat)) (n x k i:Nat):List Nat:=(List.range n).map fun j=>sumE xs bl x j (if j<i then k+1 else k)
theorem rowE_len {xs:List Nat} {bl:List (List Nat)} {n x k i:Nat}:(rowE xs bl n x k i).length=n:=by simp[rowE]
theorem rowE_cf {xs:List Nat} {bl:List (List Nat)} {n x k i j:Nat} (hj:j<n):cf (rowE xs bl n x k i) j=sumE xs bl x j (if j<i then k+1 else k):=by
 rw[rowE,cf,List.getElem?_map,List.getElem?_range hj]
 rfl
theorem rowE_lt {xs:List Nat} {bl:List (List Nat)} {n x k i:Nat}:∀y∈rowE xs bl n x k i,y<256:=by
 intro y hy
 obtain⟨j,_,rfl⟩:=List.mem_map.1 hy
 exact sumE_lt _
theorem rowE_zero {xs:List Nat} {bl:List (List Nat)} {n x:Nat}:rowE xs bl n x 0 0=List.replicate n 0:=by
 apply List.ext_getElem (by simp[rowE])
 intro j h1 h2
 simp[rowE,sumE]
theorem rowE_next {xs:List Nat} {bl:List (List Nat)} {n x k:Nat}:rowE xs bl n x k n=rowE xs bl n x (k+1) 0:=by
 unfold rowE
 refine List.map_congr_left fun j hj=>?_
 rw[if_pos (List.mem_range.1 hj),if_neg (Nat.not_lt_zero j)]
theorem rowE_step {xs:List Nat} {bl:List (List Nat)} {n x k i:Nat} (hi:i<n):(rowE xs bl n x k i).set i (cf (rowE xs bl n x k i) i^^^gmul (wgt xs x k) (cf (bl.getD k []) i))=rowE xs bl n x k (i+1):=by
 rw[rowE_cf hi,if_neg (Nat.lt_irrefl i)]
 apply List.ext_getElem (by simp[rowE])
 intro j h1 h2
 have hj:j<n:=by simpa [rowE]using h1
 rw[List.getElem_set]
 by_cases h:i=j
 {
 subst h
 simp[rowE,sumE]}
 {
 rw[if_neg h]
 simp only[rowE,List.getElem_map,List.getElem_range]
 by_cases h3:j<i
 ·rw[if_pos h3,if_pos (by omega)]
 ·rw[if_neg h3,if_neg (by omega)]}
theorem rowE_all {xs:List Nat} {bl:List (List Nat)} {n x:Nat}:rowE xs bl n x xs.length 0=atE xs bl n x:=by
 unfold rowE atE
 refine List.map_congr_left fun j hj=>?_
 rw[if_neg (Nat.not_lt_zero j)]
theorem atE_len {xs:List Nat} {bl:List (List Nat)} {n x:Nat}:(atE xs bl n x).length=n:=by simp[atE]
end
end Go.Proofs.YthgenkkkapilhaaGreatDoor
