/-
  Joined: VpE VqH VpD VpJ.
-/
import Derived.Test.YthgenkkkapilhaaGreatDoorVSn07
set_option linter.all false
set_option maxRecDepth 100000
set_option maxHeartbeats 64000000
namespace Go.Proofs.YthgenkkkapilhaaGreatDoor
section
open Go.RowKit
theorem flat_set {n:Nat}:∀{css:List (List Value)} {i:Nat} {cs:List Value},(∀c∈css,c.length=n)->css[i]?=some cs->∀j,j<n->∀u,css.flatten.set (i*n+j) u=(css.set i (cs.set j u)).flatten
 |[],_,_,_,h,_,_,_=>by simp at h
 |c::r,0,cs,hl,h,j,hj,u=>by
  obtain rfl:c=cs:=by simpa using h
  rw[List.flatten_cons,Nat.zero_mul,Nat.zero_add,List.set_append,if_pos (by rw[hl c List.mem_cons_self];omega)]
  rfl
 |c::r,i+1,cs,hl,h,j,hj,u=>by
  have hc:=hl c List.mem_cons_self
  rw[List.flatten_cons,List.set_append,if_neg (by rw[hc,Nat.add_mul];omega),show (i+1)*n+j-c.length=i*n+j by rw[hc,Nat.add_mul];omega]
  rw[flat_set (fun x hx=>hl x (List.mem_cons_of_mem _ hx)) (by simpa using h) j hj u]
  rfl
theorem Both.set {β γ:Type} {r:β->γ->Prop} {l:List β} {m:List γ} (h:Both r l m) {i:Nat} {x:β} {y:γ} (hr:r x y):Both r (l.set i x) (m.set i y):=by
 induction h generalizing i with
 |nil=>exact .nil
 | @cons a b l m h1 _ ih=>
  cases i with
  |zero=>exact .cons hr ‹_›
  |succ i=>exact .cons h1 ih
section
variable {α:Type} {ρ:Shape α} {w0 w w' W:World} {v:Value} {xs:List α}
theorem OwnSeq.setc {t:TypeId} {g c n:Nat} (h:OwnSeq ρ t w0 W (.slice (some ⟨g,0,none⟩) n c) xs) {i j:Nat} {x y:α} (hx:xs[i]?=some x) (hj:j<ρ.n) (u:Value) (hy:∀cs,ρ.R w0 cs x->ρ.R w0 (cs.set j u) y):OwnSeq ρ t w0 (W.setCell ⟨g,i*ρ.n+j,none⟩ u) (.slice (some ⟨g,0,none⟩) n c) (xs.set i y):=by
 obtain⟨css,h,hB⟩:=h
 obtain⟨cs,hcs,hr⟩:=hB.at hx
 refine⟨css.set i (cs.set j u),?_,hB.set (hy cs hr)⟩
 obtain⟨hl,h⟩:=h
 have hi:i<xs.length:=(List.getElem?_eq_some_iff.1 hx).1
 have hm:(i+1)*ρ.n<=xs.length*ρ.n:=Nat.mul_le_mul (by omega) (Nat.le_refl _)
 rw[Nat.add_mul,Nat.one_mul]at hm
 rw[<-flat_set hB.lens hcs j hj u,List.length_set]
 refine⟨by rw[List.length_set];exact hl,?_⟩
 rcases h with⟨e,h0⟩|⟨g',cap,cur,e,hb,hg,h1,h2,h3,h4⟩
 ·cases e
 {
 cases e
 refine .inr ⟨g,c,cur.setIfInBounds (i*ρ.n+j) u,rfl,hb,?_,h1,h2,by simpa using h3,?_⟩
 ·simp[World.setCell,Array.getElem?_modify,hg]
 ·rw[Array.toList_setIfInBounds,List.take_set,h4]}
def Flat (ρ:Shape α):Prop:=∀(w w':World) (cs:List Value) (x:α),ρ.R w cs x->ρ.R w' cs x
end
end
section
open Go.RowKit
theorem decD:∀u:Nat,(Lib.decDigits u).map (·.toNat)=digD u:=by
 intro u
 induction u using Nat.strongRecOn with
 |_ u ih=>
  by_cases h:u<10
  {
  rw[Lib.decDigits_one h,digD_small h]
  show [(UInt8.ofNat (48+u)).toNat]=_
  rw[UInt8.toNat_ofNat',Nat.mod_eq_of_lt (by omega)]}
  {
  rw[Lib.decDigits,dif_neg h,digD_great h,List.map_append,ih (u/10) (by omega),digD_small (u:=u%10) (by omega)]
  show _++[(UInt8.ofNat (48+u%10)).toNat]=_
  rw[UInt8.toNat_ofNat',Nat.mod_eq_of_lt (by omega)]}
theorem itoaB (n:Nat):(⟨(Lib.itoa (n:Int)).toArray⟩:ByteArray)=strB (digD n):=by
 rw[<-strB_bs ⟨(Lib.itoa (n:Int)).toArray⟩,Lib.itoa_nonneg,<-decD]
 rfl
def natL (l:List UInt8):List Nat:=l.map (·.toNat)
theorem index_cons (b:UInt8) (l:List UInt8):Lib.index (b::l) [47]=if b=47 then 0 else if Lib.index l [47]= -1 then -1 else Lib.index l [47]+1:=by
 rw[Lib.index]
 by_cases h:b=47
 {
 subst h
 simp[List.isPrefixOf]}
 {
 have hp:([47]:List UInt8).isPrefixOf (b::l)=false:=by simp[List.isPrefixOf,Ne.symm h]
 rw[hp,if_neg h]
 by_cases hm:Lib.index l [47]= -1
 ·rw[if_pos hm,hm];rfl
 {
 rw[if_neg hm]
 simp[hm]}}
theorem splits_key:∀l:List UInt8,∃h r,Lib.splitK [47] 0 (Lib.count l [47]) l=h::r/\∀p,splitG p (natL l)=(p++natL h)::r.map natL
 |[]=>⟨[],[],by rw[Lib.count_miss (by simp[Lib.index])];rfl,fun p=>by simp[natL,splitG]⟩
 |b::t=>by
  obtain⟨h,r,h1,h2⟩:=splits_key t
  by_cases hb:b=47
  {
  subst hb
  refine⟨[],h::r,?_,fun p=>?_⟩
  {
  rw[Lib.count_cons_eq,Nat.add_comm,Lib.splitK,index_cons,if_pos rfl,if_neg (by decide)]
  simp only[Int.toNat_zero,Nat.add_zero,List.take_zero,List.length_cons,List.length_nil,Nat.zero_add,List.drop_succ_cons,List.drop_zero]
  rw[h1]}
  {
  show splitG p (47::natL t)=_
  rw[splitG,if_pos rfl,h2 []]
  simp[natL]}}
  {
  have hn:¬b.toNat=47:=fun e=>hb (by rw[<-UInt8.toNat_inj,e];rfl)
  have hg:∀p,splitG p (natL (b::t))=(p++natL (b::h))::r.map natL:=fun p=>by
   show splitG p (b.toNat::natL t)=_
   rw[splitG,if_neg hn,h2 (p++[b.toNat])]
   simp[natL]
  rw[Lib.count_cons_ne b 47 t hb]
  refine⟨b::h,r,?_,hg⟩
  cases hk:Lib.count t [47]with
  |zero=>
   rw[hk]at h1
   rw[Lib.splitK]at h1
   obtain⟨rfl,rfl⟩:=List.cons.inj h1
   rfl
  |succ k=>
   rw[hk]at h1
   have hm:Lib.index t [47]≠ -1:=fun e=>by rw[Lib.count_miss e]at hk;cases hk
   have hge:=Lib.index_ge t [47]
   obtain⟨j,hj⟩:∃j:Nat,Lib.index t [47]=j:=⟨(Lib.index t [47]).toNat,by omega⟩
   have ej:¬((j:Int)== -1)=true:=fun e=>by have:=beq_iff_eq.1 e;omega
   have ej1:¬(((j:Int)+1)== -1)=true:=fun e=>by have:=beq_iff_eq.1 e;omega
   have ej2:¬(j:Int)= -1:=by omega
   rw[Lib.splitK,hj,if_neg ej]at h1
   rw[Lib.splitK,index_cons,if_neg hb,hj,if_neg ej2,if_neg ej1]
   obtain⟨e1,e2⟩:=List.cons.inj h1
   rw[<-e1,<-e2,show ((j:Int)+1).toNat=j+1 by omega,Int.toNat_natCast]
   rfl}
theorem splits_elems (s:ByteArray):Lib.splitB ⟨#[47]⟩ 0 (Lib.countB s ⟨#[47]⟩) s=(splitG [] (bs s)).map strB:=by
 obtain⟨h,r,h1,h2⟩:=splits_key s.data.toList
 have e1:=Lib.splitB_data ⟨#[47]⟩ 0 (Lib.countB s ⟨#[47]⟩) s
 have e2:(Lib.splitB ⟨#[47]⟩ 0 (Lib.countB s ⟨#[47]⟩) s).map (·.data.toList)=h::r:=e1.trans h1
 have e3:splitG [] (bs s)=(h::r).map natL:=by
  rw[show bs s=natL s.data.toList from rfl,h2 []]
  rfl
 rw[e3,<-e2,List.map_map,List.map_map]
 have:∀L:List ByteArray,L.map ((strB∘natL)∘fun x=>x.data.toList)=L:=fun L=>by
  induction L with
  |nil=>rfl
  |cons x r ih=>rw[List.map_cons,ih];exact congrArg (· :: r) (strB_bs x)
 exact(this _).symm
theorem idx_none {s:ByteArray} {p:Nat->Bool} (h:∀b∈bs s,b<128/\p b=false):∀(f pos:Nat),Lib.idxFuncFrom p true s f pos= -1
 |0,_=>rfl
 |f+1,pos=>by
  unfold Lib.idxFuncFrom
  by_cases hp:pos<s.size
  {
  have hb:=h _ (List.mem_of_getElem? (bs_get s pos hp))
  rw[if_pos hp,decode_ascii s pos hp hb.1]
  dsimp only
  rw[hb.2,if_neg (by decide)]
  exact idx_none h f (pos+1)}
  ·rw[if_neg hp]
def RetXB (e:Ending):Prop:=∃(x:Ext) (b:Bool),e=.returned (.tuple #[.agg #[.int .i64 x.s,.int .i64 x.o,.int .i64 x.l],.bool b])
theorem find_any (w:World) (v:Value) (l:List Cnk) (hv:SeqAt chkS w v l) (sn:Int) (st s:ByteArray):Calls Tryz.prog 221 #[.agg #[v,.int .i64 sn,.string st],.string s] w fun e w'=>RetXB e/\Below w.heap.size w w':=by
 have Hv:=zY hv
 obtain⟨A,c,rfl,h1,h2⟩:=hv.slice
 clear hv
 have hK:=Blk.new w 160 [.slice A l.length c,.int .i64 sn,.string st]
 change Blk (w.alloc (.cells #[.slice A l.length c,.int .i64 sn,.string st] 160)) _ _ _ at hK
 have hZ:=Blk.new (w.alloc (.cells #[.slice A l.length c,.int .i64 sn,.string st] 160)) 252 [.int .i64 0,.int .i64 0,.int .i64 0]
 change Blk ((w.alloc (.cells #[.slice A l.length c,.int .i64 sn,.string st] 160)).alloc (.cells #[.int .i64 0,.int .i64 0,.int .i64 0] 252)) _ _ _ at hZ
 rw[World.size_alloc]at hZ
 have HZ0:=zY hZ
 have HK0:=zY (hK.alloc (.cells #[.int .i64 0,.int .i64 0,.int .i64 0] 252))
 have HB0:=zY ((zBl w (.cells #[.slice A l.length c,.int .i64 sn,.string st] 160)).alloc (by simp) (.cells #[.int .i64 0,.int .i64 0,.int .i64 0] 252))
 clear hZ hK
 go_enter Tryz.func221,Tryz.ntmps221
 go_upto_region 1 with fail
 generalize (w.alloc (.cells #[.slice A l.length c,.int .i64 sn,.string st] 160)).alloc (.cells #[.int .i64 0,.int .i64 0,.int .i64 0] 252)=wa at *
 go_wp2
 go_loopw [6] (fun x wr=>∃i:Nat,i<=l.length/\x=.int .i64 (i:Int)/\wa=wr) (fun x _=>l.length-(intOf x).toNat)
 case atStart=>exact⟨0,by omega,rfl,rfl⟩
 case round=>
  obtain⟨i,hi,rfl,rfl⟩:=hrel
  have c0:=HK0.out.c 0
  by_cases h:i<l.length
  {
  have hiI:(i:Int)<l.length:=by omega
  obtain⟨x,hx⟩:∃x,l[i]?=some x:=⟨_,List.getElem?_eq_getElem h⟩
  obtain⟨_,_,e9,_,_,h4⟩:=Hv.out.below HB0.out
  cases e9
  obtain⟨b,o,cs,rfl,rfl,hc⟩:=h4 i x hx
  obtain⟨d,xs,xo,xl⟩:=x
  have e0:wa.cell? ⟨b,o+i*4,none⟩=some (.string d):=hc 0 _ rfl
  have e1:wa.cell? ⟨b,o+i*4+1,none⟩=some (.int .i64 xs):=hc 1 _ rfl
  have e2:wa.cell? ⟨b,o+i*4+2,none⟩=some (.int .i64 xo):=hc 2 _ rfl
  have e3:wa.cell? ⟨b,o+i*4+3,none⟩=some (.int .i64 xl):=hc 3 _ rfl
  clear hc h4 hx
  by_cases hps:d=s
  {
  subst hps
  have z0:=HZ0.out.c 0
  have z1:=HZ0.out.c 1
  have z2:=HZ0.out.c 2
  have y0:=HZ0.out.frozen 0
  have y1:=HZ0.out.frozen 1
  have y2:=HZ0.out.frozen 2
  have HW:=zY (((HZ0.out.set 0 (.int .i64 xs)).set 1 (.int .i64 xo)).set 2 (.int .i64 xl))
  have HB:=zY (((HB0.out.setCell (p:=⟨w.heap.size+1,0,none⟩) (by show w.heap.size<=w.heap.size+1;omega) (.int .i64 xs)).setCell (p:=⟨w.heap.size+1,1,none⟩) (by show w.heap.size<=w.heap.size+1;omega) (.int .i64 xo)).setCell (p:=⟨w.heap.size+1,2,none⟩) (by show w.heap.size<=w.heap.size+1;omega) (.int .i64 xl))
  go_wp2_with fail
  refine bodyPost_ret (results_row_tmp rfl _ _ (w.heap.size+1) 252 _ (0,0) _ rfl HW.out Tryz.underlying252 rfl (by kernel_rfl)) rfl ?_
  exact⟨⟨⟨xs,xo,xl⟩,true,rfl⟩,HB.out⟩}
  {
  have b3:¬d.toList=s.toList:=fun e=>hps (by rw[ByteArray.toList_eq,ByteArray.toList_eq]at e;exact ByteArray.ext (Array.toList_inj.1 e))
  have b4:(d.toList==s.toList)=false:=by rw[beq_eq_false_iff_ne];exact b3
  clear hps
  go_wp2
  go_roundw
  case rel=>exact⟨i+1,by omega,by go_num,by first|rfl|trivial⟩
  case measure=>simp[intOf];omega}}
  {
  have hiI:¬(i:Int)<l.length:=by omega
  have z0:=HZ0.out.c 0
  have z1:=HZ0.out.c 1
  have z2:=HZ0.out.c 2
  have y0:=HZ0.out.frozen 0
  have y1:=HZ0.out.frozen 1
  have y2:=HZ0.out.frozen 2
  have HW:=zY (((HZ0.out.set 0 (.int .i64 0)).set 1 (.int .i64 0)).set 2 (.int .i64 0))
  have HB:=zY (((HB0.out.setCell (p:=⟨w.heap.size+1,0,none⟩) (by show w.heap.size<=w.heap.size+1;omega) (.int .i64 0)).setCell (p:=⟨w.heap.size+1,1,none⟩) (by show w.heap.size<=w.heap.size+1;omega) (.int .i64 0)).setCell (p:=⟨w.heap.size+1,2,none⟩) (by show w.heap.size<=w.heap.size+1;omega) (.int .i64 0))
  go_wp2_with fail
  refine bodyPost_ret (results_row_tmp rfl _ _ (w.heap.size+1) 252 _ (0,0) _ rfl HW.out Tryz.underlying252 rfl (by kernel_rfl)) rfl ?_
  exact⟨⟨⟨0,0,0⟩,false,rfl⟩,HB.out⟩}
theorem allowed38_any (w:World) (v:Value) (l:List Hol) (hv:SeqAt holS w v l) (hz:∀h∈l,h.p.size<=1000000) (k:Int) (path tgt dig:ByteArray) (Aa Ax:Option Addr) (na ca nx cx:Nat) (size:Int) (hp:path.size<=1000000) (date:Int):
  Calls Tryz.prog 156 #[v,.agg #[.int .i64 k,.string path,.slice Aa na ca,.string tgt,.int .i64 size,.string dig,.slice Ax nx cx],.int .i64 date] w fun e w'=>RetI e/\Below w.heap.size w w':=by
 have hK:=Blk.new w 182 [.int .i64 k,.string path,.slice Aa na ca,.string tgt,.int .i64 size,.string dig,.slice Ax nx cx]
 change Blk (w.alloc (.cells #[.int .i64 k,.string path,.slice Aa na ca,.string tgt,.int .i64 size,.string dig,.slice Ax nx cx] 182)) _ _ _ at hK
 have HK:=zY hK
 have HB0:=zY (zBl w (.cells #[.int .i64 k,.string path,.slice Aa na ca,.string tgt,.int .i64 size,.string dig,.slice Ax nx cx] 182))
 have Hv:=zY (hv.below HB0.out)
 obtain⟨A,c,rfl,h1,h2⟩:=hv.slice
 have HH:=zY (fun(W:World) (h:SeqAt holS W (.slice A l.length c) l)=>held_any W (.slice A l.length c) l h hz path hp date)
 have HU:=zY (fun(W:World) (q:ByteArray) (hq:q.size<=1000000)=>under_any W q path hq hp)
 have Hz:=zY hz
 clear hK hv hz
 go_enter Tryz.func156,Tryz.ntmps156
 go_upto_region 1 with fail
 generalize w.alloc (.cells #[.int .i64 k,.string path,.slice Aa na ca,.string tgt,.int .i64 size,.string dig,.slice Ax nx cx] 182)=wa at *
 have c0:=HK.out.c 0
 have c1:=HK.out.c 1
 have hk:(k=1∨k=2∨k=3)∨k=4∨(k≠1/\k≠2/\k≠3/\k≠4):=by omega
 rcases hk with hk|rfl|⟨k1,k2,k3,k4⟩
 {
 rcases hk with rfl|rfl|rfl
 all_goals
  go_wp2_with fail
  refine(HH.out _ Hv.out).mono ?_
  rintro e1 w1 ⟨⟨r,rfl⟩,hb1⟩
  have d0:=(HK.out.kept hb1).c 0
  have HBz:=zYt HB0 hb1
  clear hb1
  cases r with
  |true=>
   go_wp2_with fail
   go_ret
   exact⟨RetI.of 15,HBz.out⟩
  |false=>
   go_wp2_with fail
   go_ret
   exact⟨RetI.of 0,HBz.out⟩}
 {
 go_wp2_with fail
 refine(HH.out _ Hv.out).mono ?_
 rintro e1 w1 ⟨⟨r,rfl⟩,hb1⟩
 have HK1:=zY (HK.out.kept hb1)
 have Hv1:=zY (Hv.out.below hb1)
 have d0:=HK1.out.c 0
 have HBz:=zYt HB0 hb1
 clear hb1
 cases r with
 |true=>
  go_wp2_with fail
  go_ret
  exact⟨RetI.of 15,HBz.out⟩
 |false=>
  clear HB0 HK Hv c0 c1
  have HB0:=HBz
  go_wp2
  go_loopw [8] (fun x wr=>∃i:Nat,i<=l.length/\x=.int .i64 (i:Int)/\Below w1.heap.size w1 wr) (fun x _=>l.length-(intOf x).toNat)
  case atStart=>exact⟨0,by omega,rfl,Below.refl _ _⟩
  case round=>
   obtain⟨i,hi,rfl,hB⟩:=hrel
   have HBc:=zY hB
   clear hB
   by_cases h:i<l.length
   {
   have hiI:(i:Int)<l.length:=by omega
   obtain⟨x,hx⟩:∃x,l[i]?=some x:=⟨_,List.getElem?_eq_getElem h⟩
   have Hxz:=zY (Hz.out x (List.mem_of_getElem? hx))
   obtain⟨_,_,e9,_,_,h4⟩:=Hv1.out
   cases e9
   obtain⟨b,o,cs,rfl,rfl,hc⟩:=h4 i x hx
   have HL0:Hid (w1.cell? ⟨b,o+i*2,none⟩=some (.string x.p)):=zY (hc 0 _ rfl)
   have HL1:Hid (w1.cell? ⟨b,o+i*2+1,none⟩=some (.int .i64 x.u)):=zY (hc 1 _ rfl)
   have HL2:Hid (w1.cell? ⟨w.heap.size,1,none⟩=some (.string path)):=zY (HK1.out.c 1)
   obtain⟨q,uq⟩:=x
   dsimp only at HL0 HL1 Hxz
   clear hc h4 hx d0
   by_cases hd:date<=uq
   {
   have hdd:decide (date<=uq)=true:=decide_eq_true hd
   have HBc:=zY HBc.out.drew
   go_upto_region 8 with fail
   refine wp_region_held_drew (S:=(fun W=>W.cell? ⟨b,o+i*2,none⟩=some (.string q)/\W.cell? ⟨b,o+i*2+1,none⟩=some (.int .i64 uq)/\W.cell? ⟨w.heap.size,1,none⟩=some (.string path))) (by kernel_rfl) ?_ (fun hHeld=>?_)
   ·exact⟨cell_below HBc.out HL0.out,cell_below HBc.out HL1.out,cell_below HBc.out HL2.out⟩
   refine tk 0 ?_
   refine tk 1 ?_
   refine tk 2 ?_
   refine tk 3 ?_
   refine tk 4 ?_
   refine tk 5 ?_
   refine tk 6 ?_
   refine tk 7 ?_
   refine tk 8 ?_
   refine tk 9 ?_
   refine tk 10 ?_
   refine tk 11 ?_
   refine tk 12 ?_
   refine tk 13 ?_
   refine tk 14 ?_
   refine zE1 15 fun K hK=>?_
   go_simp
   refine(HU.out _ q Hxz.out).mono ?_
   rintro e2 w2 ⟨⟨r,rfl⟩,hb2⟩
   (try go_wp2_with fail)
   have HBc:=zYt HBc hb2
   clear hb2
   refine hko hK (by exact⟨cell_below HBc.out HL0.out,cell_below HBc.out HL1.out,cell_below HBc.out HL2.out⟩) (fun _=>?_)
   clear hK K
   refine tk 16 ?_
   refine wpAnyH_done (by kernel_rfl) ?_ _
   cases r with
   |true=>
    go_wp2_with fail
    go_ret
    exact⟨RetI.of 15,HB0.out.trans (HBc.out.mono HB0.out.size)⟩
   |false=>
    go_wp2_with fail
    go_roundw
    case rel=>exact⟨i+1,by omega,by go_num,HBc.out⟩
    case measure=>simp[intOf];omega}
   {
   have hdd:decide (date<=uq)=false:=decide_eq_false hd
   have m0:=cell_below HBc.out HL0.out
   have m1:=cell_below HBc.out HL1.out
   go_upto_region 8 with fail
   go_quiet (fail)
   go_wp2
   go_roundw
   case rel=>exact⟨i+1,by omega,by go_num,zBd HBc.out _⟩
   case measure=>simp[intOf];omega}}
   {
   have hiI:¬(i:Int)<l.length:=by omega
   go_wp2
   go_ret
   exact⟨RetI.of 0,HB0.out.trans (HBc.out.mono HB0.out.size)⟩}}
 {
 have f1:(k==1)=false:=by rw[beq_eq_false_iff_ne];exact k1
 have f2:(k==2)=false:=by rw[beq_eq_false_iff_ne];exact k2
 have f3:(k==3)=false:=by rw[beq_eq_false_iff_ne];exact k3
 have f4:(k==4)=false:=by rw[beq_eq_false_iff_ne];exact k4
 clear k1 k2 k3 k4
 go_wp2
 go_ret
 exact⟨RetI.of 0,HB0.out⟩}
end
end Go.Proofs.YthgenkkkapilhaaGreatDoor
