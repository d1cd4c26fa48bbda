/-
  Joined: VqN OpnA OpnV.
-/
import Derived.Test.YthgenkkkapilhaaGreatDoorVRn07
import Derived.Test.YthgenkkkapilhaaGreatDoorVRn16
import Derived.ProofKit
import Derived.OpenShut
import Derived.LaidMore
import Derived.Lay
import Derived.Deep.Slices
import Derived.Test.YthgenkkkapilhaaGreatDoorTie
import Derived.HandedShaped
set_option linter.all false
set_option maxRecDepth 100000
set_option maxHeartbeats 64000000
namespace Go.Proofs.YthgenkkkapilhaaGreatDoor
section
open Go.RowKit
theorem encheck_ok (w:World) (e:Ent) (va vx:Value) (hva:SeqAt atrS w va e.attrs) (hvx:SeqAt extS w vx e.exts) (h:EntOk e) (hT:Tab w):Calls Tryz.prog 263 #[entV e va vx] w fun r w'=>r=.returned (.int .i64 0)/\Below w.heap.size w w':=by
 have HTg:=zY (fun W (hW:Below w.heap.size w W)=>entarget_ok W e va vx h.tgt (hT.below hW))
 have HCo:=zY (fun W (hW:Below w.heap.size w W)=>encontent_ok W e va vx (hvx.below hW) h)
 have HAt:=zY (fun W (hW:Below w.heap.size w W)=>atcheck_ok W va e.attrs (hva.below hW) h.attrs)
 have HPa:=zY (fun W (hW:Below w.heap.size w W)=>pcheck_ok W e.path h.path (hT.below hW))
 have hk:=h.kind
 have hn:=h.named
 have hb:=h.bare
 clear h hT
 obtain⟨k,path,attrs,t,size,dig,exts⟩:=e
 dsimp only at hva hvx hk hn hb HTg HCo HAt HPa
 obtain⟨Aa,ca,rfl,ha1,ha2⟩:=hva.slice
 obtain⟨Ax,cx,rfl,hx1,hx2⟩:=hvx.slice
 clear hva hvx
 rw[entV]at HTg HCo⊢
 dsimp only at HTg HCo⊢
 have hK:=Blk.new w 182 [.int .i64 k,.string path,.slice Aa attrs.length ca,.string t,.int .i64 size,.string dig,.slice Ax exts.length cx]
 change Blk (w.alloc (.cells #[.int .i64 k,.string path,.slice Aa attrs.length ca,.string t,.int .i64 size,.string dig,.slice Ax exts.length cx] 182)) _ _ _ at hK
 have HB0:=zY (zBl w (.cells #[.int .i64 k,.string path,.slice Aa attrs.length ca,.string t,.int .i64 size,.string dig,.slice Ax exts.length cx] 182))
 have HK:=zY hK
 clear hK
 have i1:¬k<1:=by omega
 have i2:¬6<k:=by omega
 have Hn:=zY hn
 have Hb:=zY hb
 have Hk:=zY hk
 clear hk hn hb
 go_enter Tryz.func263,Tryz.ntmps263
 go_upto_region 1 with fail
 generalize w.alloc (.cells #[.int .i64 k,.string path,.slice Aa attrs.length ca,.string t,.int .i64 size,.string dig,.slice Ax exts.length cx] 182)=wb at *
 have c0:=HK.out.c 0
 have c1:=HK.out.c 1
 go_wp2_with fail
 refine(HPa.out _ HB0.out).mono ?_
 rintro e2 w2 ⟨rfl,hb2⟩
 have HK2:=zY (HK.out.kept hb2)
 have HB2:=zYt HB0 hb2
 clear hb2 HK HB0 c0 c1
 have c0:=HK2.out.c 0
 have c1:=HK2.out.c 1
 go_upto_region 6 with fail
 go_cut [31] (fun s wx=>s=.bool false/\w2=wx)
 case first=>
  by_cases h0:path.size=0
  {
  have e0:path.toList.isEmpty=true:=by
   rw[show path=⟨#[]⟩ by apply ByteArray.ext;exact Array.eq_empty_of_size_eq_zero h0]
   exact isEmptyV0
  have h5:=Hn.out h0
  have h6:=Hk.out
  clear h0
  by_cases h7:k=5
  {
  have f1:(k != 5)=false:=by rw[h7];rfl
  clear h5 h6 h7
  go_wp2_with fail
  go_meet
  exact⟨rfl,rfl⟩}
  {
  have f1:(k != 5)=true:=by rw[bne,beq_eq_false_iff_ne.2 h7];rfl
  have f2:(k != 6)=false:=by rw[show k=6 by omega];rfl
  clear h5 h6 h7
  go_wp2_with fail
  go_meet
  exact⟨rfl,rfl⟩}}
  {
  have e0:path.toList.isEmpty=false:=isEmptyV h0
  clear h0
  go_wp2_with fail
  go_meet
  exact⟨rfl,rfl⟩}
 case rest=>
  obtain⟨rfl,rfl⟩:=hcut
  have c2:=HK2.out.c 2
  go_wp2_with fail
  refine(HAt.out _ HB2.out).mono ?_
  rintro e3 w3 ⟨rfl,hb3⟩
  have HK3:=zY (HK2.out.kept hb3)
  have HB3:=zYt HB2 hb3
  clear hb3 HK2 HB2 c0 c1 c2
  have c0:=HK3.out.c 0
  have c2:=HK3.out.c 2
  have c1:=HK3.out.c 1
  have c3:=HK3.out.c 3
  have c4:=HK3.out.c 4
  have c5:=HK3.out.c 5
  have c6:=HK3.out.c 6
  go_upto_region 11 with fail
  go_cut [51] (fun s wx=>∃W,s=.bool false/\W=wx/\Below w3.heap.size w3 W)
  case first=>
   have hz2:(¬(0:Int)<attrs.length)∨((0:Int)<attrs.length/\¬3<k):=by
    by_cases q:0<attrs.length
    ·have:=Hb.out q;exact .inr ⟨by omega,by omega⟩
    ·exact .inl (by omega)
   rcases hz2 with f1|⟨f1,f2⟩
   {
   go_wp2_with fail
   refine(HTg.out _ HB3.out).mono ?_
   rintro e4 w4 ⟨rfl,hb4⟩
   go_wp2_with fail
   go_meet
   exact⟨_,rfl,rfl,hb4⟩}
   {
   go_wp2_with fail
   refine(HTg.out _ HB3.out).mono ?_
   rintro e4 w4 ⟨rfl,hb4⟩
   go_wp2_with fail
   go_meet
   exact⟨_,rfl,rfl,hb4⟩}
  case rest=>
   obtain⟨w4,rfl,rfl,hb4⟩:=hcut
   have HK4:=zY (HK3.out.kept hb4)
   have HB4:=zYt HB3 hb4
   clear hb4 HK3 HB3 c0 c1 c2 c3 c4 c5 c6
   have c0:=HK4.out.c 0
   have c2:=HK4.out.c 2
   have c1:=HK4.out.c 1
   have c3:=HK4.out.c 3
   have c4:=HK4.out.c 4
   have c5:=HK4.out.c 5
   have c6:=HK4.out.c 6
   go_wp2_with fail
   refine(HCo.out _ HB4.out).mono ?_
   rintro e5 w5 ⟨rfl,hb5⟩
   have HB5:=zYt HB4 hb5
   clear hb5
   go_wp2_with fail
   go_ret
   exact⟨rfl,HB5.out⟩
def namesB:List ByteArray:=[⟨#[102,105,108,101]⟩,⟨#[100,105,114]⟩,⟨#[108,105,110,107]⟩,⟨#[114,101,109,111,118,101]⟩,⟨#[104,111,108,100]⟩,⟨#[114,101,108,101,97,115,101]⟩]
theorem ennames_any (w:World):Calls Tryz.prog 264 #[] w fun e w'=>e=.returned (.slice (some ⟨w.heap.size,0,none⟩) 6 6)/\w'=w.alloc (.cells (namesB.map Value.string).toArray 9):=by
 go_enter Tryz.func264,Tryz.ntmps264
 go_wp2
 go_ret
 exact⟨rfl,rfl⟩
end
section
open Go.ChangeShapes Go.WideShapes Go.ChangeAt Go.RowKit
theorem ownN:ownKnob Tryz.prog.godebug=none:=by kernel_rfl
theorem laidN:laidOutB Tryz.prog=true:=by kernel_rfl
theorem cellsI:Tryz.prog.cellsOf 3=1:=by kernel_rfl
theorem cellsL:Tryz.prog.cellsOf 24=2:=by kernel_rfl
theorem cellsS:Tryz.prog.cellsOf 9=1:=by kernel_rfl
end
section
open Go.ChangeShapes Go.WideShapes Go.ChangeAt Go.RowKit Go.Deep
section
variable {H:Type} {enc:TypeId×Value->H} {w:World}
theorem nat_of_u8 {z:Int} (h:(Lit.int .u8 z).wf=true):∃n:Nat,z=n/\n<256:=by
 simp only[Lit.wf,IntKind.min,IntKind.max,IntKind.signed,IntKind.bits,Bool.and_eq_true]at h
 simp at h
 exact⟨z.toNat,by omega,by omega⟩
theorem open_u8 {v:Value} {d:DataW H} {p:List MemPlace} {base:Nat} (hv:Value.okWide Tryz.prog w .any base 5 v) (h:DataW.Trod enc Tryz.prog w 0 (fun _=>true) true 5 v d p):∃n:Nat,v=.int .u8 (n:Int)/\n<256:=by
 obtain⟨z,rfl,_,_,hw⟩:=open_int Tryz.underlying5 hv h
 obtain⟨n,rfl,hn⟩:=nat_of_u8 hw
 exact⟨n,rfl,hn⟩
end
end
section
open Go.ChangeShapes Go.WideShapes Go.ChangeAt Go.RowKit Go.Deep
theorem cellsBat:Tryz.prog.cellsOf 88=2:=by kernel_rfl
theorem cellsCha:Tryz.prog.cellsOf 91=5:=by kernel_rfl
theorem cellsAtr:Tryz.prog.cellsOf 93=2:=by kernel_rfl
theorem cellsAtrs:Tryz.prog.cellsOf 89=1:=by kernel_rfl
theorem cellsChas:Tryz.prog.cellsOf 86=1:=by kernel_rfl
instance:Inhabited Atr:=⟨⟨⟨#[]⟩,⟨#[]⟩⟩⟩
instance:Inhabited Cha:=⟨⟨0,⟨#[]⟩,[],⟨#[]⟩,⟨#[]⟩⟩⟩
instance:Inhabited Bat:=⟨⟨0,[]⟩⟩
theorem list5 {α:Type} {l:List α} (h:l.length=5):∃c0 c1 c2 c3 c4,l=[c0,c1,c2,c3,c4]:=by
 match l,h with
 |[c0,c1,c2,c3,c4],_=>exact⟨c0,c1,c2,c3,c4,rfl⟩
theorem list2 {α:Type} {l:List α} (h:l.length=2):∃c0 c1,l=[c0,c1]:=by
 match l,h with
 |[c0,c1],_=>exact⟨c0,c1,rfl⟩
section
variable {H:Type} {enc:TypeId×Value->H} {w:World}
theorem seq_of {α:Type} [Inhabited α] {ρ:Shape α} {TS T:TypeId} (hu:Tryz.prog.underlying TS=some (.slice T)) (hc:Tryz.prog.cellsOf T=ρ.n) (hn:0<ρ.n)
  (hcell:∀{fuel:Nat} {cs:List Value} {y:DataW H×List MemPlace},cs.length=ρ.n->DataW.trod enc Tryz.prog w 0 (fun _=>true) true fuel T cs=some y->∃x,ρ.R w cs x)
  {fuel:Nat} {c:Value} {y:DataW H×List MemPlace} (hf:DataW.trod enc Tryz.prog w 0 (fun _=>true) true fuel TS [c]=some y):∃xs,SeqAt ρ w c xs:=by
 rcases open_slice hu hf with⟨hcs,_⟩|⟨a,len,cap,m,n,D,Pl,hcs,_,hl,hm,hmm,_,hx⟩
 {
 simp only[List.cons.injEq,and_true]at hcs
 subst hcs
 exact⟨[],SeqAt.nil _⟩}
 {
 simp only[List.cons.injEq,and_true]at hcs
 have hmc:m=cap:=by simpa using hmm
 rw[hc]at hx
 obtain⟨F,hF⟩:=choose_lt (α:=α) (n:=len) (p:=fun i x=>∃cs,ρ.R w cs x/\∀j u,cs[j]?=some u->w.cell? ((a.add (i*ρ.n)).add j)=some u) fun i hi=>by
  obtain⟨cs',hcc,ht⟩:=hx i (by omega)
  obtain⟨_,hcl,hat⟩:=World.cells?_some hcc
  obtain⟨x,hr⟩:=hcell hcl ht
  exact⟨x,cs',hr,fun j u hu=>by
   have hj:j<ρ.n:=by
    have:=(List.getElem?_eq_some_iff.1 hu).1
    rwa [hcl]at this
   rw[hat j hj,hu]⟩
 obtain⟨b,o,spt⟩:=a
 refine⟨(List.range len).map F,some ⟨b,o,spt⟩,cap,by simpa using hcs,by simpa using hl,by unfold maxLen at hm;omega,fun i x hi=>?_⟩
 rw[List.getElem?_map]at hi
 obtain⟨j,hj,rfl⟩:=Option.map_eq_some_iff.1 hi
 obtain⟨h1,h2⟩:=List.getElem?_eq_some_iff.1 hj
 simp at h1 h2
 subst h2
 obtain⟨cs,hr,hcs2⟩:=hF i h1
 have hspot:spt=none:=by
  obtain⟨cs0,hr0,hc0⟩:=hF 0 (by omega)
  have h0:0<cs0.length:=by rw[ρ.len hr0];exact hn
  have h3:=hc0 0 _ (List.getElem?_eq_getElem h0)
  simpa [Addr.add]using World.cell?_spot h3
 subst hspot
 exact⟨b,o,cs,rfl,hr,fun j u hu=>by
  have h:=hcs2 j u hu
  rwa [Addr.add_lit,Addr.add_lit]at h⟩
}
theorem atr_cells {fuel:Nat} {cs:List Value} {y:DataW H×List MemPlace} (hl:cs.length=2) (hf:DataW.trod enc Tryz.prog w 0 (fun _=>true) true fuel 93 cs=some y):∃x:Atr,atrS.R w cs x:=by
 obtain⟨c0,c1,rfl⟩:=list2 hl
 obtain⟨xs,n,_,_,_,hlen,hfs⟩:=DataW.trod_struct Tryz.underlying93 hf
 obtain⟨y0,y1,rfl⟩:=list2 (l:=xs) hlen
 have f0:DataW.trod enc Tryz.prog w 0 (fun _=>true) true n 9 (([c0,c1].drop 0).take (Tryz.prog.cellsOf 9))=some y0:=hfs 0 _ rfl
 have f1:DataW.trod enc Tryz.prog w 0 (fun _=>true) true n 9 (([c0,c1].drop 1).take (Tryz.prog.cellsOf 9))=some y1:=hfs 1 _ rfl
 rw[cellsS]at f0 f1
 replace f0:DataW.trod enc Tryz.prog w 0 (fun _=>true) true n 9 [c0]=some y0:=f0
 replace f1:DataW.trod enc Tryz.prog w 0 (fun _=>true) true n 9 [c1]=some y1:=f1
 obtain⟨k,e0,_,_⟩:=DataW.trod_string Tryz.underlying9 f0
 obtain⟨v,e1,_,_⟩:=DataW.trod_string Tryz.underlying9 f1
 have h0:c0=.string k:=by simpa [Value.cells]using e0
 have h1:c1=.string v:=by simpa [Value.cells]using e1
 subst h0 h1
 exact⟨⟨k,v⟩,rfl⟩
theorem cha_cells {fuel:Nat} {cs:List Value} {y:DataW H×List MemPlace} (hl:cs.length=5) (hf:DataW.trod enc Tryz.prog w 0 (fun _=>true) true fuel 91 cs=some y):∃x:Cha,chaS.R w cs x:=by
 obtain⟨c0,c1,c2,c3,c4,rfl⟩:=list5 hl
 obtain⟨xs,n,_,_,_,hlen,hfs⟩:=DataW.trod_struct Tryz.underlying91 hf
 obtain⟨y0,y1,y2,y3,y4,rfl⟩:=list5 (l:=xs) hlen
 have f0:DataW.trod enc Tryz.prog w 0 (fun _=>true) true n 3 (([c0,c1,c2,c3,c4].drop 0).take (Tryz.prog.cellsOf 3))=some y0:=hfs 0 _ rfl
 have f1:DataW.trod enc Tryz.prog w 0 (fun _=>true) true n 9 (([c0,c1,c2,c3,c4].drop 1).take (Tryz.prog.cellsOf 9))=some y1:=hfs 1 _ rfl
 have f2:DataW.trod enc Tryz.prog w 0 (fun _=>true) true n 89 (([c0,c1,c2,c3,c4].drop 2).take (Tryz.prog.cellsOf 89))=some y2:=hfs 2 _ rfl
 have f3:DataW.trod enc Tryz.prog w 0 (fun _=>true) true n 9 (([c0,c1,c2,c3,c4].drop 3).take (Tryz.prog.cellsOf 9))=some y3:=hfs 3 _ rfl
 have f4:DataW.trod enc Tryz.prog w 0 (fun _=>true) true n 9 (([c0,c1,c2,c3,c4].drop 4).take (Tryz.prog.cellsOf 9))=some y4:=hfs 4 _ rfl
 rw[cellsI]at f0
 rw[cellsS]at f1 f3 f4
 rw[cellsAtrs]at f2
 replace f0:DataW.trod enc Tryz.prog w 0 (fun _=>true) true n 3 [c0]=some y0:=f0
 replace f1:DataW.trod enc Tryz.prog w 0 (fun _=>true) true n 9 [c1]=some y1:=f1
 replace f2:DataW.trod enc Tryz.prog w 0 (fun _=>true) true n 89 [c2]=some y2:=f2
 replace f3:DataW.trod enc Tryz.prog w 0 (fun _=>true) true n 9 [c3]=some y3:=f3
 replace f4:DataW.trod enc Tryz.prog w 0 (fun _=>true) true n 9 [c4]=some y4:=f4
 obtain⟨k0,e0,_,_⟩:=DataW.trod_int Tryz.underlying3 f0
 obtain⟨k1,e1,_,_⟩:=DataW.trod_string Tryz.underlying9 f1
 obtain⟨al,h2⟩:=seq_of (ρ:=atrS) Tryz.underlying89 cellsAtr (by decide) atr_cells f2
 obtain⟨k3,e3,_,_⟩:=DataW.trod_string Tryz.underlying9 f3
 obtain⟨k4,e4,_,_⟩:=DataW.trod_string Tryz.underlying9 f4
 have h0:c0=.int .i64 k0:=by simpa [Value.cells]using e0
 have h1:c1=.string k1:=by simpa [Value.cells]using e1
 have h3:c3=.string k3:=by simpa [Value.cells]using e3
 have h4:c4=.string k4:=by simpa [Value.cells]using e4
 subst h0 h1 h3 h4
 exact⟨⟨k0,k1,al,k3,k4⟩,c2,rfl,h2⟩
theorem bat_cells {fuel:Nat} {cs:List Value} {y:DataW H×List MemPlace} (hl:cs.length=2) (hf:DataW.trod enc Tryz.prog w 0 (fun _=>true) true fuel 88 cs=some y):∃x:Bat,batS.R w cs x:=by
 obtain⟨c0,c1,rfl⟩:=list2 hl
 obtain⟨xs,n,_,_,_,hlen,hfs⟩:=DataW.trod_struct Tryz.underlying88 hf
 obtain⟨y0,y1,rfl⟩:=list2 (l:=xs) hlen
 have f0:DataW.trod enc Tryz.prog w 0 (fun _=>true) true n 3 (([c0,c1].drop 0).take (Tryz.prog.cellsOf 3))=some y0:=hfs 0 _ rfl
 have f1:DataW.trod enc Tryz.prog w 0 (fun _=>true) true n 86 (([c0,c1].drop 1).take (Tryz.prog.cellsOf 86))=some y1:=hfs 1 _ rfl
 rw[cellsI]at f0
 rw[cellsChas]at f1
 replace f0:DataW.trod enc Tryz.prog w 0 (fun _=>true) true n 3 [c0]=some y0:=f0
 replace f1:DataW.trod enc Tryz.prog w 0 (fun _=>true) true n 86 [c1]=some y1:=f1
 obtain⟨k0,e0,_,_⟩:=DataW.trod_int Tryz.underlying3 f0
 obtain⟨cs',h1⟩:=seq_of (ρ:=chaS) Tryz.underlying86 cellsCha (by decide) cha_cells f1
 have h0:c0=.int .i64 k0:=by simpa [Value.cells]using e0
 subst h0
 exact⟨⟨k0,cs'⟩,c1,rfl,h1⟩
theorem open_bats {v:Value} {d:DataW H} {p:List MemPlace} {b0:Nat} (hv:Value.okWide Tryz.prog w .any b0 22 v) (h:DataW.Trod enc Tryz.prog w 0 (fun _=>true) true 22 v d p):∃l,SeqAt batS w v l:=by
 obtain⟨a0,len0,cap0,rfl⟩:=okWide_slice Tryz.underlying22 hv
 obtain⟨fuel,hf⟩:=h
 exact seq_of (ρ:=batS) Tryz.underlying22 cellsBat (by decide) bat_cells (by simpa [Value.cells]using hf)
theorem open_layout {v:Value} {d:DataW H} {p:List MemPlace} {b0:Nat} (hval:Value.okWide Tryz.prog w .any b0 24 v) (hd:DataW.Trod enc Tryz.prog w 0 (fun _=>true) true 24 v d p):
  ∃a b:Int,v=.agg #[.int .i64 a,.int .i64 b]:=by
 obtain⟨⟨cs⟩,rfl,hsz⟩:=okWide_struct Tryz.underlying24 hval
 rw[cellsL]at hsz
 obtain⟨c0,c1,rfl⟩:=list2 hsz
 obtain⟨fuel,hf⟩:=hd
 obtain⟨z0,z1,m,_,_,g0,g1⟩:=trod_struct2 Tryz.underlying24 hf
 replace g0:DataW.trod enc Tryz.prog w 0 (fun _=>true) true m 3 (([c0,c1].drop 0).take (Tryz.prog.cellsOf 3))=some z0:=g0
 replace g1:DataW.trod enc Tryz.prog w 0 (fun _=>true) true m 3 (([c0,c1].drop 1).take (Tryz.prog.cellsOf 3))=some z1:=g1
 rw[cellsI]at g0 g1
 replace g0:DataW.trod enc Tryz.prog w 0 (fun _=>true) true m 3 [c0]=some z0:=g0
 replace g1:DataW.trod enc Tryz.prog w 0 (fun _=>true) true m 3 [c1]=some z1:=g1
 obtain⟨k0,e0,_,_⟩:=DataW.trod_int Tryz.underlying3 g0
 obtain⟨k1,e1,_,_⟩:=DataW.trod_int Tryz.underlying3 g1
 have h0:c0=.int .i64 k0:=by simpa [Value.cells]using e0
 have h1:c1=.int .i64 k1:=by simpa [Value.cells]using e1
 subst h0 h1
 exact⟨k0,k1,rfl⟩
end
theorem tab_of {W : World} {L : List (String × DataW Unit)} (hL : laidMetH Tryz.prog L W) (hk : (L.filter fun x => x.1 == "internal/strconv.uint64pow10") = [("internal/strconv.uint64pow10", Lib.tabData .u64 Lib.pow10Tab)]) (hsh : W.ShapedOpen Tryz.prog) : Tab W := by
 have h1 := hL.filter fun x => x.1 == "internal/strconv.uint64pow10"
 rw[hk,MakeChecks.laidMetH_plain _ _ _ (by kernel_rfl)]at h1
 refine⟨?_,?_⟩
 ·exact Lib.tabIs_of_head (g:=0) (t:=356) (e:=211) (n:=20) (by kernel_rfl) (by kernel_rfl) Tryz.underlying356 Tryz.underlying211 (by kernel_rfl) (by kernel_rfl) h1
 {
 exact cell_of_shapedOpen_int (P:=Tryz.prog) (g:=1) (t:=3) (zero:= #[.int .i64 0]) hsh (of_decide_eq_true (by kernel_rfl)) (by kernel_rfl) rfl (by kernel_rfl) (by kernel_rfl) Tryz.underlying3
}
theorem returns_shaped {H:Type} {enc:TypeId×Value->H} {a:Assume} {C:Checked} {os:Os} {f:FuncId} {fn:Func} {s:ChangeSpec} {conds:List PathCond} {apart fresh handsOn again:Bool} {X:World->Array Value->Prop}
  (hX:∀(w w':World) (args:Array Value),w.heap=w'.heap->X w args->X w' args)
  (own:ownKnob C.prog.godebug=none) (started:os.Started) (noInit:C.prog.inits.idxOf? f=none) (hfn:C.prog.funcs[f]?=some fn)
  (witness:∃(w:World) (tape:Tape) (i:Input),w.os=os/\(w.forCall tape i).Shaped C.prog/\i.vars=[]/\Input.okWide C.prog (w.forCall tape i) .any w.heap.size f i /\
   ((s.pre enc C.prog fn conds apart (w.forCall tape i).memory i.args/\X (w.forCall tape i).memory i.args)/\sizedMet enc C.prog fn (OpenSpec.ofChange s) apart (w.forCall tape i).memory i.args)/\a.holds C.prog (lone (Frame.enter C.prog f i.args .normal) [] (w.forCall tape i)))
  (contract:∀(W:World) (base:Nat) (args:Array Value) (ds gs:List (DataW H)) (before:List MemPlace),
   (∀(j:Nat) t v,fn.params[j]?=some t->args[j]?=some v->Value.okWide C.prog W .any base t v) ->
   DataW.Whole enc C.prog fn.params.toList s.vars apart W args.toList ds gs before ->
   conds.all (PathCond.test C.prog ⟨fn.params.toList,ds,s.plain.varTypes C.prog,gs⟩)=true ->
   (DataW.weightsEach C.prog (fn.params.toList++s.plain.varTypes C.prog) (ds++gs)).all (· <= reachBytes)=true->X W args->W.ShapedOpen C.prog ->
   a.holds C.prog (lone (Frame.enter C.prog f args .normal) [] W) ->
   Calls C.prog f args W fun e W'=>∃v,e=.returned v/\s.post enc C.prog fn apart fresh handsOn again W args v W'):
  ReturnsInHanded a C os f .any (fun w args=>(s.pre enc C.prog fn conds apart w args/\X w args)/\sizedMet enc C.prog fn (OpenSpec.ofChange s) apart w args) (s.post enc C.prog fn apart fresh handsOn again):=by
 refine returnsInHanded_of_calls own started noInit witness ?_
 intro w tape i _ hsh _ hok hpre hholds
 obtain⟨_,_,_,fn',hfn',_,_,_,_,hval⟩:=hok
 have e:fn'=fn:=Option.some.inj (hfn'.symm.trans hfn)
 subst e
 obtain⟨⟨⟨ds,gs,before,hw,hc⟩,hx⟩,hz⟩:=hpre
 have hw':=DataW.Whole.of_heap (w':=w.forCall tape i) (by rfl) hw
 refine(contract (w.forCall tape i) w.heap.size i.args ds gs before hval hw' hc (hz.weights hw) (hX _ _ _ (by rfl) hx) hsh hholds).mono fun e W' ⟨v,he,hp⟩=>?_
 subst he
 exact ChangeSpec.post_blind hp
end
end Go.Proofs.YthgenkkkapilhaaGreatDoor
