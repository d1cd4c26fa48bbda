/-
  Joined: VpX.
-/
import Derived.Test.YthgenkkkapilhaaGreatDoorVSn35
set_option linter.all false
set_option maxRecDepth 100000
set_option maxHeartbeats 64000000
namespace Go.Proofs.YthgenkkkapilhaaGreatDoor
section
open Go.RowKit
theorem Tryz.elemSes:Elem Tryz.prog 26 45 6 88 (.agg #[.int .i64 0,.int .i64 0,.string ⟨#[]⟩,.slice none 0 0,.string ⟨#[]⟩,.string ⟨#[]⟩]):=⟨Tryz.underlying26,by kernel_rfl,rfl,by decide,by decide⟩
structure ApI (w W:World) (ac sc:List Value):Prop where
 ar:Blk W w.heap.size 28 ac
 se:Blk W (w.heap.size+1) 45 sc
 rs:Blk W (w.heap.size+2) 28 [.int .u32 0,.int .i64 0,.int .i64 0,.slice none 0 0]
 bl:Below w.heap.size w W
section
variable {w W W':World} {ac ac' sc:List Value}
theorem ApI.below (h:ApI w W ac sc) (hb:Below W.heap.size W W'):ApI w W' ac sc:=⟨h.ar.kept hb,h.se.kept hb,h.rs.kept hb,h.bl.trans (hb.mono h.bl.size)⟩
structure ApF (w W:World) (ac:List Value) (v:Value) (L:List Ses):Prop where
 ar:Blk W w.heap.size 28 ac
 rs:Blk W (w.heap.size+2) 28 [.int .u32 0,.int .i64 0,.int .i64 0,.slice none 0 0]
 sq:SeqAt sesS W v L
 bl:Below w.heap.size w W
theorem ApI.setL {id d s:Int} {A An:Option Addr} {n c nn cn:Nat} {L:List Ses} (h:ApI w W [.int .u32 id,.int .i64 d,.int .i64 s,.slice A n c] sc) (hL:SeqAt sesS W (.slice An nn cn) L):ApF w (W.setCell ⟨w.heap.size,3,none⟩ (.slice An nn cn)) [.int .u32 id,.int .i64 d,.int .i64 s,.slice An nn cn] (.slice An nn cn) L:=
 ⟨h.ar.set 3 _,h.rs.grownN (grown_set W w.heap.size 3 _) (by omega),off_ses rfl rfl rfl rfl W _ w.heap.size _ _ ⟨_,_,h.ar,rfl⟩ (grown_set W w.heap.size 3 _) hL,h.bl.setCell (p:=⟨w.heap.size,3,none⟩) (Nat.le_refl _) _⟩
end
def RetAr (w':World) (id d s:Int) (L:List Ses) (x:Ses) (e:Ending):Prop:=∃(v:Value) (L':List Ses) (k:Int),e=.returned (.tuple #[.agg #[.int .u32 id,.int .i64 d,.int .i64 s,v],.int .i64 k])/\SeqAt sesS w' v L'/\(L'=L∨L'=L++[x])
theorem append39_any (w:World) (id d s:Int) (v:Value) (L:List Ses) (hv:SeqAt sesS w v L) (hl:L.length<=200) (hs:∀x∈L,SesOk x) (date:Int) (prev str:ByteArray) (ve:Value) (ents:List Ent) (hve:SeqAt entS w ve ents):
  Calls Tryz.prog 82 #[.agg #[.int .u32 id,.int .i64 d,.int .i64 s,v],.agg #[.int .i64 ((L.length:Int)+1),.int .i64 date,.string prev,ve,.string str,.string ⟨#[]⟩]] w fun e w'=>RetAr w' id d s L (⟨(L.length:Int)+1,date,prev,ents,str,⟨#[]⟩⟩:Ses) e/\Below w.heap.size w w':=by
 have HLa:=zY (fun(W:World) (h:Below w.heap.size w W)=>last39_any W id d s v L (hv.below h) (by omega) hs)
 have Hv:=zY hv
 have Hve:=zY hve
 obtain⟨A,c,rfl,_,_⟩:=hv.slice
 obtain⟨Ae,ce,rfl,_,_⟩:=hve.slice
 have hA:=Blk.new w 28 [.int .u32 id,.int .i64 d,.int .i64 s,.slice A L.length c]
 change Blk (w.alloc (.cells #[.int .u32 id,.int .i64 d,.int .i64 s,.slice A L.length c] 28)) _ _ _ at hA
 have hS:=Blk.new (w.alloc (.cells #[.int .u32 id,.int .i64 d,.int .i64 s,.slice A L.length c] 28)) 45 [.int .i64 ((L.length:Int)+1),.int .i64 date,.string prev,.slice Ae ents.length ce,.string str,.string ⟨#[]⟩]
 change Blk ((w.alloc (.cells #[.int .u32 id,.int .i64 d,.int .i64 s,.slice A L.length c] 28)).alloc (.cells #[.int .i64 ((L.length:Int)+1),.int .i64 date,.string prev,.slice Ae ents.length ce,.string str,.string ⟨#[]⟩] 45)) _ _ _ at hS
 rw[World.size_alloc]at hS
 have hZ:=Blk.new ((w.alloc (.cells #[.int .u32 id,.int .i64 d,.int .i64 s,.slice A L.length c] 28)).alloc (.cells #[.int .i64 ((L.length:Int)+1),.int .i64 date,.string prev,.slice Ae ents.length ce,.string str,.string ⟨#[]⟩] 45)) 28 [.int .u32 0,.int .i64 0,.int .i64 0,.slice none 0 0]
 change Blk (((w.alloc (.cells #[.int .u32 id,.int .i64 d,.int .i64 s,.slice A L.length c] 28)).alloc (.cells #[.int .i64 ((L.length:Int)+1),.int .i64 date,.string prev,.slice Ae ents.length ce,.string str,.string ⟨#[]⟩] 45)).alloc (.cells #[.int .u32 0,.int .i64 0,.int .i64 0,.slice none 0 0] 28)) _ _ _ at hZ
 rw[World.size_alloc,World.size_alloc]at hZ
 have hB1:=zBl w (.cells #[.int .u32 id,.int .i64 d,.int .i64 s,.slice A L.length c] 28)
 have hB2:=hB1.alloc hB1.size (.cells #[.int .i64 ((L.length:Int)+1),.int .i64 date,.string prev,.slice Ae ents.length ce,.string str,.string ⟨#[]⟩] 45)
 have HI0:Hid (ApI w (((w.alloc (.cells #[.int .u32 id,.int .i64 d,.int .i64 s,.slice A L.length c] 28)).alloc (.cells #[.int .i64 ((L.length:Int)+1),.int .i64 date,.string prev,.slice Ae ents.length ce,.string str,.string ⟨#[]⟩] 45)).alloc (.cells #[.int .u32 0,.int .i64 0,.int .i64 0,.slice none 0 0] 28)) [.int .u32 id,.int .i64 d,.int .i64 s,.slice A L.length c] [.int .i64 ((L.length:Int)+1),.int .i64 date,.string prev,.slice Ae ents.length ce,.string str,.string ⟨#[]⟩]):=zY ⟨(hA.alloc _).alloc _,hS.alloc _,hZ,hB2.alloc hB2.size _⟩
 clear hA hS hZ hB1 hB2 hv hve hs
 go_enter Tryz.func82,Tryz.ntmps82
 go_upto_region 1 with fail
 generalize (((w.alloc (.cells #[.int .u32 id,.int .i64 d,.int .i64 s,.slice A L.length c] 28)).alloc (.cells #[.int .i64 ((L.length:Int)+1),.int .i64 date,.string prev,.slice Ae ents.length ce,.string str,.string ⟨#[]⟩] 45)).alloc (.cells #[.int .u32 0,.int .i64 0,.int .i64 0,.slice none 0 0] 28))=wa at *
 have a3:=HI0.out.ar.c 3
 have hl255:¬(255:Int)<=L.length:=by omega
 have hlw:IntKind.i64.wrap ((L.length:Int)+1)=(L.length:Int)+1:=zIw (by omega)
 go_upto_region 4 with fail
 go_cut [33] (fun cb wz=>∃b:Bool,cb=.bool b/\ApI w wz [.int .u32 id,.int .i64 d,.int .i64 s,.slice A L.length c] [.int .i64 ((L.length:Int)+1),.int .i64 date,.string prev,.slice Ae ents.length ce,.string str,.string ⟨#[]⟩])
 case first=>
  have s0:=HI0.out.se.c 0
  have s1:=HI0.out.se.c 1
  by_cases h4:L.length=0
  {
  have f1:decide ((0:Int)<(L.length:Int))=false:=by rw[h4];rfl
  have f2:decide (0<L.length)=false:=by rw[h4];rfl
  clear h4
  go_quiet (fail)
  go_wp2_with fail
  go_meet
  exact⟨_,rfl,HI0.out.below (zBd (Below.refl _ _) _)⟩}
  {
  have f1:decide ((0:Int)<(L.length:Int))=true:=decide_eq_true (by omega)
  have f2:decide (0<L.length)=true:=decide_eq_true (by omega)
  obtain⟨m,hm⟩:∃m,L.length=m+1:=⟨L.length-1,by omega⟩
  have hmI:(L.length:Int)-1=m:=by omega
  have hmw:IntKind.i64.wrap ((L.length:Int)-1)=m:=by rw[hmI];exact zIw (by omega)
  have hml:m<L.length:=by omega
  have hmL:(m:Int)<L.length:=by omega
  clear hm h4
  obtain⟨x,hx⟩:∃x,L[m]?=some x:=⟨_,List.getElem?_eq_getElem hml⟩
  obtain⟨_,_,e9,_,_,h44⟩:=Hv.out
  cases e9
  obtain⟨b,o,cs,rfl,⟨ve,rfl,hve⟩,hc⟩:=h44 m x hx
  have x1:wa.cell? ⟨b,o+m*6+1,none⟩=some (.int .i64 x.date):=cell_below HI0.out.bl (hc 1 _ rfl)
  generalize x.date=xd at *
  clear hc h44 hx hve
  obtain⟨b6,hb6⟩:=zNm (decide (date<xd))
  go_quiet (fail)
  go_wp2_with fail
  go_meet
  exact⟨_,rfl,HI0.out.below (zBd (Below.refl _ _) _)⟩}
 case rest=>
  obtain⟨b,rfl,hI⟩:=hcut
  obtain⟨wb,hwb⟩:∃x,x=wc:=⟨_,rfl⟩
  subst hwb
  have HI:=zY hI
  clear hI HI0 a3
  cases b with
  |true=>
   have d0:=HI.out.ar.c 0
   have d1:=HI.out.ar.c 1
   have d2:=HI.out.ar.c 2
   have d3:=HI.out.ar.c 3
   have z0:=HI.out.rs.c 0
   have z1:=HI.out.rs.c 1
   have z2:=HI.out.rs.c 2
   have z3:=HI.out.rs.c 3
   have y0:=HI.out.rs.frozen 0
   have y1:=HI.out.rs.frozen 1
   have y2:=HI.out.rs.frozen 2
   have y3:=HI.out.rs.frozen 3
   have HW:=zY (HI.out.rs.setAll (i:=0) [.int .u32 id,.int .i64 d,.int .i64 s,.slice A L.length c])
   have HBw:=zY (below_setAll (g:=w.heap.size+2) (by omega) [.int .u32 id,.int .i64 d,.int .i64 s,.slice A L.length c] wb 0 HI.out.bl)
   have HDw:=zY (Hv.out.below HBw.out)
   go_wp2_with fail
   refine bodyPost_ret (results_row_tmp rfl _ _ (w.heap.size+2) 28 _ (0,0) _ rfl HW.out Tryz.underlying28 rfl (by kernel_rfl)) rfl ?_
   exact⟨⟨_,L,14,rfl,HDw.out,.inl rfl⟩,HBw.out⟩
  |false=>
   go_upto_region 6 with fail
   go_cut [39] (fun cb wz=>∃b:Bool,cb=.bool b/\ApI w wz [.int .u32 id,.int .i64 d,.int .i64 s,.slice A L.length c] [.int .i64 ((L.length:Int)+1),.int .i64 date,.string prev,.slice Ae ents.length ce,.string str,.string ⟨#[]⟩])
   case first=>
    have HI:=zY (HI.out.below (Below.refl _ wb).drew)
    refine wp_region_held_drew (S:=(fun W=>W.cell? ⟨w.heap.size,0,none⟩=some (.int .u32 id)/\W.cell? ⟨w.heap.size,1,none⟩=some (.int .i64 d)/\W.cell? ⟨w.heap.size,2,none⟩=some (.int .i64 s)/\W.cell? ⟨w.heap.size,3,none⟩=some (.slice A L.length c)/\W.cell? ⟨w.heap.size+1,2,none⟩=some (.string prev))) (by kernel_rfl) ?_ (fun hHeld=>?_)
    ·exact⟨HI.out.ar.c 0,HI.out.ar.c 1,HI.out.ar.c 2,HI.out.ar.c 3,HI.out.se.c 2⟩
    refine tk 0 ?_
    refine tk 1 ?_
    refine tk 2 ?_
    refine zE1 3 fun K hK=>?_
    go_simp
    refine(HLa.out _ HI.out.bl).mono ?_
    rintro e2 w2 ⟨⟨p,rfl,hp⟩,hb2⟩
    (try go_wp2_with fail)
    have HI:=zY (HI.out.below hb2)
    clear hb2 hp
    refine hko hK (by exact⟨HI.out.ar.c 0,HI.out.ar.c 1,HI.out.ar.c 2,HI.out.ar.c 3,HI.out.se.c 2⟩) (fun _=>?_)
    clear hK K
    refine tk 4 ?_
    refine wpAnyH_done (by kernel_rfl) ?_ _
    go_wp2_with fail
    go_meet
    exact⟨_,rfl,HI.out⟩
   case rest=>
    obtain⟨b,rfl,hI⟩:=hcut
    obtain⟨wq,hwq⟩:∃x,x=wc:=⟨_,rfl⟩
    subst hwq
    have HI:=zY hI
    clear hI
    cases b with
    |true=>
     have d0:=HI.out.ar.c 0
     have d1:=HI.out.ar.c 1
     have d2:=HI.out.ar.c 2
     have d3:=HI.out.ar.c 3
     have z0:=HI.out.rs.c 0
     have z1:=HI.out.rs.c 1
     have z2:=HI.out.rs.c 2
     have z3:=HI.out.rs.c 3
     have y0:=HI.out.rs.frozen 0
     have y1:=HI.out.rs.frozen 1
     have y2:=HI.out.rs.frozen 2
     have y3:=HI.out.rs.frozen 3
     have HW:=zY (HI.out.rs.setAll (i:=0) [.int .u32 id,.int .i64 d,.int .i64 s,.slice A L.length c])
     have HBw:=zY (below_setAll (g:=w.heap.size+2) (by omega) [.int .u32 id,.int .i64 d,.int .i64 s,.slice A L.length c] wq 0 HI.out.bl)
     have HDw:=zY (Hv.out.below HBw.out)
     go_wp2_with fail
     refine bodyPost_ret (results_row_tmp rfl _ _ (w.heap.size+2) 28 _ (0,0) _ rfl HW.out Tryz.underlying28 rfl (by kernel_rfl)) rfl ?_
     exact⟨⟨_,L,20,rfl,HDw.out,.inl rfl⟩,HBw.out⟩
    |false=>
     go_upto_region 8 with fail
     have HCe:=zY (Hv.out.below HI.out.bl)
     have HRe:Hid (sesS.R wq [.int .i64 ((L.length:Int)+1),.int .i64 date,.string prev,.slice Ae ents.length ce,.string str,.string ⟨#[]⟩] (⟨(L.length:Int)+1,date,prev,ents,str,⟨#[]⟩⟩:Ses)):=zY ⟨_,rfl,Hve.out.below HI.out.bl⟩
     have HL0:=zY (HI.out.ar.c 3)
     have HKS:Hid (∀W,Below wq.heap.size wq W->W.cell? ⟨w.heap.size+1,0,none⟩=some (.int .i64 ((L.length:Int)+1))/\W.cell? ⟨w.heap.size+1,1,none⟩=some (.int .i64 date)/\W.cell? ⟨w.heap.size+1,2,none⟩=some (.string prev)/\W.cell? ⟨w.heap.size+1,3,none⟩=some (.slice Ae ents.length ce)/\W.cell? ⟨w.heap.size+1,4,none⟩=some (.string str)/\W.cell? ⟨w.heap.size+1,5,none⟩=some (.string ⟨#[]⟩)):=zY (fun W h=>by
      have hx:=HI.out.se.kept h
      exact⟨hx.c 0,hx.c 1,hx.c 2,hx.c 3,hx.c 4,hx.c 5⟩)
     have HKT:Hid (∀(W:World) (u:Value),Below wq.heap.size wq W->(W.setCell ⟨w.heap.size,3,none⟩ u).cell? ⟨w.heap.size+1,0,none⟩=some (.int .i64 ((L.length:Int)+1))/\(W.setCell ⟨w.heap.size,3,none⟩ u).cell? ⟨w.heap.size+1,1,none⟩=some (.int .i64 date)/\(W.setCell ⟨w.heap.size,3,none⟩ u).cell? ⟨w.heap.size+1,2,none⟩=some (.string prev)/\(W.setCell ⟨w.heap.size,3,none⟩ u).cell? ⟨w.heap.size+1,3,none⟩=some (.slice Ae ents.length ce)/\(W.setCell ⟨w.heap.size,3,none⟩ u).cell? ⟨w.heap.size+1,4,none⟩=some (.string str)/\(W.setCell ⟨w.heap.size,3,none⟩ u).cell? ⟨w.heap.size+1,5,none⟩=some (.string ⟨#[]⟩)):=zY (fun W u h=>by
      have hx:=(HI.out.se.kept h).far (p:=⟨w.heap.size,3,none⟩) (by show w.heap.size+1≠w.heap.size;omega) u
      exact⟨hx.c 0,hx.c 1,hx.c 2,hx.c 3,hx.c 4,hx.c 5⟩)
     have HBc:=zY ((Below.refl wq.heap.size wq).drew)
     have HS:=zY (HKS.out _ HBc.out)
     have HL3:Hid (([]:List Ses).length+L.length<=100000000):=zY (by simp;omega)
     have HL8:Hid (([]++L).length+1<=100000000):=zY (by simp;omega)
     go_cut [5] (fun e wz=>∃(An:Option Addr) (Ln:List Ses) (cn:Nat),e=.int .i64 0/\Ln=L++[(⟨(L.length:Int)+1,date,prev,ents,str,⟨#[]⟩⟩:Ses)]/\ApF w wz [.int .u32 id,.int .i64 d,.int .i64 s,.slice An Ln.length cn] (.slice An Ln.length cn) Ln)
     case first=>
      refine wp_region_held_drew (S:=(fun W=>W.cell? ⟨w.heap.size+1,0,none⟩=some (.int .i64 ((L.length:Int)+1))/\W.cell? ⟨w.heap.size+1,1,none⟩=some (.int .i64 date)/\W.cell? ⟨w.heap.size+1,2,none⟩=some (.string prev)/\W.cell? ⟨w.heap.size+1,3,none⟩=some (.slice Ae ents.length ce)/\W.cell? ⟨w.heap.size+1,4,none⟩=some (.string str)/\W.cell? ⟨w.heap.size+1,5,none⟩=some (.string ⟨#[]⟩))) (by kernel_rfl) ?_ (fun hHeld=>?_)
      ·exact HS.out
      refine tk 1 ?_
      refine tk 4 ?_
      refine zEs [0,2,5] (zEc (fun K hK=>?_) (zEc (fun K hK=>?_) (zEc (fun K hK=>?_) AllReadyH.nil)))
      focus
       go_simp
       have HN:=zY (OwnSeq.newAt (ρ:=sesS) (t:=45) HBc.out.size)
       first|simp only[World.size_alloc]at HN|skip
       first|(have HX:=zY (HX.out.alloc (.cells #[] 45)))|skip
       have HBc:=zY (HBc.out.alloc HBc.out.size (.cells #[] 45))
       have HS:=zY (HKS.out _ HBc.out)
       refine hko hK (by exact HS.out) (fun _=>?_)
       clear hK K
       refine zEs [2,5] (zEc (fun K hK=>?_) (zEc (fun K hK=>?_) AllReadyH.nil))
       focus
        have q00:=cell_below HBc.out HL0.out
        have q0:(wq.alloc (.cells #[] 45)).cell? ⟨w.heap.size,3,none⟩=some (.slice A L.length c):=q00
        clear q00
        go_simp
        clear q0
        refine hko hK (by exact HS.out) (fun _=>?_)
        clear hK K
        refine zEs [3,5] (zEc (fun K hK=>?_) (zEc (fun K hK=>?_) AllReadyH.nil))
        refine wp_append_seq (ρ:=sesS) (w0:=wq) (v:=(.slice (some ⟨_,0,none⟩) 0 0)) Tryz.elemSes (.tmp 41) (.tmp 43) rfl rfl HN.out rfl (SrcAt.of HCe.out HBc.out) HL3.out HBc.out ?_
        intro vx1 wx1 hob hgb hbb
        first|(have HX:=zY (HX.out.grownB hgb (by simp[Value.ownBlock])))|skip
        have HN:=zY hob
        have HBc:=zY hbb
        clear hob hgb hbb
        have HS:=zY (HKS.out _ HBc.out)
        refine hko hK (by exact HS.out) (fun _=>?_)
        clear hK K
        refine zE1 5 fun K hK=>?_
        go_simp
        have HX:=zY (src1B (ρ:=sesS) (w0:=wq) (t:=45) HBc.out [.int .i64 ((L.length:Int)+1),.int .i64 date,.string prev,.slice Ae ents.length ce,.string str,.string ⟨#[]⟩] (⟨(L.length:Int)+1,date,prev,ents,str,⟨#[]⟩⟩:Ses) HRe.out)
        first|simp only[World.size_alloc]at HX|skip
        first|(have HN:=zY (HN.out.alloc (.cells #[.int .i64 ((L.length:Int)+1),.int .i64 date,.string prev,.slice Ae ents.length ce,.string str,.string ⟨#[]⟩] 45)))|skip
        have HBc:=zY (HBc.out.alloc HBc.out.size (.cells #[.int .i64 ((L.length:Int)+1),.int .i64 date,.string prev,.slice Ae ents.length ce,.string str,.string ⟨#[]⟩] 45))
        rotate_left
        go_simp
        have HX:=zY (src1B (ρ:=sesS) (w0:=wq) (t:=45) HBc.out [.int .i64 ((L.length:Int)+1),.int .i64 date,.string prev,.slice Ae ents.length ce,.string str,.string ⟨#[]⟩] (⟨(L.length:Int)+1,date,prev,ents,str,⟨#[]⟩⟩:Ses) HRe.out)
        first|simp only[World.size_alloc]at HX|skip
        first|(have HN:=zY (HN.out.alloc (.cells #[.int .i64 ((L.length:Int)+1),.int .i64 date,.string prev,.slice Ae ents.length ce,.string str,.string ⟨#[]⟩] 45)))|skip
        have HBc:=zY (HBc.out.alloc HBc.out.size (.cells #[.int .i64 ((L.length:Int)+1),.int .i64 date,.string prev,.slice Ae ents.length ce,.string str,.string ⟨#[]⟩] 45))
        have HS:=zY (HKS.out _ HBc.out)
        refine hko hK (by exact HS.out) (fun _=>?_)
        clear hK K
        refine zE1 3 fun K hK=>?_
        refine wp_append_seq (ρ:=sesS) (w0:=wq) (v:=(.slice (some ⟨_,0,none⟩) 0 0)) Tryz.elemSes (.tmp 41) (.tmp 43) rfl rfl HN.out rfl (SrcAt.of HCe.out HBc.out) HL3.out HBc.out ?_
        intro vx1 wx1 hob hgb hbb
        first|(have HX:=zY (HX.out.grownB hgb (by simp[Value.ownBlock])))|skip
        have HN:=zY hob
        have HBc:=zY hbb
        clear hob hgb hbb
        rotate_left
       rotate_left 2
       go_simp
       have HX:=zY (src1B (ρ:=sesS) (w0:=wq) (t:=45) HBc.out [.int .i64 ((L.length:Int)+1),.int .i64 date,.string prev,.slice Ae ents.length ce,.string str,.string ⟨#[]⟩] (⟨(L.length:Int)+1,date,prev,ents,str,⟨#[]⟩⟩:Ses) HRe.out)
       first|simp only[World.size_alloc]at HX|skip
       first|(have HN:=zY (HN.out.alloc (.cells #[.int .i64 ((L.length:Int)+1),.int .i64 date,.string prev,.slice Ae ents.length ce,.string str,.string ⟨#[]⟩] 45)))|skip
       have HBc:=zY (HBc.out.alloc HBc.out.size (.cells #[.int .i64 ((L.length:Int)+1),.int .i64 date,.string prev,.slice Ae ents.length ce,.string str,.string ⟨#[]⟩] 45))
       have HS:=zY (HKS.out _ HBc.out)
       refine hko hK (by exact HS.out) (fun _=>?_)
       clear hK K
       refine zE1 2 fun K hK=>?_
       have q00:=cell_below HBc.out HL0.out
       have q0:((wq.alloc (.cells #[] 45)).alloc (.cells #[.int .i64 ((L.length:Int)+1),.int .i64 date,.string prev,.slice Ae ents.length ce,.string str,.string ⟨#[]⟩] 45)).cell? ⟨w.heap.size,3,none⟩=some (.slice A L.length c):=q00
       clear q00
       go_simp
       clear q0
       refine hko hK (by exact HS.out) (fun _=>?_)
       clear hK K
       refine zE1 3 fun K hK=>?_
       refine wp_append_seq (ρ:=sesS) (w0:=wq) (v:=(.slice (some ⟨_,0,none⟩) 0 0)) Tryz.elemSes (.tmp 41) (.tmp 43) rfl rfl HN.out rfl (SrcAt.of HCe.out HBc.out) HL3.out HBc.out ?_
       intro vx1 wx1 hob hgb hbb
       first|(have HX:=zY (HX.out.grownB hgb (by simp[Value.ownBlock])))|skip
       have HN:=zY hob
       have HBc:=zY hbb
       clear hob hgb hbb
       rotate_left
      rotate_left 3
      focus
       have q00:=cell_below HBc.out HL0.out
       have q0:wq.cell? ⟨w.heap.size,3,none⟩=some (.slice A L.length c):=q00
       clear q00
       go_simp
       clear q0
       refine hko hK (by exact HS.out) (fun _=>?_)
       clear hK K
       refine zEs [0,5] (zEc (fun K hK=>?_) (zEc (fun K hK=>?_) AllReadyH.nil))
       focus
        go_simp
        have HN:=zY (OwnSeq.newAt (ρ:=sesS) (t:=45) HBc.out.size)
        first|simp only[World.size_alloc]at HN|skip
        first|(have HX:=zY (HX.out.alloc (.cells #[] 45)))|skip
        have HBc:=zY (HBc.out.alloc HBc.out.size (.cells #[] 45))
        have HS:=zY (HKS.out _ HBc.out)
        refine hko hK (by exact HS.out) (fun _=>?_)
        clear hK K
        refine zEs [3,5] (zEc (fun K hK=>?_) (zEc (fun K hK=>?_) AllReadyH.nil))
        refine wp_append_seq (ρ:=sesS) (w0:=wq) (v:=(.slice (some ⟨_,0,none⟩) 0 0)) Tryz.elemSes (.tmp 41) (.tmp 43) rfl rfl HN.out rfl (SrcAt.of HCe.out HBc.out) HL3.out HBc.out ?_
        intro vx1 wx1 hob hgb hbb
        first|(have HX:=zY (HX.out.grownB hgb (by simp[Value.ownBlock])))|skip
        have HN:=zY hob
        have HBc:=zY hbb
        clear hob hgb hbb
        have HS:=zY (HKS.out _ HBc.out)
        refine hko hK (by exact HS.out) (fun _=>?_)
        clear hK K
        refine zE1 5 fun K hK=>?_
        go_simp
        have HX:=zY (src1B (ρ:=sesS) (w0:=wq) (t:=45) HBc.out [.int .i64 ((L.length:Int)+1),.int .i64 date,.string prev,.slice Ae ents.length ce,.string str,.string ⟨#[]⟩] (⟨(L.length:Int)+1,date,prev,ents,str,⟨#[]⟩⟩:Ses) HRe.out)
        first|simp only[World.size_alloc]at HX|skip
        first|(have HN:=zY (HN.out.alloc (.cells #[.int .i64 ((L.length:Int)+1),.int .i64 date,.string prev,.slice Ae ents.length ce,.string str,.string ⟨#[]⟩] 45)))|skip
        have HBc:=zY (HBc.out.alloc HBc.out.size (.cells #[.int .i64 ((L.length:Int)+1),.int .i64 date,.string prev,.slice Ae ents.length ce,.string str,.string ⟨#[]⟩] 45))
        rotate_left
        go_simp
        have HX:=zY (src1B (ρ:=sesS) (w0:=wq) (t:=45) HBc.out [.int .i64 ((L.length:Int)+1),.int .i64 date,.string prev,.slice Ae ents.length ce,.string str,.string ⟨#[]⟩] (⟨(L.length:Int)+1,date,prev,ents,str,⟨#[]⟩⟩:Ses) HRe.out)
        first|simp only[World.size_alloc]at HX|skip
        first|(have HN:=zY (HN.out.alloc (.cells #[.int .i64 ((L.length:Int)+1),.int .i64 date,.string prev,.slice Ae ents.length ce,.string str,.string ⟨#[]⟩] 45)))|skip
        have HBc:=zY (HBc.out.alloc HBc.out.size (.cells #[.int .i64 ((L.length:Int)+1),.int .i64 date,.string prev,.slice Ae ents.length ce,.string str,.string ⟨#[]⟩] 45))
        have HS:=zY (HKS.out _ HBc.out)
        refine hko hK (by exact HS.out) (fun _=>?_)
        clear hK K
        refine zE1 3 fun K hK=>?_
        refine wp_append_seq (ρ:=sesS) (w0:=wq) (v:=(.slice (some ⟨_,0,none⟩) 0 0)) Tryz.elemSes (.tmp 41) (.tmp 43) rfl rfl HN.out rfl (SrcAt.of HCe.out HBc.out) HL3.out HBc.out ?_
        intro vx1 wx1 hob hgb hbb
        first|(have HX:=zY (HX.out.grownB hgb (by simp[Value.ownBlock])))|skip
        have HN:=zY hob
        have HBc:=zY hbb
        clear hob hgb hbb
        rotate_left
       rotate_left 2
       go_simp
       have HX:=zY (src1B (ρ:=sesS) (w0:=wq) (t:=45) HBc.out [.int .i64 ((L.length:Int)+1),.int .i64 date,.string prev,.slice Ae ents.length ce,.string str,.string ⟨#[]⟩] (⟨(L.length:Int)+1,date,prev,ents,str,⟨#[]⟩⟩:Ses) HRe.out)
       first|simp only[World.size_alloc]at HX|skip
       first|(have HN:=zY (HN.out.alloc (.cells #[.int .i64 ((L.length:Int)+1),.int .i64 date,.string prev,.slice Ae ents.length ce,.string str,.string ⟨#[]⟩] 45)))|skip
       have HBc:=zY (HBc.out.alloc HBc.out.size (.cells #[.int .i64 ((L.length:Int)+1),.int .i64 date,.string prev,.slice Ae ents.length ce,.string str,.string ⟨#[]⟩] 45))
       have HS:=zY (HKS.out _ HBc.out)
       refine hko hK (by exact HS.out) (fun _=>?_)
       clear hK K
       refine zE1 0 fun K hK=>?_
       go_simp
       have HN:=zY (OwnSeq.newAt (ρ:=sesS) (t:=45) HBc.out.size)
       first|simp only[World.size_alloc]at HN|skip
       first|(have HX:=zY (HX.out.alloc (.cells #[] 45)))|skip
       have HBc:=zY (HBc.out.alloc HBc.out.size (.cells #[] 45))
       have HS:=zY (HKS.out _ HBc.out)
       refine hko hK (by exact HS.out) (fun _=>?_)
       clear hK K
       refine zE1 3 fun K hK=>?_
       refine wp_append_seq (ρ:=sesS) (w0:=wq) (v:=(.slice (some ⟨_,0,none⟩) 0 0)) Tryz.elemSes (.tmp 41) (.tmp 43) rfl rfl HN.out rfl (SrcAt.of HCe.out HBc.out) HL3.out HBc.out ?_
       intro vx1 wx1 hob hgb hbb
       first|(have HX:=zY (HX.out.grownB hgb (by simp[Value.ownBlock])))|skip
       have HN:=zY hob
       have HBc:=zY hbb
       clear hob hgb hbb
       rotate_left
      rotate_left 3
      focus
       go_simp
       have HX:=zY (src1B (ρ:=sesS) (w0:=wq) (t:=45) HBc.out [.int .i64 ((L.length:Int)+1),.int .i64 date,.string prev,.slice Ae ents.length ce,.string str,.string ⟨#[]⟩] (⟨(L.length:Int)+1,date,prev,ents,str,⟨#[]⟩⟩:Ses) HRe.out)
       first|simp only[World.size_alloc]at HX|skip
       first|(have HN:=zY (HN.out.alloc (.cells #[.int .i64 ((L.length:Int)+1),.int .i64 date,.string prev,.slice Ae ents.length ce,.string str,.string ⟨#[]⟩] 45)))|skip
       have HBc:=zY (HBc.out.alloc HBc.out.size (.cells #[.int .i64 ((L.length:Int)+1),.int .i64 date,.string prev,.slice Ae ents.length ce,.string str,.string ⟨#[]⟩] 45))
       have HS:=zY (HKS.out _ HBc.out)
       refine hko hK (by exact HS.out) (fun _=>?_)
       clear hK K
       refine zEs [0,2] (zEc (fun K hK=>?_) (zEc (fun K hK=>?_) AllReadyH.nil))
       go_simp
       have HN:=zY (OwnSeq.newAt (ρ:=sesS) (t:=45) HBc.out.size)
       first|simp only[World.size_alloc]at HN|skip
       first|(have HX:=zY (HX.out.alloc (.cells #[] 45)))|skip
       have HBc:=zY (HBc.out.alloc HBc.out.size (.cells #[] 45))
       have HS:=zY (HKS.out _ HBc.out)
       refine hko hK (by exact HS.out) (fun _=>?_)
       clear hK K
       refine zE1 2 fun K hK=>?_
       have q00:=cell_below HBc.out HL0.out
       have q0:((wq.alloc (.cells #[.int .i64 ((L.length:Int)+1),.int .i64 date,.string prev,.slice Ae ents.length ce,.string str,.string ⟨#[]⟩] 45)).alloc (.cells #[] 45)).cell? ⟨w.heap.size,3,none⟩=some (.slice A L.length c):=q00
       clear q00
       go_simp
       clear q0
       rotate_left
       have q00:=cell_below HBc.out HL0.out
       have q0:(wq.alloc (.cells #[.int .i64 ((L.length:Int)+1),.int .i64 date,.string prev,.slice Ae ents.length ce,.string str,.string ⟨#[]⟩] 45)).cell? ⟨w.heap.size,3,none⟩=some (.slice A L.length c):=q00
       clear q00
       go_simp
       clear q0
       refine hko hK (by exact HS.out) (fun _=>?_)
       clear hK K
       refine zE1 0 fun K hK=>?_
       go_simp
       have HN:=zY (OwnSeq.newAt (ρ:=sesS) (t:=45) HBc.out.size)
       first|simp only[World.size_alloc]at HN|skip
       first|(have HX:=zY (HX.out.alloc (.cells #[] 45)))|skip
       have HBc:=zY (HBc.out.alloc HBc.out.size (.cells #[] 45))
       have HS:=zY (HKS.out _ HBc.out)
       rotate_left
       all_goals
        refine hko hK (by exact HS.out) (fun _=>?_)
        clear hK K
        refine zE1 3 fun K hK=>?_
        refine wp_append_seq (ρ:=sesS) (w0:=wq) (v:=(.slice (some ⟨_,0,none⟩) 0 0)) Tryz.elemSes (.tmp 41) (.tmp 43) rfl rfl HN.out rfl (SrcAt.of HCe.out HBc.out) HL3.out HBc.out ?_
        intro vx1 wx1 hob hgb hbb
        first|(have HX:=zY (HX.out.grownB hgb (by simp[Value.ownBlock])))|skip
        have HN:=zY hob
        have HBc:=zY hbb
        clear hob hgb hbb
      rotate_left 2
      all_goals
       have HS:=zY (HKS.out _ HBc.out)
       refine hko hK (by exact HS.out) (fun _=>?_)
       clear hK K
       refine zE1 6 fun K hK=>?_
       refine wp_append_seq (ρ:=sesS) (w0:=wq) (v:=vx1) Tryz.elemSes (.tmp 44) (.tmp 46) rfl rfl HN.out rfl HX.out HL8.out HBc.out ?_
       intro vx2 wx2 hob hgb hbb
       have HN:=zY hob
       have HBc:=zY hbb
       clear hob hgb hbb
       have HS:=zY (HKS.out _ HBc.out)
       refine hko hK (by exact HS.out) (fun _=>?_)
       clear hK K
       refine tk 7 ?_
       refine zE1 8 fun K hK=>?_
       obtain⟨Ln,hLn⟩:=zNm ([]++L++[(⟨(L.length:Int)+1,date,prev,ents,str,⟨#[]⟩⟩:Ses)])
       have HLn:Hid (Ln=L++[(⟨(L.length:Int)+1,date,prev,ents,str,⟨#[]⟩⟩:Ses)]):=zY (by rw[<-hLn];simp)
       rw[hLn]at HN
       clear hLn
       obtain⟨An,cn,rfl⟩:=HN.out.slice
       have HQn:=zY (HI.out.below HBc.out)
       have qc:=HQn.out.ar.c 3
       have qz:=HQn.out.ar.frozen 3
       go_simp
       have HS:=zY (HKT.out _ (.slice An Ln.length cn) HBc.out)
       clear qc qz
       refine hko hK (by exact HS.out) (fun _=>?_)
       clear hK K
       refine wpAnyH_done (by kernel_rfl) ?_ _
       go_wp2_with fail
       go_meet
       exact⟨An,Ln,cn,rfl,HLn.out,HQn.out.setL (HN.out.at HBc.out)⟩
     case rest=>
      obtain⟨An,Ln,cn,rfl,hLn,hF⟩:=hcut
      obtain⟨wv,hwv⟩:∃x,x=wc:=⟨_,rfl⟩
      subst hwv
      have HF:=zY hF
      have HLn:=zY hLn
      clear hF hLn HS HBc HKS HKT HL0 HL3 HL8 HCe HRe HI
      have d0:=HF.out.ar.c 0
      have d1:=HF.out.ar.c 1
      have d2:=HF.out.ar.c 2
      have d3:=HF.out.ar.c 3
      have z0:=HF.out.rs.c 0
      have z1:=HF.out.rs.c 1
      have z2:=HF.out.rs.c 2
      have z3:=HF.out.rs.c 3
      have y0:=HF.out.rs.frozen 0
      have y1:=HF.out.rs.frozen 1
      have y2:=HF.out.rs.frozen 2
      have y3:=HF.out.rs.frozen 3
      have HW:=zY (HF.out.rs.setAll (i:=0) [.int .u32 id,.int .i64 d,.int .i64 s,.slice An Ln.length cn])
      have HBw:=zY (below_setAll (g:=w.heap.size+2) (by omega) [.int .u32 id,.int .i64 d,.int .i64 s,.slice An Ln.length cn] wv 0 HF.out.bl)
      have HDw:=zY (off_ses rfl rfl rfl rfl wv _ (w.heap.size+2) _ _ ⟨_,_,HF.out.rs,rfl⟩ (grown_setAll (w.heap.size+2) [.int .u32 id,.int .i64 d,.int .i64 s,.slice An Ln.length cn] wv 0) HF.out.sq)
      go_wp2_with fail
      refine bodyPost_ret (results_row_tmp rfl _ _ (w.heap.size+2) 28 _ (0,0) _ rfl HW.out Tryz.underlying28 rfl (by kernel_rfl)) rfl ?_
      exact⟨⟨_,Ln,0,rfl,HDw.out,.inr HLn.out⟩,HBw.out⟩
end
end Go.Proofs.YthgenkkkapilhaaGreatDoor
