/-
  Joined: VrD VpR VpS VpK VpT EncC FrN RangeOwnz.
-/
import Derived.Test.YthgenkkkapilhaaGreatDoorVRn31
import Derived.Test.YthgenkkkapilhaaGreatDoorVRn33
import Derived.Deep.Upon
set_option linter.all false
set_option maxRecDepth 100000
set_option maxHeartbeats 64000000
namespace Go.Proofs.YthgenkkkapilhaaGreatDoor.rangeStr
section
open Go.RowKit
def noDefer (ops:Array Oper):Bool:=ops.all fun o=>match o.op with
 |.defer _=>false
 |_=>true
theorem noDefer_spec {ops:Array Oper} (h:noDefer ops=true) {i:Nat} {o:Oper} (ho:ops[i]?=some o):∀c,o.op≠.defer c:=by
 intro c hc
 have h2:=(Array.all_eq_true_iff_forall_mem.1 h) o (Array.mem_of_getElem? ho)
 rw[hc]at h2
 cases h2
theorem wpIn_of_wp {P:Program} {o:Oper} {a:Act} {w:World} {K:Act->World->Prop} {Q:Exit->Act->World->Prop} {l:Nat} (hd:∀c,o.op≠.defer c) (h:o.wp P a w K Q):o.wpIn (Fence.wide.inRound l) 0 P a w K Q:=by
 refine⟨fun _ _=>trivial,?_⟩
 rw[Fence.inRound_round,Oper.semAt_some l _ _ hd]
 unfold Oper.wp at h
 generalize (execOp a.eval o).run P w=r at *
 cases r with
 |ok x w'=>
  cases x<;>simp only[Oper.upon]at h<;>simp only[Oper.uponIn]
  case value v=>exact h
  case skip=>exact h
  case defer d=>exact h
  case enter f args=>exact⟨fun h=>(by cases h),CallsIn.inRound l (callsIn_wide.2 h)⟩
  case row row args=>exact⟨fun h=>(by cases h),fun c cs _=>let ⟨v,w',r,s⟩:=h c cs;⟨v,w',r,stepsIn_wide.2 s⟩⟩
 |halt x w'=>cases x<;>simp only[Oper.upon]at h<;>simp only[Oper.uponIn]<;>exact h
theorem wpOpIn_of_wpOp {P:Program} {ops:Array Oper} {i:Nat} {a:Act} {w:World} {K:Act->World->Prop} {Q:Exit->Act->World->Prop} {l:Nat} (hd:noDefer ops=true) (hQ:∀a w,¬Q .outgrown a w) (h:wpOp P ops Q i K a w):wpOpIn (Fence.wide.inRound l) 0 P ops Q i K a w:=by
 unfold wpOp at h
 unfold wpOpIn
 split
 {
 rename_i h0
 simp only[h0]at h
 exact h}
 {
 rename_i o ho
 simp only[ho]at h
 split
 {
 rename_i hw
 simp only[hw,if_true]at h
 rcases h with h|⟨_,a0,w0,h⟩
 ·exact wpIn_of_wp (noDefer_spec hd ho) h
 ·exact absurd h (hQ a0 w0)}
 {
 rename_i hw
 simp only[hw]at h
 exact⟨fun _ _=>trivial,h⟩
}}
theorem wpAnyIn_of_wpAny {P:Program} {ops:Array Oper} {Q:Exit->Act->World->Prop} {md:Region.Mode} {l:Nat} (hd:noDefer ops=true) (hQ:∀a w,¬Q .outgrown a w):∀(fuel:Nat) (listed:Array Bool) (a:Act) (w:World),wpAny P md ops Q fuel listed a w->wpAnyIn (Fence.wide.inRound l) 0 P md ops Q fuel listed a w
 |0,_,_,_,h=>h
 |fuel+1,_,_,_,h=>⟨h.1,fun i hi=>wpOpIn_of_wpOp hd hQ (wpOp_mono (fun a' w' h'=>wpAnyIn_of_wpAny hd hQ fuel _ a' w' h') (h.2 i hi))⟩
theorem wpIn_region_held {P:Program} {ops:Array Oper} {Q:Exit->Act->World->Prop} {S:World->Prop} {l id:Nat} {a:Act} {w:World} (hm:P.follows .mixedOrders=true) (hd:noDefer ops=true) (hQ:∀a w,¬Q .outgrown a w) (hS:S w.drew)
  (h:S w.drew->wpAnyH P .any ops Q S ops.size (Array.replicate ops.size false) a w.drew):(Code.region id ops true).wpIn (Fence.wide.inRound l) 0 P Q a w:=
 wpIn_region_any hm (wpAnyIn_of_wpAny hd hQ _ _ _ _ (wpAny_of_held _ _ _ _ (h hS)))
end
end Go.Proofs.YthgenkkkapilhaaGreatDoor.rangeStr
namespace Go.Proofs.YthgenkkkapilhaaGreatDoor
section
open Go.RowKit
section
variable {α:Type} {ρ:Shape α} {w0 w W:World} {v:Value} {xs us:List α}
theorem OwnSeq.blk {t:TypeId} {g:Nat} {css:List (List Value)} (hB:Blk W g t css.flatten) (hb:Both (ρ.R w0) css xs) (hg:w0.heap.size<=g) (hn:xs.length<=100000000):OwnSeq ρ t w0 W (.slice (some ⟨g,0,none⟩) xs.length xs.length) xs:=by
 have hl:css.flatten.length=xs.length*ρ.n:=by rw[flat_len hb.lens,hb.len]
 refine⟨css,⟨hl,.inr ⟨g,xs.length,css.flatten.toArray,rfl,hg,hB,Nat.le_refl _,by unfold maxLen;omega,by simpa using hl,?_⟩⟩,hb⟩
 rw[<-hl]
 exact List.take_length
theorem run_append_full {P:Program} {TS T:TypeId} {b:Nat} {z:Value} (E:Elem P TS T ρ.n b z) (ty:TypeId) {g:Nat} {css:List (List Value)} (hB:Blk w g T css.flatten) (hb:Both (ρ.R w0) css xs) (hg:w0.heap.size<=g) {vx:Value} (hv:SrcAt ρ w0 w vx us) (hn:xs.length+us.length<=100000000):
  ∃v' w',(Builtin.append_ #[TS,TS] ty #[.slice (some ⟨g,0,none⟩) xs.length xs.length,vx]).run P w=.ok v' w'/\OwnSeq ρ T w0 w' v' (xs++us)/\Below w.heap.size w w':=by
 have hl:css.flatten.length=xs.length*ρ.n:=by rw[flat_len hb.lens,hb.len]
 obtain⟨i0,hi,hz0,hz1,hz2⟩:=info_parts E.hi
 by_cases h0:us=[]
 {
 subst h0
 obtain⟨A,c,rfl,h⟩:=hv
 refine⟨_,w,?_,by rw[List.append_nil];exact OwnSeq.blk hB hb hg (by simp at hn;omega),Below.refl _ _⟩
 refine run_append_nothing w TS TS ty T i0 E.ht hi _ _ _ (Nat.le_refl _) _ ?_
 cases A with
 |none=>exact Src.ofNil w E.ht c
 |some ad=>exact Src.ofSlice w E.ht ad 0 c [] (by simp) (fun j u hu=>by simp at hu) (fun u hu=>nomatch hu)}
 {
 obtain⟨ad,c,cu,rfl,hbu,hc⟩:=hv.cells h0
 have hpos:0<us.length:=List.length_pos_iff.2 h0
 obtain⟨v',w',hr,k1,k2⟩:=run_append_arg_grows (P:=P) w TS ty T i0 z ρ.n b E.ht hi hz0 hz1 hz2 E.hz E.hn ⟨g,0,none⟩ xs.length xs.length css.flatten hl (fun j u hu=>by rw[Addr.add_lit,Nat.zero_add];exact hB.cell hu) ad us.length c cu.flatten (by rw[flat_len hbu.lens,hbu.len]) hc
  (by omega) (by unfold maxLen;omega) (Nat.le_trans (Nat.mul_le_mul hn E.hb) (by omega))
 refine⟨v',w',hr,⟨css++cu,?_,hb.app hbu⟩,⟨k2.os,k2.tape,k2.output,k2.size,fun k hk=>k2.block k hk (fun e=>nomatch e)⟩⟩
 rw[List.flatten_append,List.length_append]
 have hgw:w0.heap.size<=w.heap.size:=Nat.le_trans hg (Nat.le_of_lt hB.lt)
 refine⟨k1.1,?_⟩
 rcases k1.2 with h|⟨g',cap,cur,e,h1,rest⟩
 ·exact .inl h
 ·exact .inr ⟨g',cap,cur,e,Nat.le_trans hgw h1,rest⟩}
theorem wp_append_full {P:Program} {o:Oper} {a:Act} {K:Act->World->Prop} {Q:Exit->Act->World->Prop} {TS T:TypeId} {b:Nat} {z:Value} (E:Elem P TS T ρ.n b z) (s x:Operand) (ho:o.op=.call { callee:=.builtin .append,args:= #[s,x],argTypes:= #[TS,TS] })
  {g:Nat} {css:List (List Value)} (hs:a.eval s=.slice (some ⟨g,0,none⟩) xs.length xs.length) (hB:Blk w g T css.flatten) (hb:Both (ρ.R w0) css xs) (hg:w0.heap.size<=g) {vx:Value} (hx:a.eval x=vx) (hv:SrcAt ρ w0 w vx us) (hn:xs.length+us.length<=100000000)
  (h:∀v' w',OwnSeq ρ T w0 w' v' (xs++us)->Below w.heap.size w w'->K (a.put o.dst v') w'):o.wp P a w K Q:=by
 obtain⟨v',w',hr,g1,g2⟩:=run_append_full E o.type hB hb hg hv hn
 unfold Oper.wp execOp
 simp only[ho,resolve,invoke,builtin,Sem.run_bind,Sem.run_pure,Result.andThen_ok,List.map_toArray,List.map_cons,List.map_nil,hs,hx,hr]
 exact h v' w' g1 g2
theorem SrcAt.flat (hF:Flat ρ) (h:SeqAt ρ w v us):SrcAt ρ w0 w v us:=by
 obtain⟨A,c,e,h1,h2,h3⟩:=h
 refine⟨A,c,e,fun i x hx=>?_⟩
 obtain⟨b,o,cs,e1,hr,h4⟩:=h3 i x hx
 exact⟨b,o,cs,e1,hF _ _ _ _ hr,h4⟩
end
def upto (W:World) (n:Nat):World:={ W with heap:=W.heap.extract 0 n }
theorem upto_size {W:World} {n:Nat} (h:n<=W.heap.size):(upto W n).heap.size=n:=by simp[upto];omega
theorem upto_below {W:World} {n:Nat} (h:n<=W.heap.size):Below (upto W n).heap.size (upto W n) W:=by
 rw[upto_size h]
 refine⟨rfl,rfl,rfl,by rw[upto_size h];exact h,fun k hk=>?_⟩
 simp only[upto]
 rw[Array.getElem?_extract]
 rw[if_pos (by omega),Nat.zero_add]
def valS:Shape Value where
 n:=1
 R _ cs u:=cs=[u]/\u.oneCell'=true
 len h:=by rw[h.1];rfl
 one h u hu:=by
  obtain⟨rfl,h1⟩:=h
  rw[List.mem_singleton.1 hu]
  exact h1
 keep h _:=h
theorem flatV:Flat valS:=fun _ _ _ _ h=>h
def OwnRows (t t':TypeId) (w0 W:World) (v:Value) (xss:List (List ByteArray)):Prop:=∃rs,OwnSeq valS t w0 W v rs/\Both (fun r x=>OwnSeq strS t' w0 W r x) rs xss
section
variable {t t':TypeId} {w0 w W W':World} {v:Value} {xss:List (List ByteArray)}
theorem OwnRows.nil (W:World):OwnRows t t' w0 W (.slice none 0 0) []:=⟨[],OwnSeq.nil W,.nil⟩
theorem OwnSeq.stay {α:Type} {ρ:Shape α} {xs:List α} {t:TypeId} (h:OwnSeq ρ t w0 W v xs) (hk:∀k o,w0.heap.size<=k->W.heap[k]?=some o->o.isCells=true->W'.heap[k]?=some o):OwnSeq ρ t w0 W' v xs:=by
 obtain⟨css,ho,hb⟩:=h
 refine⟨css,⟨ho.1,?_⟩,hb⟩
 rcases ho.2 with h0|⟨g,cap,cur,rfl,h1,h2,rest⟩
 ·exact .inl h0
 ·exact .inr ⟨g,cap,cur,rfl,h1,hk _ _ h1 h2 rfl,rest⟩
theorem OwnRows.stay (h:OwnRows t t' w0 W v xss) (hk:∀k o,w0.heap.size<=k->W.heap[k]?=some o->o.isCells=true->W'.heap[k]?=some o):OwnRows t t' w0 W' v xss:=by
 obtain⟨rs,h1,h2⟩:=h
 exact⟨rs,h1.stay hk,h2.mono fun r x h=>h.stay hk⟩
theorem OwnRows.kept (h:OwnRows t t' w0 W v xss) (hb:Below W.heap.size W W'):OwnRows t t' w0 W' v xss:=h.stay fun k o _ ho _=>(hb.block k (Array.getElem?_eq_some_iff.1 ho).1).trans ho
theorem OwnRows.snoc {rs:List Value} {r:Value} {x:List ByteArray} {va:Value} (hne:t≠t') (hr:OwnSeq valS t w0 W va rs) (h2:Both (fun r x=>OwnSeq strS t' w0 W r x) rs xss) (h3:OwnSeq strS t' w0 W r x) (h4:OwnSeq valS t w0 W' v (rs++[r])) (hg:W.grownBy W' va.ownBlock):OwnRows t t' w0 W' v (xss++[x]):=by
 have key:∀(r:Value) (x:List ByteArray),OwnSeq strS t' w0 W r x->OwnSeq strS t' w0 W' r x:=fun r x h=>h.grown hg (h.neO hr (Ne.symm hne))
 exact⟨_,h4,(h2.mono key).app (.cons (key _ _ h3) .nil)⟩
theorem OwnRows.slice (h:OwnRows t t' w0 W v xss):∃A c,v=.slice A xss.length c:=by
 obtain⟨rs,h1,h2⟩:=h
 rw[<-h2.len]
 exact h1.slice
end
theorem OwnSeq.size {α:Type} {ρ:Shape α} {t:TypeId} {w0 w1 W:World} {v:Value} {xs:List α} (h:OwnSeq ρ t w0 W v xs) (hF:Flat ρ) (e:w1.heap.size=w0.heap.size):OwnSeq ρ t w1 W v xs:=h.low hF (Nat.le_of_eq e)
theorem wp_append_rows {P:Program} {o:Oper} {a:Act} {K:Act->World->Prop} {Q:Exit->Act->World->Prop} {TSS TS T:TypeId} {b:Nat} {z:Value} {w0 w:World} {v r:Value} {xss:List (List ByteArray)} {y:List ByteArray} {xb:Nat} (E:Elem P TSS TS 1 b z) (s x:Operand) (ho:o.op=.call { callee:=.builtin .append,args:= #[s,x],argTypes:= #[TSS,TSS] }) (hne:TS≠T)
  (hs:a.eval s=v) (hO:OwnRows TS T w0 w v xss) (hle:w0.heap.size<=w.heap.size) (hx:a.eval x=.slice (some ⟨xb,0,none⟩) 1 1) (hB:Blk w xb TS [r]) (hr:OwnSeq strS T w0 w r y) (hn:xss.length<=1000000)
  (h:∀v' w',OwnRows TS T w0 w' v' (xss++[y])->Below w0.heap.size w w'->(∀k o,w.heap[k]?=some o->(o.isCells=false∨k<w0.heap.size)->w'.heap[k]?=some o)->K (a.put o.dst v') w'):o.wp P a w K Q:=by
 obtain⟨rs,h1,h2⟩:=hO
 have hz:=upto_size hle
 have hl:=h2.len
 refine wp_append_seq (ρ:=valS) (w0:=upto w w0.heap.size) E s x ho hs (h1.size flatV hz) hx (SrcAt.lit (x:=r) ⟨rfl,hr.one⟩ hB) (by simp only[List.length_singleton];omega) (upto_below hle) ?_
 intro v' w' g1 g2 g3
 have hge:=h1.ge
 have hlow:∀k,k<w0.heap.size->w'.heap[k]?=w.heap[k]?:=fun k hk=>g2.block k (by omega) (fun e=>by have:=hge k e.symm;omega)
 refine h v' w' (OwnRows.snoc hne h1 h2 hr (g1.size flatV hz.symm) g2) ⟨g2.os,g2.tape,g2.output,g2.size,hlow⟩ fun k o hk ho=>?_
 rcases ho with ho|ho
 {
 refine(g2.block k (Array.getElem?_eq_some_iff.1 hk).1 fun e=>?_).trans hk
 obtain⟨css,h3,_⟩:=h1
 rcases h3.2 with⟨rfl,_⟩|⟨g,cap,cur,rfl,_,hg,_⟩
 ·cases e
 {
 have:k=g:=by simpa [Value.ownBlock]using e
 subst this
 rw[hg]at hk
 cases hk
 cases ho}}
 ·exact(hlow k ho).trans hk
end
section
open Go.RowKit
structure SesOk (x:Ses):Prop where
 num:0<=x.num/\x.num<=1000000000
 date:0<=x.date/\x.date<=1000000000
 prev:x.prev.size=0∨x.prev.size=32
 str:x.str.size<=14680064
 ents:x.ents.length<=100
 ok:∀e∈x.ents,EntB e
 sig:x.sig=⟨#[]⟩
theorem last39_any (w:World) (id d s:Int) (v:Value) (L:List Ses) (hv:SeqAt sesS w v L) (hl:L.length<=1000) (hs:∀x∈L,SesOk x):Calls Tryz.prog 148 #[.agg #[.int .u32 id,.int .i64 d,.int .i64 s,v]] w fun e w'=>(∃p:ByteArray,e=.returned (.string p)/\(p.size=0∨p.size=32))/\Below w.heap.size w w':=by
 have HD:=zY (fun(W:World) (num date:Nat) (prev st sg:ByteArray) (ve:Value) (l:List Ent) (hv:SeqAt entS W ve l) (hn:num<=1000000000) (hd:date<=1000000000) (hp:prev.size<=1000000) (hst:st.size<=100000000) (hl:l.length<=100) (he:∀e∈l,EntB e)=>digest39_any W num date prev st sg ve l hv hn hd hp hst hl he)
 obtain⟨A,c,rfl,h1,h2⟩:=hv.slice
 have hK:=Blk.new w 28 [.int .u32 id,.int .i64 d,.int .i64 s,.slice A L.length c]
 change Blk (w.alloc (.cells #[.int .u32 id,.int .i64 d,.int .i64 s,.slice A L.length c] 28)) _ _ _ at hK
 have HK:=zY hK
 have HB0:=zY (zBl w (.cells #[.int .u32 id,.int .i64 d,.int .i64 s,.slice A L.length c] 28))
 have Hv:=zY (hv.below HB0.out)
 have Hs:=zY hs
 clear hK hv hs
 go_enter Tryz.func148,Tryz.ntmps148
 go_upto_region 1 with fail
 generalize w.alloc (.cells #[.int .u32 id,.int .i64 d,.int .i64 s,.slice A L.length c] 28)=wa at *
 have c3:=HK.out.c 3
 by_cases h0:L.length=0
 {
 have f0:((L.length:Int)==0)=true:=by rw[beq_iff_eq];omega
 go_wp2
 go_ret
 exact⟨⟨_,rfl,.inl rfl⟩,HB0.out⟩}
 {
 have f0:((L.length:Int)==0)=false:=by rw[beq_eq_false_iff_ne];omega
 obtain⟨m,hm⟩:∃m,L.length=m+1:=⟨L.length-1,by omega⟩
 have hmI:(L.length:Int)-1=m:=by omega
 have hml:m<L.length:=by omega
 have hmL:(m:Int)<L.length:=by omega
 obtain⟨x,hx⟩:∃x,L[m]?=some x:=⟨_,List.getElem?_eq_getElem hml⟩
 have HO:=zY (Hs.out x (List.mem_of_getElem? hx))
 obtain⟨_,_,e9,_,_,h4⟩:=Hv.out
 cases e9
 obtain⟨b,o,cs,rfl,⟨ve,rfl,hve⟩,hc⟩:=h4 m x hx
 have HVe:=zY hve
 obtain⟨Ae,ce,rfl,_,_⟩:=hve.slice
 obtain⟨num,date,prev,ents,str,sig⟩:=x
 dsimp only at hc HVe
 obtain⟨hnum,hdate,hprev,hstr,hents,hok,hsig⟩:=HO.out
 dsimp only at hsig
 subst hsig
 obtain⟨num,rfl⟩:∃n:Nat,num=(n:Int):=⟨num.toNat,by have:=hnum.1;dsimp only at this;omega⟩
 obtain⟨date,rfl⟩:∃n:Nat,date=(n:Int):=⟨date.toNat,by have:=hdate.1;dsimp only at this;omega⟩
 dsimp only at hnum hdate hprev hstr hents hok
 have HDg:=zY (HD.out wa num date prev str ⟨#[]⟩ _ ents HVe.out (by omega) (by omega) (by omega) (by omega) hents hok)
 generalize ents.length=ne at *
 have e0:wa.cell? ⟨b,o+m*6,none⟩=some (.int .i64 num):=hc 0 _ rfl
 have e1:wa.cell? ⟨b,o+m*6+1,none⟩=some (.int .i64 date):=hc 1 _ rfl
 have e2:wa.cell? ⟨b,o+m*6+2,none⟩=some (.string prev):=hc 2 _ rfl
 have e3:wa.cell? ⟨b,o+m*6+3,none⟩=some (.slice Ae ne ce):=hc 3 _ rfl
 have e4:wa.cell? ⟨b,o+m*6+4,none⟩=some (.string str):=hc 4 _ rfl
 have e5:wa.cell? ⟨b,o+m*6+5,none⟩=some (.string ⟨#[]⟩):=hc 5 _ rfl
 clear hc h4 hx hve hm hnum hdate hprev hstr hents hok
 go_wp2_with fail
 refine HDg.out.mono ?_
 rintro e6 w6 ⟨⟨p,rfl,hp⟩,hb⟩
 go_wp2
 go_ret
 exact⟨⟨p,rfl,.inr hp⟩,HB0.out.trans (hb.mono HB0.out.size)⟩}
def setAll (W:World) (g:Nat):Nat->List Value->World
 |_,[]=>W
 |i,u::r=>setAll (W.setCell ⟨g,i,none⟩ u) g (i+1) r
theorem grown_refl (W:World) (r:Option Nat):W.grownBy W r:=⟨rfl,rfl,rfl,Nat.le_refl _,fun _ _ _=>rfl⟩
theorem grown_setAll (g:Nat):∀(us:List Value) (W:World) (i:Nat),W.grownBy (setAll W g i us) (some g)
 |[],W,_=>grown_refl W _
 |u::r,W,i=>grownBy_trans (grown_set W g i u) (grown_setAll g r _ _)
theorem below_setAll {w:World} {B g:Nat} (hg:B<=g):∀(us:List Value) (W:World) (i:Nat),Below B w W->Below B w (setAll W g i us)
 |[],_,_,h=>h
 |u::r,W,i,h=>below_setAll hg r _ _ (h.setCell (p:=⟨g,i,none⟩) hg u)
def lset:List Value->Nat->List Value->List Value
 |l,_,[]=>l
 |l,i,u::r=>lset (l.set i u) (i+1) r
theorem Blk.setAll {g:Nat} {t:TypeId}:∀(us:List Value) {W:World} {i:Nat} {old:List Value},Blk W g t old->Blk (setAll W g i us) g t (lset old i us)
 |[],_,_,_,h=>h
 |u::r,_,i,_,h=>Blk.setAll r (h.set i u)
theorem Blk.grownN {W W':World} {g g':Nat} {t:TypeId} {us:List Value} (h:Blk W g t us) (hg:W.grownBy W' (some g')) (hne:g≠g'):Blk W' g t us:=h.grownB hg (fun e=>hne (Option.some.inj e).symm)
def entN:List Ses->Nat
 |[]=>0
 |x::r=>x.ents.length+entN r
theorem entN_app (l m:List Ses):entN (l++m)=entN l+entN m:=by
 induction l with
 |nil=>simp[entN]
 |cons x r ih=>rw[List.cons_append,entN,entN,ih];omega
theorem entN_take (l:List Ses) {i:Nat} {x:Ses} (h:l[i]?=some x):entN (l.take (i+1))=entN (l.take i)+x.ents.length:=by
 rw[List.take_add_one,h,entN_app]
 simp[entN]
theorem entN_le (l:List Ses) (i:Nat):entN (l.take i)<=entN l:=by
 have h:=entN_app (l.take i) (l.drop i)
 rw[List.take_append_drop]at h
 omega
def safe (ks:List Nat):Bool:=noFit [1,3,4,3,1,3,4] ks&&noFit [1,1,1] ks&&noFit [3,3] ks&&noFit [3,1,1,1] ks&&noFit [3,1] ks
structure DrA (W:World) (ve vc vt vh:Value) (E:List Ent) (C:List Cnk) (T:List Ent) (H:List Hol):Prop where
 e:SeqAt entS W ve E
 c:SeqAt chkS W vc C
 t:SeqAt entS W vt T
 h:SeqAt holS W vh H
section
variable {W W':World} {ve vc vt vh:Value} {E T:List Ent} {C:List Cnk} {H:List Hol}
theorem DrA.below (h:DrA W ve vc vt vh E C T H) (hb:Below W.heap.size W W'):DrA W' ve vc vt vh E C T H:=⟨h.e.below hb,h.c.below hb,h.t.below hb,h.h.below hb⟩
theorem DrA.box (h:DrA W ve vc vt vh E C T H) {D:Nat} {t:TypeId} {us:List Value} (hB:Blk W D t us) (hg:W.grownBy W' (some D)) (hs:safe (us.map kd)=true):DrA W' ve vc vt vh E C T H:=by
 simp only[safe,Bool.and_eq_true]at hs
 obtain⟨⟨⟨⟨h1,h2⟩,h3⟩,h4⟩,h5⟩:=hs
 have hb:Box W D (us.map kd):=⟨t,us,hB,rfl⟩
 exact⟨off_ent h1 h2 h3 W W' D _ _ hb hg h.e,off_chk h4 W W' D _ _ hb hg h.c,off_ent h1 h2 h3 W W' D _ _ hb hg h.t,off_hol h5 W W' D _ _ hb hg h.h⟩
theorem DrA.nil (W:World):DrA W (.slice none 0 0) (.slice none 0 0) (.slice none 0 0) (.slice none 0 0) [] [] [] []:=⟨SeqAt.nil _,SeqAt.nil _,SeqAt.nil _,SeqAt.nil _⟩
end
end
section
open Go.RowKit
def RetHE (w':World) (n B:Nat) (e:Ending):Prop:=∃v m k,e=.returned (.tuple #[v,.int .i64 k])/\SeqAt holS w' v m/\m.length<=n/\∀h∈m,h.p.size<=B
theorem apply38_any (w:World) (v:Value) (l:List Hol) (B:Nat) (hB:B<=1000000) (hv:SeqAt holS w v l) (hl:l.length<=1000) (hz:∀h∈l,h.p.size<=B) (k:Int) (path tgt dig:ByteArray) (Aa Ax:Option Addr) (na ca nx cx:Nat) (size:Int) (hp:path.size<=B) (ht:tgt.size<=1000000) (date:Int):
  Calls Tryz.prog 157 #[v,.agg #[.int .i64 k,.string path,.slice Aa na ca,.string tgt,.int .i64 size,.string dig,.slice Ax nx cx],.int .i64 date] w fun e w'=>RetHE w' (l.length+1) B e/\Below w.heap.size w w':=by
 have hK:=Blk.new w 182 [.int .i64 k,.string path,.slice Aa na ca,.string tgt,.int .i64 size,.string dig,.slice Ax nx cx]
 change Blk (w.alloc (.cells #[.int .i64 k,.string path,.slice Aa na ca,.string tgt,.int .i64 size,.string dig,.slice Ax nx cx] 182)) _ _ _ at hK
 have HK:=zY hK
 have HB0:=zY (zBl w (.cells #[.int .i64 k,.string path,.slice Aa na ca,.string tgt,.int .i64 size,.string dig,.slice Ax nx cx] 182))
 have Hv:=zY (hv.below HB0.out)
 obtain⟨A,c,rfl,h1,h2⟩:=hv.slice
 have HA:=zY (fun(W:World) (h:SeqAt holS W (.slice A l.length c) l)=>active_any W (.slice A l.length c) l h (by omega) date)
 have HD:=zY (fun(W:World)=>date38_any W tgt ht)
 have Hz:=zY hz
 have HBz:=zY hB
 have Hl:=zY hl
 clear hK hv hz hB hl
 go_enter Tryz.func157,Tryz.ntmps157
 go_upto_region 1 with fail
 generalize w.alloc (.cells #[.int .i64 k,.string path,.slice Aa na ca,.string tgt,.int .i64 size,.string dig,.slice Ax nx cx] 182)=wa at *
 go_wp2_with fail
 refine(HA.out _ Hv.out).mono ?_
 rintro e1 w1 ⟨⟨v1,l1,rfl,ho1,hn1,hm1⟩,hb1⟩
 have Hn1:=zY hn1
 have Hm1:=zY hm1
 have HB1:=zYt HB0 hb1
 have HK1:=zY (HK.out.kept hb1)
 have Hv1:=zY (ho1.at hb1)
 clear hb1 ho1 hn1 hm1 HK Hv HB0
 obtain⟨A1,c1,rfl,_,_⟩:=Hv1.out.slice
 have d0:=HK1.out.c 0
 have d1:=HK1.out.c 1
 have d3:=HK1.out.c 3
 have Hz1:Hid (∀h∈l1,h.p.size<=B):=zY (fun h hh=>Hz.out h (Hm1.out h hh))
 have HW:=zY (fun(W:World) (h:SeqAt holS W (.slice A1 l1.length c1) l1)=>without_any W (.slice A1 l1.length c1) l1 h (by have:=Hn1.out;have:=Hl.out;omega) path)
 have hk:k=5∨k=6∨(k≠5/\k≠6):=by omega
 rcases hk with rfl|rfl|⟨k1,k2⟩
 {
 go_wp2_with fail
 refine(HD.out _).mono ?_
 rintro e2 w2 ⟨⟨n,rfl⟩,rfl⟩
 by_cases hn:n<0
 {
 have HE:=zY ((OwnSeq.new (ρ:=holS) (t:=289) w1).at ((Below.refl _ _).alloc (Nat.le_refl _) _))
 have HB2:=zY (HB1.out.alloc HB1.out.size (.cells #[] 289))
 go_wp2_with fail
 go_ret2
 exact⟨⟨_,[],3,rfl,HE.out,by simp,fun h hh=>nomatch hh⟩,HB2.out⟩}
 {
 go_wp2_with fail
 refine(HW.out _ Hv1.out).mono ?_
 rintro e3 w3 ⟨⟨v3,l3,q,rfl,ho3,hn3,hm3⟩,hb3⟩
 have Hn3:=zY hn3
 have Hm3:=zY hm3
 have Hv3:=zY (ho3.at hb3)
 have HB3:=zYt HB1 hb3
 have HK3:=zY (HK1.out.kept hb3)
 have HI:=zY (fun(u:Int)=>insert38_any w3 v3 l3 (ho3.at hb3) (by have:=Hn1.out;have:=Hl.out;omega) (fun h hh=>Nat.le_trans (Hz1.out h (hm3 h hh)) HBz.out) path u (Nat.le_trans hp HBz.out))
 clear hb3 ho3 hn3 hm3 d0 d1 d3
 obtain⟨A3,c3,rfl,_,_⟩:=Hv3.out.slice
 have g1:=HK3.out.c 1
 by_cases hq:n<q
 all_goals
  go_wp2_with fail
  refine(HI.out _).mono ?_
  rintro e4 w4 ⟨⟨v4,l4,rfl,ho4,hn4,hm4⟩,hb4⟩
  go_wp2_with fail
  go_ret2
  exact⟨⟨v4,l4,0,rfl,ho4.at hb4,by have:=Hn1.out;have:=Hn3.out;omega,fun h hh=>by
   rcases hm4 h hh with rfl|hh
   ·exact hp
   ·exact Hz1.out h (Hm3.out h hh)⟩,HB3.out.trans (hb4.mono HB3.out.size)⟩}}
 {
 go_wp2_with fail
 refine(HW.out _ Hv1.out).mono ?_
 rintro e3 w3 ⟨⟨v3,l3,q,rfl,ho3,hn3,hm3⟩,hb3⟩
 have HB3:=zYt HB1 hb3
 have Hn3:=zY hn3
 have Hm3:=zY hm3
 have Hv3:=zY (ho3.at hb3)
 clear hb3 ho3 hn3 hm3
 by_cases hq:q<0
 {
 have HE:=zY ((OwnSeq.new (ρ:=holS) (t:=289) w3).at ((Below.refl _ _).alloc (Nat.le_refl _) _))
 have HB2:=zY (HB3.out.alloc HB3.out.size (.cells #[] 289))
 go_wp2_with fail
 go_ret2
 exact⟨⟨_,[],9,rfl,HE.out,by simp,fun h hh=>nomatch hh⟩,HB2.out⟩}
 {
 go_wp2_with fail
 go_ret2
 exact⟨⟨v3,l3,0,rfl,Hv3.out,by have:=Hn1.out;have:=Hn3.out;omega,fun h hh=>Hz1.out h (Hm3.out h hh)⟩,HB3.out⟩}}
 {
 have f1:(k==5)=false:=by rw[beq_eq_false_iff_ne];exact k1
 have f2:(k==6)=false:=by rw[beq_eq_false_iff_ne];exact k2
 clear k1 k2
 go_wp2_with fail
 go_ret2
 exact⟨⟨_,l1,0,rfl,Hv1.out,by have:=Hn1.out;omega,Hz1.out⟩,HB1.out⟩}
structure StI (w W:World) (ca:List Value) (vc vt vh:Value) (C:List Cnk) (sn:Int) (st:ByteArray) (T:List Ent) (H:List Hol) (vl:Value) (Ls:List ByteArray):Prop where
 ar:Blk W w.heap.size 28 ca
 rs:Blk W (w.heap.size+1) 163 [.int .i64 0,.int .i64 0,.string ⟨#[]⟩,.slice none 0 0,.slice none 0 0,.int .i64 0,.string ⟨#[]⟩,.slice none 0 0,.slice none 0 0]
 dr:Blk W (w.heap.size+2) 163 [.int .i64 0,.int .i64 0,.string ⟨#[]⟩,.slice none 0 0,vc,.int .i64 sn,.string st,vt,vh]
 sq:DrA W (.slice none 0 0) vc vt vh [] C T H
 ls:OwnSeq strS 9 w W vl Ls
 bl:Below w.heap.size w W
section
variable {w W W':World} {ca:List Value} {vc vc' vt vt' vh vh' vl:Value} {C C':List Cnk} {sn sn':Int} {st st':ByteArray} {T T':List Ent} {H H':List Hol} {Ls:List ByteArray}
theorem StI.below (h:StI w W ca vc vt vh C sn st T H vl Ls) (hb:Below W.heap.size W W'):StI w W' ca vc vt vh C sn st T H vl Ls:=
 ⟨h.ar.kept hb,h.rs.kept hb,h.dr.kept hb,h.sq.below hb,h.ls.below hb,h.bl.trans (hb.mono h.bl.size)⟩
theorem StI.kinds (h:StI w W ca vc vt vh C sn st T H vl Ls):([.int .i64 0,.int .i64 0,.string ⟨#[]⟩,.slice none 0 0,vc,.int .i64 sn,.string st,vt,vh]:List Value).map kd=[1,1,3,4,4,1,3,4,4]:=by
 simp only[List.map_cons,List.map_nil,h.sq.c.kd,h.sq.t.kd,h.sq.h.kd]
 rfl
theorem StI.set (h:StI w W ca vc vt vh C sn st T H vl Ls) (i:Nat) (us:List Value) (hcs:lset [.int .i64 0,.int .i64 0,.string ⟨#[]⟩,.slice none 0 0,vc,.int .i64 sn,.string st,vt,vh] i us=[.int .i64 0,.int .i64 0,.string ⟨#[]⟩,.slice none 0 0,vc',.int .i64 sn',.string st',vt',vh'])
  (hs:DrA W (.slice none 0 0) vc' vt' vh' [] C' T' H'):StI w (setAll W (w.heap.size+2) i us) ca vc' vt' vh' C' sn' st' T' H' vl Ls:=by
 have hg:=grown_setAll (w.heap.size+2) us W i
 refine⟨h.ar.grownN hg (by omega),h.rs.grownN hg (by omega),hcs▸h.dr.setAll us,hs.box h.dr hg (by rw[h.kinds];rfl),h.ls.grown hg (.inr (h.ls.neT h.dr (by decide))),below_setAll (by omega) us W i h.bl⟩
end
def RetState (w':World) (N:Nat) (L:List Ses) (e:Ending):Prop:=∃(vc vt vh:Value) (C:List Cnk) (sn:Int) (st:ByteArray) (T:List Ent) (H:List Hol),e=.returned (.agg #[.int .i64 0,.int .i64 0,.string ⟨#[]⟩,.slice none 0 0,vc,.int .i64 sn,.string st,vt,vh]) /\
 DrA w' (.slice none 0 0) vc vt vh [] C T H/\C.length<=65536*N/\st.size<=65536*N/\T.length<=N/\H.length<=N/\(∀x∈T,∃y∈L,x∈y.ents)/\∀h∈H,h.p.size<=1000000
theorem state39_any (w:World) (id d s:Int) (v:Value) (L:List Ses) (hv:SeqAt sesS w v L) (hl:L.length<=200) (hN:entN L<=500) (hs:∀x∈L,SesOk x):
  Calls Tryz.prog 147 #[.agg #[.int .u32 id,.int .i64 d,.int .i64 s,v]] w fun e w'=>RetState w' (entN L) L e/\Below w.heap.size w w':=by
 obtain⟨A,c,rfl,h1,h2⟩:=hv.slice
 have hK:=Blk.new w 28 [.int .u32 id,.int .i64 d,.int .i64 s,.slice A L.length c]
 change Blk (w.alloc (.cells #[.int .u32 id,.int .i64 d,.int .i64 s,.slice A L.length c] 28)) _ _ _ at hK
 have hZ:=Blk.new (w.alloc (.cells #[.int .u32 id,.int .i64 d,.int .i64 s,.slice A L.length c] 28)) 163 [.int .i64 0,.int .i64 0,.string ⟨#[]⟩,.slice none 0 0,.slice none 0 0,.int .i64 0,.string ⟨#[]⟩,.slice none 0 0,.slice none 0 0]
 change Blk ((w.alloc (.cells #[.int .u32 id,.int .i64 d,.int .i64 s,.slice A L.length c] 28)).alloc (.cells #[.int .i64 0,.int .i64 0,.string ⟨#[]⟩,.slice none 0 0,.slice none 0 0,.int .i64 0,.string ⟨#[]⟩,.slice none 0 0,.slice none 0 0] 163)) _ _ _ at hZ
 rw[World.size_alloc]at hZ
 have hD:=Blk.new ((w.alloc (.cells #[.int .u32 id,.int .i64 d,.int .i64 s,.slice A L.length c] 28)).alloc (.cells #[.int .i64 0,.int .i64 0,.string ⟨#[]⟩,.slice none 0 0,.slice none 0 0,.int .i64 0,.string ⟨#[]⟩,.slice none 0 0,.slice none 0 0] 163)) 163 [.int .i64 0,.int .i64 0,.string ⟨#[]⟩,.slice none 0 0,.slice none 0 0,.int .i64 0,.string ⟨#[]⟩,.slice none 0 0,.slice none 0 0]
 change Blk (((w.alloc (.cells #[.int .u32 id,.int .i64 d,.int .i64 s,.slice A L.length c] 28)).alloc (.cells #[.int .i64 0,.int .i64 0,.string ⟨#[]⟩,.slice none 0 0,.slice none 0 0,.int .i64 0,.string ⟨#[]⟩,.slice none 0 0,.slice none 0 0] 163)).alloc (.cells #[.int .i64 0,.int .i64 0,.string ⟨#[]⟩,.slice none 0 0,.slice none 0 0,.int .i64 0,.string ⟨#[]⟩,.slice none 0 0,.slice none 0 0] 163)) _ _ _ at hD
 rw[World.size_alloc,World.size_alloc]at hD
 have hB1:=zBl w (.cells #[.int .u32 id,.int .i64 d,.int .i64 s,.slice A L.length c] 28)
 have hB2:=hB1.alloc hB1.size (.cells #[.int .i64 0,.int .i64 0,.string ⟨#[]⟩,.slice none 0 0,.slice none 0 0,.int .i64 0,.string ⟨#[]⟩,.slice none 0 0,.slice none 0 0] 163)
 have hB3:=hB2.alloc hB2.size (.cells #[.int .i64 0,.int .i64 0,.string ⟨#[]⟩,.slice none 0 0,.slice none 0 0,.int .i64 0,.string ⟨#[]⟩,.slice none 0 0,.slice none 0 0] 163)
 have HP0:Hid (StI w (((w.alloc (.cells #[.int .u32 id,.int .i64 d,.int .i64 s,.slice A L.length c] 28)).alloc (.cells #[.int .i64 0,.int .i64 0,.string ⟨#[]⟩,.slice none 0 0,.slice none 0 0,.int .i64 0,.string ⟨#[]⟩,.slice none 0 0,.slice none 0 0] 163)).alloc (.cells #[.int .i64 0,.int .i64 0,.string ⟨#[]⟩,.slice none 0 0,.slice none 0 0,.int .i64 0,.string ⟨#[]⟩,.slice none 0 0,.slice none 0 0] 163)) [.int .u32 id,.int .i64 d,.int .i64 s,.slice A L.length c] (.slice none 0 0) (.slice none 0 0) (.slice none 0 0) [] 0 ⟨#[]⟩ [] [] (.slice none 0 0) []):=zY ⟨(hK.alloc _).alloc _,hZ.alloc _,hD,DrA.nil _,OwnSeq.nil _,hB3⟩
 have Hv:=zY hv
 have Hs:=zY hs
 have HN:=zY hN
 clear hK hZ hD hB1 hB2 hB3 hv hs hN
 go_enter Tryz.func147,Tryz.ntmps147
 go_upto_region 2 with fail
 generalize (((w.alloc (.cells #[.int .u32 id,.int .i64 d,.int .i64 s,.slice A L.length c] 28)).alloc (.cells #[.int .i64 0,.int .i64 0,.string ⟨#[]⟩,.slice none 0 0,.slice none 0 0,.int .i64 0,.string ⟨#[]⟩,.slice none 0 0,.slice none 0 0] 163)).alloc (.cells #[.int .i64 0,.int .i64 0,.string ⟨#[]⟩,.slice none 0 0,.slice none 0 0,.int .i64 0,.string ⟨#[]⟩,.slice none 0 0,.slice none 0 0] 163))=wa at *
 have HSt:=zY (streams_any wa id d s _ L (Hv.out.below HP0.out.bl) (by omega))
 have a0:=HP0.out.ar.c 0
 have a1:=HP0.out.ar.c 1
 have a2:=HP0.out.ar.c 2
 have a3:=HP0.out.ar.c 3
 go_wp2_with fail
 refine HSt.out.mono ?_
 rintro e1 w1 ⟨⟨vl,rfl,ho1⟩,hb1⟩
 have HP1:Hid (StI w w1 [.int .u32 id,.int .i64 d,.int .i64 s,.slice A L.length c] (.slice none 0 0) (.slice none 0 0) (.slice none 0 0) [] 0 ⟨#[]⟩ [] [] vl (L.map (·.str))):=zY (by
  have h:=HP0.out.below hb1
  exact⟨h.ar,h.rs,h.dr,h.sq,ho1.low flatS HP0.out.bl.size,h.bl⟩)
 clear ho1 hb1 a0 a1 a2 a3 HSt HP0
 obtain⟨Al,cl,rfl⟩:=HP1.out.ls.slice
 rw[show (L.map (·.str)).length=L.length by simp]at HP1⊢
 go_wp2
 go_loopw [5,6,7,8,9,10] (fun y _ _ _ _ _ wr=>∃(i:Nat) (vc vt vh:Value) (C:List Cnk) (sn:Int) (st:ByteArray) (T:List Ent) (H:List Hol),i<=L.length/\y=.int .i64 (i:Int)/\StI w wr [.int .u32 id,.int .i64 d,.int .i64 s,.slice A L.length c] vc vt vh C sn st T H (.slice Al L.length cl) (L.map (·.str))/\C.length<=65536*entN (L.take i)/\st.size<=65536*entN (L.take i)/\T.length<=entN (L.take i)/\H.length<=entN (L.take i)/\(∀x∈T,∃y∈L,x∈y.ents)/\∀h∈H,h.p.size<=1000000) (fun y _ _ _ _ _ _=>L.length-(intOf y).toNat)
 case atStart=>exact⟨0,_,_,_,[],0,⟨#[]⟩,[],[],by omega,rfl,HP1.out,by simp,Nat.zero_le _,by simp,by simp,(fun x hx=>nomatch hx),(fun x hx=>nomatch hx)⟩
 case round=>
  obtain⟨i,vc,vt,vh,C,sn,st,T,H,hi,rfl,hp,hcl,hst,htl,hhl,htm,hhb⟩:=hrel
  have HP:=zY hp
  have HCl:=zY hcl
  have HSl:=zY hst
  have HTl:=zY htl
  have HHl:=zY hhl
  have HTm:=zY htm
  have HHb:=zY hhb
  clear hp hcl hst htl hhl htm hhb
  obtain⟨wx,rfl⟩:∃x,x=wr:=⟨_,rfl⟩
  obtain⟨Ac,cc,rfl,_,_⟩:=HP.out.sq.c.slice
  obtain⟨At,ct,rfl,_,_⟩:=HP.out.sq.t.slice
  obtain⟨Ah,ch,rfl,_,_⟩:=HP.out.sq.h.slice
  have a3:=HP.out.ar.c 3
  by_cases h:i<L.length
  {
  have hiI:(i:Int)<L.length:=by omega
  obtain⟨x,hx⟩:∃x,L[i]?=some x:=⟨_,List.getElem?_eq_getElem h⟩
  have HOx:=zY (Hs.out x (List.mem_of_getElem? hx))
  have Hxm:=zY (List.mem_of_getElem? hx)
  have HNx:=zY (entN_take L hx)
  have HNe:Hid (entN (L.take (i+1))<=500):=zY (Nat.le_trans (entN_le L (i+1)) HN.out)
  obtain⟨_,_,e9,_,_,h4⟩:=Hv.out
  cases e9
  obtain⟨b,o,cs,rfl,⟨ve,rfl,hve⟩,hc⟩:=h4 i x hx
  have HVe:=zY hve
  obtain⟨Ae,ce,rfl,_,_⟩:=hve.slice
  obtain⟨num,date,prev,ents,str,sig⟩:=x
  dsimp only at hc HVe HNx
  generalize hne:ents.length=ne at *
  have Hne:=zY hne
  have e0:wx.cell? ⟨b,o+i*6,none⟩=some (.int .i64 num):=cell_below HP.out.bl (hc 0 _ rfl)
  have e1:wx.cell? ⟨b,o+i*6+1,none⟩=some (.int .i64 date):=cell_below HP.out.bl (hc 1 _ rfl)
  have e2:wx.cell? ⟨b,o+i*6+2,none⟩=some (.string prev):=cell_below HP.out.bl (hc 2 _ rfl)
  have e3:wx.cell? ⟨b,o+i*6+3,none⟩=some (.slice Ae ne ce):=cell_below HP.out.bl (hc 3 _ rfl)
  have e4:wx.cell? ⟨b,o+i*6+4,none⟩=some (.string str):=cell_below HP.out.bl (hc 4 _ rfl)
  have e5:wx.cell? ⟨b,o+i*6+5,none⟩=some (.string sig):=cell_below HP.out.bl (hc 5 _ rfl)
  clear hc h4 hx hve hne
  have hSx:=Blk.new wx 45 [.int .i64 num,.int .i64 date,.string prev,.slice Ae ne ce,.string str,.string sig]
  change Blk (wx.alloc (.cells #[.int .i64 num,.int .i64 date,.string prev,.slice Ae ne ce,.string str,.string sig] 45)) _ _ _ at hSx
  have HSx:=zY hSx
  have HBx:=zY (zBl wx (.cells #[.int .i64 num,.int .i64 date,.string prev,.slice Ae ne ce,.string str,.string sig] 45))
  have HPx:=zY (HP.out.below HBx.out)
  have HGs:Hid (wx.heap.size≠w.heap.size+2):=zY (by have:=HP.out.dr.lt;omega)
  clear hSx
  go_upto_region 7 with fail
  clear e0 e1 e2 e3 e4 e5 a3
  generalize wx.alloc (.cells #[.int .i64 num,.int .i64 date,.string prev,.slice Ae ne ce,.string str,.string sig] 45)=wy at *
  generalize wx.heap.size=gs at *
  have d4:=HPx.out.dr.c 4
  have d5:=HPx.out.dr.c 5
  have d6:=HPx.out.dr.c 6
  have HBe:=zY (begin35_any wy Ac C.length cc sn st ((i:Int)+1))
  have hi1:IntKind.i64.wrap ((i:Int)+1)=(i:Int)+1:=zIw (by omega)
  go_wp2_with fail
  refine HBe.out.mono ?_
  rintro e2 w2 ⟨⟨sn2,st2,n2,rfl,hst2⟩,hb2⟩
  have HP2:=zY (HPx.out.below hb2)
  have HS2:=zY (HSx.out.kept hb2)
  have Hst2:=zY hst2
  clear d4 d5 d6 hst2 hb2 HBe HPx HSx HP HBx
  have d4:=HP2.out.dr.c 4
  have d5:=HP2.out.dr.c 5
  have d6:=HP2.out.dr.c 6
  have y4:=HP2.out.dr.frozen 4
  have y5:=HP2.out.dr.frozen 5
  have y6:=HP2.out.dr.frozen 6
  have HP3:=zY (HP2.out.set 4 [.slice Ac C.length cc,.int .i64 sn2,.string st2] rfl HP2.out.sq)
  have HS3:=zY (HS2.out.grownN (grown_setAll (w.heap.size+2) [.slice Ac C.length cc,.int .i64 sn2,.string st2] w2 4) HGs.out)
  go_wp2
  go_loopw [7,8,9,10] (fun y _ _ _ wr=>∃(j:Nat) (vc vt vh:Value) (C:List Cnk) (sn:Int) (st:ByteArray) (T:List Ent) (H:List Hol),j<=ne/\y=.int .i64 (j:Int)/\StI w wr [.int .u32 id,.int .i64 d,.int .i64 s,.slice (some ⟨b,o,none⟩) L.length c] vc vt vh C sn st T H (.slice Al L.length cl) (L.map (·.str))/\Blk wr gs 45 [.int .i64 num,.int .i64 date,.string prev,.slice Ae ne ce,.string str,.string sig]/\C.length<=65536*(entN (L.take i)+j)/\st.size<=65536*(entN (L.take i)+j)/\T.length<=entN (L.take i)+j/\H.length<=entN (L.take i)+j/\(∀x∈T,∃y∈L,x∈y.ents)/\∀h∈H,h.p.size<=1000000) (fun y _ _ _ _=>ne-(intOf y).toNat)
  case atStart=>exact⟨0,_,_,_,C,sn2,st2,T,H,by omega,rfl,HP3.out,HS3.out,by have:=HCl.out;omega,by have:=HSl.out;have:=Hst2.out;omega,by have:=HTl.out;omega,by have:=HHl.out;omega,HTm.out,HHb.out⟩
  case round=>
   clear HCl HSl HTl HHl HTm HHb d4 d5 d6 y4 y5 y6 HP3 HS3 HP2 HS2
   obtain⟨j,vc,vt,vh,C,sn,st,T,H,hj,rfl,hp,hsx,hcl,hst,htl,hhl,htm,hhb⟩:=hrel
   have HP:=zY hp
   have HSx:=zY hsx
   have HCl:=zY hcl
   have HSl:=zY hst
   have HTl:=zY htl
   have HHl:=zY hhl
   have HTm:=zY htm
   have HHb:=zY hhb
   have HTb:Hid (∀x∈T,x.path.size<=1000000):=zY (fun x hx=>by
    obtain⟨y,hy,hxy⟩:=htm x hx
    exact((Hs.out y hy).ok x hxy).path)
   clear hp hsx hcl hst htl hhl htm hhb
   obtain⟨wi,rfl⟩:∃x,x=wr:=⟨_,rfl⟩
   obtain⟨Ac,cc,rfl,_,_⟩:=HP.out.sq.c.slice
   obtain⟨At,ct,rfl,_,_⟩:=HP.out.sq.t.slice
   obtain⟨Ah,ch,rfl,_,_⟩:=HP.out.sq.h.slice
   have s3:=HSx.out.c 3
   by_cases hj2:j<ne
   {
   have hjI:(j:Int)<ne:=by omega
   obtain⟨x,hx⟩:∃x,ents[j]?=some x:=⟨_,List.getElem?_eq_getElem (by rw[Hne.out];exact hj2)⟩
   have Hem:Hid (x∈(⟨num,date,prev,ents,str,sig⟩:Ses).ents):=zY (List.mem_of_getElem? hx)
   have Heb:=zY (HOx.out.ok x (List.mem_of_getElem? hx))
   have HNi:Hid (entN (L.take i)+j+1<=500):=zY (by have:=HNe.out;have:=HNx.out;omega)
   obtain⟨_,_,e9,_,_,h4⟩:=HVe.out
   rw[Hne.out]at e9
   cases e9
   obtain⟨b2,o2,cs,rfl,⟨va,vx,rfl,ra,rx⟩,hc⟩:=h4 j x hx
   have HRa:=zY ra
   have HRx:=zY rx
   obtain⟨Aa,ca,rfl,_,_⟩:=ra.slice
   obtain⟨Ax,cx,rfl,_,_⟩:=rx.slice
   obtain⟨k,path,attrs,tgt,size,dig,exts⟩:=x
   dsimp only at hc HRa HRx
   generalize hna:attrs.length=na at *
   generalize hnx:exts.length=nx at *
   have Hna:=zY hna
   have Hnx:=zY hnx
   have e0:wi.cell? ⟨b2,o2+j*7,none⟩=some (.int .i64 k):=cell_below HP.out.bl (hc 0 _ rfl)
   have e1:wi.cell? ⟨b2,o2+j*7+1,none⟩=some (.string path):=cell_below HP.out.bl (hc 1 _ rfl)
   have e2:wi.cell? ⟨b2,o2+j*7+2,none⟩=some (.slice Aa na ca):=cell_below HP.out.bl (hc 2 _ rfl)
   have e3:wi.cell? ⟨b2,o2+j*7+3,none⟩=some (.string tgt):=cell_below HP.out.bl (hc 3 _ rfl)
   have e4:wi.cell? ⟨b2,o2+j*7+4,none⟩=some (.int .i64 size):=cell_below HP.out.bl (hc 4 _ rfl)
   have e5:wi.cell? ⟨b2,o2+j*7+5,none⟩=some (.string dig):=cell_below HP.out.bl (hc 5 _ rfl)
   have e6:wi.cell? ⟨b2,o2+j*7+6,none⟩=some (.slice Ax nx cx):=cell_below HP.out.bl (hc 6 _ rfl)
   clear hc h4 hx ra rx hna hnx
   have hE:=Blk.new wi 182 [.int .i64 k,.string path,.slice Aa na ca,.string tgt,.int .i64 size,.string dig,.slice Ax nx cx]
   change Blk (wi.alloc (.cells #[.int .i64 k,.string path,.slice Aa na ca,.string tgt,.int .i64 size,.string dig,.slice Ax nx cx] 182)) _ _ _ at hE
   have HEj:=zY hE
   have HBj:=zY (zBl wi (.cells #[.int .i64 k,.string path,.slice Aa na ca,.string tgt,.int .i64 size,.string dig,.slice Ax nx cx] 182))
   have HPj:=zY (HP.out.below HBj.out)
   have HSj:=zY (HSx.out.kept HBj.out)
   have HGe:Hid (wi.heap.size≠w.heap.size+2):=zY (by have:=HP.out.dr.lt;omega)
   clear hE
   go_upto_region 12 with fail
   clear e0 e1 e2 e3 e4 e5 e6 s3
   generalize wi.alloc (.cells #[.int .i64 k,.string path,.slice Aa na ca,.string tgt,.int .i64 size,.string dig,.slice Ax nx cx] 182)=wj at *
   generalize wi.heap.size=ge at *
   clear HP HSx HBj
   have g0:=HEj.out.c 0
   by_cases hk:k=1
   {
   have fk:(k==1)=true:=by rw[beq_iff_eq];exact hk
   clear hk
   have g6:=HEj.out.c 6
   have HGt:=zY (get35_any wj (.slice Al L.length cl) (.slice Ax nx cx) (L.map (·.str)) exts (HPj.out.ls.at HPj.out.bl) (HRx.out.below HPj.out.bl) (fun s hs=>by
    obtain⟨y,hy,rfl⟩:=List.mem_map.1 hs
    have:=(Hs.out y hy).str
    omega))
   go_wp2_with fail
   refine HGt.out.mono ?_
   rintro e3 w3 ⟨⟨content,n3,rfl,hz3⟩,hb3⟩
   have HP3:=zY (HPj.out.below hb3)
   have HE3:=zY (HEj.out.kept hb3)
   have HS3:=zY (HSj.out.kept hb3)
   clear hb3 HGt HPj HEj HSj g0 g6
   have HPu:=zY (put35_any w3 (.slice Ac C.length cc) C sn st content HP3.out.sq.c (by have:=HCl.out;have:=HNi.out;omega) (by have:=HSl.out;have:=HNi.out;omega) (by omega))
   have d4:=HP3.out.dr.c 4
   have d5:=HP3.out.dr.c 5
   have d6:=HP3.out.dr.c 6
   go_wp2_with fail
   refine HPu.out.mono ?_
   rintro e4 w4 ⟨⟨vc4,vx4,C4,st4,l4,n4,rfl,hc4,hx4,hl4,hs4,_⟩,hb4⟩
   have HP4:=zY (HP3.out.below hb4)
   have HE4:=zY (HE3.out.kept hb4)
   have HS4:=zY (HS3.out.kept hb4)
   have HC4:=zY hc4
   have HL4:Hid (C4.length<=C.length+65536):=zY (by omega)
   have HSz4:Hid (st4.size<=st.size+65536):=zY (by omega)
   obtain⟨Ax4,cx4,rfl,_,_⟩:=hx4.slice
   clear hb4 hc4 hx4 hl4 hs4 d4 d5 d6 HPu HP3 HE3 HS3 hz3
   obtain⟨A4,c4,rfl,_,_⟩:=HC4.out.slice
   have d4:=HP4.out.dr.c 4
   have d5:=HP4.out.dr.c 5
   have d6:=HP4.out.dr.c 6
   have y4:=HP4.out.dr.frozen 4
   have y5:=HP4.out.dr.frozen 5
   have y6:=HP4.out.dr.frozen 6
   have HPt:=zY (HP4.out.set 4 [.slice A4 C4.length c4,.int .i64 sn,.string st4] rfl ⟨SeqAt.nil _,HC4.out,HP4.out.sq.t,HP4.out.sq.h⟩)
   have HEt:=zY (HE4.out.grownN (grown_setAll (w.heap.size+2) [.slice A4 C4.length c4,.int .i64 sn,.string st4] w4 4) HGe.out)
   have HSt:=zY (HS4.out.grownN (grown_setAll (w.heap.size+2) [.slice A4 C4.length c4,.int .i64 sn,.string st4] w4 4) HGs.out)
   go_upto_region 15 with fail
   obtain⟨wt,hwt⟩:=zNm (setAll w4 (w.heap.size+2) 4 [.slice A4 C4.length c4,.int .i64 sn,.string st4])
   rw[hwt]at HPt HEt HSt
   change ((w4.setCell ⟨w.heap.size+2,4,none⟩ (.slice A4 C4.length c4)).setCell ⟨w.heap.size+2,5,none⟩ (.int .i64 sn)).setCell ⟨w.heap.size+2,6,none⟩ (.string st4)=wt at hwt
   rw[hwt]
   clear hwt d4 d5 d6 y4 y5 y6 HP4 HE4 HS4
   have HA:=zY (apply37_any wt (.slice At T.length ct) (.slice Aa na ca) (.slice Ax nx cx) T ⟨k,path,attrs,tgt,size,dig,exts⟩ HPt.out.sq.t (HRa.out.below HPt.out.bl) (HRx.out.below HPt.out.bl) (by have:=HTl.out;have:=HNi.out;omega) (fun x hx=>(HTb.out x hx)) Heb.out.path Heb.out.tgt (fun a ha=>(Heb.out.kv a ha).1) Heb.out.exn)
   rw[entV]at HA
   dsimp only at HA
   have t7:=HPt.out.dr.c 7
   have g0:=HEt.out.c 0
   have g1:=HEt.out.c 1
   have g2:=HEt.out.c 2
   have g3:=HEt.out.c 3
   have g4:=HEt.out.c 4
   have g5:=HEt.out.c 5
   have g6:=HEt.out.c 6
   go_wp2_with fail
   refine HA.out.mono ?_
   rintro r5 w5 ⟨⟨v5,m5,n5,rfl,hm5,hl5,hx5⟩,hb5⟩
   have HQ5:=zY (HPt.out.below hb5)
   have HE5:=zY (HEt.out.kept hb5)
   have HS5:=zY (HSt.out.kept hb5)
   have HM5:=zY hm5
   have HL5:=zY hl5
   have HX5:=zY hx5
   clear hm5 hl5 hx5 t7 g0 g1 g2 g3 g4 g5 g6 HA hb5
   obtain⟨A5,c5,rfl,_,_⟩:=HM5.out.slice
   have t7:=HQ5.out.dr.c 7
   have y7:=HQ5.out.dr.frozen 7
   have HQ6:=zY (HQ5.out.set 7 [.slice A5 m5.length c5] rfl ⟨SeqAt.nil _,HQ5.out.sq.c,HM5.out,HQ5.out.sq.h⟩)
   have HE6:=zY (HE5.out.far (p:=⟨w.heap.size+2,7,none⟩) (HGe.out) (.slice A5 m5.length c5))
   have HS6:=zY (HS5.out.far (p:=⟨w.heap.size+2,7,none⟩) (HGs.out) (.slice A5 m5.length c5))
   go_upto_region 16 with fail
   obtain⟨wu,hwu⟩:=zNm (setAll w5 (w.heap.size+2) 7 [.slice A5 m5.length c5])
   change w5.setCell ⟨w.heap.size+2,7,none⟩ (.slice A5 m5.length c5)=wu at hwu
   change Hid (StI w (w5.setCell ⟨w.heap.size+2,7,none⟩ (.slice A5 m5.length c5)) _ _ _ _ _ _ _ _ _ _ _)at HQ6
   rw[hwu]at HQ6 HE6 HS6⊢
   clear hwu t7 y7 HQ5 HE5 HS5
   have HB:=zY (apply38_any wu (.slice Ah H.length ch) H 1000000 (Nat.le_refl _) HQ6.out.sq.h (by have:=HHl.out;have:=HNi.out;omega) HHb.out k path tgt dig Aa Ax na ca nx cx size Heb.out.path Heb.out.tgt date)
   have t8:=HQ6.out.dr.c 8
   have g0:=HE6.out.c 0
   have g1:=HE6.out.c 1
   have g2:=HE6.out.c 2
   have g3:=HE6.out.c 3
   have g4:=HE6.out.c 4
   have g5:=HE6.out.c 5
   have g6:=HE6.out.c 6
   have s1:=HS6.out.c 1
   go_wp2_with fail
   refine HB.out.mono ?_
   rintro r6 w6 ⟨⟨v6,m6,n6,rfl,hm6,hl6,hx6⟩,hb6⟩
   have HQ7:=zY (HQ6.out.below hb6)
   have HS7:=zY (HS6.out.kept hb6)
   have HM6:=zY hm6
   have HL6:=zY hl6
   have HX6:=zY hx6
   clear hm6 hl6 hx6 t8 g0 g1 g2 g3 g4 g5 g6 s1 HB hb6
   obtain⟨A6,c6,rfl,_,_⟩:=HM6.out.slice
   have t8:=HQ7.out.dr.c 8
   have y8:=HQ7.out.dr.frozen 8
   have HQ8:=zY (HQ7.out.set 8 [.slice A6 m6.length c6] rfl ⟨SeqAt.nil _,HQ7.out.sq.c,HQ7.out.sq.t,HM6.out⟩)
   have HS8:=zY (HS7.out.far (p:=⟨w.heap.size+2,8,none⟩) (HGs.out) (.slice A6 m6.length c6))
   go_wp2
   go_roundw
   case rel=>exact⟨j+1,_,_,_,C4,sn,st4,m5,m6,by omega,by go_num,HQ8.out,HS8.out,by have:=HCl.out;have:=HL4.out;omega,by have:=HSl.out;have:=HSz4.out;omega,by have:=HTl.out;have:=HL5.out;omega,by have:=HHl.out;have:=HL6.out;omega,fun y hy=>by
    rcases HX5.out y hy with rfl|hy
    ·exact⟨_,Hxm.out,Hem.out⟩
    ·exact HTm.out y hy,HX6.out⟩
   case measure=>simp[intOf];omega}
   {
   have fk:(k==1)=false:=by rw[beq_eq_false_iff_ne];exact hk
   clear hk
   go_upto_region 15 with fail
   clear g0
   have HA:=zY (apply37_any wj (.slice At T.length ct) (.slice Aa na ca) (.slice Ax nx cx) T ⟨k,path,attrs,tgt,size,dig,exts⟩ HPj.out.sq.t (HRa.out.below HPj.out.bl) (HRx.out.below HPj.out.bl) (by have:=HTl.out;have:=HNi.out;omega) (fun x hx=>(HTb.out x hx)) Heb.out.path Heb.out.tgt (fun a ha=>(Heb.out.kv a ha).1) Heb.out.exn)
   rw[entV]at HA
   dsimp only at HA
   have t7:=HPj.out.dr.c 7
   have g0:=HEj.out.c 0
   have g1:=HEj.out.c 1
   have g2:=HEj.out.c 2
   have g3:=HEj.out.c 3
   have g4:=HEj.out.c 4
   have g5:=HEj.out.c 5
   have g6:=HEj.out.c 6
   go_wp2_with fail
   refine HA.out.mono ?_
   rintro r5 w5 ⟨⟨v5,m5,n5,rfl,hm5,hl5,hx5⟩,hb5⟩
   have HQ5:=zY (HPj.out.below hb5)
   have HE5:=zY (HEj.out.kept hb5)
   have HS5:=zY (HSj.out.kept hb5)
   have HM5:=zY hm5
   have HL5:=zY hl5
   have HX5:=zY hx5
   clear hm5 hl5 hx5 t7 g0 g1 g2 g3 g4 g5 g6 HA hb5
   obtain⟨A5,c5,rfl,_,_⟩:=HM5.out.slice
   have t7:=HQ5.out.dr.c 7
   have y7:=HQ5.out.dr.frozen 7
   have HQ6:=zY (HQ5.out.set 7 [.slice A5 m5.length c5] rfl ⟨SeqAt.nil _,HQ5.out.sq.c,HM5.out,HQ5.out.sq.h⟩)
   have HE6:=zY (HE5.out.far (p:=⟨w.heap.size+2,7,none⟩) (HGe.out) (.slice A5 m5.length c5))
   have HS6:=zY (HS5.out.far (p:=⟨w.heap.size+2,7,none⟩) (HGs.out) (.slice A5 m5.length c5))
   go_upto_region 16 with fail
   obtain⟨wu,hwu⟩:=zNm (setAll w5 (w.heap.size+2) 7 [.slice A5 m5.length c5])
   change w5.setCell ⟨w.heap.size+2,7,none⟩ (.slice A5 m5.length c5)=wu at hwu
   change Hid (StI w (w5.setCell ⟨w.heap.size+2,7,none⟩ (.slice A5 m5.length c5)) _ _ _ _ _ _ _ _ _ _ _)at HQ6
   rw[hwu]at HQ6 HE6 HS6⊢
   clear hwu t7 y7 HQ5 HE5 HS5
   have HB:=zY (apply38_any wu (.slice Ah H.length ch) H 1000000 (Nat.le_refl _) HQ6.out.sq.h (by have:=HHl.out;have:=HNi.out;omega) HHb.out k path tgt dig Aa Ax na ca nx cx size Heb.out.path Heb.out.tgt date)
   have t8:=HQ6.out.dr.c 8
   have g0:=HE6.out.c 0
   have g1:=HE6.out.c 1
   have g2:=HE6.out.c 2
   have g3:=HE6.out.c 3
   have g4:=HE6.out.c 4
   have g5:=HE6.out.c 5
   have g6:=HE6.out.c 6
   have s1:=HS6.out.c 1
   go_wp2_with fail
   refine HB.out.mono ?_
   rintro r6 w6 ⟨⟨v6,m6,n6,rfl,hm6,hl6,hx6⟩,hb6⟩
   have HQ7:=zY (HQ6.out.below hb6)
   have HS7:=zY (HS6.out.kept hb6)
   have HM6:=zY hm6
   have HL6:=zY hl6
   have HX6:=zY hx6
   clear hm6 hl6 hx6 t8 g0 g1 g2 g3 g4 g5 g6 s1 HB hb6
   obtain⟨A6,c6,rfl,_,_⟩:=HM6.out.slice
   have t8:=HQ7.out.dr.c 8
   have y8:=HQ7.out.dr.frozen 8
   have HQ8:=zY (HQ7.out.set 8 [.slice A6 m6.length c6] rfl ⟨SeqAt.nil _,HQ7.out.sq.c,HQ7.out.sq.t,HM6.out⟩)
   have HS8:=zY (HS7.out.far (p:=⟨w.heap.size+2,8,none⟩) (HGs.out) (.slice A6 m6.length c6))
   go_wp2
   go_roundw
   case rel=>exact⟨j+1,_,_,_,C,sn,st,m5,m6,by omega,by go_num,HQ8.out,HS8.out,by have:=HCl.out;omega,by have:=HSl.out;omega,by have:=HTl.out;have:=HL5.out;omega,by have:=HHl.out;have:=HL6.out;omega,fun y hy=>by
    rcases HX5.out y hy with rfl|hy
    ·exact⟨_,Hxm.out,Hem.out⟩
    ·exact HTm.out y hy,HX6.out⟩
   case measure=>simp[intOf];omega}}
   {
   obtain rfl:j=ne:=by omega
   have hjI:¬((j:Nat):Int)<(j:Int):=by omega
   go_wp2
   go_roundw
   case rel=>exact⟨i+1,_,_,_,C,sn,st,T,H,by omega,by go_num,HP.out,by rw[HNx.out];exact HCl.out,by rw[HNx.out];exact HSl.out,by rw[HNx.out];exact HTl.out,by rw[HNx.out];exact HHl.out,HTm.out,HHb.out⟩
   case measure=>simp[intOf];omega}}
  {
  obtain rfl:i=L.length:=by omega
  have hiI:¬((L.length:Nat):Int)<(L.length:Int):=by omega
  rw[List.take_length]at HCl HSl HTl HHl
  have d0:=HP.out.dr.c 0
  have d1:=HP.out.dr.c 1
  have d2:=HP.out.dr.c 2
  have d3:=HP.out.dr.c 3
  have d4:=HP.out.dr.c 4
  have d5:=HP.out.dr.c 5
  have d6:=HP.out.dr.c 6
  have d7:=HP.out.dr.c 7
  have d8:=HP.out.dr.c 8
  have z0:=HP.out.rs.c 0
  have z1:=HP.out.rs.c 1
  have z2:=HP.out.rs.c 2
  have z3:=HP.out.rs.c 3
  have z4:=HP.out.rs.c 4
  have z5:=HP.out.rs.c 5
  have z6:=HP.out.rs.c 6
  have z7:=HP.out.rs.c 7
  have z8:=HP.out.rs.c 8
  have y0:=HP.out.rs.frozen 0
  have y1:=HP.out.rs.frozen 1
  have y2:=HP.out.rs.frozen 2
  have y3:=HP.out.rs.frozen 3
  have y4:=HP.out.rs.frozen 4
  have y5:=HP.out.rs.frozen 5
  have y6:=HP.out.rs.frozen 6
  have y7:=HP.out.rs.frozen 7
  have y8:=HP.out.rs.frozen 8
  have HW:=zY (HP.out.rs.setAll (i:=0) [.int .i64 0,.int .i64 0,.string ⟨#[]⟩,.slice none 0 0,.slice Ac C.length cc,.int .i64 sn,.string st,.slice At T.length ct,.slice Ah H.length ch])
  have HBw:=zY (below_setAll (g:=w.heap.size+1) (by omega) [.int .i64 0,.int .i64 0,.string ⟨#[]⟩,.slice none 0 0,.slice Ac C.length cc,.int .i64 sn,.string st,.slice At T.length ct,.slice Ah H.length ch] wx 0 HP.out.bl)
  have HDw:=zY (HP.out.sq.box HP.out.rs (grown_setAll (w.heap.size+1) [.int .i64 0,.int .i64 0,.string ⟨#[]⟩,.slice none 0 0,.slice Ac C.length cc,.int .i64 sn,.string st,.slice At T.length ct,.slice Ah H.length ch] wx 0) rfl)
  go_wp2_with fail
  refine bodyPost_ret (results_cell_row rfl _ _ (w.heap.size+1) 163 _ (0,0) _ rfl HW.out Tryz.underlying163 rfl (by kernel_rfl)) rfl ?_
  exact⟨⟨_,_,_,C,sn,st,T,H,rfl,HDw.out,HCl.out,HSl.out,HTl.out,HHl.out,HTm.out,HHb.out⟩,HBw.out⟩}
end
section
open Go.RowKit Go.Shelf
attribute [local go_sem] Oper.semAt_some
theorem Bld.moved {A B:World} {K b:Nat} {l:List Nat} (h:Bld A K b l) (hc:∀(k:Nat) (o:Obj),A.heap[k]?=some o->o.isCells=true->B.heap[k]?=some o):Bld B K b l:=by
 have key:∀p,Lib.BuilderAtF 135 5 K b p (l.map u8V) A->Lib.BuilderAtF 135 5 K b p (l.map u8V) B:=by
  rintro p ⟨hB,v,hb,hown,hne⟩
  refine⟨hB,v,hc _ _ hb rfl,⟨hown.1,?_⟩,hne⟩
  rcases hown.2 with hn|⟨g,cap,cur,fz,hv,hbg,hg,rest⟩
  ·exact .inl hn
  ·exact .inr ⟨g,cap,cur,fz,hv,hbg,hc _ _ hg rfl,rest⟩
 exact Or.elim h (fun x=>.inl (key _ x)) (fun x=>.inr (key _ x))
attribute [local go_sem] Oper.semAt_some
end
section
open Go.RowKit
def fencR (k r s i l d p a:Int) (t:ByteArray):Value:=
 if frE k r s i l d p t≠0 then .tuple #[.string ⟨#[]⟩,.int .i64 (frE k r s i l d p t)]
 else .tuple #[.string (markS++strB (bodyL (marL k.toNat r.toNat s.toNat i.toNat l.toNat d.toNat p.toNat a.toNat t))),.int .i64 0]
def stepS (m:List Nat):Nat->ByteArray
 |0=>strB m
 |1=>strB (rsEnc m)
 |2=>strB (frmB (rsEnc m))
 |3=>strB (cellL m)
 |_=>strB (bodyL m)
def markL:List Nat:=bs markS
theorem markL_eq:markL=[49,49,49,49,49,48,48,49,49,48,49,48,49,48,48,48]:=by decide
def mt (l:List Nat) (k:Nat):Nat->Nat
 |0=>0
 |i+1=>mt l k i+if cf l (k+i)=cf markL i then 1 else 0
def hit (l:List Nat) (k:Nat):Bool:=decide (14<=mt l k 16)
structure Frm where
 k:Int
 r:Int
 s:Int
 i:Int
 l:Int
 d:Int
 p:Int
 a:Int
 t:ByteArray
def Frm.v (f:Frm):Value:=frV f.k f.r f.s f.i f.l f.d f.p f.a f.t
def Frm.cells (f:Frm):List Value:=[.int .i64 f.k,.int .i64 f.r,.int .i64 f.s,.int .i64 f.i,.int .i64 f.l,.int .i64 f.d,.int .i64 f.p,.int .u32 f.a,.string f.t]
theorem markL_len:markL.length=16:=by rw[markL_eq];rfl
theorem markL_01:B01 markL:=by rw[markL_eq];decide
theorem b01_bytes {l:List Nat} (h:B01 l):Bytes l:=fun x hx=>by rcases h x hx with rfl|rfl<;>decide
theorem bytes_app {l r:List Nat} (h:Bytes l) (k:Bytes r):Bytes (l++r):=fun x hx=>by
 rcases List.mem_append.1 hx with hx|hx
 ·exact h x hx
 ·exact k x hx
theorem mark_cat (m:List Nat):markS++strB (bodyL m)=strB (markL++bodyL m):=by
 conv=>lhs;rw[<-strB_bs markS,strB_cat]
 rfl
def flatCl (ms:List (List Nat)):List Nat:=ms.flatMap fun m=>markL++bodyL m
theorem flatC_len (ms:List (List Nat)):(flatCl ms).length=852*ms.length:=by
 induction ms with
 |nil=>rfl
 |cons m r ih=>
  unfold flatCl at ih⊢
  rw[List.flatMap_cons,List.length_append,ih,List.length_append,markL_len,bodyL_len,List.length_cons]
  omega
theorem flatC_app (a b:List (List Nat)):flatCl (a++b)=flatCl a++flatCl b:=by unfold flatCl;rw[List.flatMap_append]
theorem flatC_bytes {ms:List (List Nat)} (h:∀m∈ms,Bytes m/\m.length=44):Bytes (flatCl ms):=fun x hx=>by
 unfold flatCl at hx
 obtain⟨m,hm,hx⟩:=List.mem_flatMap.1 hx
 obtain⟨h1,h2⟩:=h m hm
 exact bytes_app (b01_bytes markL_01) (bodyL_bytes h1 h2) x hx
end
end Go.Proofs.YthgenkkkapilhaaGreatDoor
namespace Go.Proofs.YthgenkkkapilhaaGreatDoor.rangeStr
section
open Go.RowKit Go.Proofs.YthgenkkkapilhaaGreatDoor.rangeOwn
theorem wpIn_rangeFunc_str {α:Type} {P:Program} {g:Operand} {ps:Array Tmp} {assign body:Code} {Q:Exit->Act->World->Prop} {a:Act} {w:World}
  {gf:Nat} {lb:Array Value} (hg:a.eval g=.func (.func gf) #[] lb) (eg:∀args w,(callFunc gf args).run P w=.ok (.enter gf args) w)
  {Rd:α->Array Value->World->Prop} {old:Nat->Prop} {xs:List α} (hseq:IterStr P gf lb Rd old xs w)
  (hps:∀x args W,Rd x args W->args.size=ps.size) (hRd:∀x args A B,Rd x args A->rangeOwn.Aside No w.heap.size A B->Rd x args B)
  (I:List α->World->Prop) (hI:∀s A B,I s A->w.heap.size<=A.heap.size->rangeOwn.Aside No w.heap.size A B->I s B) (h0:I [] w) (a₁:Array Value->Act)
  (hassign:∀(l:Nat) (x:α) (args:Array Value) (W:World) (K:Act->World->Prop),Rd x args W->K (a₁ args) W ->
   assign.wpIn (Fence.wide.inRound l) 0 P (Exit.then K (fun _ _ _=>False)) { tmps:=(ps.zip args).foldl (fun t (p,v)=>t.setIfInBounds p v) a.tmps,defers:=[] } W)
  (hbody:∀(l:Nat) (pre:List α) (x:α) (args:Array Value) (W:World),w.heap.size+2<=W.heap.size->I pre W->Rd x args W->(pre++[x]) <+: xs ->
   body.wpIn (Fence.wide.inRound l) 0 P (goesOn old I (pre++[x]) W) (a₁ args) W)
  (hdone:∀(D:Nat) (W:World),w.heap.size<=D->I xs W->W.heap[D]?=some (.deferred (some []))->Q .normal { a with defers:={ target:=.collected D,args:= #[] }::a.defers } W):
  (Code.rangeFunc g ps assign body).wpIn Fence.wide 0 P Q a w:=by
 refine wpIn_rangeFunc ?_
 intro fn _
 obtain⟨rec,hrec⟩:∃rec:LoopState->Option Code->Loop,rec=fun st pe=>{ state:=st,pending:=pe,fn,tmps:=a.tmps,params:=ps,assign,body,defers:=w.heap.size }:=⟨_,rfl⟩
 obtain⟨W1,hW1⟩:=zNm ((w.alloc (.deferred (some []))).alloc (.loop (rec .ready none)))
 have hs1:W1.heap.size=w.heap.size+2:=by rw[<-hW1];simp
 have hL1:W1.heap[w.heap.size+1]?=some (.loop (rec .ready none)):=by
  rw[<-hW1];have:=World.alloc_heap_new (w.alloc (.deferred (some []))) (.loop (rec .ready none));rwa [World.size_alloc]at this
 have hK1:W1.heap[w.heap.size]?=some (.deferred (some [])):=by
  rw[<-hW1];exact(Below.heap_alloc _ _ _ (by simp)).trans (World.alloc_heap_new w _)
 have hb1:Below w.heap.size w W1:=by rw[<-hW1];exact((Below.refl _ w).alloc (Nat.le_refl _) _).alloc (by simp) _
 have hI1:I [] W1:=hI _ _ _ h0 (Nat.le_refl _) (rangeOwn.Aside.of_below hb1 (Nat.le_refl _))
 refine⟨w.heap.size+1,[{ target:=.collected w.heap.size,args:= #[] }],W1,{ target:=.fn (.func gf) lb,args:= #[.func (.yield (w.heap.size+1)) #[] #[]] },W1,gf,
  #[.func (.yield (w.heap.size + 1)) #[] #[]] ++ lb, W1, ?_, ?_, fun _ _ => trivial, ?_, (fun h => by cases h), ?_⟩
 ·rw[<-hW1,hrec];exact run_enterLoop_outer _ _ _ _ _
 {
 simp only[resolve,hg]
 simp[go_sem]}
 ·simp[invoke,go_sem,eg]
 {
 refine(hseq (w.heap.size+1)
  (fun pre W=>w.heap.size+2<=W.heap.size/\I pre W/\W.heap[w.heap.size+1]?=some (.loop (rec .ready none))/\W.heap[w.heap.size]?=some (.deferred (some [])))
  W1 hb1 (fun s A B hs hsz hAB=>⟨Nat.le_trans hs.1 hAB.size,hI _ _ _ hs.2.1 (by omega) (hAB.mono (by omega)),(hAB.low _ (by omega) (fun h=>h)).trans hs.2.2.1,(hAB.low _ (by omega) (fun h=>h)).trans hs.2.2.2⟩)
  ?_ ⟨by omega,hI1,hL1,hK1⟩).mono ?_
 {
 rintro pre x args W ⟨hsz,hi,hl,hk⟩ hrd hpre
 have hy:=run_yield (P:=P) (args:=args) hl (by rw[hrec];exact hps x args W hrd)
 rw[hrec]at hy
 refine⟨fn,_,assign,body,hy,roundIn_of_wpIn trivial (hassign _ x args W _ hrd ⟨_,run_beginRound hl (by rw[hrec]),?_⟩)⟩
 obtain⟨W2,hW2⟩:=zNm (W.putObj (w.heap.size+1) (.loop { rec .ready none with state:=.busy }))
 have hA2:rangeOwn.Aside No w.heap.size W W2:=by rw[<-hW2];exact rangeOwn.Aside.putObj _ (by omega) hl rfl
 have hl2:W2.heap[w.heap.size+1]?=some (.loop { rec .ready none with state:=.busy }):=by rw[<-hW2];exact World.putObj_heap_same (by omega)
 have hk2:W2.heap[w.heap.size]?=some (.deferred (some [])):=by rw[<-hW2];exact(World.putObj_heap_other (by omega)).trans hk
 have hs2:W2.heap.size=W.heap.size:=by rw[<-hW2];simp
 rw[hW2]
 refine wpIn_mono (hbody _ pre x args W2 (by omega) (hI _ _ _ hi (by omega) hA2) (hRd _ _ _ _ hrd hA2) hpre) ?_
 rintro e a3 W3 hp
 cases e with
 |normal=>
  obtain⟨hk3,hi3⟩:=hp
  have hl3:W3.heap[w.heap.size+1]?=some (.loop { rec .ready none with state:=.busy }):=hk3.2 _ _ hl2 (.inl rfl)
  have hd3:W3.heap[w.heap.size]?=some (.deferred (some [])):=hk3.2 _ _ hk2 (.inl rfl)
  have hs3:=hk3.1
  have hr:=run_endRound (P:=P) none hl3
  rw[hrec]at hr
  have hA4:rangeOwn.Aside No w.heap.size W3 (W3.putObj (w.heap.size+1) (.loop (rec .ready none))):=rangeOwn.Aside.putObj _ (by omega) hl3 rfl
  rw[hrec]at hA4
  refine⟨_,_,hr,rfl,⟨by simp;omega,hI _ _ _ hi3 (by omega) hA4,?_,?_⟩,by simp;omega,fun k o hko hkS=>?_⟩
  ·rw[hrec];exact World.putObj_heap_same (by omega)
  ·exact(World.putObj_heap_other (by omega)).trans hd3
  {
  by_cases hkne:k=w.heap.size+1
  {
  subst hkne
  rw[hl]at hko
  rw[<-hko,hrec]
  exact World.putObj_heap_same (by omega)}
  {
  refine(World.putObj_heap_other hkne).trans (hk3.2 k o ?_ hkS)
  rw[<-hW2]
  exact(World.putObj_heap_other hkne).trans hko}}
 |_=>exact hp.elim}
 {
 rintro e W2 ⟨⟨v,rfl⟩,hsz,hi,hl,hk⟩
 refine⟨none,_,by have:=run_endLoop (P:=P) hl (by rw[hrec];simp);rw[hrec]at this;exact this,hdone _ _ (Nat.le_refl _) (hI _ _ _ hi (by omega) (rangeOwn.Aside.putObj _ (by omega) hl rfl)) ((World.putObj_heap_other (by omega)).trans hk)⟩
}}
end
end Go.Proofs.YthgenkkkapilhaaGreatDoor.rangeStr
