/- Texts, joined. -/
import Derived.Test.YthgenkkkapilhaaGreatDoorVTn23
import Derived.Test.YthgenkkkapilhaaGreatDoorVTn31
import Derived.Deep.Upon
set_option linter.all false
set_option maxRecDepth 100000
set_option maxHeartbeats 64000000
namespace Go.Proofs.YthgenkkkapilhaaGreatDoor
open Go.Proofs.Tryz
section
open Go.RowKit
structure Pln where
 a:Nat
 i:Nat
 t:Nat
 x:ByteArray
def Pln.cells (p:Pln):List Value:=[.int .u32 (p.a:Int),.int .i64 (p.i:Int),.int .i64 (p.t:Int),.string p.x]
def plnS:Shape Pln where
 n:=4
 R _ cs f:=cs=f.cells
 len h:=by rw[h];rfl
 one h u hu:=by
  rw[h]at hu
  simp only[Pln.cells,List.mem_cons,List.not_mem_nil,or_false]at hu
  rcases hu with rfl|rfl|rfl|rfl<;>rfl
 keep h _:=h
theorem flatP:Flat plnS:=fun _ _ _ _ h=>h
theorem Tryz.elemPln:Elem prog 59 124 4 40 (.agg #[.int .u32 0,.int .i64 0,.int .i64 0,.string ⟨#[]⟩]):=⟨underlying59,by kernel_rfl,rfl,by decide,by decide⟩
def plnT (s:ByteArray):Nat:=(s.size+63)/64
def padS (s:ByteArray):ByteArray:=s++strB (List.replicate (64*plnT s-s.size) 32)
def plnAt (a:Nat) (s:ByteArray) (i:Nat):Pln:=⟨a,i,plnT s,(padS s).extract (64*i) (64*i+64)⟩
def plnsL (a:Nat) (s:ByteArray):List Pln:=(List.range (plnT s)).map (plnAt a s)
def splitE (s:ByteArray):Int:=if 40000<s.size then 6 else if prtL (bs s)=false then 3 else 0
def splitR (a:Nat) (s:ByteArray):List Pln:=if splitE s=0 then plnsL a s else []
theorem padS_size (s:ByteArray):(padS s).size=64*plnT s:=by
 rw[padS,ByteArray.size_append,strB_size,List.length_replicate];unfold plnT;omega
theorem plsplit_any (w:World) (s:ByteArray) (a:Nat) (hs:s.size<=1000000):Calls prog 23 #[.string s,.int .u32 (a:Int)] w fun e w'=>(∃v,e=.returned (.tuple #[v,.int .i64 (splitE s)])/\OwnSeq plnS 124 w w' v (splitR a s))/\Below w.heap.size w w':=by
 have HP:=zY (fun W=>printable_any W s hs);obtain⟨n,hn⟩:=zNm (s.size);have hnI:(s.size:Int)=n:=by omega
 by_cases h1:40000<n;{
 have h1I:(40000:Int)<n:=by omega
 have he:splitE s=6:=by rw[splitE,if_pos (by omega)]
 have HR:Hid (splitR a s=[]):=zY (by rw[splitR,if_neg (by rw[he];decide)]);rw[he];clear hn he;go_enter func23,ntmps23;go_wp2;go_ret2;exact⟨⟨_,rfl,by rw[HR.out];exact OwnSeq.nil _⟩,Below.refl _ _⟩};{
 have h1I:¬(40000:Int)<n:=by omega
 obtain⟨b,hb⟩:=zNm (prtL (bs s));rw[hb]at HP;cases b with
 |false=>(
 have he:splitE s=3:=by rw[splitE,if_neg (by omega),if_pos hb]
 have HR:Hid (splitR a s=[]):=zY (by rw[splitR,if_neg (by rw[he];decide)]);rw[he];clear hn he hb;go_enter func23,ntmps23;go_wp2_with fail;refine(HP.out _).mono ?_;rintro e1 w1 ⟨rfl,rfl⟩;go_wp2;go_ret2;exact⟨⟨_,rfl,by rw[HR.out];exact OwnSeq.nil _⟩,Below.refl _ _⟩)
 |true=>
 have he:splitE s=0:=by rw[splitE,if_neg (by omega),if_neg (by rw[hb];decide)]
 obtain⟨t,ht⟩:=zNm (plnT s);have htn:t=(n+63)/64:=by rw[<-ht,plnT,hn]
 obtain⟨z,hz⟩:=zNm (64*t-n);have HR:Hid (splitR a s=(List.range t).map (plnAt a s)):=zY (by rw[splitR,if_pos he,plnsL,ht]);have HR2:=zY (fun W=>repeat_any W 32 z (by omega));have hcI:((32:UInt8).toNat)=32:=rfl;rw[hcI]at HR2;obtain⟨X,hX⟩:=zNm (padS s);obtain⟨Z,hZ⟩:=zNm (strB (List.replicate z 32));have hZz:Z.size=z:=by rw[<-hZ,strB_size,List.length_replicate]
 have hXz:X.size=64*t:=by rw[<-hX,padS_size,ht]
 have HX:Hid (s++Z=X):=zY (by rw[<-hX,padS,ht,hn,hz,hZ]);have HA:Hid (∀i,plnAt a s i=⟨a,i,t,X.extract (64*i) (64*i+64)⟩):=zY (fun i=>by rw[plnAt,ht,hX]);rw[hZ]at HR2;have hcc:¬9223372036854775807<s.size+Z.size:=by omega
 have g1:IntKind.i64.wrap ((n:Int)+64)=(n:Int)+64:=zIw (by omega);have g2:IntKind.i64.wrap ((n:Int)+64-1)=(n:Int)+63:=by rw[show (n:Int)+64-1=n+63 by omega];exact zIw (by omega)
 have g3:((n:Int)+63)/64=t:=by omega
 have g4:IntKind.i64.wrap (t:Int)=t:=zIw (by omega);have g5:IntKind.i64.wrap ((t:Int)*64)=(t:Int)*64:=zIw (by omega);have g6:IntKind.i64.wrap ((t:Int)*64-n)=z:=by rw[show (t:Int)*64-n=z by omega];exact zIw (by omega)
 have ht1:t<=626:=by omega
 have hXzI:(X.size:Int)=64*(t:Int):=by omega
 have HXz:=zY hXz;rw[he];clear hb he hn ht htn hz hX hZ hZz hcI hXz;go_enter func23,ntmps23;go_wp2_with fail;refine(HP.out _).mono ?_;rintro e1 w1 ⟨rfl,rfl⟩;go_upto_region 6 with fail;go_wp2_with fail;refine(HR2.out _).mono ?_;rintro e2 w2 ⟨rfl,hb2⟩;have HB2:=zY hb2;clear hb2;go_upto_region 7 with fail;rw[HX.out];clear hcc g1 g2 g3 g5 g6 HP HR2;go_wp2;go_loopw [7,31] (fun y x wr=>∃i:Nat,i<=t/\x=.int .i64 (i:Int)/\OwnSeq plnS 124 w2 wr y ((List.range i).map (plnAt a s))/\Below w2.heap.size w2 wr) (fun _ x _=>t-(intOf x).toNat);case atStart=>exact⟨0,by omega,rfl,OwnSeq.nil _,Below.refl _ _⟩
 case round=>
 obtain⟨i,hi,rfl,ho,hB⟩:=hrel;have HO:=zY ho;have HB:=zY hB;obtain⟨Ao,co,rfl⟩:=ho.slice;clear ho hB;by_cases h:i<t;{
 have hiI:(i:Int)<t:=by omega
 obtain⟨q,hq⟩:=zNm (64*i);have hqI:(i:Int)*64=q:=by omega
 have hqw:IntKind.i64.wrap ((i:Int)*64)=q:=by rw[hqI];exact zIw (by omega)
 have hi1:IntKind.i64.wrap ((i:Int)+1)=(i:Int)+1:=zIw (by omega);have hq2:IntKind.i64.wrap (((i:Int)+1)*64)=((q+64:Nat):Int):=by rw[show ((i:Int)+1)*64=((q+64:Nat):Int) by omega];exact zIw (by omega)
 have hq3:q+64<=X.size:=by have:=HXz.out;omega
 have hq4:((q+64:Nat):Int)<=X.size:=by omega
 have hq5:(q:Int)<=((q+64:Nat):Int):=by omega
 have hq0:(0:Int)<=q:=by omega
 obtain⟨T,hT⟩:=zNm (X.extract q (q+64));have HF:Hid ((List.range (i+1)).map (plnAt a s)=(List.range i).map (plnAt a s)++[⟨a,i,t,T⟩]):=zY (by rw[List.range_succ,List.map_append,List.map_singleton,HA.out,hq,hT]);have Hl1:Hid (((List.range i).map (plnAt a s)).length+1<=100000000):=zY (by simp;omega);generalize hno:((List.range i).map (plnAt a s)).length=no at *;have Hno:=zY hno;have Hl1:Hid (((List.range i).map (plnAt a s)).length+1<=100000000):=zY (by rw[hno];exact Hl1.out);have HX1:Hid (SrcAt plnS w2 (wr.alloc (.cells (Pln.cells ⟨a,i,t,T⟩).toArray 124)) (.slice (some ⟨wr.heap.size,0,none⟩) 1 1) [⟨a,i,t,T⟩]):=zY (src1 (ρ:=plnS) (wr:=wr) (Pln.cells ⟨a,i,t,T⟩) ⟨a,i,t,T⟩ rfl rfl);have HO1:=zY (HO.alloc (.cells (Pln.cells ⟨a,i,t,T⟩).toArray 124));have HB1:=zY (HB.alloc HB.size (.cells (Pln.cells ⟨a,i,t,T⟩).toArray 124));clear hno hq;go_wp2_with (at_builtin;refine append_seq (w0:=w2) Tryz.elemPln rfl _ _ rfl rfl HO1.out rfl HX1.out Hl1.out HB1.out ?_;intro vb w6 hob _ hbb;have KV:=zY hob;have KC:=zY hbb;clear hob hbb);go_roundw;case rel=>exact⟨i+1,by omega,by go_num,by rw[HF.out];exact KV.out,KC.out⟩
 case measure=>simp[intOf];omega};{
 obtain rfl:i=t:=by omega
 have hiI:¬((i:Nat):Int)<(i:Int):=by omega
 have hlen:((List.range i).map (plnAt a s)).length=i:=by simp
 rw[hlen]at HO;clear hlen;go_wp2;go_ret2;exact⟨⟨_,rfl,by rw[HR.out];exact HO.low flatP HB2.size⟩,HB2.trans (HB.mono HB2.size)⟩}}
end
end Go.Proofs.YthgenkkkapilhaaGreatDoor
namespace Go.Proofs.YthgenkkkapilhaaGreatDoor.rangeStr
open Go.Proofs.Tryz
section
open Go.RowKit
def noDefer (ops:Array Oper):Bool:=ops.all fun o=>match o.op with
 |.defer _=>false
 |_=>true
theorem noDefer_spec {ops:Array Oper} (h:noDefer ops=true) {i:Nat} {o:Oper} (ho:ops[i]?=some o):∀c,o.op≠.defer c:=by
 intro c hc;have h2:=(Array.all_eq_true_iff_forall_mem.1 h) o (Array.mem_of_getElem? ho);rw[hc]at h2;cases h2
theorem wpIn_of_wp {P:Program} {o:Oper} {a:Act} {w:World} {K:Act->World->Prop} {Q:Exit->Act->World->Prop} {l:Nat} (hd:∀c,o.op≠.defer c) (h:o.wp P a w K Q):o.wpIn (Fence.wide.inRound l) 0 P a w K Q:=by
 refine⟨fun _ _=>trivial,?_⟩;rw[Fence.inRound_round,Oper.semAt_some l _ _ hd];unfold Oper.wp at h;generalize (execOp a.eval o).run P w=r at *;cases r with
 |ok x w'=>(
 cases x<;>simp only[Oper.upon]at h<;>simp only[Oper.uponIn];case value v=>exact h
 case skip=>exact h
 case defer d=>exact h
 case enter f args=>exact⟨fun h=>(by cases h),CallsIn.inRound l (callsIn_wide.2 h)⟩
 case row row args=>exact⟨fun h=>(by cases h),fun c cs _=>let ⟨v,w',r,s⟩:=h c cs;⟨v,w',r,stepsIn_wide.2 s⟩⟩)
 |halt x w'=>cases x<;>simp only[Oper.upon]at h<;>simp only[Oper.uponIn]<;>exact h
theorem wpOpIn_of_wpOp {P:Program} {ops:Array Oper} {i:Nat} {a:Act} {w:World} {K:Act->World->Prop} {Q:Exit->Act->World->Prop} {l:Nat} (hd:noDefer ops=true) (hQ:∀a w,¬Q .outgrown a w) (h:wpOp P ops Q i K a w):wpOpIn (Fence.wide.inRound l) 0 P ops Q i K a w:=by
 unfold wpOp at h;unfold wpOpIn;split;{
 rename_i h0
 simp only[h0]at h;exact h};{
 rename_i o ho
 simp only[ho]at h;split;{
 rename_i hw
 simp only[hw,if_true]at h;rcases h with h|⟨_,a0,w0,h⟩;{exact wpIn_of_wp (noDefer_spec hd ho) h};{exact absurd h (hQ a0 w0)}};{
 rename_i hw
 simp only[hw]at h;exact⟨fun _ _=>trivial,h⟩}}
theorem wpAnyIn_of_wpAny {P:Program} {ops:Array Oper} {Q:Exit->Act->World->Prop} {md:Region.Mode} {l:Nat} (hd:noDefer ops=true) (hQ:∀a w,¬Q .outgrown a w):∀(fuel:Nat) (listed:Array Bool) (a:Act) (w:World),wpAny P md ops Q fuel listed a w->wpAnyIn (Fence.wide.inRound l) 0 P md ops Q fuel listed a w
 |0,_,_,_,h=>h
 |fuel+1,_,_,_,h=>⟨h.1,fun i hi=>wpOpIn_of_wpOp hd hQ (wpOp_mono (fun a' w' h'=>wpAnyIn_of_wpAny hd hQ fuel _ a' w' h') (h.2 i hi))⟩
theorem wpIn_region_held {P:Program} {ops:Array Oper} {Q:Exit->Act->World->Prop} {S:World->Prop} {l id:Nat} {a:Act} {w:World} (hm:P.follows .mixedOrders=true) (hd:noDefer ops=true) (hQ:∀a w,¬Q .outgrown a w) (hS:S w.drew)
  (h:S w.drew->wpAnyH P .any ops Q S ops.size (Array.replicate ops.size false) a w.drew):(Code.region id ops true).wpIn (Fence.wide.inRound l) 0 P Q a w:=
 wpIn_region_any hm (wpAnyIn_of_wpAny hd hQ _ _ _ _ (wpAny_of_held _ _ _ _ (h hS)))
end
end Go.Proofs.YthgenkkkapilhaaGreatDoor.rangeStr
namespace Go.Proofs.YthgenkkkapilhaaGreatDoor
open Go.Proofs.Tryz
section
open Go.RowKit
section
variable {α:Type} {ρ:Shape α} {w0 w W:World} {v:Value} {xs us:List α}
theorem OwnSeq.blk {t:TypeId} {g:Nat} {css:List (List Value)} (hB:Blk W g t css.flatten) (hb:Both (ρ.R w0) css xs) (hg:w0.heap.size<=g) (hn:xs.length<=100000000):OwnSeq ρ t w0 W (.slice (some ⟨g,0,none⟩) xs.length xs.length) xs:=by
 have hl:css.flatten.length=xs.length*ρ.n:=by rw[flat_len hb.lens,hb.len]
 refine⟨css,⟨hl,.inr ⟨g,xs.length,css.flatten.toArray,rfl,hg,hB,Nat.le_refl _,by unfold maxLen;omega,by simpa using hl,?_⟩⟩,hb⟩;rw[<-hl];exact List.take_length
theorem run_append_full {P:Program} {TS T:TypeId} {b:Nat} {z:Value} (E:Elem P TS T ρ.n b z) (ty:TypeId) {g:Nat} {css:List (List Value)} (hB:Blk w g T css.flatten) (hb:Both (ρ.R w0) css xs) (hg:w0.heap.size<=g) {vx:Value} (hv:SrcAt ρ w0 w vx us) (hn:xs.length+us.length<=100000000):
  ∃v' w',(Builtin.append_ #[TS,TS] ty #[.slice (some ⟨g,0,none⟩) xs.length xs.length,vx]).run P w=.ok v' w'/\OwnSeq ρ T w0 w' v' (xs++us)/\Below w.heap.size w w':=by
 have hl:css.flatten.length=xs.length*ρ.n:=by rw[flat_len hb.lens,hb.len]
 obtain⟨i0,hi,hz0,hz1,hz2⟩:=info_parts E.hi;by_cases h0:us=[];{
 subst h0;obtain⟨A,c,rfl,h⟩:=hv;refine⟨_,w,?_,by rw[List.append_nil];exact OwnSeq.blk hB hb hg (by simp at hn;omega),Below.refl _ _⟩;refine run_append_nothing w TS TS ty T i0 E.ht hi _ _ _ (Nat.le_refl _) _ ?_;cases A with
 |none=>exact Src.ofNil w E.ht c
 |some ad=>exact Src.ofSlice w E.ht ad 0 c [] (by simp) (fun j u hu=>by simp at hu) (fun u hu=>nomatch hu)};{
 obtain⟨ad,c,cu,rfl,hbu,hc⟩:=hv.cells h0;have hpos:0<us.length:=List.length_pos_iff.2 h0;obtain⟨v',w',hr,k1,k2⟩:=run_append_arg_grows (P:=P) w TS ty T i0 z ρ.n b E.ht hi hz0 hz1 hz2 E.hz E.hn ⟨g,0,none⟩ xs.length xs.length css.flatten hl (fun j u hu=>by rw[Addr.add_lit,Nat.zero_add];exact hB.cell hu) ad us.length c cu.flatten (by rw[flat_len hbu.lens,hbu.len]) hc
  (by omega) (by unfold maxLen;omega) (Nat.le_trans (Nat.mul_le_mul hn E.hb) (by omega));refine⟨v',w',hr,⟨css++cu,?_,hb.app hbu⟩,⟨k2.os,k2.tape,k2.output,k2.size,fun k hk=>k2.block k hk (fun e=>nomatch e)⟩⟩;rw[List.flatten_append,List.length_append];have hgw:w0.heap.size<=w.heap.size:=Nat.le_trans hg (Nat.le_of_lt hB.lt);refine⟨k1.1,?_⟩;rcases k1.2 with h|⟨g',cap,cur,e,h1,rest⟩;{exact .inl h};{exact .inr ⟨g',cap,cur,e,Nat.le_trans hgw h1,rest⟩}}
theorem wp_append_full {P:Program} {o:Oper} {a:Act} {K:Act->World->Prop} {Q:Exit->Act->World->Prop} {TS T:TypeId} {b:Nat} {z:Value} (E:Elem P TS T ρ.n b z) (s x:Operand) (ho:o.op=.call { callee:=.builtin .append,args:= #[s,x],argTypes:= #[TS,TS] })
  {g:Nat} {css:List (List Value)} (hs:a.eval s=.slice (some ⟨g,0,none⟩) xs.length xs.length) (hB:Blk w g T css.flatten) (hb:Both (ρ.R w0) css xs) (hg:w0.heap.size<=g) {vx:Value} (hx:a.eval x=vx) (hv:SrcAt ρ w0 w vx us) (hn:xs.length+us.length<=100000000)
  (h:∀v' w',OwnSeq ρ T w0 w' v' (xs++us)->Below w.heap.size w w'->K (a.put o.dst v') w'):o.wp P a w K Q:=by
 obtain⟨v',w',hr,g1,g2⟩:=run_append_full E o.type hB hb hg hv hn;unfold Oper.wp execOp;simp only[ho,resolve,invoke,builtin,Sem.run_bind,Sem.run_pure,Result.andThen_ok,List.map_toArray,List.map_cons,List.map_nil,hs,hx,hr];exact h v' w' g1 g2
theorem SrcAt.flat (hF:Flat ρ) (h:SeqAt ρ w v us):SrcAt ρ w0 w v us:=by
 obtain⟨A,c,e,h1,h2,h3⟩:=h;refine⟨A,c,e,fun i x hx=>?_⟩;obtain⟨b,o,cs,e1,hr,h4⟩:=h3 i x hx;exact⟨b,o,cs,e1,hF _ _ _ _ hr,h4⟩
end
def upto (W:World) (n:Nat):World:={ W with heap:=W.heap.extract 0 n }
theorem upto_size {W:World} {n:Nat} (h:n<=W.heap.size):(upto W n).heap.size=n:=by simp[upto];omega
theorem upto_below {W:World} {n:Nat} (h:n<=W.heap.size):Below (upto W n).heap.size (upto W n) W:=by
 rw[upto_size h];refine⟨rfl,rfl,rfl,by rw[upto_size h];exact h,fun k hk=>?_⟩;simp only[upto];rw[Array.getElem?_extract];rw[if_pos (by omega),Nat.zero_add]
def valS:Shape Value where
 n:=1
 R _ cs u:=cs=[u]/\u.oneCell'=true
 len h:=by rw[h.1];rfl
 one h u hu:=by
  obtain⟨rfl,h1⟩:=h
  rw[List.mem_singleton.1 hu]
  exact h1
 keep h _:=h
theorem flatV:Flat valS:=fun _ _ _ _ h=>h
def OwnRows (t t':TypeId) (w0 W:World) (v:Value) (xss:List (List ByteArray)):Prop:=∃rs,OwnSeq valS t w0 W v rs/\Both (fun r x=>OwnSeq strS t' w0 W r x) rs xss
section
variable {t t':TypeId} {w0 w W W':World} {v:Value} {xss:List (List ByteArray)}
theorem OwnRows.nil (W:World):OwnRows t t' w0 W (.slice none 0 0) []:=⟨[],OwnSeq.nil W,.nil⟩
theorem OwnSeq.stay {α:Type} {ρ:Shape α} {xs:List α} {t:TypeId} (h:OwnSeq ρ t w0 W v xs) (hk:∀k o,w0.heap.size<=k->W.heap[k]?=some o->o.isCells=true->W'.heap[k]?=some o):OwnSeq ρ t w0 W' v xs:=by
 obtain⟨css,ho,hb⟩:=h;refine⟨css,⟨ho.1,?_⟩,hb⟩;rcases ho.2 with h0|⟨g,cap,cur,rfl,h1,h2,rest⟩;{exact .inl h0};{exact .inr ⟨g,cap,cur,rfl,h1,hk _ _ h1 h2 rfl,rest⟩}
theorem OwnRows.stay (h:OwnRows t t' w0 W v xss) (hk:∀k o,w0.heap.size<=k->W.heap[k]?=some o->o.isCells=true->W'.heap[k]?=some o):OwnRows t t' w0 W' v xss:=by
 obtain⟨rs,h1,h2⟩:=h;exact⟨rs,h1.stay hk,h2.mono fun r x h=>h.stay hk⟩
theorem OwnRows.kept (h:OwnRows t t' w0 W v xss) (hb:Below W.heap.size W W'):OwnRows t t' w0 W' v xss:=h.stay fun k o _ ho _=>(hb.block k (Array.getElem?_eq_some_iff.1 ho).1).trans ho
theorem OwnRows.snoc {rs:List Value} {r:Value} {x:List ByteArray} {va:Value} (hne:t≠t') (hr:OwnSeq valS t w0 W va rs) (h2:Both (fun r x=>OwnSeq strS t' w0 W r x) rs xss) (h3:OwnSeq strS t' w0 W r x) (h4:OwnSeq valS t w0 W' v (rs++[r])) (hg:W.grownBy W' va.ownBlock):OwnRows t t' w0 W' v (xss++[x]):=by
 have key:∀(r:Value) (x:List ByteArray),OwnSeq strS t' w0 W r x->OwnSeq strS t' w0 W' r x:=fun r x h=>h.grown hg (h.neO hr (Ne.symm hne));exact⟨_,h4,(h2.mono key).app (.cons (key _ _ h3) .nil)⟩
theorem OwnRows.slice (h:OwnRows t t' w0 W v xss):∃A c,v=.slice A xss.length c:=by
 obtain⟨rs,h1,h2⟩:=h;rw[<-h2.len];exact h1.slice
end
theorem OwnSeq.size {α:Type} {ρ:Shape α} {t:TypeId} {w0 w1 W:World} {v:Value} {xs:List α} (h:OwnSeq ρ t w0 W v xs) (hF:Flat ρ) (e:w1.heap.size=w0.heap.size):OwnSeq ρ t w1 W v xs:=h.low hF (Nat.le_of_eq e)
theorem wp_append_rows {P:Program} {o:Oper} {a:Act} {K:Act->World->Prop} {Q:Exit->Act->World->Prop} {TSS TS T:TypeId} {b:Nat} {z:Value} {w0 w:World} {v r:Value} {xss:List (List ByteArray)} {y:List ByteArray} {xb:Nat} (E:Elem P TSS TS 1 b z) (s x:Operand) (ho:o.op=.call { callee:=.builtin .append,args:= #[s,x],argTypes:= #[TSS,TSS] }) (hne:TS≠T)
  (hs:a.eval s=v) (hO:OwnRows TS T w0 w v xss) (hle:w0.heap.size<=w.heap.size) (hx:a.eval x=.slice (some ⟨xb,0,none⟩) 1 1) (hB:Blk w xb TS [r]) (hr:OwnSeq strS T w0 w r y) (hn:xss.length<=1000000)
  (h:∀v' w',OwnRows TS T w0 w' v' (xss++[y])->Below w0.heap.size w w'->(∀k o,w.heap[k]?=some o->(o.isCells=false∨k<w0.heap.size)->w'.heap[k]?=some o)->K (a.put o.dst v') w'):o.wp P a w K Q:=by
 obtain⟨rs,h1,h2⟩:=hO;have hz:=upto_size hle;have hl:=h2.len;refine wp_append_seq (ρ:=valS) (w0:=upto w w0.heap.size) E s x ho hs (h1.size flatV hz) hx (SrcAt.lit (x:=r) ⟨rfl,hr.one⟩ hB) (by simp only[List.length_singleton];omega) (upto_below hle) ?_;intro v' w' g1 g2 g3;have hge:=h1.ge;have hlow:∀k,k<w0.heap.size->w'.heap[k]?=w.heap[k]?:=fun k hk=>g2.block k (by omega) (fun e=>by have:=hge k e.symm;omega);refine h v' w' (OwnRows.snoc hne h1 h2 hr (g1.size flatV hz.symm) g2) ⟨g2.os,g2.tape,g2.output,g2.size,hlow⟩ fun k o hk ho=>?_;rcases ho with ho|ho;{
 refine(g2.block k (Array.getElem?_eq_some_iff.1 hk).1 fun e=>?_).trans hk;obtain⟨css,h3,_⟩:=h1;rcases h3.2 with⟨rfl,_⟩|⟨g,cap,cur,rfl,_,hg,_⟩;{cases e};{
 have:k=g:=by simpa [Value.ownBlock]using e
 subst this;rw[hg]at hk;cases hk;cases ho}};{exact(hlow k ho).trans hk}
end
section
open Go.RowKit
def layE (d s:Int):Int:=if d<1∨8<d∨s<0∨7<s then 2 else 0
theorem laycheck_any (w:World) (d s:Int):Calls prog 45 #[.agg #[.int .i64 d,.int .i64 s]] w fun e w'=>e=.returned (.int .i64 (layE d s))/\Below w.heap.size w w':=by
 have hK:=Blk.new w 24 [.int .i64 d,.int .i64 s];change Blk (w.alloc (.cells #[.int .i64 d,.int .i64 s] 24)) _ _ _ at hK;have HK:=zY hK;have HB:=zY (zBl w (.cells #[.int .i64 d,.int .i64 s] 24));obtain⟨R,hR⟩:=zNm (layE d s);rw[hR];unfold layE at hR;have HR:=zY hR;clear hK hR;go_enter func45,ntmps45;go_upto_region 1 with fail;generalize w.alloc (.cells #[.int .i64 d,.int .i64 s] 24)=wa at *;have c0:=HK.c 0;have c1:=HK.c 1;by_cases h1:d<1;{
 go_wp2;go_ret;exact⟨by rw[<-HR.out,if_pos (by omega)];rfl,HB.out⟩};{
 by_cases h2:8<d;{
 go_wp2;go_ret;exact⟨by rw[<-HR.out,if_pos (by omega)];rfl,HB.out⟩};{
 by_cases h3:s<0;{
 go_wp2;go_ret;exact⟨by rw[<-HR.out,if_pos (by omega)];rfl,HB.out⟩};{
 by_cases h4:7<s;{
 go_wp2;go_ret;exact⟨by rw[<-HR.out,if_pos (by omega)];rfl,HB.out⟩};{
 go_wp2;go_ret;exact⟨by rw[<-HR.out,if_neg (by omega)];rfl,HB.out⟩}}}}
theorem check16_any (w:World) (d s:Int):Calls prog 40 #[.agg #[.int .i64 d,.int .i64 s]] w fun e w'=>e=.returned (.int .i64 (layE d s))/\Below w.heap.size w w':=by
 have hK:=Blk.new w 24 [.int .i64 d,.int .i64 s];change Blk (w.alloc (.cells #[.int .i64 d,.int .i64 s] 24)) _ _ _ at hK;have HK:=zY hK;have HB:=zY (zBl w (.cells #[.int .i64 d,.int .i64 s] 24));obtain⟨R,hR⟩:=zNm (layE d s);rw[hR];unfold layE at hR;have HR:=zY hR;clear hK hR;go_enter func40,ntmps40;go_upto_region 1 with fail;generalize w.alloc (.cells #[.int .i64 d,.int .i64 s] 24)=wa at *;have c0:=HK.c 0;have c1:=HK.c 1;by_cases h1:d<1;{
 go_wp2;go_ret;exact⟨by rw[<-HR.out,if_pos (by omega)];rfl,HB.out⟩};{
 by_cases h2:8<d;{
 go_wp2;go_ret;exact⟨by rw[<-HR.out,if_pos (by omega)];rfl,HB.out⟩};{
 by_cases h3:s<0;{
 go_wp2;go_ret;exact⟨by rw[<-HR.out,if_pos (by omega)];rfl,HB.out⟩};{
 by_cases h4:7<s;{
 go_wp2;go_ret;exact⟨by rw[<-HR.out,if_pos (by omega)];rfl,HB.out⟩};{
 go_wp2;go_ret;exact⟨by rw[<-HR.out,if_neg (by omega)];rfl,HB.out⟩}}}}
structure SesOk (x:Ses):Prop where
 num:0<=x.num/\x.num<=1000000000
 date:0<=x.date/\x.date<=1000000000
 prev:x.prev.size=0∨x.prev.size=32
 str:x.str.size<=14680064
 ents:x.ents.length<=100
 ok:∀e∈x.ents,EntB e
 sig:x.sig=⟨#[]⟩
theorem last39_any (w:World) (id d s:Int) (v:Value) (L:List Ses) (hv:SeqAt sesS w v L) (hl:L.length<=1000) (hs:∀x∈L,SesOk x):Calls prog 148 #[.agg #[.int .u32 id,.int .i64 d,.int .i64 s,v]] w fun e w'=>(∃p:ByteArray,e=.returned (.string p)/\(p.size=0∨p.size=32))/\Below w.heap.size w w':=by
 have HD:=zY (fun(W:World) (num date:Nat) (prev st sg:ByteArray) (ve:Value) (l:List Ent) (hv:SeqAt entS W ve l) (hn:num<=1000000000) (hd:date<=1000000000) (hp:prev.size<=1000000) (hst:st.size<=100000000) (hl:l.length<=100) (he:∀e∈l,EntB e)=>digest39_any W num date prev st sg ve l hv hn hd hp hst hl he);obtain⟨A,c,rfl,h1,h2⟩:=hv.slice;have hK:=Blk.new w 28 [.int .u32 id,.int .i64 d,.int .i64 s,.slice A L.length c];change Blk (w.alloc (.cells #[.int .u32 id,.int .i64 d,.int .i64 s,.slice A L.length c] 28)) _ _ _ at hK;have HK:=zY hK;have HB0:=zY (zBl w (.cells #[.int .u32 id,.int .i64 d,.int .i64 s,.slice A L.length c] 28));have Hv:=zY (hv.below HB0.out);have Hs:=zY hs;clear hK hv hs;go_enter func148,ntmps148;go_upto_region 1 with fail;generalize w.alloc (.cells #[.int .u32 id,.int .i64 d,.int .i64 s,.slice A L.length c] 28)=wa at *;have c3:=HK.c 3;by_cases h0:L.length=0;{
 have f0:((L.length:Int)==0)=true:=by rw[beq_iff_eq];omega
 go_wp2;go_ret;exact⟨⟨_,rfl,.inl rfl⟩,HB0.out⟩};{
 have f0:((L.length:Int)==0)=false:=by rw[beq_eq_false_iff_ne];omega
 obtain⟨m,hm⟩:∃m,L.length=m+1:=⟨L.length-1,by omega⟩;have hmI:(L.length:Int)-1=m:=by omega
 have hml:m<L.length:=by omega
 have hmL:(m:Int)<L.length:=by omega
 obtain⟨x,hx⟩:∃x,L[m]?=some x:=⟨_,List.getElem?_eq_getElem hml⟩;have HO:=zY (Hs.out x (List.mem_of_getElem? hx));obtain⟨_,_,e9,_,_,h4⟩:=Hv.out;cases e9;obtain⟨b,o,cs,rfl,⟨ve,rfl,hve⟩,hc⟩:=h4 m x hx;have HVe:=zY hve;obtain⟨Ae,ce,rfl,_,_⟩:=hve.slice;obtain⟨num,date,prev,ents,str,sig⟩:=x;dsimp only at hc HVe;obtain⟨hnum,hdate,hprev,hstr,hents,hok,hsig⟩:=HO.out;dsimp only at hsig;subst hsig;obtain⟨num,rfl⟩:∃n:Nat,num=(n:Int):=⟨num.toNat,by have:=hnum.1;dsimp only at this;omega⟩;obtain⟨date,rfl⟩:∃n:Nat,date=(n:Int):=⟨date.toNat,by have:=hdate.1;dsimp only at this;omega⟩;dsimp only at hnum hdate hprev hstr hents hok;have HDg:=zY (HD.out wa num date prev str ⟨#[]⟩ _ ents HVe.out (by omega) (by omega) (by omega) (by omega) hents hok);generalize ents.length=ne at *;have e0:wa.cell? ⟨b,o+m*6,none⟩=some (.int .i64 num):=hc 0 _ rfl;have e1:wa.cell? ⟨b,o+m*6+1,none⟩=some (.int .i64 date):=hc 1 _ rfl;have e2:wa.cell? ⟨b,o+m*6+2,none⟩=some (.string prev):=hc 2 _ rfl;have e3:wa.cell? ⟨b,o+m*6+3,none⟩=some (.slice Ae ne ce):=hc 3 _ rfl;have e4:wa.cell? ⟨b,o+m*6+4,none⟩=some (.string str):=hc 4 _ rfl;have e5:wa.cell? ⟨b,o+m*6+5,none⟩=some (.string ⟨#[]⟩):=hc 5 _ rfl;clear hc h4 hx hve hm hnum hdate hprev hstr hents hok;go_wp2_with fail;refine HDg.mono ?_;rintro e6 w6 ⟨⟨p,rfl,hp⟩,hb⟩;go_wp2;go_ret;exact⟨⟨p,rfl,.inr hp⟩,HB0.trans (hb.mono HB0.size)⟩}
def setAll (W:World) (g:Nat):Nat->List Value->World
 |_,[]=>W
 |i,u::r=>setAll (W.setCell ⟨g,i,none⟩ u) g (i+1) r
theorem grown_refl (W:World) (r:Option Nat):W.grownBy W r:=⟨rfl,rfl,rfl,Nat.le_refl _,fun _ _ _=>rfl⟩
theorem grown_setAll (g:Nat):∀(us:List Value) (W:World) (i:Nat),W.grownBy (setAll W g i us) (some g)
 |[],W,_=>grown_refl W _
 |u::r,W,i=>grownBy_trans (grown_set W g i u) (grown_setAll g r _ _)
theorem below_setAll {w:World} {B g:Nat} (hg:B<=g):∀(us:List Value) (W:World) (i:Nat),Below B w W->Below B w (setAll W g i us)
 |[],_,_,h=>h
 |u::r,W,i,h=>below_setAll hg r _ _ (h.setCell (p:=⟨g,i,none⟩) hg u)
def lset:List Value->Nat->List Value->List Value
 |l,_,[]=>l
 |l,i,u::r=>lset (l.set i u) (i+1) r
theorem Blk.setAll {g:Nat} {t:TypeId}:∀(us:List Value) {W:World} {i:Nat} {old:List Value},Blk W g t old->Blk (setAll W g i us) g t (lset old i us)
 |[],_,_,_,h=>h
 |u::r,_,i,_,h=>Blk.setAll r (h.set i u)
theorem Blk.grownN {W W':World} {g g':Nat} {t:TypeId} {us:List Value} (h:Blk W g t us) (hg:W.grownBy W' (some g')) (hne:g≠g'):Blk W' g t us:=h.grownB hg (fun e=>hne (Option.some.inj e).symm)
def entN:List Ses->Nat
 |[]=>0
 |x::r=>x.ents.length+entN r
theorem entN_app (l m:List Ses):entN (l++m)=entN l+entN m:=by
 induction l with
 |nil=>simp[entN]
 |cons x r ih=>rw[List.cons_append,entN,entN,ih];omega
theorem entN_take (l:List Ses) {i:Nat} {x:Ses} (h:l[i]?=some x):entN (l.take (i+1))=entN (l.take i)+x.ents.length:=by
 rw[List.take_add_one,h,entN_app];simp[entN]
theorem entN_le (l:List Ses) (i:Nat):entN (l.take i)<=entN l:=by
 have h:=entN_app (l.take i) (l.drop i);rw[List.take_append_drop]at h;omega
def safe (ks:List Nat):Bool:=noFit [1,3,4,3,1,3,4] ks&&noFit [1,1,1] ks&&noFit [3,3] ks&&noFit [3,1,1,1] ks&&noFit [3,1] ks
structure DrA (W:World) (ve vc vt vh:Value) (E:List Ent) (C:List Cnk) (T:List Ent) (H:List Hol):Prop where
 e:SeqAt entS W ve E
 c:SeqAt chkS W vc C
 t:SeqAt entS W vt T
 h:SeqAt holS W vh H
section
variable {W W':World} {ve vc vt vh:Value} {E T:List Ent} {C:List Cnk} {H:List Hol}
theorem DrA.below (h:DrA W ve vc vt vh E C T H) (hb:Below W.heap.size W W'):DrA W' ve vc vt vh E C T H:=⟨h.e.below hb,h.c.below hb,h.t.below hb,h.h.below hb⟩
theorem DrA.box (h:DrA W ve vc vt vh E C T H) {D:Nat} {t:TypeId} {us:List Value} (hB:Blk W D t us) (hg:W.grownBy W' (some D)) (hs:safe (us.map kd)=true):DrA W' ve vc vt vh E C T H:=by
 simp only[safe,Bool.and_eq_true]at hs;obtain⟨⟨⟨⟨h1,h2⟩,h3⟩,h4⟩,h5⟩:=hs;have hb:Box W D (us.map kd):=⟨t,us,hB,rfl⟩;exact⟨off_ent h1 h2 h3 W W' D _ _ hb hg h.e,off_chk h4 W W' D _ _ hb hg h.c,off_ent h1 h2 h3 W W' D _ _ hb hg h.t,off_hol h5 W W' D _ _ hb hg h.h⟩
theorem DrA.nil (W:World):DrA W (.slice none 0 0) (.slice none 0 0) (.slice none 0 0) (.slice none 0 0) [] [] [] []:=⟨SeqAt.nil _,SeqAt.nil _,SeqAt.nil _,SeqAt.nil _⟩
end
end
section
open Go.RowKit Go.Shelf
attribute [local go_sem] Oper.semAt_some
theorem Bld.moved {A B:World} {K b:Nat} {l:List Nat} (h:Bld A K b l) (hc:∀(k:Nat) (o:Obj),A.heap[k]?=some o->o.isCells=true->B.heap[k]?=some o):Bld B K b l:=by
 have key:∀p,Lib.BuilderAtF 135 5 K b p (l.map u8V) A->Lib.BuilderAtF 135 5 K b p (l.map u8V) B:=by rintro p ⟨hB,v,hb,hown,hne⟩;refine⟨hB,v,hc _ _ hb rfl,⟨hown.1,?_⟩,hne⟩;rcases hown.2 with hn|⟨g,cap,cur,fz,hv,hbg,hg,rest⟩;{exact .inl hn};{exact .inr ⟨g,cap,cur,fz,hv,hbg,hc _ _ hg rfl,rest⟩}
 exact Or.elim h (fun x=>.inl (key _ x)) (fun x=>.inr (key _ x))
attribute [local go_sem] Oper.semAt_some
end
section
open Go.RowKit
def fencR (k r s i l d p a:Int) (t:ByteArray):Value:=
 if frE k r s i l d p t≠0 then .tuple #[.string ⟨#[]⟩,.int .i64 (frE k r s i l d p t)]
 else .tuple #[.string (markS++strB (bodyL (marL k.toNat r.toNat s.toNat i.toNat l.toNat d.toNat p.toNat a.toNat t))),.int .i64 0]
def stepS (m:List Nat):Nat->ByteArray
 |0=>strB m
 |1=>strB (rsEnc m)
 |2=>strB (frmB (rsEnc m))
 |3=>strB (cellL m)
 |_=>strB (bodyL m)
def markL:List Nat:=bs markS
theorem markL_eq:markL=[49,49,49,49,49,48,48,49,49,48,49,48,49,48,48,48]:=by decide
def mt (l:List Nat) (k:Nat):Nat->Nat
 |0=>0
 |i+1=>mt l k i+if cf l (k+i)=cf markL i then 1 else 0
def hit (l:List Nat) (k:Nat):Bool:=decide (14<=mt l k 16)
structure Frm where
 k:Int
 r:Int
 s:Int
 i:Int
 l:Int
 d:Int
 p:Int
 a:Int
 t:ByteArray
def Frm.v (f:Frm):Value:=frV f.k f.r f.s f.i f.l f.d f.p f.a f.t
def Frm.cells (f:Frm):List Value:=[.int .i64 f.k,.int .i64 f.r,.int .i64 f.s,.int .i64 f.i,.int .i64 f.l,.int .i64 f.d,.int .i64 f.p,.int .u32 f.a,.string f.t]
theorem markL_len:markL.length=16:=by rw[markL_eq];rfl
theorem markL_01:B01 markL:=by rw[markL_eq];decide
theorem b01_bytes {l:List Nat} (h:B01 l):Bytes l:=fun x hx=>by rcases h x hx with rfl|rfl<;>decide
theorem bytes_app {l r:List Nat} (h:Bytes l) (k:Bytes r):Bytes (l++r):=fun x hx=>by
 rcases List.mem_append.1 hx with hx|hx
 ·exact h x hx
 ·exact k x hx
theorem mark_cat (m:List Nat):markS++strB (bodyL m)=strB (markL++bodyL m):=by
 conv=>lhs;rw[<-strB_bs markS,strB_cat]
 rfl
def flatCl (ms:List (List Nat)):List Nat:=ms.flatMap fun m=>markL++bodyL m
theorem flatC_len (ms:List (List Nat)):(flatCl ms).length=852*ms.length:=by
 induction ms with
 |nil=>rfl
 |cons m r ih=>
 unfold flatCl at ih⊢;rw[List.flatMap_cons,List.length_append,ih,List.length_append,markL_len,bodyL_len,List.length_cons];omega
theorem flatC_app (a b:List (List Nat)):flatCl (a++b)=flatCl a++flatCl b:=by unfold flatCl;rw[List.flatMap_append]
theorem flatC_bytes {ms:List (List Nat)} (h:∀m∈ms,Bytes m/\m.length=44):Bytes (flatCl ms):=fun x hx=>by
 unfold flatCl at hx
 obtain⟨m,hm,hx⟩:=List.mem_flatMap.1 hx
 obtain⟨h1,h2⟩:=h m hm
 exact bytes_app (b01_bytes markL_01) (bodyL_bytes h1 h2) x hx
theorem rmar_all (w:World) (k r s i l d p a:Int) (t:ByteArray) (ha:0<=a/\a<4294967296):
  Calls prog 175 #[frV k r s i l d p a t] w fun e w'=>e=.returned (marR k r s i l d p a t)/\Below w.heap.size w w':=by
 obtain⟨R,hR⟩:=zNm (marR k r s i l d p a t);rw[hR];unfold marR at hR;have HC:=zY (fun W=>rcheck_all W k r s i l d p a t);obtain⟨E,hE⟩:=zNm (frE k r s i l d p t);rw[hE]at hR HC;have HB:=zY (zBl w (.cells #[.int .i64 k,.int .i64 r,.int .i64 s,.int .i64 i,.int .i64 l,.int .i64 d,.int .i64 p,.int .u32 a,.string t] 49));by_cases h0:E=0;{
 subst h0;obtain⟨h1,h2,h3,h4,h5,h6,h7,h8⟩:=frE_ok hE;obtain⟨k,rfl⟩:∃n:Nat,k=n:=⟨k.toNat,by omega⟩;obtain⟨r,rfl⟩:∃n:Nat,r=n:=⟨r.toNat,by omega⟩;obtain⟨s,rfl⟩:∃n:Nat,s=n:=⟨s.toNat,by omega⟩;obtain⟨i,rfl⟩:∃n:Nat,i=n:=⟨i.toNat,by omega⟩;obtain⟨l,rfl⟩:∃n:Nat,l=n:=⟨l.toNat,by omega⟩;obtain⟨d,rfl⟩:∃n:Nat,d=n:=⟨d.toNat,by omega⟩;obtain⟨p,rfl⟩:∃n:Nat,p=n:=⟨p.toNat,by omega⟩;obtain⟨a,rfl⟩:∃n:Nat,a=n:=⟨a.toNat,by omega⟩;have HR:Hid (Value.tuple #[.string (strB (marL k r s i l d p a t)),.int .i64 0]=R):=zY (by rw[<-hR,if_neg (by simp)];simp);have HH:Hid (∀W:World,Calls prog 259 #[frV k r s i l d p a t] W fun e w'=>e=.returned (.string (strB (hdrL k r s i l d p a)))/\Below W.heap.size W w'):=zY (fun W=>rheader_any W k r s i l d p a t (by omega) (by omega) (by omega) (by omega) (by omega) (by omega) (by omega));have hm:strB (hdrL k r s i l d p a)++t=strB (msgL k r s i l d p a t):=by rw[<-hdr_msg k r s i l d p a t (by omega) (by omega) (by omega) (by omega) (by omega) (by omega) (by omega),<-strB_cat,strB_bs]
 have HMS:=zY hm;have zh:(strB (hdrL k r s i l d p a)).size=12:=by rw[strB_size];rfl
 have zt:=h8;have hap:∀x y:ByteArray,(x++y).size=x.size+y.size:=fun x y=>ByteArray.size_append;have zb:∀n,(strB (be4 n)).size=4:=fun n=>by rw[strB_size];rfl
 have hz:(strB (msgL k r s i l d p a t)).size=40:=by rw[<-hm,hap,zh,zt]
 have HM:Hid (strB (marL k r s i l d p a t)=strB (msgL k r s i l d p a t)++strB (be4 (sumL [strB (msgL k r s i l d p a t)]))):=zY (by rw[strB_cat];rfl);unfold frV at HC HH⊢;have HZ:=zY (Box9.blk (Blk.new w 49 [.int .i64 k,.int .i64 r,.int .i64 s,.int .i64 i,.int .i64 l,.int .i64 d,.int .i64 p,.int .u32 a,.string t]));change Hid (Box9 (w.alloc (.cells #[.int .i64 k,.int .i64 r,.int .i64 s,.int .i64 i,.int .i64 l,.int .i64 d,.int .i64 p,.int .u32 a,.string t] 49)) _ _ _ _ _ _ _ _ _ _)at HZ;clear h1 h2 h3 h4 h5 h6 h7 h8 hE hR ha hm;go_enter func175,ntmps175;go_upto_region 1 with fail;generalize w.alloc (.cells #[.int .i64 k,.int .i64 r,.int .i64 s,.int .i64 i,.int .i64 l,.int .i64 d,.int .i64 p,.int .u32 a,.string t] 49)=wz at *;obtain⟨c0,c1,c2,c3,c4,c5,c6,c7,c8⟩:=HZ.out;go_upto_region 4 with(go_at_call 258;refine(HC.out _).mono ?_;rintro e wy ⟨rfl,hby⟩)
 have HZy:=zY (HZ.keep hby);have HBy:=zYt HB hby;clear c0 c1 c2 c3 c4 c5 c6 c7 c8 hby HZ HB HC;go_cut [5] (fun s5 wx=>s5=.string (strB (msgL k r s i l d p a t))/\Below wy.heap.size wy wx);case first=>refine wp_region_held_drew (S:=(fun w'=>Box9 w' w.heap.size (.int .i64 k) (.int .i64 r) (.int .i64 s) (.int .i64 i) (.int .i64 l) (.int .i64 d) (.int .i64 p) (.int .u32 a) (.string t))) (by kernel_rfl) ?_ (fun hHeld=>?_);{(repeat' (first|with_reducible (first|exact HZy.out|refine Box9.drw ?_|refine Box9.keep ?_ hb3)))};refine tk 0 ?_;refine tk 2 ?_;refine tk 3 ?_;refine zE1 1 fun K hK=>?_;go_simp;refine(HH.out _).mono ?_;rintro e w3 ⟨rfl,hb3⟩;(try go_wp2_with fail);refine hko hK (by(repeat' (first|with_reducible (first|exact HZy.out|refine Box9.drw ?_|refine Box9.keep ?_ hb3)))) (fun _=>?_);clear hK K;refine tk 4 ?_;refine tk 5 ?_;refine wpAnyH_done (by kernel_rfl) ?_ _;have eB:Below wy.heap.size wy w3:=(Below.refl _ _).drew.trans hb3;clear hb3;go_wp2_with fail;go_meet;exact⟨by rw[HMS.out],eB⟩
 case rest=>
 obtain⟨rfl,eB⟩:=hcut;have HBd:=zYt HBy eB;clear eB HZy HBy HH HMS zh;have HR':=HR.out;rw[HM.out]at HR';have HR2:=zY HR';clear HR HM HR';generalize strB (msgL k r s i l d p a t)=M at *;have HX:Hid (∀W:World,Calls prog 193 #[.slice (some ⟨W.heap.size,0,none⟩) 1 1] (W.alloc (.cells #[.string M] 9)) fun e w'=>e=.returned (.int .u32 (sumL [M]:Nat))/\W.alloc (.cells #[.string M] 9)=w'):=zY (fun W=>
  rsum_any _ _ [M] (Blk.slAt (f:=strV) (xs:=[M]) (Blk.new W 9 [.string M]) (c:=1) (by simp) (by omega)) (by intro x hx;rw[List.mem_singleton.1 hx];omega) (by simp));have HY:Hid (∀W:World,Calls prog 260 #[.int .u32 (sumL [M]:Nat)] W fun e w'=>e=.returned (.string (strB (be4 (sumL [M]))))/\Below W.heap.size W w'):=zY (fun W=>rbytes_any W _ (sumL_lt _));go_wp2_with (first|(go_at_call 193;refine(HX.out _).mono ?_;rintro e w5 ⟨rfl,rfl⟩)|(go_at_call 260;refine(HY.out _).mono ?_;rintro e w6 ⟨rfl,hb6⟩));rw[<-HR2.out];exact bodyPost_ret (v:=.tuple #[.string (M++strB (be4 (sumL [M]))),.int .i64 0]) (by simp[results,results175,go_sem]) rfl ⟨rfl,HBd.trans ((((Below.refl _ _).alloc (Nat.le_refl _) _).trans (hb6.mono (by simp))).mono HBd.size)⟩};{
 have HR:Hid (Value.tuple #[.string ⟨#[]⟩,.int .i64 E]=R):=zY (by rw[<-hR,if_pos h0]);have h1:(E != 0)=true:=by simpa using h0
 clear hR hE;unfold frV at HC⊢;go_enter func175,ntmps175;go_wp2_with (go_at_call 258;refine(HC.out _).mono ?_;rintro e wy ⟨rfl,hby⟩);rw[<-HR.out];exact bodyPost_ret (v:=.tuple #[.string ⟨#[]⟩,.int .i64 E]) (by simp[results,results175,go_sem]) rfl ⟨rfl,HB.trans (hby.mono HB.size)⟩}
theorem renc_all (w:World) (k r s i l d p a:Int) (t:ByteArray) (ha:0<=a/\a<4294967296):
  Calls prog 99 #[frV k r s i l d p a t] w fun e w'=>e=.returned (fencR k r s i l d p a t)/\Below w.heap.size w w':=by
 obtain⟨R,hR⟩:=zNm (fencR k r s i l d p a t);rw[hR];unfold fencR at hR;have HMr:=zY (fun W=>rmar_all W k r s i l d p a t ha);have HB:=zY (zBl w (.cells #[.int .i64 k,.int .i64 r,.int .i64 s,.int .i64 i,.int .i64 l,.int .i64 d,.int .i64 p,.int .u32 a,.string t] 49));have HZ:=zY (Box9.blk (Blk.new w 49 [.int .i64 k,.int .i64 r,.int .i64 s,.int .i64 i,.int .i64 l,.int .i64 d,.int .i64 p,.int .u32 a,.string t]));change Hid (Box9 (w.alloc (.cells #[.int .i64 k,.int .i64 r,.int .i64 s,.int .i64 i,.int .i64 l,.int .i64 d,.int .i64 p,.int .u32 a,.string t] 49)) _ _ _ _ _ _ _ _ _ _)at HZ;unfold marR at HMr;by_cases h0:frE k r s i l d p t=0;{
 rw[if_neg (by simpa using h0)]at hR HMr;have hmb:Bytes (marL k.toNat r.toNat s.toNat i.toNat l.toNat d.toNat p.toNat a.toNat t)/\(marL k.toNat r.toNat s.toNat i.toNat l.toNat d.toNat p.toNat a.toNat t).length=44:=by{
 obtain⟨h1,h2,h3,h4,h5,h6,h7,h8⟩:=frE_ok h0;have e:frE (k.toNat:Int) (r.toNat:Int) (s.toNat:Int) (i.toNat:Int) (l.toNat:Int) (d.toNat:Int) (p.toNat:Int) t=0:=by rw[Int.toNat_of_nonneg (by omega),Int.toNat_of_nonneg (by omega),Int.toNat_of_nonneg (by omega),Int.toNat_of_nonneg (by omega),Int.toNat_of_nonneg (by omega),Int.toNat_of_nonneg (by omega),Int.toNat_of_nonneg (by omega)];exact h0
 obtain⟨c,_,_,h9,h10,_,_⟩:=mar_ok (a:=a.toNat) e (by omega);exact⟨h9,h10⟩};obtain⟨m,hm⟩:=zNm (marL k.toNat r.toNat s.toNat i.toNat l.toNat d.toNat p.toNat a.toNat t);rw[hm]at hR HMr hmb;obtain⟨hmB,hml⟩:=hmb;obtain⟨hwl,hwB⟩:=rsEnc_ok hmB hml;have H1:Hid (∀W:World,Calls prog 176 #[.string (stepS m 0),.int .i64 8] W fun e w'=>e=.returned (.tuple #[.string (stepS m 1),.int .i64 0])/\Below W.heap.size W w'):=zY (fun W=>by
  have h:=rsenc7_any W (strB m) (by rw[strB_size,hml])
  rw[bs_strB hmB]at h
  exact h);have H2:Hid (∀W:World,Calls prog 173 #[.string (stepS m 1)] W fun e w'=>e=.returned (.string (stepS m 2))/\Below W.heap.size W w'):=zY (fun W=>by
  have h:=rfrom_any W (strB (rsEnc m)) (by rw[strB_size,hwl];omega)
  rw[bs_strB hwB]at h
  exact h);have H3:Hid (∀W:World,Calls prog 177 #[.string (stepS m 2)] W fun e w'=>e=.returned (.tuple #[.string (stepS m 3),.int .i64 0])/\Below W.heap.size W w'):=zY (fun W=>
  rcenc_any W (strB (frmB (rsEnc m))) (bitU (rsEnc m)) (by rw[bitsS_bitU,bs_strB];intro x hx;rcases frmB_01 _ x hx with rfl|rfl<;>decide) (bitU_bits _) (by rw[bitU_len,hwl];omega));have H4:Hid (∀W:World,Calls prog 178 #[.string (stepS m 3),.int .i64 8] W fun e w'=>e=.returned (.tuple #[.string (stepS m 4),.int .i64 0])/\Below W.heap.size W w'):=zY (fun W=>by
  have h:=rinter_any W (strB (cellL m)) (by rw[strB_size,cellL_len hmB hml])
  rw[bs_strB (fun x hx=>by rcases cellL_01 m x hx with rfl|rfl<;>decide)]at h
  exact h);have z4:(stepS m 4).size=836:=by show (strB (bodyL m)).size=_;rw[strB_size,bodyL_len]
 have zk:markS.size=16:=by decide
 have HR:Hid (Value.tuple #[.string (markS++stepS m 4),.int .i64 0]=R):=zY hR;have HMr2:Hid (∀W:World,Calls prog 175 #[frV k r s i l d p a t] W fun e w'=>e=.returned (.tuple #[.string (stepS m 0),.int .i64 0])/\Below W.heap.size W w'):=zY HMr.out;clear hR h0 hm hmB hml hwl hwB HMr ha;have HK:Hid (∀W:World,Calls prog 179 #[] W fun e w'=>e=.returned (.string markS)/\W=w'):=zY (fun W=>rmark_any W);generalize hS:stepS m=S at *;clear hS;generalize markS=K at *;unfold frV at HMr2⊢;go_enter func99,ntmps99;go_upto_region 1 with fail;generalize w.alloc (.cells #[.int .i64 k,.int .i64 r,.int .i64 s,.int .i64 i,.int .i64 l,.int .i64 d,.int .i64 p,.int .u32 a,.string t] 49)=wz at *;obtain⟨c0,c1,c2,c3,c4,c5,c6,c7,c8⟩:=HZ.out;go_upto_region 4 with(go_at_call 175;refine(HMr2.out _).mono ?_;rintro e w1 ⟨rfl,hb1⟩)
 have HB1:=zYt HB hb1;clear hb1 HZ HB HMr2 c0 c1 c2 c3 c4 c5 c6 c7 c8;go_upto_region 5 with(go_at_call 176;refine(H1.out _).mono ?_;rintro e w2 ⟨rfl,hb2⟩)
 have HB2:=zYt HB1 hb2;clear hb2 HB1 H1;go_upto_region 6 with(first|(go_at_call 173;refine(H2.out _).mono ?_;rintro e w3 ⟨rfl,hb3⟩)|(go_at_call 177;refine(H3.out _).mono ?_;rintro e w4 ⟨rfl,hb4⟩))
 have HB4:=zY (HB2.trans ((hb3.trans (hb4.mono hb3.size)).mono HB2.size));clear hb3 hb4 HB2 H2 H3;go_upto_region 7 with(go_at_call 178;refine(H4.out _).mono ?_;rintro e w5 ⟨rfl,hb5⟩)
 have HB5:=zYt HB4 hb5;clear hb5 HB4 H4;go_wp2_with (go_at_call 179;refine(HK.out _).mono ?_;rintro e w6 ⟨rfl,rfl⟩);rw[<-HR.out];exact bodyPost_ret (v:=.tuple #[.string (K++S 4),.int .i64 0]) (by simp[results,results99,go_sem]) rfl ⟨rfl,HB5.out⟩};{
 have h1:(frE k r s i l d p t != 0)=true:=by simpa using h0
 rw[if_pos h0]at hR HMr;obtain⟨E,hE⟩:=zNm (frE k r s i l d p t);rw[hE]at hR HMr h1;have HR:=zY hR;clear hR h0 hE ha;unfold frV at HMr⊢;go_enter func99,ntmps99;go_upto_region 1 with fail;generalize w.alloc (.cells #[.int .i64 k,.int .i64 r,.int .i64 s,.int .i64 i,.int .i64 l,.int .i64 d,.int .i64 p,.int .u32 a,.string t] 49)=wz at *;obtain⟨c0,c1,c2,c3,c4,c5,c6,c7,c8⟩:=HZ.out;go_wp2_with (go_at_call 175;refine(HMr.out _).mono ?_;rintro e w1 ⟨rfl,hb1⟩);rw[<-HR.out];exact bodyPost_ret (v:=.tuple #[.string ⟨#[]⟩,.int .i64 E]) (by simp[results,results99,go_sem]) rfl ⟨rfl,HB.trans (hb1.mono HB.size)⟩}
theorem bs_app (s t:ByteArray):bs (s++t)=bs s++bs t:=by
 unfold bs;rw[ByteArray.data_append,Array.toList_append,List.map_append]
theorem pad_step {T G:ByteArray} {k:Nat} (h:T++strB (List.replicate (k+1) 32)=G):T++⟨#[32]⟩++strB (List.replicate k 32)=G:=by
 rw[<-h,ByteArray.append_assoc];congr 1
theorem pad_none (T:ByteArray):T++strB (List.replicate 0 32)=T:=ByteArray.append_empty
theorem pad_short {s:ByteArray} {q t:Nat} (hq:q<=s.size) (ht:t=plnT s) (h1:q+64=64*t) (h2:s.size<=q+64):s.extract q s.size++strB (List.replicate (64-(s.extract q s.size).size) 32)=(padS s).extract q (q+64):=by
 apply bs_inj;have e1:64-(s.extract q s.size).size=q+64-s.size:=by rw[ByteArray.size_extract];omega
 have e2:64*plnT s-s.size=q+64-s.size:=by omega
 rw[e1,bs_extract,padS,e2,bs_app,bs_app,bs_extract,<-bs_len s,List.take_length,bs_len,<-List.drop_append_of_le_length (by rw[bs_len];exact hq)];rw[List.take_of_length_le];rw[List.length_append,bs_len,bs_strB,List.length_replicate];{omega};{intro b hb;rw[(List.mem_replicate.1 hb).2];omega}
theorem pad_long {s:ByteArray} {q:Nat} (h2:q+64<s.size):(s.extract q s.size).extract 0 64=(padS s).extract q (q+64):=by
 apply bs_inj;rw[bs_extract,bs_extract,bs_extract,padS,bs_app,List.drop_zero,<-bs_len s,List.take_length,List.take_append_of_le_length (by rw[bs_len];omega),List.drop_take];congr 1;omega
theorem rsplit_any (w:World) (s:ByteArray) (a:Nat) (hs:s.size<=1000000):Calls prog 49 #[.string s,.int .u32 (a:Int)] w fun e w'=>(∃v,e=.returned (.tuple #[v,.int .i64 (splitE s)])/\OwnSeq plnS 124 w w' v (splitR a s))/\Below w.heap.size w w':=by
 have HP:=zY (fun W=>rprintable_any W s hs);obtain⟨n,hn⟩:=zNm (s.size);have hnI:(s.size:Int)=n:=by omega
 by_cases h1:40000<n;{
 have h1I:(40000:Int)<n:=by omega
 have he:splitE s=6:=by rw[splitE,if_pos (by omega)]
 have HR:Hid (splitR a s=[]):=zY (by rw[splitR,if_neg (by rw[he];decide)]);rw[he];clear hn he;go_enter func49,ntmps49;go_wp2;go_ret2;exact⟨⟨_,rfl,by rw[HR.out];exact OwnSeq.new _⟩,(Below.refl _ _).alloc (Nat.le_refl _) _⟩};{
 have h1I:¬(40000:Int)<n:=by omega
 obtain⟨b,hb⟩:=zNm (prtL (bs s));rw[hb]at HP;cases b with
 |false=>(
 have he:splitE s=3:=by rw[splitE,if_neg (by omega),if_pos hb]
 have HR:Hid (splitR a s=[]):=zY (by rw[splitR,if_neg (by rw[he];decide)]);rw[he];clear hn he hb;go_enter func49,ntmps49;go_wp2_with fail;refine(HP.out _).mono ?_;rintro e1 w1 ⟨rfl,rfl⟩;go_wp2;go_ret2;exact⟨⟨_,rfl,by rw[HR.out];exact OwnSeq.new _⟩,(Below.refl _ _).alloc (Nat.le_refl _) _⟩)
 |true=>
 have he:splitE s=0:=by rw[splitE,if_neg (by omega),if_neg (by rw[hb];decide)]
 obtain⟨t,ht⟩:=zNm (plnT s);have htn:t=(n+63)/64:=by rw[<-ht,plnT,hn]
 have HR:Hid (splitR a s=(List.range t).map (plnAt a s)):=zY (by rw[splitR,if_pos he,plnsL,ht]);have g2:IntKind.i64.wrap ((n:Int)+63)=(n:Int)+63:=zIw (by omega);have g3:Int.tdiv ((n:Int)+63) 64=t:=by rw[Int.tdiv_eq_ediv_of_nonneg (by omega)];omega
 have g3b:((n:Int)+63)/64=t:=by omega
 have g4:IntKind.i64.wrap (t:Int)=t:=zIw (by omega);have ht1:t<=626:=by omega
 have HT:=zY ht;have HN:=zY hn;have HTN:=zY htn;rw[he];clear hb he hn ht htn;go_enter func49,ntmps49;go_wp2_with fail;refine(HP.out _).mono ?_;rintro e1 w ⟨rfl,rfl⟩;go_upto_region 6 with fail;have HO0:Hid (OwnSeq plnS 124 w (w.alloc (.cells #[] 124)) (.slice (some ⟨w.heap.size,0,none⟩) 0 0) []):=zY (OwnSeq.new _);have HB0:Hid (Below w.heap.size w (w.alloc (.cells #[] 124))):=zY ((Below.refl _ _).alloc (Nat.le_refl _) _);generalize w.alloc (.cells #[] 124)=w2 at *;go_wp2;go_loopw [6,8] (fun y x wr=>∃i:Nat,i<=t/\x=.int .i64 (i:Int)/\OwnSeq plnS 124 w wr y ((List.range i).map (plnAt a s))/\Below w.heap.size w wr) (fun _ x _=>t-(intOf x).toNat);case atStart=>exact⟨0,by omega,rfl,HO0.out,HB0.out⟩
 case round=>
 obtain⟨i,hi,rfl,ho,hB⟩:=hrel;have HO:=zY ho;have HB:=zY hB;obtain⟨Ao,co,rfl⟩:=ho.slice;clear ho hB HO0 HB0;by_cases h:i<t;{
 have hiI:(i:Int)<t:=by omega
 obtain⟨q,hq⟩:=zNm (64*i);have hqI:(64:Int)*(i:Int)=q:=by omega
 have hqw:IntKind.i64.wrap (q:Int)=q:=zIw (by omega);have hi1:IntKind.i64.wrap ((i:Int)+1)=(i:Int)+1:=zIw (by omega);have hqn:q<=n:=by have:=HTN.out;omega
 have hq3:q<=s.size:=by have:=HN.out;omega
 have hq4:(q:Int)<=(n:Int):=by omega
 have hq0:(0:Int)<=q:=by omega
 obtain⟨T,hT⟩:=zNm ((padS s).extract q (q+64));have HF:Hid ((List.range (i+1)).map (plnAt a s)=(List.range i).map (plnAt a s)++[⟨a,i,t,T⟩]):=zY (by rw[List.range_succ,List.map_append,List.map_singleton,plnAt,hq,hT,HT.out]);have Hl1:Hid (((List.range i).map (plnAt a s)).length+1<=100000000):=zY (by simp;omega);obtain⟨P,hP⟩:=zNm (s.extract q s.size);have hPz:P.size=n-q:=by rw[<-hP,ByteArray.size_extract,HN.out];omega
 have hS1:s.extract q n=P:=by rw[<-HN.out];exact hP
 have HTz:Hid (T.size=64):=zY (by rw[<-hT,ByteArray.size_extract,padS_size,HT.out];omega);have HG1:Hid (P.size<=64->P++strB (List.replicate (64-P.size) 32)=T):=zY (fun hz=>by rw[<-hP,<-hT];exact pad_short hq3 HT.symm (by have:=HTN.out;omega) (by have:=HN.out;omega));have HG2:Hid (64<P.size->P.extract 0 64=T):=zY (fun hz=>by rw[<-hP,<-hT];exact pad_long (by have:=HN.out;omega));generalize hno:((List.range i).map (plnAt a s)).length=no at *;have Hl1:Hid (((List.range i).map (plnAt a s)).length+1<=100000000):=zY (by rw[hno];exact Hl1.out);have HO:Hid (OwnSeq plnS 124 w wr (.slice Ao no co) ((List.range i).map (plnAt a s))):=HO;clear hT hq hno;obtain⟨b,hb⟩:=zNm (decide ((64:Int)<(P.size:Int)));have HW:=zY hb;have hPs:P.size<=1000000:=by omega
 clear hb hPz hnI hs h1 h1I g2 g3 g3b;go_upto_if 34 with fail;go_cut [9] (fun p wx=>∃T0:ByteArray,p=.string T0/\T0.size<=64/\T0++strB (List.replicate (64-T0.size) 32)=T/\wr=wx);case first=>(
 have hb:=HW.out;by_cases hz:64<P.size;{
 have hzI:(64:Int)<(P.size:Int):=by omega
 obtain rfl:b=true:=by rw[<-hb,decide_eq_true hzI]
 clear hb HW;go_wp2;go_meet;exact⟨_,rfl,by rw[HG2.out hz,HTz.out];omega,by rw[HG2.out hz,HTz.out];exact pad_none T,rfl⟩};{
 have hzI:¬(64:Int)<(P.size:Int):=by omega
 obtain rfl:b=false:=by rw[<-hb,decide_eq_false hzI]
 clear hb HW;go_wp2;go_meet;exact⟨_,rfl,by omega,HG1.out (by omega),rfl⟩})
 case rest=>
 obtain⟨T0,rfl,hz,hg,rfl⟩:=hcut;clear HW hS1 hP HG1 HG2 hPs;have HGz:=zY hg;clear hg;go_wp2;go_loopw [9] (fun p wx=>∃T0:ByteArray,p=.string T0/\T0.size<=64/\T0++strB (List.replicate (64-T0.size) 32)=T/\wr=wx) (fun p _=>64-strSize p);case atStart=>exact⟨T0,rfl,hz,HGz.out,rfl⟩
 case round=>
 obtain⟨T1,rfl,hz1,hg1,rfl⟩:=hrel;have HG:=zY hg1;clear hg1 HGz;by_cases hl:T1.size<64;{
 have hlI:(T1.size:Int)<64:=by omega
 have hcc:¬9223372036854775807<T1.size+1:=by omega
 have HS:Hid ((T1++(⟨#[32]⟩:ByteArray)).size=T1.size+1):=zY ByteArray.size_append;go_wp2;go_roundw;case rel=>exact⟨_,rfl,by rw[HS.out];omega,by rw[HS.out];exact pad_step (by rw[show 64-(T1.size+1)+1=64-T1.size by omega];exact HG.out),trivial⟩
 case measure=>show 64-(T1++(⟨#[32]⟩:ByteArray)).size<64-T1.size;rw[HS.out];omega};{
 have hlI:¬(T1.size:Int)<64:=by omega
 have HE:Hid (T1=T):=zY (by rw[<-HG.out,show 64-T1.size=0 by omega];exact(pad_none T1).symm);have HX1:Hid (SrcAt plnS w (wr.alloc (.cells (Pln.cells ⟨a,i,t,T1⟩).toArray 124)) (.slice (some ⟨wr.heap.size,0,none⟩) 1 1) [⟨a,i,t,T1⟩]):=zY (src1 (ρ:=plnS) (wr:=wr) (Pln.cells ⟨a,i,t,T1⟩) ⟨a,i,t,T1⟩ rfl rfl);have HO1:=zY (HO.alloc (.cells (Pln.cells ⟨a,i,t,T1⟩).toArray 124));have HB1:=zY (HB.alloc HB.size (.cells (Pln.cells ⟨a,i,t,T1⟩).toArray 124));go_wp2_with (at_builtin;refine append_seq (w0:=w) Tryz.elemPln rfl _ _ rfl rfl HO1.out rfl HX1.out Hl1.out HB1.out ?_;intro vb w6 hob _ hbb;have KV:=zY hob;have KC:=zY hbb;clear hob hbb);go_roundw;case rel=>exact⟨i+1,by omega,by go_num,by rw[HF.out,<-HE.out];exact KV.out,KC.out⟩
 case measure=>simp[intOf];omega}};{
 obtain rfl:i=t:=by omega
 have hiI:¬((i:Nat):Int)<(i:Int):=by omega
 have hlen:((List.range i).map (plnAt a s)).length=i:=by simp
 rw[hlen]at HO;clear hlen;go_wp2;go_ret2;exact⟨⟨_,rfl,by rw[HR.out];exact HO.out⟩,HB.out⟩}}
end
end Go.Proofs.YthgenkkkapilhaaGreatDoor