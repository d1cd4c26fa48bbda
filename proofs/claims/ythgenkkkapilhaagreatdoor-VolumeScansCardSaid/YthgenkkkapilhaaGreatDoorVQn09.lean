/-
  Joined: VqH VqI VoY VqJ.
-/
import Derived.Test.YthgenkkkapilhaaGreatDoorVQn07
set_option linter.all false
set_option maxRecDepth 100000
set_option maxHeartbeats 64000000
namespace Go.Proofs.YthgenkkkapilhaaGreatDoor
open Go.Proofs.Tryz
section
open Go.RowKit
theorem decD:∀u:Nat,(Lib.decDigits u).map (·.toNat)=digD u:=by
 intro u;induction u using Nat.strongRecOn with
 |_ u ih=>
 by_cases h:u<10;{
 rw[Lib.decDigits_one h,digD_small h];show [(UInt8.ofNat (48+u)).toNat]=_;rw[UInt8.toNat_ofNat',Nat.mod_eq_of_lt (by omega)]};{
 rw[Lib.decDigits,dif_neg h,digD_great h,List.map_append,ih (u/10) (by omega),digD_small (u:=u%10) (by omega)];show _++[(UInt8.ofNat (48+u%10)).toNat]=_;rw[UInt8.toNat_ofNat',Nat.mod_eq_of_lt (by omega)]}
theorem itoaB (n:Nat):(⟨(Lib.itoa (n:Int)).toArray⟩:ByteArray)=strB (digD n):=by
 rw[<-strB_bs ⟨(Lib.itoa (n:Int)).toArray⟩,Lib.itoa_nonneg,<-decD];rfl
def natL (l:List UInt8):List Nat:=l.map (·.toNat)
theorem index_cons (b:UInt8) (l:List UInt8):Lib.index (b::l) [47]=if b=47 then 0 else if Lib.index l [47]= -1 then -1 else Lib.index l [47]+1:=by
 rw[Lib.index];by_cases h:b=47;{
 subst h;simp[List.isPrefixOf]};{
 have hp:([47]:List UInt8).isPrefixOf (b::l)=false:=by simp[List.isPrefixOf,Ne.symm h]
 rw[hp,if_neg h];by_cases hm:Lib.index l [47]= -1;{rw[if_pos hm,hm];rfl};{
 rw[if_neg hm];simp[hm]}}
theorem splits_key:∀l:List UInt8,∃h r,Lib.splitK [47] 0 (Lib.count l [47]) l=h::r/\∀p,splitG p (natL l)=(p++natL h)::r.map natL
 |[]=>⟨[],[],by rw[Lib.count_miss (by simp[Lib.index])];rfl,fun p=>by simp[natL,splitG]⟩
 |b::t=>by
  obtain⟨h,r,h1,h2⟩:=splits_key t
  by_cases hb:b=47
  {
  subst hb
  refine⟨[],h::r,?_,fun p=>?_⟩
  {
  rw[Lib.count_cons_eq,Nat.add_comm,Lib.splitK,index_cons,if_pos rfl,if_neg (by decide)]
  simp only[Int.toNat_zero,Nat.add_zero,List.take_zero,List.length_cons,List.length_nil,Nat.zero_add,List.drop_succ_cons,List.drop_zero]
  rw[h1]}
  {
  show splitG p (47::natL t)=_
  rw[splitG,if_pos rfl,h2 []]
  simp[natL]}}
  {
  have hn:¬b.toNat=47:=fun e=>hb (by rw[<-UInt8.toNat_inj,e];rfl)
  have hg:∀p,splitG p (natL (b::t))=(p++natL (b::h))::r.map natL:=fun p=>by
   show splitG p (b.toNat::natL t)=_
   rw[splitG,if_neg hn,h2 (p++[b.toNat])]
   simp[natL]
  rw[Lib.count_cons_ne b 47 t hb]
  refine⟨b::h,r,?_,hg⟩
  cases hk:Lib.count t [47]with
  |zero=>
   rw[hk]at h1
   rw[Lib.splitK]at h1
   obtain⟨rfl,rfl⟩:=List.cons.inj h1
   rfl
  |succ k=>
   rw[hk]at h1
   have hm:Lib.index t [47]≠ -1:=fun e=>by rw[Lib.count_miss e]at hk;cases hk
   have hge:=Lib.index_ge t [47]
   obtain⟨j,hj⟩:∃j:Nat,Lib.index t [47]=j:=⟨(Lib.index t [47]).toNat,by omega⟩
   have ej:¬((j:Int)== -1)=true:=fun e=>by have:=beq_iff_eq.1 e;omega
   have ej1:¬(((j:Int)+1)== -1)=true:=fun e=>by have:=beq_iff_eq.1 e;omega
   have ej2:¬(j:Int)= -1:=by omega
   rw[Lib.splitK,hj,if_neg ej]at h1
   rw[Lib.splitK,index_cons,if_neg hb,hj,if_neg ej2,if_neg ej1]
   obtain⟨e1,e2⟩:=List.cons.inj h1
   rw[<-e1,<-e2,show ((j:Int)+1).toNat=j+1 by omega,Int.toNat_natCast]
   rfl}
theorem splits_elems (s:ByteArray):Lib.splitB ⟨#[47]⟩ 0 (Lib.countB s ⟨#[47]⟩) s=(splitG [] (bs s)).map strB:=by
 obtain⟨h,r,h1,h2⟩:=splits_key s.data.toList;have e1:=Lib.splitB_data ⟨#[47]⟩ 0 (Lib.countB s ⟨#[47]⟩) s;have e2:(Lib.splitB ⟨#[47]⟩ 0 (Lib.countB s ⟨#[47]⟩) s).map (·.data.toList)=h::r:=e1.trans h1;have e3:splitG [] (bs s)=(h::r).map natL:=by rw[show bs s=natL s.data.toList from rfl,h2 []];rfl
 rw[e3,<-e2,List.map_map,List.map_map];have:∀L:List ByteArray,L.map ((strB∘natL)∘fun x=>x.data.toList)=L:=fun L=>by
  induction L with
  |nil=>rfl
  |cons x r ih=>rw[List.map_cons,ih];exact congrArg (· :: r) (strB_bs x)
 exact(this _).symm
theorem idx_none {s:ByteArray} {p:Nat->Bool} (h:∀b∈bs s,b<128/\p b=false):∀(f pos:Nat),Lib.idxFuncFrom p true s f pos= -1
 |0,_=>rfl
 |f+1,pos=>by
  unfold Lib.idxFuncFrom
  by_cases hp:pos<s.size
  {
  have hb:=h _ (List.mem_of_getElem? (bs_get s pos hp))
  rw[if_pos hp,decode_ascii s pos hp hb.1]
  dsimp only
  rw[hb.2,if_neg (by decide)]
  exact idx_none h f (pos+1)}
  ·rw[if_neg hp]
structure Tab (w:World):Prop where
 pow : Lib.TabIs prog w "internal/strconv.uint64pow10" .u64 Lib.pow10Tab
 most:∃m:Int,w.cell? ⟨1,0,none⟩=some (.int .i64 m)
theorem var_below {w w':World} {n:String} {cs:Array Value} (h:w.var? prog n=some cs) (hb:Below w.heap.size w w'):w'.var? prog n=some cs:=by
 unfold World.var? at h⊢;cases hg:prog.globalNamed n with
 |none=>rw[hg]at h;cases h
 |some g=>
 rw[hg]at h;simp only[Option.bind_some]at h⊢;have hlt:g<w.heap.size:=by rcases Nat.lt_or_ge g w.heap.size with h'|h';{exact h'};{rw[Array.getElem?_eq_none h']at h;cases h}
 rw[hb.block g hlt];exact h
theorem Tab.below {w w':World} (h:Tab w) (hb:Below w.heap.size w w'):Tab w':=⟨var_below h.pow hb,h.most.imp fun _ hm=>cell_below hb hm⟩
theorem blwN {B:Nat} {a w:World} (h:Below B a w) (n:Nat):Below B a (w.drewN n):=h.trans ⟨rfl,rfl,rfl,Nat.le_refl _,fun _ _=>rfl⟩
theorem itoa_any (w:World) (n:Nat) (hn:n<9223372036854775808) (hT:Tab w):Calls prog 54 #[.int .i64 (n:Int)] w fun e w'=>e=.returned (.string (strB (digD n)))/\Below w.heap.size w w':=by
 refine(Tryz.strconv_Itoa (n:Int) (by omega) (by omega) w hT.pow).mono ?_;rintro e w' ⟨rfl,k,os,rfl⟩;refine⟨by rw[itoaB],rfl,rfl,rfl,?_,fun j hj=>?_⟩;{
 show w.heap.size<=(w.heap++os).size;rw[Array.size_append];omega};{
 show (w.heap++os)[j]?=_;rw[Array.getElem?_append_left hj]}
theorem nnumber_any (w:World) (n:Nat) (hn:n<9223372036854775808) (hT:Tab w):Calls prog 72 #[.int .i64 (n:Int)] w fun e w'=>e=.returned (.string (strB (numL n)))/\Below w.heap.size w w':=by
 have H1:=zY (itoa_any w n hn hT);have hs1:(strB (digD n)).size<=20:=by rw[strB_size];exact digD_len20 (by omega)
 have Hc:Hid (strB (digD n)++⟨#[32]⟩=strB (numL n)):=zY (strB_cat (digD n) [32]);generalize strB (digD n)=Q at *;have hcc:¬9223372036854775807<Q.size+1:=by omega
 go_enter func72,ntmps72;go_wp2_with fail;refine H1.mono ?_;rintro e1 w1 ⟨rfl,hb1⟩;have HB1:=zY hb1;clear hb1;go_wp2_with fail;go_ret;exact⟨by rw[<-Hc.out]<;>rfl,HB1.out⟩
theorem nnstring_any (w:World) (s:ByteArray) (hs:s.size<=100000000) (hT:Tab w):Calls prog 53 #[.string s] w fun e w'=>e=.returned (.string (strB (nstL (bs s))))/\Below w.heap.size w w':=by
 have H1:=zY (itoa_any w s.size (by omega) hT);have hs1:(strB (digD s.size)).size<=20:=by rw[strB_size];exact digD_len20 (by omega)
 have hc:strB (digD s.size)++⟨#[58]⟩++s++⟨#[44]⟩=strB (nstL (bs s)):=by have e1:=strB_cat (digD s.size) [58];have e2:=strB_cat (digD s.size++[58]) (bs s);have e3:=strB_cat (digD s.size++[58]++bs s) [44];rw[strB_bs]at e2;rw[<-e1]at e2;rw[<-e2]at e3;rw[nstL,bs_len];exact e3
 have Hc:=zY hc;clear hc;generalize strB (digD s.size)=Q at *;have hcc:¬9223372036854775807<Q.size+1:=by omega
 have hcd:¬9223372036854775807<Q.size+1+s.size:=by omega
 have hce:¬9223372036854775807<Q.size+1+s.size+1:=by omega
 go_enter func53,ntmps53;go_wp2_with fail;refine H1.mono ?_;rintro e1 w1 ⟨rfl,hb1⟩;have HB1:=zY hb1;clear hb1;go_wp2_with fail;go_ret;exact⟨by rw[<-Hc.out]<;>rfl,HB1.out⟩
structure Elem (P:Program) (t e:TypeId) (n bytes:Nat) (z:Value):Prop where
 ht:P.underlying t=some (.slice e)
 hi:(P.info? e).map (fun i=>(i.zero,i.size,i.bytes))=some (some z,n,bytes)
 hz:z.cells.size=n
 hn:0<n
 hb:bytes<=1000
def SrcAt {α:Type} (ρ:Shape α) (w0 w:World) (v:Value) (us:List α):Prop:=
 ∃(A:Option Addr) (c:Nat),v=.slice A us.length c/\∀i x,us[i]?=some x->∃b o cs,A=some ⟨b,o,none⟩/\ρ.R w0 cs x/\∀j u,cs[j]?=some u->w.cell? ⟨b,o+i*ρ.n+j,none⟩=some u
section
variable {α:Type} {ρ:Shape α} {w0 w W:World} {v:Value} {xs us:List α}
theorem SrcAt.of (h:SeqAt ρ w0 v us) (hb:Below w0.heap.size w0 w):SrcAt ρ w0 w v us:=by
 obtain⟨A,c,e,h1,h2,h3⟩:=h;refine⟨A,c,e,fun i x hx=>?_⟩;obtain⟨b,o,cs,e1,hr,h4⟩:=h3 i x hx;exact⟨b,o,cs,e1,hr,fun j u hu=>cell_below hb (h4 j u hu)⟩
theorem SrcAt.lit {g:Nat} {t:TypeId} {cs:List Value} {x:α} (hr:ρ.R w0 cs x) (hB:Blk w g t cs):SrcAt ρ w0 w (.slice (some ⟨g,0,none⟩) 1 1) [x]:=by
 refine⟨_,_,rfl,fun i y hy=>?_⟩;cases i with
 |zero=>(
 obtain rfl:x=y:=by simpa using hy
 refine⟨g,0,cs,rfl,hr,fun j u hu=>?_⟩;rw[Nat.zero_mul,Nat.zero_add];exact hB.cell hu)
 |succ i=>simp at hy
theorem SrcAt.cells (h:SrcAt ρ w0 w v us) (h0:us≠[]):∃(ad:Addr) (c:Nat) (css:List (List Value)),v=.slice (some ad) us.length c/\Both (ρ.R w0) css us/\∀j u,css.flatten[j]?=some u->w.cell? (ad.add j)=some u:=by
 obtain⟨A,c,rfl,h⟩:=h;have key:∀(l:List α) (b o:Nat),(∀i x,l[i]?=some x->∃cs,ρ.R w0 cs x/\∀j u,cs[j]?=some u->w.cell? ⟨b,o+i*ρ.n+j,none⟩=some u)->∃css,Both (ρ.R w0) css l/\∀j u,css.flatten[j]?=some u->w.cell? ⟨b,o+j,none⟩=some u:=by{
 intro l;induction l with
 |nil=>exact fun b o _=>⟨[],.nil,fun j u hu=>by simp at hu⟩
 |cons x r ih=>
 intro b o hl;obtain⟨cs,hr,hc⟩:=hl 0 x rfl;obtain⟨css,hb,hcs⟩:=ih b (o+ρ.n) (fun i y hy=>by
  obtain⟨cs',hr',hc'⟩:=hl (i+1) y (by simpa using hy)
  refine⟨cs',hr',fun j u hu=>?_⟩
  rw[<-hc' j u hu]
  congr 2
  rw[Nat.add_mul]
  omega);refine⟨cs::css,.cons hr hb,fun j u hu=>?_⟩;rw[List.flatten_cons]at hu;have hn:=ρ.len hr;by_cases hj:j<cs.length;{
 rw[List.getElem?_append_left hj]at hu;have:=hc j u hu;rwa [Nat.zero_mul,Nat.add_zero]at this};{
 rw[List.getElem?_append_right (by omega)]at hu;rw[<-hcs _ u hu];congr 2;omega}};cases us with
 |nil=>exact absurd rfl h0
 |cons x r=>
 obtain⟨b,o,_,e,_⟩:=h 0 x rfl;cases e;obtain⟨css,h1,h2⟩:=key (x::r) b o (fun i y hy=>by
  obtain⟨b',o',cs,e,hr,hc⟩:=h i y hy
  cases e
  exact⟨cs,hr,hc⟩);exact⟨_,c,css,rfl,h1,fun j u hu=>by rw[Addr.add_lit];exact h2 j u hu⟩
theorem OwnSeq.alloc {t:TypeId} (h:OwnSeq ρ t w0 W v xs) (o:Obj):OwnSeq ρ t w0 (W.alloc o) v xs:=h.below ((Below.refl _ _).alloc (Nat.le_refl _) _)
theorem OwnSeq.drew {t:TypeId} (h:OwnSeq ρ t w0 W v xs):OwnSeq ρ t w0 W.drew v xs:=h.below (Below.refl _ _).drew
theorem OwnSeq.new {t:TypeId} (W:World):OwnSeq ρ t W (W.alloc (.cells #[] t)) (.slice (some ⟨W.heap.size,0,none⟩) 0 0) []:=⟨[],ownV_new _ _ _,.nil⟩
theorem OwnSeq.slice {t:TypeId} (h:OwnSeq ρ t w0 W v xs):∃A c,v=.slice A xs.length c:=by
 obtain⟨_,h,_⟩:=h;exact ownV_slice h
theorem OwnSeq.one {t:TypeId} (h:OwnSeq ρ t w0 W v xs):v.oneCell'=true:=by
 obtain⟨A,c,rfl⟩:=h.slice;rfl
theorem OwnSeq.ge {t:TypeId} (h:OwnSeq ρ t w0 W v xs):∀k,v.ownBlock=some k->w0.heap.size<=k:=by
 obtain⟨_,h,_⟩:=h;exact ownV_ge h
theorem run_append_nilS {P:Program} {TS T:TypeId} {n:Nat} {b:Nat} {z:Value} (E:Elem P TS T n b z) (B:Nat) (ty:TypeId) (v:Value) (k c:Nat) (us:List Value) (hown:w.ownsRow B T n v k us):(Builtin.append_ #[TS,TS] ty #[v,.slice none 0 c]).run P w=.ok v w:=by
 obtain⟨i0,hi,hz0,hz1,hz2⟩:=info_parts E.hi;rcases hown.2 with⟨rfl,rfl⟩|⟨g,cap,cur,rfl,_,_,hnc,_⟩;{simp[Builtin.append_,run_underlying E.ht,sizeOf,typeInfo,hi,Builtin.lenOf,Builtin.firstCells]};{
 simp[Builtin.append_,run_underlying E.ht,sizeOf,typeInfo,hi,Builtin.lenOf,Builtin.firstCells,hnc,storeCells]}
theorem run_appendS {P:Program} {TS T:TypeId} {b:Nat} {z:Value} (E:Elem P TS T ρ.n b z) (ty:TypeId) (hown:OwnSeq ρ T w0 w v xs) {vx:Value} (hv:SrcAt ρ w0 w vx us) (hn:xs.length+us.length<=100000000) (hB:Below w0.heap.size w0 w):
  ∃v' w',(Builtin.append_ #[TS,TS] ty #[v,vx]).run P w=.ok v' w'/\OwnSeq ρ T w0 w' v' (xs++us)/\w.grownBy w' v.ownBlock/\(v'.ownBlock=v.ownBlock∨v'.ownBlock=some w.heap.size)/\Below w0.heap.size w0 w':=by
 have hge:=hown.ge;obtain⟨css,ho,hb⟩:=hown;by_cases h0:us=[];{
 subst h0;obtain⟨A,c,rfl,h⟩:=hv;cases A with
 |none=>refine⟨v,w,run_append_nilS E w0.heap.size ty v _ c _ ho,?_,World.grownBy.refl w _,.inl rfl,hB⟩;rw[List.append_nil];exact⟨css,ho,hb⟩
 |some ad=>
 obtain⟨i0,hi,hz0,hz1,hz2⟩:=info_parts E.hi;obtain⟨v',w',hr,k1,k2,_,k3⟩:=run_append_own_at (P:=P) w w0.heap.size TS ty T i0 z ρ.n b E.ht hi hz0 hz1 hz2 E.hz E.hn v _ _ ho ad 0 c [] (by simp) (fun j u hu=>by simp at hu) (fun u hu=>nomatch hu) (by unfold maxLen;simp at hn;omega)
  (Nat.le_trans (Nat.mul_le_mul (show xs.length+0<=100000000 by simp at hn;omega) E.hb) (by omega)) hB.size;exact⟨v',w',hr,⟨css,by simpa using k1,by simpa using hb⟩,k2,k3,hB.grown k2 hB.size hge⟩};{
 obtain⟨ad,c,cu,rfl,hbu,hc⟩:=hv.cells h0;obtain⟨i0,hi,hz0,hz1,hz2⟩:=info_parts E.hi;obtain⟨v',w',hr,k1,k2,_,k3⟩:=run_append_own_at (P:=P) w w0.heap.size TS ty T i0 z ρ.n b E.ht hi hz0 hz1 hz2 E.hz E.hn v _ _ ho ad us.length c cu.flatten (by rw[flat_len hbu.lens,hbu.len]) hc hbu.ones (by unfold maxLen;omega)
  (Nat.le_trans (Nat.mul_le_mul hn E.hb) (by omega)) hB.size;exact⟨v',w',hr,⟨css++cu,by rw[List.flatten_append,List.length_append];exact k1,hb.app hbu⟩,k2,k3,hB.grown k2 hB.size hge⟩}
theorem append_seq {P:Program} {ops:Array Oper} {rest:List Oper} {o:Oper} {a:Act} {Q:Exit->Act->World->Prop} {TS T:TypeId} {b:Nat} {z:Value} (E:Elem P TS T ρ.n b z) (hgd:o.guard=none) (s x:Operand) (ho:o.op=.call { callee:=.builtin .append,args:= #[s,x],argTypes:= #[TS,TS] })
  (hs:a.eval s=v) (hown:OwnSeq ρ T w0 w v xs) {vx:Value} (hx:a.eval x=vx) (hv:SrcAt ρ w0 w vx us) (hn:xs.length+us.length<=100000000) (hB:Below w0.heap.size w0 w)
  (h:∀v' w',OwnSeq ρ T w0 w' v' (xs++us)->w.grownBy w' v.ownBlock->Below w0.heap.size w0 w'->wpList P ops Q rest (a.put o.dst v') w'):wpList P ops Q (o::rest) a w:=by
 obtain⟨v',w',hr,g1,g2,_,g3⟩:=run_appendS E o.type hown hv hn hB;refine wpList_plain hgd fun K hK=>?_;unfold Oper.wp execOp;simp only[ho,resolve,invoke,builtin,Sem.run_bind,Sem.run_pure,Result.andThen_ok,List.map_toArray,List.map_cons,List.map_nil,hs,hx,hr];exact hK _ _ (h v' w' g1 g2 g3)
theorem wp_append_seq {P:Program} {o:Oper} {a:Act} {K:Act->World->Prop} {Q:Exit->Act->World->Prop} {TS T:TypeId} {b:Nat} {z:Value} (E:Elem P TS T ρ.n b z) (s x:Operand) (ho:o.op=.call { callee:=.builtin .append,args:= #[s,x],argTypes:= #[TS,TS] })
  (hs:a.eval s=v) (hown:OwnSeq ρ T w0 w v xs) {vx:Value} (hx:a.eval x=vx) (hv:SrcAt ρ w0 w vx us) (hn:xs.length+us.length<=100000000) (hB:Below w0.heap.size w0 w)
  (h:∀v' w',OwnSeq ρ T w0 w' v' (xs++us)->w.grownBy w' v.ownBlock->Below w0.heap.size w0 w'->K (a.put o.dst v') w'):o.wp P a w K Q:=by
 obtain⟨v',w',hr,g1,g2,_,g3⟩:=run_appendS E o.type hown hv hn hB;unfold Oper.wp execOp;simp only[ho,resolve,invoke,builtin,Sem.run_bind,Sem.run_pure,Result.andThen_ok,List.map_toArray,List.map_cons,List.map_nil,hs,hx,hr];exact h v' w' g1 g2 g3
end
end
section
open Go.RowKit
theorem any_yesS {α:Type} {l:List α} {p:α->Bool} (k:Nat) (y:α) (h:l[k]?=some y) (hy:p y=true):l.any p=true:=
 List.any_eq_true.2 ⟨y,List.mem_of_getElem? h,hy⟩
theorem any_noS {α:Type} {l:List α} {p:α->Bool} (h:∀(k:Nat) (y:α),l[k]?=some y->p y=false):l.any p=false:=by
 rw[List.any_eq_false];intro y hy;obtain⟨k,hk⟩:=List.mem_iff_getElem?.1 hy;simpa using h k y hk
def JudgeS (g:Nat) (lb:Array Value) (p:ByteArray->Bool) (l:List ByteArray) (w:World):Prop:=
 ∀(W:World) (x:ByteArray),Below w.heap.size w W->x∈l->Calls prog g (#[.string x]++lb) W fun e w'=>e=.returned (.bool (p x))/\Below W.heap.size W w'
theorem idxStr_any (w:World) (v:Value) (l:List ByteArray) (hl:SeqAt strS w v l) (g:Nat) (lb:Array Value) (eg:∀args w,(callFunc g args).run prog w=.ok (.enter g args) w) (p:ByteArray->Bool) (hp:JudgeS g lb p l w):
  Calls prog 297 #[v,.func (.func g) #[] lb] w fun e w'=>(∃n:Int,e=.returned (.int .i64 n)/\(l.any p=true↔0<=n))/\Below w.heap.size w w':=by
 have HL:=zY hl;obtain⟨A,c,rfl,h1,h2⟩:=hl.slice;have HP:=zY hp;obtain⟨R,hR⟩:=zNm (l.any p);rw[hR];have HR:=zY hR;clear hl hp hR;go_enter func297,ntmps297;go_wp2;go_loopw [8] (fun i wr=>∃k:Nat,k<=l.length/\i=.int .i64 k/\(∀(j:Nat) (y:ByteArray),j<k->l[j]?=some y->p y=false)/\Below w.heap.size w wr) (fun i _=>l.length-(intOf i).toNat);case atStart=>exact⟨0,Nat.zero_le _,rfl,fun j r h=>absurd h (Nat.not_lt_zero _),Below.refl _ _⟩
 case round=>
 obtain⟨k,hk,rfl,hr,hB⟩:=hrel;have Hr:=zY hr;have HB:=zY hB;clear hr hB;by_cases hlt:k<l.length;{
 have hkI:(k:Int)<l.length:=by omega
 obtain⟨x,hx⟩:∃x,l[k]?=some x:=⟨_,List.getElem?_eq_getElem hlt⟩;have Hx:=zY hx;obtain⟨_,_,e9,_,_,h4⟩:=HL.below HB.out;cases e9;obtain⟨b,o,cs,rfl,rfl,hc⟩:=h4 k x hx;have e0:wr.cell? ⟨b,o+k*1,none⟩=some (.string x):=hc 0 _ rfl;rw[Nat.mul_one]at e0;have HC:=zY (HP.out wr x HB.out (List.mem_of_getElem? hx));have HPx:Hid (Below w.heap.size w wr):=zY HB.out;clear hc h4 hx;obtain⟨q,hq⟩:=zNm (p x);have HQ:=zY hq;rw[hq]at HC;clear hq;go_wp2_with fail;refine HC.mono ?_;rintro e w2 ⟨rfl,hb2⟩;have HB2:=zYt HPx hb2;clear hb2;cases q with
 |true=>go_wp2;go_ret;exact⟨⟨k,rfl,by rw[<-HR.out,any_yesS k x Hx.out HQ.out];simp⟩,HB2.out⟩
 |false=>
 go_wp2;go_roundw;case rel=>(
 refine⟨k+1,by omega,by go_num,fun j r hj he=>?_,HB2.out⟩;rcases Nat.lt_succ_iff_lt_or_eq.1 hj with h|rfl;{exact Hr.out j r h he};{
 rw[Hx.out]at he;cases he;exact HQ.out})
 case measure=>simp[intOf];omega};{
 have hkI:¬(k:Int)<l.length:=by omega
 go_wp2;go_ret;exact⟨⟨-1,rfl,by rw[<-HR.out,any_noS fun j r he=>Hr.out j r (by have:=(List.getElem?_eq_some_iff.1 he).1;omega) he];simp⟩,HB.out⟩}
theorem contStr_any (w:World) (v:Value) (l:List ByteArray) (hl:SeqAt strS w v l) (g:Nat) (lb:Array Value) (eg:∀args w,(callFunc g args).run prog w=.ok (.enter g args) w) (p:ByteArray->Bool) (hp:JudgeS g lb p l w):
  Calls prog 235 #[v,.func (.func g) #[] lb] w fun e w'=>e=.returned (.bool (l.any p))/\Below w.heap.size w w':=by
 have H:=zY (idxStr_any w v l hl g lb eg p hp);obtain⟨A,c,rfl,h1,h2⟩:=hl.slice;clear hl hp;go_enter func235,ntmps235;go_wp2_with (go_at_call 297;refine H.mono ?_;rintro e w' ⟨⟨n,rfl,hn⟩,hb⟩;have HB:=zY hb;have HN:=zY hn;clear hb hn);go_ret;refine⟨ret_bool' ?_,HB.out⟩;have hn:=HN.out;cases hb:l.any p with
 |false=>rw[hb]at hn;exact decide_eq_false (fun h=>by have:=hn.2 h;cases this)
 |true=>rw[hb]at hn;exact decide_eq_true (hn.1 rfl)
theorem allowed_any (w:World) (c:Nat):Calls prog 388 #[.int .i32 (c:Int)] w fun e w'=>e=.returned (.bool (okC c))/\w=w':=by
 obtain⟨R,hR⟩:=zNm (okC c);rw[hR];unfold okC at hR;have HR:=zY hR;clear hR;by_cases a:97<=c;{
 have ai:(97:Int)<=c:=by omega
 by_cases b:c<=122;{
 have bi:(c:Int)<=122:=by omega
 have HT:Hid (R=true):=zY (by rw[<-HR.out];exact decide_eq_true (by omega));go_enter func388,ntmps388;go_wp2;go_ret;exact⟨by rw[HT.out]<;>rfl,rfl⟩};{
 have bi:¬(c:Int)<=122:=by omega
 have e1:(48:Int)<=c:=by omega
 have e2:¬(c:Int)<=57:=by omega
 have e3:((c:Int)==46)=false:=by rw[beq_eq_false_iff_ne];omega
 have e4:((c:Int)==95)=false:=by rw[beq_eq_false_iff_ne];omega
 have e5:((c:Int)==45)=false:=by rw[beq_eq_false_iff_ne];omega
 have HT:Hid (R=false):=zY (by rw[<-HR.out];exact decide_eq_false (by omega));go_enter func388,ntmps388;go_wp2;go_ret;exact⟨by rw[HT.out]<;>rfl,rfl⟩}};{
 have ai:¬(97:Int)<=c:=by omega
 by_cases d:48<=c/\c<=57;{
 have e1:(48:Int)<=c:=by omega
 have e2:(c:Int)<=57:=by omega
 have HT:Hid (R=true):=zY (by rw[<-HR.out];exact decide_eq_true (by omega));go_enter func388,ntmps388;go_wp2;go_ret;exact⟨by rw[HT.out]<;>rfl,rfl⟩};{
 obtain⟨q1,h1⟩:=zNm (((c:Int)==46));obtain⟨q2,h2⟩:=zNm (((c:Int)==95));obtain⟨q3,h3⟩:=zNm (((c:Int)==45));have HT:Hid (R=(q1||(q2||q3))):=zY (by
  rw[<-HR.out,<-h1,<-h2,<-h3,Bool.eq_iff_iff]
  simp only[decide_eq_true_eq,Bool.or_eq_true,beq_iff_eq]
  omega);have hz:(¬(48:Int)<=c)∨((48:Int)<=c/\¬(c:Int)<=57):=by omega
 clear d HR;rcases hz with f1|⟨f1,f2⟩<;>cases q1<;>cases q2<;>cases q3<;>
 {
 go_enter func388,ntmps388;go_wp2;go_ret;exact⟨by rw[HT.out]<;>rfl,rfl⟩}}}
theorem comp1_any (w:World) (c:Nat):Calls prog 387 #[.int .i32 (c:Int)] w fun e w'=>e=.returned (.bool (!okC c))/\w=w':=by
 have H:=zY (fun W=>allowed_any W c);obtain⟨q,hq⟩:=zNm (okC c);rw[hq]at H⊢;go_enter func387,ntmps387;go_wp2_with fail;refine(H.out _).mono ?_;rintro e1 w1 ⟨rfl,rfl⟩;go_wp2_with fail;go_ret;exact⟨rfl,rfl⟩
theorem okC_lt {c:Nat} (h:okC c=true):c<128:=by
 have:=of_decide_eq_true h;omega
theorem pcomp_any (w:World) (s:ByteArray) (h:compB (bs s)=true):Calls prog 362 #[.string s] w fun e w'=>e=.returned (.bool true)/\Below w.heap.size w w':=by
 rw[compB,Bool.and_eq_true,bs_len]at h;obtain⟨h1,h2⟩:=h;obtain⟨a1,a2,a3,a4⟩:=of_decide_eq_true h1;have hx:∀W,Calls prog 386 #[.string s,.func (.func 387) #[] #[]] W fun e w'=>e=.returned (.bool false)/\Below W.heap.size W w':=fun W=>by
  refine(Tryz.strings_ContainsFunc 387 #[] (enters_of func387 (by kernel_rfl) rfl) (fun c=> !okC c) s W (fun W' x _=>(comp1_any W' x).mono fun e w' ⟨he,hw⟩=>⟨he,0,hw.symm⟩)).mono ?_
  rintro e w' ⟨rfl,hb⟩
  refine⟨?_,hb⟩
  rw[show Lib.idxFunc (fun c=> !okC c) true s= -1 from idx_none (fun b hb=>?_) _ _]
  ·rfl
  {
  have:=List.all_eq_true.1 h2 b hb
  exact⟨okC_lt this,by rw[this];rfl⟩}
 have HX:=zY hx;have i1:(1:Int)<=s.size:=by omega
 have i2:(s.size:Int)<=32:=by omega
 have n1:s≠⟨#[46]⟩:=fun e=>a3 (by rw[e];rfl);have n2:s≠⟨#[46,46]⟩:=fun e=>a4 (by rw[e];rfl);have F1:Hid ((s.toList==[46])=false):=zY (beq_eq_false_iff_ne.2 fun e=>n1 (toListV.1 e));have F2:Hid ((s.toList==[46,46])=false):=zY (beq_eq_false_iff_ne.2 fun e=>n2 (toListV.1 e));have e1:s.toList≠[46]:=fun e=>n1 (toListV.1 e);have e2:s.toList≠[46,46]:=fun e=>n2 (toListV.1 e);clear h1 h2 a1 a2 a3 a4 hx n1 n2;go_enter func362,ntmps362;go_wp2_with fail;refine(HX.out _).mono ?_;rintro e1 w1 ⟨rfl,hb⟩;have HB:=zY hb;clear hb;go_wp2_with fail;go_ret;exact⟨ret_bool' (by rw[F1.out,F2.out];rfl),HB.out⟩
theorem pcheck1_any (w:World) (s:ByteArray) (h:compB (bs s)=true):Calls prog 361 #[.string s] w fun e w'=>e=.returned (.bool false)/\Below w.heap.size w w':=by
 have H:=zY (fun W=>pcomp_any W s h);clear h;go_enter func361,ntmps361;go_wp2_with fail;refine(H.out _).mono ?_;rintro e1 w1 ⟨rfl,hb⟩;have HB:=zY hb;clear hb;go_wp2_with fail;go_ret;exact⟨rfl,HB.out⟩
theorem SeqAt.strs (W:World) (L:List ByteArray) (c:Nat) (hc:L.length<=c) (h63:c<=9223372036854775807):SeqAt strS (W.alloc (.cells (L.map Value.string).toArray 9)) (.slice (some ⟨W.heap.size,0,none⟩) L.length c) L:=by
 refine⟨_,_,rfl,hc,h63,fun i x hx=>⟨W.heap.size,0,[.string x],rfl,rfl,fun j u hu=>?_⟩⟩;cases j with
 |zero=>(
 obtain rfl:Value.string x=u:=by simpa using hu
 show (W.alloc _).cell? ⟨W.heap.size,0+i*1+0,none⟩=_;rw[Nat.zero_add,Nat.mul_one,Nat.add_zero];exact(Blk.new W 9 (L.map Value.string)).cell (by rw[List.getElem?_map,hx];rfl))
 |succ j=>simp at hu
theorem pelems_any (w:World) (s:ByteArray) (hs:s.size<=1000000) (hT:Tab w):Calls prog 360 #[.string s] w fun e w'=>(∃v,e=.returned v/\SeqAt strS w' v ((elemsL (bs s)).map strB))/\Below w.heap.size w w':=by
 by_cases h0:s.size=0;{
 have e0:s=⟨#[]⟩:=by apply ByteArray.ext;exact Array.eq_empty_of_size_eq_zero h0
 subst e0;clear h0;go_enter func360,ntmps360;go_wp2;go_ret;first|exact⟨⟨_,rfl,SeqAt.nil _⟩,Below.refl _ _⟩|exact⟨_,rfl,SeqAt.nil _,Below.refl _ _⟩};{
 have hb0:s.toList.isEmpty=false:=isEmptyV h0;obtain⟨m,hm⟩:=hT.most;have HC:=zY (Tryz.strings_Split s ⟨#[47]⟩ m w (by omega) hm (by decide));have HE:Hid ((elemsL (bs s)).map strB=Lib.splitB ⟨#[47]⟩ 0 (Lib.countB s ⟨#[47]⟩) s):=zY (by
  rw[splits_elems,elemsL,if_neg]
  intro e
  have:=congrArg List.length e
  rw[bs_len]at this
  exact h0 (by simpa using this));have HN:Hid (Lib.countB s ⟨#[47]⟩+1=(Lib.splitB ⟨#[47]⟩ 0 (Lib.countB s ⟨#[47]⟩) s).length/\Lib.countB s ⟨#[47]⟩<=s.size):=zY ⟨(Lib.splitB_all ⟨#[47]⟩ (by decide) 0 _ s rfl).symm,Lib.countB_le ⟨#[47]⟩ (by decide) s.size s (Nat.le_refl _)⟩;clear hm h0;go_enter func360,ntmps360;go_wp2_with fail;refine HC.mono ?_;rintro e1 w1 ⟨rfl,rfl⟩;go_wp2_with fail;go_ret;have key:SeqAt strS (w.alloc (.cells ((Lib.splitB ⟨#[47]⟩ 0 (Lib.countB s ⟨#[47]⟩) s).map Value.string).toArray 9)) (.slice (some ⟨w.heap.size,0,none⟩) (Lib.countB s ⟨#[47]⟩+1:Nat) (Lib.countB s ⟨#[47]⟩+1:Nat)) ((elemsL (bs s)).map strB):=by rw[HE.out,HN.1];exact SeqAt.strs w _ _ (Nat.le_refl _) (by have:=HN.out;omega)
 first|exact⟨⟨_,rfl,key⟩,(Below.refl _ _).alloc (Nat.le_refl _) _⟩|exact⟨_,rfl,key,(Below.refl _ _).alloc (Nat.le_refl _) _⟩}
theorem pcheck_ok (w:World) (s:ByteArray) (h:pathE (bs s)=0) (hT:Tab w):Calls prog 312 #[.string s] w fun e w'=>e=.returned (.int .i64 0)/\Below w.heap.size w w':=by
 unfold pathE at h;split at h;{cases h};rename_i h1
 split at h;{cases h};rename_i h2
 split at h;{
 rename_i h3
 rw[bs_len]at h1;have HE:=zY (pelems_any w s (by omega) hT);have HA:Hid (∀x∈(elemsL (bs s)).map strB,compB (bs x)=true):=zY (fun x hx=>by
  obtain⟨l,hl,rfl⟩:=List.mem_map.1 hx
  rw[bs_strB (elemsL_bytes (bs_lt s) l hl)]
  exact List.all_eq_true.1 h3 l hl);obtain⟨L,hL⟩:=zNm ((elemsL (bs s)).map strB);have hl:L.length<=8:=by rw[<-hL,List.length_map];omega
 rw[hL]at HE HA;have HF:Hid (L.any (fun _=>false)=false):=zY (by rw[List.any_eq_false];intro x _;decide);have i1:¬(200:Int)<s.size:=by omega
 clear h h1 h2 h3 hL;have i2:¬(8:Int)<L.length:=by omega
 go_enter func312,ntmps312;go_wp2_with fail;refine HE.mono ?_;rintro e1 w1 ⟨⟨v,rfl,hv⟩,hb⟩;have HB:=zY hb;have HC:=zY (contStr_any w1 v L hv 361 #[] (enters_of func361 (by kernel_rfl) rfl) (fun _=>false) (fun W x _ hx=>pcheck1_any W x (HA.out x hx)));rw[HF.out]at HC;obtain⟨A,c,rfl,_,_⟩:=hv.slice;clear hb hv;go_wp2_with fail;refine HC.mono ?_;rintro e2 w2 ⟨rfl,hb2⟩;have HB2:=zYt HB hb2;clear hb2;go_wp2_with fail;go_ret;exact⟨rfl,HB2.out⟩};{cases h}
end
end Go.Proofs.YthgenkkkapilhaaGreatDoor