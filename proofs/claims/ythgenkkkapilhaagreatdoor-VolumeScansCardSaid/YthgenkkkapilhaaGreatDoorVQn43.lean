/-
  Joined: VrF.
-/
import Derived.Test.YthgenkkkapilhaaGreatDoorVQn38
import Derived.Test.YthgenkkkapilhaaGreatDoorVQn39
set_option linter.all false
set_option maxRecDepth 100000
set_option maxHeartbeats 64000000
namespace Go.Proofs.YthgenkkkapilhaaGreatDoor
open Go.Proofs.Tryz
section
open Go.RowKit
def frmS:Shape Frm where
 n:=9
 R _ cs f:=cs=f.cells
 len h:=by rw[h];rfl
 one h u hu:=by
  rw[h]at hu
  simp only[Frm.cells,List.mem_cons,List.not_mem_nil,or_false]at hu
  rcases hu with rfl|rfl|rfl|rfl|rfl|rfl|rfl|rfl|rfl<;>rfl
 keep h _:=h
theorem flatFrm:Flat frmS:=fun _ _ _ _ h=>h
theorem Tryz.elemFrm:Elem prog 32 49 9 80 (.agg #[.int .i64 0,.int .i64 0,.int .i64 0,.int .i64 0,.int .i64 0,.int .i64 0,.int .i64 0,.int .u32 0,.string ⟨#[]⟩]):=⟨underlying32,by kernel_rfl,rfl,by decide,by decide⟩
def fillB (p:ByteArray):ByteArray:=p++strB (List.replicate (28-p.size) 0)
def partF (id d s n r:Int) (i:Nat) (p:ByteArray):Frm:=⟨68,r,n,i,p.size,d,s,id,fillB p⟩
def stripF (id d s n:Int) (r:Nat) (st:ByteArray) (i:Nat) (x:List ByteArray):Frm:=⟨66,r,n,i,usedF d.toNat r i st.size,d,s,id,x.getD r ⟨#[]⟩⟩
def partsF (id d s n:Int) (r:Nat) (P:List ByteArray):List Frm:=(List.range P.length).map fun i=>partF id d s n r i (P.getD i ⟨#[]⟩)
def stripsF (id d s n:Int) (r:Nat) (st:ByteArray) (S:List (List ByteArray)):List Frm:=(List.range S.length).map fun i=>stripF id d s n r st i (S.getD i [])
def reelL (id d s n:Int) (r:Nat) (P:List ByteArray) (S:List (List ByteArray)) (st:ByteArray):List Frm:=partsF id d s n r P++stripsF id d s n r st S
theorem range_step {α:Type} {β:Type} {l:List α} {i:Nat} {x:α} (f:Nat->β) (h:l[i]?=some x):((List.range l.length).map f).take (i+1)=((List.range l.length).map f).take i++[f i]:=by
 have hi:=(List.getElem?_eq_some_iff.1 h).1;rw[List.take_add_one,List.getElem?_map,List.getElem?_range hi];rfl
theorem onr1_any (w:World) (k i l n r id d s:Int) (t:ByteArray) (v:Value) (gr gs ga:Nat) (hr:Boxed w gr 3 (.int .i64 r)) (hs:Boxed w gs 3 (.int .i64 n)) (ha:Blk w ga 28 [.int .u32 id,.int .i64 d,.int .i64 s,v]):
  Calls prog 85 #[.int .i64 k,.int .i64 i,.int .i64 l,.string t,.pointer (some ⟨gr,0,none⟩),.pointer (some ⟨gs,0,none⟩),.pointer (some ⟨ga,0,none⟩)] w fun e w'=>e=.returned (⟨k,r,n,i,l,d,s,id,t⟩:Frm).v/\Below w.heap.size w w':=by
 have Hr:=zY (hr.alloc (.cells #[.int .i64 0,.int .i64 0,.int .i64 0,.int .i64 0,.int .i64 0,.int .i64 0,.int .i64 0,.int .u32 0,.string ⟨#[]⟩] 49));have Hs:=zY (hs.alloc (.cells #[.int .i64 0,.int .i64 0,.int .i64 0,.int .i64 0,.int .i64 0,.int .i64 0,.int .i64 0,.int .u32 0,.string ⟨#[]⟩] 49));have Ha:=zY (ha.alloc (.cells #[.int .i64 0,.int .i64 0,.int .i64 0,.int .i64 0,.int .i64 0,.int .i64 0,.int .i64 0,.int .u32 0,.string ⟨#[]⟩] 49));have HZ:Hid (Blk (w.alloc (.cells #[.int .i64 0,.int .i64 0,.int .i64 0,.int .i64 0,.int .i64 0,.int .i64 0,.int .i64 0,.int .u32 0,.string ⟨#[]⟩] 49)) w.heap.size 49 [.int .i64 0,.int .i64 0,.int .i64 0,.int .i64 0,.int .i64 0,.int .i64 0,.int .i64 0,.int .u32 0,.string ⟨#[]⟩]):=zY (Blk.new w 49 [.int .i64 0,.int .i64 0,.int .i64 0,.int .i64 0,.int .i64 0,.int .i64 0,.int .i64 0,.int .u32 0,.string ⟨#[]⟩]);have HB:=zY (zBl w (.cells #[.int .i64 0,.int .i64 0,.int .i64 0,.int .i64 0,.int .i64 0,.int .i64 0,.int .i64 0,.int .u32 0,.string ⟨#[]⟩] 49));clear hr hs ha;go_enter func85,ntmps85;go_upto_region 1 with fail;generalize w.alloc (.cells #[.int .i64 0,.int .i64 0,.int .i64 0,.int .i64 0,.int .i64 0,.int .i64 0,.int .i64 0,.int .u32 0,.string ⟨#[]⟩] 49)=wb at *;have hrc:=Hr.cell;have hsc:=Hs.cell;have a0:=Ha.c 0;have a1:=Ha.c 1;have a2:=Ha.c 2;have z0:=HZ.c 0;have y0:=HZ.frozen 0;have z1:=HZ.c 1;have y1:=HZ.frozen 1;have z2:=HZ.c 2;have y2:=HZ.frozen 2;have z3:=HZ.c 3;have y3:=HZ.frozen 3;have z4:=HZ.c 4;have y4:=HZ.frozen 4;have z5:=HZ.c 5;have y5:=HZ.frozen 5;have z6:=HZ.c 6;have y6:=HZ.frozen 6;have z7:=HZ.c 7;have y7:=HZ.frozen 7
 have z8:=HZ.c 8;have y8:=HZ.frozen 8;have HW:=zY (HZ.setAll (i:=0) (⟨k,r,n,i,l,d,s,id,t⟩:Frm).cells);have HBw:=zY (below_setAll (g:=w.heap.size) (Nat.le_refl _) (⟨k,r,n,i,l,d,s,id,t⟩:Frm).cells wb 0 HB.out);go_wp2;refine bodyPost_ret (results_cell_row rfl _ _ w.heap.size 49 _ (0,0) _ rfl HW.out underlying49 rfl (by kernel_rfl)) rfl ?_;exact⟨rfl,HBw.out⟩
theorem onreel_any (w:World) (id d s n:Int) (r:Nat) (v vp vs:Value) (st:ByteArray) (P:List ByteArray) (S:List (List ByteArray)) (hv:v.oneCell'=true) (hp:SeqAt strS w vp P) (hs:SeqAt rowS w vs S) (hP:P.length<=65536) (hPz:∀p∈P,p.size<=28) (hS:S.length<=65537) (hSr:∀x∈S,r<x.length) (hd:1<=d/\d<=8) (hr:r<=15) (hst:st.size<=1000000000):
  Calls prog 39 #[.agg #[.int .u32 id,.int .i64 d,.int .i64 s,v],.int .i64 n,.int .i64 (r:Int),.agg #[vp,vs,.string st]] w fun e w'=>RetSeq frmS 49 w w' (reelL id d s n r P S st) e/\Below w.heap.size w w':=by
 have Hp:=zY hp;have Hs:=zY hs;have HPz:=zY hPz;have HSr:=zY hSr;obtain⟨Ap,cp,rfl,_,_⟩:=hp.slice;obtain⟨As,cs,rfl,_,_⟩:=hs.slice;have hK0:=Blk.new w 28 [.int .u32 id,.int .i64 d,.int .i64 s,v];have HK:Hid (Blk ((((w.alloc (.cells #[.int .u32 id,.int .i64 d,.int .i64 s,v] 28)).alloc (.cells #[.int .i64 n] 3)).alloc (.cells #[.int .i64 (r:Int)] 3)).alloc (.cells #[.slice Ap P.length cp,.slice As S.length cs,.string st] 98)) w.heap.size 28 [.int .u32 id,.int .i64 d,.int .i64 s,v]):=zY (((hK0.alloc _).alloc _).alloc _);have HN:Hid (Boxed ((((w.alloc (.cells #[.int .u32 id,.int .i64 d,.int .i64 s,v] 28)).alloc (.cells #[.int .i64 n] 3)).alloc (.cells #[.int .i64 (r:Int)] 3)).alloc (.cells #[.slice Ap P.length cp,.slice As S.length cs,.string st] 98)) (w.heap.size+1) 3 (.int .i64 n)):=zY (by
  have h:=Boxed.new (w.alloc (.cells #[.int .u32 id,.int .i64 d,.int .i64 s,v] 28)) 3 (.int .i64 n)
  rw[World.size_alloc]at h
  exact(h.alloc _).alloc _);have HR:Hid (Boxed ((((w.alloc (.cells #[.int .u32 id,.int .i64 d,.int .i64 s,v] 28)).alloc (.cells #[.int .i64 n] 3)).alloc (.cells #[.int .i64 (r:Int)] 3)).alloc (.cells #[.slice Ap P.length cp,.slice As S.length cs,.string st] 98)) (w.heap.size+1+1) 3 (.int .i64 (r:Int))):=zY (by
  have h:=Boxed.new ((w.alloc (.cells #[.int .u32 id,.int .i64 d,.int .i64 s,v] 28)).alloc (.cells #[.int .i64 n] 3)) 3 (.int .i64 (r:Int))
  rw[World.size_alloc,World.size_alloc]at h
  exact h.alloc _);have HC:Hid (Blk ((((w.alloc (.cells #[.int .u32 id,.int .i64 d,.int .i64 s,v] 28)).alloc (.cells #[.int .i64 n] 3)).alloc (.cells #[.int .i64 (r:Int)] 3)).alloc (.cells #[.slice Ap P.length cp,.slice As S.length cs,.string st] 98)) (w.heap.size+1+1+1) 98 [.slice Ap P.length cp,.slice As S.length cs,.string st]):=zY (by
  have h:=Blk.new (((w.alloc (.cells #[.int .u32 id,.int .i64 d,.int .i64 s,v] 28)).alloc (.cells #[.int .i64 n] 3)).alloc (.cells #[.int .i64 (r:Int)] 3)) 98 [.slice Ap P.length cp,.slice As S.length cs,.string st]
  rw[World.size_alloc,World.size_alloc,World.size_alloc]at h
  exact h);have HB0:=zY ((((zBl w (.cells #[.int .u32 id,.int .i64 d,.int .i64 s,v] 28)).alloc (by simp) (.cells #[.int .i64 n] 3)).alloc (by simp;omega) (.cells #[.int .i64 (r:Int)] 3)).alloc (by simp;omega) (.cells #[.slice Ap P.length cp,.slice As S.length cs,.string st] 98));clear hp hs hPz hSr hK0;go_enter func39,ntmps39;go_upto_region 3 with fail;generalize (((w.alloc (.cells #[.int .u32 id,.int .i64 d,.int .i64 s,v] 28)).alloc (.cells #[.int .i64 n] 3)).alloc (.cells #[.int .i64 (r:Int)] 3)).alloc (.cells #[.slice Ap P.length cp,.slice As S.length cs,.string st] 98)=wa at *;have k0:=HC.c 0;go_wp2;go_loopw [10,19] (fun y x wr=>∃i:Nat,i<=P.length/\x=.int .i64 (i:Int)/\OwnSeq frmS 49 wa wr y ((partsF id d s n r P).take i)/\Below wa.heap.size wa wr) (fun _ x _=>P.length-(intOf x).toNat);case atStart=>exact⟨0,by omega,rfl,OwnSeq.nil _,Below.refl _ _⟩
 case round=>
 obtain⟨i,hi,rfl,ho,hB⟩:=hrel;have HO:=zY ho;have HB:=zY hB;obtain⟨Ao,co,rfl⟩:=ho.slice;clear ho hB k0;generalize hno:((partsF id d s n r P).take i).length=no at *;have Hno:=zY hno;clear hno;by_cases h:i<P.length;{
 have hiI:(i:Int)<P.length:=by omega
 obtain⟨x,hx⟩:∃x,P[i]?=some x:=⟨_,List.getElem?_eq_getElem h⟩;have hxz:=HPz.out x (List.mem_of_getElem? hx);obtain⟨_,_,e9,_,_,h4⟩:=Hp.below (HB0.trans (HB.mono HB0.size));cases e9;obtain⟨b,o,cs0,rfl,rfl,hc⟩:=h4 i x hx;have hc0:wr.cell? ⟨b,o+i,none⟩=some (.string x):=by have:=hc 0 _ rfl;rwa [show o+i*strS.n+0=o+i by show o+i*1+0=o+i;omega]at this
 obtain⟨F,hF⟩:=zNm (partF id d s n r i x);have HF:Hid ((partsF id d s n r P).take (i+1)=(partsF id d s n r P).take i++[F]):=zY (by
  rw[<-hF]
  have:=range_step (fun i=>partF id d s n r i (P.getD i ⟨#[]⟩)) hx
  simp only[List.getD,hx,Option.getD_some]at this
  exact this);obtain⟨j,hj⟩:=zNm (28-x.size);have hjI:(28:Int)-x.size=j:=by omega
 have hjw:IntKind.i64.wrap ((28:Int)-x.size)=j:=by rw[hjI];exact zIw (by omega)
 obtain⟨Z,hZ⟩:=zNm (strB (List.replicate j 0));have hZz:Z.size=j:=by rw[<-hZ,strB_size,List.length_replicate]
 have HRp:Hid (∀V:World,Calls prog 55 #[.string ⟨#[0]⟩,.int .i64 (j:Int)] V fun e w'=>e=.returned (.string Z)/\Below V.heap.size V w'):=zY (fun V=>by rw[<-hZ];exact repeat_any V 0 j (by omega));have hFe:F=⟨68,r,n,i,x.size,d,s,id,x++Z⟩:=by rw[<-hF,partF,fillB,hj,hZ]
 have HOn:Hid (∀V,Below wa.heap.size wa V->Calls prog 85 #[.int .i64 68,.int .i64 (i:Int),.int .i64 (x.size:Int),.string (x++Z),.pointer (some ⟨w.heap.size+1+1,0,none⟩),.pointer (some ⟨w.heap.size+1,0,none⟩),.pointer (some ⟨w.heap.size,0,none⟩)] V fun e w'=>e=.returned F.v/\Below V.heap.size V w'):=zY (fun V hV=>by
  rw[hFe]
  exact onr1_any V 68 i x.size n r id d s (x++Z) v _ _ _ ((hV.block _ HR.lt).trans HR.out) ((hV.block _ HN.lt).trans HN.out) (HK.kept hV));have hcc:¬9223372036854775807<x.size+Z.size:=by omega
 have Hl1:Hid (((partsF id d s n r P).take i).length+1<=100000000):=zY (by rw[List.length_take];omega);clear hc h4 hx hF hZ hZz hj hFe;go_wp2_with fail;refine(HRp.out _).mono ?_;rintro e5 w5 ⟨rfl,hb5⟩;have HB5:=zYt HB hb5;have HO5:=zY (HO.stay (W':=w5) fun k o _ ho _=>(hb5.block k (Array.getElem?_eq_some_iff.1 ho).1).trans ho);clear hb5 HRp hc0;go_wp2_with fail;refine(HOn.out _ HB5.out).mono ?_;rintro e6 w6 ⟨rfl,hb6⟩;have HB6:=zYt HB5 hb6;have HO6:=zY (HO5.stay (W':=w6) fun k o _ ho _=>(hb6.block k (Array.getElem?_eq_some_iff.1 ho).1).trans ho);clear hb6 HOn;obtain⟨fk,fr,fs,fi,fl,fd,fp,fa,ft⟩:=F;unfold Frm.v frV;go_wp2_with (at_builtin;refine append_seq (w0:=wa) (us:=[⟨fk,fr,fs,fi,fl,fd,fp,fa,ft⟩]) Tryz.elemFrm rfl _ _ rfl rfl (HO6.alloc _) rfl (src1 (ρ:=frmS) (Frm.cells ⟨fk,fr,fs,fi,fl,fd,fp,fa,ft⟩) ⟨fk,fr,fs,fi,fl,fd,fp,fa,ft⟩ rfl rfl) Hl1.out (HB6.alloc HB6.size _) ?_;intro vb wb hob _ hbb;have KV:=zY hob;have KC:=zY hbb;clear hob hbb);go_roundw;case rel=>exact⟨i+1,by omega,by go_num,by rw[HF.out];exact KV.out,KC.out⟩
 case measure=>simp[intOf];omega};{
 obtain rfl:i=P.length:=by omega
 have hiI:¬((P.length:Nat):Int)<(P.length:Int):=by omega
 have hall:(partsF id d s n r P).take P.length=partsF id d s n r P:=List.take_of_length_le (by simp[partsF]);rw[hall]at HO;have k1:=(HC.kept HB.out).c 1;clear hall;go_wp2;obtain⟨wx,hwx⟩:∃x,x=wr:=⟨_,rfl⟩;subst hwx;go_loopw [10,42] (fun y x wr=>∃i:Nat,i<=S.length/\x=.int .i64 (i:Int)/\OwnSeq frmS 49 wa wr y (partsF id d s n r P++(stripsF id d s n r st S).take i)/\Below wa.heap.size wa wr) (fun _ x _=>S.length-(intOf x).toNat);case atStart=>exact⟨0,by omega,rfl,by rw[List.take_zero,List.append_nil];exact HO.out,HB.out⟩
 case round=>
 obtain⟨i,hi,rfl,ho,hB⟩:=hrel;have HO:=zY ho;have HB:=zY hB;obtain⟨Ao,co,rfl⟩:=ho.slice;clear ho hB k1;generalize hno:(partsF id d s n r P++(stripsF id d s n r st S).take i).length=no at *;have Hno:=zY hno;clear hno;by_cases h:i<S.length;{
 have hiI:(i:Int)<S.length:=by omega
 obtain⟨x,hx⟩:∃x,S[i]?=some x:=⟨_,List.getElem?_eq_getElem h⟩;have hxr:=HSr.out x (List.mem_of_getElem? hx);obtain⟨_,_,e9,_,_,h4⟩:=Hs.out;cases e9;obtain⟨b,o,cs0,rfl,⟨rv,rfl,hrv⟩,hc⟩:=h4 i x hx;have hw:Below w.heap.size w wr:=HB0.trans (HB.mono HB0.size);have hc0:wr.cell? ⟨b,o+i,none⟩=some rv:=by have:=cell_below hw (hc 0 _ rfl);rwa [show o+i*rowS.n+0=o+i by show o+i*1+0=o+i;omega]at this
 obtain⟨y,hy⟩:∃y,x[r]?=some y:=⟨_,List.getElem?_eq_getElem hxr⟩;obtain⟨Ax,cx,rfl,_,_,h5⟩:=hrv;obtain⟨sb,so,cs1,rfl,rfl,hc1⟩:=h5 r y hy;have hq0:w.cell? ⟨sb,so+r,none⟩=some (.string y):=by have:=hc1 0 _ rfl;rwa [show so+r*strS.n+0=so+r by show so+r*1+0=so+r;omega]at this
 have Hq0:=zY hq0;clear hw;obtain⟨F,hF⟩:=zNm (stripF id d s n r st i x);have HF:Hid (partsF id d s n r P++(stripsF id d s n r st S).take (i+1)=partsF id d s n r P++(stripsF id d s n r st S).take i++[F]):=zY (by
  rw[<-hF,List.append_assoc]
  have:=range_step (fun i=>stripF id d s n r st i (S.getD i [])) hx
  simp only[List.getD,hx,Option.getD_some]at this
  exact congrArg _ this);obtain⟨u,hu⟩:=zNm (usedF d.toNat r i st.size);have hFe:F=⟨66,r,n,i,u,d,s,id,y⟩:=by rw[<-hF,stripF,hu,List.getD,hy,Option.getD_some]
 have HUs:Hid (∀V:World,Calls prog 86 #[.agg #[.int .i64 d,.int .i64 s],.string st,.int .i64 (i:Int),.int .i64 (r:Int)] V fun e w'=>e=.returned (.int .i64 (u:Int))/\Below V.heap.size V w'):=zY (fun V=>by
  have h:=volused_any V d.toNat r i s st (by omega) hr (by omega) hst
  rw[Int.toNat_of_nonneg (by omega),hu]at h
  exact h);have HOn:Hid (∀V,Below wa.heap.size wa V->Calls prog 85 #[.int .i64 66,.int .i64 (i:Int),.int .i64 (u:Int),.string y,.pointer (some ⟨w.heap.size+1+1,0,none⟩),.pointer (some ⟨w.heap.size+1,0,none⟩),.pointer (some ⟨w.heap.size,0,none⟩)] V fun e w'=>e=.returned F.v/\Below V.heap.size V w'):=zY (fun V hV=>by
  rw[hFe]
  exact onr1_any V 66 i u n r id d s y v _ _ _ ((hV.block _ HR.lt).trans HR.out) ((hV.block _ HN.lt).trans HN.out) (HK.kept hV));have Hl1:Hid ((partsF id d s n r P++(stripsF id d s n r st S).take i).length+([F]:List Frm).length<=100000000):=zY (by rw[List.length_append,List.length_take,List.length_singleton,partsF,List.length_map,List.length_range];omega);generalize hxl:x.length=xl at *;have hrI:(r:Int)<xl:=by omega
 clear hc hc1 h4 h5 hx hy hF hu hFe;go_upto_region 11 with fail;obtain⟨wq,hwq⟩:∃wq,wq=wr.drew:=⟨_,rfl⟩;have HBq:Hid (Below wa.heap.size wa wq):=zY (by rw[hwq];exact HB.drew);have HOq:Hid (OwnSeq frmS 49 wa wq (.slice Ao no co) (partsF id d s n r P++(stripsF id d s n r st S).take i)):=zY (by rw[hwq];exact HO.stay fun k o _ ho _=>ho);have HKS:Hid (∀W,Below wa.heap.size wa W->W.cell? ⟨w.heap.size,1,none⟩=some (.int .i64 d)/\W.cell? ⟨w.heap.size,2,none⟩=some (.int .i64 s)/\W.cell? ⟨w.heap.size+1+1+1,2,none⟩=some (.string st)/\W.cell? ⟨w.heap.size+1+1,0,none⟩=some (.int .i64 (r:Int))/\W.cell? ⟨sb,so+r,none⟩=some (.string y)):=zY (fun W hb=>by
  have h1:=HK.kept hb
  have h2:=HC.kept hb
  have h3:Boxed W (w.heap.size+1+1) 3 (.int .i64 (r:Int)):=(hb.block _ HR.lt).trans HR.out
  exact⟨h1.c 1,h1.c 2,h2.c 2,h3.cell,cell_below (HB0.trans (hb.mono HB0.size)) Hq0.out⟩);have HB:=zY HBq.out;have HS:=zY (HKS.out _ HB.out);have HO:=zY HOq.out;clear hc0 hq0 HOq HBq;refine wp_region_held_drew (S:=(fun W=>W.cell? ⟨w.heap.size,1,none⟩=some (.int .i64 d)/\W.cell? ⟨w.heap.size,2,none⟩=some (.int .i64 s)/\W.cell? ⟨w.heap.size+1+1+1,2,none⟩=some (.string st)/\W.cell? ⟨w.heap.size+1+1,0,none⟩=some (.int .i64 (r:Int))/\W.cell? ⟨sb,so+r,none⟩=some (.string y))) (by kernel_rfl) ?_ (fun hHeld=>?_);{
 rw[<-hwq];exact HS.out};rw[<-hwq];clear hwq;refine tk 0 ?_;refine tk 1 ?_;refine tk 2 ?_;refine tk 3 ?_;refine tk 4 ?_;refine tk 5 ?_;refine tk 6 ?_;refine tk 7 ?_;refine tk 8 ?_;refine tk 10 ?_;refine tk 11 ?_;refine tk 12 ?_;refine tk 13 ?_;refine zE1 9 fun K hK=>?_;go_simp;refine(HUs.out _).mono ?_;rintro e5 w5 ⟨rfl,hb⟩;(try go_wp2_with fail);have HO:=zY (HO.stay (W':=w5) fun k o _ ho _=>(hb.block k (Array.getElem?_eq_some_iff.1 ho).1).trans ho);have HB:=zYt HB hb;clear hb;have HS:=zY (HKS.out _ HB.out);refine hko hK (by exact HS.out) (fun _=>?_);clear hK K;refine zE1 14 fun K hK=>?_;go_simp;refine(HOn.out _ (HB.out)).mono ?_;rintro e6 w6 ⟨rfl,hb⟩;(try go_wp2_with fail);have HO:=zY (HO.stay (W':=w6) fun k o _ ho _=>(hb.block k (Array.getElem?_eq_some_iff.1 ho).1).trans ho);have HB:=zYt HB hb;clear hb;have HS:=zY (HKS.out _ HB.out);refine hko hK (by exact HS.out) (fun _=>?_);clear hK K;refine zE1 15 fun K hK=>?_;obtain⟨fk,fr,fs,fi,fl,fd,fp,fa,ft⟩:=F;unfold Frm.v frV;go_simp;have HX:Hid (SrcAt frmS wa (w6.alloc (.cells (Frm.cells ⟨fk,fr,fs,fi,fl,fd,fp,fa,ft⟩).toArray 49)) (.slice (some ⟨w6.heap.size,0,none⟩) 1 1) [⟨fk,fr,fs,fi,fl,fd,fp,fa,ft⟩]):=zY (src1 (ρ:=frmS) (Frm.cells ⟨fk,fr,fs,fi,fl,fd,fp,fa,ft⟩) ⟨fk,fr,fs,fi,fl,fd,fp,fa,ft⟩ rfl rfl);have HO:=zY (HO.alloc (.cells (Frm.cells ⟨fk,fr,fs,fi,fl,fd,fp,fa,ft⟩).toArray 49));have HB:=zY (HB.alloc HB.size (.cells (Frm.cells ⟨fk,fr,fs,fi,fl,fd,fp,fa,ft⟩).toArray 49));have HS:=zY (HKS.out _ HB.out);refine hko hK (by exact HS.out) (fun _=>?_);clear hK K;refine zE1 16 fun K hK=>?_
 refine wp_append_seq (ρ:=frmS) (w0:=wa) Tryz.elemFrm (.tmp 47) (.tmp 62) rfl rfl HO.out rfl HX.out Hl1.out (HB.out) ?_;intro vb wb hob hgb hbb;have KV:=zY hob;have KC:=zY hbb;have HB:=zY hbb;clear hob hbb hgb;have HS:=zY (HKS.out _ HB.out);refine hko hK (by exact HS.out) (fun _=>?_);clear hK K;refine tk 17 ?_;refine wpAnyH_done (by kernel_rfl) ?_ _;go_wp2_with fail;go_roundw;case rel=>exact⟨i+1,by omega,by go_num,by rw[HF.out];exact KV.out,KC.out⟩
 case measure=>simp[intOf];omega};{
 obtain rfl:i=S.length:=by omega
 have hiI:¬((S.length:Nat):Int)<(S.length:Int):=by omega
 have hall:partsF id d s n r P++(stripsF id d s n r st S).take S.length=reelL id d s n r P S st:=by rw[List.take_of_length_le (by simp[stripsF])];rfl
 rw[hall]at HO;clear hall;go_wp2;go_ret;exact⟨⟨_,rfl,HO.low flatFrm HB0.size⟩,HB0.trans (HB.mono HB0.size)⟩}}
end
end Go.Proofs.YthgenkkkapilhaaGreatDoor