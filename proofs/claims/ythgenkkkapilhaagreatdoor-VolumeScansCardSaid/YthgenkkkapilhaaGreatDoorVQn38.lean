/-
  Joined: VrB VrC VrE.
-/
import Derived.Test.YthgenkkkapilhaaGreatDoorVQn31
import Derived.Test.YthgenkkkapilhaaGreatDoorVQn33
set_option linter.all false
set_option maxRecDepth 100000
set_option maxHeartbeats 64000000
namespace Go.Proofs.YthgenkkkapilhaaGreatDoor
open Go.Proofs.Tryz
section
open Go.RowKit Go.Shelf
attribute [local go_sem] Oper.semAt_some
def blockB (st:ByteArray) (m:Nat):ByteArray:=strB ((List.range 28).map fun j=>cf (bs st) (28*m+j))
theorem blockB_size (st:ByteArray) (m:Nat):(blockB st m).size=28:=by rw[blockB,strB_size];simp
def datL (d:Nat) (st:ByteArray) (k:Nat):List ByteArray:=(List.range d).map fun i=>blockB st (k*d+i)
theorem datL_len (d:Nat) (st:ByteArray) (k:Nat):(datL d st k).length=d:=by simp[datL]
def strN (d n:Nat):Nat:=(n+28*d-1)/(28*d)
def stripL (d:Nat) (st:ByteArray):List (List ByteArray):=(List.range (strN d st.size)).map (datL d st)
theorem strN_lt {d n k:Nat} (hd:1<=d):k<strN d n↔28*d*k<n:=by
 unfold strN;have h28:0<28*d:=by omega
 rw[Nat.lt_iff_add_one_le,Nat.le_div_iff_mul_le h28,Nat.mul_comm (k+1),Nat.mul_add,Nat.mul_one];omega
theorem cf_byte (s:ByteArray) (i:Nat):cf (bs s) i<256:=by
 by_cases h:i<s.size;{rw[bsc s i h];exact UInt8.toNat_lt _};{rw[cf,List.getElem?_eq_none (by rw[bs_len];omega)];decide}
theorem cut_block {st X Z P:ByteArray} {a n w i d k:Nat} (ha:a=28*d*k) (hw:w=28*d) (hn:n=min w (st.size-a)) (has:a<=st.size) (hX:X=st.extract a (a+n)) (hZ:Z=strB (List.replicate (w-n) 0)) (hP:P=X++Z) (hi:i<d):P.extract (28*i) (28*(i+1))=blockB st (k*d+i):=by
 have hXb:bs X=((bs st).take (a+n)).drop a:=by rw[hX,bs_extract]
 have hZb:bs Z=List.replicate (w-n) 0:=by rw[hZ,bs_strB (fun b hb=>by rw[(List.mem_replicate.1 hb).2];decide)]
 have hPb:bs P=bs X++bs Z:=by rw[hP];unfold bs;rw[ByteArray.data_append,Array.toList_append,List.map_append]
 have hXl:(bs X).length=n:=by rw[hXb,List.length_drop,List.length_take,bs_len];omega
 have hid:28*(i+1)<=w:=by rw[hw];exact Nat.mul_le_mul (Nat.le_refl 28) hi
 have hPl:(bs P).length=w:=by rw[hPb,List.length_append,hXl,hZb,List.length_replicate];omega
 apply bs_inj;rw[bs_extract,blockB,bs_strB (fun b hb=>by
  obtain⟨j,_,rfl⟩:=List.mem_map.1 hb
  exact cf_byte st _)];apply List.ext_getElem?;intro j;rw[List.getElem?_drop,List.getElem?_map];by_cases hj:j<28;{
 rw[List.getElem?_range hj,List.getElem?_take,if_pos (by omega)];show _=some (cf (bs st) (28*(k*d+i)+j));have e:28*(k*d+i)+j=a+(28*i+j):=by rw[ha,Nat.mul_add,Nat.mul_comm k d,<-Nat.mul_assoc];omega
 rw[e,hPb];by_cases hjn:28*i+j<n;{
 rw[List.getElem?_append_left (by rw[hXl];exact hjn),hXb,List.getElem?_drop,List.getElem?_take,if_pos (by omega),cf];have hlt:a+(28*i+j)<(bs st).length:=by rw[bs_len];omega
 rw[List.getElem?_eq_getElem hlt];rfl};{
 rw[List.getElem?_append_right (by rw[hXl];omega),hZb,List.getElem?_replicate,if_pos (by omega),cf,List.getElem?_eq_none (by rw[bs_len];omega)];rfl}};{
 rw[List.getElem?_eq_none (l:=List.range 28) (by simp;omega),List.getElem?_eq_none (by rw[List.length_take];omega)];rfl}
def datI (d:Nat) (st:ByteArray) (k i:Nat):List ByteArray:=(List.range d).map fun j=>if j<i then blockB st (k*d+j) else ⟨#[]⟩
theorem datI_step {d:Nat} {st:ByteArray} {k i:Nat}:(datI d st k i).set i (blockB st (k*d+i))=datI d st k (i+1):=by
 apply List.ext_getElem (by simp[datI]);intro j h1 h2;rw[List.getElem_set];by_cases hj:i=j;{
 subst hj;simp[datI]};{
 rw[if_neg hj];simp only[datI,List.getElem_map,List.getElem_range];by_cases h3:j<i;{rw[if_pos h3,if_pos (by omega)]};{rw[if_neg h3,if_neg (by omega)]}}
theorem datI_zero {d:Nat} {st:ByteArray} {k:Nat}:datI d st k 0=List.replicate d ⟨#[]⟩:=by
 apply List.ext_getElem (by simp[datI]);intro j h1 h2;simp[datI]
theorem datI_all {d:Nat} {st:ByteArray} {k:Nat}:datI d st k d=datL d st k:=by
 unfold datI datL;refine List.map_congr_left fun j hj=>?_;rw[if_pos (List.mem_range.1 hj)]
theorem make_strs (n:Nat) (hc:n<=1000000) (w:World):(Instr.makeSlice 51 (.int .i64 (n:Int)) (.int .i64 (n:Int))).run prog w=.ok (.slice (some ⟨w.heap.size,0,none⟩) n n) (w.alloc (.cells ((List.replicate n (⟨#[]⟩:ByteArray)).map Value.string).toArray 9)):=by
 obtain⟨i0,hi,hz0,hz1,hz2⟩:=infoV_parts Tryz.infoStrV;have hr:=run_make (P:=prog) w 51 9 i0 (.string ⟨#[]⟩) underlying51 hi hz0 .i64 .i64 n n (by omega) (by omega) (by rw[hz2];omega) (by omega);rw[hr,hz1];have e:madeCells (Value.string ⟨#[]⟩).cells ((n:Int).toNat*1)=((List.replicate n (⟨#[]⟩:ByteArray)).map Value.string).toArray:=by show madeCells #[Value.string ⟨#[]⟩] _=_;unfold madeCells;rw[Nat.mul_one,Int.toNat_natCast,List.map_replicate];refine Array.ext (by simp) fun i h1 h2=>?_;simp[Nat.mod_one]
 rw[e];rfl
def boxZ (g:Nat) (W:World):Nat:=match W.cell? ⟨g,0,none⟩with
 |some (.string s)=>s.size
 |_=>0
theorem boxZ_of {g:Nat} {W:World} {s:ByteArray} (h:Boxed W g 9 (.string s)):boxZ g W=s.size:=by
 unfold boxZ;rw[h.cell]
def RdD (B:Nat) (x:List ByteArray) (args:Array Value) (W:World):Prop:=∃g,args= #[.slice (some ⟨g,0,none⟩) x.length x.length]/\Blk W g 9 (x.map Value.string)/\B<=g
theorem layblocks_any (w:World) (d s:Int) (st:ByteArray):Calls prog 158 #[.agg #[.int .i64 d,.int .i64 s],.string st] w fun e w'=>e=.returned (.func (.func 234) #[] #[.pointer (some ⟨w.heap.size,0,none⟩),.pointer (some ⟨w.heap.size+1,0,none⟩)])/\w'=(w.alloc (.cells #[.int .i64 d,.int .i64 s] 24)).alloc (.cells #[.string st] 9):=by
 go_enter func158,ntmps158;go_wp2;go_ret;exact⟨rfl,rfl⟩
theorem blocks_all (W0:World) (bl bx d:Nat) (sp:Int) (st:ByteArray) (hd:1<=d/\d<=8) (hs:st.size<=100000000) (hl:Blk W0 bl 24 [.int .i64 (d:Int),.int .i64 sp]) (hb:Boxed W0 bx 9 (.string st)) (hne:bl≠bx):
  rangeStr.IterX prog 234 #[.pointer (some ⟨bl,0,none⟩),.pointer (some ⟨bx,0,none⟩)] (RdD W0.heap.size) (fun k=>k=bl∨k=bx) (fun k=>k=bx) (stripL d st) W0:=by
 intro l J W hW hJ hY h0;have HL0:=zY (hl.kept hW);have HX0:Hid (Boxed W bx 9 (.string st)):=zY ((hW.block bx hb.lt).trans hb);have HJ:=zY hJ;have HY:=zY hY;have H0:=zY h0;have HWz:=zY hW.size;have Hbx:=zY (show bx<W.heap.size from HX0.lt);have Hbl:=zY (show bl<W.heap.size from HL0.lt);have Hne:=zY hne;clear hJ hY h0 hW hl hb hne;obtain⟨w,hw⟩:=zNm (28*d);have hwI:(d:Int)*28=w:=by omega
 have hwr:IntKind.i64.wrap ((d:Int)*28)=w:=by rw[zIw (by omega)];omega
 have c0:=HL0.c 0;refine callsIn_of_wp func234 rfl trivial ?_ rfl;simp only[ntmps234,List.size_toArray,List.length_cons,List.length_nil,Nat.reduceAdd,Nat.reduceSub,Array.replicate_succ,Array.replicate_zero,List.push_toArray,List.append_toArray,List.nil_append,List.cons_append];gi_wp2;gi_loopw [] (fun wr=>∃k:Nat,k<=strN d st.size/\W.heap.size<=wr.heap.size/\Blk wr bl 24 [.int .i64 (d:Int),.int .i64 sp]/\Boxed wr bx 9 (.string (st.extract (min (w*k) st.size) st.size))/\J ((stripL d st).take k) wr) (fun wr=>boxZ bx wr);case atStart=>exact⟨0,by omega,Nat.le_refl _,HL0.out,by rw[Nat.mul_zero,Nat.zero_min,cut_all];exact HX0.out,H0.out⟩
 case round=>
 obtain⟨k,hk,hsz,hlr,hbr,hj⟩:=hrel;have HL:=zY hlr;have HX:=zY hbr;have HJr:=zY hj;have HSz:=zY hsz;clear hlr hbr hj hsz c0 HL0 HX0 H0;by_cases h:k<strN d st.size;{
 have ha:=(strN_lt hd.1).1 h;rw[hw]at ha;obtain⟨a,ha'⟩:∃a,w*k=a:=⟨_,rfl⟩;rw[ha']at ha HX;rw[Nat.min_eq_left (by omega)]at HX;obtain⟨T,hT⟩:=zNm (st.extract a st.size);have hTz:T.size=st.size-a:=by rw[<-hT,ByteArray.size_extract];omega
 rw[hT]at HX;have hcell:=HX.cell;have hfr:=HX.frozen;have hT0:(0:Int)<T.size:=by omega
 obtain⟨n,hn⟩:=zNm (min w (st.size-a));have hmin:min (w:Int) (T.size:Int)=n:=by omega
 have hn0:(0:Int)<=n:=by omega
 have hnT:(n:Int)<=T.size:=by omega
 have hnTn:n<=T.size:=by omega
 obtain⟨X,hX⟩:=zNm (T.extract 0 n);obtain⟨U,hU⟩:=zNm (T.extract n T.size);have hXz:X.size=n:=by rw[<-hX,ByteArray.size_extract];omega
 have hXe:X=st.extract a (a+n):=by rw[<-hX,<-hT,cut_at st a n (by omega)]
 have hXzI:(X.size:Int)=n:=by omega
 obtain⟨j,hj⟩:=zNm (w-n);have hjI:(w:Int)-n=j:=by omega
 have hwr2:IntKind.i64.wrap ((w:Int)-n)=j:=by rw[zIw (by omega)];omega
 have hwr3:IntKind.i64.wrap (j:Int)=j:=zIw (by omega);obtain⟨Z,hZ⟩:=zNm (strB (List.replicate j 0));have hZz:Z.size=j:=by rw[<-hZ,strB_size,List.length_replicate]
 obtain⟨P,hP⟩:=zNm (X++Z);have hPz:P.size=w:=by rw[<-hP,ByteArray.size_append];omega
 have HCut:Hid (∀i,i<d->P.extract (28*i) (28*(i+1))=blockB st (k*d+i)):=zY (fun i hi=>cut_block (a:=a) (n:=n) (w:=w) (d:=d) (k:=k) (by rw[<-ha',hw]) hw.symm hn.symm (by omega) hXe (by rw[hj];exact hZ.symm) hP.symm hi);have HU:Hid (U=st.extract (min (w*(k+1)) st.size) st.size):=zY (by
  rw[<-hU,hTz,<-hT,cut_rest st a n (by omega),Nat.mul_add,ha',Nat.mul_one]
  congr 1
  omega);have HUz:Hid (U.size<T.size):=zY (by rw[<-hU,ByteArray.size_extract];omega);have HRp:Hid (∀V:World,Calls prog 55 #[.string ⟨#[0]⟩,.int .i64 (j:Int)] V fun e w'=>e=.returned (.string Z)/\Below V.heap.size V w'):=zY (fun V=>by rw[<-hZ];exact repeat_any V 0 j (by omega));have hcc:¬9223372036854775807<X.size+Z.size:=by omega
 have HXs:=zY (Boxed.set (.string U) HX.out);have HLs:=zY (HL.far (p:=⟨bx,0,none⟩) Hne.out (.string U));have HJs:=zY (HJ.out _ _ _ HJr.out HSz.out (rangeOwn.Aside.setX (X:=fun k=>k=bx) (p:=⟨bx,0,none⟩) rfl (.string U)));have HSs:Hid (W.heap.size<=(wr.setCell ⟨bx,0,none⟩ (.string U)).heap.size):=zY (by simpa using HSz.out);have HTw:=zY (boxZ_of HX.out);clear ha' hT hTz hXe hj hZ hZz hn hXz;gi_upto_region 4 with fail;generalize wr.setCell ⟨bx,0,none⟩ (.string U)=wb at *;clear hcell hfr;gi_wp2_with fail;refine⟨trivial,rfl,?_⟩;gi_at_call 55;refine(callsIn_wide.2 (HRp.out _)).mono ?_;rintro e2 w2 ⟨rfl,hb2⟩;have HX2:Hid (Boxed w2 bx 9 (.string U)):=zY ((hb2.block bx HXs.lt).trans HXs.out);have HL2:=zY (HLs.kept hb2);have HJ2:=zY (HJ.out _ _ _ HJs.out HSs.out (rangeOwn.Aside.of_below hb2 HSs.out));have HS2:=zY (Nat.le_trans HSs.out hb2.size);clear hb2 HX HL HJr HSz HJs HSs HXs HLs;have c0:=HL2.c 0;have hmk:∀V:World,(Instr.makeSlice 51 (.int .i64 (d:Int)) (.int .i64 (d:Int))).run prog V=.ok (.slice (some ⟨V.heap.size,0,none⟩) d d) (V.alloc (.cells ((datI d st k 0).map Value.string).toArray 9)):=fun V=>by
  rw[datI_zero]
  exact make_strs d (by omega) V
 have HD0:=zY (Blk.new w2 9 ((datI d st k 0).map Value.string));have HBa:=zY (zBl w2 (.cells ((datI d st k 0).map Value.string).toArray 9));gi_wp2_with fail;try rw[hmk]
 clear hmk;gi_upto_region 6 with fail;have HGe:Hid (W0.heap.size<=w2.heap.size):=zY (by have:=HWz.out;have:=HS2.out;omega);clear hX hU hwr2 hwr3 hjI hmin hT0 c0;obtain⟨g,hg⟩:=zNm (w2.heap.size);generalize w2.alloc (.cells ((datI d st k 0).map Value.string).toArray 9)=wc at *;rw[hg]at HD0 HGe⊢;have Hg:=zY hg;clear hg;gi_wp2;gi_loopw [36] (fun x wq=>∃i:Nat,i<=d/\x=.int .i64 (i:Int)/\Blk wq g 9 ((datI d st k i).map Value.string)/\Below w2.heap.size w2 wq) (fun x _=>d-(intOf x).toNat);case atStart=>exact⟨0,by omega,rfl,HD0.out,HBa.out⟩
 case round=>
 obtain⟨i,hi,rfl,hd2,hb2⟩:=hrel;have HD:=zY hd2;have HB:=zY hb2;clear hd2 hb2 HD0 HBa;by_cases h':i<d;{
 have hiI:(i:Int)<d:=by omega
 have hq:=HD.cell (i:=i) (u:=.string ⟨#[]⟩) (by simp[datI,h']);have hf:=HD.frozen i;have hx:=HCut.out i h';obtain⟨V,hV⟩:=zNm (blockB st (k*d+i));rw[hV]at hx;obtain⟨p,hp⟩:=zNm (28*i);obtain⟨q,hq'⟩:∃q,28*(i+1)=q:=⟨_,rfl⟩;rw[hp,hq']at hx;have hp1:(i:Int)*28=p:=by omega
 have hp2:IntKind.i64.wrap ((i:Int)*28)=p:=by rw[zIw (by omega)];omega
 have hq1:IntKind.i64.wrap ((i:Int)+1)=((i+1:Nat):Int):=by rw[zIw (by omega)];omega
 have hq2:((i:Int)+1)*28=q:=by omega
 have hq3:IntKind.i64.wrap (((i:Int)+1)*28)=q:=by rw[zIw (by omega)];omega
 have hpq:(p:Int)<=q:=by omega
 have hqP:(q:Int)<=P.size:=by omega
 have hpqn:p<=q:=by omega
 have hqPn:q<=P.size:=by omega
 have HDn:=zY (HD.set i (.string V));have HDe:Hid (((datI d st k i).map Value.string).set i (.string V)=(datI d st k (i+1)).map Value.string):=zY (by rw[<-List.map_set,<-hV,datI_step]);rw[HDe.out]at HDn;have HBn:=zY (HB.setCell (show w2.heap.size<=(⟨g,i,none⟩:Addr).block by show w2.heap.size<=g;have:=Hg.out;omega) (.string V));clear hV hp hq' HDe;gi_wp2;go_roundw;case rel=>exact⟨i+1,by omega,by go_num,HDn.out,HBn.out⟩
 case measure=>simp[intOf];omega};{
 obtain rfl:i=d:=by omega
 have hiI:¬((i:Nat):Int)<(i:Int):=by omega
 have HDa:Hid (Blk wr g 9 ((datL i st k).map Value.string)):=zY (by rw[<-datI_all];exact HD.out);have HJ3:=zY (HJ.out _ _ _ HJ2.out HS2.out (rangeOwn.Aside.of_below HB.out HS2.out));have HS3:=zY (Nat.le_trans HS2.out HB.size);have HL3:=zY (HL2.kept HB.out);have HX3:Hid (Boxed wr bx 9 (.string U)):=zY ((HB.block bx HX2.lt).trans HX2.out);have hget:(stripL i st)[k]?=some (datL i st k):=by rw[stripL,List.getElem?_map,List.getElem?_range h];rfl
 have htk:(stripL i st).take (k+1)=(stripL i st).take k++[datL i st k]:=by rw[List.take_add_one,hget];rfl
 have Htk:=zY htk;obtain⟨fn,tmps,assign,body,hy,hR⟩:=HY.out ((stripL i st).take k) (datL i st k) #[.slice (some ⟨g,0,none⟩) i i] wr HJ3.out ⟨g,by rw[datL_len],HDa.out,HGe.out⟩ (by rw[<-htk];exact List.take_prefix _ _);have HR:=zY hR;clear hR hget htk HD HB HCut;gi_wp2;refine⟨rfl,HR.mono ?_⟩;rintro e W1 ⟨rfl,hj1,hk1⟩;have Hj4:=zY hj1;have Hk1:=zY hk1;have HX4:Hid (Boxed W1 bx 9 (.string U)):=zY (hk1.2 _ _ HX3.out (.inr (.inr rfl)));have HL4:Hid (Blk W1 bl 24 [.int .i64 (i:Int),.int .i64 sp]):=zY (hk1.2 _ _ HL3.out (.inr (.inl rfl)));clear hj1 hk1;gi_wp2;go_roundw;case rel=>exact⟨k+1,by omega,Nat.le_trans HS3.out Hk1.1,HL4.out,by rw[<-HU.out];exact HX4.out,by rw[Htk.out];exact Hj4.out⟩
 case measure=>rw[boxZ_of HX4.out,HTw.out];exact HUz.out}};{
 have hka:¬w*k<st.size:=fun e=>h ((strN_lt hd.1).2 (by rw[hw];exact e));rw[Nat.min_eq_right (by omega)]at HX;obtain⟨T,hT⟩:=zNm (st.extract st.size st.size);have hTz:T.size=0:=by rw[<-hT,ByteArray.size_extract];omega
 rw[hT]at HX;have hcell:=HX.cell;have hT0:¬(0:Int)<T.size:=by omega
 have HE:Hid ((stripL d st).take k=stripL d st):=zY (List.take_of_length_le (by simp[stripL];omega));clear hT hTz hka;gi_wp2;have key:J (stripL d st) wr:=by rw[<-HE.out];exact HJr.out
 go_end0;exact⟨⟨_,rfl⟩,key⟩}
attribute [local go_sem] Oper.semAt_some
def rowS:Shape (List ByteArray) where
 n:=1
 R w cs x:=∃v,cs=[v]/\SeqAt strS w v x
 len h:=by obtain⟨_,rfl,_⟩:=h;rfl
 one h u hu:=by
  obtain⟨v,rfl,h⟩:=h
  rw[List.mem_singleton.1 hu]
  exact h.one
 keep h hb:=by
  obtain⟨v,e,h⟩:=h
  exact⟨v,e,h.below hb⟩
theorem Tryz.elemStrs:Elem prog 96 51 1 24 (.slice none 0 0):=⟨underlying96,by kernel_rfl,rfl,by decide,by decide⟩
theorem OwnRows.at {t t':TypeId} {w0 W:World} {v:Value} {xss:List (List ByteArray)} (h:OwnRows t t' w0 W v xss) (hle:w0.heap.size<=W.heap.size):SeqAt rowS W v xss:=by
 obtain⟨rs,h1,h2⟩:=h;have hz:=upto_size hle;obtain⟨A,c,rfl,h3,h4,h5⟩:=(h1.size flatV hz).at (upto_below hle);rw[h2.len]at h3⊢;refine⟨A,c,rfl,h3,h4,fun i x hx=>?_⟩;obtain⟨r,hr,hs⟩:=h2.at hx;obtain⟨b,o,cs,e,⟨rfl,_⟩,h6⟩:=h5 i r hr;exact⟨b,o,_,e,⟨r,rfl,(hs.size flatS hz).at (upto_below hle)⟩,h6⟩
theorem flatB {W:World} {g:Nat} {t:TypeId} {x:List ByteArray} (h:Blk W g t (x.map Value.string)):Blk W g t (x.map fun s=>[Value.string s]).flatten:=by
 have e:∀l:List ByteArray,(l.map fun s=>[Value.string s]).flatten=l.map Value.string:=by{
 intro l;induction l with
 |nil=>rfl
 |cons a r ih=>rw[List.map_cons,List.flatten_cons,ih];rfl};rwa [e]
theorem bothB (x:List ByteArray) (w:World):Both (strS.R w) (x.map fun s=>[Value.string s]) x:=by
 induction x with
 |nil=>exact .nil
 |cons a r ih=>exact .cons rfl ih
theorem OwnRows.low {t t':TypeId} {w0 w1 W:World} {v:Value} {xss:List (List ByteArray)} (h:OwnRows t t' w1 W v xss) (hs:w0.heap.size<=w1.heap.size):OwnRows t t' w0 W v xss:=by
 obtain⟨rs,h1,h2⟩:=h;exact⟨rs,h1.low flatV hs,h2.mono fun r x h=>h.low flatS hs⟩
theorem OwnSeq.atF {α:Type} {ρ:Shape α} {t:TypeId} {w0 W:World} {v:Value} {xs:List α} (h:OwnSeq ρ t w0 W v xs) (hF:Flat ρ) (hle:w0.heap.size<=W.heap.size):SeqAt ρ W v xs:=(h.size hF (upto_size hle)).at (upto_below hle)
def rowsL (d sp:Nat) (st:ByteArray):List (List ByteArray):=(stripL d st).map fun x=>x++sparL x 28 sp
structure StrI (w w3:World) (go:Nat) (d sp:Int) (xss:List (List ByteArray)) (W:World):Prop where
 box:∃v,Boxed W go 96 v/\OwnRows 51 9 w3 W v xss
 lay:Blk W w.heap.size 24 [.int .i64 d,.int .i64 sp]
 below:Below w.heap.size w W
 le:w3.heap.size<=W.heap.size
theorem StrI.aside {w w3 A B:World} {go bx:Nat} {d sp:Int} {xss:List (List ByteArray)} (h:StrI w w3 go d sp xss A) (ha:rangeOwn.Aside (fun k=>k=bx) w3.heap.size A B) (h1:go<w3.heap.size) (h2:go≠bx) (h3:w.heap.size<bx) (h4:bx<w3.heap.size):StrI w w3 go d sp xss B:=by
 obtain⟨v,hv,ho⟩:=h.box;refine⟨⟨v,(ha.low go h1 h2).trans hv,ho.stay fun k o hk hko hc=>ha.cells k o (show ¬k=bx by omega) hko hc⟩,(ha.low _ (by omega) (show ¬w.heap.size=bx by omega)).trans h.lay,?_,Nat.le_trans h.le ha.size⟩;exact⟨ha.os.trans h.below.os,ha.tape.trans h.below.tape,ha.output.trans h.below.output,Nat.le_trans h.below.size ha.size,fun k hk=>(ha.low k (by omega) (show ¬k=bx by omega)).trans (h.below.block k hk)⟩
theorem str_leaf {w w1 w2 w3 W wq w6 wx:World} {d sp:Int} {v vn:Value} {xss:List (List ByteArray)} (hK:rangeStr.Kept (fun k=>k=w2.heap.size∨k=w2.heap.size+1) W wq) (hB:Below wq.heap.size wq w6) (hbo:Below w3.heap.size w6 wx) (hot:∀k o,w6.heap[k]?=some o->(o.isCells=false∨k<w3.heap.size)->wx.heap[k]?=some o)
  (hr:OwnRows 51 9 w3 wx vn xss) (hbn:Boxed wx w1.heap.size 96 v) (hbl:Below w.heap.size w wq) (hlay:Blk wq w.heap.size 24 [.int .i64 d,.int .i64 sp]) (hle:w3.heap.size<=wq.heap.size)
  (h13:w1.heap.size≠w2.heap.size/\w1.heap.size≠w2.heap.size+1/\w.heap.size≠w1.heap.size/\w.heap.size<=w1.heap.size/\w2.heap.size<w3.heap.size/\w2.heap.size+1<w3.heap.size) (hgl:w1.heap.size<w3.heap.size):
  rangeStr.Kept (fun k=>k=w2.heap.size∨k=w2.heap.size+1) W (wx.setCell ⟨w1.heap.size,0,none⟩ vn)/\StrI w w3 w1.heap.size d sp xss (wx.setCell ⟨w1.heap.size,0,none⟩ vn):=by
 have hsz:=hB.size;have hsx:=hbo.size;refine⟨hK.trans ⟨by simp;omega,fun k o hk ho=>?_⟩,⟨_,Boxed.set vn hbn,hr.stay fun k o hk hko _=>(Below.heap_setCell _ ⟨w1.heap.size,0,none⟩ _ k (show k≠w1.heap.size by omega)).trans hko⟩,?_,?_,by simp;omega⟩;{
 have h6:w6.heap[k]?=some o:=(hB.block k (Array.getElem?_eq_some_iff.1 hk).1).trans hk;have hx:=hot k o h6 (ho.imp id fun h=>by omega);refine(Below.heap_setCell _ ⟨w1.heap.size,0,none⟩ _ k (show k≠w1.heap.size from fun e=>?_)).trans hx;rcases ho with ho|ho;{
 subst e;rw[show wx.heap[w1.heap.size]?=_ from hbn]at hx;cases hx;cases ho};{omega}};{
 have h1:Blk wx w.heap.size 24 [.int .i64 d,.int .i64 sp]:=(hbo.block _ (by omega)).trans ((hlay.kept hB));exact h1.far (p:=⟨w1.heap.size,0,none⟩) (show w.heap.size≠w1.heap.size from h13.2.2.1) vn};{
 have hs:=hbl.size;exact((hbl.trans (hB.mono (by omega))).trans (hbo.mono (by omega))).setCell (p:=⟨w1.heap.size,0,none⟩) (show w.heap.size<=w1.heap.size by omega) vn}
def strTmps (d sp:Int) (st:ByteArray) (g0 go bl:Nat) (q m:Nat) (x:Value):Array Value:=
 #[.agg #[.int .i64 d, .int .i64 sp], .string st, .pointer (some ⟨g0, 0, none⟩), undef, .slice none 0 0, .int .i64 0, .int .i64 0, .pointer (some ⟨go, 0, none⟩), x, undef, undef, .agg #[.int .i64 d, .int .i64 sp], .int .i64 0,
  .int .i64 0,.bool false,undef,.string st,.int .i64 st.size,.pointer (some ⟨g0,0,none⟩),.int .i64 d,.int .i64 q,.int .i64 m,.bool false,.agg #[.int .i64 d,.int .i64 sp],.string st,
  .func (.func 234) #[] #[.pointer (some ⟨bl,0,none⟩),.pointer (some ⟨bl+1,0,none⟩)],x,undef,undef,undef,undef,undef,undef,undef,undef,undef,undef,undef,undef,undef,undef]
theorem laystripes_ok (w:World) (d sp:Nat) (st:ByteArray) (hd:1<=d/\d<=8) (hsp:sp<=7) (hs:st.size<=1835008):Calls prog 84 #[.agg #[.int .i64 (d:Int),.int .i64 (sp:Int)],.string st] w fun e w'=>(∃v,e=.returned (.tuple #[v,.int .i64 0])/\OwnRows 51 9 w w' v (rowsL d sp st))/\Below w.heap.size w w':=by
 have hK:=Blk.new w 24 [.int .i64 (d:Int),.int .i64 (sp:Int)];change Blk (w.alloc (.cells #[.int .i64 (d:Int),.int .i64 (sp:Int)] 24)) _ _ _ at hK;have HK:=zY hK;have HB0:=zY (zBl w (.cells #[.int .i64 (d:Int),.int .i64 (sp:Int)] 24));have HCk:Hid (∀W,Calls prog 45 #[.agg #[.int .i64 (d:Int),.int .i64 (sp:Int)]] W fun e w'=>e=.returned (.int .i64 0)/\Below W.heap.size W w'):=zY (fun W=>by
  have:=laycheck_any W (d:Int) (sp:Int)
  rwa [layE,if_neg (by omega)]at this);obtain⟨q,hq⟩:=zNm (65536*d);have hq1:(65536:Int)*d=q:=by omega
 have hq2:IntKind.i64.wrap ((65536:Int)*d)=q:=by rw[zIw (by omega)];omega
 obtain⟨m,hm⟩:=zNm (q*28);have hm1:(q:Int)*28=m:=by omega
 have hm2:IntKind.i64.wrap ((q:Int)*28)=m:=by rw[zIw (by omega)];omega
 have hlim:¬(m:Int)<st.size:=by omega
 clear hK hq hm;refine(callsIn_wide (n:=0)).1 ?_;refine callsIn_of_wp_marks func84 rfl trivial ?_ rfl;simp only[ntmps84,List.size_toArray,List.length_cons,List.length_nil,Nat.reduceAdd,Nat.reduceSub,Array.replicate_succ,Array.replicate_zero,List.push_toArray,List.append_toArray,List.nil_append,List.cons_append];gi_upto_region 1 with fail;generalize w.alloc (.cells #[.int .i64 (d:Int),.int .i64 (sp:Int)] 24)=wb at *;have c0:=HK.c 0;have c1:=HK.c 1;gi_wp2_with fail;refine⟨trivial,rfl,?_⟩;gi_at_call 45;refine(callsIn_wide.2 (HCk.out _)).mono ?_;rintro e1 w1 ⟨rfl,hb1⟩;have HK1:=zY (HK.kept hb1);have HB1:=zYt HB0 hb1;clear hb1 c0 c1 HCk;have c0:=HK1.c 0;have HG0:=zY (Boxed.new w1 96 (.slice none 0 0));have HB2:=zY (HB1.alloc HB1.size (.cells #[.slice none 0 0] 96));have HK2:=zY (HK1.alloc (.cells #[.slice none 0 0] 96));have Hgo:Hid (w1.heap.size≠w.heap.size):=zY (by have:=HK1.lt;omega);have HGe:Hid (w.heap.size+1<=w1.heap.size):=zY (by have:=HK1.lt;omega);gi_upto_region 7 with fail;generalize w1.alloc (.cells #[.slice none 0 0] 96)=w2 at *;clear c0;have c0:=HK2.c 0;have c1:=HK2.c 1;gi_wp2_with fail;refine⟨trivial,rfl,?_⟩;gi_at_call 158;refine(callsIn_wide.2 (layblocks_any w2 d sp st)).mono ?_;rintro e3 w3 ⟨rfl,hw3⟩;have hsz:w3.heap.size=w2.heap.size+2:=by rw[hw3];simp
 have hL3:Blk w3 w2.heap.size 24 [.int .i64 (d:Int),.int .i64 (sp:Int)]:=by rw[hw3];exact(Blk.new w2 24 [.int .i64 (d:Int),.int .i64 (sp:Int)]).alloc _
 have hX3:Boxed w3 (w2.heap.size+1) 9 (.string st):=by rw[hw3];have:=Boxed.new (w2.alloc (.cells #[.int .i64 (d:Int),.int .i64 (sp:Int)] 24)) 9 (.string st);simpa using this
 have hb3:Below w2.heap.size w2 w3:=by rw[hw3];exact((Below.refl _ _).alloc (Nat.le_refl _) _).alloc (by simp) _
 have h12:w1.heap.size<w2.heap.size:=HG0.lt;have h01:=HGe.out;have hI0:StrI w w3 w1.heap.size d sp [] w3:=⟨⟨_,(hb3.block _ h12).trans HG0.out,OwnRows.nil _⟩,HK2.kept hb3,HB2.trans (hb3.mono HB2.size),Nat.le_refl _⟩;have hIt:=blocks_all w3 w2.heap.size (w2.heap.size+1) d (sp:Int) st hd (by omega) hL3 hX3 (by omega);have HI0:=zY hI0;have HIt:=zY hIt;have Hsz:=zY hsz;have H12:=zY h12;have H01:=zY h01;clear hsz hL3 hX3 hb3 h12 h01 hI0 hIt c0 c1 HG0 HB2 HK2 HK1 HB1 HK HB0 hw3;gi_wp2;have hsz:=Hsz.out;have h12:=H12.out;have h01:=H01.out;refine rangeStr.wpIn_rangeFunc_boxX (gf:=234) (lb:= #[.pointer (some ⟨w2.heap.size,0,none⟩),.pointer (some ⟨w2.heap.size+1,0,none⟩)]) rfl (enters_of func234 (by kernel_rfl) rfl) HIt.out
  (fun k hk=>by subst hk;omega) (fun x args W hr=>by obtain⟨g,e,_⟩:=hr;rw[e];rfl)
  (fun args _=>{ tmps:=strTmps d sp st w.heap.size w1.heap.size w2.heap.size q m (args.getD 0 undef),defers:=[] }) (fun _ W=>W) (fun _ _=>Below.refl _ _)
  (fun pre=>StrI w w3 w1.heap.size d sp (pre.map fun x=>x++sparL x 28 sp))
  (fun x _ a W=>∃g,a={ tmps:=strTmps d sp st w.heap.size w1.heap.size w2.heap.size q m (.slice (some ⟨g,0,none⟩) x.length x.length),defers:=[] }/\Blk W g 9 (x.map Value.string)/\w3.heap.size<=g)
  (fun pre x args W _ _ hr=>by
   obtain⟨g,rfl,h1,h2⟩:=hr
   exact⟨g,rfl,h1,h2⟩)
  (fun x args a A B hb _ ha=>by
   obtain⟨g,e,h1,h2⟩:=hb
   exact⟨g,e,ha.cells _ _ (show ¬g=w2.heap.size+1 by omega) h1 rfl,h2⟩)
  (fun pre A B hi _ ha=>hi.aside ha (by omega) (by omega) (by omega) (by omega)) HI0.out ?assign ?body ?done;case assign=>intro l x args W K hr hK;obtain⟨g,rfl,_⟩:=hr;simp only[strTmps,Array.getD,List.size_toArray,List.length_cons,List.length_nil,Nat.zero_add,Nat.lt_add_one,dite_true,List.getElem_toArray,List.getElem_cons_zero,Array.getInternal_eq_getElem]at hK⊢;gi_wp2;exact hK
 case body=>(
 intro l pre x args a' W hsW hI hbd hpre;obtain⟨g,rfl,hdat,hgg⟩:=hbd;obtain⟨v,hbx,hrow⟩:=hI.box;have hxm:x∈stripL d st:=hpre.subset (by simp);have hxl:x.length=d/\∀b∈x,b.size=28:=by obtain⟨k,_,rfl⟩:=List.mem_map.1 hxm;refine⟨datL_len _ _ _,fun b hb=>?_⟩;obtain⟨j,_,rfl⟩:=List.mem_map.1 hb;exact blockB_size _ _
 have hpl:pre.length<=1000000:=by{
 have h1:=hpre.length_le;rw[List.length_append,List.length_singleton,stripL,List.length_map,List.length_range]at h1;have h2:strN d st.size<=st.size+28*d:=Nat.le_trans (Nat.div_le_self _ _) (by omega);have h3:strN d st.size<=65537:=by{
 unfold strN;apply Nat.le_of_lt_succ;rw[Nat.div_lt_iff_lt_mul (by omega)];have:28*1<=28*d:=by omega
 have:=Nat.mul_le_mul_left (65537+1) this;omega};omega};have hsq:SeqAt strS W (.slice (some ⟨g,0,none⟩) x.length x.length) x:=(OwnSeq.blk (ρ:=strS) (w0:=upto W 0) (css:=x.map fun s=>[Value.string s]) (flatB hdat) (bothB x _) (by simp[upto]) (by omega)).at (upto_below (Nat.zero_le _));have Hen:=zY (eraencode_ok W _ x hsq 28 sp hxl.2 (by omega) (by omega) (by omega));have c1:=hI.lay.c 1;have HLay:=zY hI.lay;have HBl:=zY hI.below;have HLe0:=zY hI.le;have HBx0:=zY hbx;have HR0:=zY hrow;have HD0:=zY hdat;have HGe:=zY hgg;have hl7:(sparL x 28 sp).length<=7:=by simp[sparL];omega
 have HLn:Hid (x.length+(sparL x 28 sp).length<=100000000):=zY (by have:=hxl.1;omega);have HLp:Hid ((pre.map fun x=>x++sparL x 28 sp).length<=1000000):=zY (by rw[List.length_map];exact hpl);have Hgl:Hid (w1.heap.size<w3.heap.size):=zY (by omega);have H13:Hid (w1.heap.size≠w2.heap.size/\w1.heap.size≠w2.heap.size+1/\w.heap.size≠w1.heap.size/\w.heap.size<=w1.heap.size/\w2.heap.size<w3.heap.size/\w2.heap.size+1<w3.heap.size):=zY (by omega);clear hl7 hsq hxl hxm hpre hpl hI hbx hrow hdat hgg hsz h12 h01 hsW HIt;unfold strTmps;gi_wp2_with fail;refine⟨trivial,rfl,?_⟩;refine(CallsIn.inRound l (callsIn_wide.2 Hen.out)).mono ?_;rintro e5 w5 ⟨⟨vs,rfl,hsp5⟩,hb5⟩;have HSp5:=zY hsp5;have HB5:=zY hb5;clear hsp5 hb5 c1 Hen;gi_upto_region 10 with fail;obtain⟨wq,hwq⟩:=zNm (w5.drew);have hbq:Below w5.heap.size w5 wq:=by rw[<-hwq];exact(Below.refl _ _).drew
 have HKq:Hid (rangeStr.Kept (fun k=>k=w2.heap.size∨k=w2.heap.size+1) W wq):=zY ⟨Nat.le_trans HB5.size hbq.size,fun k o hk _=>((HB5.trans (hbq.mono HB5.size)).block k (Array.getElem?_eq_some_iff.1 hk).1).trans hk⟩;have hWq:=HB5.trans (hbq.mono HB5.size);have HBx:Hid (Boxed wq w1.heap.size 96 v):=zY ((hWq.block _ HBx0.lt).trans HBx0.out);have HR:Hid (OwnRows 51 9 w3 wq v (pre.map fun x=>x++sparL x 28 sp)):=zY (HR0.kept hWq);have HD:Hid (Blk wq g 9 (x.map fun s=>[Value.string s]).flatten):=zY (by
  exact flatB (HD0.kept hWq));have HBo:Hid (Both (strS.R w3) (x.map fun s=>[Value.string s]) x):=zY (bothB x _);have HSp:Hid (SeqAt strS wq vs (sparL x 28 sp)):=zY (HSp5.below hbq);have HLe:Hid (w3.heap.size<=wq.heap.size):=zY (Nat.le_trans HLe0.out hWq.size);have HBlq:=zYt HBl hWq;have HLayq:=zY (HLay.kept hWq);have HB:=zY (Below.refl wq.heap.size wq);clear hbq hWq HB5 HSp5 HBx0 HR0 HD0 HLe0 HBl HLay;refine rangeStr.wpIn_region_held (S:=fun _=>True) (by kernel_rfl) (by kernel_rfl) (fun _ _ h=>h) ?_ (fun hHeld=>?_);{exact trivial};rw[hwq];clear hwq;refine tk 1 ?_;refine tk 2 ?_;refine zEs [0,3] (zEc (fun K hK=>?_) (zEc (fun K hK=>?_) AllReadyH.nil));have q0:wq.cell? ⟨w1.heap.size,0,none⟩=some v:=cell_below HB.out HBx.cell;go_simp;clear q0;refine hko hK (by exact trivial) (fun _=>?_);clear hK K;refine zE1 3 fun K hK=>?_;refine wp_append_full (ρ:=strS) (w0:=w3) (css:=x.map fun s=>[.string s]) Tryz.elemStr (.tmp 35) (.tmp 36) rfl rfl HD.out HBo.out HGe.out rfl (SrcAt.flat flatS HSp.out) HLn.out ?_;intro vx1 wx1 hob hbb;obtain⟨Ax,cx,rfl⟩:=hob.slice;generalize hnx:(x++sparL x 28 sp).length=nx at hob⊢;clear hnx;have HN:=zY hob;have HB:=zYt HB hbb;clear hob hbb;refine hko hK (by exact trivial) (fun _=>?_);clear hK K;refine zE1 4 fun K hK=>?_;go_simp;have HX:Hid (Blk (wx1.alloc (.cells #[.slice Ax nx cx] 51)) wx1.heap.size 51 [.slice Ax nx cx]):=zY (Blk.new wx1 51 [.slice Ax nx cx]);have HN:=zY (HN.alloc (.cells #[(.slice Ax nx cx)] 51));have HB:=zY (HB.alloc HB.size (.cells #[(.slice Ax nx cx)] 51));rotate_left;focus(
 refine wp_append_full (ρ:=strS) (w0:=w3) (css:=x.map fun s=>[.string s]) Tryz.elemStr (.tmp 35) (.tmp 36) rfl rfl HD.out HBo.out HGe.out rfl (SrcAt.flat flatS HSp.out) HLn.out ?_;intro vx1 wx1 hob hbb;obtain⟨Ax,cx,rfl⟩:=hob.slice;generalize hnx:(x++sparL x 28 sp).length=nx at hob⊢;clear hnx;have HN:=zY hob;have HB:=zYt HB hbb;clear hob hbb;refine hko hK (by exact trivial) (fun _=>?_);clear hK K;refine zEs [0,4] (zEc (fun K hK=>?_) (zEc (fun K hK=>?_) AllReadyH.nil));have q0:wx1.cell? ⟨w1.heap.size,0,none⟩=some v:=cell_below HB.out HBx.cell;go_simp;clear q0;refine hko hK (by exact trivial) (fun _=>?_);clear hK K;refine zE1 4 fun K hK=>?_;go_simp;have HX:Hid (Blk (wx1.alloc (.cells #[.slice Ax nx cx] 51)) wx1.heap.size 51 [.slice Ax nx cx]):=zY (Blk.new wx1 51 [.slice Ax nx cx]);have HN:=zY (HN.alloc (.cells #[(.slice Ax nx cx)] 51));have HB:=zY (HB.alloc HB.size (.cells #[(.slice Ax nx cx)] 51));rotate_left;go_simp;have HX:Hid (Blk (wx1.alloc (.cells #[.slice Ax nx cx] 51)) wx1.heap.size 51 [.slice Ax nx cx]):=zY (Blk.new wx1 51 [.slice Ax nx cx]);have HN:=zY (HN.alloc (.cells #[(.slice Ax nx cx)] 51));have HB:=zY (HB.alloc HB.size (.cells #[(.slice Ax nx cx)] 51));refine hko hK (by exact trivial) (fun _=>?_);clear hK K;refine zE1 0 fun K hK=>?_;have q0:(wx1.alloc (.cells #[(.slice Ax nx cx)] 51)).cell? ⟨w1.heap.size,0,none⟩=some v:=cell_below HB.out HBx.cell;go_simp;clear q0;rotate_left)
 rotate_left 2;all_goals
 refine hko hK (by exact trivial) (fun _=>?_);clear hK K;refine zE1 5 fun K hK=>?_;refine wp_append_rows (w0:=w3) (T:=9) Tryz.elemStrs (.tmp 34) (.tmp 38) rfl (by decide) rfl (HR.kept HB.out) (Nat.le_trans HLe.out HB.size) rfl HX.out HN.out HLp.out ?_;intro vx2 wx2 hor hbo hot;obtain⟨An,cn,rfl⟩:=hor.slice;generalize hnx:(pre.map (fun x=>x++sparL x 28 sp)++[x++sparL x 28 sp]).length=nn at hor⊢;clear hnx;have HRn:=zY hor;have HBo:=zY hbo;have HOt:=zY hot;clear hor hbo hot;have HBn:Hid (Boxed wx2 w1.heap.size 96 v):=zY ((HBo.block _ Hgl.out).trans ((HB.block _ HBx.lt).trans HBx.out));refine hko hK (by exact trivial) (fun _=>?_);clear hK K;refine zE1 6 fun K hK=>?_;have qc:=HBn.cell;have qf:=HBn.frozen;go_simp;clear qc qf;refine hko hK (by exact trivial) (fun _=>?_);clear hK K;refine wpAnyH_done (by kernel_rfl) ?_ _;refine(show rangeStr.Kept (fun k=>k=w2.heap.size∨k=w2.heap.size+1) W (wx2.setCell ⟨w1.heap.size,0,none⟩ (.slice An nn cn))/\StrI w w3 w1.heap.size d sp ((pre++[x]).map fun x=>x++sparL x 28 sp) (wx2.setCell ⟨w1.heap.size,0,none⟩ (.slice An nn cn)) from ?_);rw[List.map_append];exact str_leaf HKq.out HB.out HBo.out HOt.out HRn.out HBn.out HBlq.out HLayq.out HLe.out H13.out Hgl.out)
 case done=>
 intro D W hD hI hk;obtain⟨v,hbx,hrow⟩:=hI.box;obtain⟨Av,cv,rfl⟩:=hrow.slice;have HR:=zY hrow;have HI:=zY hI;have Hk:=zY hk;have hcell:=hbx.cell;have HsD:=zY (show w.heap.size<=D by omega);have HlE:=zY (show w3.heap.size<=W.heap.size from hI.le);generalize hnx:((stripL d st).map fun x=>x++sparL x 28 sp).length=nn at hcell;have Hnx:=zY hnx;clear hrow hI hk hbx hnx hsz h12 h01 hD HI0 HIt;gi_wp2;have hsz:=HI.below.size;have hns:=Hnx.out;subst hns;have hoth:∀(k:Nat) (o:Obj),W.heap[k]?=some o->o.isCells=true->(W.putObj D (.deferred none)).heap[k]?=some o:=fun k o hko hc=>(World.putObj_heap_other (fun e=>by
  subst e
  rw[Hk.out]at hko
  cases hko
  cases hc)).trans hko;refine⟨by simp,.inl ⟨_,_,rfl,run_takeDeferred Hk.out,_,results_tmp2 rfl _ _ _,⟨_,rfl,(HR.stay fun k o _ hko hc=>hoth k o hko hc).low (by have:=H01.out;have:=H12.out;have:=Hsz.out;omega)⟩,?_⟩⟩;have hbl:=HI.below;exact⟨hbl.os,hbl.tape,hbl.output,Nat.le_trans hbl.size (by simp),fun k hk2=>(World.putObj_heap_other (by have:=HsD.out;omega)).trans (hbl.block k hk2)⟩
end
section
open Go.RowKit
def usedF (d reel stripe n:Nat):Nat:=if d<=reel then 28 else min (n-(stripe*d+reel)*28) 28
theorem volused_any (w:World) (d reel stripe:Nat) (sp:Int) (st:ByteArray) (hd:d<=8) (hr:reel<=15) (hs:stripe<=100000) (hst:st.size<=1000000000):Calls prog 86 #[.agg #[.int .i64 (d:Int),.int .i64 sp],.string st,.int .i64 (stripe:Int),.int .i64 (reel:Int)] w fun e w'=>e=.returned (.int .i64 (usedF d reel stripe st.size:Int))/\Below w.heap.size w w':=by
 have hK:=Blk.new w 24 [.int .i64 (d:Int),.int .i64 sp];change Blk (w.alloc (.cells #[.int .i64 (d:Int),.int .i64 sp] 24)) _ _ _ at hK;have HB:=zY (zBl w (.cells #[.int .i64 (d:Int),.int .i64 sp] 24));obtain⟨n,hn⟩:=zNm (st.size);have hnI:(st.size:Int)=n:=by omega
 have hm:(stripe:Int)*d=((stripe*d:Nat):Int):=by simp
 obtain⟨m,hmm⟩:=zNm (stripe*d);have hmz:m<=800000:=by rw[<-hmm];exact Nat.le_trans (Nat.mul_le_mul hs hd) (by decide)
 rw[hmm]at hm;have hmw:IntKind.i64.wrap ((stripe:Int)*d)=m:=by rw[hm];exact zIw (by omega)
 obtain⟨q,hq⟩:=zNm (m+reel);have hqI:(m:Int)+reel=q:=by omega
 have hqw:IntKind.i64.wrap ((m:Int)+reel)=q:=by rw[hqI];exact zIw (by omega)
 obtain⟨p,hp⟩:=zNm (q*28);have hpI:(q:Int)*28=p:=by omega
 have hpw:IntKind.i64.wrap ((q:Int)*28)=p:=by rw[hpI];exact zIw (by omega)
 have hsw:IntKind.i64.wrap ((n:Int)-p)=(n:Int)-p:=zIw (by omega);have hmax:max ((n:Int)-p) 0=((n-p:Nat):Int):=by omega
 have hmin:min (((n-p:Nat):Int)) 28=((min (n-p) 28:Nat):Int):=by omega
 have HU:Hid (usedF d reel stripe n=if d<=reel then 28 else min (n-p) 28):=zY (by rw[usedF,hmm,hq,hp]);have c0:=hK.c 0;clear hq hp hmm hK;rw[hn];by_cases h:d<=reel;{
 have hI:(d:Int)<=reel:=by omega
 rw[if_pos h]at HU;rw[HU.out];go_enter func86,ntmps86;go_wp2;go_ret;exact⟨rfl,HB.out⟩};{
 have hI:¬(d:Int)<=reel:=by omega
 rw[if_neg h]at HU;rw[HU.out];go_enter func86,ntmps86;go_wp2;go_ret;exact⟨rfl,HB.out⟩}
def contE (d s:Int) (L:List Ses) (n:Int):Int:=
 if layE d s≠0 then layE d s else if n<1∨(L.length:Int)<n then 9 else match L[(n-1).toNat]? with
  |none=>9
  |some x=>if 65536<(partsB (strB (dirL x))).length then 6 else 0
def RetCont (w w':World) (d s:Int) (L:List Ses) (n:Int) (e:Ending):Prop:=∃(vp vs:Value) (st:ByteArray) (P:List ByteArray) (S:List (List ByteArray)),
 e=.returned (.tuple #[.agg #[vp,vs,.string st],.int .i64 (contE d s L n)])/\OwnSeq strS 9 w w' vp P/\OwnRows 51 9 w w' vs S /\
  (contE d s L n=0->∃x,1<=n/\n<=L.length/\1<=d/\d<=8/\0<=s/\s<=7/\L[(n-1).toNat]?=some x/\P=partsB (strB (dirL x))/\S=rowsL d.toNat s.toNat x.str/\st=x.str)
theorem RetCont.err {w w':World} {d s n:Int} {L:List Ses} {k:Int} (hk:contE d s L n=k) (h0:k≠0):RetCont w w' d s L n (.returned (.tuple #[.agg #[.slice none 0 0,.slice none 0 0,.string ⟨#[]⟩],.int .i64 k])):=
 ⟨_,_,_,[],[],by rw[hk],OwnSeq.nil _,OwnRows.nil _,fun e=>absurd (hk.symm.trans e) h0⟩
def SesAll (L:List Ses):Prop:=∀(i:Nat) (x:Ses),L[i]?=some x->x.num=(i:Int)+1/\SesV x/\x.str.size<=1835008
theorem dirL_len {x:Ses} (h:SesV x):(dirL x).length<=100000000:=by
 have h1:=restL_len h;rw[dirL,List.length_append,dig8_len];omega
theorem contents_any (w:World) (id d s:Int) (v:Value) (L:List Ses) (n:Int) (hv:SeqAt sesS w v L) (hl:L.length<=1000) (hL:SesAll L) (hT:Tab w):Calls prog 38 #[.agg #[.int .u32 id,.int .i64 d,.int .i64 s,v],.int .i64 n] w fun e w'=>RetCont w w' d s L n e/\Below w.heap.size w w':=by
 have Hv:=zY hv;have HT:=zY hT;have HL:=zY hL;obtain⟨A,c,rfl,_,_⟩:=hv.slice;have hK:=Blk.new w 28 [.int .u32 id,.int .i64 d,.int .i64 s,.slice A L.length c];have hR:=Blk.new (w.alloc (.cells #[.int .u32 id,.int .i64 d,.int .i64 s,.slice A L.length c] 28)) 98 [.slice none 0 0,.slice none 0 0,.string ⟨#[]⟩];change Blk ((w.alloc (.cells #[.int .u32 id,.int .i64 d,.int .i64 s,.slice A L.length c] 28)).alloc (.cells #[.slice none 0 0,.slice none 0 0,.string ⟨#[]⟩] 98)) _ _ _ at hR;have hK2:=hK.alloc (.cells #[.slice none 0 0,.slice none 0 0,.string ⟨#[]⟩] 98);change Blk ((w.alloc (.cells #[.int .u32 id,.int .i64 d,.int .i64 s,.slice A L.length c] 28)).alloc (.cells #[.slice none 0 0,.slice none 0 0,.string ⟨#[]⟩] 98)) _ _ _ at hK2;rw[World.size_alloc]at hR;have HK:=zY hK2;have HR:=zY hR;have HB0:=zY ((zBl w (.cells #[.int .u32 id,.int .i64 d,.int .i64 s,.slice A L.length c] 28)).alloc (by simp) (.cells #[.slice none 0 0,.slice none 0 0,.string ⟨#[]⟩] 98));clear hv hT hL hK hR hK2;go_enter func38,ntmps38;go_upto_region 1 with fail;generalize (w.alloc (.cells #[.int .u32 id,.int .i64 d,.int .i64 s,.slice A L.length c] 28)).alloc (.cells #[.slice none 0 0,.slice none 0 0,.string ⟨#[]⟩] 98)=wa at *;have c1:=HK.c 1;have c2:=HK.c 2;go_wp2_with fail;refine(laycheck_any _ d s).mono ?_;rintro e1 w1 ⟨rfl,hb1⟩;have HK1:=zY (HK.kept hb1);have HR1:=zY (HR.kept hb1);have HB1:=zYt HB0 hb1;clear hb1 c1 c2 HK HR HB0;obtain⟨k,hk⟩:=zNm (layE d s);rw[hk];by_cases h0:k=0;{
 subst h0;have hds:1<=d/\d<=8/\0<=s/\s<=7:=by{
 by_cases hc:d<1∨8<d∨s<0∨7<s;{
 rw[layE,if_pos hc]at hk;cases hk};{omega}};have a3:=HK1.c 3;by_cases h1:n<1;{
 have HE:=zY (RetCont.err (w:=w) (d:=d) (s:=s) (n:=n) (L:=L) (k:=9) (by rw[contE,hk,if_neg (by decide),if_pos (.inl h1)]) (by decide) (w':=setAll w1 (w.heap.size+1) 0 [.slice none 0 0,.slice none 0 0,.string ⟨#[]⟩]));have z0:=HR1.c 0;have z1:=HR1.c 1;have z2:=HR1.c 2;have y0:=HR1.frozen 0;have y1:=HR1.frozen 1;have y2:=HR1.frozen 2;have HW:=zY (HR1.setAll (i:=0) [.slice none 0 0,.slice none 0 0,.string ⟨#[]⟩]);have HBw:=zY (below_setAll (g:=w.heap.size+1) (by omega) [.slice none 0 0,.slice none 0 0,.string ⟨#[]⟩] w1 0 HB1.out);clear hk;go_wp2;refine bodyPost_ret (results_row_tmp rfl _ _ (w.heap.size+1) 98 _ (0,0) _ rfl HW.out underlying98 rfl (by kernel_rfl)) rfl ?_;exact⟨HE.out,HBw.out⟩};{
 by_cases h2:(L.length:Int)<n;{
 have HE:=zY (RetCont.err (w:=w) (d:=d) (s:=s) (n:=n) (L:=L) (k:=9) (by rw[contE,hk,if_neg (by decide),if_pos (.inr h2)]) (by decide) (w':=setAll w1 (w.heap.size+1) 0 [.slice none 0 0,.slice none 0 0,.string ⟨#[]⟩]));have z0:=HR1.c 0;have z1:=HR1.c 1;have z2:=HR1.c 2;have y0:=HR1.frozen 0;have y1:=HR1.frozen 1;have y2:=HR1.frozen 2;have HW:=zY (HR1.setAll (i:=0) [.slice none 0 0,.slice none 0 0,.string ⟨#[]⟩]);have HBw:=zY (below_setAll (g:=w.heap.size+1) (by omega) [.slice none 0 0,.slice none 0 0,.string ⟨#[]⟩] w1 0 HB1.out);clear hk;go_wp2;refine bodyPost_ret (results_row_tmp rfl _ _ (w.heap.size+1) 98 _ (0,0) _ rfl HW.out underlying98 rfl (by kernel_rfl)) rfl ?_;exact⟨HE.out,HBw.out⟩};{
 obtain⟨m,hm⟩:∃m:Nat,n=(m:Int)+1:=⟨(n-1).toNat,by omega⟩;have hmI:n-1=m:=by omega
 have hmw:IntKind.i64.wrap (n-1)=m:=by rw[hmI];exact zIw (by omega)
 have hml:m<L.length:=by omega
 have hmL:(m:Int)<L.length:=by omega
 obtain⟨x,hx⟩:∃x,L[m]?=some x:=⟨_,List.getElem?_eq_getElem hml⟩;obtain⟨hnum,hV,hstr⟩:=HL.out m x hx;have Hx:=zY hx;have HSV:=zY hV;have HSt:=zY hstr;obtain⟨_,_,e9,_,_,h4⟩:=Hv.out;cases e9;obtain⟨b,o,cs,rfl,⟨ve,rfl,hve⟩,hc⟩:=h4 m x hx;have HVe:=zY hve;obtain⟨Ae,ce,rfl,_,_⟩:=hve.slice;have e0:w1.cell? ⟨b,o+m*6,none⟩=some (.int .i64 x.num):=cell_below HB1.out (hc 0 _ rfl);have e1:w1.cell? ⟨b,o+m*6+1,none⟩=some (.int .i64 x.date):=cell_below HB1.out (hc 1 _ rfl);have e2:w1.cell? ⟨b,o+m*6+2,none⟩=some (.string x.prev):=cell_below HB1.out (hc 2 _ rfl);have e3:w1.cell? ⟨b,o+m*6+3,none⟩=some (.slice Ae x.ents.length ce):=cell_below HB1.out (hc 3 _ rfl);have e4:w1.cell? ⟨b,o+m*6+4,none⟩=some (.string x.str):=cell_below HB1.out (hc 4 _ rfl);have e5:w1.cell? ⟨b,o+m*6+5,none⟩=some (.string x.sig):=cell_below HB1.out (hc 5 _ rfl);clear hc h4 hx hve hV hstr;have hnn:x.num=n:=by omega
 rw[hnn]at e0;generalize hNe:x.ents.length=ne at *;have HNe:=zY hNe;obtain⟨xd,hxd⟩:=zNm (x.date);obtain⟨xp,hxp⟩:=zNm (x.prev);obtain⟨xs,hxs⟩:=zNm (x.str);obtain⟨xg,hxg⟩:=zNm (x.sig);rw[hxd]at e1;rw[hxp]at e2;rw[hxs]at e4;rw[hxg]at e5;have HF:=zY (And.intro hxd (And.intro hxp (And.intro hxs (And.intro hxg hnn))));have hnt:((m:Nat):Int).toNat=m:=rfl;have HC0:Hid (contE d s L n=if 65536<(partsB (strB (dirL x))).length then 6 else 0):=zY (by rw[contE,hk,if_neg (by decide),if_neg (by omega),hmI,hnt,Hx.out]);have HmN:Hid ((n-1).toNat=m):=zY (by omega);clear hNe hxd hxp hxs hxg hnn hnum hnt hk hm;go_upto_region 7 with fail;have HSe:=zY (Blk.new w1 45 [.int .i64 n,.int .i64 xd,.string xp,.slice Ae ne ce,.string xs,.string xg]);have HSb:Hid (Blk (w1.alloc (.cells #[.int .i64 n,.int .i64 xd,.string xp,.slice Ae ne ce,.string xs,.string xg] 45)) w1.heap.size 45 [.int .i64 n,.int .i64 xd,.string xp,.slice Ae ne ce,.string xs,.string xg]):=zY HSe.out;have HKb:=zY (HK1.alloc (.cells #[.int .i64 n,.int .i64 xd,.string xp,.slice Ae ne ce,.string xs,.string xg] 45));have HRb:=zY (HR1.alloc (.cells #[.int .i64 n,.int .i64 xd,.string xp,.slice Ae ne ce,.string xs,.string xg] 45));have HBb:=zY (HB1.alloc HB1.size (.cells #[.int .i64 n,.int .i64 xd,.string xp,.slice Ae ne ce,.string xs,.string xg] 45));have H1w:Hid (w.heap.size+2<=w1.heap.size):=zY (by have:=HR1.lt;omega);generalize w1.alloc (.cells #[.int .i64 n,.int .i64 xd,.string xp,.slice Ae ne ce,.string xs,.string xg] 45)=wb at *;obtain⟨T,hT⟩:=zNm (strB (dirL x));have HTe:=zY hT
 have HTz:Hid (T.size<=1000000000):=zY (by rw[<-hT,strB_size];have:=dirL_len HSV.out;omega);have HDe:Hid (∀W,Below w.heap.size w W->Calls prog 19 #[.agg #[.int .i64 n,.int .i64 xd,.string xp,.slice Ae ne ce,.string xs,.string xg]] W fun r w'=>r=.returned (.tuple #[.string T,.int .i64 0])/\Below W.heap.size W w'):=zY (fun W hW=>by
  have h:=direncode_ok W x _ (HVe.below hW) HSV.out (HT.below hW)
  rw[HF.1,HF.2.1,HF.2.2.1,HF.2.2.2.1,HF.2.2.2.2,hT]at h
  exact h);rw[hT]at HC0;have s0:=HSb.c 0;have s1:=HSb.c 1;have s2:=HSb.c 2;have s3:=HSb.c 3;have s4:=HSb.c 4;have s5:=HSb.c 5;clear e0 e1 e2 e3 e4 e5 a3 hT HSe HK1 HR1 HB1 hmI hmw hml hmL;go_wp2_with fail;refine(HDe.out _ HBb.out).mono ?_;rintro e6 w6 ⟨rfl,hb6⟩;have HSc:=zY (HSb.kept hb6);have HKc:=zY (HKb.kept hb6);have HRc:=zY (HRb.kept hb6);have HBc:=zYt HBb hb6;clear hb6 s0 s1 s2 s3 s4 s5 HSb HKb HRb HBb HDe;go_upto_region 12 with fail;obtain⟨PT,hPT⟩:=zNm (partsB T);obtain⟨np,hnp⟩:=zNm (PT.length);rw[hPT,hnp]at HC0;have HPT:=zY (And.intro hPT hnp);have HPc:Hid (∀W:World,Calls prog 20 #[.string T] W fun e w'=>(∃Ap cp,e=.returned (.slice Ap np cp)/\OwnSeq strS 9 W w' (.slice Ap np cp) PT)/\Below W.heap.size W w'):=zY (fun W=>(dirparts_any W T HTz.out).mono (by
  rintro e w' ⟨⟨vp,rfl,hvp⟩,hb⟩
  obtain⟨Ap,cp,rfl⟩:=hvp.slice
  rw[HPT.1,HPT.2]at hvp
  exact⟨⟨Ap,cp,by rw[HPT.1,HPT.2],hvp⟩,hb⟩));clear hPT hnp;have H6:Hid (w1.heap.size<w6.heap.size):=zY HSc.lt;go_cut [10] (fun cb wz=>∃(gc:Nat) (Ap:Option Addr) (cp:Nat),cb=.pointer (some ⟨gc,0,none⟩)/\w6.heap.size<=gc/\OwnSeq strS 9 w6 wz (.slice Ap np cp) PT/\Blk wz gc 98 [.slice Ap np cp,.slice none 0 0,.string xs]/\Below w6.heap.size w6 wz);case first=>(
 have HKS:Hid (∀W,Below w6.heap.size w6 W->W.cell? ⟨w1.heap.size,4,none⟩=some (.string xs)):=zY (fun W h=>cell_below h (HSc.c 4));have HB:=zY ((Below.refl w6.heap.size w6).drew);have HS:=zY (HKS.out _ HB.out);refine wp_region_held_drew (S:=(fun W=>W.cell? ⟨w1.heap.size,4,none⟩=some (.string xs))) (by kernel_rfl) ?_ (fun hHeld=>?_);{exact HS.out};refine tk 0 ?_;refine tk 2 ?_;refine tk 3 ?_;refine zEs [1,5] (zEc (fun K hK=>?_) (zEc (fun K hK=>?_) AllReadyH.nil));go_simp;refine(HPc.out _).mono ?_;rintro e7 w7 ⟨⟨Ap,cp,rfl,hvp⟩,hb7⟩;(try go_wp2_with fail);have HP:=zY (hvp.low flatS (w0:=w6) (by first|exact HB.size|(have:=HB.size;simpa using this)));first|(have HC:=zY (HC.kept hb7))|skip
 have HB:=zYt HB hb7;clear hb7 hvp;have HS:=zY (HKS.out _ HB.out);refine hko hK (by exact HS.out) (fun _=>?_);clear hK K;refine tk 4 ?_;refine zE1 5 fun K hK=>?_;go_simp;have HC:Hid (Blk (w7.alloc (.cells #[.slice none 0 0,.slice none 0 0,.string ⟨#[]⟩] 98)) w7.heap.size 98 [.slice none 0 0,.slice none 0 0,.string ⟨#[]⟩]):=zY (Blk.new w7 98 [.slice none 0 0,.slice none 0 0,.string ⟨#[]⟩]);have Hgc:Hid (w6.heap.size<=w7.heap.size):=zY HB.size;have HB7x:=zY HB.out;have HB:=zY (HB.alloc HB.size (.cells #[.slice none 0 0,.slice none 0 0,.string ⟨#[]⟩] 98));have HP7:=zY HP.out;have HB7:=zY HB7x.out;have HP:=zY (HP.alloc (.cells #[.slice none 0 0,.slice none 0 0,.string ⟨#[]⟩] 98));have HS:=zY (HKS.out _ HB.out);refine hko hK (by exact HS.out) (fun _=>?_);clear hK K;refine zE1 6 fun K hK=>?_;have k0:=HC.c 0;have k1:=HC.c 1;have k2:=HC.c 2;have f0:=HC.frozen 0;have f1:=HC.frozen 1;have f2:=HC.frozen 2;go_simp;have HP:=zY (HP7.alloc (.cells #[.slice Ap np cp,.slice none 0 0,.string xs] 98));have HC:Hid (Blk (w7.alloc (.cells #[.slice Ap np cp,.slice none 0 0,.string xs] 98)) w7.heap.size 98 [.slice Ap np cp,.slice none 0 0,.string xs]):=zY (Blk.new w7 98 [.slice Ap np cp,.slice none 0 0,.string xs]);have HB:=zY (HB7.alloc HB7.size (.cells #[.slice Ap np cp,.slice none 0 0,.string xs] 98));rotate_left;go_simp;have HC:Hid (Blk (w6.drew.alloc (.cells #[.slice none 0 0,.slice none 0 0,.string ⟨#[]⟩] 98)) w6.heap.size 98 [.slice none 0 0,.slice none 0 0,.string ⟨#[]⟩]):=zY (Blk.new w6.drew 98 [.slice none 0 0,.slice none 0 0,.string ⟨#[]⟩])
 have Hgc:Hid (w6.heap.size<=w6.heap.size):=zY HB.size;have HB7x:=zY HB.out;have HB:=zY (HB.alloc HB.size (.cells #[.slice none 0 0,.slice none 0 0,.string ⟨#[]⟩] 98));have HS:=zY (HKS.out _ HB.out);refine hko hK (by exact HS.out) (fun _=>?_);clear hK K;refine zE1 1 fun K hK=>?_;go_simp;refine(HPc.out _).mono ?_;rintro e7 w7 ⟨⟨Ap,cp,rfl,hvp⟩,hb7⟩;(try go_wp2_with fail);have HP:=zY (hvp.low flatS (w0:=w6) (by first|exact HB.size|(have:=HB.size;simpa using this)));first|(have HC:=zY (HC.kept hb7))|skip
 have HB:=zYt HB hb7;clear hb7 hvp;have HS:=zY (HKS.out _ HB.out);refine hko hK (by exact HS.out) (fun _=>?_);clear hK K;refine tk 4 ?_;refine zE1 6 fun K hK=>?_;have k0:=HC.c 0;have k1:=HC.c 1;have k2:=HC.c 2;have f0:=HC.frozen 0;have f1:=HC.frozen 1;have f2:=HC.frozen 2;go_simp;have HP:=zY (HP.grown (grown_setAll w6.heap.size [.slice Ap np cp,.slice none 0 0,.string xs] w7 0) (.inr (HP.neT HC.out (by decide))));have HC:=zY (HC.setAll (i:=0) [.slice Ap np cp,.slice none 0 0,.string xs]);have HB:=zY (below_setAll Hgc.out [.slice Ap np cp,.slice none 0 0,.string xs] w7 0 HB.out);rotate_left;all_goals
 clear k0 k1 k2 f0 f1 f2;have HS:=zY (HKS.out _ HB.out);refine hko hK (by exact HS.out) (fun _=>?_);clear hK K;refine wpAnyH_done (by kernel_rfl) ?_ _;go_wp2_with fail;go_meet;exact⟨_,_,_,rfl,Hgc.out,HP.out,HC.out,HB.out⟩)
 case rest=>
 obtain⟨gc,Ap,cp,rfl,hgc,hp,hC,hb⟩:=hcut;obtain⟨wd,hwd⟩:∃x,x=wc:=⟨_,rfl⟩;subst hwd;have HP:=zY hp;have HC:=zY hC;have HBd:=zY hb;have Hgc:=zY hgc;have HKd:=zY (HKc.kept hb);have HSd:=zY (HSc.kept hb);have HRd:=zY (HRc.kept hb);have HB0:=zYt HBc hb;clear hgc hp hC hb HKc HSc HRc HPc;have k0:=HC.c 0;by_cases h65:65536<np;{
 have h65I:(65536:Int)<np:=by omega
 have HE:=zY (RetCont.err (w:=w) (d:=d) (s:=s) (n:=n) (L:=L) (k:=6) (by rw[HC0.out,if_pos h65]) (by decide) (w':=setAll wd (w.heap.size+1) 0 [.slice none 0 0,.slice none 0 0,.string ⟨#[]⟩]));have z0:=HRd.c 0;have z1:=HRd.c 1;have z2:=HRd.c 2;have y0:=HRd.frozen 0;have y1:=HRd.frozen 1;have y2:=HRd.frozen 2;have HW:=zY (HRd.setAll (i:=0) [.slice none 0 0,.slice none 0 0,.string ⟨#[]⟩]);have HBw:=zY (below_setAll (g:=w.heap.size+1) (by omega) [.slice none 0 0,.slice none 0 0,.string ⟨#[]⟩] wd 0 HB0.out);first|clear hk|skip
 go_wp2;refine bodyPost_ret (results_row_tmp rfl _ _ (w.heap.size+1) 98 _ (0,0) _ rfl HW.out underlying98 rfl (by kernel_rfl)) rfl ?_;exact⟨HE.out,HBw.out⟩};{
 have h65I:¬(65536:Int)<np:=by omega
 have hc0:contE d s L n=0:=by rw[HC0.out,if_neg h65]
 have HC1:=zY hc0;have HSt2:Hid (∀W:World,Calls prog 84 #[.agg #[.int .i64 d,.int .i64 s],.string xs] W fun e w'=>(∃v,e=.returned (.tuple #[v,.int .i64 0])/\OwnRows 51 9 W w' v (rowsL d.toNat s.toNat xs))/\Below W.heap.size W w'):=zY (fun W=>by
  have h:=laystripes_ok W d.toNat s.toNat xs (by omega) (by omega) (by have:=HSt.out;rw[HF.2.2.1]at this;exact this)
  rw[Int.toNat_of_nonneg (by omega),Int.toNat_of_nonneg (by omega)]at h
  exact h);have c1:=HKd.c 1;have c2:=HKd.c 2;have s4:=HSd.c 4;clear hc0 h65;go_wp2_with fail;refine(HSt2.out _).mono ?_;rintro e8 w8 ⟨⟨vs,rfl,hrow⟩,hb8⟩;obtain⟨As,cs,rfl⟩:=hrow.slice;generalize hns:(rowsL d.toNat s.toNat xs).length=ns at *;have Hns:=zY hns;have HRow:=zY hrow;have HC8:=zY (HC.kept hb8);have HR8:=zY (HRd.kept hb8);have HB8:=zYt HB0 hb8;have HP8:Hid (OwnSeq strS 9 w6 w8 (.slice Ap np cp) PT):=zY (HP.stay fun k o _ ho _=>(hb8.block k (Array.getElem?_eq_some_iff.1 ho).1).trans ho);have Hgd:Hid (gc<wd.heap.size/\wd.heap.size<=w8.heap.size/\w6.heap.size<=wd.heap.size/\w1.heap.size<=w6.heap.size):=zY ⟨HC.lt,hb8.size,HBd.size,Nat.le_of_lt H6.out⟩;clear hb8 hrow hns c1 c2 s4 k0 HC HRd HB0 HKd HSd;have k1:=HC8.c 1;have f1:=HC8.frozen 1;go_upto_region 18 with fail;have HPx:=zY (HP8.grown (grown_set w8 gc 1 (.slice As ns cs)) (.inr (HP8.neT HC8.out (by decide))));have HCx:=zY (HC8.set 1 (.slice As ns cs));have HRx:=zY (HR8.far (p:=⟨gc,1,none⟩) (show w.heap.size+1≠gc by have:=Hgc.out;have:=Hgd.out;have:=H1w.out;omega) (.slice As ns cs));have HBx:=zY (HB8.setCell (p:=⟨gc,1,none⟩) (show w.heap.size<=gc by have:=Hgc.out;have:=Hgd.out;have:=H1w.out;omega) (.slice As ns cs));have HRw:=zY (HRow.stay (W':=w8.setCell ⟨gc,1,none⟩ (.slice As ns cs)) fun k o hk hko _=>(Below.heap_setCell _ ⟨gc,1,none⟩ _ k (show k≠gc by have:=Hgd.out;omega)).trans hko);have Hwz:Hid ((w8.setCell ⟨gc,1,none⟩ (.slice As ns cs)).heap.size=w8.heap.size):=zY (by simp);generalize w8.setCell ⟨gc,1,none⟩ (.slice As ns cs)=w9 at *;change Hid (Blk w9 gc 98 [.slice Ap np cp,.slice As ns cs,.string xs])at HCx
 clear HC8 HR8 HB8 HP8 HRow k1 f1;have k0:=HCx.c 0;have k1:=HCx.c 1;have k2:=HCx.c 2;have z0:=HRx.c 0;have z1:=HRx.c 1;have z2:=HRx.c 2;have y0:=HRx.frozen 0;have y1:=HRx.frozen 1;have y2:=HRx.frozen 2;have HW:=zY (HRx.setAll (i:=0) [.slice Ap np cp,.slice As ns cs,.string xs]);have HBw:=zY (below_setAll (g:=w.heap.size+1) (by omega) [.slice Ap np cp,.slice As ns cs,.string xs] w9 0 HBx.out);have hg:=grown_setAll (w.heap.size+1) [.slice Ap np cp,.slice As ns cs,.string xs] w9 0;have HPw:=zY ((HPx.grown hg (.inr (HPx.neT HRx.out (by decide)))).low flatS (w0:=w) (by have:=Hgd.out;have:=H1w.out;omega));have HRz:=zY ((HRw.stay fun k o hk hko _=>(hg.block k (Array.getElem?_eq_some_iff.1 hko).1 (by have:=Hgd.out;have:=H1w.out;simp;omega)).trans hko).low (w0:=w) (by have:=Hgd.out;have:=H1w.out;omega));clear hg;go_wp2;refine bodyPost_ret (results_row_tmp rfl _ _ (w.heap.size+1) 98 _ (0,0) _ rfl HW.out underlying98 rfl (by kernel_rfl)) rfl ?_;refine⟨⟨_,_,xs,PT,rowsL d.toNat s.toNat xs,by rw[HC1.out];rfl,HPw.out,HRz.out,fun _=>⟨x,by omega,by omega,hds.1,hds.2.1,hds.2.2.1,hds.2.2.2,?_,?_,?_,?_⟩⟩,HBw.out⟩;{rw[HmN.out];exact Hx.out};{rw[HTe.out,HPT.1]};{rw[HF.2.2.1]};{exact HF.2.2.1.symm}}}}};{
 have HE:=zY (RetCont.err (w:=w) (d:=d) (s:=s) (n:=n) (L:=L) (k:=k) (by rw[contE,hk,if_pos h0]) h0 (w':=setAll w1 (w.heap.size+1) 0 [.slice none 0 0,.slice none 0 0,.string ⟨#[]⟩]));have z0:=HR1.c 0;have z1:=HR1.c 1;have z2:=HR1.c 2;have y0:=HR1.frozen 0;have y1:=HR1.frozen 1;have y2:=HR1.frozen 2;have HW:=zY (HR1.setAll (i:=0) [.slice none 0 0,.slice none 0 0,.string ⟨#[]⟩]);have HBw:=zY (below_setAll (g:=w.heap.size+1) (by omega) [.slice none 0 0,.slice none 0 0,.string ⟨#[]⟩] w1 0 HB1.out);first|clear hk|skip
 go_wp2;refine bodyPost_ret (results_row_tmp rfl _ _ (w.heap.size+1) 98 _ (0,0) _ rfl HW.out underlying98 rfl (by kernel_rfl)) rfl ?_;exact⟨HE.out,HBw.out⟩}
end
end Go.Proofs.YthgenkkkapilhaaGreatDoor