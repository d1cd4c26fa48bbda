/-
  Joined: VrR VrT VrS VrG PgE PgC.
-/
import Derived.Test.YthgenkkkapilhaaGreatDoorVPn26
import Derived.Test.YthgenkkkapilhaaGreatDoorVPn37
set_option linter.all false
set_option maxRecDepth 100000
set_option maxHeartbeats 64000000
namespace Go.Proofs.YthgenkkkapilhaaGreatDoor
open Go.Proofs.Tryz
section
open Go.RowKit
def UpV (lo:Nat) (v:Value):Prop:=∀b o n c,v=.slice (some ⟨b,o,none⟩) n c->lo<=b
def rowO {α:Type} (ρ:Shape α) (lo:Nat):Shape (List α) where
 n:=1
 R w cs x:=∃v,cs=[v]/\SeqAt ρ w v x/\UpV lo v
 len h:=by obtain⟨_,rfl,_⟩:=h;rfl
 one h u hu:=by
  obtain⟨v,rfl,h,_⟩:=h
  rw[List.mem_singleton.1 hu]
  exact h.one
 keep h hb:=by
  obtain⟨v,e,h,k⟩:=h
  exact⟨v,e,h.below hb,k⟩
def chkF {α:Type} (k:Nat) (l:List α) (i:Nat):List (List α):=(List.range i).map fun j=>(l.drop (k*j)).take k
def chks {α:Type} (k:Nat) (l:List α):List (List α):=chkF k l ((l.length+k-1)/k)
theorem chkF_len {α:Type} (k:Nat) (l:List α) (i:Nat):(chkF k l i).length=i:=by simp[chkF]
theorem chks_end {α:Type} {k i:Nat} {l:List α} (hk:1<=k) (h1:l.length<=k*i) (h2:k*i<l.length+k):chkF k l i=chks k l:=by
 rw[chks];congr 1;apply Nat.le_antisymm;{
 apply Nat.le_of_lt_succ;rw[<-Nat.not_le];intro h;have h3:k*((l.length+k-1)/k+1)<=k*i:=Nat.mul_le_mul_left k h;have h4:=Nat.div_add_mod (l.length+k-1) k;have h5:=Nat.mod_lt (l.length+k-1) hk;rw[Nat.mul_add,Nat.mul_one]at h3;omega};{
 rw[Nat.div_le_iff_le_mul_add_pred hk];omega}
def lenV (v:Value):Nat:=match v with
 |.slice _ n _=>n
 |_=>0
theorem Tryz.elemGrF:Elem prog 108 32 1 24 (.slice none 0 0):=⟨underlying108,by kernel_rfl,rfl,by decide,by decide⟩
theorem groupsF_any (w:World) (v:Value) (l:List Frm) (k:Nat) (hk:1<=k/\k<=100) (hv:SeqAt frmS w v l) (lo:Nat) (hlo:UpV lo v) (hl:l.length<=10000000):Calls prog 47 #[v,.int .i64 (k:Int)] w fun e w'=>RetSeq (rowO frmS lo) 32 w w' (chks k l) e/\Below w.heap.size w w':=by
 have hv0:SeqAt frmS w v (l.drop (k*0)):=by rw[Nat.mul_zero,List.drop_zero];exact hv
 have HV:=zY hv0;have HL:=zY hlo;clear hv hv0 hlo;go_enter func47,ntmps47;go_wp2;go_loopw [0,5] (fun x y wr=>∃i:Nat,k*i<l.length+k/\SeqAt frmS w x (l.drop (k*i))/\UpV lo x/\OwnSeq (rowO frmS lo) 32 w wr y (chkF k l i)/\Below w.heap.size w wr) (fun x _ _=>lenV x);case atStart=>exact⟨0,by omega,HV.out,HL.out,OwnSeq.nil _,Below.refl _ _⟩
 case round=>
 obtain⟨i,hi,hx,hup,ho,hB⟩:=hrel;have HU:=zY hup;have HO:=zY ho;have HB:=zY hB;obtain⟨Ao,co,rfl⟩:=ho.slice;clear ho hB HV HL hup;by_cases h:k*i<l.length;{
 have Hx:=zY hx;obtain⟨A,c,rfl,h1,h2,h3⟩:=hx;obtain⟨r,hr⟩:=zNm ((l.drop (k*i)).length);have hrl:r=l.length-k*i:=by rw[<-hr,List.length_drop]
 obtain⟨x0,hx0⟩:∃x,(l.drop (k*i))[0]?=some x:=⟨_,List.getElem?_eq_getElem (by omega)⟩;obtain⟨b,o,_,rfl,_,_⟩:=h3 0 x0 hx0;have HLo:Hid (∀n c,UpV lo (.slice (some ⟨b,o,none⟩) n c)):=zY (fun n c b' o' n' c' e=>by cases e;exact HU.out _ _ _ _ rfl);have HLo2:Hid (∀n c m,UpV lo (.slice (some ⟨b,o+m,none⟩) n c)):=zY (fun n c m b' o' n' c' e=>by cases e;exact HU.out _ _ _ _ rfl);rw[hr]at h1⊢;have Hx2:=Hx.out;rw[hr]at Hx2;obtain⟨n,hn⟩:=zNm (min k r);have hmin:min (k:Int) (r:Int)=n:=by omega
 have hr0:(0:Int)<r:=by omega
 have hn0:(0:Int)<=n:=by omega
 have hnc:(n:Int)<=c:=by omega
 have hnr:(n:Int)<=r:=by omega
 have hncN:n<=c:=by omega
 have hnrN:n<=r:=by omega
 have HT:Hid (SeqAt frmS w (.slice (some ⟨b,o,none⟩) n c) ((l.drop (k*i)).take k)):=zY (by
  have h9:=SeqAt.take (m:=n) Hx2 (by rw[hr];omega)
  have e:(l.drop (k*i)).take n=(l.drop (k*i)).take k:=by
   rw[<-hn]
   by_cases hkr:k<=r
   ·rw[Nat.min_eq_left hkr]
   ·rw[Nat.min_eq_right (by omega),List.take_of_length_le (by omega),List.take_of_length_le (by omega)]
  rwa [e]at h9);have hdn:(l.drop (k*i)).drop n=l.drop (k*(i+1)):=by rw[List.drop_drop,Nat.mul_add,Nat.mul_one];by_cases hkr:k<=r;{rw[<-hn,Nat.min_eq_left hkr]};{rw[List.drop_of_length_le (by omega),List.drop_of_length_le (by omega)]}
 have HD:Hid (SeqAt frmS w (.slice (some ⟨b,o+n*9,none⟩) (r-n) (c-n)) (l.drop (k*(i+1)))):=zY (by
  rw[<-hdn]
  exact SeqAt.drop Hx2 (by rw[hr];omega));have HE:Hid (c=n->∀A,SeqAt frmS w (.slice A (r-n) (c-n)) (l.drop (k*(i+1)))):=zY (fun e A=>by
  have e1:l.drop (k*(i+1))=[]:=by
   rw[<-hdn]
   exact List.drop_of_length_le (by omega)
  rw[e1,show r-n=0 by omega]
  exact⟨A,c-n,rfl,Nat.zero_le _,by omega,fun i x hx=>by cases hx⟩);have Hni:Hid (k*(i+1)<l.length+k):=zY (by rw[Nat.mul_add];omega);have Hms:Hid (r-n<r):=zY (by omega);have HF:Hid (chkF k l (i+1)=chkF k l i++[(l.drop (k*i)).take k]):=zY (by rw[chkF,List.range_succ,List.map_append];rfl);have Hl1:Hid ((chkF k l i).length+1<=100000000):=zY (by
  rw[chkF_len]
  have:=Nat.mul_le_mul_right i hk.1
  omega);obtain⟨T,hT⟩:=zNm ((l.drop (k*i)).take k);rw[hT]at HT HF;generalize hno:(chkF k l i).length=no at *;have Hno:=zY hno;have Hl1:Hid ((chkF k l i).length+1<=100000000):=zY (by rw[hno];exact Hl1.out);have HX1:Hid (SrcAt (rowO frmS lo) w (wr.alloc (.cells #[.slice (some ⟨b,o,none⟩) n c] 32)) (.slice (some ⟨wr.heap.size,0,none⟩) 1 1) [T]):=zY (src1 (ρ:=rowO frmS lo) (wr:=wr) [.slice (some ⟨b,o,none⟩) n c] T ⟨_,rfl,HT.out,HLo.out _ _⟩ rfl);have HO1:=zY (HO.alloc (.cells #[.slice (some ⟨b,o,none⟩) n c] 32));have HB1:=zY (HB.alloc HB.size (.cells #[.slice (some ⟨b,o,none⟩) n c] 32));clear hno hT hdn Hx2 Hx h3 hx0 hr hrl h1 h2 hi h hn;by_cases hcn:c=n;{
 have hcp:(c=n)=True:=eq_true hcn;have HE:=zY (HE.out hcn);clear hcn;go_wp2_with (at_builtin;refine append_seq (w0:=w) Tryz.elemGrF rfl _ _ rfl rfl HO1.out rfl HX1.out Hl1.out HB1.out ?_;intro vb w6 hob _ hbb;have KV:=zY hob;have KC:=zY hbb;clear hob hbb);go_roundw;case rel=>exact⟨i+1,Hni.out,HE.out _,HLo.out _ _,by rw[HF.out];exact KV.out,KC.out⟩
 case measure=>exact Hms.out};{
 have hcp:(c=n)=False:=eq_false hcn;clear hcn;go_wp2_with (at_builtin;refine append_seq (w0:=w) Tryz.elemGrF rfl _ _ rfl rfl HO1.out rfl HX1.out Hl1.out HB1.out ?_;intro vb w6 hob _ hbb;have KV:=zY hob;have KC:=zY hbb;clear hob hbb);go_roundw;case rel=>exact⟨i+1,Hni.out,HD.out,HLo2.out _ _ _,by rw[HF.out];exact KV.out,KC.out⟩
 case measure=>exact Hms.out}};{
 obtain⟨A,c,rfl,_,_,_⟩:=hx;have hz:(l.drop (k*i)).length=0:=by rw[List.length_drop];omega
 rw[hz];have HF:=zY (chks_end (l:=l) hk.1 (by omega) hi);clear hz;generalize hno:(chkF k l i).length=no at *;clear hno h hi;go_wp2;go_ret;exact⟨⟨_,rfl,by rw[<-HF.out];exact HO.out⟩,HB.out⟩}
theorem Tryz.elemGrP:Elem prog 176 59 1 24 (.slice none 0 0):=⟨underlying176,by kernel_rfl,rfl,by decide,by decide⟩
theorem groupsP_any (w:World) (v:Value) (l:List Pln) (k:Nat) (hk:1<=k/\k<=100) (hv:SeqAt plnS w v l) (lo:Nat) (hlo:UpV lo v) (hl:l.length<=10000000):Calls prog 94 #[v,.int .i64 (k:Int)] w fun e w'=>RetSeq (rowO plnS lo) 59 w w' (chks k l) e/\Below w.heap.size w w':=by
 have hv0:SeqAt plnS w v (l.drop (k*0)):=by rw[Nat.mul_zero,List.drop_zero];exact hv
 have HV:=zY hv0;have HL:=zY hlo;clear hv hv0 hlo;go_enter func94,ntmps94;go_wp2;go_loopw [0,5] (fun x y wr=>∃i:Nat,k*i<l.length+k/\SeqAt plnS w x (l.drop (k*i))/\UpV lo x/\OwnSeq (rowO plnS lo) 59 w wr y (chkF k l i)/\Below w.heap.size w wr) (fun x _ _=>lenV x);case atStart=>exact⟨0,by omega,HV.out,HL.out,OwnSeq.nil _,Below.refl _ _⟩
 case round=>
 obtain⟨i,hi,hx,hup,ho,hB⟩:=hrel;have HU:=zY hup;have HO:=zY ho;have HB:=zY hB;obtain⟨Ao,co,rfl⟩:=ho.slice;clear ho hB HV HL hup;by_cases h:k*i<l.length;{
 have Hx:=zY hx;obtain⟨A,c,rfl,h1,h2,h3⟩:=hx;obtain⟨r,hr⟩:=zNm ((l.drop (k*i)).length);have hrl:r=l.length-k*i:=by rw[<-hr,List.length_drop]
 obtain⟨x0,hx0⟩:∃x,(l.drop (k*i))[0]?=some x:=⟨_,List.getElem?_eq_getElem (by omega)⟩;obtain⟨b,o,_,rfl,_,_⟩:=h3 0 x0 hx0;have HLo:Hid (∀n c,UpV lo (.slice (some ⟨b,o,none⟩) n c)):=zY (fun n c b' o' n' c' e=>by cases e;exact HU.out _ _ _ _ rfl);have HLo2:Hid (∀n c m,UpV lo (.slice (some ⟨b,o+m,none⟩) n c)):=zY (fun n c m b' o' n' c' e=>by cases e;exact HU.out _ _ _ _ rfl);rw[hr]at h1⊢;have Hx2:=Hx.out;rw[hr]at Hx2;obtain⟨n,hn⟩:=zNm (min k r);have hmin:min (k:Int) (r:Int)=n:=by omega
 have hr0:(0:Int)<r:=by omega
 have hn0:(0:Int)<=n:=by omega
 have hnc:(n:Int)<=c:=by omega
 have hnr:(n:Int)<=r:=by omega
 have hncN:n<=c:=by omega
 have hnrN:n<=r:=by omega
 have HT:Hid (SeqAt plnS w (.slice (some ⟨b,o,none⟩) n c) ((l.drop (k*i)).take k)):=zY (by
  have h9:=SeqAt.take (m:=n) Hx2 (by rw[hr];omega)
  have e:(l.drop (k*i)).take n=(l.drop (k*i)).take k:=by
   rw[<-hn]
   by_cases hkr:k<=r
   ·rw[Nat.min_eq_left hkr]
   ·rw[Nat.min_eq_right (by omega),List.take_of_length_le (by omega),List.take_of_length_le (by omega)]
  rwa [e]at h9);have hdn:(l.drop (k*i)).drop n=l.drop (k*(i+1)):=by rw[List.drop_drop,Nat.mul_add,Nat.mul_one];by_cases hkr:k<=r;{rw[<-hn,Nat.min_eq_left hkr]};{rw[List.drop_of_length_le (by omega),List.drop_of_length_le (by omega)]}
 have HD:Hid (SeqAt plnS w (.slice (some ⟨b,o+n*4,none⟩) (r-n) (c-n)) (l.drop (k*(i+1)))):=zY (by
  rw[<-hdn]
  exact SeqAt.drop Hx2 (by rw[hr];omega));have HE:Hid (c=n->∀A,SeqAt plnS w (.slice A (r-n) (c-n)) (l.drop (k*(i+1)))):=zY (fun e A=>by
  have e1:l.drop (k*(i+1))=[]:=by
   rw[<-hdn]
   exact List.drop_of_length_le (by omega)
  rw[e1,show r-n=0 by omega]
  exact⟨A,c-n,rfl,Nat.zero_le _,by omega,fun i x hx=>by cases hx⟩);have Hni:Hid (k*(i+1)<l.length+k):=zY (by rw[Nat.mul_add];omega);have Hms:Hid (r-n<r):=zY (by omega);have HF:Hid (chkF k l (i+1)=chkF k l i++[(l.drop (k*i)).take k]):=zY (by rw[chkF,List.range_succ,List.map_append];rfl);have Hl1:Hid ((chkF k l i).length+1<=100000000):=zY (by
  rw[chkF_len]
  have:=Nat.mul_le_mul_right i hk.1
  omega);obtain⟨T,hT⟩:=zNm ((l.drop (k*i)).take k);rw[hT]at HT HF;generalize hno:(chkF k l i).length=no at *;have Hno:=zY hno;have Hl1:Hid ((chkF k l i).length+1<=100000000):=zY (by rw[hno];exact Hl1.out);have HX1:Hid (SrcAt (rowO plnS lo) w (wr.alloc (.cells #[.slice (some ⟨b,o,none⟩) n c] 59)) (.slice (some ⟨wr.heap.size,0,none⟩) 1 1) [T]):=zY (src1 (ρ:=rowO plnS lo) (wr:=wr) [.slice (some ⟨b,o,none⟩) n c] T ⟨_,rfl,HT.out,HLo.out _ _⟩ rfl);have HO1:=zY (HO.alloc (.cells #[.slice (some ⟨b,o,none⟩) n c] 59));have HB1:=zY (HB.alloc HB.size (.cells #[.slice (some ⟨b,o,none⟩) n c] 59));clear hno hT hdn Hx2 Hx h3 hx0 hr hrl h1 h2 hi h hn;by_cases hcn:c=n;{
 have hcp:(c=n)=True:=eq_true hcn;have HE:=zY (HE.out hcn);clear hcn;go_wp2_with (at_builtin;refine append_seq (w0:=w) Tryz.elemGrP rfl _ _ rfl rfl HO1.out rfl HX1.out Hl1.out HB1.out ?_;intro vb w6 hob _ hbb;have KV:=zY hob;have KC:=zY hbb;clear hob hbb);go_roundw;case rel=>exact⟨i+1,Hni.out,HE.out _,HLo.out _ _,by rw[HF.out];exact KV.out,KC.out⟩
 case measure=>exact Hms.out};{
 have hcp:(c=n)=False:=eq_false hcn;clear hcn;go_wp2_with (at_builtin;refine append_seq (w0:=w) Tryz.elemGrP rfl _ _ rfl rfl HO1.out rfl HX1.out Hl1.out HB1.out ?_;intro vb w6 hob _ hbb;have KV:=zY hob;have KC:=zY hbb;clear hob hbb);go_roundw;case rel=>exact⟨i+1,Hni.out,HD.out,HLo2.out _ _ _,by rw[HF.out];exact KV.out,KC.out⟩
 case measure=>exact Hms.out}};{
 obtain⟨A,c,rfl,_,_,_⟩:=hx;have hz:(l.drop (k*i)).length=0:=by rw[List.length_drop];omega
 rw[hz];have HF:=zY (chks_end (l:=l) hk.1 (by omega) hi);clear hz;generalize hno:(chkF k l i).length=no at *;clear hno h hi;go_wp2;go_ret;exact⟨⟨_,rfl,by rw[<-HF.out];exact HO.out⟩,HB.out⟩}
theorem prt_cut {s:ByteArray} (h:prtL (bs s)=true) (i j:Nat):prtL (bs (s.extract i j))=true:=by
 rw[prtL,List.all_eq_true]at h⊢;intro b hb;rw[bs_extract]at hb;exact h b (List.mem_of_mem_take (List.mem_of_mem_drop hb))
theorem prt_pad {s:ByteArray} (h:prtL (bs s)=true):prtL (bs (padS s))=true:=by
 rw[prtL,List.all_eq_true]at h⊢;intro b hb;have e:bs (padS s)=bs s++List.replicate (64*plnT s-s.size) 32:=by{
 have:=strB_cat (bs s) (List.replicate (64*plnT s-s.size) 32);rw[strB_bs]at this;rw[padS,this,bs_strB];intro c hc;rcases List.mem_append.1 hc with h1|h1;{
 obtain⟨d,_,rfl⟩:=List.mem_map.1 h1;exact UInt8.toNat_lt d};{rw[(List.mem_replicate.1 h1).2];omega}};rw[e]at hb;rcases List.mem_append.1 hb with h1|h1;{exact h b h1};{rw[(List.mem_replicate.1 h1).2];decide}
theorem plnAt_ok {a i:Nat} {s:ByteArray} (ha:a<4294967296) (hs:splitE s=0) (hi:i<plnT s):PlnOk a i (plnT s) (plnAt a s i).x:=by
 unfold splitE at hs;split at hs;{cases hs};{
 next h1=>
 split at hs;{cases hs};{
 next h2=>
 have h3:prtL (bs s)=true:=by{
 cases h:prtL (bs s)with
 |true=>rfl
 |false=>exact absurd h h2};refine⟨ha,hi,by unfold plnT;omega,?_,prt_cut (prt_pad h3) _ _⟩;rw[plnAt,ByteArray.size_extract,padS_size];omega}}
def plCells (g:List Pln):List Nat:=g.flatMap fun p=>plnL p.a p.i p.t p.x
theorem plCells_snoc (g:List Pln) (p:Pln):plCells (g++[p])=plCells g++plnL p.a p.i p.t p.x:=by simp[plCells]
def stripsT (a:Nat) (s:ByteArray):List ByteArray:=(chks 4 (plnsL a s)).map fun g=>strB (plCells g)
def stripR (a:Nat) (s:ByteArray):List ByteArray:=if splitE s=0 then stripsT a s else []
theorem chks_mem {α:Type} {k:Nat} {l g:List α} (h:g∈chks k l):(∀x∈g,x∈l)/\g.length<=k:=by
 obtain⟨j,_,rfl⟩:=List.mem_map.1 h;exact⟨fun x hx=>List.mem_of_mem_drop (List.mem_of_mem_take hx),by rw[List.length_take];omega⟩
theorem plnL_len {a i t:Nat} {x:ByteArray} (h:PlnOk a i t x):(plnL a i t x).length<=8000:=by
 rw[plnL,List.length_append,frmB_len];have:=sealL_len (textL_len h);show 16+_<=_;omega
theorem plnL_01 (a i t:Nat) (x:ByteArray):B01 (plnL a i t x):=by
 intro c hc;rcases List.mem_append.1 hc with h|h;{
 simp only[markP,List.mem_cons,List.not_mem_nil,or_false]at h;omega};{exact frmB_01 _ c h}
theorem plCells_bytes (g:List Pln):Bytes (plCells g):=fun c hc=>by
 obtain⟨p,_,h⟩:=List.mem_flatMap.1 hc
 exact b01_bytes (plnL_01 _ _ _ _) c h
theorem plCells_len {g:List Pln} (h:∀p∈g,PlnOk p.a p.i p.t p.x):(plCells g).length<=8000*g.length:=by
 induction g with
 |nil=>simp[plCells]
 |cons p r ih=>
 have h1:=ih fun q hq=>h q (List.mem_cons_of_mem _ hq);have h2:=plnL_len (h p List.mem_cons_self);show (plnL p.a p.i p.t p.x++plCells r).length<=_;rw[List.length_append,List.length_cons,Nat.mul_add];omega
theorem volstrips_any (w:World) (a:Nat) (d s:Int) (v:Value) (hv:v.oneCell'=true) (x:ByteArray) (ha:a<4294967296) (hx:x.size<=1000000) (hT:Tab w):Calls prog 46 #[.agg #[.int .u32 (a:Int),.int .i64 d,.int .i64 s,v],.string x] w fun e w'=>(∃vf,e=.returned (.tuple #[vf,.int .i64 (splitE x)])/\OwnSeq strS 9 w w' vf (stripR a x))/\Below w.heap.size w w':=by
 have HT:=zY hT;have HS:=zY (fun W=>plsplit_any W x a hx);obtain⟨E,hE⟩:=zNm (splitE x);rw[hE]at HS⊢;have hK:=Blk.new w 28 [.int .u32 (a:Int),.int .i64 d,.int .i64 s,v];have HK:Hid (Blk (w.alloc (.cells #[.int .u32 (a:Int),.int .i64 d,.int .i64 s,v] 28)) w.heap.size 28 [.int .u32 (a:Int),.int .i64 d,.int .i64 s,v]):=zY hK;have HB0:=zY (zBl w (.cells #[.int .u32 (a:Int),.int .i64 d,.int .i64 s,v] 28));have HE:=zY hE;clear hT hK hE;go_enter func46,ntmps46;go_upto_region 1 with fail;generalize w.alloc (.cells #[.int .u32 (a:Int),.int .i64 d,.int .i64 s,v] 28)=wa at *;have c0:=HK.c 0;go_wp2_with fail;refine(HS.out _).mono ?_;rintro e1 w1 ⟨⟨vl,rfl,hl⟩,hb1⟩;have HB1:=zYt HB0 hb1;have HL:=zY (hl.atF flatP hb1.size);obtain⟨Al,cl,rfl⟩:=hl.slice;clear hl hb1 c0 HK HB0 HS;by_cases h0:E=0;{
 subst h0;have HR:Hid (stripR a x=stripsT a x):=zY (by rw[stripR,if_pos HE.out]);have HSp:Hid (splitR a x=plnsL a x):=zY (by rw[splitR,if_pos HE.out]);rw[HSp.out]at HL⊢;have hll:(plnsL a x).length<=20000:=by{
 have h1:(plnsL a x).length=plnT x:=by simp[plnsL]
 rw[h1];unfold plnT;omega};have HOk:Hid (∀p∈plnsL a x,PlnOk p.a p.i p.t p.x):=zY (fun p hp=>by
  obtain⟨i,hi,rfl⟩:=List.mem_map.1 hp
  exact plnAt_ok ha HE.out (List.mem_range.1 hi));have HG:=zY (groupsP_any w1 _ (plnsL a x) 4 (by omega) HL.out 0 (fun _ _ _ _ _=>Nat.zero_le _) (by omega));have hml:(chks 4 (plnsL a x)).length<=20000:=by rw[chks,chkF_len];omega
 have HC4:Hid (∀g∈chks 4 (plnsL a x),(∀p∈g,PlnOk p.a p.i p.t p.x)/\g.length<=4):=zY (fun g hg=>⟨fun p hp=>HOk.out p ((chks_mem hg).1 p hp),(chks_mem hg).2⟩);have HSt:Hid (stripsT a x=(chks 4 (plnsL a x)).map fun g=>strB (plCells g)):=zY rfl;generalize chks 4 (plnsL a x)=G at *;generalize (plnsL a x).length=nl at *;obtain⟨m,hm⟩:=zNm (G.length);have Hm:=zY hm;rw[hm]at hml;clear hll hm HL HOk HSp;go_upto_region 5 with fail;go_wp2_with fail;refine HG.mono ?_;rintro e2 w2 ⟨⟨vg,rfl,hg⟩,hb2⟩;have HB2:=zYt HB1 hb2;have HGa:Hid (SeqAt (rowO plnS 0) w2 vg G):=zY ((hg.at hb2));obtain⟨Ag,cg,rfl⟩:=hg.slice;have HT2:=zY (HT.below HB2.out);rw[Hm.out];rw[Hm.out]at HGa;clear hg hb2 HG HT HB1;go_wp2;go_loopw [8,29] (fun y z wr=>∃i:Nat,i<=m/\z=.int .i64 (i:Int)/\OwnSeq strS 9 w2 wr y ((stripsT a x).take i)/\Below w2.heap.size w2 wr) (fun _ z _=>m-(intOf z).toNat);case atStart=>exact⟨0,by omega,rfl,OwnSeq.nil _,Below.refl _ _⟩
 case round=>
 obtain⟨i,hi,rfl,ho,hB⟩:=hrel;obtain⟨wq,rfl⟩:∃z,z=wr:=⟨_,rfl⟩;have HO:=zY ho;have HB:=zY hB;obtain⟨Ao,co,rfl⟩:=ho.slice;clear ho hB;generalize hno:((stripsT a x).take i).length=no at *;have Hno:=zY hno;clear hno;by_cases h:i<m;{
 have hiI:(i:Int)<m:=by omega
 obtain⟨g,hg⟩:∃g,G[i]?=some g:=⟨_,List.getElem?_eq_getElem (by rw[Hm.out];exact h)⟩;obtain⟨_,_,e9,_,_,h4⟩:=HGa.below HB.out;cases e9;obtain⟨b,o,cs,rfl,⟨vi,rfl,hvi,_⟩,hc⟩:=h4 i g hg;have k0:wq.cell? ⟨b,o+i,none⟩=some vi:=by have:=hc 0 _ rfl;rwa [show o+i*(rowO plnS 0).n+0=o+i by show o+i*1+0=o+i;omega]at this
 have HVi:=zY hvi;obtain⟨Ai,ci,rfl,_,_⟩:=hvi.slice;obtain⟨hok,hg4⟩:=HC4.out g (List.mem_of_getElem? hg);have Hok:=zY hok;have HF:Hid ((stripsT a x).take (i+1)=(stripsT a x).take i++[strB (plCells g)]):=zY (by
  rw[HSt.out,List.take_add_one,List.getElem?_map,hg]
  rfl);have Hl1:Hid (((stripsT a x).take i).length+1<=100000000):=zY (by rw[List.length_take];omega);obtain⟨gl,hgl⟩:=zNm (g.length);rw[hgl]at hg4 k0 HVi;have Hgl:=zY hgl;clear hc h4 hg hvi hok hgl;go_upto_region 9 with fail;have HBl0:Hid (Bld (wq.alloc (.cells #[.pointer none,.slice none 0 0] 135)) wq.heap.size wq.heap.size (plCells (g.take 0))):=zY (Bld.new wq);have HBq0:=zY (zBl wq (.cells #[.pointer none,.slice none 0 0] 135));clear k0;go_wp2;go_loopw [35] (fun z wr=>∃k:Nat,k<=gl/\z=.int .i64 (k:Int)/\Bld wr wq.heap.size wq.heap.size (plCells (g.take k))/\Below wq.heap.size wq wr) (fun z _=>gl-(intOf z).toNat);case atStart=>exact⟨0,by omega,rfl,HBl0.out,HBq0.out⟩
 case round=>
 obtain⟨k,hk,rfl,hbl,hBr⟩:=hrel;have HBl:=zY hbl;have HBr:=zY hBr;clear hbl hBr HBl0 HBq0;by_cases h':k<gl;{
 have hkI:(k:Int)<gl:=by omega
 obtain⟨p,hp⟩:∃p,g[k]?=some p:=⟨_,List.getElem?_eq_getElem (by rw[Hgl.out];exact h')⟩;have hpo:=Hok.out p (List.mem_of_getElem? hp);obtain⟨_,_,e9,_,_,h5⟩:=HVi.below HBr.out;cases e9;obtain⟨b2,o2,_,rfl,rfl,h6⟩:=h5 k p hp;have h6':∀j u,p.cells[j]?=some u->wr.cell? ⟨b2,o2+k*4+j,none⟩=some u:=h6;have HTs:Hid (plCells (g.take (k+1))=plCells (g.take k)++plnL p.a p.i p.t p.x):=zY (by rw[List.take_add_one,hp];exact plCells_snoc _ _);have hln:(plCells (g.take k)).length<=40000:=by have h1:=plCells_len (g:=g.take k) fun q hq=>Hok.out q (List.mem_of_mem_take hq);rw[List.length_take]at h1;omega
 have hCz:(strB (plnL p.a p.i p.t p.x)).size<=1000000:=by rw[strB_size];have:=plnL_len hpo;omega
 have HCb:Hid (bs (strB (plnL p.a p.i p.t p.x))=plnL p.a p.i p.t p.x):=zY (bs_strB (b01_bytes (plnL_01 _ _ _ _)));have HEn:=zY (fun(W:World) (hW:Below w2.heap.size w2 W)=>plenc_ok W p.a p.i p.t p.x hpo (HT2.below hW));have c0:=h6' 0 _ rfl;have c1:=h6' 1 _ rfl;have c2:=h6' 2 _ rfl;have c3:=h6' 3 _ rfl;rw[Nat.add_zero]at c0;obtain⟨pa,pi,pt,px⟩:=p;dsimp only at c0 c1 c2 c3 HEn HTs hCz HCb;have Hln:=zY hln;have HCz:=zY hCz;clear h5 h6 h6' hp hpo hln hCz;go_upto_region 12 with fail;have HZ:Hid (Blk (wr.alloc (.cells #[.int .u32 (pa:Int),.int .i64 (pi:Int),.int .i64 (pt:Int),.string px] 124)) wr.heap.size 124 [.int .u32 (pa:Int),.int .i64 (pi:Int),.int .i64 (pt:Int),.string px]):=zY (Blk.new wr 124 [.int .u32 (pa:Int),.int .i64 (pi:Int),.int .i64 (pt:Int),.string px]);have HBl1:=zY (HBl.alloc (.cells #[.int .u32 (pa:Int),.int .i64 (pi:Int),.int .i64 (pt:Int),.string px] 124));have HBr1:=zY (HBr.alloc HBr.size (.cells #[.int .u32 (pa:Int),.int .i64 (pi:Int),.int .i64 (pt:Int),.string px] 124));generalize wr.alloc (.cells #[.int .u32 (pa:Int),.int .i64 (pi:Int),.int .i64 (pt:Int),.string px] 124)=wz at *;have z0:=HZ.c 0;have z1:=HZ.c 1;have z2:=HZ.c 2;have z3:=HZ.c 3;clear c0 c1 c2 c3 HBl HBr;go_wp2_with fail;refine(HEn.out _ (HB.trans (HBr1.mono HB.size))).mono ?_;rintro e3 w3 ⟨rfl,hb3⟩;have HBl3:=zY (HBl1.below hb3);have HBr3:=zYt HBr1 hb3;have HWs:=zY (ws_any w3 wq.heap.size wq.heap.size _ (strB (plnL pa pi pt px)) HBl3.out (by have:=Hln.out;omega) HCz.out HBr3.size);rw[HCb.out]at HWs;clear hb3 z0 z1 z2 z3 HZ HBl1 HBr1 HEn;generalize strB (plnL pa pi pt px)=C at *
 go_wp2_with fail;refine HWs.mono ?_;rintro e4 w4 ⟨rfl,hbl4,hb4⟩;have HBl4:=zY hbl4;have HBr4:=zY (HBr3.trans hb4);clear hbl4 hb4;go_wp2;go_roundw;case rel=>exact⟨k+1,by omega,by go_num,by rw[HTs.out];exact HBl4.out,HBr4.out⟩
 case measure=>simp[intOf];omega};{
 obtain rfl:k=gl:=by omega
 have hkI:¬((k:Nat):Int)<(k:Int):=by omega
 have hall:g.take k=g:=List.take_of_length_le (by rw[Hgl.out];exact Nat.le_refl _);rw[hall]at HBl;have HSt:=zY (str_any wr wq.heap.size wq.heap.size _ (plCells_bytes g) HBl.out HBr.size);obtain⟨C,hC⟩:=zNm (strB (plCells g));rw[hC]at HF HSt;clear hall hC HBl;go_wp2_with fail;refine HSt.mono ?_;rintro e5 w5 ⟨rfl,_,hb5⟩;have HB5q:=zY (HBr.trans hb5);have HB5:=zY (HB.trans (HB5q.mono HB.size));have HO5:=zY (HO.below HB5q.out);have HO6:=zY (HO5.alloc (.cells #[.string C] 9));have HB6:=zY (HB5.alloc HB5.size (.cells #[.string C] 9));have HX6:Hid (SrcAt strS w2 (w5.alloc (.cells #[.string C] 9)) (.slice (some ⟨w5.heap.size,0,none⟩) 1 1) [C]):=zY (src1 (ρ:=strS) (wr:=w5) [.string C] C rfl rfl);clear hb5 HBr HB5q;go_wp2_with (at_builtin;refine append_seq (ρ:=strS) (w0:=w2) Tryz.elemStr rfl _ _ rfl rfl HO6.out rfl HX6.out Hl1.out HB6.out ?_;intro vb w6 hob _ hbb;have KV:=zY hob;have KC:=zY hbb;clear hob hbb);go_roundw;case rel=>exact⟨i+1,by omega,by go_num,by rw[HF.out];exact KV.out,KC.out⟩
 case measure=>simp[intOf];omega}};{
 obtain rfl:i=m:=by omega
 have hiI:¬((i:Nat):Int)<(i:Int):=by omega
 have hall:(stripsT a x).take i=stripsT a x:=List.take_of_length_le (by rw[HSt.out,List.length_map,Hm.out];exact Nat.le_refl _);rw[hall]at HO;clear hall;go_wp2;go_ret2;exact⟨⟨_,rfl,by rw[HR.out];exact HO.low flatS HB2.size⟩,HB2.trans (HB.mono HB2.size)⟩}};{
 have h0b:(E==0)=false:=by rw[beq_eq_false_iff_ne];exact h0
 have HR:Hid (stripR a x=[]):=zY (by rw[stripR,if_neg (by rw[HE.out];exact h0)]);go_wp2;go_ret2;exact⟨⟨_,rfl,by rw[HR.out];exact OwnSeq.nil _⟩,HB1.out⟩}
def FrmOk (f:Frm):Prop:=frE f.k f.r f.s f.i f.l f.d f.p f.t=0/\0<=f.a/\f.a<4294967296
def frmM (f:Frm):List Nat:=marL f.k.toNat f.r.toNat f.s.toNat f.i.toNat f.l.toNat f.d.toNat f.p.toNat f.a.toNat f.t
def celsL (fs:List Frm):List Nat:=flatCl (fs.map frmM)
theorem frmM_ok {f:Frm} (h:FrmOk f):Bytes (frmM f)/\(frmM f).length=44/\fencR f.k f.r f.s f.i f.l f.d f.p f.a f.t=.tuple #[.string (strB (markL++bodyL (frmM f))),.int .i64 0]:=by
 obtain⟨h',ha⟩:=h;have h3:fencR f.k f.r f.s f.i f.l f.d f.p f.a f.t=.tuple #[.string (markS++strB (bodyL (frmM f))),.int .i64 0]:=by unfold fencR frmM;rw[if_neg (by simpa using h')]
 rw[mark_cat]at h3;have hm:Bytes (frmM f)/\(frmM f).length=44:=by obtain⟨k,r,s,i,l,d,p,a,t⟩:=f;have h':frE k r s i l d p t=0:=h';have ha':0<=a/\a<4294967296:=ha;obtain⟨g1,g2,g3,g4,g5,g6,g7,g8⟩:=frE_ok h';obtain⟨k,rfl⟩:∃n:Nat,k=n:=⟨k.toNat,by omega⟩;obtain⟨r,rfl⟩:∃n:Nat,r=n:=⟨r.toNat,by omega⟩;obtain⟨s,rfl⟩:∃n:Nat,s=n:=⟨s.toNat,by omega⟩;obtain⟨i,rfl⟩:∃n:Nat,i=n:=⟨i.toNat,by omega⟩;obtain⟨l,rfl⟩:∃n:Nat,l=n:=⟨l.toNat,by omega⟩;obtain⟨d,rfl⟩:∃n:Nat,d=n:=⟨d.toNat,by omega⟩;obtain⟨p,rfl⟩:∃n:Nat,p=n:=⟨p.toNat,by omega⟩;obtain⟨a,rfl⟩:∃n:Nat,a=n:=⟨a.toNat,by omega⟩;obtain⟨_,_,_,hb,hl,_,_⟩:=mar_ok h' (by omega:a<4294967296);exact⟨hb,hl⟩
 exact⟨hm.1,hm.2,h3⟩
theorem celsL_len (fs:List Frm):(celsL fs).length=852*fs.length:=by rw[celsL,flatC_len,List.length_map]
theorem celsL_snoc (fs:List Frm) (f:Frm):celsL (fs++[f])=celsL fs++(markL++bodyL (frmM f)):=by
 rw[celsL,List.map_append,flatC_app];show flatCl _++((markL++bodyL (frmM f))++[])=_;rw[List.append_nil];rfl
theorem celsL_bytes {fs:List Frm} (h:∀f∈fs,FrmOk f):Bytes (celsL fs):=flatC_bytes fun m hm=>by
 obtain⟨f,hf,rfl⟩:=List.mem_map.1 hm
 exact⟨(frmM_ok (h f hf)).1,(frmM_ok (h f hf)).2.1⟩
theorem scjoin_ok (w:World) (v:Value) (fs:List Frm) (hv:SeqAt frmS w v fs) (hl:fs.length<=100) (ha:∀f∈fs,FrmOk f):
  Calls prog 48 #[v] w fun e w'=>e=.returned (.tuple #[.string (strB (celsL fs)),.int .i64 0])/\Below w.heap.size w w':=by
 have Hv:=zY hv;have Ha:=zY ha;have Hby:=zY (celsL_bytes ha);obtain⟨A,c,rfl,h1,h2,h3⟩:=hv;have HK0:Hid (Bld (w.alloc (.cells #[.pointer none,.slice none 0 0] 135)) w.heap.size w.heap.size (celsL (fs.take 0))):=zY (Bld.new w);have HB0:=zY (zBl w (.cells #[.pointer none,.slice none 0 0] 135));clear h3 ha;obtain⟨R,hR⟩:=zNm (strB (celsL fs));rw[hR];have HR:=zY hR;clear hR;go_enter func48,ntmps48;go_wp2;go_loopw [11] (fun x wr=>∃k:Nat,k<=fs.length/\x=.int .i64 (k:Int)/\Bld wr w.heap.size w.heap.size (celsL (fs.take k))/\Below w.heap.size w wr) (fun x _=>fs.length-(intOf x).toNat);case atStart=>exact⟨0,by omega,rfl,HK0.out,HB0.out⟩
 case round=>
 obtain⟨k,hk,rfl,hbl,hB⟩:=hrel;have Hbl:=zY hbl;have HBr:=zY hB;clear hbl hB HK0 HB0;by_cases h:k<fs.length;{
 have hkI:(k:Int)<fs.length:=by omega
 obtain⟨f,hf⟩:∃f,fs[k]?=some f:=⟨_,List.getElem?_eq_getElem h⟩;have hok:=Ha.out f (List.mem_of_getElem? hf);obtain⟨hm1,hm2,hm3⟩:=frmM_ok hok;obtain⟨_,_,e9,_,_,h4⟩:=Hv.below HBr.out;cases e9;obtain⟨b,o,_,rfl,rfl,h5⟩:=h4 k f hf;have h28:=(frE_ok hok.1).2.2.2.2.2.2.2;have HE:=zY (fun W=>fenc_any W f.k f.r f.s f.i f.l f.d f.p f.a f.t (by omega) hok.2);rw[hm3]at HE;obtain⟨C,hC⟩:=zNm (strB (markL++bodyL (frmM f)));rw[hC]at HE;have HCb:Hid (bs C=markL++bodyL (frmM f)):=zY (by rw[<-hC,bs_strB (bytes_app (b01_bytes markL_01) (bodyL_bytes hm1 hm2))]);have hCz:C.size<=1000000:=by rw[<-hC,strB_size,List.length_append,markL_len,bodyL_len];omega
 have HTs:Hid (celsL (fs.take (k+1))=celsL (fs.take k)++bs C):=zY (by rw[List.take_add_one,hf,HCb.out,<-celsL_snoc];rfl);clear hm1 hm2 hm3 hok hC HCb h28;have h5':∀j u,f.cells[j]?=some u->wr.cell? ⟨b,o+k*9+j,none⟩=some u:=h5;obtain⟨k0,r0,s0,i0,l0,d0,p0,a0,t0⟩:=f;have c0:=h5' 0 _ rfl;have c1:=h5' 1 _ rfl;have c2:=h5' 2 _ rfl;have c3:=h5' 3 _ rfl;have c4:=h5' 4 _ rfl;have c5:=h5' 5 _ rfl;have c6:=h5' 6 _ rfl;have c7:=h5' 7 _ rfl;have c8:=h5' 8 _ rfl;dsimp only at c0 c1 c2 c3 c4 c5 c6 c7 c8 HE;clear h4 h5 h5' hf;rw[Nat.add_zero]at c0;go_upto_region 5 with fail;have hA:Below wr.heap.size wr (wr.alloc (.cells #[.int .i64 k0,.int .i64 r0,.int .i64 s0,.int .i64 i0,.int .i64 l0,.int .i64 d0,.int .i64 p0,.int .u32 a0,.string t0] 49)):=(Below.refl _ _).alloc (Nat.le_refl _) _;have HZ:=zY (Box9.blk (Blk.new wr 49 [.int .i64 k0,.int .i64 r0,.int .i64 s0,.int .i64 i0,.int .i64 l0,.int .i64 d0,.int .i64 p0,.int .u32 a0,.string t0]));change Hid (Box9 (wr.alloc (.cells #[.int .i64 k0,.int .i64 r0,.int .i64 s0,.int .i64 i0,.int .i64 l0,.int .i64 d0,.int .i64 p0,.int .u32 a0,.string t0] 49)) _ _ _ _ _ _ _ _ _ _)at HZ;have Hbl1:=zY (Bld.moved Hbl.out (fun k o hk _=>(hA.block k (Array.getElem?_eq_some_iff.1 hk).1).trans hk));have HB1:=zYt HBr hA;clear hA Hbl HBr c0 c1 c2 c3 c4 c5 c6 c7 c8;generalize wr.alloc (.cells #[.int .i64 k0,.int .i64 r0,.int .i64 s0,.int .i64 i0,.int .i64 l0,.int .i64 d0,.int .i64 p0,.int .u32 a0,.string t0] 49)=wa at *;obtain⟨c0,c1,c2,c3,c4,c5,c6,c7,c8⟩:=HZ.out;unfold frV at HE;go_upto_region 8 with(go_at_call 96;refine(HE.out _).mono ?_;rintro e w1 ⟨rfl,hb1⟩)
 have HB2:=zYt HB1 hb1;have hbl2:=Bld.moved Hbl1.out (fun k o hk _=>(hb1.block k (Array.getElem?_eq_some_iff.1 hk).1).trans hk);have hln:(celsL (fs.take k)).length<=1000000:=by rw[celsL_len,List.length_take];omega
 have HW:=zY (ws_any w1 w.heap.size w.heap.size _ C hbl2 hln hCz HB2.size);clear hb1 HB1 Hbl1 HZ HE hbl2 c0 c1 c2 c3 c4 c5 c6 c7 c8;go_wp2_with (go_at_call 64;refine HW.mono ?_;rintro e w2 ⟨rfl,hbl3,hb2⟩);go_roundw;case rel=>exact⟨k+1,by omega,by go_num,by rw[HTs.out];exact hbl3,HB2.trans hb2⟩
 case measure=>simp[intOf];omega};{
 obtain rfl:k=fs.length:=by omega
 have hbl:=Hbl.out;rw[List.take_length]at hbl;have HS:=zY (str_any wr w.heap.size w.heap.size _ Hby.out hbl HBr.size);rw[HR.out]at HS;clear hbl;go_wp2_with (go_at_call 65;refine HS.mono ?_;rintro e w1 ⟨rfl,_,hb1⟩);go_ret2;exact⟨rfl,HBr.trans hb1⟩}
def reelsL (id d s n:Int) (x:Ses):List (List Frm):=(List.range (d.toNat+s.toNat)).map fun r=>reelL id d s n r (partsB (strB (dirL x))) (rowsL d.toNat s.toNat x.str) x.str
def framesF (id d s:Int) (L:List Ses) (n:Int):List Frm:=
 if contE d s L n≠0 then [] else match L[(n-1).toNat]? with
  |none=>[]
  |some x=>(reelsL id d s n x).flatten
theorem framesF_err {id d s n:Int} {L:List Ses} (h:contE d s L n≠0):framesF id d s L n=[]:=by rw[framesF,if_pos h]
theorem framesF_ok {id d s n:Int} {L:List Ses} {x:Ses} (h:contE d s L n=0) (hx:L[(n-1).toNat]?=some x):framesF id d s L n=(reelsL id d s n x).flatten:=by rw[framesF,if_neg (by omega),hx]
theorem contE_parts {d s n:Int} {L:List Ses} {x:Ses} (h:contE d s L n=0) (hx:L[(n-1).toNat]?=some x):(partsB (strB (dirL x))).length<=65536:=by
 unfold contE at h;split at h;{omega};{
 split at h;{omega};{
 rw[hx]at h;dsimp only at h;split at h;{omega};{omega}}}
theorem partsB_size (s:ByteArray):∀p∈partsB s,p.size<=28:=by
 intro p hp;obtain⟨k,_,rfl⟩:=List.mem_map.1 hp;rw[partB,ByteArray.size_extract];omega
theorem rowsL_mem {d s:Nat} {st:ByteArray} {x:List ByteArray} (h:x∈rowsL d s st):x.length=d+s:=by
 obtain⟨y,hy,rfl⟩:=List.mem_map.1 h;obtain⟨k,_,rfl⟩:=List.mem_map.1 hy;rw[List.length_append,datL_len];simp[sparL]
theorem rowsL_len {d s:Nat} {st:ByteArray} (hd:1<=d) (hs:st.size<=1835008):(rowsL d s st).length<=65537:=by
 rw[rowsL,List.length_map,stripL,List.length_map,List.length_range];unfold strN;apply Nat.le_of_lt_succ;rw[Nat.div_lt_iff_lt_mul (by omega)];have:28*1<=28*d:=by omega
 have:=Nat.mul_le_mul_left (65537+1) this;omega
theorem reelL_len {id d s n:Int} {r:Nat} {P:List ByteArray} {S:List (List ByteArray)} {st:ByteArray}:(reelL id d s n r P S st).length=P.length+S.length:=by
 rw[reelL,List.length_append];simp[partsF,stripsF]
theorem frames_any (w:World) (id d s:Int) (v:Value) (L:List Ses) (n:Int) (hv:SeqAt sesS w v L) (hl:L.length<=1000) (hL:SesAll L) (hT:Tab w):Calls prog 13 #[.agg #[.int .u32 id,.int .i64 d,.int .i64 s,v],.int .i64 n] w fun e w'=>(∃vf,e=.returned (.tuple #[vf,.int .i64 (contE d s L n)])/\OwnSeq frmS 49 w w' vf (framesF id d s L n))/\Below w.heap.size w w':=by
 have Hv:=zY hv;have HL:=zY hL;have HCo:=zY (fun W (hW:Below w.heap.size w W)=>contents_any W id d s v L n (hv.below hW) hl hL (hT.below hW));obtain⟨A,c,rfl,_,_⟩:=hv.slice;have hK:=Blk.new w 28 [.int .u32 id,.int .i64 d,.int .i64 s,.slice A L.length c];have HK:Hid (Blk (w.alloc (.cells #[.int .u32 id,.int .i64 d,.int .i64 s,.slice A L.length c] 28)) w.heap.size 28 [.int .u32 id,.int .i64 d,.int .i64 s,.slice A L.length c]):=zY hK;have HB0:=zY (zBl w (.cells #[.int .u32 id,.int .i64 d,.int .i64 s,.slice A L.length c] 28));obtain⟨k,hk⟩:=zNm (contE d s L n);rw[hk];have Hk:=zY hk;clear hv hL hT hK hk;go_enter func13,ntmps13;go_upto_region 1 with fail;generalize w.alloc (.cells #[.int .u32 id,.int .i64 d,.int .i64 s,.slice A L.length c] 28)=wa at *;have c0:=HK.c 0;have c1:=HK.c 1;have c2:=HK.c 2;have c3:=HK.c 3;go_wp2_with fail;refine(HCo.out _ HB0.out).mono ?_;rintro e1 w1 ⟨⟨vp,vs,st,P,S,rfl,hpo,hso,hok⟩,hb1⟩;have hp:=hpo.atF flatS hb1.size;have hs:=hso.at hb1.size;clear hpo hso;obtain⟨Ap,cp,rfl,_,_⟩:=hp.slice;obtain⟨As,cs,rfl,_,_⟩:=hs.slice;have HP:=zY hp;have HS:=zY hs;have Hok:=zY hok;have HK1:=zY (HK.kept hb1);have HB1:=zYt HB0 hb1;clear hb1 hp hs hok c0 c1 c2 c3 HK HB0 HCo;have hk:=Hk.out;rw[hk]at Hok⊢;have HC0:=zY (Blk.new w1 98 [.slice Ap P.length cp,.slice As S.length cs,.string st]);have HC:Hid (Blk (w1.alloc (.cells #[.slice Ap P.length cp,.slice As S.length cs,.string st] 98)) w1.heap.size 98 [.slice Ap P.length cp,.slice As S.length cs,.string st]):=zY HC0.out;have HK2:=zY (HK1.alloc (.cells #[.slice Ap P.length cp,.slice As S.length cs,.string st] 98))
 have HB2:=zY (HB1.alloc HB1.size (.cells #[.slice Ap P.length cp,.slice As S.length cs,.string st] 98));have HBw:=zY (zBl w1 (.cells #[.slice Ap P.length cp,.slice As S.length cs,.string st] 98));have HPb:=zY (HP.below HBw.out);have HSb:=zY (HS.below HBw.out);clear HC0 HK1 HB1 HP HS;by_cases h0:k=0;{
 subst h0;obtain⟨x,hn1,hn2,hd1,hd2,hs1,hs2,hx,rfl,rfl,rfl⟩:=Hok.out rfl;have hF:framesF id d s L n=(reelsL id d s n x).flatten:=framesF_ok hk hx;have HF:=zY hF;have hPl:=contE_parts hk hx;have hPz:=partsB_size (strB (dirL x));have hst:=(HL.out _ _ hx).2.2;have hSl:(rowsL d.toNat s.toNat x.str).length<=65537:=rowsL_len (by omega) hst;have hSm:∀y∈rowsL d.toNat s.toNat x.str,y.length=d.toNat+s.toNat:=fun y hy=>rowsL_mem hy;obtain⟨RL,hRL⟩:∃RL,RL=reelsL id d s n x:=⟨_,rfl⟩;have HRl:Hid (RL.length=d.toNat+s.toNat):=zY (by rw[hRL];simp[reelsL]);have HRg:Hid (∀i,i<d.toNat+s.toNat->RL[i]?=some (reelL id d s n i (partsB (strB (dirL x))) (rowsL d.toNat s.toNat x.str) x.str)):=zY (fun i hi=>by rw[hRL,reelsL,List.getElem?_map,List.getElem?_range hi];rfl);have HRz:Hid (∀y∈RL,y.length<=131073):=zY (by
  rw[hRL]
  intro y hy
  obtain⟨r,_,rfl⟩:=List.mem_map.1 hy
  rw[reelL_len]
  omega);rw[<-hRL]at HF;have Hx:=zY hx;generalize partsB (strB (dirL x))=P at *;generalize rowsL d.toNat s.toNat x.str=S at *;generalize x.str=st at *;have HPz:=zY hPz;have HSm:=zY hSm;have hone:(Value.slice A L.length c).oneCell'=true:=rfl;obtain⟨wb,hwb⟩:∃wb,wb=w1.alloc (.cells #[.slice Ap P.length cp,.slice As S.length cs,.string st] 98):=⟨_,rfl⟩;rw[<-hwb]at HC HK2 HB2 HPb HSb;have HOn:Hid (∀(V:World) (r:Nat),Below wb.heap.size wb V->r<d.toNat+s.toNat->Calls prog 39 #[.agg #[.int .u32 id,.int .i64 d,.int .i64 s,.slice A L.length c],.int .i64 n,.int .i64 (r:Int),.agg #[.slice Ap P.length cp,.slice As S.length cs,.string st]] V fun e w'=>RetSeq frmS 49 V w' (reelL id d s n r P S st) e/\Below V.heap.size V w'):=zY (fun V r hV hr=>onreel_any V id d s n r _ _ _ st P S hone (HPb.below hV) (HSb.below hV) hPl HPz.out hSl (fun y hy=>by rw[HSm.out y hy];exact hr) ⟨hd1,hd2⟩ (by omega) (by omega));have c1:=HK2.c 1;have c2:=HK2.c 2;have hdsI:d+s=((d.toNat+s.toNat:Nat):Int):=by omega
 obtain⟨N,hN⟩:=zNm (d.toNat+s.toNat);rw[hN]at hdsI HRl HRg HOn;have hN15:N<=15:=by omega
 have hdsw:IntKind.i64.wrap (d+s)=N:=by rw[hdsI];exact zIw (by omega)
 clear hF hRL hx hPl hPz hst hSl hSm hone hk Hok hN;go_upto_region 4 with fail;rw[<-hwb];clear hwb HBw;go_wp2;go_loopw [8,26] (fun y x wr=>∃i:Nat,i<=N/\x=.int .i64 (i:Int)/\OwnSeq frmS 49 wb wr y (RL.take i).flatten/\Below wb.heap.size wb wr) (fun _ x _=>N-(intOf x).toNat);case atStart=>exact⟨0,by omega,rfl,OwnSeq.nil _,Below.refl _ _⟩
 case round=>
 obtain⟨i,hi,rfl,ho,hB⟩:=hrel;have HO:=zY ho;have HB:=zY hB;clear c1 c2;by_cases h:i<N;{
 obtain⟨Ao,co,rfl⟩:=ho.slice;clear ho hB;have hiI:(i:Int)<N:=by omega
 have hx:=HRg.out i h;obtain⟨F,hF⟩:=zNm (reelL id d s n i P S st);rw[hF]at hx;have HT:Hid ((RL.take (i+1)).flatten=(RL.take i).flatten++F):=zY (by rw[List.take_add_one,hx,List.flatten_append];simp);have hzz:∀(l:List (List Frm)),(∀y∈l,y.length<=131073)->l.flatten.length<=l.length*131073:=by{
 intro l;induction l with
 |nil=>intro _;simp
 |cons y r ih=>
 intro h;have h1:=ih fun z hz=>h z (List.mem_cons_of_mem _ hz);have h2:=h y List.mem_cons_self;rw[List.flatten_cons,List.length_append,List.length_cons,Nat.add_mul];omega};have hz1:=hzz (RL.take i) fun y hy=>HRz.out y (List.mem_of_mem_take hy);have hz2:=HRz.out F (List.mem_of_getElem? hx);rw[List.length_take]at hz1;have Hl1:Hid ((RL.take i).flatten.length+F.length<=100000000):=zY (by
  have:min i RL.length*131073<=15*131073:=Nat.mul_le_mul (by omega) (Nat.le_refl _)
  omega);have HCl:=zY (HOn.out wr i HB.out h);rw[hF]at HCl;have HKr:=HK2.kept HB.out;have HCr:=HC.kept HB.out;have a0:=HKr.c 0;have a1:=HKr.c 1;have a2:=HKr.c 2;have a3:=HKr.c 3;have k0:=HCr.c 0;have k1:=HCr.c 1;have k2:=HCr.c 2;generalize hno:(RL.take i).flatten.length=no at *;have Hno:=zY hno;have Hl1:Hid ((RL.take i).flatten.length+F.length<=100000000):=zY (by rw[hno];exact Hl1.out);clear hno hzz hz1 hz2 hx hF HKr HCr;go_wp2_with fail;refine HCl.mono ?_;rintro e5 w5 ⟨⟨vf,rfl,hf⟩,hb5⟩;have HB5:=zYt HB hb5;have HO5:=zY (HO.stay (W':=w5) fun k o _ ho _=>(hb5.block k (Array.getElem?_eq_some_iff.1 ho).1).trans ho);have HSr:Hid (SrcAt frmS wb w5 vf F):=zY (SrcAt.flat flatFrm (hf.at hb5));clear hf hb5 a0 a1 a2 a3 k0 k1 k2 HCl;go_wp2_with (at_builtin;refine append_seq (w0:=wb) Tryz.elemFrm rfl _ _ rfl rfl HO5.out rfl HSr.out Hl1.out HB5.out ?_;intro vb w6 hob _ hbb;have KV:=zY hob;have KC:=zY hbb;clear hob hbb);go_roundw;case rel=>exact⟨i+1,by omega,by go_num,by rw[HT.out];exact KV.out,KC.out⟩
 case measure=>simp[intOf];omega};{
 obtain rfl:i=N:=by omega
 have hiI:¬((i:Nat):Int)<(i:Int):=by omega
 have hall:(RL.take i).flatten=framesF id d s L n:=by rw[HF.out,List.take_of_length_le (by rw[HRl.out];exact Nat.le_refl _)]
 rw[hall]at HO;clear hall ho hB;go_wp2;go_ret2;exact⟨⟨_,rfl,HO.low flatFrm HB2.size⟩,HB2.trans (HB.mono HB2.size)⟩}};{
 have h0b:(k==0)=false:=by rw[beq_eq_false_iff_ne];exact h0
 have HF:=zY (framesF_err (id:=id) (by rw[hk];exact h0:contE d s L n≠0));clear hk Hok;go_wp2;go_ret2;exact⟨⟨_,rfl,by rw[HF.out];exact OwnSeq.nil _⟩,HB2.out⟩}
theorem valD_take {l:List Nat} {k x:Nat} (h:l[k]?=some x):valD (l.take (k+1))=10*valD (l.take k)+(x-48):=by
 have e:l.take (k+1)=l.take k++[x]:=by rw[List.take_add_one,h];rfl
 rw[e,valD,List.foldl_append];rfl
theorem allT_snoc {l:List Nat} {k x:Nat} (h:l[k]?=some x):(l.take (k+1)).all digB=((l.take k).all digB&&digB x):=by
 have e:l.take (k+1)=l.take k++[x]:=by rw[List.take_add_one,h];rfl
 rw[e,List.all_append];simp
theorem rnum_any (w:World) (s:ByteArray) (hs:s.size<=17):Calls prog 122 #[.string s] w fun e w'=>e=.returned (.int .i64 (if (bs s).all digB=true then ((valD (bs s):Nat):Int) else -1))/\w'=w:=by
 obtain⟨b,hb⟩:=zNm ((bs s).all digB);obtain⟨V,hV⟩:=zNm (valD (bs s));rw[hb,hV];have Hb:=zY hb;have HVe:=zY hV;obtain⟨N,hN⟩:=zNm ((if b=true then (V:Int) else -1));rw[hN];have HN:=zY hN;clear hb hV hN;go_enter func122,ntmps122;go_wp2;go_loop [3,4] (fun y x=>∃k:Nat,k<=s.size/\x=.int .i64 (k:Int)/\y=.int .i64 ((valD ((bs s).take k):Nat):Int)/\((bs s).take k).all digB=true) (fun _ x=>s.size-(intOf x).toNat);case atStart=>exact⟨0,by omega,rfl,rfl,rfl⟩
 case round=>
 obtain⟨k,hk,rfl,rfl,hall⟩:=hrel;have hv:=valD_lt hall;rw[List.length_take,bs_len,Nat.min_eq_left hk]at hv;have hp:(10:Nat)^k<=10^17:=Nat.pow_le_pow_right (by omega) (by omega);have hq:(10:Nat)^17=100000000000000000:=by decide
 by_cases h:k<s.size;{
 have hkI:(k:Int)<s.size:=by omega
 have hp2:(10:Nat)^k<=10^16:=Nat.pow_le_pow_right (by omega) (by omega);have hq2:(10:Nat)^16=10000000000000000:=by decide
 obtain⟨x,hx⟩:=zNm ((s[k]'h).toNat);have hg:(bs s)[k]?=some x:=by rw[<-hx];exact bs_get s k h
 have hx256:x<256:=by rw[<-hx];exact UInt8.toNat_lt _
 have HV:=zY (valD_take hg);have HA:=zY (allT_snoc hg);have hxI:((s[k]'h).toNat:Int)=(x:Int):=by rw[hx]
 have Hall:=zY hall;have HNo:Hid (digB x=false->b≠true):=zY (fun hf ha=>by
  rw[<-Hb.out]at ha
  have:=List.all_eq_true.1 ha x (List.mem_of_getElem? hg)
  rw[hf]at this
  cases this);obtain⟨v,hvv⟩:=zNm (valD ((bs s).take k));rw[hvv]at HV hv⊢;clear hall hg hp hq hvv;by_cases h1:x<48;{
 have i1:(x:Int)<48:=by omega
 go_wp2;go_ret;exact⟨by rw[<-HN.out,if_neg (HNo.out (by unfold digB;exact decide_eq_false (by omega)))]<;>rfl,rfl⟩};{
 have i1:¬(x:Int)<48:=by omega
 by_cases h2:57<x;{
 have i2:(57:Int)<(x:Int):=by omega
 go_wp2;go_ret;exact⟨by rw[<-HN.out,if_neg (HNo.out (by unfold digB;exact decide_eq_false (by omega)))]<;>rfl,rfl⟩};{
 have i2:¬(57:Int)<(x:Int):=by omega
 have hw1:IntKind.i64.wrap (10*(v:Int))=10*(v:Int):=zIw (by omega);have hw2:IntKind.u8.wrap ((x:Int)-48)=((x-48:Nat):Int):=by rw[IntWalk.u8_in _ (by omega)];omega
 have hw3:IntKind.i64.wrap ((x-48:Nat):Int)=((x-48:Nat):Int):=zIw (by omega);have hw4:IntKind.i64.wrap (10*(v:Int)+((x-48:Nat):Int))=((10*v+(x-48):Nat):Int):=by rw[zIw (by omega)];omega
 have hsub:(x:Int)-48=((x-48:Nat):Int):=by omega
 clear h1 h2 hx;go_wp2;go_round;case rel=>exact⟨k+1,by omega,by go_num,by rw[HV.out]<;>go_num,by rw[HA.out,Hall.out];unfold digB;exact decide_eq_true (by omega)⟩
 case measure=>simp[intOf];omega}}};{
 obtain rfl:k=s.size:=by omega
 have ht:(bs s).take s.size=bs s:=List.take_of_length_le (by rw[bs_len];exact Nat.le_refl _);rw[ht,HVe.out]at hv⊢;have HbT:Hid (b=true):=zY (by rw[<-Hb.out,<-ht];exact hall);clear hall hv hp hq ht;go_wp2;go_ret;exact⟨by rw[<-HN.out,if_pos HbT.out]<;>rfl,rfl⟩}
theorem puint_val {l:List UInt8} (h:natL l≠[]) (hd:(natL l).all digB=true) (hl:l.length<=18):Lib.parseUintB 64 l=.ok (valD (natL l)):=by
 have key:∀(l:List UInt8) (a m:Nat),(natL l).all digB=true->a<10^m->m+l.length<=18->Lib.parseUintM (2^64-1) a l=.ok ((natL l).foldl (fun n c=>10*n+(c-48)) a):=by{
 intro l;induction l with
 |nil=>intro a m _ _ _;rfl
 |cons b r ih=>
 intro a m hd ha hm;have hd':digB b.toNat=true/\(natL r).all digB=true:=by have:((b.toNat::natL r).all digB)=true:=hd;rwa [List.all_cons,Bool.and_eq_true]at this
 have hb:48<=b.toNat/\b.toNat<=57:=of_decide_eq_true hd'.1;have hm':m+1+r.length<=18:=by rw[List.length_cons]at hm;omega
 have hp:(10:Nat)^m<=10^17:=Nat.pow_le_pow_right (by omega) (by omega);have hq:(10:Nat)^17=100000000000000000:=by decide
 have hz:(2:Nat)^64-1=18446744073709551615:=by decide
 rw[hz]at ih⊢;have e:a*10+(b.toNat-48)=10*a+(b.toNat-48):=by omega
 rw[Lib.parseUintM,if_pos hb,if_neg (by omega),if_neg (by omega),e,ih _ (m+1) hd'.2 (by rw[Nat.pow_succ];omega) hm'];rfl};have hne:l≠[]:=by intro e;subst e;exact h rfl
 rw[Lib.parseUintB,if_neg hne];exact key l 0 0 hd (by decide) (by omega)
theorem allIn_dig (l:List Nat):allIn (bs ⟨#[48,49,50,51,52,53,54,55,56,57]⟩) l=l.all digB:=by
 have e:(fun b=>(bs ⟨#[48,49,50,51,52,53,54,55,56,57]⟩).contains b)=digB:=by funext b;show ([48,49,50,51,52,53,54,55,56,57]:List Nat).contains b=decide (48<=b/\b<=57);rw[Bool.eq_iff_iff,decide_eq_true_iff,List.contains_iff_mem];simp only[List.mem_cons,List.not_mem_nil,or_false];omega
 unfold allIn;rw[e]
theorem pdig2_any (w:World) (s:ByteArray) (h0:0<s.size) (h1:s.size<=18):Calls prog 246 #[.string s] w fun e w'=>e=.returned (.tuple #[.int .u64 ((if (bs s).all digB=true then valD (bs s) else 0:Nat):Int),.bool ((bs s).all digB)])/\Below w.heap.size w w':=by
 have HT:=zY (trim_any w s ⟨#[48,49,50,51,52,53,54,55,56,57]⟩ (by omega) (by decide) (by decide));rw[allIn_dig]at HT;have HP:Hid ((bs s).all digB=true->∀W:World,Calls prog 247 #[.string s,.int .i64 10,.int .i64 64] W fun e w'=>e=.returned (.tuple #[.int .u64 ((valD (bs s):Nat):Int),.nilIface])/\Below W.heap.size W w'):=zY (fun ha W=>
  (Tryz.strconv_ParseUint_10_at64_ok s (by omega) _ (puint_val (l:=s.data.toList) (fun e=>by
   have h2:(natL s.data.toList).length=0:=by rw[e];rfl
   have h3:(natL s.data.toList).length=s.size:=bs_len s
   omega) ha (by have h3:s.data.toList.length=s.size:=rfl;omega)) W).mono (by
    rintro e w' ⟨rfl,h|h⟩
    ·exact⟨rfl,h▸Below.refl _ _⟩
    ·exact⟨rfl,h▸below_bytes _ _ _⟩));obtain⟨b,hb⟩:=zNm ((bs s).all digB);rw[hb]at HT HP⊢;obtain⟨v,hv⟩:=zNm (valD (bs s));rw[hv]at HP⊢;clear hb hv h0 h1;go_enter func246,ntmps246;go_wp2_with fail;refine HT.mono ?_;rintro e2 w2 ⟨t,rfl,ht,hb2⟩;have HB2:=zY hb2;clear hb2;cases b with
 |true=>have ht1:t.toList=[]:=List.isEmpty_iff.1 ht;have HQ:=zY (HP.out rfl w2);clear HP HT;go_wp2_with fail;refine HQ.mono ?_;rintro e3 w3 ⟨rfl,hb3⟩;have HB3:=zYt HB2 hb3;clear hb3;go_upto_region 4 with fail;go_quiet (fail);go_wp2;go_ret2;exact⟨rfl,blwN HB3.out _⟩
 |false=>
 have ht1:¬t.toList=[]:=fun e=>by rw[e]at ht;cases ht
 clear HP HT;go_wp2;go_ret2;exact⟨rfl,HB2.out⟩
theorem plcheck_any (w:World) (a i t:Nat) (x:ByteArray) (ha:a<4294967296) (ht:t<=99999) (hi:i<=99999) (hx:x.size=64):Calls prog 165 #[.agg #[.int .u32 (a:Int),.int .i64 (i:Int),.int .i64 (t:Int),.string x]] w fun e w'=>(∃n:Int,e=.returned (.int .i64 n)/\(n=0↔PlnOk a i t x))/\Below w.heap.size w w':=by
 by_cases h:PlnOk a i t x;{
 refine(plcheck_ok w a i t x h).mono ?_;rintro e w' ⟨rfl,hb⟩;exact⟨⟨0,rfl,by simp[h]⟩,hb⟩};have HP:=zY (fun W=>printable_any W x (by omega));have HN:=zY h;have HK:Hid (Blk (w.alloc (.cells #[.int .u32 (a:Int),.int .i64 (i:Int),.int .i64 (t:Int),.string x] 124)) w.heap.size 124 [.int .u32 (a:Int),.int .i64 (i:Int),.int .i64 (t:Int),.string x]):=zY (Blk.new w 124 [.int .u32 (a:Int),.int .i64 (i:Int),.int .i64 (t:Int),.string x]);have HB:=zY (zBl w (.cells #[.int .u32 (a:Int),.int .i64 (i:Int),.int .i64 (t:Int),.string x] 124));have h5:¬(99999:Int)<t:=by omega
 have h6:¬(i:Int)<0:=by omega
 have h8:(x.size:Int)=64:=by omega
 by_cases hit:i<t;{
 have hpr:prtL (bs x)=false:=by{
 cases e:prtL (bs x)with
 |false=>rfl
 |true=>exact absurd ⟨ha,hit,ht,hx,e⟩ h};rw[hpr]at HP;have h4:¬(t:Int)<1:=by omega
 have h7:¬(t:Int)<=i:=by omega
 clear hpr ha ht hi hx hit h;go_enter func165,ntmps165;go_upto_region 1 with fail;generalize w.alloc (.cells #[.int .u32 (a:Int),.int .i64 (i:Int),.int .i64 (t:Int),.string x] 124)=wa at *;have c1:=HK.c 1;have c2:=HK.c 2;have c3:=HK.c 3;go_wp2_with fail;refine(HP.out _).mono ?_;rintro e1 w1 ⟨rfl,rfl⟩;go_wp2;go_ret;exact⟨⟨_,rfl,by simp[HN.out]⟩,HB.out⟩};{
 have h7:(t:Int)<=i:=by omega
 clear ha ht hi hx hit h;go_enter func165,ntmps165;go_upto_region 1 with fail;generalize w.alloc (.cells #[.int .u32 (a:Int),.int .i64 (i:Int),.int .i64 (t:Int),.string x] 124)=wa at *;have c1:=HK.c 1;have c2:=HK.c 2;have c3:=HK.c 3;by_cases h4:(t:Int)<1;{
 go_wp2;go_ret;exact⟨⟨_,rfl,by simp[HN.out]⟩,HB.out⟩};{
 go_wp2;go_ret;exact⟨⟨_,rfl,by simp[HN.out]⟩,HB.out⟩}}
end
end Go.Proofs.YthgenkkkapilhaaGreatDoor