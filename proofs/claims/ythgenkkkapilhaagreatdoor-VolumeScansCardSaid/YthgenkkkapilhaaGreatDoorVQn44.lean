/-
  Joined: VrR VrT VrS VrG VrU.
-/
import Derived.Test.YthgenkkkapilhaaGreatDoorVQn40
import Derived.Test.YthgenkkkapilhaaGreatDoorVQn43
set_option linter.all false
set_option maxRecDepth 100000
set_option maxHeartbeats 64000000
namespace Go.Proofs.YthgenkkkapilhaaGreatDoor
open Go.Proofs.Tryz
section
open Go.RowKit
def UpV (lo:Nat) (v:Value):Prop:=∀b o n c,v=.slice (some ⟨b,o,none⟩) n c->lo<=b
def rowO {α:Type} (ρ:Shape α) (lo:Nat):Shape (List α) where
 n:=1
 R w cs x:=∃v,cs=[v]/\SeqAt ρ w v x/\UpV lo v
 len h:=by obtain⟨_,rfl,_⟩:=h;rfl
 one h u hu:=by
  obtain⟨v,rfl,h,_⟩:=h
  rw[List.mem_singleton.1 hu]
  exact h.one
 keep h hb:=by
  obtain⟨v,e,h,k⟩:=h
  exact⟨v,e,h.below hb,k⟩
def chkF {α:Type} (k:Nat) (l:List α) (i:Nat):List (List α):=(List.range i).map fun j=>(l.drop (k*j)).take k
def chks {α:Type} (k:Nat) (l:List α):List (List α):=chkF k l ((l.length+k-1)/k)
theorem chkF_len {α:Type} (k:Nat) (l:List α) (i:Nat):(chkF k l i).length=i:=by simp[chkF]
theorem chks_end {α:Type} {k i:Nat} {l:List α} (hk:1<=k) (h1:l.length<=k*i) (h2:k*i<l.length+k):chkF k l i=chks k l:=by
 rw[chks];congr 1;apply Nat.le_antisymm;{
 apply Nat.le_of_lt_succ;rw[<-Nat.not_le];intro h;have h3:k*((l.length+k-1)/k+1)<=k*i:=Nat.mul_le_mul_left k h;have h4:=Nat.div_add_mod (l.length+k-1) k;have h5:=Nat.mod_lt (l.length+k-1) hk;rw[Nat.mul_add,Nat.mul_one]at h3;omega};{
 rw[Nat.div_le_iff_le_mul_add_pred hk];omega}
def lenV (v:Value):Nat:=match v with
 |.slice _ n _=>n
 |_=>0
theorem Tryz.elemGrF:Elem prog 108 32 1 24 (.slice none 0 0):=⟨underlying108,by kernel_rfl,rfl,by decide,by decide⟩
theorem groupsF_any (w:World) (v:Value) (l:List Frm) (k:Nat) (hk:1<=k/\k<=100) (hv:SeqAt frmS w v l) (lo:Nat) (hlo:UpV lo v) (hl:l.length<=10000000):Calls prog 47 #[v,.int .i64 (k:Int)] w fun e w'=>RetSeq (rowO frmS lo) 32 w w' (chks k l) e/\Below w.heap.size w w':=by
 have hv0:SeqAt frmS w v (l.drop (k*0)):=by rw[Nat.mul_zero,List.drop_zero];exact hv
 have HV:=zY hv0;have HL:=zY hlo;clear hv hv0 hlo;go_enter func47,ntmps47;go_wp2;go_loopw [0,5] (fun x y wr=>∃i:Nat,k*i<l.length+k/\SeqAt frmS w x (l.drop (k*i))/\UpV lo x/\OwnSeq (rowO frmS lo) 32 w wr y (chkF k l i)/\Below w.heap.size w wr) (fun x _ _=>lenV x);case atStart=>exact⟨0,by omega,HV.out,HL.out,OwnSeq.nil _,Below.refl _ _⟩
 case round=>
 obtain⟨i,hi,hx,hup,ho,hB⟩:=hrel;have HU:=zY hup;have HO:=zY ho;have HB:=zY hB;obtain⟨Ao,co,rfl⟩:=ho.slice;clear ho hB HV HL hup;by_cases h:k*i<l.length;{
 have Hx:=zY hx;obtain⟨A,c,rfl,h1,h2,h3⟩:=hx;obtain⟨r,hr⟩:=zNm ((l.drop (k*i)).length);have hrl:r=l.length-k*i:=by rw[<-hr,List.length_drop]
 obtain⟨x0,hx0⟩:∃x,(l.drop (k*i))[0]?=some x:=⟨_,List.getElem?_eq_getElem (by omega)⟩;obtain⟨b,o,_,rfl,_,_⟩:=h3 0 x0 hx0;have HLo:Hid (∀n c,UpV lo (.slice (some ⟨b,o,none⟩) n c)):=zY (fun n c b' o' n' c' e=>by cases e;exact HU.out _ _ _ _ rfl);have HLo2:Hid (∀n c m,UpV lo (.slice (some ⟨b,o+m,none⟩) n c)):=zY (fun n c m b' o' n' c' e=>by cases e;exact HU.out _ _ _ _ rfl);rw[hr]at h1⊢;have Hx2:=Hx.out;rw[hr]at Hx2;obtain⟨n,hn⟩:=zNm (min k r);have hmin:min (k:Int) (r:Int)=n:=by omega
 have hr0:(0:Int)<r:=by omega
 have hn0:(0:Int)<=n:=by omega
 have hnc:(n:Int)<=c:=by omega
 have hnr:(n:Int)<=r:=by omega
 have hncN:n<=c:=by omega
 have hnrN:n<=r:=by omega
 have HT:Hid (SeqAt frmS w (.slice (some ⟨b,o,none⟩) n c) ((l.drop (k*i)).take k)):=zY (by
  have h9:=SeqAt.take (m:=n) Hx2 (by rw[hr];omega)
  have e:(l.drop (k*i)).take n=(l.drop (k*i)).take k:=by
   rw[<-hn]
   by_cases hkr:k<=r
   ·rw[Nat.min_eq_left hkr]
   ·rw[Nat.min_eq_right (by omega),List.take_of_length_le (by omega),List.take_of_length_le (by omega)]
  rwa [e]at h9);have hdn:(l.drop (k*i)).drop n=l.drop (k*(i+1)):=by rw[List.drop_drop,Nat.mul_add,Nat.mul_one];by_cases hkr:k<=r;{rw[<-hn,Nat.min_eq_left hkr]};{rw[List.drop_of_length_le (by omega),List.drop_of_length_le (by omega)]}
 have HD:Hid (SeqAt frmS w (.slice (some ⟨b,o+n*9,none⟩) (r-n) (c-n)) (l.drop (k*(i+1)))):=zY (by
  rw[<-hdn]
  exact SeqAt.drop Hx2 (by rw[hr];omega));have HE:Hid (c=n->∀A,SeqAt frmS w (.slice A (r-n) (c-n)) (l.drop (k*(i+1)))):=zY (fun e A=>by
  have e1:l.drop (k*(i+1))=[]:=by
   rw[<-hdn]
   exact List.drop_of_length_le (by omega)
  rw[e1,show r-n=0 by omega]
  exact⟨A,c-n,rfl,Nat.zero_le _,by omega,fun i x hx=>by cases hx⟩);have Hni:Hid (k*(i+1)<l.length+k):=zY (by rw[Nat.mul_add];omega);have Hms:Hid (r-n<r):=zY (by omega);have HF:Hid (chkF k l (i+1)=chkF k l i++[(l.drop (k*i)).take k]):=zY (by rw[chkF,List.range_succ,List.map_append];rfl);have Hl1:Hid ((chkF k l i).length+1<=100000000):=zY (by
  rw[chkF_len]
  have:=Nat.mul_le_mul_right i hk.1
  omega);obtain⟨T,hT⟩:=zNm ((l.drop (k*i)).take k);rw[hT]at HT HF;generalize hno:(chkF k l i).length=no at *;have Hno:=zY hno;have Hl1:Hid ((chkF k l i).length+1<=100000000):=zY (by rw[hno];exact Hl1.out);have HX1:Hid (SrcAt (rowO frmS lo) w (wr.alloc (.cells #[.slice (some ⟨b,o,none⟩) n c] 32)) (.slice (some ⟨wr.heap.size,0,none⟩) 1 1) [T]):=zY (src1 (ρ:=rowO frmS lo) (wr:=wr) [.slice (some ⟨b,o,none⟩) n c] T ⟨_,rfl,HT.out,HLo.out _ _⟩ rfl);have HO1:=zY (HO.alloc (.cells #[.slice (some ⟨b,o,none⟩) n c] 32));have HB1:=zY (HB.alloc HB.size (.cells #[.slice (some ⟨b,o,none⟩) n c] 32));clear hno hT hdn Hx2 Hx h3 hx0 hr hrl h1 h2 hi h hn;by_cases hcn:c=n;{
 have hcp:(c=n)=True:=eq_true hcn;have HE:=zY (HE.out hcn);clear hcn;go_wp2_with (at_builtin;refine append_seq (w0:=w) Tryz.elemGrF rfl _ _ rfl rfl HO1.out rfl HX1.out Hl1.out HB1.out ?_;intro vb w6 hob _ hbb;have KV:=zY hob;have KC:=zY hbb;clear hob hbb);go_roundw;case rel=>exact⟨i+1,Hni.out,HE.out _,HLo.out _ _,by rw[HF.out];exact KV.out,KC.out⟩
 case measure=>exact Hms.out};{
 have hcp:(c=n)=False:=eq_false hcn;clear hcn;go_wp2_with (at_builtin;refine append_seq (w0:=w) Tryz.elemGrF rfl _ _ rfl rfl HO1.out rfl HX1.out Hl1.out HB1.out ?_;intro vb w6 hob _ hbb;have KV:=zY hob;have KC:=zY hbb;clear hob hbb);go_roundw;case rel=>exact⟨i+1,Hni.out,HD.out,HLo2.out _ _ _,by rw[HF.out];exact KV.out,KC.out⟩
 case measure=>exact Hms.out}};{
 obtain⟨A,c,rfl,_,_,_⟩:=hx;have hz:(l.drop (k*i)).length=0:=by rw[List.length_drop];omega
 rw[hz];have HF:=zY (chks_end (l:=l) hk.1 (by omega) hi);clear hz;generalize hno:(chkF k l i).length=no at *;clear hno h hi;go_wp2;go_ret;exact⟨⟨_,rfl,by rw[<-HF.out];exact HO.out⟩,HB.out⟩}
theorem Tryz.elemGrP:Elem prog 176 59 1 24 (.slice none 0 0):=⟨underlying176,by kernel_rfl,rfl,by decide,by decide⟩
theorem groupsP_any (w:World) (v:Value) (l:List Pln) (k:Nat) (hk:1<=k/\k<=100) (hv:SeqAt plnS w v l) (lo:Nat) (hlo:UpV lo v) (hl:l.length<=10000000):Calls prog 94 #[v,.int .i64 (k:Int)] w fun e w'=>RetSeq (rowO plnS lo) 59 w w' (chks k l) e/\Below w.heap.size w w':=by
 have hv0:SeqAt plnS w v (l.drop (k*0)):=by rw[Nat.mul_zero,List.drop_zero];exact hv
 have HV:=zY hv0;have HL:=zY hlo;clear hv hv0 hlo;go_enter func94,ntmps94;go_wp2;go_loopw [0,5] (fun x y wr=>∃i:Nat,k*i<l.length+k/\SeqAt plnS w x (l.drop (k*i))/\UpV lo x/\OwnSeq (rowO plnS lo) 59 w wr y (chkF k l i)/\Below w.heap.size w wr) (fun x _ _=>lenV x);case atStart=>exact⟨0,by omega,HV.out,HL.out,OwnSeq.nil _,Below.refl _ _⟩
 case round=>
 obtain⟨i,hi,hx,hup,ho,hB⟩:=hrel;have HU:=zY hup;have HO:=zY ho;have HB:=zY hB;obtain⟨Ao,co,rfl⟩:=ho.slice;clear ho hB HV HL hup;by_cases h:k*i<l.length;{
 have Hx:=zY hx;obtain⟨A,c,rfl,h1,h2,h3⟩:=hx;obtain⟨r,hr⟩:=zNm ((l.drop (k*i)).length);have hrl:r=l.length-k*i:=by rw[<-hr,List.length_drop]
 obtain⟨x0,hx0⟩:∃x,(l.drop (k*i))[0]?=some x:=⟨_,List.getElem?_eq_getElem (by omega)⟩;obtain⟨b,o,_,rfl,_,_⟩:=h3 0 x0 hx0;have HLo:Hid (∀n c,UpV lo (.slice (some ⟨b,o,none⟩) n c)):=zY (fun n c b' o' n' c' e=>by cases e;exact HU.out _ _ _ _ rfl);have HLo2:Hid (∀n c m,UpV lo (.slice (some ⟨b,o+m,none⟩) n c)):=zY (fun n c m b' o' n' c' e=>by cases e;exact HU.out _ _ _ _ rfl);rw[hr]at h1⊢;have Hx2:=Hx.out;rw[hr]at Hx2;obtain⟨n,hn⟩:=zNm (min k r);have hmin:min (k:Int) (r:Int)=n:=by omega
 have hr0:(0:Int)<r:=by omega
 have hn0:(0:Int)<=n:=by omega
 have hnc:(n:Int)<=c:=by omega
 have hnr:(n:Int)<=r:=by omega
 have hncN:n<=c:=by omega
 have hnrN:n<=r:=by omega
 have HT:Hid (SeqAt plnS w (.slice (some ⟨b,o,none⟩) n c) ((l.drop (k*i)).take k)):=zY (by
  have h9:=SeqAt.take (m:=n) Hx2 (by rw[hr];omega)
  have e:(l.drop (k*i)).take n=(l.drop (k*i)).take k:=by
   rw[<-hn]
   by_cases hkr:k<=r
   ·rw[Nat.min_eq_left hkr]
   ·rw[Nat.min_eq_right (by omega),List.take_of_length_le (by omega),List.take_of_length_le (by omega)]
  rwa [e]at h9);have hdn:(l.drop (k*i)).drop n=l.drop (k*(i+1)):=by rw[List.drop_drop,Nat.mul_add,Nat.mul_one];by_cases hkr:k<=r;{rw[<-hn,Nat.min_eq_left hkr]};{rw[List.drop_of_length_le (by omega),List.drop_of_length_le (by omega)]}
 have HD:Hid (SeqAt plnS w (.slice (some ⟨b,o+n*4,none⟩) (r-n) (c-n)) (l.drop (k*(i+1)))):=zY (by
  rw[<-hdn]
  exact SeqAt.drop Hx2 (by rw[hr];omega));have HE:Hid (c=n->∀A,SeqAt plnS w (.slice A (r-n) (c-n)) (l.drop (k*(i+1)))):=zY (fun e A=>by
  have e1:l.drop (k*(i+1))=[]:=by
   rw[<-hdn]
   exact List.drop_of_length_le (by omega)
  rw[e1,show r-n=0 by omega]
  exact⟨A,c-n,rfl,Nat.zero_le _,by omega,fun i x hx=>by cases hx⟩);have Hni:Hid (k*(i+1)<l.length+k):=zY (by rw[Nat.mul_add];omega);have Hms:Hid (r-n<r):=zY (by omega);have HF:Hid (chkF k l (i+1)=chkF k l i++[(l.drop (k*i)).take k]):=zY (by rw[chkF,List.range_succ,List.map_append];rfl);have Hl1:Hid ((chkF k l i).length+1<=100000000):=zY (by
  rw[chkF_len]
  have:=Nat.mul_le_mul_right i hk.1
  omega);obtain⟨T,hT⟩:=zNm ((l.drop (k*i)).take k);rw[hT]at HT HF;generalize hno:(chkF k l i).length=no at *;have Hno:=zY hno;have Hl1:Hid ((chkF k l i).length+1<=100000000):=zY (by rw[hno];exact Hl1.out);have HX1:Hid (SrcAt (rowO plnS lo) w (wr.alloc (.cells #[.slice (some ⟨b,o,none⟩) n c] 59)) (.slice (some ⟨wr.heap.size,0,none⟩) 1 1) [T]):=zY (src1 (ρ:=rowO plnS lo) (wr:=wr) [.slice (some ⟨b,o,none⟩) n c] T ⟨_,rfl,HT.out,HLo.out _ _⟩ rfl);have HO1:=zY (HO.alloc (.cells #[.slice (some ⟨b,o,none⟩) n c] 59));have HB1:=zY (HB.alloc HB.size (.cells #[.slice (some ⟨b,o,none⟩) n c] 59));clear hno hT hdn Hx2 Hx h3 hx0 hr hrl h1 h2 hi h hn;by_cases hcn:c=n;{
 have hcp:(c=n)=True:=eq_true hcn;have HE:=zY (HE.out hcn);clear hcn;go_wp2_with (at_builtin;refine append_seq (w0:=w) Tryz.elemGrP rfl _ _ rfl rfl HO1.out rfl HX1.out Hl1.out HB1.out ?_;intro vb w6 hob _ hbb;have KV:=zY hob;have KC:=zY hbb;clear hob hbb);go_roundw;case rel=>exact⟨i+1,Hni.out,HE.out _,HLo.out _ _,by rw[HF.out];exact KV.out,KC.out⟩
 case measure=>exact Hms.out};{
 have hcp:(c=n)=False:=eq_false hcn;clear hcn;go_wp2_with (at_builtin;refine append_seq (w0:=w) Tryz.elemGrP rfl _ _ rfl rfl HO1.out rfl HX1.out Hl1.out HB1.out ?_;intro vb w6 hob _ hbb;have KV:=zY hob;have KC:=zY hbb;clear hob hbb);go_roundw;case rel=>exact⟨i+1,Hni.out,HD.out,HLo2.out _ _ _,by rw[HF.out];exact KV.out,KC.out⟩
 case measure=>exact Hms.out}};{
 obtain⟨A,c,rfl,_,_,_⟩:=hx;have hz:(l.drop (k*i)).length=0:=by rw[List.length_drop];omega
 rw[hz];have HF:=zY (chks_end (l:=l) hk.1 (by omega) hi);clear hz;generalize hno:(chkF k l i).length=no at *;clear hno h hi;go_wp2;go_ret;exact⟨⟨_,rfl,by rw[<-HF.out];exact HO.out⟩,HB.out⟩}
theorem prt_cut {s:ByteArray} (h:prtL (bs s)=true) (i j:Nat):prtL (bs (s.extract i j))=true:=by
 rw[prtL,List.all_eq_true]at h⊢;intro b hb;rw[bs_extract]at hb;exact h b (List.mem_of_mem_take (List.mem_of_mem_drop hb))
theorem prt_pad {s:ByteArray} (h:prtL (bs s)=true):prtL (bs (padS s))=true:=by
 rw[prtL,List.all_eq_true]at h⊢;intro b hb;have e:bs (padS s)=bs s++List.replicate (64*plnT s-s.size) 32:=by{
 have:=strB_cat (bs s) (List.replicate (64*plnT s-s.size) 32);rw[strB_bs]at this;rw[padS,this,bs_strB];intro c hc;rcases List.mem_append.1 hc with h1|h1;{
 obtain⟨d,_,rfl⟩:=List.mem_map.1 h1;exact UInt8.toNat_lt d};{rw[(List.mem_replicate.1 h1).2];omega}};rw[e]at hb;rcases List.mem_append.1 hb with h1|h1;{exact h b h1};{rw[(List.mem_replicate.1 h1).2];decide}
theorem plnAt_ok {a i:Nat} {s:ByteArray} (ha:a<4294967296) (hs:splitE s=0) (hi:i<plnT s):PlnOk a i (plnT s) (plnAt a s i).x:=by
 unfold splitE at hs;split at hs;{cases hs};{
 next h1=>
 split at hs;{cases hs};{
 next h2=>
 have h3:prtL (bs s)=true:=by{
 cases h:prtL (bs s)with
 |true=>rfl
 |false=>exact absurd h h2};refine⟨ha,hi,by unfold plnT;omega,?_,prt_cut (prt_pad h3) _ _⟩;rw[plnAt,ByteArray.size_extract,padS_size];omega}}
def plCells (g:List Pln):List Nat:=g.flatMap fun p=>plnL p.a p.i p.t p.x
theorem plCells_snoc (g:List Pln) (p:Pln):plCells (g++[p])=plCells g++plnL p.a p.i p.t p.x:=by simp[plCells]
def stripsT (a:Nat) (s:ByteArray):List ByteArray:=(chks 4 (plnsL a s)).map fun g=>strB (plCells g)
def stripR (a:Nat) (s:ByteArray):List ByteArray:=if splitE s=0 then stripsT a s else []
theorem chks_mem {α:Type} {k:Nat} {l g:List α} (h:g∈chks k l):(∀x∈g,x∈l)/\g.length<=k:=by
 obtain⟨j,_,rfl⟩:=List.mem_map.1 h;exact⟨fun x hx=>List.mem_of_mem_drop (List.mem_of_mem_take hx),by rw[List.length_take];omega⟩
theorem plnL_len {a i t:Nat} {x:ByteArray} (h:PlnOk a i t x):(plnL a i t x).length<=8000:=by
 rw[plnL,List.length_append,frmB_len];have:=sealL_len (textL_len h);show 16+_<=_;omega
theorem plnL_01 (a i t:Nat) (x:ByteArray):B01 (plnL a i t x):=by
 intro c hc;rcases List.mem_append.1 hc with h|h;{
 simp only[markP,List.mem_cons,List.not_mem_nil,or_false]at h;omega};{exact frmB_01 _ c h}
theorem plCells_bytes (g:List Pln):Bytes (plCells g):=fun c hc=>by
 obtain⟨p,_,h⟩:=List.mem_flatMap.1 hc
 exact b01_bytes (plnL_01 _ _ _ _) c h
theorem plCells_len {g:List Pln} (h:∀p∈g,PlnOk p.a p.i p.t p.x):(plCells g).length<=8000*g.length:=by
 induction g with
 |nil=>simp[plCells]
 |cons p r ih=>
 have h1:=ih fun q hq=>h q (List.mem_cons_of_mem _ hq);have h2:=plnL_len (h p List.mem_cons_self);show (plnL p.a p.i p.t p.x++plCells r).length<=_;rw[List.length_append,List.length_cons,Nat.mul_add];omega
theorem volstrips_any (w:World) (a:Nat) (d s:Int) (v:Value) (hv:v.oneCell'=true) (x:ByteArray) (ha:a<4294967296) (hx:x.size<=1000000) (hT:Tab w):Calls prog 46 #[.agg #[.int .u32 (a:Int),.int .i64 d,.int .i64 s,v],.string x] w fun e w'=>(∃vf,e=.returned (.tuple #[vf,.int .i64 (splitE x)])/\OwnSeq strS 9 w w' vf (stripR a x))/\Below w.heap.size w w':=by
 have HT:=zY hT;have HS:=zY (fun W=>plsplit_any W x a hx);obtain⟨E,hE⟩:=zNm (splitE x);rw[hE]at HS⊢;have hK:=Blk.new w 28 [.int .u32 (a:Int),.int .i64 d,.int .i64 s,v];have HK:Hid (Blk (w.alloc (.cells #[.int .u32 (a:Int),.int .i64 d,.int .i64 s,v] 28)) w.heap.size 28 [.int .u32 (a:Int),.int .i64 d,.int .i64 s,v]):=zY hK;have HB0:=zY (zBl w (.cells #[.int .u32 (a:Int),.int .i64 d,.int .i64 s,v] 28));have HE:=zY hE;clear hT hK hE;go_enter func46,ntmps46;go_upto_region 1 with fail;generalize w.alloc (.cells #[.int .u32 (a:Int),.int .i64 d,.int .i64 s,v] 28)=wa at *;have c0:=HK.c 0;go_wp2_with fail;refine(HS.out _).mono ?_;rintro e1 w1 ⟨⟨vl,rfl,hl⟩,hb1⟩;have HB1:=zYt HB0 hb1;have HL:=zY (hl.atF flatP hb1.size);obtain⟨Al,cl,rfl⟩:=hl.slice;clear hl hb1 c0 HK HB0 HS;by_cases h0:E=0;{
 subst h0;have HR:Hid (stripR a x=stripsT a x):=zY (by rw[stripR,if_pos HE.out]);have HSp:Hid (splitR a x=plnsL a x):=zY (by rw[splitR,if_pos HE.out]);rw[HSp.out]at HL⊢;have hll:(plnsL a x).length<=20000:=by{
 have h1:(plnsL a x).length=plnT x:=by simp[plnsL]
 rw[h1];unfold plnT;omega};have HOk:Hid (∀p∈plnsL a x,PlnOk p.a p.i p.t p.x):=zY (fun p hp=>by
  obtain⟨i,hi,rfl⟩:=List.mem_map.1 hp
  exact plnAt_ok ha HE.out (List.mem_range.1 hi));have HG:=zY (groupsP_any w1 _ (plnsL a x) 4 (by omega) HL.out 0 (fun _ _ _ _ _=>Nat.zero_le _) (by omega));have hml:(chks 4 (plnsL a x)).length<=20000:=by rw[chks,chkF_len];omega
 have HC4:Hid (∀g∈chks 4 (plnsL a x),(∀p∈g,PlnOk p.a p.i p.t p.x)/\g.length<=4):=zY (fun g hg=>⟨fun p hp=>HOk.out p ((chks_mem hg).1 p hp),(chks_mem hg).2⟩);have HSt:Hid (stripsT a x=(chks 4 (plnsL a x)).map fun g=>strB (plCells g)):=zY rfl;generalize chks 4 (plnsL a x)=G at *;generalize (plnsL a x).length=nl at *;obtain⟨m,hm⟩:=zNm (G.length);have Hm:=zY hm;rw[hm]at hml;clear hll hm HL HOk HSp;go_upto_region 5 with fail;go_wp2_with fail;refine HG.mono ?_;rintro e2 w2 ⟨⟨vg,rfl,hg⟩,hb2⟩;have HB2:=zYt HB1 hb2;have HGa:Hid (SeqAt (rowO plnS 0) w2 vg G):=zY ((hg.at hb2));obtain⟨Ag,cg,rfl⟩:=hg.slice;have HT2:=zY (HT.below HB2.out);rw[Hm.out];rw[Hm.out]at HGa;clear hg hb2 HG HT HB1;go_wp2;go_loopw [8,29] (fun y z wr=>∃i:Nat,i<=m/\z=.int .i64 (i:Int)/\OwnSeq strS 9 w2 wr y ((stripsT a x).take i)/\Below w2.heap.size w2 wr) (fun _ z _=>m-(intOf z).toNat);case atStart=>exact⟨0,by omega,rfl,OwnSeq.nil _,Below.refl _ _⟩
 case round=>
 obtain⟨i,hi,rfl,ho,hB⟩:=hrel;obtain⟨wq,rfl⟩:∃z,z=wr:=⟨_,rfl⟩;have HO:=zY ho;have HB:=zY hB;obtain⟨Ao,co,rfl⟩:=ho.slice;clear ho hB;generalize hno:((stripsT a x).take i).length=no at *;have Hno:=zY hno;clear hno;by_cases h:i<m;{
 have hiI:(i:Int)<m:=by omega
 obtain⟨g,hg⟩:∃g,G[i]?=some g:=⟨_,List.getElem?_eq_getElem (by rw[Hm.out];exact h)⟩;obtain⟨_,_,e9,_,_,h4⟩:=HGa.below HB.out;cases e9;obtain⟨b,o,cs,rfl,⟨vi,rfl,hvi,_⟩,hc⟩:=h4 i g hg;have k0:wq.cell? ⟨b,o+i,none⟩=some vi:=by have:=hc 0 _ rfl;rwa [show o+i*(rowO plnS 0).n+0=o+i by show o+i*1+0=o+i;omega]at this
 have HVi:=zY hvi;obtain⟨Ai,ci,rfl,_,_⟩:=hvi.slice;obtain⟨hok,hg4⟩:=HC4.out g (List.mem_of_getElem? hg);have Hok:=zY hok;have HF:Hid ((stripsT a x).take (i+1)=(stripsT a x).take i++[strB (plCells g)]):=zY (by
  rw[HSt.out,List.take_add_one,List.getElem?_map,hg]
  rfl);have Hl1:Hid (((stripsT a x).take i).length+1<=100000000):=zY (by rw[List.length_take];omega);obtain⟨gl,hgl⟩:=zNm (g.length);rw[hgl]at hg4 k0 HVi;have Hgl:=zY hgl;clear hc h4 hg hvi hok hgl;go_upto_region 9 with fail;have HBl0:Hid (Bld (wq.alloc (.cells #[.pointer none,.slice none 0 0] 135)) wq.heap.size wq.heap.size (plCells (g.take 0))):=zY (Bld.new wq);have HBq0:=zY (zBl wq (.cells #[.pointer none,.slice none 0 0] 135));clear k0;go_wp2;go_loopw [35] (fun z wr=>∃k:Nat,k<=gl/\z=.int .i64 (k:Int)/\Bld wr wq.heap.size wq.heap.size (plCells (g.take k))/\Below wq.heap.size wq wr) (fun z _=>gl-(intOf z).toNat);case atStart=>exact⟨0,by omega,rfl,HBl0.out,HBq0.out⟩
 case round=>
 obtain⟨k,hk,rfl,hbl,hBr⟩:=hrel;have HBl:=zY hbl;have HBr:=zY hBr;clear hbl hBr HBl0 HBq0;by_cases h':k<gl;{
 have hkI:(k:Int)<gl:=by omega
 obtain⟨p,hp⟩:∃p,g[k]?=some p:=⟨_,List.getElem?_eq_getElem (by rw[Hgl.out];exact h')⟩;have hpo:=Hok.out p (List.mem_of_getElem? hp);obtain⟨_,_,e9,_,_,h5⟩:=HVi.below HBr.out;cases e9;obtain⟨b2,o2,_,rfl,rfl,h6⟩:=h5 k p hp;have h6':∀j u,p.cells[j]?=some u->wr.cell? ⟨b2,o2+k*4+j,none⟩=some u:=h6;have HTs:Hid (plCells (g.take (k+1))=plCells (g.take k)++plnL p.a p.i p.t p.x):=zY (by rw[List.take_add_one,hp];exact plCells_snoc _ _);have hln:(plCells (g.take k)).length<=40000:=by have h1:=plCells_len (g:=g.take k) fun q hq=>Hok.out q (List.mem_of_mem_take hq);rw[List.length_take]at h1;omega
 have hCz:(strB (plnL p.a p.i p.t p.x)).size<=1000000:=by rw[strB_size];have:=plnL_len hpo;omega
 have HCb:Hid (bs (strB (plnL p.a p.i p.t p.x))=plnL p.a p.i p.t p.x):=zY (bs_strB (b01_bytes (plnL_01 _ _ _ _)));have HEn:=zY (fun(W:World) (hW:Below w2.heap.size w2 W)=>plenc_ok W p.a p.i p.t p.x hpo (HT2.below hW));have c0:=h6' 0 _ rfl;have c1:=h6' 1 _ rfl;have c2:=h6' 2 _ rfl;have c3:=h6' 3 _ rfl;rw[Nat.add_zero]at c0;obtain⟨pa,pi,pt,px⟩:=p;dsimp only at c0 c1 c2 c3 HEn HTs hCz HCb;have Hln:=zY hln;have HCz:=zY hCz;clear h5 h6 h6' hp hpo hln hCz;go_upto_region 12 with fail;have HZ:Hid (Blk (wr.alloc (.cells #[.int .u32 (pa:Int),.int .i64 (pi:Int),.int .i64 (pt:Int),.string px] 124)) wr.heap.size 124 [.int .u32 (pa:Int),.int .i64 (pi:Int),.int .i64 (pt:Int),.string px]):=zY (Blk.new wr 124 [.int .u32 (pa:Int),.int .i64 (pi:Int),.int .i64 (pt:Int),.string px]);have HBl1:=zY (HBl.alloc (.cells #[.int .u32 (pa:Int),.int .i64 (pi:Int),.int .i64 (pt:Int),.string px] 124));have HBr1:=zY (HBr.alloc HBr.size (.cells #[.int .u32 (pa:Int),.int .i64 (pi:Int),.int .i64 (pt:Int),.string px] 124));generalize wr.alloc (.cells #[.int .u32 (pa:Int),.int .i64 (pi:Int),.int .i64 (pt:Int),.string px] 124)=wz at *;have z0:=HZ.c 0;have z1:=HZ.c 1;have z2:=HZ.c 2;have z3:=HZ.c 3;clear c0 c1 c2 c3 HBl HBr;go_wp2_with fail;refine(HEn.out _ (HB.trans (HBr1.mono HB.size))).mono ?_;rintro e3 w3 ⟨rfl,hb3⟩;have HBl3:=zY (HBl1.below hb3);have HBr3:=zYt HBr1 hb3;have HWs:=zY (ws_any w3 wq.heap.size wq.heap.size _ (strB (plnL pa pi pt px)) HBl3.out (by have:=Hln.out;omega) HCz.out HBr3.size);rw[HCb.out]at HWs;clear hb3 z0 z1 z2 z3 HZ HBl1 HBr1 HEn;generalize strB (plnL pa pi pt px)=C at *
 go_wp2_with fail;refine HWs.mono ?_;rintro e4 w4 ⟨rfl,hbl4,hb4⟩;have HBl4:=zY hbl4;have HBr4:=zY (HBr3.trans hb4);clear hbl4 hb4;go_wp2;go_roundw;case rel=>exact⟨k+1,by omega,by go_num,by rw[HTs.out];exact HBl4.out,HBr4.out⟩
 case measure=>simp[intOf];omega};{
 obtain rfl:k=gl:=by omega
 have hkI:¬((k:Nat):Int)<(k:Int):=by omega
 have hall:g.take k=g:=List.take_of_length_le (by rw[Hgl.out];exact Nat.le_refl _);rw[hall]at HBl;have HSt:=zY (str_any wr wq.heap.size wq.heap.size _ (plCells_bytes g) HBl.out HBr.size);obtain⟨C,hC⟩:=zNm (strB (plCells g));rw[hC]at HF HSt;clear hall hC HBl;go_wp2_with fail;refine HSt.mono ?_;rintro e5 w5 ⟨rfl,_,hb5⟩;have HB5q:=zY (HBr.trans hb5);have HB5:=zY (HB.trans (HB5q.mono HB.size));have HO5:=zY (HO.below HB5q.out);have HO6:=zY (HO5.alloc (.cells #[.string C] 9));have HB6:=zY (HB5.alloc HB5.size (.cells #[.string C] 9));have HX6:Hid (SrcAt strS w2 (w5.alloc (.cells #[.string C] 9)) (.slice (some ⟨w5.heap.size,0,none⟩) 1 1) [C]):=zY (src1 (ρ:=strS) (wr:=w5) [.string C] C rfl rfl);clear hb5 HBr HB5q;go_wp2_with (at_builtin;refine append_seq (ρ:=strS) (w0:=w2) Tryz.elemStr rfl _ _ rfl rfl HO6.out rfl HX6.out Hl1.out HB6.out ?_;intro vb w6 hob _ hbb;have KV:=zY hob;have KC:=zY hbb;clear hob hbb);go_roundw;case rel=>exact⟨i+1,by omega,by go_num,by rw[HF.out];exact KV.out,KC.out⟩
 case measure=>simp[intOf];omega}};{
 obtain rfl:i=m:=by omega
 have hiI:¬((i:Nat):Int)<(i:Int):=by omega
 have hall:(stripsT a x).take i=stripsT a x:=List.take_of_length_le (by rw[HSt.out,List.length_map,Hm.out];exact Nat.le_refl _);rw[hall]at HO;clear hall;go_wp2;go_ret2;exact⟨⟨_,rfl,by rw[HR.out];exact HO.low flatS HB2.size⟩,HB2.trans (HB.mono HB2.size)⟩}};{
 have h0b:(E==0)=false:=by rw[beq_eq_false_iff_ne];exact h0
 have HR:Hid (stripR a x=[]):=zY (by rw[stripR,if_neg (by rw[HE.out];exact h0)]);go_wp2;go_ret2;exact⟨⟨_,rfl,by rw[HR.out];exact OwnSeq.nil _⟩,HB1.out⟩}
def FrmOk (f:Frm):Prop:=frE f.k f.r f.s f.i f.l f.d f.p f.t=0/\0<=f.a/\f.a<4294967296
def frmM (f:Frm):List Nat:=marL f.k.toNat f.r.toNat f.s.toNat f.i.toNat f.l.toNat f.d.toNat f.p.toNat f.a.toNat f.t
def celsL (fs:List Frm):List Nat:=flatCl (fs.map frmM)
theorem frmM_ok {f:Frm} (h:FrmOk f):Bytes (frmM f)/\(frmM f).length=44/\fencR f.k f.r f.s f.i f.l f.d f.p f.a f.t=.tuple #[.string (strB (markL++bodyL (frmM f))),.int .i64 0]:=by
 obtain⟨h',ha⟩:=h;have h3:fencR f.k f.r f.s f.i f.l f.d f.p f.a f.t=.tuple #[.string (markS++strB (bodyL (frmM f))),.int .i64 0]:=by unfold fencR frmM;rw[if_neg (by simpa using h')]
 rw[mark_cat]at h3;have hm:Bytes (frmM f)/\(frmM f).length=44:=by obtain⟨k,r,s,i,l,d,p,a,t⟩:=f;have h':frE k r s i l d p t=0:=h';have ha':0<=a/\a<4294967296:=ha;obtain⟨g1,g2,g3,g4,g5,g6,g7,g8⟩:=frE_ok h';obtain⟨k,rfl⟩:∃n:Nat,k=n:=⟨k.toNat,by omega⟩;obtain⟨r,rfl⟩:∃n:Nat,r=n:=⟨r.toNat,by omega⟩;obtain⟨s,rfl⟩:∃n:Nat,s=n:=⟨s.toNat,by omega⟩;obtain⟨i,rfl⟩:∃n:Nat,i=n:=⟨i.toNat,by omega⟩;obtain⟨l,rfl⟩:∃n:Nat,l=n:=⟨l.toNat,by omega⟩;obtain⟨d,rfl⟩:∃n:Nat,d=n:=⟨d.toNat,by omega⟩;obtain⟨p,rfl⟩:∃n:Nat,p=n:=⟨p.toNat,by omega⟩;obtain⟨a,rfl⟩:∃n:Nat,a=n:=⟨a.toNat,by omega⟩;obtain⟨_,_,_,hb,hl,_,_⟩:=mar_ok h' (by omega:a<4294967296);exact⟨hb,hl⟩
 exact⟨hm.1,hm.2,h3⟩
theorem celsL_len (fs:List Frm):(celsL fs).length=852*fs.length:=by rw[celsL,flatC_len,List.length_map]
theorem celsL_snoc (fs:List Frm) (f:Frm):celsL (fs++[f])=celsL fs++(markL++bodyL (frmM f)):=by
 rw[celsL,List.map_append,flatC_app];show flatCl _++((markL++bodyL (frmM f))++[])=_;rw[List.append_nil];rfl
theorem celsL_bytes {fs:List Frm} (h:∀f∈fs,FrmOk f):Bytes (celsL fs):=flatC_bytes fun m hm=>by
 obtain⟨f,hf,rfl⟩:=List.mem_map.1 hm
 exact⟨(frmM_ok (h f hf)).1,(frmM_ok (h f hf)).2.1⟩
theorem scjoin_ok (w:World) (v:Value) (fs:List Frm) (hv:SeqAt frmS w v fs) (hl:fs.length<=100) (ha:∀f∈fs,FrmOk f):
  Calls prog 48 #[v] w fun e w'=>e=.returned (.tuple #[.string (strB (celsL fs)),.int .i64 0])/\Below w.heap.size w w':=by
 have Hv:=zY hv;have Ha:=zY ha;have Hby:=zY (celsL_bytes ha);obtain⟨A,c,rfl,h1,h2,h3⟩:=hv;have HK0:Hid (Bld (w.alloc (.cells #[.pointer none,.slice none 0 0] 135)) w.heap.size w.heap.size (celsL (fs.take 0))):=zY (Bld.new w);have HB0:=zY (zBl w (.cells #[.pointer none,.slice none 0 0] 135));clear h3 ha;obtain⟨R,hR⟩:=zNm (strB (celsL fs));rw[hR];have HR:=zY hR;clear hR;go_enter func48,ntmps48;go_wp2;go_loopw [11] (fun x wr=>∃k:Nat,k<=fs.length/\x=.int .i64 (k:Int)/\Bld wr w.heap.size w.heap.size (celsL (fs.take k))/\Below w.heap.size w wr) (fun x _=>fs.length-(intOf x).toNat);case atStart=>exact⟨0,by omega,rfl,HK0.out,HB0.out⟩
 case round=>
 obtain⟨k,hk,rfl,hbl,hB⟩:=hrel;have Hbl:=zY hbl;have HBr:=zY hB;clear hbl hB HK0 HB0;by_cases h:k<fs.length;{
 have hkI:(k:Int)<fs.length:=by omega
 obtain⟨f,hf⟩:∃f,fs[k]?=some f:=⟨_,List.getElem?_eq_getElem h⟩;have hok:=Ha.out f (List.mem_of_getElem? hf);obtain⟨hm1,hm2,hm3⟩:=frmM_ok hok;obtain⟨_,_,e9,_,_,h4⟩:=Hv.below HBr.out;cases e9;obtain⟨b,o,_,rfl,rfl,h5⟩:=h4 k f hf;have h28:=(frE_ok hok.1).2.2.2.2.2.2.2;have HE:=zY (fun W=>fenc_any W f.k f.r f.s f.i f.l f.d f.p f.a f.t (by omega) hok.2);rw[hm3]at HE;obtain⟨C,hC⟩:=zNm (strB (markL++bodyL (frmM f)));rw[hC]at HE;have HCb:Hid (bs C=markL++bodyL (frmM f)):=zY (by rw[<-hC,bs_strB (bytes_app (b01_bytes markL_01) (bodyL_bytes hm1 hm2))]);have hCz:C.size<=1000000:=by rw[<-hC,strB_size,List.length_append,markL_len,bodyL_len];omega
 have HTs:Hid (celsL (fs.take (k+1))=celsL (fs.take k)++bs C):=zY (by rw[List.take_add_one,hf,HCb.out,<-celsL_snoc];rfl);clear hm1 hm2 hm3 hok hC HCb h28;have h5':∀j u,f.cells[j]?=some u->wr.cell? ⟨b,o+k*9+j,none⟩=some u:=h5;obtain⟨k0,r0,s0,i0,l0,d0,p0,a0,t0⟩:=f;have c0:=h5' 0 _ rfl;have c1:=h5' 1 _ rfl;have c2:=h5' 2 _ rfl;have c3:=h5' 3 _ rfl;have c4:=h5' 4 _ rfl;have c5:=h5' 5 _ rfl;have c6:=h5' 6 _ rfl;have c7:=h5' 7 _ rfl;have c8:=h5' 8 _ rfl;dsimp only at c0 c1 c2 c3 c4 c5 c6 c7 c8 HE;clear h4 h5 h5' hf;rw[Nat.add_zero]at c0;go_upto_region 5 with fail;have hA:Below wr.heap.size wr (wr.alloc (.cells #[.int .i64 k0,.int .i64 r0,.int .i64 s0,.int .i64 i0,.int .i64 l0,.int .i64 d0,.int .i64 p0,.int .u32 a0,.string t0] 49)):=(Below.refl _ _).alloc (Nat.le_refl _) _;have HZ:=zY (Box9.blk (Blk.new wr 49 [.int .i64 k0,.int .i64 r0,.int .i64 s0,.int .i64 i0,.int .i64 l0,.int .i64 d0,.int .i64 p0,.int .u32 a0,.string t0]));change Hid (Box9 (wr.alloc (.cells #[.int .i64 k0,.int .i64 r0,.int .i64 s0,.int .i64 i0,.int .i64 l0,.int .i64 d0,.int .i64 p0,.int .u32 a0,.string t0] 49)) _ _ _ _ _ _ _ _ _ _)at HZ;have Hbl1:=zY (Bld.moved Hbl.out (fun k o hk _=>(hA.block k (Array.getElem?_eq_some_iff.1 hk).1).trans hk));have HB1:=zYt HBr hA;clear hA Hbl HBr c0 c1 c2 c3 c4 c5 c6 c7 c8;generalize wr.alloc (.cells #[.int .i64 k0,.int .i64 r0,.int .i64 s0,.int .i64 i0,.int .i64 l0,.int .i64 d0,.int .i64 p0,.int .u32 a0,.string t0] 49)=wa at *;obtain⟨c0,c1,c2,c3,c4,c5,c6,c7,c8⟩:=HZ.out;unfold frV at HE;go_upto_region 8 with(go_at_call 96;refine(HE.out _).mono ?_;rintro e w1 ⟨rfl,hb1⟩)
 have HB2:=zYt HB1 hb1;have hbl2:=Bld.moved Hbl1.out (fun k o hk _=>(hb1.block k (Array.getElem?_eq_some_iff.1 hk).1).trans hk);have hln:(celsL (fs.take k)).length<=1000000:=by rw[celsL_len,List.length_take];omega
 have HW:=zY (ws_any w1 w.heap.size w.heap.size _ C hbl2 hln hCz HB2.size);clear hb1 HB1 Hbl1 HZ HE hbl2 c0 c1 c2 c3 c4 c5 c6 c7 c8;go_wp2_with (go_at_call 64;refine HW.mono ?_;rintro e w2 ⟨rfl,hbl3,hb2⟩);go_roundw;case rel=>exact⟨k+1,by omega,by go_num,by rw[HTs.out];exact hbl3,HB2.trans hb2⟩
 case measure=>simp[intOf];omega};{
 obtain rfl:k=fs.length:=by omega
 have hbl:=Hbl.out;rw[List.take_length]at hbl;have HS:=zY (str_any wr w.heap.size w.heap.size _ Hby.out hbl HBr.size);rw[HR.out]at HS;clear hbl;go_wp2_with (go_at_call 65;refine HS.mono ?_;rintro e w1 ⟨rfl,_,hb1⟩);go_ret2;exact⟨rfl,HBr.trans hb1⟩}
def reelsL (id d s n:Int) (x:Ses):List (List Frm):=(List.range (d.toNat+s.toNat)).map fun r=>reelL id d s n r (partsB (strB (dirL x))) (rowsL d.toNat s.toNat x.str) x.str
def framesF (id d s:Int) (L:List Ses) (n:Int):List Frm:=
 if contE d s L n≠0 then [] else match L[(n-1).toNat]? with
  |none=>[]
  |some x=>(reelsL id d s n x).flatten
theorem framesF_err {id d s n:Int} {L:List Ses} (h:contE d s L n≠0):framesF id d s L n=[]:=by rw[framesF,if_pos h]
theorem framesF_ok {id d s n:Int} {L:List Ses} {x:Ses} (h:contE d s L n=0) (hx:L[(n-1).toNat]?=some x):framesF id d s L n=(reelsL id d s n x).flatten:=by rw[framesF,if_neg (by omega),hx]
theorem contE_parts {d s n:Int} {L:List Ses} {x:Ses} (h:contE d s L n=0) (hx:L[(n-1).toNat]?=some x):(partsB (strB (dirL x))).length<=65536:=by
 unfold contE at h;split at h;{omega};{
 split at h;{omega};{
 rw[hx]at h;dsimp only at h;split at h;{omega};{omega}}}
theorem partsB_size (s:ByteArray):∀p∈partsB s,p.size<=28:=by
 intro p hp;obtain⟨k,_,rfl⟩:=List.mem_map.1 hp;rw[partB,ByteArray.size_extract];omega
theorem rowsL_mem {d s:Nat} {st:ByteArray} {x:List ByteArray} (h:x∈rowsL d s st):x.length=d+s:=by
 obtain⟨y,hy,rfl⟩:=List.mem_map.1 h;obtain⟨k,_,rfl⟩:=List.mem_map.1 hy;rw[List.length_append,datL_len];simp[sparL]
theorem rowsL_len {d s:Nat} {st:ByteArray} (hd:1<=d) (hs:st.size<=1835008):(rowsL d s st).length<=65537:=by
 rw[rowsL,List.length_map,stripL,List.length_map,List.length_range];unfold strN;apply Nat.le_of_lt_succ;rw[Nat.div_lt_iff_lt_mul (by omega)];have:28*1<=28*d:=by omega
 have:=Nat.mul_le_mul_left (65537+1) this;omega
theorem reelL_len {id d s n:Int} {r:Nat} {P:List ByteArray} {S:List (List ByteArray)} {st:ByteArray}:(reelL id d s n r P S st).length=P.length+S.length:=by
 rw[reelL,List.length_append];simp[partsF,stripsF]
theorem frames_any (w:World) (id d s:Int) (v:Value) (L:List Ses) (n:Int) (hv:SeqAt sesS w v L) (hl:L.length<=1000) (hL:SesAll L) (hT:Tab w):Calls prog 13 #[.agg #[.int .u32 id,.int .i64 d,.int .i64 s,v],.int .i64 n] w fun e w'=>(∃vf,e=.returned (.tuple #[vf,.int .i64 (contE d s L n)])/\OwnSeq frmS 49 w w' vf (framesF id d s L n))/\Below w.heap.size w w':=by
 have Hv:=zY hv;have HL:=zY hL;have HCo:=zY (fun W (hW:Below w.heap.size w W)=>contents_any W id d s v L n (hv.below hW) hl hL (hT.below hW));obtain⟨A,c,rfl,_,_⟩:=hv.slice;have hK:=Blk.new w 28 [.int .u32 id,.int .i64 d,.int .i64 s,.slice A L.length c];have HK:Hid (Blk (w.alloc (.cells #[.int .u32 id,.int .i64 d,.int .i64 s,.slice A L.length c] 28)) w.heap.size 28 [.int .u32 id,.int .i64 d,.int .i64 s,.slice A L.length c]):=zY hK;have HB0:=zY (zBl w (.cells #[.int .u32 id,.int .i64 d,.int .i64 s,.slice A L.length c] 28));obtain⟨k,hk⟩:=zNm (contE d s L n);rw[hk];have Hk:=zY hk;clear hv hL hT hK hk;go_enter func13,ntmps13;go_upto_region 1 with fail;generalize w.alloc (.cells #[.int .u32 id,.int .i64 d,.int .i64 s,.slice A L.length c] 28)=wa at *;have c0:=HK.c 0;have c1:=HK.c 1;have c2:=HK.c 2;have c3:=HK.c 3;go_wp2_with fail;refine(HCo.out _ HB0.out).mono ?_;rintro e1 w1 ⟨⟨vp,vs,st,P,S,rfl,hpo,hso,hok⟩,hb1⟩;have hp:=hpo.atF flatS hb1.size;have hs:=hso.at hb1.size;clear hpo hso;obtain⟨Ap,cp,rfl,_,_⟩:=hp.slice;obtain⟨As,cs,rfl,_,_⟩:=hs.slice;have HP:=zY hp;have HS:=zY hs;have Hok:=zY hok;have HK1:=zY (HK.kept hb1);have HB1:=zYt HB0 hb1;clear hb1 hp hs hok c0 c1 c2 c3 HK HB0 HCo;have hk:=Hk.out;rw[hk]at Hok⊢;have HC0:=zY (Blk.new w1 98 [.slice Ap P.length cp,.slice As S.length cs,.string st]);have HC:Hid (Blk (w1.alloc (.cells #[.slice Ap P.length cp,.slice As S.length cs,.string st] 98)) w1.heap.size 98 [.slice Ap P.length cp,.slice As S.length cs,.string st]):=zY HC0.out;have HK2:=zY (HK1.alloc (.cells #[.slice Ap P.length cp,.slice As S.length cs,.string st] 98))
 have HB2:=zY (HB1.alloc HB1.size (.cells #[.slice Ap P.length cp,.slice As S.length cs,.string st] 98));have HBw:=zY (zBl w1 (.cells #[.slice Ap P.length cp,.slice As S.length cs,.string st] 98));have HPb:=zY (HP.below HBw.out);have HSb:=zY (HS.below HBw.out);clear HC0 HK1 HB1 HP HS;by_cases h0:k=0;{
 subst h0;obtain⟨x,hn1,hn2,hd1,hd2,hs1,hs2,hx,rfl,rfl,rfl⟩:=Hok.out rfl;have hF:framesF id d s L n=(reelsL id d s n x).flatten:=framesF_ok hk hx;have HF:=zY hF;have hPl:=contE_parts hk hx;have hPz:=partsB_size (strB (dirL x));have hst:=(HL.out _ _ hx).2.2;have hSl:(rowsL d.toNat s.toNat x.str).length<=65537:=rowsL_len (by omega) hst;have hSm:∀y∈rowsL d.toNat s.toNat x.str,y.length=d.toNat+s.toNat:=fun y hy=>rowsL_mem hy;obtain⟨RL,hRL⟩:∃RL,RL=reelsL id d s n x:=⟨_,rfl⟩;have HRl:Hid (RL.length=d.toNat+s.toNat):=zY (by rw[hRL];simp[reelsL]);have HRg:Hid (∀i,i<d.toNat+s.toNat->RL[i]?=some (reelL id d s n i (partsB (strB (dirL x))) (rowsL d.toNat s.toNat x.str) x.str)):=zY (fun i hi=>by rw[hRL,reelsL,List.getElem?_map,List.getElem?_range hi];rfl);have HRz:Hid (∀y∈RL,y.length<=131073):=zY (by
  rw[hRL]
  intro y hy
  obtain⟨r,_,rfl⟩:=List.mem_map.1 hy
  rw[reelL_len]
  omega);rw[<-hRL]at HF;have Hx:=zY hx;generalize partsB (strB (dirL x))=P at *;generalize rowsL d.toNat s.toNat x.str=S at *;generalize x.str=st at *;have HPz:=zY hPz;have HSm:=zY hSm;have hone:(Value.slice A L.length c).oneCell'=true:=rfl;obtain⟨wb,hwb⟩:∃wb,wb=w1.alloc (.cells #[.slice Ap P.length cp,.slice As S.length cs,.string st] 98):=⟨_,rfl⟩;rw[<-hwb]at HC HK2 HB2 HPb HSb;have HOn:Hid (∀(V:World) (r:Nat),Below wb.heap.size wb V->r<d.toNat+s.toNat->Calls prog 39 #[.agg #[.int .u32 id,.int .i64 d,.int .i64 s,.slice A L.length c],.int .i64 n,.int .i64 (r:Int),.agg #[.slice Ap P.length cp,.slice As S.length cs,.string st]] V fun e w'=>RetSeq frmS 49 V w' (reelL id d s n r P S st) e/\Below V.heap.size V w'):=zY (fun V r hV hr=>onreel_any V id d s n r _ _ _ st P S hone (HPb.below hV) (HSb.below hV) hPl HPz.out hSl (fun y hy=>by rw[HSm.out y hy];exact hr) ⟨hd1,hd2⟩ (by omega) (by omega));have c1:=HK2.c 1;have c2:=HK2.c 2;have hdsI:d+s=((d.toNat+s.toNat:Nat):Int):=by omega
 obtain⟨N,hN⟩:=zNm (d.toNat+s.toNat);rw[hN]at hdsI HRl HRg HOn;have hN15:N<=15:=by omega
 have hdsw:IntKind.i64.wrap (d+s)=N:=by rw[hdsI];exact zIw (by omega)
 clear hF hRL hx hPl hPz hst hSl hSm hone hk Hok hN;go_upto_region 4 with fail;rw[<-hwb];clear hwb HBw;go_wp2;go_loopw [8,26] (fun y x wr=>∃i:Nat,i<=N/\x=.int .i64 (i:Int)/\OwnSeq frmS 49 wb wr y (RL.take i).flatten/\Below wb.heap.size wb wr) (fun _ x _=>N-(intOf x).toNat);case atStart=>exact⟨0,by omega,rfl,OwnSeq.nil _,Below.refl _ _⟩
 case round=>
 obtain⟨i,hi,rfl,ho,hB⟩:=hrel;have HO:=zY ho;have HB:=zY hB;clear c1 c2;by_cases h:i<N;{
 obtain⟨Ao,co,rfl⟩:=ho.slice;clear ho hB;have hiI:(i:Int)<N:=by omega
 have hx:=HRg.out i h;obtain⟨F,hF⟩:=zNm (reelL id d s n i P S st);rw[hF]at hx;have HT:Hid ((RL.take (i+1)).flatten=(RL.take i).flatten++F):=zY (by rw[List.take_add_one,hx,List.flatten_append];simp);have hzz:∀(l:List (List Frm)),(∀y∈l,y.length<=131073)->l.flatten.length<=l.length*131073:=by{
 intro l;induction l with
 |nil=>intro _;simp
 |cons y r ih=>
 intro h;have h1:=ih fun z hz=>h z (List.mem_cons_of_mem _ hz);have h2:=h y List.mem_cons_self;rw[List.flatten_cons,List.length_append,List.length_cons,Nat.add_mul];omega};have hz1:=hzz (RL.take i) fun y hy=>HRz.out y (List.mem_of_mem_take hy);have hz2:=HRz.out F (List.mem_of_getElem? hx);rw[List.length_take]at hz1;have Hl1:Hid ((RL.take i).flatten.length+F.length<=100000000):=zY (by
  have:min i RL.length*131073<=15*131073:=Nat.mul_le_mul (by omega) (Nat.le_refl _)
  omega);have HCl:=zY (HOn.out wr i HB.out h);rw[hF]at HCl;have HKr:=HK2.kept HB.out;have HCr:=HC.kept HB.out;have a0:=HKr.c 0;have a1:=HKr.c 1;have a2:=HKr.c 2;have a3:=HKr.c 3;have k0:=HCr.c 0;have k1:=HCr.c 1;have k2:=HCr.c 2;generalize hno:(RL.take i).flatten.length=no at *;have Hno:=zY hno;have Hl1:Hid ((RL.take i).flatten.length+F.length<=100000000):=zY (by rw[hno];exact Hl1.out);clear hno hzz hz1 hz2 hx hF HKr HCr;go_wp2_with fail;refine HCl.mono ?_;rintro e5 w5 ⟨⟨vf,rfl,hf⟩,hb5⟩;have HB5:=zYt HB hb5;have HO5:=zY (HO.stay (W':=w5) fun k o _ ho _=>(hb5.block k (Array.getElem?_eq_some_iff.1 ho).1).trans ho);have HSr:Hid (SrcAt frmS wb w5 vf F):=zY (SrcAt.flat flatFrm (hf.at hb5));clear hf hb5 a0 a1 a2 a3 k0 k1 k2 HCl;go_wp2_with (at_builtin;refine append_seq (w0:=wb) Tryz.elemFrm rfl _ _ rfl rfl HO5.out rfl HSr.out Hl1.out HB5.out ?_;intro vb w6 hob _ hbb;have KV:=zY hob;have KC:=zY hbb;clear hob hbb);go_roundw;case rel=>exact⟨i+1,by omega,by go_num,by rw[HT.out];exact KV.out,KC.out⟩
 case measure=>simp[intOf];omega};{
 obtain rfl:i=N:=by omega
 have hiI:¬((i:Nat):Int)<(i:Int):=by omega
 have hall:(RL.take i).flatten=framesF id d s L n:=by rw[HF.out,List.take_of_length_le (by rw[HRl.out];exact Nat.le_refl _)]
 rw[hall]at HO;clear hall ho hB;go_wp2;go_ret2;exact⟨⟨_,rfl,HO.low flatFrm HB2.size⟩,HB2.trans (HB.mono HB2.size)⟩}};{
 have h0b:(k==0)=false:=by rw[beq_eq_false_iff_ne];exact h0
 have HF:=zY (framesF_err (id:=id) (by rw[hk];exact h0:contE d s L n≠0));clear hk Hok;go_wp2;go_ret2;exact⟨⟨_,rfl,by rw[HF.out];exact OwnSeq.nil _⟩,HB2.out⟩}
theorem frE_zero {k r s i l d p:Int} {t:ByteArray} (hk:k=66∨k=68) (hd:1<=d/\d<=8) (hp:0<=p/\p<=7) (hr:0<=r/\r<=d+p-1) (hs:1<=s/\s<=255) (hi:0<=i/\i<=65535) (hl:0<=l/\l<=28) (ht:t.size=28) (hz:∀j,l.toNat<=j->cf (bs t) j=0):frE k r s i l d p t=0:=by
 have e1:¬((k != 66)&&(k != 68))=true:=by rcases hk with rfl|rfl<;>decide
 have e2:∀{n lo hi:Int},lo<=n/\n<=hi->inR n lo hi=true:=fun h=>by
  unfold inR
  simp[h.1,h.2]
 have e3:padOK l t=true:=by unfold padOK allIn;rw[List.all_eq_true];intro b hb;obtain⟨j,hj,rfl⟩:=List.mem_iff_getElem.1 hb;rw[List.getElem_drop];have h1:=hz (l.toNat+j) (by omega);rw[List.length_drop]at hj;rw[cf,List.getElem?_eq_getElem (by omega)]at h1;rw[show (bs t)[l.toNat+j]=0 from h1];rfl
 unfold frE;rw[if_neg e1,e2 hd,e2 hp,if_neg (by decide),e2 hr,e2 hs,e2 hi,e2 hl,if_neg (by decide),e3,ht,if_neg (by decide)]
theorem fillB_size {p:ByteArray} (h:p.size<=28):(fillB p).size=28:=by
 rw[fillB,ByteArray.size_append,strB_size,List.length_replicate];omega
theorem fillB_cf {p:ByteArray} {j:Nat} (h:p.size<=j):cf (bs (fillB p)) j=0:=by
 have e:bs (fillB p)=bs p++List.replicate (28-p.size) 0:=by{
 have:=strB_cat (bs p) (List.replicate (28-p.size) 0);rw[strB_bs]at this;rw[fillB,this,bs_strB];intro c hc;rcases List.mem_append.1 hc with h1|h1;{
 obtain⟨d,_,rfl⟩:=List.mem_map.1 h1;exact UInt8.toNat_lt d};{rw[(List.mem_replicate.1 h1).2];omega}};rw[e,cf,List.getElem?_append_right (by rw[bs_len];exact h),List.getElem?_replicate];split<;>rfl
theorem blockB_cf (st:ByteArray) (m j:Nat):cf (bs (blockB st m)) j=if j<28 then cf (bs st) (28*m+j) else 0:=by
 rw[blockB,bs_strB (by intro b hb;obtain⟨i,_,rfl⟩:=List.mem_map.1 hb;exact cf_byte st _),cf_map]
theorem rowsL_get {d s:Nat} {st:ByteArray} {i:Nat} (h:i<(rowsL d s st).length):(rowsL d s st).getD i []=datL d st i++sparL (datL d st i) 28 s:=by
 rw[rowsL,List.length_map,stripL,List.length_map,List.length_range]at h;rw[List.getD,rowsL,List.getElem?_map,stripL,List.getElem?_map,List.getElem?_range h];rfl
theorem rowsL_len2 {d s:Nat} {st:ByteArray} (hd:1<=d) (hs:st.size<=1835008):(rowsL d s st).length<=65536:=by
 rw[rowsL,List.length_map,stripL,List.length_map,List.length_range];unfold strN;apply Nat.le_of_lt_succ;rw[Nat.div_lt_iff_lt_mul (by omega)];have h1:28*1<=28*d:=by omega
 have:=Nat.mul_le_mul_left 65536 h1;show _<(65536+1)*(28*d);rw[Nat.add_mul];omega
theorem cell_size {d s r:Nat} {st:ByteArray} {i:Nat} (hr:r<d+s):((datL d st i++sparL (datL d st i) 28 s).getD r ⟨#[]⟩).size=28:=by
 rw[List.getD];by_cases h:r<d;{
 rw[List.getElem?_append_left (by rw[datL_len];exact h),datL,List.getElem?_map,List.getElem?_range h];exact blockB_size _ _};{
 rw[List.getElem?_append_right (by rw[datL_len];omega),datL_len,sparL,List.getElem?_map,List.getElem?_range (by omega)];show (strB _).size=28;rw[strB_size,atE_len]}
theorem cell_data {d s r:Nat} {st:ByteArray} {i:Nat} (h:r<d):(datL d st i++sparL (datL d st i) 28 s).getD r ⟨#[]⟩=blockB st (i*d+r):=by
 rw[List.getD,List.getElem?_append_left (by rw[datL_len];exact h),datL,List.getElem?_map,List.getElem?_range h];rfl
theorem usedF_le (d r i n:Nat):usedF d r i n<=28:=by unfold usedF;split<;>omega
theorem reel_ok {id d s n:Int} {r:Nat} {x:Ses} (hid:0<=id/\id<4294967296) (hd:1<=d/\d<=8) (hs:0<=s/\s<=7) (hr:r<d.toNat+s.toNat) (hn:1<=n/\n<=255) (hp:(partsB (strB (dirL x))).length<=65536) (hst:x.str.size<=1835008):
  ∀f∈reelL id d s n r (partsB (strB (dirL x))) (rowsL d.toNat s.toNat x.str) x.str,FrmOk f:=by
 intro f hf;rcases List.mem_append.1 hf with h|h;{
 obtain⟨i,hi,rfl⟩:=List.mem_map.1 h;have hi2:=List.mem_range.1 hi;have hz:((partsB (strB (dirL x))).getD i ⟨#[]⟩).size<=28:=by rw[List.getD,List.getElem?_eq_getElem hi2];exact partsB_size _ _ (List.getElem_mem hi2)
 generalize (partsB (strB (dirL x))).getD i ⟨#[]⟩=p at *;exact⟨show frE 68 (r:Int) n (i:Int) (p.size:Int) d s (fillB p)=0 from frE_zero (.inr rfl) hd hs (by omega) hn (by omega) (by omega) (fillB_size hz) fun j hj=>fillB_cf (by omega),hid⟩};{
 obtain⟨i,hi,rfl⟩:=List.mem_map.1 h;have hi2:=List.mem_range.1 hi;have hi3:=rowsL_len2 (d:=d.toNat) (s:=s.toNat) (st:=x.str) (by omega) hst;rw[rowsL_get hi2];have hu:=usedF_le d.toNat r i x.str.size;refine⟨show frE 66 (r:Int) n (i:Int) (usedF d.toNat r i x.str.size:Int) d s ((datL d.toNat x.str i++sparL (datL d.toNat x.str i) 28 s.toNat).getD r ⟨#[]⟩)=0 from frE_zero (.inl rfl) hd hs (by omega) hn (by omega) (by omega) (cell_size hr) fun j hj=>?_,hid⟩;by_cases hrd:r<d.toNat;{
 rw[cell_data hrd,blockB_cf];split;{
 apply cf_big;rw[bs_len];have e:usedF d.toNat r i x.str.size=min (x.str.size-(i*d.toNat+r)*28) 28:=by rw[usedF,if_neg (by omega)]
 rw[e]at hj;have:((min (x.str.size-(i*d.toNat+r)*28) 28:Nat):Int).toNat=min (x.str.size-(i*d.toNat+r)*28) 28:=rfl;rw[this]at hj;rw[Nat.mul_comm 28];omega};{rfl}};{
 apply cf_big;have e:usedF d.toNat r i x.str.size=28:=by rw[usedF,if_pos (by omega)]
 rw[e]at hj;rw[bs_len,cell_size hr];exact hj}}
def reelS:Shape (Nat×List ByteArray) where
 n:=2
 R w cs x:=∃v,cs=[.int .i64 (x.1:Int),v]/\SeqAt strS w v x.2
 len h:=by obtain⟨_,rfl,_⟩:=h;rfl
 one h u hu:=by
  obtain⟨v,rfl,h⟩:=h
  simp only[List.mem_cons,List.not_mem_nil,or_false]at hu
  rcases hu with rfl|rfl
  ·rfl
  ·exact h.one
 keep h hb:=by
  obtain⟨v,e,h⟩:=h
  exact⟨v,e,h.below hb⟩
structure Rls (N M:Nat) (w0 W:World) (g:Nat) (X:Nat->List ByteArray) (rs:Nat->Value):Prop where
 blk:∃us,Blk W g 64 us/\us.length=2*N/\(∀j,j<M->us[2*j]?=some (.int .i64 (j:Int))/\us[2*j+1]?=some (rs j))/\(∀j,M<=j->j<N->us[2*j]?=some (.int .i64 0)/\us[2*j+1]?=some (.slice none 0 0))
 own:∀j,j<M->OwnSeq strS 9 w0 W (rs j) (X j)
 sep:∀j k,j<M->k<M->j≠k->(rs j).ownBlock=none∨(rs j).ownBlock≠(rs k).ownBlock
 base:w0.heap.size<=g
theorem rls_new {N:Nat} {w0 W:World} (h:w0.heap.size<=W.heap.size) (X:Nat->List ByteArray) (rs:Nat->Value) {us:List Value} (hu:us=(List.replicate N [Value.int .i64 0,.slice none 0 0]).flatten):Rls N 0 w0 (W.alloc (.cells us.toArray 64)) W.heap.size X rs:=by
 have hl:∀n,((List.replicate n [Value.int .i64 0,Value.slice none 0 0]).flatten).length=2*n:=by{
 intro n;induction n with
 |zero=>rfl
 |succ n ih=>rw[List.replicate_succ,List.flatten_cons,List.length_append,ih];show 2+2*n=_;omega};have hg:∀n j,j<n->((List.replicate n [Value.int .i64 0,Value.slice none 0 0]).flatten)[2*j]?=some (.int .i64 0)/\((List.replicate n [Value.int .i64 0,Value.slice none 0 0]).flatten)[2*j+1]?=some (.slice none 0 0):=by{
 intro n;induction n with
 |zero=>intro j hj;omega
 |succ n ih=>
 intro j hj;rw[List.replicate_succ,List.flatten_cons];cases j with
 |zero=>exact⟨rfl,rfl⟩
 |succ j=>
 have h1:=ih j (by omega);exact h1};subst hu;exact⟨⟨_,Blk.new W 64 _,hl N,fun j hj=>by omega,fun j _ hj=>hg N j hj⟩,fun j hj=>by omega,fun j k hj=>by omega,h⟩
theorem Rls.cell {N M:Nat} {w0 W:World} {g:Nat} {X:Nat->List ByteArray} {rs:Nat->Value} (h:Rls N M w0 W g X rs) {j:Nat} (hj:j<M):W.cell? ⟨g,2*j,none⟩=some (.int .i64 (j:Int))/\W.cell? ⟨g,2*j+1,none⟩=some (rs j):=by
 obtain⟨us,hb,_,h1,_⟩:=h.blk;exact⟨hb.cell (h1 j hj).1,hb.cell (h1 j hj).2⟩
theorem Rls.cell0 {N M:Nat} {w0 W:World} {g:Nat} {X:Nat->List ByteArray} {rs:Nat->Value} (h:Rls N M w0 W g X rs) {j:Nat} (hj:M<=j) (hN:j<N):W.cell? ⟨g,2*j,none⟩=some (.int .i64 0)/\W.cell? ⟨g,2*j+1,none⟩=some (.slice none 0 0):=by
 obtain⟨us,hb,_,_,h1⟩:=h.blk;exact⟨hb.cell (h1 j hj hN).1,hb.cell (h1 j hj hN).2⟩
theorem Rls.frozen {N M:Nat} {w0 W:World} {g:Nat} {X:Nat->List ByteArray} {rs:Nat->Value} (h:Rls N M w0 W g X rs) (i:Nat):W.frozen? ⟨g,i,none⟩=false:=by
 obtain⟨us,hb,_⟩:=h.blk;exact hb.frozen i
theorem Rls.lt {N M:Nat} {w0 W:World} {g:Nat} {X:Nat->List ByteArray} {rs:Nat->Value} (h:Rls N M w0 W g X rs):g<W.heap.size:=by
 obtain⟨us,hb,_⟩:=h.blk;exact hb.lt
theorem Rls.below {N M:Nat} {w0 W W':World} {g:Nat} {X:Nat->List ByteArray} {rs:Nat->Value} (h:Rls N M w0 W g X rs) (hb:Below W.heap.size W W'):Rls N M w0 W' g X rs:=by
 obtain⟨us,h1,h2⟩:=h.blk;exact⟨⟨us,h1.kept hb,h2⟩,fun j hj=>(h.own j hj).below hb,h.sep,h.base⟩
theorem Rls.fill {N M:Nat} {w0 W W':World} {g:Nat} {X:Nat->List ByteArray} {rs:Nat->Value} (h:Rls N M w0 W g X rs) (hM:M<N) {v:Value} (hv:OwnSeq strS 9 w0 W' v (X M)) (hb:Below W.heap.size W W') (hn:v.ownBlock=none∨∃k,v.ownBlock=some k/\W.heap.size<=k):
  Rls N (M+1) w0 ((W'.setCell ⟨g,2*M,none⟩ (.int .i64 (M:Int))).setCell ⟨g,2*M+1,none⟩ v) g X (fun j=>if j=M then v else rs j):=by
 obtain⟨us,h1,h2,h3,h4⟩:=h.blk;have hk:=(h1.kept hb);have hg:=grownBy_trans (grown_set W' g (2*M) (.int .i64 (M:Int))) (grown_set (W'.setCell ⟨g,2*M,none⟩ (.int .i64 (M:Int))) g (2*M+1) v);have hne:∀{r:Value} {x:List ByteArray},OwnSeq strS 9 w0 W' r x->r.ownBlock≠some g:=fun ho=>ho.neT hk (by decide);refine⟨⟨_,(hk.set (2*M) _).set (2*M+1) v,by rw[List.length_set,List.length_set];exact h2,fun j hj=>?_,fun j hj hN=>?_⟩,fun j hj=>?_,fun j k hj hk' hjk=>?_,h.base⟩;{
 by_cases e:j=M;{
 subst e;refine⟨?_,?_⟩;{rw[List.getElem?_set_ne (by omega),List.getElem?_set_self (by omega)]};{rw[List.getElem?_set_self (by rw[List.length_set];omega),if_pos rfl]}};{
 have h5:=h3 j (by omega);refine⟨?_,?_⟩;{rw[List.getElem?_set_ne (by omega),List.getElem?_set_ne (by omega)];exact h5.1};{rw[List.getElem?_set_ne (by omega),List.getElem?_set_ne (by omega),if_neg e];exact h5.2}}};{
 have h5:=h4 j (by omega) hN;refine⟨?_,?_⟩;{rw[List.getElem?_set_ne (by omega),List.getElem?_set_ne (by omega)];exact h5.1};{rw[List.getElem?_set_ne (by omega),List.getElem?_set_ne (by omega)];exact h5.2}};{
 show OwnSeq _ _ _ _ (if j=M then v else rs j) _;by_cases e:j=M;{
 subst e;rw[if_pos rfl];exact hv.grown hg (.inr (hne hv))};{
 rw[if_neg e];have ho:=(h.own j (by omega)).below hb;exact ho.grown hg (.inr (hne ho))}};{
 show (if j=M then v else rs j).ownBlock=none∨(if j=M then v else rs j).ownBlock≠(if k=M then v else rs k).ownBlock;by_cases ej:j=M;{
 rw[if_pos ej,if_neg (by omega)];rcases hn with hn|⟨q,hn,hq⟩;{exact .inl hn};{
 right;intro e;rw[hn]at e;have:=(h.own k (by omega)).lt e.symm;omega}};{
 rw[if_neg ej];by_cases ek:k=M;{
 rw[if_pos ek];rcases hn with hn|⟨q,hn,hq⟩;{
 cases h6:(rs j).ownBlock with
 |none=>exact .inl rfl
 |some b=>right;rw[hn];exact Option.some_ne_none b};{
 right;intro e;rw[hn]at e;have:=(h.own j (by omega)).lt e;omega}};{
 rw[if_neg ek];exact h.sep j k (by omega) (by omega) hjk}}}
theorem Rls.put {N:Nat} {w0 W W':World} {g i:Nat} {X Y:Nat->List ByteArray} {rs:Nat->Value} (h:Rls N N w0 W g X rs) (hi:i<N) {v:Value} (hv:OwnSeq strS 9 w0 W' v (Y i)) (hY:∀j,j<N->j≠i->Y j=X j) (hg:W.grownBy W' (rs i).ownBlock) (hn:v.ownBlock=(rs i).ownBlock∨v.ownBlock=some W.heap.size):
  Rls N N w0 (W'.setCell ⟨g,2*i+1,none⟩ v) g Y (fun j=>if j=i then v else rs j):=by
 obtain⟨us,h1,h2,h3,h4⟩:=h.blk;have hk:Blk W' g 64 us:=h1.grownB hg ((h.own i hi).neT h1 (by decide));have hs:=grown_set W' g (2*i+1) v;have hne:∀{r:Value} {x:List ByteArray},OwnSeq strS 9 w0 W' r x->r.ownBlock≠some g:=fun ho=>ho.neT hk (by decide);refine⟨⟨_,hk.set (2*i+1) v,by rw[List.length_set];exact h2,fun j hj=>?_,fun j hj hN=>by omega⟩,fun j hj=>?_,fun j k hj hk' hjk=>?_,h.base⟩;{
 have h5:=h3 j hj;by_cases e:j=i;{
 subst e;refine⟨?_,?_⟩;{rw[List.getElem?_set_ne (by omega)];exact h5.1};{rw[List.getElem?_set_self (by omega),if_pos rfl]}};{
 refine⟨?_,?_⟩;{rw[List.getElem?_set_ne (by omega)];exact h5.1};{rw[List.getElem?_set_ne (by omega),if_neg e];exact h5.2}}};{
 show OwnSeq _ _ _ _ (if j=i then v else rs j) _;by_cases e:j=i;{
 subst e;rw[if_pos rfl];exact hv.grown hs (.inr (hne hv))};{
 rw[if_neg e,hY j hj e];have ho:=(h.own j hj).grown hg (h.sep j i hj hi e);exact ho.grown hs (.inr (hne ho))}};{
 show (if j=i then v else rs j).ownBlock=none∨(if j=i then v else rs j).ownBlock≠(if k=i then v else rs k).ownBlock;by_cases ej:j=i;{
 rw[if_pos ej,if_neg (by omega)];rcases hn with hn|hn;{rw[hn];exact h.sep i k hi hk' (by omega)};{
 right;intro e;rw[hn]at e;have:=(h.own k hk').lt e.symm;omega}};{
 rw[if_neg ej];by_cases ek:k=i;{
 rw[if_pos ek];rcases hn with hn|hn;{rw[hn];exact h.sep j i hj hi (by omega)};{
 right;intro e;rw[hn]at e;have:=(h.own j hj).lt e;omega}};{
 rw[if_neg ek];exact h.sep j k hj hk' hjk}}}
theorem Rls.at {N:Nat} {w0 W:World} {g:Nat} {X:Nat->List ByteArray} {rs:Nat->Value} (h:Rls N N w0 W g X rs) (hw:w0.heap.size<=W.heap.size) (hN:N<=1000):SeqAt reelS W (.slice (some ⟨g,0,none⟩) N N) ((List.range N).map fun j=>(j,X j)):=by
 refine⟨some ⟨g,0,none⟩,N,by simp,by simp,by omega,fun i x hx=>?_⟩;have hi:i<N:=by rw[List.getElem?_map]at hx;by_cases h:i<N;{exact h};{rw[List.getElem?_eq_none (by simpa using h)]at hx;cases hx}
 rw[List.getElem?_map,List.getElem?_range hi]at hx;obtain rfl:(i,X i)=x:=Option.some.inj hx;have hc:=h.cell hi;refine⟨g,0,[.int .i64 (i:Int),rs i],rfl,⟨rs i,rfl,(h.own i hi).atF flatS hw⟩,fun j u hu=>?_⟩;show W.cell? ⟨g,0+i*2+j,none⟩=some u;match j,hu with
 |0,hu=>cases hu;rw[show 0+i*2+0=2*i by omega];exact hc.1
 |1,hu=>cases hu;rw[show 0+i*2+1=2*i+1 by omega];exact hc.2
 |j+2,hu=>cases hu
end
end Go.Proofs.YthgenkkkapilhaaGreatDoor