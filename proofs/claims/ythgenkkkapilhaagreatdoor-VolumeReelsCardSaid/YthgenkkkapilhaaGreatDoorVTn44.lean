/- Texts, joined. -/
import Derived.Test.YthgenkkkapilhaaGreatDoorVTn26
import Derived.Test.YthgenkkkapilhaaGreatDoorVTn38
import Derived.Test.YthgenkkkapilhaaGreatDoorVTn43
set_option linter.all false
set_option maxRecDepth 100000
set_option maxHeartbeats 64000000
namespace Go.Proofs.YthgenkkkapilhaaGreatDoor
open Go.Proofs.Tryz
section
open Go.RowKit
def UpV (lo:Nat) (v:Value):Prop:=∀b o n c,v=.slice (some ⟨b,o,none⟩) n c->lo<=b
def rowO {α:Type} (ρ:Shape α) (lo:Nat):Shape (List α) where
 n:=1
 R w cs x:=∃v,cs=[v]/\SeqAt ρ w v x/\UpV lo v
 len h:=by obtain⟨_,rfl,_⟩:=h;rfl
 one h u hu:=by
  obtain⟨v,rfl,h,_⟩:=h
  rw[List.mem_singleton.1 hu]
  exact h.one
 keep h hb:=by
  obtain⟨v,e,h,k⟩:=h
  exact⟨v,e,h.below hb,k⟩
def chkF {α:Type} (k:Nat) (l:List α) (i:Nat):List (List α):=(List.range i).map fun j=>(l.drop (k*j)).take k
def chks {α:Type} (k:Nat) (l:List α):List (List α):=chkF k l ((l.length+k-1)/k)
theorem chkF_len {α:Type} (k:Nat) (l:List α) (i:Nat):(chkF k l i).length=i:=by simp[chkF]
theorem chks_end {α:Type} {k i:Nat} {l:List α} (hk:1<=k) (h1:l.length<=k*i) (h2:k*i<l.length+k):chkF k l i=chks k l:=by
 rw[chks];congr 1;apply Nat.le_antisymm;{
 apply Nat.le_of_lt_succ;rw[<-Nat.not_le];intro h;have h3:k*((l.length+k-1)/k+1)<=k*i:=Nat.mul_le_mul_left k h;have h4:=Nat.div_add_mod (l.length+k-1) k;have h5:=Nat.mod_lt (l.length+k-1) hk;rw[Nat.mul_add,Nat.mul_one]at h3;omega};{
 rw[Nat.div_le_iff_le_mul_add_pred hk];omega}
def lenV (v:Value):Nat:=match v with
 |.slice _ n _=>n
 |_=>0
theorem Tryz.elemGrF:Elem prog 108 32 1 24 (.slice none 0 0):=⟨underlying108,by kernel_rfl,rfl,by decide,by decide⟩
theorem groupsF_any (w:World) (v:Value) (l:List Frm) (k:Nat) (hk:1<=k/\k<=100) (hv:SeqAt frmS w v l) (lo:Nat) (hlo:UpV lo v) (hl:l.length<=10000000):Calls prog 47 #[v,.int .i64 (k:Int)] w fun e w'=>RetSeq (rowO frmS lo) 32 w w' (chks k l) e/\Below w.heap.size w w':=by
 have hv0:SeqAt frmS w v (l.drop (k*0)):=by rw[Nat.mul_zero,List.drop_zero];exact hv
 have HV:=zY hv0;have HL:=zY hlo;clear hv hv0 hlo;go_enter func47,ntmps47;go_wp2;go_loopw [0,5] (fun x y wr=>∃i:Nat,k*i<l.length+k/\SeqAt frmS w x (l.drop (k*i))/\UpV lo x/\OwnSeq (rowO frmS lo) 32 w wr y (chkF k l i)/\Below w.heap.size w wr) (fun x _ _=>lenV x);case atStart=>exact⟨0,by omega,HV.out,HL.out,OwnSeq.nil _,Below.refl _ _⟩
 case round=>
 obtain⟨i,hi,hx,hup,ho,hB⟩:=hrel;have HU:=zY hup;have HO:=zY ho;have HB:=zY hB;obtain⟨Ao,co,rfl⟩:=ho.slice;clear ho hB HV HL hup;by_cases h:k*i<l.length;{
 have Hx:=zY hx;obtain⟨A,c,rfl,h1,h2,h3⟩:=hx;obtain⟨r,hr⟩:=zNm ((l.drop (k*i)).length);have hrl:r=l.length-k*i:=by rw[<-hr,List.length_drop]
 obtain⟨x0,hx0⟩:∃x,(l.drop (k*i))[0]?=some x:=⟨_,List.getElem?_eq_getElem (by omega)⟩;obtain⟨b,o,_,rfl,_,_⟩:=h3 0 x0 hx0;have HLo:Hid (∀n c,UpV lo (.slice (some ⟨b,o,none⟩) n c)):=zY (fun n c b' o' n' c' e=>by cases e;exact HU.out _ _ _ _ rfl);have HLo2:Hid (∀n c m,UpV lo (.slice (some ⟨b,o+m,none⟩) n c)):=zY (fun n c m b' o' n' c' e=>by cases e;exact HU.out _ _ _ _ rfl);rw[hr]at h1⊢;have Hx2:=Hx.out;rw[hr]at Hx2;obtain⟨n,hn⟩:=zNm (min k r);have hmin:min (k:Int) (r:Int)=n:=by omega
 have hr0:(0:Int)<r:=by omega
 have hn0:(0:Int)<=n:=by omega
 have hnc:(n:Int)<=c:=by omega
 have hnr:(n:Int)<=r:=by omega
 have hncN:n<=c:=by omega
 have hnrN:n<=r:=by omega
 have HT:Hid (SeqAt frmS w (.slice (some ⟨b,o,none⟩) n c) ((l.drop (k*i)).take k)):=zY (by
  have h9:=SeqAt.take (m:=n) Hx2 (by rw[hr];omega)
  have e:(l.drop (k*i)).take n=(l.drop (k*i)).take k:=by
   rw[<-hn]
   by_cases hkr:k<=r
   ·rw[Nat.min_eq_left hkr]
   ·rw[Nat.min_eq_right (by omega),List.take_of_length_le (by omega),List.take_of_length_le (by omega)]
  rwa [e]at h9);have hdn:(l.drop (k*i)).drop n=l.drop (k*(i+1)):=by rw[List.drop_drop,Nat.mul_add,Nat.mul_one];by_cases hkr:k<=r;{rw[<-hn,Nat.min_eq_left hkr]};{rw[List.drop_of_length_le (by omega),List.drop_of_length_le (by omega)]}
 have HD:Hid (SeqAt frmS w (.slice (some ⟨b,o+n*9,none⟩) (r-n) (c-n)) (l.drop (k*(i+1)))):=zY (by
  rw[<-hdn]
  exact SeqAt.drop Hx2 (by rw[hr];omega));have HE:Hid (c=n->∀A,SeqAt frmS w (.slice A (r-n) (c-n)) (l.drop (k*(i+1)))):=zY (fun e A=>by
  have e1:l.drop (k*(i+1))=[]:=by
   rw[<-hdn]
   exact List.drop_of_length_le (by omega)
  rw[e1,show r-n=0 by omega]
  exact⟨A,c-n,rfl,Nat.zero_le _,by omega,fun i x hx=>by cases hx⟩);have Hni:Hid (k*(i+1)<l.length+k):=zY (by rw[Nat.mul_add];omega);have Hms:Hid (r-n<r):=zY (by omega);have HF:Hid (chkF k l (i+1)=chkF k l i++[(l.drop (k*i)).take k]):=zY (by rw[chkF,List.range_succ,List.map_append];rfl);have Hl1:Hid ((chkF k l i).length+1<=100000000):=zY (by
  rw[chkF_len]
  have:=Nat.mul_le_mul_right i hk.1
  omega);obtain⟨T,hT⟩:=zNm ((l.drop (k*i)).take k);rw[hT]at HT HF;generalize hno:(chkF k l i).length=no at *;have Hno:=zY hno;have Hl1:Hid ((chkF k l i).length+1<=100000000):=zY (by rw[hno];exact Hl1.out);have HX1:Hid (SrcAt (rowO frmS lo) w (wr.alloc (.cells #[.slice (some ⟨b,o,none⟩) n c] 32)) (.slice (some ⟨wr.heap.size,0,none⟩) 1 1) [T]):=zY (src1 (ρ:=rowO frmS lo) (wr:=wr) [.slice (some ⟨b,o,none⟩) n c] T ⟨_,rfl,HT.out,HLo.out _ _⟩ rfl);have HO1:=zY (HO.alloc (.cells #[.slice (some ⟨b,o,none⟩) n c] 32));have HB1:=zY (HB.alloc HB.size (.cells #[.slice (some ⟨b,o,none⟩) n c] 32));clear hno hT hdn Hx2 Hx h3 hx0 hr hrl h1 h2 hi h hn;by_cases hcn:c=n;{
 have hcp:(c=n)=True:=eq_true hcn;have HE:=zY (HE.out hcn);clear hcn;go_wp2_with (at_builtin;refine append_seq (w0:=w) Tryz.elemGrF rfl _ _ rfl rfl HO1.out rfl HX1.out Hl1.out HB1.out ?_;intro vb w6 hob _ hbb;have KV:=zY hob;have KC:=zY hbb;clear hob hbb);go_roundw;case rel=>exact⟨i+1,Hni.out,HE.out _,HLo.out _ _,by rw[HF.out];exact KV.out,KC.out⟩
 case measure=>exact Hms.out};{
 have hcp:(c=n)=False:=eq_false hcn;clear hcn;go_wp2_with (at_builtin;refine append_seq (w0:=w) Tryz.elemGrF rfl _ _ rfl rfl HO1.out rfl HX1.out Hl1.out HB1.out ?_;intro vb w6 hob _ hbb;have KV:=zY hob;have KC:=zY hbb;clear hob hbb);go_roundw;case rel=>exact⟨i+1,Hni.out,HD.out,HLo2.out _ _ _,by rw[HF.out];exact KV.out,KC.out⟩
 case measure=>exact Hms.out}};{
 obtain⟨A,c,rfl,_,_,_⟩:=hx;have hz:(l.drop (k*i)).length=0:=by rw[List.length_drop];omega
 rw[hz];have HF:=zY (chks_end (l:=l) hk.1 (by omega) hi);clear hz;generalize hno:(chkF k l i).length=no at *;clear hno h hi;go_wp2;go_ret;exact⟨⟨_,rfl,by rw[<-HF.out];exact HO.out⟩,HB.out⟩}
theorem Tryz.elemGrP:Elem prog 176 59 1 24 (.slice none 0 0):=⟨underlying176,by kernel_rfl,rfl,by decide,by decide⟩
theorem groupsP_any (w:World) (v:Value) (l:List Pln) (k:Nat) (hk:1<=k/\k<=100) (hv:SeqAt plnS w v l) (lo:Nat) (hlo:UpV lo v) (hl:l.length<=10000000):Calls prog 94 #[v,.int .i64 (k:Int)] w fun e w'=>RetSeq (rowO plnS lo) 59 w w' (chks k l) e/\Below w.heap.size w w':=by
 have hv0:SeqAt plnS w v (l.drop (k*0)):=by rw[Nat.mul_zero,List.drop_zero];exact hv
 have HV:=zY hv0;have HL:=zY hlo;clear hv hv0 hlo;go_enter func94,ntmps94;go_wp2;go_loopw [0,5] (fun x y wr=>∃i:Nat,k*i<l.length+k/\SeqAt plnS w x (l.drop (k*i))/\UpV lo x/\OwnSeq (rowO plnS lo) 59 w wr y (chkF k l i)/\Below w.heap.size w wr) (fun x _ _=>lenV x);case atStart=>exact⟨0,by omega,HV.out,HL.out,OwnSeq.nil _,Below.refl _ _⟩
 case round=>
 obtain⟨i,hi,hx,hup,ho,hB⟩:=hrel;have HU:=zY hup;have HO:=zY ho;have HB:=zY hB;obtain⟨Ao,co,rfl⟩:=ho.slice;clear ho hB HV HL hup;by_cases h:k*i<l.length;{
 have Hx:=zY hx;obtain⟨A,c,rfl,h1,h2,h3⟩:=hx;obtain⟨r,hr⟩:=zNm ((l.drop (k*i)).length);have hrl:r=l.length-k*i:=by rw[<-hr,List.length_drop]
 obtain⟨x0,hx0⟩:∃x,(l.drop (k*i))[0]?=some x:=⟨_,List.getElem?_eq_getElem (by omega)⟩;obtain⟨b,o,_,rfl,_,_⟩:=h3 0 x0 hx0;have HLo:Hid (∀n c,UpV lo (.slice (some ⟨b,o,none⟩) n c)):=zY (fun n c b' o' n' c' e=>by cases e;exact HU.out _ _ _ _ rfl);have HLo2:Hid (∀n c m,UpV lo (.slice (some ⟨b,o+m,none⟩) n c)):=zY (fun n c m b' o' n' c' e=>by cases e;exact HU.out _ _ _ _ rfl);rw[hr]at h1⊢;have Hx2:=Hx.out;rw[hr]at Hx2;obtain⟨n,hn⟩:=zNm (min k r);have hmin:min (k:Int) (r:Int)=n:=by omega
 have hr0:(0:Int)<r:=by omega
 have hn0:(0:Int)<=n:=by omega
 have hnc:(n:Int)<=c:=by omega
 have hnr:(n:Int)<=r:=by omega
 have hncN:n<=c:=by omega
 have hnrN:n<=r:=by omega
 have HT:Hid (SeqAt plnS w (.slice (some ⟨b,o,none⟩) n c) ((l.drop (k*i)).take k)):=zY (by
  have h9:=SeqAt.take (m:=n) Hx2 (by rw[hr];omega)
  have e:(l.drop (k*i)).take n=(l.drop (k*i)).take k:=by
   rw[<-hn]
   by_cases hkr:k<=r
   ·rw[Nat.min_eq_left hkr]
   ·rw[Nat.min_eq_right (by omega),List.take_of_length_le (by omega),List.take_of_length_le (by omega)]
  rwa [e]at h9);have hdn:(l.drop (k*i)).drop n=l.drop (k*(i+1)):=by rw[List.drop_drop,Nat.mul_add,Nat.mul_one];by_cases hkr:k<=r;{rw[<-hn,Nat.min_eq_left hkr]};{rw[List.drop_of_length_le (by omega),List.drop_of_length_le (by omega)]}
 have HD:Hid (SeqAt plnS w (.slice (some ⟨b,o+n*4,none⟩) (r-n) (c-n)) (l.drop (k*(i+1)))):=zY (by
  rw[<-hdn]
  exact SeqAt.drop Hx2 (by rw[hr];omega));have HE:Hid (c=n->∀A,SeqAt plnS w (.slice A (r-n) (c-n)) (l.drop (k*(i+1)))):=zY (fun e A=>by
  have e1:l.drop (k*(i+1))=[]:=by
   rw[<-hdn]
   exact List.drop_of_length_le (by omega)
  rw[e1,show r-n=0 by omega]
  exact⟨A,c-n,rfl,Nat.zero_le _,by omega,fun i x hx=>by cases hx⟩);have Hni:Hid (k*(i+1)<l.length+k):=zY (by rw[Nat.mul_add];omega);have Hms:Hid (r-n<r):=zY (by omega);have HF:Hid (chkF k l (i+1)=chkF k l i++[(l.drop (k*i)).take k]):=zY (by rw[chkF,List.range_succ,List.map_append];rfl);have Hl1:Hid ((chkF k l i).length+1<=100000000):=zY (by
  rw[chkF_len]
  have:=Nat.mul_le_mul_right i hk.1
  omega);obtain⟨T,hT⟩:=zNm ((l.drop (k*i)).take k);rw[hT]at HT HF;generalize hno:(chkF k l i).length=no at *;have Hno:=zY hno;have Hl1:Hid ((chkF k l i).length+1<=100000000):=zY (by rw[hno];exact Hl1.out);have HX1:Hid (SrcAt (rowO plnS lo) w (wr.alloc (.cells #[.slice (some ⟨b,o,none⟩) n c] 59)) (.slice (some ⟨wr.heap.size,0,none⟩) 1 1) [T]):=zY (src1 (ρ:=rowO plnS lo) (wr:=wr) [.slice (some ⟨b,o,none⟩) n c] T ⟨_,rfl,HT.out,HLo.out _ _⟩ rfl);have HO1:=zY (HO.alloc (.cells #[.slice (some ⟨b,o,none⟩) n c] 59));have HB1:=zY (HB.alloc HB.size (.cells #[.slice (some ⟨b,o,none⟩) n c] 59));clear hno hT hdn Hx2 Hx h3 hx0 hr hrl h1 h2 hi h hn;by_cases hcn:c=n;{
 have hcp:(c=n)=True:=eq_true hcn;have HE:=zY (HE.out hcn);clear hcn;go_wp2_with (at_builtin;refine append_seq (w0:=w) Tryz.elemGrP rfl _ _ rfl rfl HO1.out rfl HX1.out Hl1.out HB1.out ?_;intro vb w6 hob _ hbb;have KV:=zY hob;have KC:=zY hbb;clear hob hbb);go_roundw;case rel=>exact⟨i+1,Hni.out,HE.out _,HLo.out _ _,by rw[HF.out];exact KV.out,KC.out⟩
 case measure=>exact Hms.out};{
 have hcp:(c=n)=False:=eq_false hcn;clear hcn;go_wp2_with (at_builtin;refine append_seq (w0:=w) Tryz.elemGrP rfl _ _ rfl rfl HO1.out rfl HX1.out Hl1.out HB1.out ?_;intro vb w6 hob _ hbb;have KV:=zY hob;have KC:=zY hbb;clear hob hbb);go_roundw;case rel=>exact⟨i+1,Hni.out,HD.out,HLo2.out _ _ _,by rw[HF.out];exact KV.out,KC.out⟩
 case measure=>exact Hms.out}};{
 obtain⟨A,c,rfl,_,_,_⟩:=hx;have hz:(l.drop (k*i)).length=0:=by rw[List.length_drop];omega
 rw[hz];have HF:=zY (chks_end (l:=l) hk.1 (by omega) hi);clear hz;generalize hno:(chkF k l i).length=no at *;clear hno h hi;go_wp2;go_ret;exact⟨⟨_,rfl,by rw[<-HF.out];exact HO.out⟩,HB.out⟩}
theorem prt_cut {s:ByteArray} (h:prtL (bs s)=true) (i j:Nat):prtL (bs (s.extract i j))=true:=by
 rw[prtL,List.all_eq_true]at h⊢;intro b hb;rw[bs_extract]at hb;exact h b (List.mem_of_mem_take (List.mem_of_mem_drop hb))
theorem prt_pad {s:ByteArray} (h:prtL (bs s)=true):prtL (bs (padS s))=true:=by
 rw[prtL,List.all_eq_true]at h⊢;intro b hb;have e:bs (padS s)=bs s++List.replicate (64*plnT s-s.size) 32:=by{
 have:=strB_cat (bs s) (List.replicate (64*plnT s-s.size) 32);rw[strB_bs]at this;rw[padS,this,bs_strB];intro c hc;rcases List.mem_append.1 hc with h1|h1;{
 obtain⟨d,_,rfl⟩:=List.mem_map.1 h1;exact UInt8.toNat_lt d};{rw[(List.mem_replicate.1 h1).2];omega}};rw[e]at hb;rcases List.mem_append.1 hb with h1|h1;{exact h b h1};{rw[(List.mem_replicate.1 h1).2];decide}
theorem plnAt_ok {a i:Nat} {s:ByteArray} (ha:a<4294967296) (hs:splitE s=0) (hi:i<plnT s):PlnOk a i (plnT s) (plnAt a s i).x:=by
 unfold splitE at hs;split at hs;{cases hs};{
 next h1=>
 split at hs;{cases hs};{
 next h2=>
 have h3:prtL (bs s)=true:=by{
 cases h:prtL (bs s)with
 |true=>rfl
 |false=>exact absurd h h2};refine⟨ha,hi,by unfold plnT;omega,?_,prt_cut (prt_pad h3) _ _⟩;rw[plnAt,ByteArray.size_extract,padS_size];omega}}
def plCells (g:List Pln):List Nat:=g.flatMap fun p=>plnL p.a p.i p.t p.x
theorem plCells_snoc (g:List Pln) (p:Pln):plCells (g++[p])=plCells g++plnL p.a p.i p.t p.x:=by simp[plCells]
def stripsT (a:Nat) (s:ByteArray):List ByteArray:=(chks 4 (plnsL a s)).map fun g=>strB (plCells g)
def stripR (a:Nat) (s:ByteArray):List ByteArray:=if splitE s=0 then stripsT a s else []
theorem chks_mem {α:Type} {k:Nat} {l g:List α} (h:g∈chks k l):(∀x∈g,x∈l)/\g.length<=k:=by
 obtain⟨j,_,rfl⟩:=List.mem_map.1 h;exact⟨fun x hx=>List.mem_of_mem_drop (List.mem_of_mem_take hx),by rw[List.length_take];omega⟩
theorem plnL_len {a i t:Nat} {x:ByteArray} (h:PlnOk a i t x):(plnL a i t x).length<=8000:=by
 rw[plnL,List.length_append,frmB_len];have:=sealL_len (textL_len h);show 16+_<=_;omega
theorem plnL_01 (a i t:Nat) (x:ByteArray):B01 (plnL a i t x):=by
 intro c hc;rcases List.mem_append.1 hc with h|h;{
 simp only[markP,List.mem_cons,List.not_mem_nil,or_false]at h;omega};{exact frmB_01 _ c h}
theorem plCells_bytes (g:List Pln):Bytes (plCells g):=fun c hc=>by
 obtain⟨p,_,h⟩:=List.mem_flatMap.1 hc
 exact b01_bytes (plnL_01 _ _ _ _) c h
theorem plCells_len {g:List Pln} (h:∀p∈g,PlnOk p.a p.i p.t p.x):(plCells g).length<=8000*g.length:=by
 induction g with
 |nil=>simp[plCells]
 |cons p r ih=>
 have h1:=ih fun q hq=>h q (List.mem_cons_of_mem _ hq);have h2:=plnL_len (h p List.mem_cons_self);show (plnL p.a p.i p.t p.x++plCells r).length<=_;rw[List.length_append,List.length_cons,Nat.mul_add];omega
theorem volstrips_any (w:World) (a:Nat) (d s:Int) (v:Value) (hv:v.oneCell'=true) (x:ByteArray) (ha:a<4294967296) (hx:x.size<=1000000) (hT:Tab w):Calls prog 46 #[.agg #[.int .u32 (a:Int),.int .i64 d,.int .i64 s,v],.string x] w fun e w'=>(∃vf,e=.returned (.tuple #[vf,.int .i64 (splitE x)])/\OwnSeq strS 9 w w' vf (stripR a x))/\Below w.heap.size w w':=by
 have HT:=zY hT;have HS:=zY (fun W=>plsplit_any W x a hx);obtain⟨E,hE⟩:=zNm (splitE x);rw[hE]at HS⊢;have hK:=Blk.new w 28 [.int .u32 (a:Int),.int .i64 d,.int .i64 s,v];have HK:Hid (Blk (w.alloc (.cells #[.int .u32 (a:Int),.int .i64 d,.int .i64 s,v] 28)) w.heap.size 28 [.int .u32 (a:Int),.int .i64 d,.int .i64 s,v]):=zY hK;have HB0:=zY (zBl w (.cells #[.int .u32 (a:Int),.int .i64 d,.int .i64 s,v] 28));have HE:=zY hE;clear hT hK hE;go_enter func46,ntmps46;go_upto_region 1 with fail;generalize w.alloc (.cells #[.int .u32 (a:Int),.int .i64 d,.int .i64 s,v] 28)=wa at *;have c0:=HK.c 0;go_wp2_with fail;refine(HS.out _).mono ?_;rintro e1 w1 ⟨⟨vl,rfl,hl⟩,hb1⟩;have HB1:=zYt HB0 hb1;have HL:=zY (hl.atF flatP hb1.size);obtain⟨Al,cl,rfl⟩:=hl.slice;clear hl hb1 c0 HK HB0 HS;by_cases h0:E=0;{
 subst h0;have HR:Hid (stripR a x=stripsT a x):=zY (by rw[stripR,if_pos HE.out]);have HSp:Hid (splitR a x=plnsL a x):=zY (by rw[splitR,if_pos HE.out]);rw[HSp.out]at HL⊢;have hll:(plnsL a x).length<=20000:=by{
 have h1:(plnsL a x).length=plnT x:=by simp[plnsL]
 rw[h1];unfold plnT;omega};have HOk:Hid (∀p∈plnsL a x,PlnOk p.a p.i p.t p.x):=zY (fun p hp=>by
  obtain⟨i,hi,rfl⟩:=List.mem_map.1 hp
  exact plnAt_ok ha HE.out (List.mem_range.1 hi));have HG:=zY (groupsP_any w1 _ (plnsL a x) 4 (by omega) HL.out 0 (fun _ _ _ _ _=>Nat.zero_le _) (by omega));have hml:(chks 4 (plnsL a x)).length<=20000:=by rw[chks,chkF_len];omega
 have HC4:Hid (∀g∈chks 4 (plnsL a x),(∀p∈g,PlnOk p.a p.i p.t p.x)/\g.length<=4):=zY (fun g hg=>⟨fun p hp=>HOk.out p ((chks_mem hg).1 p hp),(chks_mem hg).2⟩);have HSt:Hid (stripsT a x=(chks 4 (plnsL a x)).map fun g=>strB (plCells g)):=zY rfl;generalize chks 4 (plnsL a x)=G at *;generalize (plnsL a x).length=nl at *;obtain⟨m,hm⟩:=zNm (G.length);have Hm:=zY hm;rw[hm]at hml;clear hll hm HL HOk HSp;go_upto_region 5 with fail;go_wp2_with fail;refine HG.mono ?_;rintro e2 w2 ⟨⟨vg,rfl,hg⟩,hb2⟩;have HB2:=zYt HB1 hb2;have HGa:Hid (SeqAt (rowO plnS 0) w2 vg G):=zY ((hg.at hb2));obtain⟨Ag,cg,rfl⟩:=hg.slice;have HT2:=zY (HT.below HB2.out);rw[Hm.out];rw[Hm.out]at HGa;clear hg hb2 HG HT HB1;go_wp2;go_loopw [8,29] (fun y z wr=>∃i:Nat,i<=m/\z=.int .i64 (i:Int)/\OwnSeq strS 9 w2 wr y ((stripsT a x).take i)/\Below w2.heap.size w2 wr) (fun _ z _=>m-(intOf z).toNat);case atStart=>exact⟨0,by omega,rfl,OwnSeq.nil _,Below.refl _ _⟩
 case round=>
 obtain⟨i,hi,rfl,ho,hB⟩:=hrel;obtain⟨wq,rfl⟩:∃z,z=wr:=⟨_,rfl⟩;have HO:=zY ho;have HB:=zY hB;obtain⟨Ao,co,rfl⟩:=ho.slice;clear ho hB;generalize hno:((stripsT a x).take i).length=no at *;have Hno:=zY hno;clear hno;by_cases h:i<m;{
 have hiI:(i:Int)<m:=by omega
 obtain⟨g,hg⟩:∃g,G[i]?=some g:=⟨_,List.getElem?_eq_getElem (by rw[Hm.out];exact h)⟩;obtain⟨_,_,e9,_,_,h4⟩:=HGa.below HB.out;cases e9;obtain⟨b,o,cs,rfl,⟨vi,rfl,hvi,_⟩,hc⟩:=h4 i g hg;have k0:wq.cell? ⟨b,o+i,none⟩=some vi:=by have:=hc 0 _ rfl;rwa [show o+i*(rowO plnS 0).n+0=o+i by show o+i*1+0=o+i;omega]at this
 have HVi:=zY hvi;obtain⟨Ai,ci,rfl,_,_⟩:=hvi.slice;obtain⟨hok,hg4⟩:=HC4.out g (List.mem_of_getElem? hg);have Hok:=zY hok;have HF:Hid ((stripsT a x).take (i+1)=(stripsT a x).take i++[strB (plCells g)]):=zY (by
  rw[HSt.out,List.take_add_one,List.getElem?_map,hg]
  rfl);have Hl1:Hid (((stripsT a x).take i).length+1<=100000000):=zY (by rw[List.length_take];omega);obtain⟨gl,hgl⟩:=zNm (g.length);rw[hgl]at hg4 k0 HVi;have Hgl:=zY hgl;clear hc h4 hg hvi hok hgl;go_upto_region 9 with fail;have HBl0:Hid (Bld (wq.alloc (.cells #[.pointer none,.slice none 0 0] 135)) wq.heap.size wq.heap.size (plCells (g.take 0))):=zY (Bld.new wq);have HBq0:=zY (zBl wq (.cells #[.pointer none,.slice none 0 0] 135));clear k0;go_wp2;go_loopw [35] (fun z wr=>∃k:Nat,k<=gl/\z=.int .i64 (k:Int)/\Bld wr wq.heap.size wq.heap.size (plCells (g.take k))/\Below wq.heap.size wq wr) (fun z _=>gl-(intOf z).toNat);case atStart=>exact⟨0,by omega,rfl,HBl0.out,HBq0.out⟩
 case round=>
 obtain⟨k,hk,rfl,hbl,hBr⟩:=hrel;have HBl:=zY hbl;have HBr:=zY hBr;clear hbl hBr HBl0 HBq0;by_cases h':k<gl;{
 have hkI:(k:Int)<gl:=by omega
 obtain⟨p,hp⟩:∃p,g[k]?=some p:=⟨_,List.getElem?_eq_getElem (by rw[Hgl.out];exact h')⟩;have hpo:=Hok.out p (List.mem_of_getElem? hp);obtain⟨_,_,e9,_,_,h5⟩:=HVi.below HBr.out;cases e9;obtain⟨b2,o2,_,rfl,rfl,h6⟩:=h5 k p hp;have h6':∀j u,p.cells[j]?=some u->wr.cell? ⟨b2,o2+k*4+j,none⟩=some u:=h6;have HTs:Hid (plCells (g.take (k+1))=plCells (g.take k)++plnL p.a p.i p.t p.x):=zY (by rw[List.take_add_one,hp];exact plCells_snoc _ _);have hln:(plCells (g.take k)).length<=40000:=by have h1:=plCells_len (g:=g.take k) fun q hq=>Hok.out q (List.mem_of_mem_take hq);rw[List.length_take]at h1;omega
 have hCz:(strB (plnL p.a p.i p.t p.x)).size<=1000000:=by rw[strB_size];have:=plnL_len hpo;omega
 have HCb:Hid (bs (strB (plnL p.a p.i p.t p.x))=plnL p.a p.i p.t p.x):=zY (bs_strB (b01_bytes (plnL_01 _ _ _ _)));have HEn:=zY (fun(W:World) (hW:Below w2.heap.size w2 W)=>plenc_ok W p.a p.i p.t p.x hpo (HT2.below hW));have c0:=h6' 0 _ rfl;have c1:=h6' 1 _ rfl;have c2:=h6' 2 _ rfl;have c3:=h6' 3 _ rfl;rw[Nat.add_zero]at c0;obtain⟨pa,pi,pt,px⟩:=p;dsimp only at c0 c1 c2 c3 HEn HTs hCz HCb;have Hln:=zY hln;have HCz:=zY hCz;clear h5 h6 h6' hp hpo hln hCz;go_upto_region 12 with fail;have HZ:Hid (Blk (wr.alloc (.cells #[.int .u32 (pa:Int),.int .i64 (pi:Int),.int .i64 (pt:Int),.string px] 124)) wr.heap.size 124 [.int .u32 (pa:Int),.int .i64 (pi:Int),.int .i64 (pt:Int),.string px]):=zY (Blk.new wr 124 [.int .u32 (pa:Int),.int .i64 (pi:Int),.int .i64 (pt:Int),.string px]);have HBl1:=zY (HBl.alloc (.cells #[.int .u32 (pa:Int),.int .i64 (pi:Int),.int .i64 (pt:Int),.string px] 124));have HBr1:=zY (HBr.alloc HBr.size (.cells #[.int .u32 (pa:Int),.int .i64 (pi:Int),.int .i64 (pt:Int),.string px] 124));generalize wr.alloc (.cells #[.int .u32 (pa:Int),.int .i64 (pi:Int),.int .i64 (pt:Int),.string px] 124)=wz at *;have z0:=HZ.c 0;have z1:=HZ.c 1;have z2:=HZ.c 2;have z3:=HZ.c 3;clear c0 c1 c2 c3 HBl HBr;go_wp2_with fail;refine(HEn.out _ (HB.trans (HBr1.mono HB.size))).mono ?_;rintro e3 w3 ⟨rfl,hb3⟩;have HBl3:=zY (HBl1.below hb3);have HBr3:=zYt HBr1 hb3;have HWs:=zY (ws_any w3 wq.heap.size wq.heap.size _ (strB (plnL pa pi pt px)) HBl3.out (by have:=Hln.out;omega) HCz.out HBr3.size);rw[HCb.out]at HWs;clear hb3 z0 z1 z2 z3 HZ HBl1 HBr1 HEn;generalize strB (plnL pa pi pt px)=C at *
 go_wp2_with fail;refine HWs.mono ?_;rintro e4 w4 ⟨rfl,hbl4,hb4⟩;have HBl4:=zY hbl4;have HBr4:=zY (HBr3.trans hb4);clear hbl4 hb4;go_wp2;go_roundw;case rel=>exact⟨k+1,by omega,by go_num,by rw[HTs.out];exact HBl4.out,HBr4.out⟩
 case measure=>simp[intOf];omega};{
 obtain rfl:k=gl:=by omega
 have hkI:¬((k:Nat):Int)<(k:Int):=by omega
 have hall:g.take k=g:=List.take_of_length_le (by rw[Hgl.out];exact Nat.le_refl _);rw[hall]at HBl;have HSt:=zY (str_any wr wq.heap.size wq.heap.size _ (plCells_bytes g) HBl.out HBr.size);obtain⟨C,hC⟩:=zNm (strB (plCells g));rw[hC]at HF HSt;clear hall hC HBl;go_wp2_with fail;refine HSt.mono ?_;rintro e5 w5 ⟨rfl,_,hb5⟩;have HB5q:=zY (HBr.trans hb5);have HB5:=zY (HB.trans (HB5q.mono HB.size));have HO5:=zY (HO.below HB5q.out);have HO6:=zY (HO5.alloc (.cells #[.string C] 9));have HB6:=zY (HB5.alloc HB5.size (.cells #[.string C] 9));have HX6:Hid (SrcAt strS w2 (w5.alloc (.cells #[.string C] 9)) (.slice (some ⟨w5.heap.size,0,none⟩) 1 1) [C]):=zY (src1 (ρ:=strS) (wr:=w5) [.string C] C rfl rfl);clear hb5 HBr HB5q;go_wp2_with (at_builtin;refine append_seq (ρ:=strS) (w0:=w2) Tryz.elemStr rfl _ _ rfl rfl HO6.out rfl HX6.out Hl1.out HB6.out ?_;intro vb w6 hob _ hbb;have KV:=zY hob;have KC:=zY hbb;clear hob hbb);go_roundw;case rel=>exact⟨i+1,by omega,by go_num,by rw[HF.out];exact KV.out,KC.out⟩
 case measure=>simp[intOf];omega}};{
 obtain rfl:i=m:=by omega
 have hiI:¬((i:Nat):Int)<(i:Int):=by omega
 have hall:(stripsT a x).take i=stripsT a x:=List.take_of_length_le (by rw[HSt.out,List.length_map,Hm.out];exact Nat.le_refl _);rw[hall]at HO;clear hall;go_wp2;go_ret2;exact⟨⟨_,rfl,by rw[HR.out];exact HO.low flatS HB2.size⟩,HB2.trans (HB.mono HB2.size)⟩}};{
 have h0b:(E==0)=false:=by rw[beq_eq_false_iff_ne];exact h0
 have HR:Hid (stripR a x=[]):=zY (by rw[stripR,if_neg (by rw[HE.out];exact h0)]);go_wp2;go_ret2;exact⟨⟨_,rfl,by rw[HR.out];exact OwnSeq.nil _⟩,HB1.out⟩}
theorem fenc1_any (w:World) (s:ByteArray) (hs:s.size=44):Calls prog 252 #[.string s] w fun e w'=>e=.returned (.string (strB (rsEnc (bs s))))/\Below w.heap.size w w':=by
 have H:=zY (rsencode_any w s hs);clear hs;go_enter func252,ntmps252;go_wp2_with (go_at_call 253;refine H.mono ?_;rintro e w' ⟨rfl,hb⟩);go_ret;exact⟨rfl,hb⟩
theorem fenc2_any (w:World) (s:ByteArray) (u:List Nat) (hs:bs s=bitsS u) (hu:Bits u) (hz:s.size=416):Calls prog 254 #[.string s] w fun e w'=>e=.returned (.string (strB (cenc 0 (u++[0,0]))))/\Below w.heap.size w w':=by
 have H:=zY (venc_any w s u hs hu hz);clear hs hu hz;go_enter func254,ntmps254;go_wp2_with (go_at_call 255;refine H.mono ?_;rintro e w' ⟨rfl,hb⟩);go_ret;exact⟨rfl,hb⟩
theorem fenc3_any (w:World) (s:ByteArray) (hs:s.size=836):Calls prog 256 #[.string s] w fun e w'=>e=.returned (.string (strB (interL (bs s))))/\Below w.heap.size w w':=by
 have H:=zY (inter_any w s hs);clear hs;go_enter func256,ntmps256;go_wp2_with (go_at_call 257;refine H.mono ?_;rintro e w' ⟨rfl,hb⟩);go_ret;exact⟨rfl,hb⟩
abbrev fnV (f:Nat):Value:=.func (.func f) #[] #[]
theorem fencs_any (w:World):Calls prog 171 #[] w fun e w'=>e=.returned (.slice (some ⟨w.heap.size,0,none⟩) 4 4)/\w.alloc (.cells #[fnV 252,fnV 168,fnV 254,fnV 256] 113)=w':=by
 go_enter func171,ntmps171;go_wp2;go_ret;exact⟨rfl,rfl⟩
theorem fenc_any (w:World) (k r s i l d p a:Int) (t:ByteArray) (ht:t.size<=1000) (ha:0<=a/\a<4294967296):
  Calls prog 96 #[frV k r s i l d p a t] w fun e w'=>e=.returned (fencR k r s i l d p a t)/\Below w.heap.size w w':=by
 obtain⟨R,hR⟩:=zNm (fencR k r s i l d p a t);rw[hR];unfold fencR at hR;have HMr:=zY (fun W=>fmar_any W k r s i l d p a t ht ha);have HB:=zY (zBl w (.cells #[.int .i64 k,.int .i64 r,.int .i64 s,.int .i64 i,.int .i64 l,.int .i64 d,.int .i64 p,.int .u32 a,.string t] 49));have HZ:=zY (Box9.blk (Blk.new w 49 [.int .i64 k,.int .i64 r,.int .i64 s,.int .i64 i,.int .i64 l,.int .i64 d,.int .i64 p,.int .u32 a,.string t]));change Hid (Box9 (w.alloc (.cells #[.int .i64 k,.int .i64 r,.int .i64 s,.int .i64 i,.int .i64 l,.int .i64 d,.int .i64 p,.int .u32 a,.string t] 49)) _ _ _ _ _ _ _ _ _ _)at HZ;unfold marR at HMr;by_cases h0:frE k r s i l d p t=0;{
 rw[if_neg (by simpa using h0)]at hR HMr;have hmb:Bytes (marL k.toNat r.toNat s.toNat i.toNat l.toNat d.toNat p.toNat a.toNat t)/\(marL k.toNat r.toNat s.toNat i.toNat l.toNat d.toNat p.toNat a.toNat t).length=44:=by{
 obtain⟨h1,h2,h3,h4,h5,h6,h7,h8⟩:=frE_ok h0;have e:frE (k.toNat:Int) (r.toNat:Int) (s.toNat:Int) (i.toNat:Int) (l.toNat:Int) (d.toNat:Int) (p.toNat:Int) t=0:=by rw[Int.toNat_of_nonneg (by omega),Int.toNat_of_nonneg (by omega),Int.toNat_of_nonneg (by omega),Int.toNat_of_nonneg (by omega),Int.toNat_of_nonneg (by omega),Int.toNat_of_nonneg (by omega),Int.toNat_of_nonneg (by omega)];exact h0
 obtain⟨c,_,_,h9,h10,_,_⟩:=mar_ok (a:=a.toNat) e (by omega);exact⟨h9,h10⟩};obtain⟨m,hm⟩:=zNm (marL k.toNat r.toNat s.toNat i.toNat l.toNat d.toNat p.toNat a.toNat t);rw[hm]at hR HMr hmb;obtain⟨hmB,hml⟩:=hmb;obtain⟨hwl,hwB⟩:=rsEnc_ok hmB hml;have H1:Hid (∀W:World,Calls prog 252 #[.string (stepS m 0)] W fun e w'=>e=.returned (.string (stepS m 1))/\Below W.heap.size W w'):=zY (fun W=>by
  have h:=fenc1_any W (strB m) (by rw[strB_size,hml])
  rw[bs_strB hmB]at h
  exact h);have H2:Hid (∀W:World,Calls prog 168 #[.string (stepS m 1)] W fun e w'=>e=.returned (.string (stepS m 2))/\Below W.heap.size W w'):=zY (fun W=>by
  have h:=cfrom_any W (strB (rsEnc m)) (by rw[strB_size,hwl];omega)
  rw[bs_strB hwB]at h
  exact h);have H3:Hid (∀W:World,Calls prog 254 #[.string (stepS m 2)] W fun e w'=>e=.returned (.string (stepS m 3))/\Below W.heap.size W w'):=zY (fun W=>
  fenc2_any W (strB (frmB (rsEnc m))) (bitU (rsEnc m)) (by rw[bitsS_bitU,bs_strB];intro x hx;rcases frmB_01 _ x hx with rfl|rfl<;>decide) (bitU_bits _) (by rw[strB_size,frmB_len,hwl]));have H4:Hid (∀W:World,Calls prog 256 #[.string (stepS m 3)] W fun e w'=>e=.returned (.string (stepS m 4))/\Below W.heap.size W w'):=zY (fun W=>by
  have h:=fenc3_any W (strB (cellL m)) (by rw[strB_size,cellL_len hmB hml])
  rw[bs_strB (fun x hx=>by rcases cellL_01 m x hx with rfl|rfl<;>decide)]at h
  exact h);have z4:(stepS m 4).size=836:=by show (strB (bodyL m)).size=_;rw[strB_size,bodyL_len]
 have zk:markS.size=16:=by decide
 have hap:∀x y:ByteArray,(x++y).size=x.size+y.size:=fun x y=>ByteArray.size_append;have HR:Hid (Value.tuple #[.string (markS++stepS m 4),.int .i64 0]=R):=zY hR;have HMr2:Hid (∀W:World,Calls prog 170 #[frV k r s i l d p a t] W fun e w'=>e=.returned (.tuple #[.string (stepS m 0),.int .i64 0])/\Below W.heap.size W w'):=zY HMr.out;clear hR h0 hm hmB hml hwl hwB HMr ht ha;have HK:Hid (∀W:World,Calls prog 172 #[] W fun e w'=>e=.returned (.string markS)/\W=w'):=zY (fun W=>mark_any W);generalize hS:stepS m=S at *;clear hS;generalize markS=K at *;unfold frV at HMr2⊢;go_enter func96,ntmps96;go_upto_region 1 with fail;generalize w.alloc (.cells #[.int .i64 k,.int .i64 r,.int .i64 s,.int .i64 i,.int .i64 l,.int .i64 d,.int .i64 p,.int .u32 a,.string t] 49)=wz at *;obtain⟨c0,c1,c2,c3,c4,c5,c6,c7,c8⟩:=HZ.out;go_upto_region 5 with(first|(go_at_call 170;refine(HMr2.out _).mono ?_;rintro e w1 ⟨rfl,hb1⟩)|(go_at_call 171;refine(fencs_any _).mono ?_;rintro e w2 ⟨rfl,rfl⟩))
 have hA:Below w1.heap.size w1 (w1.alloc (.cells #[fnV 252,fnV 168,fnV 254,fnV 256] 113)):=(Below.refl _ _).alloc (Nat.le_refl _) _;have HB1:=zY (HB.trans ((hb1.trans (hA.mono hb1.size)).mono HB.size));have HF0:=zY (Blk.new w1 113 [fnV 252,fnV 168,fnV 254,fnV 256]);change Hid (Blk (w1.alloc (.cells #[fnV 252,fnV 168,fnV 254,fnV 256] 113)) _ _ _)at HF0;clear hb1 hA HZ HB HMr2 c0 c1 c2 c3 c4 c5 c6 c7 c8;generalize w1.alloc (.cells #[fnV 252,fnV 168,fnV 254,fnV 256] 113)=w2 at *;generalize w1.heap.size=g at *;go_loopw [4,18] (fun v x wr=>∃i:Nat,i<=4/\x=.int .i64 (i:Int)/\v=.string (S i)/\Blk wr g 113 [fnV 252,fnV 168,fnV 254,fnV 256]/\Below w.heap.size w wr) (fun _ x _=>4-(intOf x).toNat);case atStart=>exact⟨0,by omega,rfl,rfl,HF0.out,HB1.out⟩
 case round=>
 obtain⟨i,hi,rfl,rfl,hf,hbw⟩:=hrel;have HF:=zY hf;have HBw:=zY hbw;clear HF0 HB1;rcases (by omega:i=0∨i=1∨i=2∨i=3∨i=4)with rfl|rfl|rfl|rfl|rfl;{
 have c0:=hf.c 0;clear hf hbw;go_wp2_with (go_at_call 252;refine(H1.out _).mono ?_;rintro e w2 ⟨rfl,hb2⟩);go_roundw;case rel=>exact⟨1,by omega,rfl,rfl,HF.kept hb2,HBw.trans (hb2.mono HBw.size)⟩
 case measure=>simp[intOf]};{
 have c1:=hf.c 1;clear hf hbw;go_wp2_with (go_at_call 168;refine(H2.out _).mono ?_;rintro e w2 ⟨rfl,hb2⟩);go_roundw;case rel=>exact⟨2,by omega,rfl,rfl,HF.kept hb2,HBw.trans (hb2.mono HBw.size)⟩
 case measure=>simp[intOf]};{
 have c2:=hf.c 2;clear hf hbw;go_wp2_with (go_at_call 254;refine(H3.out _).mono ?_;rintro e w2 ⟨rfl,hb2⟩);go_roundw;case rel=>exact⟨3,by omega,rfl,rfl,HF.kept hb2,HBw.trans (hb2.mono HBw.size)⟩
 case measure=>simp[intOf]};{
 have c3:=hf.c 3;clear hf hbw;go_wp2_with (go_at_call 256;refine(H4.out _).mono ?_;rintro e w2 ⟨rfl,hb2⟩);go_roundw;case rel=>exact⟨4,by omega,rfl,rfl,HF.kept hb2,HBw.trans (hb2.mono HBw.size)⟩
 case measure=>simp[intOf]};{
 clear hf hbw;go_wp2_with (go_at_call 172;refine(HK.out _).mono ?_;rintro e w2 ⟨rfl,rfl⟩);rw[<-HR.out];exact bodyPost_ret (v:=.tuple #[.string (K++S 4),.int .i64 0]) (by simp[results,results96,go_sem]) rfl ⟨rfl,HBw.out⟩}};{
 have h1:(frE k r s i l d p t != 0)=true:=by simpa using h0
 rw[if_pos h0]at hR HMr;obtain⟨E,hE⟩:=zNm (frE k r s i l d p t);rw[hE]at hR HMr h1;have HR:=zY hR;clear hR h0 hE ht ha;unfold frV at HMr⊢;go_enter func96,ntmps96;go_upto_region 1 with fail;generalize w.alloc (.cells #[.int .i64 k,.int .i64 r,.int .i64 s,.int .i64 i,.int .i64 l,.int .i64 d,.int .i64 p,.int .u32 a,.string t] 49)=wz at *;obtain⟨c0,c1,c2,c3,c4,c5,c6,c7,c8⟩:=HZ.out;go_wp2_with (go_at_call 170;refine(HMr.out _).mono ?_;rintro e w1 ⟨rfl,hb1⟩);rw[<-HR.out];exact bodyPost_ret (v:=.tuple #[.string ⟨#[]⟩,.int .i64 E]) (by simp[results,results96,go_sem]) rfl ⟨rfl,HB.trans (hb1.mono HB.size)⟩}
def FrmOk (f:Frm):Prop:=frE f.k f.r f.s f.i f.l f.d f.p f.t=0/\0<=f.a/\f.a<4294967296
def frmM (f:Frm):List Nat:=marL f.k.toNat f.r.toNat f.s.toNat f.i.toNat f.l.toNat f.d.toNat f.p.toNat f.a.toNat f.t
def celsL (fs:List Frm):List Nat:=flatCl (fs.map frmM)
theorem frmM_ok {f:Frm} (h:FrmOk f):Bytes (frmM f)/\(frmM f).length=44/\fencR f.k f.r f.s f.i f.l f.d f.p f.a f.t=.tuple #[.string (strB (markL++bodyL (frmM f))),.int .i64 0]:=by
 obtain⟨h',ha⟩:=h;have h3:fencR f.k f.r f.s f.i f.l f.d f.p f.a f.t=.tuple #[.string (markS++strB (bodyL (frmM f))),.int .i64 0]:=by unfold fencR frmM;rw[if_neg (by simpa using h')]
 rw[mark_cat]at h3;have hm:Bytes (frmM f)/\(frmM f).length=44:=by obtain⟨k,r,s,i,l,d,p,a,t⟩:=f;have h':frE k r s i l d p t=0:=h';have ha':0<=a/\a<4294967296:=ha;obtain⟨g1,g2,g3,g4,g5,g6,g7,g8⟩:=frE_ok h';obtain⟨k,rfl⟩:∃n:Nat,k=n:=⟨k.toNat,by omega⟩;obtain⟨r,rfl⟩:∃n:Nat,r=n:=⟨r.toNat,by omega⟩;obtain⟨s,rfl⟩:∃n:Nat,s=n:=⟨s.toNat,by omega⟩;obtain⟨i,rfl⟩:∃n:Nat,i=n:=⟨i.toNat,by omega⟩;obtain⟨l,rfl⟩:∃n:Nat,l=n:=⟨l.toNat,by omega⟩;obtain⟨d,rfl⟩:∃n:Nat,d=n:=⟨d.toNat,by omega⟩;obtain⟨p,rfl⟩:∃n:Nat,p=n:=⟨p.toNat,by omega⟩;obtain⟨a,rfl⟩:∃n:Nat,a=n:=⟨a.toNat,by omega⟩;obtain⟨_,_,_,hb,hl,_,_⟩:=mar_ok h' (by omega:a<4294967296);exact⟨hb,hl⟩
 exact⟨hm.1,hm.2,h3⟩
theorem celsL_len (fs:List Frm):(celsL fs).length=852*fs.length:=by rw[celsL,flatC_len,List.length_map]
theorem celsL_snoc (fs:List Frm) (f:Frm):celsL (fs++[f])=celsL fs++(markL++bodyL (frmM f)):=by
 rw[celsL,List.map_append,flatC_app];show flatCl _++((markL++bodyL (frmM f))++[])=_;rw[List.append_nil];rfl
theorem celsL_bytes {fs:List Frm} (h:∀f∈fs,FrmOk f):Bytes (celsL fs):=flatC_bytes fun m hm=>by
 obtain⟨f,hf,rfl⟩:=List.mem_map.1 hm
 exact⟨(frmM_ok (h f hf)).1,(frmM_ok (h f hf)).2.1⟩
theorem scjoin_ok (w:World) (v:Value) (fs:List Frm) (hv:SeqAt frmS w v fs) (hl:fs.length<=100) (ha:∀f∈fs,FrmOk f):
  Calls prog 48 #[v] w fun e w'=>e=.returned (.tuple #[.string (strB (celsL fs)),.int .i64 0])/\Below w.heap.size w w':=by
 have Hv:=zY hv;have Ha:=zY ha;have Hby:=zY (celsL_bytes ha);obtain⟨A,c,rfl,h1,h2,h3⟩:=hv;have HK0:Hid (Bld (w.alloc (.cells #[.pointer none,.slice none 0 0] 135)) w.heap.size w.heap.size (celsL (fs.take 0))):=zY (Bld.new w);have HB0:=zY (zBl w (.cells #[.pointer none,.slice none 0 0] 135));clear h3 ha;obtain⟨R,hR⟩:=zNm (strB (celsL fs));rw[hR];have HR:=zY hR;clear hR;go_enter func48,ntmps48;go_wp2;go_loopw [11] (fun x wr=>∃k:Nat,k<=fs.length/\x=.int .i64 (k:Int)/\Bld wr w.heap.size w.heap.size (celsL (fs.take k))/\Below w.heap.size w wr) (fun x _=>fs.length-(intOf x).toNat);case atStart=>exact⟨0,by omega,rfl,HK0.out,HB0.out⟩
 case round=>
 obtain⟨k,hk,rfl,hbl,hB⟩:=hrel;have Hbl:=zY hbl;have HBr:=zY hB;clear hbl hB HK0 HB0;by_cases h:k<fs.length;{
 have hkI:(k:Int)<fs.length:=by omega
 obtain⟨f,hf⟩:∃f,fs[k]?=some f:=⟨_,List.getElem?_eq_getElem h⟩;have hok:=Ha.out f (List.mem_of_getElem? hf);obtain⟨hm1,hm2,hm3⟩:=frmM_ok hok;obtain⟨_,_,e9,_,_,h4⟩:=Hv.below HBr.out;cases e9;obtain⟨b,o,_,rfl,rfl,h5⟩:=h4 k f hf;have h28:=(frE_ok hok.1).2.2.2.2.2.2.2;have HE:=zY (fun W=>fenc_any W f.k f.r f.s f.i f.l f.d f.p f.a f.t (by omega) hok.2);rw[hm3]at HE;obtain⟨C,hC⟩:=zNm (strB (markL++bodyL (frmM f)));rw[hC]at HE;have HCb:Hid (bs C=markL++bodyL (frmM f)):=zY (by rw[<-hC,bs_strB (bytes_app (b01_bytes markL_01) (bodyL_bytes hm1 hm2))]);have hCz:C.size<=1000000:=by rw[<-hC,strB_size,List.length_append,markL_len,bodyL_len];omega
 have HTs:Hid (celsL (fs.take (k+1))=celsL (fs.take k)++bs C):=zY (by rw[List.take_add_one,hf,HCb.out,<-celsL_snoc];rfl);clear hm1 hm2 hm3 hok hC HCb h28;have h5':∀j u,f.cells[j]?=some u->wr.cell? ⟨b,o+k*9+j,none⟩=some u:=h5;obtain⟨k0,r0,s0,i0,l0,d0,p0,a0,t0⟩:=f;have c0:=h5' 0 _ rfl;have c1:=h5' 1 _ rfl;have c2:=h5' 2 _ rfl;have c3:=h5' 3 _ rfl;have c4:=h5' 4 _ rfl;have c5:=h5' 5 _ rfl;have c6:=h5' 6 _ rfl;have c7:=h5' 7 _ rfl;have c8:=h5' 8 _ rfl;dsimp only at c0 c1 c2 c3 c4 c5 c6 c7 c8 HE;clear h4 h5 h5' hf;rw[Nat.add_zero]at c0;go_upto_region 5 with fail;have hA:Below wr.heap.size wr (wr.alloc (.cells #[.int .i64 k0,.int .i64 r0,.int .i64 s0,.int .i64 i0,.int .i64 l0,.int .i64 d0,.int .i64 p0,.int .u32 a0,.string t0] 49)):=(Below.refl _ _).alloc (Nat.le_refl _) _;have HZ:=zY (Box9.blk (Blk.new wr 49 [.int .i64 k0,.int .i64 r0,.int .i64 s0,.int .i64 i0,.int .i64 l0,.int .i64 d0,.int .i64 p0,.int .u32 a0,.string t0]));change Hid (Box9 (wr.alloc (.cells #[.int .i64 k0,.int .i64 r0,.int .i64 s0,.int .i64 i0,.int .i64 l0,.int .i64 d0,.int .i64 p0,.int .u32 a0,.string t0] 49)) _ _ _ _ _ _ _ _ _ _)at HZ;have Hbl1:=zY (Bld.moved Hbl.out (fun k o hk _=>(hA.block k (Array.getElem?_eq_some_iff.1 hk).1).trans hk));have HB1:=zYt HBr hA;clear hA Hbl HBr c0 c1 c2 c3 c4 c5 c6 c7 c8;generalize wr.alloc (.cells #[.int .i64 k0,.int .i64 r0,.int .i64 s0,.int .i64 i0,.int .i64 l0,.int .i64 d0,.int .i64 p0,.int .u32 a0,.string t0] 49)=wa at *;obtain⟨c0,c1,c2,c3,c4,c5,c6,c7,c8⟩:=HZ.out;unfold frV at HE;go_upto_region 8 with(go_at_call 96;refine(HE.out _).mono ?_;rintro e w1 ⟨rfl,hb1⟩)
 have HB2:=zYt HB1 hb1;have hbl2:=Bld.moved Hbl1.out (fun k o hk _=>(hb1.block k (Array.getElem?_eq_some_iff.1 hk).1).trans hk);have hln:(celsL (fs.take k)).length<=1000000:=by rw[celsL_len,List.length_take];omega
 have HW:=zY (ws_any w1 w.heap.size w.heap.size _ C hbl2 hln hCz HB2.size);clear hb1 HB1 Hbl1 HZ HE hbl2 c0 c1 c2 c3 c4 c5 c6 c7 c8;go_wp2_with (go_at_call 64;refine HW.mono ?_;rintro e w2 ⟨rfl,hbl3,hb2⟩);go_roundw;case rel=>exact⟨k+1,by omega,by go_num,by rw[HTs.out];exact hbl3,HB2.trans hb2⟩
 case measure=>simp[intOf];omega};{
 obtain rfl:k=fs.length:=by omega
 have hbl:=Hbl.out;rw[List.take_length]at hbl;have HS:=zY (str_any wr w.heap.size w.heap.size _ Hby.out hbl HBr.size);rw[HR.out]at HS;clear hbl;go_wp2_with (go_at_call 65;refine HS.mono ?_;rintro e w1 ⟨rfl,_,hb1⟩);go_ret2;exact⟨rfl,HBr.trans hb1⟩}
theorem frE_zero {k r s i l d p:Int} {t:ByteArray} (hk:k=66∨k=68) (hd:1<=d/\d<=8) (hp:0<=p/\p<=7) (hr:0<=r/\r<=d+p-1) (hs:1<=s/\s<=255) (hi:0<=i/\i<=65535) (hl:0<=l/\l<=28) (ht:t.size=28) (hz:∀j,l.toNat<=j->cf (bs t) j=0):frE k r s i l d p t=0:=by
 have e1:¬((k != 66)&&(k != 68))=true:=by rcases hk with rfl|rfl<;>decide
 have e2:∀{n lo hi:Int},lo<=n/\n<=hi->inR n lo hi=true:=fun h=>by
  unfold inR
  simp[h.1,h.2]
 have e3:padOK l t=true:=by unfold padOK allIn;rw[List.all_eq_true];intro b hb;obtain⟨j,hj,rfl⟩:=List.mem_iff_getElem.1 hb;rw[List.getElem_drop];have h1:=hz (l.toNat+j) (by omega);rw[List.length_drop]at hj;rw[cf,List.getElem?_eq_getElem (by omega)]at h1;rw[show (bs t)[l.toNat+j]=0 from h1];rfl
 unfold frE;rw[if_neg e1,e2 hd,e2 hp,if_neg (by decide),e2 hr,e2 hs,e2 hi,e2 hl,if_neg (by decide),e3,ht,if_neg (by decide)]
theorem fillB_size {p:ByteArray} (h:p.size<=28):(fillB p).size=28:=by
 rw[fillB,ByteArray.size_append,strB_size,List.length_replicate];omega
theorem fillB_cf {p:ByteArray} {j:Nat} (h:p.size<=j):cf (bs (fillB p)) j=0:=by
 have e:bs (fillB p)=bs p++List.replicate (28-p.size) 0:=by{
 have:=strB_cat (bs p) (List.replicate (28-p.size) 0);rw[strB_bs]at this;rw[fillB,this,bs_strB];intro c hc;rcases List.mem_append.1 hc with h1|h1;{
 obtain⟨d,_,rfl⟩:=List.mem_map.1 h1;exact UInt8.toNat_lt d};{rw[(List.mem_replicate.1 h1).2];omega}};rw[e,cf,List.getElem?_append_right (by rw[bs_len];exact h),List.getElem?_replicate];split<;>rfl
theorem blockB_cf (st:ByteArray) (m j:Nat):cf (bs (blockB st m)) j=if j<28 then cf (bs st) (28*m+j) else 0:=by
 rw[blockB,bs_strB (by intro b hb;obtain⟨i,_,rfl⟩:=List.mem_map.1 hb;exact cf_byte st _),cf_map]
theorem rowsL_get {d s:Nat} {st:ByteArray} {i:Nat} (h:i<(rowsL d s st).length):(rowsL d s st).getD i []=datL d st i++sparL (datL d st i) 28 s:=by
 rw[rowsL,List.length_map,stripL,List.length_map,List.length_range]at h;rw[List.getD,rowsL,List.getElem?_map,stripL,List.getElem?_map,List.getElem?_range h];rfl
theorem rowsL_len2 {d s:Nat} {st:ByteArray} (hd:1<=d) (hs:st.size<=1835008):(rowsL d s st).length<=65536:=by
 rw[rowsL,List.length_map,stripL,List.length_map,List.length_range];unfold strN;apply Nat.le_of_lt_succ;rw[Nat.div_lt_iff_lt_mul (by omega)];have h1:28*1<=28*d:=by omega
 have:=Nat.mul_le_mul_left 65536 h1;show _<(65536+1)*(28*d);rw[Nat.add_mul];omega
theorem cell_size {d s r:Nat} {st:ByteArray} {i:Nat} (hr:r<d+s):((datL d st i++sparL (datL d st i) 28 s).getD r ⟨#[]⟩).size=28:=by
 rw[List.getD];by_cases h:r<d;{
 rw[List.getElem?_append_left (by rw[datL_len];exact h),datL,List.getElem?_map,List.getElem?_range h];exact blockB_size _ _};{
 rw[List.getElem?_append_right (by rw[datL_len];omega),datL_len,sparL,List.getElem?_map,List.getElem?_range (by omega)];show (strB _).size=28;rw[strB_size,atE_len]}
theorem cell_data {d s r:Nat} {st:ByteArray} {i:Nat} (h:r<d):(datL d st i++sparL (datL d st i) 28 s).getD r ⟨#[]⟩=blockB st (i*d+r):=by
 rw[List.getD,List.getElem?_append_left (by rw[datL_len];exact h),datL,List.getElem?_map,List.getElem?_range h];rfl
theorem usedF_le (d r i n:Nat):usedF d r i n<=28:=by unfold usedF;split<;>omega
theorem reel_ok {id d s n:Int} {r:Nat} {x:Ses} (hid:0<=id/\id<4294967296) (hd:1<=d/\d<=8) (hs:0<=s/\s<=7) (hr:r<d.toNat+s.toNat) (hn:1<=n/\n<=255) (hp:(partsB (strB (dirL x))).length<=65536) (hst:x.str.size<=1835008):
  ∀f∈reelL id d s n r (partsB (strB (dirL x))) (rowsL d.toNat s.toNat x.str) x.str,FrmOk f:=by
 intro f hf;rcases List.mem_append.1 hf with h|h;{
 obtain⟨i,hi,rfl⟩:=List.mem_map.1 h;have hi2:=List.mem_range.1 hi;have hz:((partsB (strB (dirL x))).getD i ⟨#[]⟩).size<=28:=by rw[List.getD,List.getElem?_eq_getElem hi2];exact partsB_size _ _ (List.getElem_mem hi2)
 generalize (partsB (strB (dirL x))).getD i ⟨#[]⟩=p at *;exact⟨show frE 68 (r:Int) n (i:Int) (p.size:Int) d s (fillB p)=0 from frE_zero (.inr rfl) hd hs (by omega) hn (by omega) (by omega) (fillB_size hz) fun j hj=>fillB_cf (by omega),hid⟩};{
 obtain⟨i,hi,rfl⟩:=List.mem_map.1 h;have hi2:=List.mem_range.1 hi;have hi3:=rowsL_len2 (d:=d.toNat) (s:=s.toNat) (st:=x.str) (by omega) hst;rw[rowsL_get hi2];have hu:=usedF_le d.toNat r i x.str.size;refine⟨show frE 66 (r:Int) n (i:Int) (usedF d.toNat r i x.str.size:Int) d s ((datL d.toNat x.str i++sparL (datL d.toNat x.str i) 28 s.toNat).getD r ⟨#[]⟩)=0 from frE_zero (.inl rfl) hd hs (by omega) hn (by omega) (by omega) (cell_size hr) fun j hj=>?_,hid⟩;by_cases hrd:r<d.toNat;{
 rw[cell_data hrd,blockB_cf];split;{
 apply cf_big;rw[bs_len];have e:usedF d.toNat r i x.str.size=min (x.str.size-(i*d.toNat+r)*28) 28:=by rw[usedF,if_neg (by omega)]
 rw[e]at hj;have:((min (x.str.size-(i*d.toNat+r)*28) 28:Nat):Int).toNat=min (x.str.size-(i*d.toNat+r)*28) 28:=rfl;rw[this]at hj;rw[Nat.mul_comm 28];omega};{rfl}};{
 apply cf_big;have e:usedF d.toNat r i x.str.size=28:=by rw[usedF,if_pos (by omega)]
 rw[e]at hj;rw[bs_len,cell_size hr];exact hj}}
def reelS:Shape (Nat×List ByteArray) where
 n:=2
 R w cs x:=∃v,cs=[.int .i64 (x.1:Int),v]/\SeqAt strS w v x.2
 len h:=by obtain⟨_,rfl,_⟩:=h;rfl
 one h u hu:=by
  obtain⟨v,rfl,h⟩:=h
  simp only[List.mem_cons,List.not_mem_nil,or_false]at hu
  rcases hu with rfl|rfl
  ·rfl
  ·exact h.one
 keep h hb:=by
  obtain⟨v,e,h⟩:=h
  exact⟨v,e,h.below hb⟩
structure Rls (N M:Nat) (w0 W:World) (g:Nat) (X:Nat->List ByteArray) (rs:Nat->Value):Prop where
 blk:∃us,Blk W g 64 us/\us.length=2*N/\(∀j,j<M->us[2*j]?=some (.int .i64 (j:Int))/\us[2*j+1]?=some (rs j))/\(∀j,M<=j->j<N->us[2*j]?=some (.int .i64 0)/\us[2*j+1]?=some (.slice none 0 0))
 own:∀j,j<M->OwnSeq strS 9 w0 W (rs j) (X j)
 sep:∀j k,j<M->k<M->j≠k->(rs j).ownBlock=none∨(rs j).ownBlock≠(rs k).ownBlock
 base:w0.heap.size<=g
theorem rls_new {N:Nat} {w0 W:World} (h:w0.heap.size<=W.heap.size) (X:Nat->List ByteArray) (rs:Nat->Value) {us:List Value} (hu:us=(List.replicate N [Value.int .i64 0,.slice none 0 0]).flatten):Rls N 0 w0 (W.alloc (.cells us.toArray 64)) W.heap.size X rs:=by
 have hl:∀n,((List.replicate n [Value.int .i64 0,Value.slice none 0 0]).flatten).length=2*n:=by{
 intro n;induction n with
 |zero=>rfl
 |succ n ih=>rw[List.replicate_succ,List.flatten_cons,List.length_append,ih];show 2+2*n=_;omega};have hg:∀n j,j<n->((List.replicate n [Value.int .i64 0,Value.slice none 0 0]).flatten)[2*j]?=some (.int .i64 0)/\((List.replicate n [Value.int .i64 0,Value.slice none 0 0]).flatten)[2*j+1]?=some (.slice none 0 0):=by{
 intro n;induction n with
 |zero=>intro j hj;omega
 |succ n ih=>
 intro j hj;rw[List.replicate_succ,List.flatten_cons];cases j with
 |zero=>exact⟨rfl,rfl⟩
 |succ j=>
 have h1:=ih j (by omega);exact h1};subst hu;exact⟨⟨_,Blk.new W 64 _,hl N,fun j hj=>by omega,fun j _ hj=>hg N j hj⟩,fun j hj=>by omega,fun j k hj=>by omega,h⟩
theorem Rls.cell {N M:Nat} {w0 W:World} {g:Nat} {X:Nat->List ByteArray} {rs:Nat->Value} (h:Rls N M w0 W g X rs) {j:Nat} (hj:j<M):W.cell? ⟨g,2*j,none⟩=some (.int .i64 (j:Int))/\W.cell? ⟨g,2*j+1,none⟩=some (rs j):=by
 obtain⟨us,hb,_,h1,_⟩:=h.blk;exact⟨hb.cell (h1 j hj).1,hb.cell (h1 j hj).2⟩
theorem Rls.cell0 {N M:Nat} {w0 W:World} {g:Nat} {X:Nat->List ByteArray} {rs:Nat->Value} (h:Rls N M w0 W g X rs) {j:Nat} (hj:M<=j) (hN:j<N):W.cell? ⟨g,2*j,none⟩=some (.int .i64 0)/\W.cell? ⟨g,2*j+1,none⟩=some (.slice none 0 0):=by
 obtain⟨us,hb,_,_,h1⟩:=h.blk;exact⟨hb.cell (h1 j hj hN).1,hb.cell (h1 j hj hN).2⟩
theorem Rls.frozen {N M:Nat} {w0 W:World} {g:Nat} {X:Nat->List ByteArray} {rs:Nat->Value} (h:Rls N M w0 W g X rs) (i:Nat):W.frozen? ⟨g,i,none⟩=false:=by
 obtain⟨us,hb,_⟩:=h.blk;exact hb.frozen i
theorem Rls.lt {N M:Nat} {w0 W:World} {g:Nat} {X:Nat->List ByteArray} {rs:Nat->Value} (h:Rls N M w0 W g X rs):g<W.heap.size:=by
 obtain⟨us,hb,_⟩:=h.blk;exact hb.lt
theorem Rls.below {N M:Nat} {w0 W W':World} {g:Nat} {X:Nat->List ByteArray} {rs:Nat->Value} (h:Rls N M w0 W g X rs) (hb:Below W.heap.size W W'):Rls N M w0 W' g X rs:=by
 obtain⟨us,h1,h2⟩:=h.blk;exact⟨⟨us,h1.kept hb,h2⟩,fun j hj=>(h.own j hj).below hb,h.sep,h.base⟩
theorem Rls.fill {N M:Nat} {w0 W W':World} {g:Nat} {X:Nat->List ByteArray} {rs:Nat->Value} (h:Rls N M w0 W g X rs) (hM:M<N) {v:Value} (hv:OwnSeq strS 9 w0 W' v (X M)) (hb:Below W.heap.size W W') (hn:v.ownBlock=none∨∃k,v.ownBlock=some k/\W.heap.size<=k):
  Rls N (M+1) w0 ((W'.setCell ⟨g,2*M,none⟩ (.int .i64 (M:Int))).setCell ⟨g,2*M+1,none⟩ v) g X (fun j=>if j=M then v else rs j):=by
 obtain⟨us,h1,h2,h3,h4⟩:=h.blk;have hk:=(h1.kept hb);have hg:=grownBy_trans (grown_set W' g (2*M) (.int .i64 (M:Int))) (grown_set (W'.setCell ⟨g,2*M,none⟩ (.int .i64 (M:Int))) g (2*M+1) v);have hne:∀{r:Value} {x:List ByteArray},OwnSeq strS 9 w0 W' r x->r.ownBlock≠some g:=fun ho=>ho.neT hk (by decide);refine⟨⟨_,(hk.set (2*M) _).set (2*M+1) v,by rw[List.length_set,List.length_set];exact h2,fun j hj=>?_,fun j hj hN=>?_⟩,fun j hj=>?_,fun j k hj hk' hjk=>?_,h.base⟩;{
 by_cases e:j=M;{
 subst e;refine⟨?_,?_⟩;{rw[List.getElem?_set_ne (by omega),List.getElem?_set_self (by omega)]};{rw[List.getElem?_set_self (by rw[List.length_set];omega),if_pos rfl]}};{
 have h5:=h3 j (by omega);refine⟨?_,?_⟩;{rw[List.getElem?_set_ne (by omega),List.getElem?_set_ne (by omega)];exact h5.1};{rw[List.getElem?_set_ne (by omega),List.getElem?_set_ne (by omega),if_neg e];exact h5.2}}};{
 have h5:=h4 j (by omega) hN;refine⟨?_,?_⟩;{rw[List.getElem?_set_ne (by omega),List.getElem?_set_ne (by omega)];exact h5.1};{rw[List.getElem?_set_ne (by omega),List.getElem?_set_ne (by omega)];exact h5.2}};{
 show OwnSeq _ _ _ _ (if j=M then v else rs j) _;by_cases e:j=M;{
 subst e;rw[if_pos rfl];exact hv.grown hg (.inr (hne hv))};{
 rw[if_neg e];have ho:=(h.own j (by omega)).below hb;exact ho.grown hg (.inr (hne ho))}};{
 show (if j=M then v else rs j).ownBlock=none∨(if j=M then v else rs j).ownBlock≠(if k=M then v else rs k).ownBlock;by_cases ej:j=M;{
 rw[if_pos ej,if_neg (by omega)];rcases hn with hn|⟨q,hn,hq⟩;{exact .inl hn};{
 right;intro e;rw[hn]at e;have:=(h.own k (by omega)).lt e.symm;omega}};{
 rw[if_neg ej];by_cases ek:k=M;{
 rw[if_pos ek];rcases hn with hn|⟨q,hn,hq⟩;{
 cases h6:(rs j).ownBlock with
 |none=>exact .inl rfl
 |some b=>right;rw[hn];exact Option.some_ne_none b};{
 right;intro e;rw[hn]at e;have:=(h.own j (by omega)).lt e;omega}};{
 rw[if_neg ek];exact h.sep j k (by omega) (by omega) hjk}}}
theorem Rls.put {N:Nat} {w0 W W':World} {g i:Nat} {X Y:Nat->List ByteArray} {rs:Nat->Value} (h:Rls N N w0 W g X rs) (hi:i<N) {v:Value} (hv:OwnSeq strS 9 w0 W' v (Y i)) (hY:∀j,j<N->j≠i->Y j=X j) (hg:W.grownBy W' (rs i).ownBlock) (hn:v.ownBlock=(rs i).ownBlock∨v.ownBlock=some W.heap.size):
  Rls N N w0 (W'.setCell ⟨g,2*i+1,none⟩ v) g Y (fun j=>if j=i then v else rs j):=by
 obtain⟨us,h1,h2,h3,h4⟩:=h.blk;have hk:Blk W' g 64 us:=h1.grownB hg ((h.own i hi).neT h1 (by decide));have hs:=grown_set W' g (2*i+1) v;have hne:∀{r:Value} {x:List ByteArray},OwnSeq strS 9 w0 W' r x->r.ownBlock≠some g:=fun ho=>ho.neT hk (by decide);refine⟨⟨_,hk.set (2*i+1) v,by rw[List.length_set];exact h2,fun j hj=>?_,fun j hj hN=>by omega⟩,fun j hj=>?_,fun j k hj hk' hjk=>?_,h.base⟩;{
 have h5:=h3 j hj;by_cases e:j=i;{
 subst e;refine⟨?_,?_⟩;{rw[List.getElem?_set_ne (by omega)];exact h5.1};{rw[List.getElem?_set_self (by omega),if_pos rfl]}};{
 refine⟨?_,?_⟩;{rw[List.getElem?_set_ne (by omega)];exact h5.1};{rw[List.getElem?_set_ne (by omega),if_neg e];exact h5.2}}};{
 show OwnSeq _ _ _ _ (if j=i then v else rs j) _;by_cases e:j=i;{
 subst e;rw[if_pos rfl];exact hv.grown hs (.inr (hne hv))};{
 rw[if_neg e,hY j hj e];have ho:=(h.own j hj).grown hg (h.sep j i hj hi e);exact ho.grown hs (.inr (hne ho))}};{
 show (if j=i then v else rs j).ownBlock=none∨(if j=i then v else rs j).ownBlock≠(if k=i then v else rs k).ownBlock;by_cases ej:j=i;{
 rw[if_pos ej,if_neg (by omega)];rcases hn with hn|hn;{rw[hn];exact h.sep i k hi hk' (by omega)};{
 right;intro e;rw[hn]at e;have:=(h.own k hk').lt e.symm;omega}};{
 rw[if_neg ej];by_cases ek:k=i;{
 rw[if_pos ek];rcases hn with hn|hn;{rw[hn];exact h.sep j i hj hi (by omega)};{
 right;intro e;rw[hn]at e;have:=(h.own j hj).lt e;omega}};{
 rw[if_neg ek];exact h.sep j k hj hk' hjk}}}
theorem Rls.at {N:Nat} {w0 W:World} {g:Nat} {X:Nat->List ByteArray} {rs:Nat->Value} (h:Rls N N w0 W g X rs) (hw:w0.heap.size<=W.heap.size) (hN:N<=1000):SeqAt reelS W (.slice (some ⟨g,0,none⟩) N N) ((List.range N).map fun j=>(j,X j)):=by
 refine⟨some ⟨g,0,none⟩,N,by simp,by simp,by omega,fun i x hx=>?_⟩;have hi:i<N:=by rw[List.getElem?_map]at hx;by_cases h:i<N;{exact h};{rw[List.getElem?_eq_none (by simpa using h)]at hx;cases hx}
 rw[List.getElem?_map,List.getElem?_range hi]at hx;obtain rfl:(i,X i)=x:=Option.some.inj hx;have hc:=h.cell hi;refine⟨g,0,[.int .i64 (i:Int),rs i],rfl,⟨rs i,rfl,(h.own i hi).atF flatS hw⟩,fun j u hu=>?_⟩;show W.cell? ⟨g,0+i*2+j,none⟩=some u;match j,hu with
 |0,hu=>cases hu;rw[show 0+i*2+0=2*i by omega];exact hc.1
 |1,hu=>cases hu;rw[show 0+i*2+1=2*i+1 by omega];exact hc.2
 |j+2,hu=>cases hu
def KeptR (lo hi:Nat) (A B:World):Prop:=∀k,lo<=k->k<hi->B.heap[k]?=A.heap[k]?
theorem KeptR.refl (lo hi:Nat) (A:World):KeptR lo hi A A:=fun _ _ _=>rfl
theorem KeptR.below {lo hi:Nat} {A B C:World} (h:KeptR lo hi A B) (hs:hi<=B.heap.size) (hb:Below B.heap.size B C):KeptR lo hi A C:=fun k h1 h2=>(hb.block k (by omega)).trans (h k h1 h2)
theorem KeptR.grown {lo hi:Nat} {A B C:World} {r:Option Nat} (h:KeptR lo hi A B) (hs:hi<=B.heap.size) (hg:B.grownBy C r) (hr:∀b,r=some b->b<lo∨hi<=b):KeptR lo hi A C:=fun k h1 h2=>(hg.block k (by omega) (fun e=>by have:=hr k e.symm;omega)).trans (h k h1 h2)
def Avoid (N:Nat) (rs:Nat->Value) (lo hi:Nat):Prop:=∀j b,j<N->(rs j).ownBlock=some b->b<lo∨hi<=b
theorem Avoid.put {N lo hi i b0:Nat} {rs:Nat->Value} {v:Value} (h:Avoid N rs lo hi) (hi':i<N) (hn:v.ownBlock=(rs i).ownBlock∨v.ownBlock=some b0) (hb:hi<=b0):Avoid N (fun j=>if j=i then v else rs j) lo hi:=fun j b hj e=>by
 dsimp only at e
 split at e
 {
 rcases hn with h1|h1
 ·exact h i b hi' (h1.symm.trans e)
 {
 rw[h1]at e
 cases e
 exact .inr hb}}
 ·exact h j b hj e
theorem Rls.avoid {N:Nat} {w0 W:World} {g:Nat} {X:Nat->List ByteArray} {rs:Nat->Value} (h:Rls N N w0 W g X rs) (hi:Nat):Avoid N rs W.heap.size hi:=fun j b hj e=>.inl ((h.own j hj).lt e)
theorem Rls.congr {N:Nat} {w0 W:World} {g:Nat} {X Y:Nat->List ByteArray} {rs:Nat->Value} (h:Rls N N w0 W g X rs) (e:∀j,j<N->X j=Y j):Rls N N w0 W g Y rs:=⟨h.blk,fun j hj=>by rw[<-e j hj];exact h.own j hj,h.sep,h.base⟩
theorem Rls.grownCell {N:Nat} {w0 W W':World} {g:Nat} {X:Nat->List ByteArray} {rs:Nat->Value} (h:Rls N N w0 W g X rs) {i:Nat} (hi:i<N) (hg:W.grownBy W' (rs i).ownBlock):W'.cell? ⟨g,i*2+1,none⟩=some (rs i)/\W'.frozen? ⟨g,i*2+1,none⟩=false:=by
 obtain⟨us,h1,h2,h3,h4⟩:=h.blk;have hk:Blk W' g 64 us:=h1.grownB hg ((h.own i hi).neT h1 (by decide));rw[Nat.mul_comm i 2];exact⟨hk.cell (h3 i hi).2,hk.frozen _⟩
theorem SeqAt.range {α:Type} {ρ:Shape α} {A B:World} {v:Value} {xs:List α} {lo:Nat} (hF:Flat ρ) (h:SeqAt ρ A v xs) (hu:UpV lo v) (hk:KeptR lo A.heap.size A B):SeqAt ρ B v xs:=by
 obtain⟨a,c,rfl,h1,h2,h3⟩:=h;refine⟨a,c,rfl,h1,h2,fun i x hx=>?_⟩;obtain⟨b,o,cs,rfl,hr,h4⟩:=h3 i x hx;refine⟨b,o,cs,rfl,hF _ _ _ _ hr,fun j u hu'=>?_⟩;have hc:=h4 j u hu';exact(World.cell?_of_block (a:=⟨b,o+i*ρ.n+j,none⟩) (hk b (hu _ _ _ _ rfl) (cell_lt hc))).trans hc
theorem OwnSeq.src {α:Type} {ρ:Shape α} {t:TypeId} {w0 W:World} {v:Value} {xs:List α} (h:OwnSeq ρ t w0 W v xs):SrcAt ρ w0 W v xs:=by
 obtain⟨css,h,hB⟩:=h;rcases h.2 with⟨rfl,h0⟩|⟨g,cap,cur,rfl,_,_,h1,h2,_⟩;{
 obtain rfl:=List.length_eq_zero_iff.1 h0;exact⟨none,0,rfl,fun i x hx=>by cases hx⟩};{
 refine⟨_,_,rfl,fun i x hx=>?_⟩;obtain⟨cs,hcs,hr⟩:=hB.at hx;refine⟨g,0,cs,rfl,hr,fun j u hu=>?_⟩;have hj:j<ρ.n:=by have:=(List.getElem?_eq_some_iff.1 hu).1;rwa [ρ.len hr]at this
 have hi:i<xs.length:=(List.getElem?_eq_some_iff.1 hx).1;have hm:(i+1)*ρ.n<=xs.length*ρ.n:=Nat.mul_le_mul (by omega) (Nat.le_refl _);rw[Nat.add_mul,Nat.one_mul]at hm;rw[Nat.zero_add,h.cellAt (i*ρ.n+j) (by omega),flat_get hB.lens hcs j hj,hu]}
def firstN (f:Nat->Int):Nat->Int
 |0=>0
 |n+1=>if firstN f n≠0 then firstN f n else f n
theorem firstN_zero {f:Nat->Int}:∀{n:Nat},(∀m,m<n->f m=0)->firstN f n=0
 |0,_=>rfl
 |n+1,h=>by
  rw[firstN,firstN_zero fun m hm=>h m (by omega),if_neg (by decide)]
  exact h n (by omega)
theorem firstN_at {f:Nat->Int} {m:Nat} (h:∀q,q<m->f q=0) (h0:f m≠0):∀{n:Nat},m<n->firstN f n=f m
 |0,hm=>by omega
 |n+1,hm=>by
  by_cases e:m=n
  {
  subst e
  rw[firstN,firstN_zero h,if_neg (by decide)]}
  ·rw[firstN,firstN_at h h0 (n:=n) (by omega),if_pos h0]
def sesP (a d s:Int) (L:List Ses) (r n:Nat):List ByteArray:=match L[n]? with
 |none=>[]
 |some x=>(chks 8 (reelL a d s ((n:Int)+1) r (partsB (strB (dirL x))) (rowsL d.toNat s.toNat x.str) x.str)).map fun g=>strB (celsL g)
def sesPs (a d s:Int) (L:List Ses) (r n:Nat):List ByteArray:=((List.range n).map (sesP a d s L r)).flatten
theorem sesPs_succ (a d s:Int) (L:List Ses) (r n:Nat):sesPs a d s L r (n+1)=sesPs a d s L r n++sesP a d s L r n:=by
 rw[sesPs,List.range_succ,List.map_append,List.flatten_append];simp[sesPs]
def reelP (a:Nat) (d s:Int) (L:List Ses) (x:ByteArray) (r n:Nat):List ByteArray:=stripsT a x++sesPs a d s L r n
def reelsE (d s:Int) (L:List Ses) (x:ByteArray):Int:=if layE d s≠0 then layE d s else if splitE x≠0 then splitE x else firstN (fun n=>contE d s L ((n:Int)+1)) L.length
def reelsR (a:Nat) (d s:Int) (L:List Ses) (x:ByteArray):List (Nat×List ByteArray):=if reelsE d s L x=0 then (List.range (d.toNat+s.toNat)).map (fun r=>(r,reelP a d s L x r L.length)) else []
theorem Tryz.elemReel:Elem prog 38 64 2 32 (.agg #[.int .i64 0,.slice none 0 0]):=⟨underlying38,by kernel_rfl,rfl,by decide,by decide⟩
theorem flat2 (N:Nat):(madeCells #[Value.int .i64 0,Value.slice none 0 0] (N*2))=((List.replicate N [Value.int .i64 0,.slice none 0 0]).flatten).toArray:=by
 have e:∀n j,((List.replicate n [Value.int .i64 0,Value.slice none 0 0]).flatten)[j]?=if j<n*2 then some (if j%2=0 then Value.int .i64 0 else .slice none 0 0) else none:=by{
 intro n;induction n with
 |zero=>intro j;simp
 |succ n ih=>
 intro j;rw[List.replicate_succ,List.flatten_cons];match j with
 |0=>simp
 |1=>rw[if_pos (by omega)];rfl
 |j+2=>
 show ((List.replicate n [Value.int .i64 0,Value.slice none 0 0]).flatten)[j]?=_;rw[ih j,Nat.add_mod_right];by_cases h:j<n*2;{simp only[h,show j+2<(n+1)*2 by omega,if_true]};{simp only[h,show ¬j+2<(n+1)*2 by omega,if_false]}};refine Array.ext' (List.ext_getElem? fun j=>?_);rw[List.toList_toArray,e N j];unfold madeCells;by_cases h:j<N*2;{
 rw[if_pos h,Array.getElem?_toList,Array.getElem?_map,Array.getElem?_range,if_pos h];show some _=_;have h2:j%2=0∨j%2=1:=by omega
 rcases h2 with h2|h2;{simp[h2]};{simp[h2]}};{
 rw[if_neg h,Array.getElem?_toList,Array.getElem?_map,Array.getElem?_eq_none (by simp;omega)];rfl}
theorem make_reels (N:Nat) (hN:N<=1000) (W:World):(Instr.makeSlice 38 (.int .i64 (N:Int)) (.int .i64 (N:Int))).run prog W=.ok (.slice (some ⟨W.heap.size,0,none⟩) N N) (W.alloc (.cells ((List.replicate N [Value.int .i64 0,.slice none 0 0]).flatten).toArray 64)):=by
 obtain⟨i0,hi,hz0,hz1,hz2⟩:=infoV_parts Tryz.elemReel.hi;have hr:=run_make (P:=prog) W 38 64 i0 (.agg #[.int .i64 0,.slice none 0 0]) underlying38 hi hz0 .i64 .i64 N N (by omega) (by omega) (by rw[hz2];omega) (by omega);rw[hr,hz1,<-flat2];rfl
theorem rls_step {N i G:Nat} {w2 wr wv:World} {S:List ByteArray} {rs:Nat->Value} {va:Value} (HR:Rls N i w2 wr G (fun _=>S) rs) (h:i<N) (hob:OwnSeq strS 9 w2 wv va ([]++S)) (hgb:wr.grownBy wv (Value.slice none 0 0).ownBlock) (hnb:va.ownBlock=(Value.slice none 0 0).ownBlock∨va.ownBlock=some wr.heap.size) (hbb:Below w2.heap.size w2 wv):
  (Rls N (i+1) w2 ((wv.setCell ⟨G,i*2,none⟩ (.int .i64 (i:Int))).setCell ⟨G,i*2+1,none⟩ va) G (fun _=>S) (fun j=>if j=i then va else rs j)/\Below w2.heap.size w2 ((wv.setCell ⟨G,i*2,none⟩ (.int .i64 (i:Int))).setCell ⟨G,i*2+1,none⟩ va)) /\
   wv.cell? ⟨G,i*2,none⟩=some (.int .i64 0)/\wv.cell? ⟨G,i*2+1,none⟩=some (.slice none 0 0)/\wv.frozen? ⟨G,i*2,none⟩=false/\wv.frozen? ⟨G,i*2+1,none⟩=false:=by
 have hbl:Below wr.heap.size wr wv:=⟨hgb.os,hgb.tape,hgb.output,hgb.size,fun k hk=>hgb.block k hk (fun e=>by cases e)⟩;have hG:=HR.base;have KR:=HR.fill h (v:=va) hob hbl (hnb.imp (fun e=>e.trans rfl) (fun e=>⟨_,e,Nat.le_refl _⟩));have KB:=(hbb.setCell (p:=⟨G,2*i,none⟩) hG (.int .i64 (i:Int))).setCell (p:=⟨G,2*i+1,none⟩) hG va;have hc:=(HR.below hbl).cell0 (Nat.le_refl _) h;have f0:=(HR.below hbl).frozen (i*2);have f1:=(HR.below hbl).frozen (i*2+1);rw[Nat.mul_comm 2 i]at KR KB hc;exact⟨⟨KR,KB⟩,hc.1,hc.2,f0,f1⟩
theorem sesPs_len {a d s:Int} {L:List Ses} {r:Nat} (hL:SesAll L) (hd:1<=d):∀{n:Nat},(∀m,m<n->contE d s L ((m:Int)+1)=0)->(sesPs a d s L r n).length<=n*140000
 |0,_=>Nat.le_refl _
 |n+1,h=>by
  have ih:=sesPs_len (a:=a) (r:=r) hL hd fun m hm=>h m (Nat.lt_succ_of_lt hm)
  have h1:(sesP a d s L r n).length<=140000:=by
   unfold sesP
   cases hx:L[n]? with
   |none=>exact Nat.zero_le _
   |some x=>
    dsimp only
    have hp:=contE_parts (h n (Nat.lt_succ_self n)) (x:=x) (by rw[<-hx];congr 1;omega)
    have hs:=rowsL_len2 (d:=d.toNat) (s:=s.toNat) (st:=x.str) (by omega) (hL n x hx).2.2
    rw[List.length_map,chks,chkF_len,reelL_len]
    omega
  rw[sesPs_succ,List.length_append,Nat.add_mul]
  omega
theorem rls_put {N i G lo1 hi1 lo2 hi2:Nat} {w2 W wv w5 w7:World} {X Y:Nat->List ByteArray} {rs:Nat->Value} {v va:Value} (ev:rs i=v) (HR:Rls N N w2 W G X rs) (h:i<N) (hob:OwnSeq strS 9 w2 wv va (Y i)) (hY:∀j,j<N->j≠i->Y j=X j) (hgb:W.grownBy wv v.ownBlock) (hnb:va.ownBlock=v.ownBlock∨va.ownBlock=some W.heap.size) (hbb:Below w2.heap.size w2 wv)
  (ha:Avoid N rs lo1 hi1) (ha2:Avoid N rs lo2 hi2) (hk:KeptR lo1 hi1 w5 W) (hk2:KeptR lo2 hi2 w7 W) (h12:hi1<=hi2) (hs:hi2<=W.heap.size) (hG1:G<lo1) (hG2:G<lo2):
  (Rls N N w2 (wv.setCell ⟨G,i*2+1,none⟩ va) G Y (fun j=>if j=i then va else rs j)/\Avoid N (fun j=>if j=i then va else rs j) lo1 hi1/\Avoid N (fun j=>if j=i then va else rs j) lo2 hi2/\KeptR lo1 hi1 w5 (wv.setCell ⟨G,i*2+1,none⟩ va)/\KeptR lo2 hi2 w7 (wv.setCell ⟨G,i*2+1,none⟩ va)/\hi2<=(wv.setCell ⟨G,i*2+1,none⟩ va).heap.size/\Below w2.heap.size w2 (wv.setCell ⟨G,i*2+1,none⟩ va)) /\
   wv.cell? ⟨G,i*2+1,none⟩=some v/\wv.frozen? ⟨G,i*2+1,none⟩=false:=by
 subst ev;have hc:=HR.grownCell h hgb;have KR:=HR.put h hob hY hgb hnb;have hset:=grown_set wv G (2*i+1) va;have hsz:=hgb.size;have hg1:∀b,(some G:Option Nat)=some b->b<lo1∨hi1<=b:=fun b e=>by cases e;exact .inl hG1
 have hg2:∀b,(some G:Option Nat)=some b->b<lo2∨hi2<=b:=fun b e=>by cases e;exact .inl hG2
 have r1:∀b,(rs i).ownBlock=some b->b<lo1∨hi1<=b:=fun b e=>ha i b h e;have r2:∀b,(rs i).ownBlock=some b->b<lo2∨hi2<=b:=fun b e=>ha2 i b h e;have q1:=((hk.grown (by omega) hgb r1).grown (by omega) hset hg1);have q2:=((hk2.grown hs hgb r2).grown (by omega) hset hg2);have q3:hi2<=(wv.setCell ⟨G,2*i+1,none⟩ va).heap.size:=by have:=hset.size;omega
 have q4:=hbb.setCell (p:=⟨G,2*i+1,none⟩) HR.base va;rw[Nat.mul_comm 2 i]at KR q1 q2 q3 q4;exact⟨⟨KR,ha.put h hnb (by omega),ha2.put h hnb hs,q1,q2,q3,q4⟩,hc⟩
theorem volreels_any (w:World) (a:Nat) (d s:Int) (v:Value) (L:List Ses) (x:ByteArray) (ha:a<4294967296) (hv:SeqAt sesS w v L) (hl:L.length<=255) (hL:SesAll L) (hx:x.size<=1000000) (hT:Tab w):
  Calls prog 16 #[.agg #[.int .u32 (a:Int),.int .i64 d,.int .i64 s,v],.string x] w fun e w'=>(∃vf,e=.returned (.tuple #[vf,.int .i64 (reelsE d s L x)])/\SeqAt reelS w' vf (reelsR a d s L x))/\Below w.heap.size w w':=by
 have hone:v.oneCell'=true:=hv.one;have Hv:=zY hv;have HL:=zY hL;have HT:=zY hT;have HSt:=zY (fun(W:World) (hW:Below w.heap.size w W)=>volstrips_any W a d s v hone x ha hx (hT.below hW));obtain⟨A,c,rfl,_,_⟩:=hv.slice;have hK:=Blk.new w 28 [.int .u32 (a:Int),.int .i64 d,.int .i64 s,.slice A L.length c];have HK:Hid (Blk (w.alloc (.cells #[.int .u32 (a:Int),.int .i64 d,.int .i64 s,.slice A L.length c] 28)) w.heap.size 28 [.int .u32 (a:Int),.int .i64 d,.int .i64 s,.slice A L.length c]):=zY hK;have HB0:=zY (zBl w (.cells #[.int .u32 (a:Int),.int .i64 d,.int .i64 s,.slice A L.length c] 28));obtain⟨E,hE⟩:=zNm (reelsE d s L x);obtain⟨R,hR⟩:=zNm (reelsR a d s L x);rw[hE,hR];have HRe:Hid (E≠0->R=[]):=zY (fun h=>by rw[<-hR,reelsR,if_neg (by rw[hE];exact h)]);have HRo:Hid (E=0->R=(List.range (d.toNat+s.toNat)).map (fun r=>(r,reelP a d s L x r L.length))):=zY (fun h=>by rw[<-hR,reelsR,if_pos (by rw[hE];exact h)]);have HE:=zY hE;obtain⟨nL,hnL⟩:=zNm (L.length);have HnL:=zY hnL;have hl2:nL<=255:=by omega
 clear hv hL hT hK hx hE hR;rw[hnL]at HK HB0 Hv HSt⊢;clear hnL hl;go_enter func16,ntmps16;go_upto_region 1 with fail;generalize w.alloc (.cells #[.int .u32 (a:Int),.int .i64 d,.int .i64 s,.slice A nL c] 28)=wa at *;have c1:=HK.c 1;have c2:=HK.c 2;go_wp2_with fail;refine(laycheck_any _ d s).mono ?_;rintro e1 w1 ⟨rfl,hb1⟩;have HK1:=zY (HK.kept hb1);have HB1:=zYt HB0 hb1;clear hb1 c1 c2 HK HB0;obtain⟨q,hq⟩:=zNm (layE d s);rw[hq];by_cases h0:q=0;{
 subst h0;have hds:1<=d/\d<=8/\0<=s/\s<=7:=by{
 by_cases hc:d<1∨8<d∨s<0∨7<s;{
 rw[layE,if_pos hc]at hq;cases hq};{omega}};have HE1:Hid (reelsE d s L x=if splitE x≠0 then splitE x else firstN (fun n=>contE d s L ((n:Int)+1)) L.length):=zY (by rw[reelsE,if_neg (by rw[hq];decide)]);have a0:=HK1.c 0;have a1:=HK1.c 1;have a2:=HK1.c 2;have a3:=HK1.c 3;clear hq;go_upto_region 4 with fail;go_wp2_with fail;refine(HSt.out _ HB1.out).mono ?_;rintro e2 w2 ⟨⟨vp,rfl,hp⟩,hb2⟩;have HK2:=zY (HK1.kept hb2);have HB2:=zYt HB1 hb2;have HP:=zY (hp.atF flatS hb2.size);obtain⟨Ap,cp,rfl⟩:=hp.slice;clear hp hb2 HK1 HB1 a0 a1 a2 a3 HSt;obtain⟨q,hq⟩:=zNm (splitE x);rw[hq]at HE1⊢;by_cases h1:q=0;{
 subst h1;have HE2:Hid (E=firstN (fun n=>contE d s L ((n:Int)+1)) L.length):=zY (by rw[<-HE.out,HE1.out,if_neg (by decide)]);have HS:Hid (stripR a x=stripsT a x):=zY (by rw[stripR,if_pos hq]);rw[HS.out]at HP⊢;have hSl:(stripsT a x).length<=20000:=by{
 have hs:x.size<=40000:=by unfold splitE at hq;split at hq;{cases hq};{omega}
 rw[stripsT,List.length_map,chks,chkF_len,plnsL,List.length_map,List.length_range];unfold plnT;omega};have HXP:Hid (∀r n,reelP a d s L x r n=stripsT a x++sesPs a d s L r n):=zY (fun _ _=>rfl);generalize stripsT a x=S at *;obtain⟨sl,hsl⟩:=zNm (S.length);have Hsl:=zY hsl;rw[hsl]at HP hSl⊢;obtain⟨N,hN⟩:=zNm (d.toNat+s.toNat);have HN:=zY hN;rw[hN]at HRo;have hdsI:d+s=N:=by omega
 have hN15:N<=15:=by omega
 have hN1:1<=N:=by omega
 have hdsw:IntKind.i64.wrap (d+s)=N:=by rw[hdsI];exact zIw (by omega)
 have hmk:=make_reels N (by omega) w2;have a1:=HK2.c 1;have a2:=HK2.c 2;have HSa:Hid (∀W,Below w2.heap.size w2 W->SrcAt strS w2 W (.slice Ap sl cp) S):=zY (fun W hW=>SrcAt.of HP.out hW);clear hsl hN hq HE1 HS HP;go_upto_region 8 with fail;have HR0:=zY (rls_new (w0:=w2) (W:=w2) (N:=N) (Nat.le_refl _) (fun _=>S) (fun _=>.slice none 0 0) rfl);have HBr0:=zY (zBl w2 (.cells ((List.replicate N [Value.int .i64 0,.slice none 0 0]).flatten).toArray 64));clear hmk a1 a2 hdsI hdsw;generalize w2.alloc (.cells ((List.replicate N [Value.int .i64 0,.slice none 0 0]).flatten).toArray 64)=w3 at *;obtain⟨G,hG⟩:=zNm (w2.heap.size);have HG:Hid (w2.heap.size<=G):=zY (by omega);rw[hG]at HR0⊢;clear hG;go_wp2;go_loopw [45] (fun y wr=>∃i:Nat,i<=N/\y=.int .i64 (i:Int)/\(∃rs,Rls N i w2 wr G (fun _=>S) rs)/\Below w2.heap.size w2 wr) (fun y _=>N-(intOf y).toNat);case atStart=>exact⟨0,by omega,rfl,⟨_,HR0.out⟩,HBr0.out⟩
 case round=>
 obtain⟨i,hi,rfl,⟨rs,hr⟩,hB⟩:=hrel;have HR:=zY hr;have HB:=zY hB;clear hr hB HR0 HBr0;by_cases h:i<N;{
 have hiI:(i:Int)<N:=by omega
 have HX:=zY (HSa.out _ HB.out);have Hl1:Hid (([]:List ByteArray).length+S.length<=100000000):=zY (by rw[Hsl.out];simp;omega);have HNil:Hid (OwnSeq strS 9 w2 wr (.slice none 0 0) []):=zY (OwnSeq.nil _);go_wp2_with (at_builtin;refine append_seqO (ρ:=strS) (w0:=w2) (xs:=[]) Tryz.elemStr rfl _ _ rfl rfl HNil.out rfl HX.out Hl1.out HB.out ?_;intro va wv hob hgb hnb hbb;obtain⟨Av,cv,e8⟩:=hob.slice;subst e8;obtain⟨hKR,z0,z1,f0,f1⟩:=rls_step HR.out h hob hgb hnb hbb;have KR:=zY hKR;clear hKR hob hgb hnb hbb);go_roundw;case rel=>exact⟨i+1,by omega,by go_num,⟨_,KR.out.1⟩,KR.out.2⟩
 case measure=>simp[intOf];omega};{
 obtain rfl:N=i:=by omega
 have hiI:¬((N:Nat):Int)<(N:Int):=by omega
 have HRx:Hid (∃rs,Rls N N w2 wr G (fun r=>reelP a d s L x r 0) rs):=zY ⟨_,HR.congr fun j _=>by rw[HXP.out,sesPs];simp⟩;have HXl0:Hid (∀r n,(reelP a d s L x r n).length<=20000+(sesPs (a:Int) d s L r n).length):=zY (fun r n=>by rw[HXP.out,List.length_append,Hsl.out];omega);have a3:=(HK2.kept HB.out).c 3;obtain⟨wy,rfl⟩:∃z,z=wr:=⟨_,rfl⟩;clear HR HSa HXP hSl Hsl hi h;go_wp2;clear a3;go_loopw [59] (fun y wr=>∃n:Nat,n<=nL/\y=.int .i64 (n:Int)/\(∃rs,Rls N N w2 wr G (fun r=>reelP a d s L x r n) rs)/\Below w2.heap.size w2 wr/\Hid (∀m,m<n->contE d s L ((m:Int)+1)=0)) (fun y _=>nL-(intOf y).toNat);case atStart=>exact⟨0,by omega,rfl,HRx.out,HB.out,zY (fun m hm=>by omega)⟩
 case round=>
 obtain⟨n,hn,rfl,⟨rs,hr⟩,hB,HZ⟩:=hrel;obtain⟨wn,rfl⟩:∃z,z=wr:=⟨_,rfl⟩;clear HRx HB;have HR:=zY hr;have HGn:=zY hr.lt;have HB:=zY hB;clear hr hB;by_cases h:n<nL;{
 have hnI:(n:Int)<nL:=by omega
 have hn1:IntKind.i64.wrap ((n:Int)+1)=(n:Int)+1:=zIw (by omega);have HBw:=zY (HB2.trans (HB.mono HB2.size));have HCo:=zY (contents_any wn (a:Int) d s _ L ((n:Int)+1) (Hv.below HBw.out) (by rw[HnL.out];omega) HL.out (HT.below HBw.out));have HKn:=zY (HK2.kept HB.out);have a0:=HKn.c 0;have a1:=HKn.c 1;have a2:=HKn.c 2;have a3:=HKn.c 3;go_upto_region 16 with fail;go_wp2_with fail;refine HCo.mono ?_;rintro e4 w4 ⟨⟨vpp,vss,st,P,Sx,rfl,hpo,hso,hok⟩,hb4⟩;obtain⟨A5,c5,rfl⟩:=hpo.slice;obtain⟨A6,c6,rfl⟩:=hso.slice;have HPo:=zY hpo;have HSo:=zY hso;have HOk:=zY hok;have HB4:=zY hb4;obtain⟨k,hk⟩:=zNm (contE d s L ((n:Int)+1));rw[hk]at HOk⊢;have Hk:=zY hk;obtain⟨np,hnp⟩:=zNm (P.length);obtain⟨ns,hns⟩:=zNm (Sx.length);rw[hnp]at HPo⊢;rw[hns]at HSo⊢;have Hnp:=zY (And.intro hnp hns);clear hpo hso hok hb4 hk hnp hns a0 a1 a2 a3 HCo HKn;go_upto_region 17 with fail;have HC0:=zY (Blk.new w4 98 [.slice A5 np c5,.slice A6 ns c6,.string st]);have HC:Hid (Blk (w4.alloc (.cells #[.slice A5 np c5,.slice A6 ns c6,.string st] 98)) w4.heap.size 98 [.slice A5 np c5,.slice A6 ns c6,.string st]):=zY HC0.out;have HB5n:=zY (HB4.alloc HB4.size (.cells #[.slice A5 np c5,.slice A6 ns c6,.string st] 98));have HPo:=zY (HPo.alloc (.cells #[.slice A5 np c5,.slice A6 ns c6,.string st] 98));have HSo:=zY (HSo.kept (zBl w4 (.cells #[.slice A5 np c5,.slice A6 ns c6,.string st] 98)));have H4n:Hid (wn.heap.size<=w4.heap.size):=zY HB4.size;clear HC0 HB4;generalize w4.alloc (.cells #[.slice A5 np c5,.slice A6 ns c6,.string st] 98)=w5 at *;have HB5:=zY (HB.trans (HB5n.mono HB.size));have HR5:=zY (HR.below HB5n.out)
 have HAv:=zY (HR.avoid w5.heap.size);by_cases hk0:k=0;{
 subst hk0;obtain⟨xx,_,_,_,_,_,_,hxx,hP,hSx,hst⟩:=HOk.out rfl;have hxx:L[n]?=some xx:=by rw[<-hxx];congr 1;omega
 have Hxx:=zY hxx;have hxz:=(HL.out n xx hxx).2.2;have hPl:P.length<=65536:=by rw[hP];exact contE_parts Hk.out (by rw[<-hxx];congr 1;omega)
 have HPl:=zY hPl;have HSl:Hid (Sx.length<=65536):=zY (by rw[hSx];exact rowsL_len2 (by omega) hxz);have HPz:Hid (∀p∈P,p.size<=28):=zY (by rw[hP];exact partsB_size _);have HSm:Hid (∀y∈Sx,y.length=N):=zY (fun y hy=>by rw[hSx]at hy;rw[rowsL_mem hy];exact HN.out);have HFo:Hid (∀i,i<N->∀f∈reelL (a:Int) d s ((n:Int)+1) i P Sx st,FrmOk f):=zY (fun i hi=>by
  rw[hP,hSx,hst]
  exact reel_ok ⟨by omega,by omega⟩ ⟨hds.1,hds.2.1⟩ ⟨hds.2.2.1,hds.2.2.2⟩ (by rw[HN.out];exact hi) ⟨by omega,by omega⟩ (by rw[<-hP];exact hPl) hxz);have HSP:Hid (∀i,sesP (a:Int) d s L i n=(chks 8 (reelL (a:Int) d s ((n:Int)+1) i P Sx st)).map fun g=>strB (celsL g)):=zY (fun i=>by rw[sesP,hxx,hP,hSx,hst]);have HZ1:Hid (∀m,m<n+1->contE d s L ((m:Int)+1)=0):=zY (fun m hm=>by
  by_cases e:m=n
  ·subst e;exact Hk.out
  ·exact HZ.out m (by omega));have hstz:st.size<=1000000000:=by rw[hst];omega
 have HXs:Hid (∀r,reelP a d s L x r (n+1)=reelP a d s L x r n++sesP a d s L r n):=zY (fun r=>by rw[reelP,reelP,sesPs_succ,List.append_assoc]);have hone1:(Value.slice A nL c).oneCell'=true:=rfl;have HOn:Hid (∀(V:World) (i:Nat),i<N->SeqAt strS V (.slice A5 np c5) P->SeqAt rowS V (.slice A6 ns c6) Sx->Calls prog 39 #[.agg #[.int .u32 (a:Int),.int .i64 d,.int .i64 s,.slice A nL c],.int .i64 ((n:Int)+1),.int .i64 (i:Int),.agg #[.slice A5 np c5,.slice A6 ns c6,.string st]] V fun e w'=>RetSeq frmS 49 V w' (reelL (a:Int) d s ((n:Int)+1) i P Sx st) e/\Below V.heap.size V w'):=zY (fun V i hi h1 h2=>onreel_any V (a:Int) d s ((n:Int)+1) i _ _ _ st P Sx hone1 h1 h2 hPl HPz.out (by have:=HSl.out;omega) (fun y hy=>by rw[HSm.out y hy];exact hi) ⟨hds.1,hds.2.1⟩ (by omega) hstz);have HFl:Hid (∀i,(reelL (a:Int) d s ((n:Int)+1) i P Sx st).length<=200000):=zY (fun i=>by rw[reelL_len];have:=HSl.out;omega);clear hxx hP hSx hst hxz hPl hstz hone1 HOk HZ;go_upto_region 19 with fail;go_wp2;go_loopw [74] (fun y wr=>∃i:Nat,i<=N/\y=.int .i64 (i:Int)/\(∃rs,Rls N N w2 wr G (fun j=>if j<i then reelP a d s L x j (n+1) else reelP a d s L x j n) rs/\Avoid N rs wn.heap.size w5.heap.size)/\KeptR wn.heap.size w5.heap.size w5 wr/\w5.heap.size<=wr.heap.size/\Below w2.heap.size w2 wr) (fun y _=>N-(intOf y).toNat);case atStart=>exact⟨0,by omega,rfl,⟨_,HR5.congr (fun j _=>by rw[if_neg (by omega)]),HAv.out⟩,KeptR.refl _ _ _,Nat.le_refl _,HB5.out⟩
 case round=>
 obtain⟨i,hi,rfl,⟨rs,hr,hav⟩,hkp,hsz,hB⟩:=hrel;obtain⟨wi,rfl⟩:∃z,z=wr:=⟨_,rfl⟩;clear HR HR5 HAv HB HB5;have HR:=zY hr;have HGi:=zY hr.lt;have HAv:=zY hav;have HKp:=zY hkp;have HSz:=zY hsz;have HB:=zY hB;clear hr hav hkp hsz hB;by_cases h':i<N;{
 have hiI:(i:Int)<N:=by omega
 have hnw:wn.heap.size<=wi.heap.size:=by have:=HSz.out;have:=HB5n.size;omega
 have HPi:Hid (SeqAt strS wi (.slice A5 np c5) P):=zY ((HPo.stay fun k o h1 ho _=>(HKp.out k h1 (Array.getElem?_eq_some_iff.1 ho).1).trans ho).atF flatS hnw);have HSi:Hid (SeqAt rowS wi (.slice A6 ns c6) Sx):=zY ((HSo.stay fun k o h1 ho _=>(HKp.out k h1 (Array.getElem?_eq_some_iff.1 ho).1).trans ho).at hnw);have HCi:=zY (HC.of_heap (HKp.out w4.heap.size H4n.out HC.lt));have HKi:=zY (HK2.kept HB.out);have HCl:=zY (HOn.out wi i h' HPi.out HSi.out);have HFi:=zY (HFo.out i h');have HFli:=zY (HFl.out i);have HSPi:=zY (HSP.out i);obtain⟨F,hF⟩:=zNm (reelL (a:Int) d s ((n:Int)+1) i P Sx st);rw[hF]at HCl HFi HFli HSPi;have a0:=HKi.c 0;have a1:=HKi.c 1;have a2:=HKi.c 2;have a3:=HKi.c 3;have k0:=HCi.c 0;have k1:=HCi.c 1;have k2:=HCi.c 2;clear hF hnw HPi HSi HCi HKi;go_upto_region 22 with fail;go_wp2_with fail;refine HCl.mono ?_;rintro e6 w6 ⟨⟨vf,rfl,hf⟩,hb6⟩;have HGr:=zY (groupsF_any w6 vf F 8 (by omega) (hf.at hb6) wi.heap.size (fun b o n c e=>by subst e;exact hf.ge b rfl) (by have:=HFli.out;omega));have HB6:=zY hb6;clear hf hb6 a0 a1 a2 a3 k0 k1 k2 HCl;go_wp2_with fail;refine HGr.mono ?_;rintro e7 w7 ⟨⟨vg,rfl,hg⟩,hb7⟩;obtain⟨Ag,cg,rfl⟩:=hg.slice;have HG7:=zY hg;have HB7:=zY hb7;have HBi7:=zYt HB6 hb7;have HQm:Hid (∀g∈chks 8 F,(∀f∈g,FrmOk f)/\g.length<=8):=zY (fun g hg=>⟨fun f hf=>HFi.out f ((chks_mem hg).1 f hf),(chks_mem hg).2⟩);have hQl:(chks 8 F).length<=300000:=by rw[chks,chkF_len];have:=HFli.out;omega
 generalize chks 8 F=Q at *;obtain⟨m,hm⟩:=zNm (Q.length);have Hm:=zY hm;rw[hm]at HG7 hQl⊢;have HR7:=zY (HR.below HBi7.out);have HAv2:=zY (HR.avoid w7.heap.size);have HKp7:=zY (HKp.below HSz.out HBi7.out);have HB7w:=zY (HB.trans (HBi7.mono HB.size));have HSz7:Hid (w5.heap.size<=w7.heap.size):=zY (by have:=HSz.out;have:=HBi7.size;omega);have Hi6:Hid (wi.heap.size<=w6.heap.size):=zY HB6.size;have HXl:Hid (∀r,(reelP a d s L x r n).length<=90000000):=zY (fun r=>by
  have h1:=HXl0.out r n
  have h2:=sesPs_len (a:=(a:Int)) (r:=r) HL.out hds.1 (n:=n) fun m hm=>HZ1.out m (by omega)
  have h3:n*140000<=255*140000:=Nat.mul_le_mul_right _ (by omega)
  omega);obtain⟨PC,hPC⟩:=zNm ((Q.map fun g=>strB (celsL g)));have HPC:=zY hPC;rw[hPC]at HSPi;clear hg hb7 hm hPC HGr HFi HFli HB6 HKp HSz HBi7;go_wp2;go_loopw [85] (fun y wr=>∃k:Nat,k<=m/\y=.int .i64 (k:Int)/\(∃rs,Rls N N w2 wr G (fun j=>if j=i then reelP a d s L x i n++PC.take k else if j<i then reelP a d s L x j (n+1) else reelP a d s L x j n) rs/\Avoid N rs wn.heap.size w5.heap.size/\Avoid N rs wi.heap.size w7.heap.size)/\KeptR wn.heap.size w5.heap.size w5 wr/\KeptR wi.heap.size w7.heap.size w7 wr/\w7.heap.size<=wr.heap.size/\Below w2.heap.size w2 wr) (fun y _=>m-(intOf y).toNat);case atStart=>exact⟨0,by omega,rfl,⟨_,HR7.congr (fun j _=>by
  by_cases e:j=i
  ·subst e;rw[if_neg (by omega),if_pos rfl,List.take_zero,List.append_nil]
  ·rw[if_neg e]),HAv.out,HAv2.out⟩,HKp7.out,KeptR.refl _ _ _,Nat.le_refl _,HB7w.out⟩
 case round=>
 obtain⟨k,hk,rfl,⟨rs,hr,hav,hav2⟩,hkp,hkp2,hsz,hB⟩:=hrel;obtain⟨wk,rfl⟩:∃z,z=wr:=⟨_,rfl⟩;clear HR HR7 HAv HAv2 HKp7 HB HB7w;have HR:=zY hr;have HAv:=zY hav;have HAv2:=zY hav2;have HKp:=zY hkp;have HKp2:=zY hkp2;have HSz:=zY hsz;have HB:=zY hB;clear hr hav hav2 hkp hkp2 hsz hB;by_cases h9:k<m;{
 have hkI:(k:Int)<m:=by omega
 obtain⟨g,hg⟩:∃g,Q[k]?=some g:=⟨_,List.getElem?_eq_getElem (by rw[Hm.out];exact h9)⟩;obtain⟨_,_,e9,h4⟩:=(HG7.stay (W':=wk) fun q o h1 ho _=>(HKp2.out q (by have:=Hi6.out;omega) (Array.getElem?_eq_some_iff.1 ho).1).trans ho).src;cases e9;obtain⟨b,o,cs,rfl,⟨vi,rfl,hvi,hup⟩,hc⟩:=h4 k g hg;have k0:wk.cell? ⟨b,o+k,none⟩=some vi:=by have:=hc 0 _ rfl;rwa [show o+k*(rowO frmS wi.heap.size).n+0=o+k by show o+k*1+0=o+k;omega]at this
 have hvk:SeqAt frmS wk vi g:=SeqAt.range flatFrm (hvi.below HB7.out) hup HKp2.out;obtain⟨hok,hg8⟩:=HQm.out g (List.mem_of_getElem? hg);have HJ:=zY (scjoin_ok wk vi g hvk (by omega) hok);obtain⟨Ai,ci,rfl,_,_⟩:=hvi.slice;obtain⟨C,hC⟩:=zNm (strB (celsL g));rw[hC]at HJ;have HF:Hid (PC.take (k+1)=PC.take k++[C]):=zY (by rw[<-HPC.out,List.take_add_one,List.getElem?_map,hg,<-hC];rfl);obtain⟨gl,hgl⟩:=zNm (g.length);rw[hgl]at HJ k0;clear hc h4 hg hvi hup hvk hok hg8 hC hgl;go_upto_region 25 with fail;go_wp2_with fail;refine HJ.mono ?_;rintro e8 w8 ⟨rfl,hb8⟩;have HR8:=zY (HR.below hb8);have HKp8:=zY (HKp.below (by have:=HSz.out;have:=HSz7.out;omega) hb8);have HKq8:=zY (HKp2.below HSz.out hb8);have HB8:=zYt HB hb8;have HSz8:Hid (w7.heap.size<=w8.heap.size):=zY (by have:=HSz.out;have:=hb8.size;omega);have ho:OwnSeq strS 9 w2 w8 (rs i) (reelP a d s L x i n++PC.take k):=by have h1:=HR8.own i h';rwa [if_pos rfl]at h1
 obtain⟨no,hno⟩:=zNm ((reelP a d s L x i n++PC.take k).length);obtain⟨Av,cv,ev⟩:=ho.slice;rw[hno]at ev;have hcc:=(HR8.cell h').2;rw[ev,Nat.mul_comm 2 i]at hcc;rw[ev]at ho;have Hev:=zY ev;have HO9:=zY (ho.alloc (.cells #[.string C] 9));have hb9:=zBl w8 (.cells #[.string C] 9);have HR9:=zY (HR8.below hb9);have HKp9:=zY (HKp8.below (by have:=HSz8.out;have:=HSz7.out;omega) hb9);have HKq9:=zY (HKq8.below HSz8.out hb9);have HB9:=zY (HB8.alloc HB8.size (.cells #[.string C] 9));have HX9:Hid (SrcAt strS w2 (w8.alloc (.cells #[.string C] 9)) (.slice (some ⟨w8.heap.size,0,none⟩) 1 1) [C]):=zY (src1 (ρ:=strS) (wr:=w8) [.string C] C rfl rfl);have HSz9:Hid (w7.heap.size<=(w8.alloc (.cells #[.string C] 9)).heap.size):=zY (by rw[World.size_alloc];have:=HSz8.out;omega);have Hl1:Hid ((reelP a d s L x i n++PC.take k).length+[C].length<=100000000):=zY (by
  have h1:=HXl.out i
  have h2:(PC.take k).length<=k:=List.length_take_le _ _
  rw[List.length_append]
  show _+1<=_
  omega);clear hb8 hb9 ho ev HR8 HKp8 HKq8 HB8 HSz8 HJ k0 hno;go_wp2_with (at_builtin;refine append_seqO (ρ:=strS) (w0:=w2) Tryz.elemStr rfl _ _ rfl rfl HO9.out rfl HX9.out Hl1.out HB9.out ?_;intro va wv hob hgb hnb hbb;obtain⟨Aw,cw,e8⟩:=hob.slice;obtain⟨nz,hnz⟩:=zNm ((reelP a d s L x i n++PC.take k++[C]).length);rw[hnz]at e8;clear hnz;subst e8;obtain⟨hKR,z1,f1⟩:=rls_put (Y:=fun j=>if j=i then reelP a d s L x i n++PC.take (k+1) else if j<i then reelP a d s L x j (n+1) else reelP a d s L x j n) Hev.out HR9.out h' (by rw[if_pos rfl,HF.out,<-List.append_assoc];exact hob) (fun j _ e=>by rw[if_neg e,if_neg e]) hgb hnb hbb HAv.out HAv2.out HKp9.out HKq9.out HSz7.out HSz9.out HGn.out HGi.out;have KR:=zY hKR;clear hKR hob hgb hnb hbb);go_roundw;case rel=>exact⟨k+1,by omega,by go_num,⟨_,KR.out.1,KR.out.2.1,KR.out.2.2.1⟩,KR.out.2.2.2.1,KR.out.2.2.2.2.1,KR.out.2.2.2.2.2.1,KR.out.2.2.2.2.2.2⟩
 case measure=>simp[intOf];omega};{
 obtain rfl:m=k:=by omega
 have hkI:¬((m:Nat):Int)<(m:Int):=by omega
 have hall:PC.take m=PC:=List.take_of_length_le (by rw[<-HPC.out,List.length_map,Hm.out];exact Nat.le_refl _);have HRf:Hid (Rls N N w2 wk G (fun j=>if j<i+1 then reelP a d s L x j (n+1) else reelP a d s L x j n) rs):=zY (HR.congr fun j _=>by
  by_cases e:j=i
  ·subst e;rw[if_pos rfl,if_pos (by omega),HXs.out,hall,HSPi.out]
  ·rw[if_neg e]
   by_cases e2:j<i
   ·rw[if_pos e2,if_pos (by omega)]
   ·rw[if_neg e2,if_neg (by omega)]);clear hall;go_wp2;go_roundw;case rel=>exact⟨i+1,by omega,by go_num,⟨_,HRf.out,HAv.out⟩,HKp.out,by have:=HSz.out;have:=HSz7.out;omega,HB.out⟩
 case measure=>simp[intOf];omega}};{
 obtain rfl:N=i:=by omega
 have hiI:¬((N:Nat):Int)<(N:Int):=by omega
 have HRf:Hid (∃rs,Rls N N w2 wi G (fun r=>reelP a d s L x r (n+1)) rs):=zY ⟨_,HR.congr fun j hj=>by rw[if_pos hj]⟩;go_wp2;go_roundw;case rel=>exact⟨n+1,by omega,by go_num,HRf.out,HB.out,HZ1⟩
 case measure=>simp[intOf];omega}};{
 have hk0b:(k==0)=false:=by rw[beq_eq_false_iff_ne];exact hk0
 have hEk:E=k:=by rw[HE2.out,firstN_at (m:=n) HZ.out (by rw[Hk.out];exact hk0) (by rw[HnL.out];exact h)];exact Hk.out
 obtain rfl:=hEk;have HF:=zY (HRe.out hk0);clear HE2 HE HOk Hk;go_wp2;go_ret2;exact⟨⟨_,rfl,by rw[HF.out];exact SeqAt.nil _⟩,HB2.trans (HB5.mono HB2.size)⟩}};{
 obtain rfl:nL=n:=by omega
 have hnI:¬((nL:Nat):Int)<(nL:Int):=by omega
 have hE0:E=0:=by rw[HE2.out];exact firstN_zero (by rw[HnL.out];exact HZ.out)
 have HF:=zY (HRo.out hE0);subst hE0;have HSq:=zY (HR.at HB.size (by omega));clear HE2 HE;go_wp2;go_ret2;exact⟨⟨_,rfl,by rw[HF.out,HnL.out];exact HSq.out⟩,HB2.trans (HB.mono HB2.size)⟩}}};{
 have h1b:(q==0)=false:=by rw[beq_eq_false_iff_ne];exact h1
 obtain rfl:q=E:=by rw[<-HE.out,HE1.out,if_pos h1]
 have HF:=zY (HRe.out h1);clear hq HE1 HE;go_wp2;go_ret2;exact⟨⟨_,rfl,by rw[HF.out];exact SeqAt.nil _⟩,HB2.out⟩}};{
 have h0b:(q==0)=false:=by rw[beq_eq_false_iff_ne];exact h0
 obtain rfl:q=E:=by rw[<-HE.out,reelsE,hq,if_pos h0]
 have HF:=zY (HRe.out h0);clear hq HE;go_wp2;go_ret2;exact⟨⟨_,rfl,by rw[HF.out];exact SeqAt.nil _⟩,HB1.out⟩}
end
end Go.Proofs.YthgenkkkapilhaaGreatDoor