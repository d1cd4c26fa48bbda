/- Texts, joined. -/
import Derived.Test.YthgenkkkapilhaaGreatDoorVTn13
import Derived.Test.YthgenkkkapilhaaGreatDoorVTn19
import Derived.Test.YthgenkkkapilhaaGreatDoorCards
set_option linter.all false
set_option maxRecDepth 100000
set_option maxHeartbeats 64000000
namespace Go.Proofs.YthgenkkkapilhaaGreatDoor
open Go.Proofs.Tryz
section
open Go.RowKit
theorem Bld.below {A W:World} {K b:Nat} {l:List Nat} (h:Bld A K b l) (hb:Below A.heap.size A W):Bld W K b l:=by
 have hk:∀(k:Nat) (o:Obj),A.heap[k]?=some o->W.heap[k]?=some o:=fun k o ho=>by
  have hlt:k<A.heap.size:=by
   rcases Nat.lt_or_ge k A.heap.size with h'|h'
   ·exact h'
   ·rw[Array.getElem?_eq_none h']at ho;cases ho
  rw[hb.block k hlt]
  exact ho
 have key:∀p,Lib.BuilderAtF 135 5 K b p (l.map u8V) A->Lib.BuilderAtF 135 5 K b p (l.map u8V) W:=by rintro p ⟨hB,v,hb,hown,hne⟩;refine⟨hB,v,hk _ _ hb,⟨hown.1,?_⟩,hne⟩;rcases hown.2 with hn|⟨g,cap,cur,fz,hv,hbg,hg,rest⟩;{exact .inl hn};{exact .inr ⟨g,cap,cur,fz,hv,hbg,hk _ _ hg,rest⟩}
 exact Or.elim h (fun x=>.inl (key _ x)) (fun x=>.inr (key _ x))
theorem Bld.alloc {A:World} {K b:Nat} {l:List Nat} (h:Bld A K b l) (o:Obj):Bld (A.alloc o) K b l:=h.below ((Below.refl _ _).alloc (Nat.le_refl _) _)
theorem Bld.drew {A:World} {K b:Nat} {l:List Nat} (h:Bld A K b l):Bld A.drew K b l:=h.below (Below.refl _ _).drew
theorem wsB (w:World) (B b:Nat) (l:List Nat) (s:ByteArray) (h:Bld w B b l) (hl:l.length<=1000000000) (hs:s.size<=1000000000) (hB:B<=w.heap.size):
  Calls prog 64 #[.pointer (some ⟨b,0,none⟩),.string s] w fun e w'=>e=.returned (.tuple #[.int .i64 s.size,.nilIface])/\Bld w' B b (l++bs s)/\Below B w w':=by
 refine(Tryz.Builder_WriteString_k B b _ s w h (by rw[List.length_map];omega) hB).mono fun e w' ⟨he,h1,hb,_⟩=>⟨he,?_,hb⟩;have:=Or.inr (a:=Lib.BuilderAtF 135 5 B b (.pointer none) (l.map u8V++Lib.strCells s) w') h1;have e1:(l++bs s).map u8V=l.map u8V++Lib.strCells s:=by rw[List.map_append];unfold Lib.strCells bs;rw[List.map_map];rfl
 show Lib.IsBuilderF _ _ _ _ _ _;rw[e1];exact this
theorem wsK (w:World) (B b:Nat) (l:List Nat) (s:ByteArray) (h:Bld w B b l) (hl:l.length<=1000000000) (hs:s.size<=1000000000) (hB:B<=w.heap.size):
  Calls prog 64 #[.pointer (some ⟨b,0,none⟩),.string s] w fun e w'=>e=.returned (.tuple #[.int .i64 s.size,.nilIface])/\Bld w' B b (l++bs s)/\Below B w w'/\Lib.OthersKept 5 (some b) w w':=by
 refine(Tryz.Builder_WriteString_k B b _ s w h (by rw[List.length_map];omega) hB).mono fun e w' ⟨he,h1,hb,ho⟩=>⟨he,?_,hb,ho⟩;have:=Or.inr (a:=Lib.BuilderAtF 135 5 B b (.pointer none) (l.map u8V++Lib.strCells s) w') h1;have e1:(l++bs s).map u8V=l.map u8V++Lib.strCells s:=by rw[List.map_append];unfold Lib.strCells bs;rw[List.map_map];rfl
 show Lib.IsBuilderF _ _ _ _ _ _;rw[e1];exact this
theorem Bld.lt {A:World} {K b:Nat} {l:List Nat} (h:Bld A K b l):b<A.heap.size:=by
 have key:∀p,Lib.BuilderAtF 135 5 K b p (l.map u8V) A->b<A.heap.size:=by rintro p ⟨_,v,hb,_⟩;rcases Nat.lt_or_ge b A.heap.size with h'|h';{exact h'};{rw[Array.getElem?_eq_none h']at hb;cases hb}
 exact Or.elim h (key _) (key _)
theorem Blk.others {w w':World} {g b:Nat} {t:TypeId} {us:List Value} (h:Blk w g t us) (ho:Lib.OthersKept 5 (some b) w w') (hne:g≠b) (ht:t≠5):Blk w' g t us:=
 ho g _ h (fun e=>hne (Option.some.inj e)) (fun c fz e=>ht (by cases e;rfl))
theorem lenB (w:World) (B b:Nat) (l:List Nat) (h:Bld w B b l):Calls prog 102 #[.pointer (some ⟨b,0,none⟩)] w fun e w'=>e=.returned (.int .i64 (l.length:Int))/\w'=w:=by
 refine(Tryz.Builder_Len_f B b _ w h).mono fun e w' ⟨he,hw⟩=>⟨?_,hw⟩;rw[he,List.length_map]
def nstsL (l:List ByteArray):List Nat:=l.flatMap fun s=>nstL (bs s)
theorem nstsL_take {l:List ByteArray} {i:Nat} {s:ByteArray} (h:l[i]?=some s):nstsL (l.take (i+1))=nstsL (l.take i)++nstL (bs s):=by
 unfold nstsL;rw[List.take_add_one,h,List.flatMap_append];simp
theorem nstL_lt (s:ByteArray):∀b∈nstL (bs s),b<256:=by
 intro b hb;unfold nstL at hb;simp only[List.mem_append,List.mem_singleton]at hb;rcases hb with((hb|rfl)|hb)|rfl;{have:=digD_bytes _ b hb;omega};{decide};{exact bs_lt s b hb};{decide}
theorem numL_lt (n:Nat):∀b∈numL n,b<256:=by
 intro b hb;unfold numL at hb;simp only[List.mem_append,List.mem_singleton]at hb;rcases hb with hb|rfl;{have:=digD_bytes _ b hb;omega};{decide}
theorem nstsL_lt (l:List ByteArray):∀b∈nstsL l,b<256:=by
 intro b hb;obtain⟨s,_,hs⟩:=List.mem_flatMap.1 hb;exact nstL_lt s b hs
theorem nstsL_len {l:List ByteArray} {m:Nat} (hm:m<=1000000000) (h:∀s∈l,s.size<=m):(nstsL l).length<=l.length*(m+22):=by
 induction l with
 |nil=>simp[nstsL]
 |cons s r ih=>
 have h1:=nstL_len s (by have:=h s List.mem_cons_self;omega);rw[strB_size]at h1;have h2:=ih fun x hx=>h x (List.mem_cons_of_mem _ hx);have h3:=h s List.mem_cons_self;have e:nstsL (s::r)=nstL (bs s)++nstsL r:=by unfold nstsL;rw[List.flatMap_cons]
 rw[e,List.length_append,List.length_cons,Nat.add_mul,Nat.one_mul];omega
theorem nstrings_any (w:World) (v:Value) (l:List ByteArray) (hv:SeqAt strS w v l) (hl:l.length<=100) (hs:∀s∈l,s.size<=1000000) (hT:Tab w):Calls prog 143 #[v] w fun e w'=>e=.returned (.string (strB (nstsL l)))/\Below w.heap.size w w':=by
 have HL:=zY hv;obtain⟨A,c,rfl,h1,h2⟩:=hv.slice;have HSz:Hid (∀i,(nstsL (l.take i)).length<=200000000):=zY (fun i=>by
  have h3:=nstsL_len (l:=l.take i) (m:=1000000) (by omega) (fun s hs'=>hs s (List.mem_of_mem_take hs'))
  have h4:=Nat.mul_le_mul (show (l.take i).length<=100 by rw[List.length_take];omega) (Nat.le_refl (1000000+22))
  omega);have Hs:=zY hs;have HT:=zY hT;clear hv hs hT;go_enter func143,ntmps143;go_wp2;go_loopw [8] (fun x wr=>∃i:Nat,i<=l.length/\x=.int .i64 (i:Int)/\Bld wr w.heap.size w.heap.size (nstsL (l.take i))/\Below w.heap.size w wr) (fun x _=>l.length-(intOf x).toNat);case atStart=>exact⟨0,by omega,rfl,Bld.new w,(Below.refl _ _).alloc (Nat.le_refl _) _⟩
 case round=>
 obtain⟨i,hi,rfl,hbl,hB⟩:=hrel;have HBl:=zY hbl;have HB:=zY hB;clear hbl hB;by_cases h:i<l.length;{
 have hiI:(i:Int)<l.length:=by omega
 obtain⟨x,hx⟩:∃x,l[i]?=some x:=⟨_,List.getElem?_eq_getElem h⟩;have Hst:=zY (nstsL_take hx);have hxs:=Hs.out x (List.mem_of_getElem? hx);obtain⟨_,_,e9,_,_,h4⟩:=HL.below HB.out;cases e9;obtain⟨b,o,cs,rfl,rfl,hc⟩:=h4 i x hx;have e0:wr.cell? ⟨b,o+i*1,none⟩=some (.string x):=hc 0 _ rfl;rw[Nat.mul_one]at e0;have HC:=zY (nnstring_any wr x (by omega) (HT.below HB.out));have hq:=nstL_len x (by omega);obtain⟨X,hX⟩:=zNm (strB (nstL (bs x)));have HX:Hid (bs X=nstL (bs x)):=zY (by rw[<-hX,bs_strB (nstL_lt x)]);rw[hX]at HC hq;clear hc h4 hx hX;go_wp2_with fail;refine HC.mono ?_;rintro e w2 ⟨rfl,hb2⟩;have HW:=zY (wsB w2 w.heap.size w.heap.size _ X (HBl.below hb2) (by have:=HSz.out i;omega) (by omega) (HB.trans (hb2.mono HB.size)).size);have HB2:=zYt HB hb2;clear hb2;go_wp2_with fail;refine HW.mono ?_;rintro e3 w3 ⟨rfl,hbl3,hb3⟩;have HBl3:=zY hbl3;have HB3:=zY (HB2.trans hb3);clear hbl3 hb3;go_wp2_with fail;go_roundw;case rel=>exact⟨i+1,by omega,by go_num,by rw[Hst.out,<-HX.out];exact HBl3.out,HB3.out⟩
 case measure=>simp[intOf];omega};{
 obtain rfl:i=l.length:=by omega
 have hiI:¬((l.length:Nat):Int)<(l.length:Int):=by omega
 have HS:=zY (str_any wr w.heap.size w.heap.size _ (nstsL_lt _) HBl.out HB.size);rw[List.take_length]at HS;go_wp2_with fail;refine HS.mono ?_;rintro e2 w2 ⟨rfl,_,hb2⟩;have HB2:=zY (HB.trans hb2);clear hb2;go_wp2_with fail;go_ret;exact⟨rfl,HB2.out⟩}
def RetSeq {α:Type} (ρ:Shape α) (t:TypeId) (w w':World) (xs:List α) (e:Ending):Prop:=∃v,e=.returned v/\OwnSeq ρ t w w' v xs
theorem streams_any (w:World) (id d s:Int) (v:Value) (L:List Ses) (hv:SeqAt sesS w v L) (hl:L.length<=1000):Calls prog 215 #[.agg #[.int .u32 id,.int .i64 d,.int .i64 s,v]] w fun e w'=>RetSeq strS 9 w w' (L.map (·.str)) e/\Below w.heap.size w w':=by
 obtain⟨A,c,rfl,h1,h2⟩:=hv.slice;have hK:=Blk.new w 28 [.int .u32 id,.int .i64 d,.int .i64 s,.slice A L.length c];change Blk (w.alloc (.cells #[.int .u32 id,.int .i64 d,.int .i64 s,.slice A L.length c] 28)) _ _ _ at hK;have HK:=zY hK;have HB0:=zY (zBl w (.cells #[.int .u32 id,.int .i64 d,.int .i64 s,.slice A L.length c] 28));have Hv:=zY (hv.below HB0.out);have Hl:=zY hl;clear hK hv hl;go_enter func215,ntmps215;go_upto_region 1 with fail;generalize w.alloc (.cells #[.int .u32 id,.int .i64 d,.int .i64 s,.slice A L.length c] 28)=wa at *;go_wp2;go_loopw [3,4] (fun y x wr=>∃i:Nat,i<=L.length/\x=.int .i64 (i:Int)/\OwnSeq strS 9 wa wr y ((L.take i).map (·.str))/\Below wa.heap.size wa wr) (fun _ x _=>L.length-(intOf x).toNat);case atStart=>exact⟨0,by omega,rfl,OwnSeq.new _,(Below.refl _ _).alloc (Nat.le_refl _) _⟩
 case round=>
 obtain⟨i,hi,rfl,ho,hB⟩:=hrel;have HB:=zY hB;have HO:=zY ho;have HKr:=zY (HK.kept hB);clear ho hB;have c3:=HKr.c 3;by_cases h:i<L.length;{
 have hiI:(i:Int)<L.length:=by omega
 obtain⟨x,hx⟩:∃x,L[i]?=some x:=⟨_,List.getElem?_eq_getElem h⟩;have Hx:Hid ((L.take (i+1)).map (·.str)=(L.take i).map (·.str)++[x.str]):=zY (by rw[List.take_add_one,hx,List.map_append];rfl);obtain⟨_,_,e9,_,_,h4⟩:=Hv.out;cases e9;obtain⟨b,o,cs,rfl,⟨ve,rfl,_⟩,hc⟩:=h4 i x hx;have e4:=cell_below HB.out (show wa.cell? ⟨b,o+i*6+4,none⟩=some (.string x.str) from hc 4 _ rfl);have Hl1:Hid (((L.take i).map (·.str)).length+1<=100000000):=zY (by have:=Hl.out;simp;omega);generalize x.str=X at *;clear hc h4 hx;go_wp2_with (at_builtin;refine append_seq (ρ:=strS) (w0:=wa) Tryz.elemStr rfl _ _ rfl rfl (HO.alloc _) rfl (src1 (ρ:=strS) [.string X] X rfl rfl) Hl1.out (HB.alloc HB.size _) ?_;intro va1 wa1 hob _ hbb;have KU:=zY hob;have KB:=zY hbb;clear hob hbb);go_roundw;case rel=>exact⟨i+1,by omega,by go_num,by rw[Hx.out];exact KU.out,KB.out⟩
 case measure=>simp[intOf];omega};{
 obtain rfl:i=L.length:=by omega
 have hiI:¬((L.length:Nat):Int)<(L.length:Int):=by omega
 have HF:=zY (by have:=HO.low flatS HB0.size;rwa [List.take_length]at this:OwnSeq strS 9 w _ _ (L.map (·.str)));go_wp2;go_ret;exact⟨⟨_,rfl,HF.out⟩,HB0.trans (HB.mono HB0.size)⟩}
theorem close39_any (w:World) (num date sn:Int) (prev st:ByteArray) (Ae Ac At Ah:Option Addr) (ne ce nc cc nt ct nh ch:Nat):Calls prog 83 #[.agg #[.int .i64 num,.int .i64 date,.string prev,.slice Ae ne ce,.slice Ac nc cc,.int .i64 sn,.string st,.slice At nt ct,.slice Ah nh ch]] w fun e w'=>e=.returned (.agg #[.int .i64 num,.int .i64 date,.string prev,.slice Ae ne ce,.string st,.string ⟨#[]⟩])/\Below w.heap.size w w':=by
 have hK:=Blk.new w 163 [.int .i64 num,.int .i64 date,.string prev,.slice Ae ne ce,.slice Ac nc cc,.int .i64 sn,.string st,.slice At nt ct,.slice Ah nh ch];change Blk (w.alloc (.cells #[.int .i64 num,.int .i64 date,.string prev,.slice Ae ne ce,.slice Ac nc cc,.int .i64 sn,.string st,.slice At nt ct,.slice Ah nh ch] 163)) _ _ _ at hK;have HB1:=zY (zBl w (.cells #[.int .i64 num,.int .i64 date,.string prev,.slice Ae ne ce,.slice Ac nc cc,.int .i64 sn,.string st,.slice At nt ct,.slice Ah nh ch] 163));have HK1:=zY hK;have HSz:Hid ((w.alloc (.cells #[.int .i64 num,.int .i64 date,.string prev,.slice Ae ne ce,.slice Ac nc cc,.int .i64 sn,.string st,.slice At nt ct,.slice Ah nh ch] 163)).heap.size=w.heap.size+1):=zY (World.size_alloc _ _);clear hK;have HZ:Hid (∀W:World,W.heap.size=w.heap.size+1->Blk (W.alloc (.cells #[.int .i64 0,.int .i64 0,.string ⟨#[]⟩,.slice none 0 0,.string ⟨#[]⟩,.string ⟨#[]⟩] 45)) (w.heap.size+1) 45 [.int .i64 0,.int .i64 0,.string ⟨#[]⟩,.slice none 0 0,.string ⟨#[]⟩,.string ⟨#[]⟩]):=zY (fun W h=>by rw[<-h];exact Blk.new _ _ _);have HZ1:=zY (HZ.out _ HSz.out);have HB:=zY (HB1.alloc HB1.size (.cells #[.int .i64 0,.int .i64 0,.string ⟨#[]⟩,.slice none 0 0,.string ⟨#[]⟩,.string ⟨#[]⟩] 45));have HK:=zY (HK1.alloc (.cells #[.int .i64 0,.int .i64 0,.string ⟨#[]⟩,.slice none 0 0,.string ⟨#[]⟩,.string ⟨#[]⟩] 45));clear HZ HSz HB1 HK1;go_enter func83,ntmps83;go_upto_region 1 with fail
 generalize (w.alloc (.cells #[.int .i64 num,.int .i64 date,.string prev,.slice Ae ne ce,.slice Ac nc cc,.int .i64 sn,.string st,.slice At nt ct,.slice Ah nh ch] 163)).alloc (.cells #[.int .i64 0,.int .i64 0,.string ⟨#[]⟩,.slice none 0 0,.string ⟨#[]⟩,.string ⟨#[]⟩] 45)=wa at *;have c0:=HK.c 0;have c1:=HK.c 1;have c2:=HK.c 2;have c3:=HK.c 3;have c6:=HK.c 6;have z0:=HZ1.c 0;have z1:=HZ1.c 1;have z2:=HZ1.c 2;have z3:=HZ1.c 3;have z4:=HZ1.c 4;have z5:=HZ1.c 5;have y0:=HZ1.frozen 0;have y1:=HZ1.frozen 1;have y2:=HZ1.frozen 2;have y3:=HZ1.frozen 3;have y4:=HZ1.frozen 4;have y5:=HZ1.frozen 5;have HW:=zY ((((((HZ1.set 0 (.int .i64 num)).set 1 (.int .i64 date)).set 2 (.string prev)).set 3 (.slice Ae ne ce)).set 4 (.string st)).set 5 (.string ⟨#[]⟩));have hle:w.heap.size<=w.heap.size+1:=by omega
 have HBw:=zY ((((((HB.setCell (p:=⟨w.heap.size+1,0,none⟩) hle (.int .i64 num)).setCell (p:=⟨w.heap.size+1,1,none⟩) hle (.int .i64 date)).setCell (p:=⟨w.heap.size+1,2,none⟩) hle (.string prev)).setCell (p:=⟨w.heap.size+1,3,none⟩) hle (.slice Ae ne ce)).setCell (p:=⟨w.heap.size+1,4,none⟩) hle (.string st)).setCell (p:=⟨w.heap.size+1,5,none⟩) hle (.string ⟨#[]⟩));clear hle;go_wp2_with fail;refine bodyPost_ret (results_cell_row rfl _ _ (w.heap.size+1) 45 _ (0,0) _ rfl HW.out underlying45 rfl (by kernel_rfl)) rfl ?_;exact⟨rfl,HBw.out⟩
theorem allowed38_any (w:World) (v:Value) (l:List Hol) (hv:SeqAt holS w v l) (hz:∀h∈l,h.p.size<=1000000) (k:Int) (path tgt dig:ByteArray) (Aa Ax:Option Addr) (na ca nx cx:Nat) (size:Int) (hp:path.size<=1000000) (date:Int):
  Calls prog 156 #[v,.agg #[.int .i64 k,.string path,.slice Aa na ca,.string tgt,.int .i64 size,.string dig,.slice Ax nx cx],.int .i64 date] w fun e w'=>RetI e/\Below w.heap.size w w':=by
 have hK:=Blk.new w 182 [.int .i64 k,.string path,.slice Aa na ca,.string tgt,.int .i64 size,.string dig,.slice Ax nx cx];change Blk (w.alloc (.cells #[.int .i64 k,.string path,.slice Aa na ca,.string tgt,.int .i64 size,.string dig,.slice Ax nx cx] 182)) _ _ _ at hK;have HK:=zY hK;have HB0:=zY (zBl w (.cells #[.int .i64 k,.string path,.slice Aa na ca,.string tgt,.int .i64 size,.string dig,.slice Ax nx cx] 182));have Hv:=zY (hv.below HB0.out);obtain⟨A,c,rfl,h1,h2⟩:=hv.slice;have HH:=zY (fun(W:World) (h:SeqAt holS W (.slice A l.length c) l)=>held_any W (.slice A l.length c) l h hz path hp date);have HU:=zY (fun(W:World) (q:ByteArray) (hq:q.size<=1000000)=>under_any W q path hq hp);have Hz:=zY hz;clear hK hv hz;go_enter func156,ntmps156;go_upto_region 1 with fail;generalize w.alloc (.cells #[.int .i64 k,.string path,.slice Aa na ca,.string tgt,.int .i64 size,.string dig,.slice Ax nx cx] 182)=wa at *;have c0:=HK.c 0;have c1:=HK.c 1;have hk:(k=1∨k=2∨k=3)∨k=4∨(k≠1/\k≠2/\k≠3/\k≠4):=by omega
 rcases hk with hk|rfl|⟨k1,k2,k3,k4⟩;{
 rcases hk with rfl|rfl|rfl;all_goals
 go_wp2_with fail;refine(HH.out _ Hv.out).mono ?_;rintro e1 w1 ⟨⟨r,rfl⟩,hb1⟩;have d0:=(HK.kept hb1).c 0;have HBz:=zYt HB0 hb1;clear hb1;cases r with
 |true=>go_wp2_with fail;go_ret;exact⟨RetI.of 15,HBz.out⟩
 |false=>
 go_wp2_with fail;go_ret;exact⟨RetI.of 0,HBz.out⟩};{
 go_wp2_with fail;refine(HH.out _ Hv.out).mono ?_;rintro e1 w1 ⟨⟨r,rfl⟩,hb1⟩;have HK1:=zY (HK.kept hb1);have Hv1:=zY (Hv.below hb1);have d0:=HK1.c 0;have HBz:=zYt HB0 hb1;clear hb1;cases r with
 |true=>go_wp2_with fail;go_ret;exact⟨RetI.of 15,HBz.out⟩
 |false=>
 clear HB0 HK Hv c0 c1;have HB0:=HBz;go_wp2;go_loopw [8] (fun x wr=>∃i:Nat,i<=l.length/\x=.int .i64 (i:Int)/\Below w1.heap.size w1 wr) (fun x _=>l.length-(intOf x).toNat);case atStart=>exact⟨0,by omega,rfl,Below.refl _ _⟩
 case round=>
 obtain⟨i,hi,rfl,hB⟩:=hrel;have HBc:=zY hB;clear hB;by_cases h:i<l.length;{
 have hiI:(i:Int)<l.length:=by omega
 obtain⟨x,hx⟩:∃x,l[i]?=some x:=⟨_,List.getElem?_eq_getElem h⟩;have Hxz:=zY (Hz.out x (List.mem_of_getElem? hx));obtain⟨_,_,e9,_,_,h4⟩:=Hv1.out;cases e9;obtain⟨b,o,cs,rfl,rfl,hc⟩:=h4 i x hx;have HL0:Hid (w1.cell? ⟨b,o+i*2,none⟩=some (.string x.p)):=zY (hc 0 _ rfl);have HL1:Hid (w1.cell? ⟨b,o+i*2+1,none⟩=some (.int .i64 x.u)):=zY (hc 1 _ rfl);have HL2:Hid (w1.cell? ⟨w.heap.size,1,none⟩=some (.string path)):=zY (HK1.c 1);obtain⟨q,uq⟩:=x;dsimp only at HL0 HL1 Hxz;clear hc h4 hx d0;by_cases hd:date<=uq;{
 have hdd:decide (date<=uq)=true:=decide_eq_true hd;have HBc:=zY HBc.drew;go_upto_region 8 with fail;refine wp_region_held_drew (S:=(fun W=>W.cell? ⟨b,o+i*2,none⟩=some (.string q)/\W.cell? ⟨b,o+i*2+1,none⟩=some (.int .i64 uq)/\W.cell? ⟨w.heap.size,1,none⟩=some (.string path))) (by kernel_rfl) ?_ (fun hHeld=>?_);{exact⟨cell_below HBc.out HL0.out,cell_below HBc.out HL1.out,cell_below HBc.out HL2.out⟩};refine tk 0 ?_;refine tk 1 ?_;refine tk 2 ?_;refine tk 3 ?_;refine tk 4 ?_;refine tk 5 ?_;refine tk 6 ?_;refine tk 7 ?_;refine tk 8 ?_;refine tk 9 ?_;refine tk 10 ?_;refine tk 11 ?_;refine tk 12 ?_;refine tk 13 ?_;refine tk 14 ?_;refine zE1 15 fun K hK=>?_;go_simp;refine(HU.out _ q Hxz.out).mono ?_;rintro e2 w2 ⟨⟨r,rfl⟩,hb2⟩;(try go_wp2_with fail);have HBc:=zYt HBc hb2;clear hb2;refine hko hK (by exact⟨cell_below HBc.out HL0.out,cell_below HBc.out HL1.out,cell_below HBc.out HL2.out⟩) (fun _=>?_);clear hK K;refine tk 16 ?_;refine wpAnyH_done (by kernel_rfl) ?_ _;cases r with
 |true=>go_wp2_with fail;go_ret;exact⟨RetI.of 15,HB0.trans (HBc.mono HB0.size)⟩
 |false=>
 go_wp2_with fail;go_roundw;case rel=>exact⟨i+1,by omega,by go_num,HBc.out⟩
 case measure=>simp[intOf];omega};{
 have hdd:decide (date<=uq)=false:=decide_eq_false hd;have m0:=cell_below HBc.out HL0.out;have m1:=cell_below HBc.out HL1.out;go_upto_region 8 with fail;go_quiet (fail);go_wp2;go_roundw;case rel=>exact⟨i+1,by omega,by go_num,zBd HBc.out _⟩
 case measure=>simp[intOf];omega}};{
 have hiI:¬(i:Int)<l.length:=by omega
 go_wp2;go_ret;exact⟨RetI.of 0,HB0.trans (HBc.mono HB0.size)⟩}};{
 have f1:(k==1)=false:=by rw[beq_eq_false_iff_ne];exact k1
 have f2:(k==2)=false:=by rw[beq_eq_false_iff_ne];exact k2
 have f3:(k==3)=false:=by rw[beq_eq_false_iff_ne];exact k3
 have f4:(k==4)=false:=by rw[beq_eq_false_iff_ne];exact k4
 clear k1 k2 k3 k4;go_wp2;go_ret;exact⟨RetI.of 0,HB0.out⟩}
end
end Go.Proofs.YthgenkkkapilhaaGreatDoor
namespace Go.Proofs.YthgenkkkapilhaaGreatDoor.lawVoReels
open Go.Proofs.Tryz
section
open Go.ChangeShapes Go.WideShapes Go.ChangeAt Go.RowKit
theorem wfT:Rows.volumeReelsRow.wfByText (OpenSpec.ofChange Rows.volumeReelsSpec)=true:=by kernel_rfl
theorem looksT:true=prog.looks []:=by kernel_rfl
theorem goesF:false=Rows.volumeReelsRow.goesBy prog:=by kernel_rfl
theorem mainT : prog.mainIs = some (true, "174266067ec6230a6e948b97ff1584906e8abc8bea5e33ca035a81317c67f444".toList) := by kernel_rfl
theorem fnT : prog.funcNamed "stele/stelelaw43.VolumeReels" = some 4 := by kernel_rfl
end
end Go.Proofs.YthgenkkkapilhaaGreatDoor.lawVoReels