/-
  Joined: EncAz VqC VpD VpN.
-/
import Derived.Test.YthgenkkkapilhaaGreatDoorVQn13
import Derived.Test.YthgenkkkapilhaaGreatDoorVQn14
set_option linter.all false
set_option maxRecDepth 100000
set_option maxHeartbeats 64000000
namespace Go.Proofs.YthgenkkkapilhaaGreatDoor
open Go.Proofs.Tryz
section
open Go.RowKit
def perI (l:List Nat) (i:Nat):List Nat:=(List.range 836).map fun j=>if uil j<i then cf l (uil j) else 0
theorem perI_len (l:List Nat) (i:Nat):(perI l i).length=836:=by unfold perI;rw[List.length_map,List.length_range]
theorem perI_cf (l:List Nat) (i j:Nat):cf (perI l i) j=if j<836 then (if uil j<i then cf l (uil j) else 0) else 0:=by unfold perI;rw[cf_map]
theorem perI_set {l:List Nat} {i:Nat} (h:i<836):(perI l i).set (ilv i) (cf l i)=perI l (i+1):=by
 refine list_ext836 (by rw[List.length_set,perI_len]) (perI_len _ _) fun j hj=>?_;rw[cf_set _ _ _ _ (by rw[perI_len];exact ilv_lt h),perI_cf,perI_cf,if_pos hj,if_pos hj];by_cases e:ilv i=j;{
 subst e;rw[if_pos rfl,uil_ilv h,if_pos (by omega)]};{
 rw[if_neg e];have hne:uil j≠i:=fun hu=>e (by rw[<-hu];exact(ilv_uil hj).1);by_cases h1:uil j<i;{rw[if_pos h1,if_pos (by omega)]};{rw[if_neg h1,if_neg (by omega)]}}
theorem perI_zero (l:List Nat):perI l 0=List.replicate 836 0:=by
 refine list_ext836 (perI_len _ _) List.length_replicate fun j hj=>?_;rw[perI_cf,if_pos hj,if_neg (by omega)];unfold cf;rw[List.getElem?_replicate,if_pos hj];rfl
theorem perI_end (l:List Nat):perI l 836=interL l:=by
 unfold perI interL;refine List.map_congr_left fun j hj=>?_;rw[if_pos (ilv_uil (List.mem_range.1 hj)).2]
theorem permI_any (w:World) (s:ByteArray) (hs:s.size=836):Calls prog 309 #[.string s,.int .i64 8,.func (.func 310) #[] #[]] w fun e w'=>e=.returned (.tuple #[.string (strB (interL (bs s))),.int .i64 0])/\Below w.heap.size w w':=by
 have hmk:=make_u8_836;have hsI:(s.size:Int)=836:=by omega
 have hK0:U8B (w.alloc (.cells (arrB (perD [] 0)) 5)) w.heap.size (perI (bs s) 0):=by rw[perI_zero,<-perD_zero []];exact U8B.new w _
 have HK0:=zY hK0;have HB0:=zY (zBl w (.cells (arrB (perD [] 0)) 5));have hbl:=bs_len s;clear hK0;go_enter func309,ntmps309;go_wp2;go_loopw [19] (fun x wr=>∃i:Nat,i<=836/\x=.int .i64 i/\U8B wr w.heap.size (perI (bs s) i)/\Below w.heap.size w wr) (fun x _=>836-(intOf x).toNat);case atStart=>exact⟨0,by omega,rfl,HK0.out,HB0.out⟩
 case round=>
 obtain⟨i,hi,rfl,hb,hB⟩:=hrel;have Hb:=zY hb;have HBr:=zY hB;clear hb hB HK0 HB0;by_cases h:i<836;{
 have hiI:(i:Int)<836:=by omega
 go_wp2_with fail;refine(ilindex_any _ i h).mono ?_;rintro e w1 ⟨rfl,hb⟩;have Hb1:=zY (Blk.kept Hb.out hb);have HB1:=zYt HBr hb;have hlt:=Blk.lt Hb.out;clear hb;have hil:=ilv_lt h;have hx:i<s.size:=by omega
 have hxI:(i:Int)<s.size:=by omega
 have hxJ:((ilv i:Nat):Int)<836:=by omega
 have hcx:cf (bs s) i=(s[i]'hx).toNat:=cf_get (bs_get s _ hx);have hc1:=U8B.cell Hb1.out (i:=ilv i) (x:=cf (perI (bs s) i) (ilv i)) (by unfold cf;rw[List.getElem?_eq_getElem (by rw[perI_len];exact hil)];rfl);have hf1:=Blk.frozen Hb1.out (ilv i);have Hset:Hid (U8B (w1.setCell ⟨w.heap.size,ilv i,none⟩ (.int .u8 ((s[i]'hx).toNat:Nat))) w.heap.size (perI (bs s) (i+1))):=zY (by
  rw[<-hcx,<-perI_set h]
  exact U8B.set Hb1.out (ilv i) _);clear hcx;go_wp2_with (go_at_call 310;refine(inter1_any _ _ _).mono ?_;rintro e w' ⟨rfl,rfl⟩);go_roundw;case rel=>exact⟨i+1,by omega,by go_num,Hset.out,HB1.setCell (p:=⟨w.heap.size,ilv i,none⟩) (Nat.le_refl _) _⟩
 case measure=>simp[intOf];omega};{
 have hi8:i=836:=by omega
 subst hi8;have hv:=U8B.bytes Hb.out (n:=836) (c:=836) (by rw[perI_len]) (Nat.le_refl _) (by omega);rw[perI_end]at hv;have hcs:=run_toStr hv (interL_len _).symm;clear hv;go_wp2;go_ret2;exact⟨rfl,HBr.out⟩}
theorem inter_any (w:World) (s:ByteArray) (hs:s.size=836):Calls prog 257 #[.string s,.int .i64 8] w fun e w'=>e=.returned (.tuple #[.string (strB (interL (bs s))),.int .i64 0])/\Below w.heap.size w w':=by
 have H:=zY (permI_any w s hs);clear hs;go_enter func257,ntmps257;go_wp2_with (go_at_call 309;refine H.mono ?_;rintro e w' ⟨rfl,hb⟩);go_ret2;exact⟨rfl,hb⟩
theorem u8_sh1:∀(j:Fin 8) (b:Fin 256),bits .and .u8 ((b.val:Int)/(2:Int)^j.val) 1=((b.val/2^j.val%2:Nat):Int):=by decide +kernel
theorem cfrom_any (w:World) (s:ByteArray) (hs:s.size<=10000):Calls prog 168 #[.string s] w fun e w'=>e=.returned (.string (strB (frmB (bs s))))/\Below w.heap.size w w':=by
 have hbl:=bs_len s;go_enter func168,ntmps168;go_wp2;go_loopw [8] (fun x wr=>∃i:Nat,i<=s.size/\x=.int .i64 (i:Int)/\Bld wr w.heap.size w.heap.size (frmB ((bs s).take i))/\Below w.heap.size w wr) (fun x _=>s.size-(intOf x).toNat);case atStart=>exact⟨0,by omega,rfl,Bld.new w,(Below.refl _ _).alloc (Nat.le_refl _) _⟩
 case round=>
 obtain⟨i,hi,rfl,hbl1,hB⟩:=hrel;have Hbl:=zY hbl1;have HBr:=zY hB;clear hbl1 hB;by_cases h:i<s.size;{
 have hiI:(i:Int)<s.size:=by omega
 have hst:frmB ((bs s).take (i+1))=frmB ((bs s).take i)++byCs (s[i]'h).toNat:=by rw[List.take_add_one,bs_get s i h];exact frmB_snoc _ _
 have Hst:=zY hst;have hlen:(frmB ((bs s).take i)).length<=80000:=by rw[frmB_len,List.length_take];omega
 have hb8:(s[i]'h).toNat<256:=UInt8.toNat_lt _;obtain⟨L,hL⟩:=zNm (frmB ((bs s).take i));rw[hL]at Hbl Hst hlen;have Hlen:=zY hlen;have Hb8:=zY hb8;clear hst hL hlen hb8;go_wp2;go_loopw [11] (fun x wq=>∃k:Nat,k<=8/\x=.int .i64 (k:Int)/\Bld wq w.heap.size w.heap.size (L++(List.range k).map (byC (s[i]'h).toNat))/\Below w.heap.size w wq) (fun x _=>8-(intOf x).toNat);case atStart=>exact⟨0,by omega,rfl,by simpa using Hbl.out,HBr.out⟩
 case round=>
 obtain⟨k,hk,rfl,hbl2,hB2⟩:=hrel;by_cases h':k<8;{
 have hkI:(k:Int)<8:=by omega
 have Hwb:=zY (wb_any wr w.heap.size w.heap.size _ (byC (s[i]'h).toNat k) hbl2 (by rw[List.length_append,List.length_map,List.length_range];have:=Hlen.out;omega) hB2.size);have hsn:(L++(List.range k).map (byC (s[i]'h).toNat))++[byC (s[i]'h).toNat k]=L++(List.range (k+1)).map (byC (s[i]'h).toNat):=by rw[List.range_succ,List.map_append,List.append_assoc];rfl
 have Hsn:=zY hsn;have HB2:=zY hB2;have hsh:=u8_sh1 ⟨7-k,by omega⟩ ⟨(s[i]'h).toNat,Hb8.out⟩;dsimp only at hsh;have hx2:(s[i]'h).toNat/2^(7-k)%2<2:=Nat.mod_lt _ (by decide);have hbc:byC (s[i]'h).toNat k=48+(s[i]'h).toNat/2^(7-k)%2:=rfl;rw[hsn,hbc]at Hwb;generalize (s[i]'h).toNat/2^(7-k)%2=x at *;have hw1:IntKind.u8.wrap (48+(x:Int))=48+x:=by rw[IntKind.wrap_u8];omega
 have hw2:(48+(x:Int))%256=48+x:=by omega
 have hw3:(((48+x:Nat)):Int)=48+x:=by omega
 rw[hw3]at Hwb;clear hsn hbc hx2 hw3 hbl2 hB2;rcases (by omega:k=0∨k=1∨k=2∨k=3∨k=4∨k=5∨k=6∨k=7)with rfl|rfl|rfl|rfl|rfl|rfl|rfl|rfl;all_goals
 simp only[Nat.sub_zero,Nat.reduceSub,Nat.sub_self,Int.reducePow,Int.ediv_one]at hsh;go_wp2_with fail;refine Hwb.mono ?_;rintro e w2 ⟨rfl,hbl3,hb3⟩;have HL3:=zY hbl3;have HB3:=zY hb3;clear hbl3 hb3 Hwb Hbl HBr Hst Hlen Hb8 Hsn hsh;go_wp2_with fail;refine⟨⟨_,?_,?_,HL3.out,HB2.trans HB3.out⟩,?_⟩;{omega};{rfl};{simp[intOf]}};{
 obtain rfl:k=8:=by omega
 have HB2:=zY hB2;have Hb2:Hid (Bld wr w.heap.size w.heap.size (frmB ((bs s).take (i+1)))):=zY (by rw[Hst.out];exact hbl2);clear hbl2 hB2;go_wp2;go_roundw;case rel=>exact⟨i+1,by omega,by go_num,Hb2.out,HB2.out⟩
 case measure=>simp[intOf];omega}};{
 obtain rfl:i=s.size:=by omega
 have hl:=Hbl.out;rw[List.take_of_length_le (by omega)]at hl;have Hs:=zY (str_any wr w.heap.size w.heap.size _ (fun c hc=>by rcases frmB_01 _ c hc with rfl|rfl<;>omega) hl HBr.size);clear hl Hbl;go_wp2_with (go_at_call 65;refine Hs.mono ?_;rintro e w2 ⟨rfl,hbl3,hb3⟩;have HB3:=zY hb3;clear hbl3 hb3);go_ret;exact⟨rfl,HBr.trans HB3.out⟩}
end
section
def parts (r w:List Nat) (j:Nat):Bool:=cf r j != cf w j
end
section
open Go.RowKit
theorem binit_any (w:World):Calls prog 132 #[] w fun e w'=>e=.returned (.agg #[.int .u32 1779033703,.int .u32 3144134277,.int .u32 1013904242,.int .u32 2773480762,.int .u32 1359893119,.int .u32 2600822924,.int .u32 528734635,.int .u32 1541459225])/\Below w.heap.size w w':=by
 have HZ:=zY (Blk.new w 207 (initW.map u32V));have HB:=zY (zBl w (.cells (initW.map u32V).toArray 207));go_enter func132,ntmps132;go_wp2_with fail;refine bodyPost_ret (results_cell_row rfl _ _ w.heap.size 207 _ (0,0) _ rfl HZ.out underlying207 rfl (by kernel_rfl)) rfl ?_;exact⟨rfl,HB.out⟩
theorem bperm_any (w:World):Calls prog 201 #[] w fun e w'=>e=.returned (.agg #[.int .u64 81985529216486895,.int .u64 16881918945140062035,.int .u64 13312731748010193300,.int .u64 8733003861693448440,.int .u64 10400822202260547645,.int .u64 3200383143768358425,.int .u64 14204332651957162635,.int .u64 15816291393287259690,.int .u64 8064173457993569445,.int .u64 11710614767857974480])/\Below w.heap.size w w':=by
 have HZ:=zY (Blk.new w 271 [.int .u64 81985529216486895,.int .u64 16881918945140062035,.int .u64 13312731748010193300,.int .u64 8733003861693448440,.int .u64 10400822202260547645,.int .u64 3200383143768358425,.int .u64 14204332651957162635,.int .u64 15816291393287259690,.int .u64 8064173457993569445,.int .u64 11710614767857974480]);have HB:=zY (zBl w (.cells #[.int .u64 81985529216486895,.int .u64 16881918945140062035,.int .u64 13312731748010193300,.int .u64 8733003861693448440,.int .u64 10400822202260547645,.int .u64 3200383143768358425,.int .u64 14204332651957162635,.int .u64 15816291393287259690,.int .u64 8064173457993569445,.int .u64 11710614767857974480] 271));go_enter func201,ntmps201;go_wp2_with fail;refine bodyPost_ret (results_cell_row rfl _ _ w.heap.size 271 _ (0,0) _ rfl HZ.out underlying271 rfl (by kernel_rfl)) rfl ?_;exact⟨rfl,HB.out⟩
def RetXB (e:Ending):Prop:=∃(x:Ext) (b:Bool),e=.returned (.tuple #[.agg #[.int .i64 x.s,.int .i64 x.o,.int .i64 x.l],.bool b])
theorem find_any (w:World) (v:Value) (l:List Cnk) (hv:SeqAt chkS w v l) (sn:Int) (st s:ByteArray):Calls prog 221 #[.agg #[v,.int .i64 sn,.string st],.string s] w fun e w'=>RetXB e/\Below w.heap.size w w':=by
 have Hv:=zY hv;obtain⟨A,c,rfl,h1,h2⟩:=hv.slice;clear hv;have hK:=Blk.new w 160 [.slice A l.length c,.int .i64 sn,.string st];change Blk (w.alloc (.cells #[.slice A l.length c,.int .i64 sn,.string st] 160)) _ _ _ at hK;have hZ:=Blk.new (w.alloc (.cells #[.slice A l.length c,.int .i64 sn,.string st] 160)) 252 [.int .i64 0,.int .i64 0,.int .i64 0];change Blk ((w.alloc (.cells #[.slice A l.length c,.int .i64 sn,.string st] 160)).alloc (.cells #[.int .i64 0,.int .i64 0,.int .i64 0] 252)) _ _ _ at hZ;rw[World.size_alloc]at hZ;have HZ0:=zY hZ;have HK0:=zY (hK.alloc (.cells #[.int .i64 0,.int .i64 0,.int .i64 0] 252));have HB0:=zY ((zBl w (.cells #[.slice A l.length c,.int .i64 sn,.string st] 160)).alloc (by simp) (.cells #[.int .i64 0,.int .i64 0,.int .i64 0] 252));clear hZ hK;go_enter func221,ntmps221;go_upto_region 1 with fail;generalize (w.alloc (.cells #[.slice A l.length c,.int .i64 sn,.string st] 160)).alloc (.cells #[.int .i64 0,.int .i64 0,.int .i64 0] 252)=wa at *;go_wp2;go_loopw [6] (fun x wr=>∃i:Nat,i<=l.length/\x=.int .i64 (i:Int)/\wa=wr) (fun x _=>l.length-(intOf x).toNat);case atStart=>exact⟨0,by omega,rfl,rfl⟩
 case round=>
 obtain⟨i,hi,rfl,rfl⟩:=hrel;have c0:=HK0.c 0;by_cases h:i<l.length;{
 have hiI:(i:Int)<l.length:=by omega
 obtain⟨x,hx⟩:∃x,l[i]?=some x:=⟨_,List.getElem?_eq_getElem h⟩;obtain⟨_,_,e9,_,_,h4⟩:=Hv.below HB0.out;cases e9;obtain⟨b,o,cs,rfl,rfl,hc⟩:=h4 i x hx;obtain⟨d,xs,xo,xl⟩:=x;have e0:wa.cell? ⟨b,o+i*4,none⟩=some (.string d):=hc 0 _ rfl;have e1:wa.cell? ⟨b,o+i*4+1,none⟩=some (.int .i64 xs):=hc 1 _ rfl;have e2:wa.cell? ⟨b,o+i*4+2,none⟩=some (.int .i64 xo):=hc 2 _ rfl;have e3:wa.cell? ⟨b,o+i*4+3,none⟩=some (.int .i64 xl):=hc 3 _ rfl;clear hc h4 hx;by_cases hps:d=s;{
 subst hps;have z0:=HZ0.c 0;have z1:=HZ0.c 1;have z2:=HZ0.c 2;have y0:=HZ0.frozen 0;have y1:=HZ0.frozen 1;have y2:=HZ0.frozen 2;have HW:=zY (((HZ0.set 0 (.int .i64 xs)).set 1 (.int .i64 xo)).set 2 (.int .i64 xl));have HB:=zY (((HB0.setCell (p:=⟨w.heap.size+1,0,none⟩) (by show w.heap.size<=w.heap.size+1;omega) (.int .i64 xs)).setCell (p:=⟨w.heap.size+1,1,none⟩) (by show w.heap.size<=w.heap.size+1;omega) (.int .i64 xo)).setCell (p:=⟨w.heap.size+1,2,none⟩) (by show w.heap.size<=w.heap.size+1;omega) (.int .i64 xl));go_wp2_with fail;refine bodyPost_ret (results_row_tmp rfl _ _ (w.heap.size+1) 252 _ (0,0) _ rfl HW.out underlying252 rfl (by kernel_rfl)) rfl ?_;exact⟨⟨⟨xs,xo,xl⟩,true,rfl⟩,HB.out⟩};{
 have b3:¬d.toList=s.toList:=fun e=>hps (by rw[ByteArray.toList_eq,ByteArray.toList_eq]at e;exact ByteArray.ext (Array.toList_inj.1 e));have b4:(d.toList==s.toList)=false:=by rw[beq_eq_false_iff_ne];exact b3
 clear hps;go_wp2;go_roundw;case rel=>exact⟨i+1,by omega,by go_num,by first|rfl|trivial⟩
 case measure=>simp[intOf];omega}};{
 have hiI:¬(i:Int)<l.length:=by omega
 have z0:=HZ0.c 0;have z1:=HZ0.c 1;have z2:=HZ0.c 2;have y0:=HZ0.frozen 0;have y1:=HZ0.frozen 1;have y2:=HZ0.frozen 2;have HW:=zY (((HZ0.set 0 (.int .i64 0)).set 1 (.int .i64 0)).set 2 (.int .i64 0));have HB:=zY (((HB0.setCell (p:=⟨w.heap.size+1,0,none⟩) (by show w.heap.size<=w.heap.size+1;omega) (.int .i64 0)).setCell (p:=⟨w.heap.size+1,1,none⟩) (by show w.heap.size<=w.heap.size+1;omega) (.int .i64 0)).setCell (p:=⟨w.heap.size+1,2,none⟩) (by show w.heap.size<=w.heap.size+1;omega) (.int .i64 0));go_wp2_with fail;refine bodyPost_ret (results_row_tmp rfl _ _ (w.heap.size+1) 252 _ (0,0) _ rfl HW.out underlying252 rfl (by kernel_rfl)) rfl ?_;exact⟨⟨⟨0,0,0⟩,false,rfl⟩,HB.out⟩}
def chaOk (c:Cha):Prop:=c.path.size<=250/\c.tgt.size<=250/\c.attrs.length<=20/\c.cont.size<=600/\∀a∈c.attrs,a.k.size<=80/\a.v.size<=80
def cntB:List Bat->Nat
 |[]=>0
 |b::r=>b.l.length+cntB r
theorem cntB_app (l m:List Bat):cntB (l++m)=cntB l+cntB m:=by
 induction l with
 |nil=>simp[cntB]
 |cons x r ih=>rw[List.cons_append,cntB,cntB,ih];omega
def GreatOk (l:List Bat):Prop:=cntB l<=10/\(∀b∈l,∀c∈b.l,chaOk c)/\l.length<=4
def RetGr (l:List Bat) (e:Ending):Prop:=∃n:Int,e=.returned (.int .i64 n)/\(n=1∨(n=0/\GreatOk l))
theorem RetGr.one (l:List Bat):RetGr l (.returned (.int .i64 1)):=⟨1,rfl,.inl rfl⟩
theorem take_mem {α:Type} {l:List α} {i:Nat} {x:α} {p:α->Prop} (hx:l[i]?=some x) (h:∀y∈l.take i,p y) (hp:p x):∀y∈l.take (i+1),p y:=by
 intro y hy;rw[List.take_add_one,hx]at hy;rcases List.mem_append.1 hy with hy|hy;{exact h y hy};{
 rw[Option.toList_some,List.mem_singleton]at hy;rw[hy];exact hp}
theorem great39_any (w:World) (v:Value) (l:List Bat) (hv:SeqAt batS w v l):Calls prog 36 #[v] w fun e w'=>RetGr l e/\Below w.heap.size w w':=by
 have Hv:=zY hv;obtain⟨A,c,rfl,h1,h2⟩:=hv.slice;clear hv;go_enter func36,ntmps36;go_wp2;go_loopw [3,4,5,6,7] (fun n x _ _ _ wr=>∃i N:Nat,i<=l.length/\x=.int .i64 (i:Int)/\n=.int .i64 (N:Int)/\N=30*cntB (l.take i)/\N<=300/\(∀b∈l.take i,∀c∈b.l,chaOk c)/\Below w.heap.size w wr) (fun _ x _ _ _ _=>l.length-(intOf x).toNat);case atStart=>exact⟨0,0,by omega,rfl,rfl,by simp[cntB],by omega,(fun b hb=>by simp at hb),Below.refl _ _⟩
 case round=>
 obtain⟨i,N,hi,rfl,rfl,hN,hN3,hall,hB⟩:=hrel;have HN:=zY hN;have Hall:=zY hall;have HB:=zY hB;clear hN hall hB;by_cases h:i<l.length;{
 have hiI:(i:Int)<l.length:=by omega
 obtain⟨b,hb⟩:∃b,l[i]?=some b:=⟨_,List.getElem?_eq_getElem h⟩;have Hb:=zY hb;obtain⟨_,_,e9,_,_,h4⟩:=Hv.below HB.out;cases e9;obtain⟨g,o,cs,rfl,⟨vb,rfl,rb⟩,hc⟩:=h4 i b hb;have HL1:Hid (wr.cell? ⟨g,o+i*2+1,none⟩=some vb):=zY (hc 1 _ rfl);have HRb:=zY rb;have HNx:Hid (30*cntB (l.take (i+1))=N+30*b.l.length):=zY (by rw[HN.out,List.take_add_one,hb,cntB_app];simp only[Option.toList_some,cntB];omega);obtain⟨Ab,cb,rfl,_,_⟩:=rb.slice;clear hc h4 hb rb;obtain⟨wx,rfl⟩:∃x,x=wr:=⟨_,rfl⟩;go_wp2;go_loopw [3,5,6,7] (fun n x _ _ wr=>∃k M:Nat,k<=b.l.length/\x=.int .i64 (k:Int)/\n=.int .i64 (M:Int)/\M=N+30*k/\M<=300/\(∀c∈b.l.take k,chaOk c)/\Below wx.heap.size wx wr) (fun _ x _ _ _=>b.l.length-(intOf x).toNat);case atStart=>exact⟨0,N,by omega,rfl,rfl,by omega,hN3,(fun c hc=>by simp at hc),Below.refl _ _⟩
 case round=>
 obtain⟨k,M,hk,rfl,rfl,hM,hM3,hcs,hB2⟩:=hrel;have HM:=zY hM;have Hcs:=zY hcs;have HB2:=zY hB2;clear hM hcs hB2;have c1:=cell_below HB2.out HL1.out;by_cases hk2:k<b.l.length;{
 have hkI:(k:Int)<b.l.length:=by omega
 obtain⟨x,hx⟩:∃x,b.l[k]?=some x:=⟨_,List.getElem?_eq_getElem hk2⟩;have Hx:=zY hx;obtain⟨_,_,e9,_,_,h4⟩:=HRb.below HB2.out;cases e9;obtain⟨g2,o2,cs,rfl,⟨va,rfl,ra⟩,hc⟩:=h4 k x hx;have HRa:=zY ra;obtain⟨Aa,ca,rfl,_,_⟩:=ra.slice;obtain⟨xk,xp,xa,xt,xc⟩:=x;dsimp only at hc HRa Hx;have Hna:Hid (xa.length=xa.length):=zY rfl;generalize hna:xa.length=na at *;have Hn:=zY hna;have e0:wr.cell? ⟨g2,o2+k*5,none⟩=some (.int .i64 xk):=hc 0 _ rfl;have e1:wr.cell? ⟨g2,o2+k*5+1,none⟩=some (.string xp):=hc 1 _ rfl;have e2:wr.cell? ⟨g2,o2+k*5+2,none⟩=some (.slice Aa na ca):=hc 2 _ rfl;have e3:wr.cell? ⟨g2,o2+k*5+3,none⟩=some (.string xt):=hc 3 _ rfl;have e4:wr.cell? ⟨g2,o2+k*5+4,none⟩=some (.string xc):=hc 4 _ rfl;clear hc h4 hx ra hna Hna;have HF:Hid (Blk (wr.alloc (.cells #[.int .i64 xk,.string xp,.slice Aa na ca,.string xt,.string xc] 91)) wr.heap.size 91 [.int .i64 xk,.string xp,.slice Aa na ca,.string xt,.string xc]):=zY (Blk.new _ _ _);have HBz:=zY (HB2.alloc HB2.size (.cells #[.int .i64 xk,.string xp,.slice Aa na ca,.string xt,.string xc] 91));have HRz:=zY (HRa.below ((Below.refl _ wr).alloc (Nat.le_refl _) (.cells #[.int .i64 xk,.string xp,.slice Aa na ca,.string xt,.string xc] 91)));go_upto_region 9 with fail;clear e0 e1 e2 e3 e4 c1;generalize wr.alloc (.cells #[.int .i64 xk,.string xp,.slice Aa na ca,.string xt,.string xc] 91)=wz at *;generalize wr.heap.size=gx at *;have f1:=HF.c 1;have f2:=HF.c 2;have f3:=HF.c 3;have f4:=HF.c 4;have HBw:=zY (HB.trans (HBz.mono HB.size));obtain⟨M2,hM2⟩:=zNm (M+30);have hM2I:(M:Int)+30=M2:=by omega
 have HM2:Hid (M2=N+30*(k+1)):=zY (by have:=HM.out;omega);clear hM2;by_cases a1:250<xp.size;{
 have a1I:(250:Int)<xp.size:=by omega
 go_wp2;go_ret;exact⟨RetGr.one l,HBw.out⟩};{
 have a1I:¬(250:Int)<xp.size:=by omega
 by_cases a2:250<xt.size;{
 have a2I:(250:Int)<xt.size:=by omega
 go_wp2;go_ret;exact⟨RetGr.one l,HBw.out⟩};{
 have a2I:¬(250:Int)<xt.size:=by omega
 by_cases a3:20<na;{
 have a3I:(20:Int)<na:=by omega
 go_wp2;go_ret;exact⟨RetGr.one l,HBw.out⟩};{
 have a3I:¬(20:Int)<na:=by omega
 by_cases a4:600<xc.size;{
 have a4I:(600:Int)<xc.size:=by omega
 go_wp2;go_ret;exact⟨RetGr.one l,HBw.out⟩};{
 have a4I:¬(600:Int)<xc.size:=by omega
 by_cases a5:300<M2;{
 have a5I:(300:Int)<M2:=by omega
 go_wp2;go_ret;exact⟨RetGr.one l,HBw.out⟩};{
 have a5I:¬(300:Int)<M2:=by omega
 go_wp2;go_loop [7] (fun x=>∃j:Nat,j<=na/\x=.int .i64 (j:Int)/\∀a∈xa.take j,a.k.size<=80/\a.v.size<=80) (fun x=>na-(intOf x).toNat);case atStart=>exact⟨0,by omega,rfl,fun a ha=>by simp at ha⟩
 case round=>
 obtain⟨j,hj,rfl,hat⟩:=hrel;have Hat:=zY hat;clear hat;by_cases hj2:j<na;{
 have hjI:(j:Int)<na:=by omega
 obtain⟨y,hy⟩:∃y,xa[j]?=some y:=⟨_,List.getElem?_eq_getElem (by rw[Hn.out];exact hj2)⟩;have Hy:=zY hy;have hrz:=HRz.out;obtain⟨_,_,e9,_,_,h4⟩:=hrz;cases e9;obtain⟨g3,o3,cs,rfl,rfl,hc⟩:=h4 j y hy;obtain⟨yk,yv⟩:=y;dsimp only at hc Hy;have q0:wz.cell? ⟨g3,o3+j*2,none⟩=some (.string yk):=hc 0 _ rfl;have q1:wz.cell? ⟨g3,o3+j*2+1,none⟩=some (.string yv):=hc 1 _ rfl;clear hc h4 hy;by_cases b1:80<yk.size;{
 have b1I:(80:Int)<yk.size:=by omega
 go_wp2;go_ret;exact⟨RetGr.one l,HBw.out⟩};{
 have b1I:¬(80:Int)<yk.size:=by omega
 by_cases b2:80<yv.size;{
 have b2I:(80:Int)<yv.size:=by omega
 go_wp2;go_ret;exact⟨RetGr.one l,HBw.out⟩};{
 have b2I:¬(80:Int)<yv.size:=by omega
 go_wp2;go_round;case rel=>exact⟨j+1,by omega,by go_num,take_mem Hy.out Hat.out ⟨by show yk.size<=80;omega,by show yv.size<=80;omega⟩⟩
 case measure=>simp[intOf];omega}}};{
 obtain rfl:j=na:=by omega
 have hjI:¬((j:Nat):Int)<(j:Int):=by omega
 have HOk:Hid (chaOk ⟨xk,xp,xa,xt,xc⟩):=zY ⟨by show xp.size<=250;omega,by show xt.size<=250;omega,by show xa.length<=20;rw[Hn.out];omega,by show xc.size<=600;omega,fun a ha=>Hat.out a (by rw[List.take_of_length_le (by rw[Hn.out];exact Nat.le_refl _)];exact ha)⟩;go_wp2;go_roundw;case rel=>exact⟨k+1,M2,by omega,by go_num,rfl,HM2.out,by omega,take_mem Hx.out Hcs.out HOk.out,HBz.out⟩
 case measure=>simp[intOf];omega}}}}}}};{
 obtain rfl:k=b.l.length:=by omega
 have hkI:¬((b.l.length:Nat):Int)<(b.l.length:Int):=by omega
 go_wp2;go_roundw;case rel=>exact⟨i+1,M,by omega,by go_num,rfl,by rw[HNx.out];exact HM.out,hM3,take_mem Hb.out Hall.out (fun c hc=>Hcs.out c (by rw[List.take_length];exact hc)),HB.trans (HB2.mono HB.size)⟩
 case measure=>simp[intOf];omega}};{
 obtain rfl:i=l.length:=by omega
 have hiI:¬((l.length:Nat):Int)<(l.length:Int):=by omega
 by_cases h5:4<l.length;{
 have h5I:(4:Int)<l.length:=by omega
 go_wp2;go_ret;exact⟨RetGr.one l,HB.out⟩};{
 have h5I:¬(4:Int)<l.length:=by omega
 have HG:Hid (GreatOk l):=zY ⟨by have:=HN.out;rw[List.take_length]at this;omega,fun b hb=>Hall.out b (by rw[List.take_length];exact hb),by omega⟩;go_wp2;go_ret;exact⟨⟨0,rfl,.inr ⟨rfl,HG.out⟩⟩,HB.out⟩}}
end
end Go.Proofs.YthgenkkkapilhaaGreatDoor