/-
  Joined: SiA SiB SiC.
-/
import Derived.Test.YthgenkkkapilhaaGreatDoorVQn44
set_option linter.all false
set_option maxRecDepth 100000
set_option maxHeartbeats 64000000
namespace Go.Proofs.YthgenkkkapilhaaGreatDoor
open Go.Proofs.Tryz
section
open Go.RowKit
def sghtL:Nat->List Frm->List Sgt
 |_,[]=>[]
 |j,f::r=>⟨0,852*j,f,qua0⟩::sghtL (j+1) r
theorem sghtL_len:∀(fs:List Frm) (j:Nat),(sghtL j fs).length=fs.length
 |[],_=>rfl
 |_::r,j=>by rw[sghtL,List.length_cons,List.length_cons,sghtL_len r]
theorem frm_msg {f:Frm} (h:FrmOk f):Msg (frmM f) f:=by
 obtain⟨hb,hl,_⟩:=frmM_ok h;obtain⟨k,r,s,i,l,d,p,a,t⟩:=f;obtain⟨h',ha⟩:=h;obtain⟨g1,g2,g3,g4,g5,g6,g7,g8⟩:=frE_ok h';dsimp only at g1 g2 g3 g4 g5 g6 g7 g8 ha h';obtain⟨k,rfl⟩:∃n:Nat,k=n:=⟨k.toNat,by omega⟩;obtain⟨r,rfl⟩:∃n:Nat,r=n:=⟨r.toNat,by omega⟩;obtain⟨s,rfl⟩:∃n:Nat,s=n:=⟨s.toNat,by omega⟩;obtain⟨i,rfl⟩:∃n:Nat,i=n:=⟨i.toNat,by omega⟩;obtain⟨l,rfl⟩:∃n:Nat,l=n:=⟨l.toNat,by omega⟩;obtain⟨d,rfl⟩:∃n:Nat,d=n:=⟨d.toNat,by omega⟩;obtain⟨p,rfl⟩:∃n:Nat,p=n:=⟨p.toNat,by omega⟩;obtain⟨a,rfl⟩:∃n:Nat,a=n:=⟨a.toNat,by omega⟩;obtain⟨hc,hf⟩:=unm_mar h' (by omega:a<4294967296);exact⟨hb,hl,hc,hf⟩
def MarkAt (s:ByteArray) (k:Nat):Prop:=k+16<=s.size/\∀i,i<16->cf (bs s) (k+i)=cf markL i
theorem strip_at {fs:List Frm} (ha:∀f∈fs,FrmOk f) {j:Nat} {f:Frm} (hf:fs[j]?=some f):
  MarkAt (strB (celsL fs)) (852*j)/\(strB (celsL fs)).extract (852*j+16) (852*j+852)=strB (bodyL (frmM f)):=by
 obtain⟨hj,hfj⟩:=List.getElem?_eq_some_iff.1 hf;have hby:=celsL_bytes ha;have e:celsL fs=celsL (fs.take j)++((markL++bodyL (frmM f))++celsL (fs.drop (j+1))):=by{
 conv=>lhs;rw[<-List.take_append_drop j fs,List.drop_eq_getElem_cons hj,hfj]
 unfold celsL;rw[List.map_append,flatC_app,List.map_cons];rfl};have hP:(celsL (fs.take j)).length=852*j:=by rw[celsL_len,List.length_take,Nat.min_eq_left (by omega)]
 generalize celsL (fs.take j)=P at *;generalize celsL (fs.drop (j+1))=R at *;have hB:=bodyL_len (frmM f);have hfm:=ha f (List.mem_of_getElem? hf);have hBb:=bodyL_bytes (frm_msg hfm).bytes (frm_msg hfm).len;generalize bodyL (frmM f)=B at *;have hM:=markL_len;refine⟨⟨?_,fun i hi=>?_⟩,bs_inj ?_⟩;{
 rw[strB_size,e];simp only[List.length_append];omega};{rw[bs_strB hby,e,<-hP,cf_app_right,List.append_assoc,cf_app_left (by omega)]};{
 rw[bs_extract,bs_strB hby,bs_strB hBb,e];rw[<-List.append_assoc,List.take_append_of_le_length (by simp only[List.length_append];omega),List.take_of_length_le (by simp only[List.length_append];omega),<-List.append_assoc,show 852*j+16=(P++markL).length by rw[List.length_append,hM,hP],List.drop_left]}
theorem vintS {k:IntKind} {a b:Int} (h:a=b):Value.int k a=Value.int k b:=by rw[h]
theorem mark_at (i:Nat) (h:i<16):((⟨#[49,49,49,49,49,48,48,49,49,48,49,48,49,48,48,48]⟩:ByteArray)[i]'h).toNat=cf markL i:=by
 rw[<-bs_cf];rw[markL_eq];rfl
theorem mkdist_ok (w:World) (s:ByteArray) (k:Nat) (hm:MarkAt s k) (hs:s.size<=1000000):
  Calls prog 213 #[.string s,.int .i64 (k:Int)] w fun e w'=>e=.returned (.int .i64 0)/\Below w.heap.size w w':=by
 obtain⟨hk,hm⟩:=hm;have Hm:=zY hm;clear hm;go_enter func213,ntmps213;go_wp2;go_loopw [5,37] (fun n x wr=>∃i:Nat,i<=16/\x=.int .i64 (i:Int)/\n=.int .i64 ((16-i:Nat):Int)/\Below w.heap.size w wr) (fun _ x _=>16-(intOf x).toNat);case atStart=>exact⟨0,by omega,rfl,rfl,Below.refl _ _⟩
 case round=>
 obtain⟨i,hi,rfl,rfl,hB⟩:=hrel;have HBr:=zY hB;clear hB;by_cases h:i<16;{
 have hiI:(i:Int)<16:=by omega
 have hki:k+i<s.size:=by omega
 have he:=Hm.out i h;rw[bs_cf s (k+i) hki,<-mark_at i h]at he;obtain⟨n,hn⟩:=zNm (16-i);have Hn:=zY hn;rw[hn];have hn16:n<=16:=by omega
 have hmz:(⟨#[49,49,49,49,49,48,48,49,49,48,49,48,49,48,48,48]⟩:ByteArray).size=16:=rfl;have g1:decide (k<s.size)=true:=decide_eq_true (by omega);have g2:decide ((i:Int)<(s.size:Int)-k)=true:=decide_eq_true (by omega);have hs1:IntKind.i64.wrap ((s.size:Int)-k)=(s.size:Int)-k:=zIw (by omega);have ht1:IntKind.i64.wrap ((k:Int)+i)=(k:Int)+i:=zIw (by omega);have ht2:((k:Int)+i).toNat=k+i:=by omega
 have ht3:(0:Int)<=(k:Int)+i:=by omega
 have ht4:(k:Int)+i<s.size:=by omega
 have hcmp:((((s[k+i]'hki).toNat:Nat):Int)==(((⟨#[49,49,49,49,49,48,48,49,49,48,49,48,49,48,48,48]⟩:ByteArray)[i]'h).toNat:Int))=true:=by rw[beq_iff_eq,he]
 clear he hn hk;go_wp2;go_quiet (fail);go_wp2;clear hs1 ht1 ht2 ht3 ht4 hcmp g1 g2;go_roundw;case rel=>exact⟨i+1,by omega,by go_num,vintS (by have:=Hn.out;omega),HBr.trans ⟨rfl,rfl,rfl,Nat.le_refl _,fun _ _=>rfl⟩⟩
 case measure=>simp[intOf];omega};{
 obtain rfl:i=16:=by omega
 go_wp2;go_ret;exact⟨rfl,HBr.out⟩}
def roomB (n k:Nat):Bool:=decide (k+16<=n)
theorem mkwithin_any (w:World) (s:ByteArray) (k:Nat) (hk:k<=10000000) (hs:s.size<=1000000):
  Calls prog 194 #[.string s,.int .i64 (k:Int)] w fun e w'=>e=.returned (.bool (roomB s.size k))/\w=w':=by
 have h0:(0:Int)<=k:=by omega
 by_cases h1:k<=s.size;{
 have h1I:(k:Int)<=s.size:=by omega
 have hs1:IntKind.i64.wrap ((s.size:Int)-k)=(s.size:Int)-k:=zIw (by omega);by_cases h2:k+16<=s.size;{
 have h2I:(16:Int)<=(s.size:Int)-k:=by omega
 have e:roomB s.size k=true:=decide_eq_true h2;rw[e];clear h1 h2 e;go_enter func194,ntmps194;go_wp2;go_ret;exact⟨rfl,rfl⟩};{
 have h2I:¬(16:Int)<=(s.size:Int)-k:=by omega
 have e:roomB s.size k=false:=decide_eq_false h2;rw[e];clear h1 h2 e;go_enter func194,ntmps194;go_wp2;go_ret;exact⟨rfl,rfl⟩}};{
 have h1I:¬(k:Int)<=s.size:=by omega
 have e:roomB s.size k=false:=decide_eq_false (by omega);rw[e];clear h1 e;go_enter func194,ntmps194;go_wp2;go_ret;exact⟨rfl,rfl⟩}
theorem mkfind1_ok (w:World) (s:ByteArray) (b k:Nat) (hm:MarkAt s k) (hs:s.size<=1000000) (hc:w.cell? ⟨b,0,none⟩=some (.string s)):
  Calls prog 212 #[.int .i64 (k:Int),.pointer (some ⟨b,0,none⟩)] w fun e w'=>e=.returned (.bool true)/\Below w.heap.size w w':=by
 have HD:=zY (mkdist_ok w s k hm hs);clear hm;go_enter func212,ntmps212;go_wp2_with (go_at_call 213;refine HD.mono ?_;rintro e w' ⟨rfl,hb⟩);go_ret;exact⟨rfl,hb⟩
def fndR (o:Bool) (k:Nat):Value:=.tuple #[.int .i64 (if o then (k:Int) else 0),.bool o]
theorem mkfirst_ok (w:World) (s:ByteArray) (b i:Nat) (o:Bool) (ho:if o then MarkAt s i else s.size<i+16) (hi:i<=5000000) (hs:s.size<=1000000) (hc:w.cell? ⟨b,0,none⟩=some (.string s)):
  Calls prog 211 #[.string s,.int .i64 (i:Int),.func (.func 212) #[] #[.pointer (some ⟨b,0,none⟩)]] w fun e w'=>e=.returned (fndR o i)/\Below w.heap.size w w':=by
 have hmx:max (i:Int) 0=(i:Int):=by omega
 have Hw:=zY (mkwithin_any w s i (by omega) hs);cases o with
 |true=>have Hm:=zY (mkfind1_ok w s b i ho hs hc);have hroom:roomB s.size i=true:=decide_eq_true ho.1;rw[hroom]at Hw;clear ho hroom;go_enter func211,ntmps211;go_wp2;refine wp_loop_rounds 1 ?_;rw[rounds_succ];go_wp2_with (first|(go_at_call 194;refine Hw.mono ?_;rintro e w' ⟨rfl,rfl⟩)|(go_at_call 212;refine Hm.mono ?_;rintro e w1 ⟨rfl,hb1⟩));go_ret2;exact⟨rfl,hb1⟩
 |false=>
 have hroom:roomB s.size i=false:=decide_eq_false (by have:s.size<i+16:=ho;omega);rw[hroom]at Hw;clear ho hroom;go_enter func211,ntmps211;go_wp2;refine wp_loop_rounds 1 ?_;rw[rounds_succ];go_wp2_with (go_at_call 194;refine Hw.mono ?_;rintro e w' ⟨rfl,rfl⟩);go_ret2;exact⟨rfl,Below.refl _ _⟩
theorem mkfind_ok (w:World) (s:ByteArray) (i:Nat) (o:Bool) (ho:if o then MarkAt s i else s.size<i+16) (hi:i<=5000000) (hs:s.size<=1000000):
  Calls prog 145 #[.string s,.int .i64 (i:Int)] w fun e w'=>e=.returned (fndR o i)/\Below w.heap.size w w':=by
 have hn:(w.alloc (.cells #[.string s] 9)).cell? ⟨w.heap.size,0,none⟩=some (.string s):=Blk.cell (Blk.new w 9 [.string s]) (i:=0) rfl;have HF:=zY (mkfirst_ok (w.alloc (.cells #[.string s] 9)) s w.heap.size i o ho hi hs hn);have HA:=zY (zBl w (.cells #[.string s] 9));unfold fndR at HF⊢;obtain⟨K,hK⟩:∃K:Int,(if o then (i:Int) else 0)=K:=⟨_,rfl⟩;rw[hK]at HF⊢;clear hn ho hK;go_enter func145,ntmps145;go_wp2_with (go_at_call 211;refine HF.mono ?_;rintro e w1 ⟨rfl,hb1⟩);go_ret2;exact⟨rfl,HA.trans (hb1.mono HA.size)⟩
theorem Tryz.sizeSight:(prog.info? 84).map (·.size)=some 14:=by kernel_rfl
theorem sgt_store {ops:Array Oper} {rest:List Oper} {op:Oper} {a:Act} {W:World} {Q:Exit->Act->World->Prop} (hgd:op.guard=none) (x y:Operand) (ho:op.op=.store 84 x y)
  (b:Nat) (cells:Array Value) (hx:a.eval x=.pointer (some ⟨b,0,none⟩)) (hy:a.eval y=.agg cells)
  (ht:W.there b 0 cells.size) (h14:cells.size=14) (h1:cells.all (·.oneCell')=true) (W1:World) (hE:W.setCells b 0 cells.toList=W1)
  (h:wpList prog ops Q rest (a.put op.dst undef) W1):wpList prog ops Q (op::rest) a W:=
 wpList_store_mid hgd 84 x y ho b 0 cells hx hy ht (by rw[h14];exact Tryz.sizeSight) h1 (by rw[hE];exact h)
def zero14:List Value:=[.int .i64 0,.int .i64 0,.int .i64 0,.int .i64 0,.int .i64 0,.int .i64 0,.int .i64 0,.int .i64 0,.int .i64 0,.int .u32 0,.string ⟨#[]⟩,.int .i64 0,.int .i64 0,.int .i64 0]
theorem scat_ok (w:World) (s:ByteArray) (o:Nat) (f:Frm) (hf:FrmOk f) (ho:o+852<=s.size) (hs:s.size<=1000000) (hB:s.extract (o+16) (o+852)=strB (bodyL (frmM f))):
  Calls prog 146 #[.string s,.int .i64 (o:Int)] w fun e w'=>e=.returned (.tuple #[(⟨0,o,f,qua0⟩:Sgt).v,.bool true])/\Below w.heap.size w w':=by
 have hm:=frm_msg hf;have HU:=fun W=>cunr_any W (strB (bodyL (frmM f)));rw[bs_strB (bodyL_bytes hm.bytes hm.len),b01_no63 (bodyL_01 hm.bytes hm.len),Int.natCast_zero]at HU;have HD:=fun W=>fdec_ok W _ f hm;have hBz:((strB (bodyL (frmM f))).size:Int)=836:=by rw[strB_size,bodyL_len];rfl
 generalize strB (bodyL (frmM f))=Bd at *;obtain⟨k,r,q,i,l,d,p,a,t⟩:=f;unfold Frm.v frV zeroQ qualV at HD;have HU:=zY HU;have HD:=zY HD;have HZ:=zY (Blk.new w 84 zero14);have HBz:=zY (zBl w (.cells zero14.toArray 84));unfold zero14 at HZ HBz;change Hid (Blk (w.alloc (.cells #[.int .i64 0,.int .i64 0,.int .i64 0,.int .i64 0,.int .i64 0,.int .i64 0,.int .i64 0,.int .i64 0,.int .i64 0,.int .u32 0,.string ⟨#[]⟩,.int .i64 0,.int .i64 0,.int .i64 0] 84)) _ _ _)at HZ;change Hid (Below w.heap.size w (w.alloc (.cells #[.int .i64 0,.int .i64 0,.int .i64 0,.int .i64 0,.int .i64 0,.int .i64 0,.int .i64 0,.int .i64 0,.int .i64 0,.int .u32 0,.string ⟨#[]⟩,.int .i64 0,.int .i64 0,.int .i64 0] 84)))at HBz;have hEI:min ((o:Int)+852) (s.size:Int)=((o+852:Nat):Int):=by omega
 have hE4:(o:Int)+16<=((o+852:Nat):Int):=by omega
 have hE5:((o+852:Nat):Int)<=s.size:=by omega
 have hw1:IntKind.i64.wrap ((o:Int)+16)=(o:Int)+16:=zIw (by omega);have hw2:IntKind.i64.wrap ((o:Int)+852)=(o:Int)+852:=zIw (by omega);have ht1:((o:Int)+16).toNat=o+16:=by omega
 have ht2:(0:Int)<=(o:Int)+16:=by omega
 obtain⟨E,hE⟩:=zNm (o+852);rw[hE]at hB hEI hE4 hE5;clear hm hf hE;go_enter func146,ntmps146;go_upto_region 1 with fail;generalize w.alloc (.cells #[.int .i64 0,.int .i64 0,.int .i64 0,.int .i64 0,.int .i64 0,.int .i64 0,.int .i64 0,.int .i64 0,.int .i64 0,.int .u32 0,.string ⟨#[]⟩,.int .i64 0,.int .i64 0,.int .i64 0] 84)=wz at *;go_upto_region 4 with(go_at_call 196;refine(HU.out _).mono ?_;rintro e w' ⟨rfl,rfl⟩)
 clear hw1 hw2 ht1 ht2 hEI hE4 hE5 hB ho;go_upto_region 5 with(go_at_call 214;refine(HD.out _).mono ?_;rintro e w1 ⟨rfl,hb1⟩)
 obtain⟨hA,hX⟩:=decd_new w1 k r q i l d p a t 0 0 0;have hb:=hb1.trans (hA.mono hb1.size);have hZ2:=HZ.kept hb;have hB2:=HBz.trans (hb.mono HBz.size);clear hb1 hA hb HZ HBz HD HU;generalize (w1.alloc (.cells #[.int .i64 k,.int .i64 r,.int .i64 q,.int .i64 i,.int .i64 l,.int .i64 d,.int .i64 p,.int .u32 a,.string t] 49)).alloc (.cells #[.int .i64 0,.int .i64 0,.int .i64 0] 82)=v1 at *;generalize w1.heap.size=g1 at *;obtain⟨⟨c0,c1,c2,c3,c4,c5,c6,c7,c8⟩,d0,d1,d2⟩:=hX;have HF:=zY (setCells_blk [.int .i64 0,.int .i64 (o:Int),.int .i64 k,.int .i64 r,.int .i64 q,.int .i64 i,.int .i64 l,.int .i64 d,.int .i64 p,.int .u32 a,.string t,.int .i64 0,.int .i64 0,.int .i64 0] [] _ v1 hZ2 rfl);have HG:=zY (setCells_below hB2 (Nat.le_refl _) [.int .i64 0,.int .i64 (o:Int),.int .i64 k,.int .i64 r,.int .i64 q,.int .i64 i,.int .i64 l,.int .i64 d,.int .i64 p,.int .u32 a,.string t,.int .i64 0,.int .i64 0,.int .i64 0] 0);have HT:=zY hZ2.there;obtain⟨W1,hE⟩:=zNm (v1.setCells w.heap.size 0 [.int .i64 0,.int .i64 (o:Int),.int .i64 k,.int .i64 r,.int .i64 q,.int .i64 i,.int .i64 l,.int .i64 d,.int .i64 p,.int .u32 a,.string t,.int .i64 0,.int .i64 0,.int .i64 0]);have HE:=zY hE;have HO:Hid ((#[Value.int .i64 0,.int .i64 (o:Int),.int .i64 k,.int .i64 r,.int .i64 q,.int .i64 i,.int .i64 l,.int .i64 d,.int .i64 p,.int .u32 a,.string t,.int .i64 0,.int .i64 0,.int .i64 0]:Array Value).all (·.oneCell')=true):=zY (by simp[Value.oneCell']);rw[hE]at HG;have HF2:Hid (Blk W1 w.heap.size 84 _):=zY (hE▸HF.out);clear hZ2 hB2 hE HF
 go_wp2_with (refine sgt_store rfl (.tmp 4) (.tmp 35) rfl _ _ rfl rfl HT.out rfl HO.out W1 HE.out ?_);have hF:=HF2.out;clear c0 c1 c2 c3 c4 c5 c6 c7 c8 d0 d1 d2;have m0:=hF.c 0;have m1:=hF.c 1;have m2:=hF.c 2;have m3:=hF.c 3;have m4:=hF.c 4;have m5:=hF.c 5;have m6:=hF.c 6;have m7:=hF.c 7;have m8:=hF.c 8;have m9:=hF.c 9;have m10:=hF.c 10;have m11:=hF.c 11;have m12:=hF.c 12;have m13:=hF.c 13;exact bodyPost_ret (v:=.tuple #[.agg #[.int .i64 0,.int .i64 (o:Int),.int .i64 k,.int .i64 r,.int .i64 q,.int .i64 i,.int .i64 l,.int .i64 d,.int .i64 p,.int .u32 a,.string t,.int .i64 0,.int .i64 0,.int .i64 0],.bool true]) (by simp[results,results146,go_sem,m0,m1,m2,m3,m4,m5,m6,m7,m8,m9,m10,m11,m12,m13]) rfl ⟨rfl,HG.out⟩
end
section
open Go.RowKit Go.Shelf
attribute [local go_sem] Oper.semAt_some
def RdS (x:Sgt) (args:Array Value) (_:World):Prop:=args= #[x.v]
theorem scsights_any (w:World) (s:ByteArray):Calls prog 79 #[.string s] w fun e w'=>e=.returned (.func (.func 144) #[] #[.pointer (some ⟨w.heap.size,0,none⟩)])/\w.alloc (.cells #[.string s] 9)=w':=by
 go_enter func79,ntmps79;go_wp2;go_ret;exact⟨rfl,rfl⟩
theorem sghtL_get:∀(fs:List Frm) (b j:Nat),(sghtL b fs)[j]?=(fs[j]?).map fun f=>(⟨0,852*(b+j),f,qua0⟩:Sgt)
 |[],_,_=>rfl
 |f::r,b,0=>rfl
 |f::r,b,j+1=>by
  rw[sghtL,List.getElem?_cons_succ,List.getElem?_cons_succ,sghtL_get r (b+1) j,Nat.add_right_comm,Nat.add_assoc]
theorem sghtL_snoc {fs:List Frm} {j:Nat} {f:Frm} (hf:fs[j]?=some f):(sghtL 0 fs).take j++[⟨0,852*j,f,qua0⟩]=(sghtL 0 fs).take (j+1):=by
 have h:=sghtL_get fs 0 j;rw[hf,Nat.zero_add]at h;obtain⟨h1,h2⟩:=List.getElem?_eq_some_iff.1 h;rw[List.take_succ_eq_append_getElem h1,h2]
theorem sights_ok (fs:List Frm) (ha:∀f∈fs,FrmOk f) (nb:Nat) (W0:World) (hs:852*fs.length<=1000000) (hb0:Boxed W0 nb 9 (.string (strB (celsL fs)))):
  rangeStr.IterX prog 144 #[.pointer (some ⟨nb,0,none⟩)] RdS (fun k=>k=nb) rangeStr.No (sghtL 0 fs) W0:=by
 intro l J W hb hJ hY h0;have hsz:(strB (celsL fs)).size=852*fs.length:=by rw[strB_size,celsL_len]
 have HS:=zY (fun j f=>strip_at ha (j:=j) (f:=f));obtain⟨s,hse⟩:=zNm (strB (celsL fs));rw[hse]at hsz HS hb0;have HJ:=zY hJ;have HY:=zY hY;have Hbx:Hid (Boxed W nb 9 (.string s)):=zY ((hb.block nb hb0.lt).trans hb0);have HF:=zY (fun V i o ho hi=>mkfind_ok V s i o ho hi (by omega));have HA:=zY (fun V o f hf ho hB=>scat_ok V s o f hf ho (by omega) hB);have Ha:=zY ha;have H0:=zY h0;have Hsz:=zY hsz;clear hJ hY h0 hb hb0 hse ha hsz;refine callsIn_of_wp func144 rfl trivial ?_ rfl;simp only[ntmps144,List.size_toArray,List.length_cons,List.length_nil,Nat.reduceAdd,Nat.reduceSub,Array.replicate_succ,Array.replicate_zero,List.push_toArray,List.append_toArray,List.nil_append,List.cons_append];gi_wp2;gi_loopw [3] (fun x wr=>∃(j i:Nat),j<=fs.length/\i=852*j/\x=.int .i64 (i:Int)/\W.heap.size<=wr.heap.size/\Boxed wr nb 9 (.string s)/\J ((sghtL 0 fs).take j) wr)
  (fun x _=>3000000-(intOf x).toNat);case atStart=>exact⟨0,0,by omega,by omega,rfl,Nat.le_refl _,Hbx.out,H0.out⟩
 case round=>
 obtain⟨j,i,hj,hi,rfl,hwz,hbx,hjj⟩:=hrel;clear H0 Hbx;have hi3:i<=1000000:=by omega
 have hcell:=hbx.cell;have Hbx:=zY hbx;have Hwz:=zY hwz;have Hj:=zY hjj;have Hi:=zY hi;clear hbx hwz hjj hi;by_cases h:j<fs.length;{
 obtain⟨f,hf⟩:∃f,fs[j]?=some f:=⟨_,List.getElem?_eq_getElem h⟩;obtain⟨hm,hB⟩:=HS.out j f hf;rw[<-Hi.out]at hm hB;have hsn:=sghtL_snoc hf;have hpx:(sghtL 0 fs).take j++[⟨0,852*j,f,qua0⟩] <+: sghtL 0 fs:=by rw[hsn];exact List.take_prefix _ _
 rw[<-Hi.out]at hsn hpx;have HF1:=zY (HF.out wr i true hm (by omega));have hfo:=Ha.out f (List.mem_of_getElem? hf);have HA1:=zY (fun V=>HA.out V i f hfo (by have:=Hsz.out;have:=Hi.out;omega) hB);have Hsn:=zY hsn;have Hpx:=zY hpx;clear hm hB hsn hpx hf hfo;obtain⟨k,r,q,c,l1,d,p,a,t⟩:=f;change Hid (∀V:World,Calls prog 146 #[.string s,.int .i64 (i:Int)] V fun e w'=>e=.returned (.tuple #[.agg #[.int .i64 0,.int .i64 (i:Int),.int .i64 k,.int .i64 r,.int .i64 q,.int .i64 c,.int .i64 l1,.int .i64 d,.int .i64 p,.int .u32 a,.string t,.int .i64 0,.int .i64 0,.int .i64 0],.bool true])/\Below V.heap.size V w')at HA1;unfold fndR at HF1;gi_wp2_with fail;refine⟨trivial,rfl,?_⟩;gi_at_call 145;refine(callsIn_wide.2 HF1.out).mono ?_;rintro e w1 ⟨rfl,hb1⟩;have hbx1:Boxed w1 nb 9 (.string s):=(hb1.block nb Hbx.lt).trans Hbx.out;have hcell1:=hbx1.cell;have Hbx1:=zY hbx1;have Hj1:=zY (HJ.out _ _ _ Hj.out Hwz.out (rangeOwn.Aside.of_below hb1 Hwz.out));have Hwz1:=zY (Nat.le_trans Hwz.out hb1.size);clear hb1 hbx1 hcell Hbx Hj Hwz HF1;gi_wp2_with fail;refine⟨trivial,rfl,?_⟩;gi_at_call 146;refine(callsIn_wide.2 (HA1.out _)).mono ?_;rintro e w2 ⟨rfl,hb2⟩;have hA3:Below w2.heap.size w2 (w2.alloc (.cells #[.int .i64 0,.int .i64 (i:Int),.int .i64 k,.int .i64 r,.int .i64 q,.int .i64 c,.int .i64 l1,.int .i64 d,.int .i64 p,.int .u32 a,.string t,.int .i64 0,.int .i64 0,.int .i64 0] 84)):=(Below.refl _ _).alloc (Nat.le_refl _) _;have hb3:=hb2.trans (hA3.mono hb2.size)
 have Hbx3:Hid (Boxed (w2.alloc (.cells #[.int .i64 0,.int .i64 (i:Int),.int .i64 k,.int .i64 r,.int .i64 q,.int .i64 c,.int .i64 l1,.int .i64 d,.int .i64 p,.int .u32 a,.string t,.int .i64 0,.int .i64 0,.int .i64 0] 84)) nb 9 (.string s)):=zY ((hb3.block nb Hbx1.lt).trans Hbx1.out);have Hj3:=zY (HJ.out _ _ _ Hj1.out Hwz1.out (rangeOwn.Aside.of_below hb3 Hwz1.out));have Hwz3:=zY (Nat.le_trans Hwz1.out hb3.size);have hk:=Blk.new w2 84 [.int .i64 0,.int .i64 (i:Int),.int .i64 k,.int .i64 r,.int .i64 q,.int .i64 c,.int .i64 l1,.int .i64 d,.int .i64 p,.int .u32 a,.string t,.int .i64 0,.int .i64 0,.int .i64 0];change Blk (w2.alloc (.cells #[.int .i64 0,.int .i64 (i:Int),.int .i64 k,.int .i64 r,.int .i64 q,.int .i64 c,.int .i64 l1,.int .i64 d,.int .i64 p,.int .u32 a,.string t,.int .i64 0,.int .i64 0,.int .i64 0] 84)) _ _ _ at hk;have e0:=hk.c 0;have e1:=hk.c 1;have e2:=hk.c 2;have e3:=hk.c 3;have e4:=hk.c 4;have e5:=hk.c 5;have e6:=hk.c 6;have e7:=hk.c 7;have e8:=hk.c 8;have e9:=hk.c 9;have e10:=hk.c 10;have e11:=hk.c 11;have e12:=hk.c 12;have e13:=hk.c 13;clear hb2 hA3 hb3 hcell1 Hbx1 Hj1 Hwz1 HA1 hk;obtain⟨fn,tmps,assign,body,hy,hR⟩:=HY.out _ ⟨0,i,⟨k,r,q,c,l1,d,p,a,t⟩,qua0⟩ #[.agg #[.int .i64 0,.int .i64 (i:Int),.int .i64 k,.int .i64 r,.int .i64 q,.int .i64 c,.int .i64 l1,.int .i64 d,.int .i64 p,.int .u32 a,.string t,.int .i64 0,.int .i64 0,.int .i64 0]] (w2.alloc (.cells #[.int .i64 0,.int .i64 (i:Int),.int .i64 k,.int .i64 r,.int .i64 q,.int .i64 c,.int .i64 l1,.int .i64 d,.int .i64 p,.int .u32 a,.string t,.int .i64 0,.int .i64 0,.int .i64 0] 84)) Hj3.out rfl Hpx.out
 have HR:=zY hR;clear hR;gi_wp2;refine⟨rfl,HR.mono ?_⟩;rintro e W1 ⟨rfl,hj1,hk1⟩;have Hj4:=zY hj1;have Hk1:=zY hk1;clear hj1 hk1 e0 e1 e2 e3 e4 e5 e6 e7 e8 e9 e10 e11 e12 e13;gi_wp2;go_roundw;case rel=>exact⟨j+1,i+852,by omega,by have:=Hi.out;omega,by go_num,Nat.le_trans Hwz3.out Hk1.1,Hk1.2 _ _ Hbx3.out (.inr rfl),by rw[<-Hsn.out];exact Hj4.out⟩
 case measure=>simp[intOf];omega};{
 have HF1:=zY (HF.out wr i false (show s.size<i+16 by have:=Hsz.out;have:=Hi.out;omega) (by omega));have Hj2:Hid (J (sghtL 0 fs) wr):=zY (by have e:=Hj.out;rwa [List.take_of_length_le (by rw[sghtL_len];omega)]at e);unfold fndR at HF1;gi_wp2_with fail;refine⟨trivial,rfl,?_⟩;gi_at_call 145;refine(callsIn_wide.2 HF1.out).mono ?_;rintro e w1 ⟨rfl,hb1⟩;have Hj3:=zY (HJ.out _ _ _ Hj2.out Hwz.out (rangeOwn.Aside.of_below hb1 Hwz.out));clear hb1;gi_wp2;exact bodyPost_ret (results_none rfl _ _ _) rfl ⟨⟨_,rfl⟩,Hj3.out⟩}
attribute [local go_sem] Oper.semAt_some
theorem Tryz.infoSight:(prog.info? 84).map (fun i=>(i.zero,i.size,i.bytes))=some (some (.agg zero14.toArray),14,120):=by kernel_rfl
def SgtsAt (W:World) (v:Value) (xs:List Sgt):Prop:=W.ownsRow 0 84 14 v xs.length (xs.flatMap Sgt.cells)
theorem own_cells {A B:World} {b n size:Nat} {t:TypeId} {v:Value} {xs:List Value} (h:A.ownsRow b t size v n xs) (hc:∀(k:Nat) (o:Obj),A.heap[k]?=some o->o.isCells=true->B.heap[k]?=some o):B.ownsRow b t size v n xs:=by
 refine⟨h.1,?_⟩;rcases h.2 with hn|⟨g,cap,cur,hv,hbg,hg,rest⟩;{exact .inl hn};{exact .inr ⟨g,cap,cur,hv,hbg,hc _ _ hg rfl,rest⟩}
def aggOf:Value->Array Value
 |.agg cs=>cs
 |_=> #[]
theorem SgtsAt.of_own {w:World} {B:Nat} {v:Value} {xs:List Sgt} (h:w.ownsRow B 84 14 v xs.length (xs.flatMap Sgt.cells)):SgtsAt w v xs:=
 ⟨h.1,h.2.imp id fun⟨g,cap,cur,e,_,r⟩=>⟨g,cap,cur,e,Nat.zero_le _,r⟩⟩
def StrvAt (W:World) (v:Value) (ss:List ByteArray):Prop:=∃A c,v=.slice A ss.length c/\∀i s,ss[i]?=some s->∃b o,A=some ⟨b,o,none⟩/\W.cell? ⟨b,o+i,none⟩=some (.string s)
theorem StrvAt.below {w w':World} {v:Value} {ss:List ByteArray} (h:StrvAt w v ss) (hb:Below w.heap.size w w'):StrvAt w' v ss:=by
 obtain⟨A,c,rfl,h⟩:=h;refine⟨A,c,rfl,fun i s hi=>?_⟩;obtain⟨b,o,e,hc⟩:=h i s hi;exact⟨b,o,e,cell_below hb hc⟩
theorem seq_strv {w:World} {v:Value} {ss:List ByteArray} (h:SeqAt strS w v ss):StrvAt w v ss:=by
 obtain⟨A,c,rfl,_,_,h4⟩:=h;refine⟨A,c,rfl,fun i s hs=>?_⟩;obtain⟨b,o,cs,e,rfl,hc⟩:=h4 i s hs;refine⟨b,o,e,?_⟩;have h:=hc 0 _ rfl;rwa [show o+i*strS.n+0=o+i by rw[show strS.n=1 from rfl];omega]at h
end
end Go.Proofs.YthgenkkkapilhaaGreatDoor
namespace Go.Proofs.YthgenkkkapilhaaGreatDoor.rangeStr
open Go.Proofs.Tryz
section
open Go.RowKit Go.Proofs.YthgenkkkapilhaaGreatDoor.rangeOwn
def mkD (D:Nat):Deferred:={ target:=.collected D,args:= #[] }
def MarksAt (B:Nat) (Ds:List Nat) (W:World):Prop:=Ds.Nodup/\∀D∈Ds,B<D/\W.heap[D]?=some (.deferred (some []))
theorem MarksAt.nil (B:Nat) (W:World):MarksAt B [] W:=⟨List.nodup_nil,fun _ h=>by cases h⟩
theorem MarksAt.lt {B:Nat} {Ds:List Nat} {W:World} (h:MarksAt B Ds W):∀D∈Ds,D<W.heap.size:=fun D hD=>(Array.getElem?_eq_some_iff.1 (h.2 D hD).2).1
theorem MarksAt.moved {B n:Nat} {Ds:List Nat} {A W:World} (h:MarksAt B Ds A) (hn:∀D∈Ds,D<n) (ha:rangeOwn.Aside No n A W):MarksAt B Ds W:=
 ⟨h.1,fun D hD=>⟨(h.2 D hD).1,(ha.low D (hn D hD) (fun h=>h)).trans (h.2 D hD).2⟩⟩
theorem MarksAt.kept {B:Nat} {Ds:List Nat} {A W:World} (h:MarksAt B Ds A) (hk:∀(k:Nat) (o:Obj),A.heap[k]?=some o->o.isCells=false->W.heap[k]?=some o):MarksAt B Ds W:=
 ⟨h.1,fun D hD=>⟨(h.2 D hD).1,hk D _ (h.2 D hD).2 rfl⟩⟩
theorem MarksAt.cons {B D:Nat} {Ds:List Nat} {W:World} (h:MarksAt B Ds W) (hD:∀x∈Ds,x<D) (hB:B<D) (hk:W.heap[D]?=some (.deferred (some []))):MarksAt B (D::Ds) W:=
 ⟨List.nodup_cons.2 ⟨fun hm=>Nat.lt_irrefl _ (hD D hm),h.1⟩,fun x hx=>by
  rcases List.mem_cons.1 hx with rfl|hx
  ·exact⟨hB,hk⟩
  ·exact h.2 x hx⟩
theorem Aside_refl (n:Nat) (A:World):rangeOwn.Aside No n A A:=rangeOwn.Aside.of_below (Below.refl _ _) (Nat.zero_le _) |> fun h=>⟨h.os,h.tape,h.output,h.size,fun _ _ _=>rfl,h.cells⟩
theorem leaves_marks {P:Program} {fn:Func} {tmps:Array Value} {R:Ending->World->Prop} {B:Nat}:∀(Ds:List Nat) (W:World),MarksAt B Ds W ->
  (∀W',rangeOwn.Aside No B W W'->LeavesInM Fence.wide 0 P fn tmps R [] .returning W')->LeavesInM Fence.wide 0 P fn tmps R (Ds.map mkD) .returning W
 |[],W,_,h=>h W (Aside_refl _ _)
 |D::Ds,W,hM,h=>by
  have hD:=hM.2 D List.mem_cons_self
  refine⟨by simp,.inl ⟨D,_,rfl,run_takeDeferred hD.2,?_⟩⟩
  have hA:rangeOwn.Aside No B W (W.putObj D (.deferred none)):=rangeOwn.Aside.putObj _ (by omega) hD.2 rfl
  refine leaves_marks Ds _ ⟨(List.nodup_cons.1 hM.1).2,fun x hx=>⟨(hM.2 x (List.mem_cons_of_mem _ hx)).1,?_⟩⟩ fun W' hW'=>h W' (hA.trans hW')
  exact(World.putObj_heap_other (fun e=>(List.nodup_cons.1 hM.1).1 (by rw[<-e];exact hx))).trans (hM.2 x (List.mem_cons_of_mem _ hx)).2
end
end Go.Proofs.YthgenkkkapilhaaGreatDoor.rangeStr
namespace Go.Proofs.YthgenkkkapilhaaGreatDoor
open Go.Proofs.Tryz
section
open Go.RowKit Go.Shelf
attribute [local go_sem] Oper.semAt_some
def setP (k:Nat) (x:Sgt):Sgt:={ x with piece:=(k:Int) }
def piecsL:Nat->List (List Frm)->List Sgt
 |_,[]=>[]
 |k,g::r=>(sghtL 0 g).map (setP k)++piecsL (k+1) r
theorem piecsL_app:∀(l r:List (List Frm)) (k:Nat),piecsL k (l++r)=piecsL k l++piecsL (k+l.length) r
 |[],r,k=>by simp[piecsL]
 |s::l,r,k=>by
  rw[List.cons_append,piecsL,piecsL,piecsL_app l r (k+1),List.append_assoc,List.length_cons,Nat.add_right_comm,Nat.add_assoc]
theorem piecsL_snoc {gs:List (List Frm)} {k:Nat} {g:List Frm} (h:gs[k]?=some g):piecsL 0 (gs.take (k+1))=piecsL 0 (gs.take k)++(sghtL 0 g).map (setP k):=by
 obtain⟨h1,h2⟩:=List.getElem?_eq_some_iff.1 h;rw[List.take_succ_eq_append_getElem h1,piecsL_app,h2,List.length_take,Nat.min_eq_left (by omega),Nat.zero_add];simp[piecsL]
theorem piecsL_len:∀(gs:List (List Frm)) (k:Nat),(∀g∈gs,852*g.length<=900000)->(piecsL k gs).length<=900000*gs.length
 |[],_,_=>by simp[piecsL]
 |g::r,k,h=>by
  have h1:=piecsL_len r (k+1) fun x hx=>h x (List.mem_cons_of_mem _ hx)
  have h3:=h g List.mem_cons_self
  rw[piecsL,List.length_append,List.length_map,sghtL_len,List.length_cons]
  omega
def PcsO (w:World) (l:List Sgt) (W:World):Prop:=(∃v,Boxed W w.heap.size 78 v/\W.ownsRow w.heap.size 84 14 v l.length (l.flatMap Sgt.cells))/\Below w.heap.size w W
theorem PcsO.moved {w A B:World} {l:List Sgt} {n:Nat} (h:PcsO w l A) (ha:rangeOwn.Aside rangeStr.No n A B) (hn:w.heap.size<=n):PcsO w l B:=by
 obtain⟨⟨v,h1,h2⟩,h4⟩:=h;have hc:∀(k:Nat) (o:Obj),A.heap[k]?=some o->o.isCells=true->B.heap[k]?=some o:=fun k o ho hoc=>ha.cells k o (fun h=>h) ho hoc;exact⟨⟨v,hc _ _ h1 rfl,own_cells h2 hc⟩,⟨ha.os.trans h4.os,ha.tape.trans h4.tape,ha.output.trans h4.output,Nat.le_trans h4.size ha.size,fun k hk=>(ha.low k (by omega) (fun h=>h)).trans (h4.block k hk)⟩⟩
structure PcsI (w:World) (base:List Sgt) (k gk gs:Nat) (s:ByteArray) (Ds:List Nat) (n:Nat) (pre:List Sgt) (W:World):Prop where
 out:PcsO w (base++pre.map (setP k)) W
 num:Boxed W gk 3 (.int .i64 (k:Int))
 str:Boxed W gs 9 (.string s)
 marks:rangeStr.MarksAt w.heap.size Ds W
theorem PcsI.moved {w A B:World} {base pre:List Sgt} {k gk gs n:Nat} {s:ByteArray} {Ds:List Nat} (h:PcsI w base k gk gs s Ds n pre A) (ha:rangeOwn.Aside rangeStr.No n A B) (hn:w.heap.size<=n) (hD:∀D∈Ds,D<n):PcsI w base k gk gs s Ds n pre B:=
 ⟨h.out.moved ha hn,ha.cells _ _ (fun h=>h) h.num rfl,ha.cells _ _ (fun h=>h) h.str rfl,h.marks.moved hD ha⟩
def pcsTmps (vl:Value) (w:World) (gk:Nat) (s:ByteArray) (g n k:Nat) (pt:Value) (gs:Nat) (x u17 u18 u19 u20 u21 u22 u23 u24:Value):Act:=
 { tmps:= #[vl,undef,.slice none 0 0,.pointer (some ⟨w.heap.size,0,none⟩),.pointer (some ⟨gk,0,none⟩),.string s,.pointer (some ⟨g,0,none⟩),vl,.int .i64 (n:Int),.int .i64 (k:Int),.bool true,.int .i64 (k:Int),pt,.string s,.string s,.func (.func 144) #[] #[.pointer (some ⟨gs,0,none⟩)],x,u17,u18,u19,u20,u21,u22,u23,u24],defers:=[] }
def PcsBd (vl:Value) (w:World) (gk:Nat) (s:ByteArray) (n0 n k:Nat) (pt:Value) (gs:Nat) (u17 u18 u19 u20 u21 u22 u23 u24:Value) (x:Sgt) (_:Array Value) (a:Act) (W:World):Prop:=
 ∃g,a=pcsTmps vl w gk s g n k pt gs x.v u17 u18 u19 u20 u21 u22 u23 u24/\Blk W g 84 x.cells/\n0<=g/\∀v,Boxed W w.heap.size 78 v->∀j,v.ownBlock=some j->j≠g
def PcsL (w:World) (vl:Value) (ss:List (List Frm)) (a:Act) (W:World):Prop:=
 ∃(k:Nat) (Ds:List Nat) (u4 u5 u6 u10 u11 u12 u13 u14 u15 u16 u17 u18 u19 u20 u21 u22 u23 u24:Value),a={ tmps:= #[vl,undef,.slice none 0 0,.pointer (some ⟨w.heap.size,0,none⟩),u4,u5,u6,vl,.int .i64 (ss.length:Int),.int .i64 (k:Int),u10,u11,u12,u13,u14,u15,u16,u17,u18,u19,u20,u21,u22,u23,u24],defers:=Ds.map rangeStr.mkD } /\
  k<=ss.length/\PcsO w (piecsL 0 (ss.take k)) W/\rangeStr.MarksAt w.heap.size Ds W
theorem own_blk_ne {w:World} {B n size g:Nat} {t:TypeId} {v:Value} {xs:List Value} (h:w.ownsRow B t size v n xs) (hg:w.heap.size<=g):∀j,v.ownBlock=some j->j≠g:=fun j hj=>by have:=(h.lt j hj).2;omega
theorem Boxed.inj {W:World} {B:Nat} {t:TypeId} {u v:Value} (h:Boxed W B t u) (k:Boxed W B t v):u=v:=by
 have h2:=(show W.heap[B]?=_ from h).symm.trans k;simpa using h2
theorem own_far {W:World} {B n size:Nat} {t:TypeId} {v:Value} {xs:List Value} (h:W.ownsRow B t size v n xs) {p:Addr} (hne:∀j,v.ownBlock=some j->j≠p.block) (u:Value):(W.setCell p u).ownsRow B t size v n xs:=
 ⟨h.1,h.2.imp id fun⟨g,cap,cur,e,hb,hg,r⟩=>⟨g,cap,cur,e,hb,(Below.heap_setCell _ _ _ _ (by subst e;exact hne g rfl)).trans hg,r⟩⟩
theorem scpieces_ok (w:World) (vl:Value) (ss:List (List Frm)) (hv:SeqAt strS w vl (ss.map fun g=>strB (celsL g))) (hl:ss.length<=1000000) (hs:∀g∈ss,852*g.length<=900000) (ha:∀g∈ss,∀f∈g,FrmOk f):
  Calls prog 34 #[vl] w fun e w'=>∃v,e=.returned v/\SgtsAt w' v (piecsL 0 ss)/\Below w.heap.size w w':=by
 have Hv:=zY (seq_strv hv);have Hs:=zY hs;have Ha:=zY ha;obtain⟨A,cv,rfl,hv1⟩:=hv;rw[List.length_map]at Hv⊢;clear hv1 hs ha;have hbx0:=Boxed.new w 78 (.slice none 0 0);have hO0:Hid (PcsO w (piecsL 0 (ss.take 0)) (w.alloc (.cells #[.slice none 0 0] 78))):=zY ⟨⟨_,hbx0,World.ownsRow_nil _ _ _ _⟩,(Below.refl _ _).alloc (Nat.le_refl _) _⟩;clear hbx0;refine(callsIn_wide (n:=0)).1 ?_;refine callsIn_of_wp_marks func34 rfl trivial ?_ rfl;simp only[ntmps34,List.size_toArray,List.length_cons,List.length_nil,Nat.reduceAdd,Nat.reduceSub,Array.replicate_succ,Array.replicate_zero,List.push_toArray,List.append_toArray,List.nil_append,List.cons_append];gi_wp2;refine wpIn_loop (PcsL w (.slice A ss.length cv) ss) (fun a _=>ss.length-(intOf (a.tmps.getD 9 undef)).toNat) ⟨0,[],_,_,_,_,_,_,_,_,_,_,_,_,_,_,_,_,_,_,rfl,by omega,hO0.out,rangeStr.MarksAt.nil _ _⟩ ?_;rintro _ W ⟨k,Ds,u4,u5,u6,u10,u11,u12,u13,u14,u15,u16,u17,u18,u19,u20,u21,u22,u23,u24,rfl,hk,hO,hM⟩;clear hO0;have HO:=zY hO;have HM:=zY hM;clear hO hM;by_cases h:k<ss.length;{
 have hkI:(k:Int)<ss.length:=by omega
 obtain⟨g0,hf⟩:∃g0,ss[k]?=some g0:=⟨_,List.getElem?_eq_getElem h⟩;have hsz:=Hs.out g0 (List.mem_of_getElem? hf);have Hg:=zY (sights_ok g0 (Ha.out g0 (List.mem_of_getElem? hf)));obtain⟨s,hse⟩:=zNm (strB (celsL g0));rw[hse]at Hg;obtain⟨_,_,e9,h4⟩:=Hv.below HO.2;rw[List.length_map]at e9;cases e9;obtain⟨bb,o,rfl,hc⟩:=h4 k s (by rw[List.getElem?_map,hf,<-hse];rfl);have Hf:=zY hf;have hpk:(piecsL 0 (ss.take k)).length<=900000*k:=by have h1:=piecsL_len (ss.take k) 0 fun x hx=>Hs.out x (List.mem_of_mem_take hx);rw[List.length_take,Nat.min_eq_left hk]at h1;exact h1
 obtain⟨base,hbase⟩:=zNm (piecsL 0 (ss.take k));rw[hbase]at HO hpk;have Hbase:=zY hbase;have HsM:=zY Hs.out;clear h4 hf hbase Hs hse;gi_wp2_with (refine⟨trivial,rfl,?_⟩;gi_at_call 79;refine(callsIn_wide.2 (scsights_any _ _)).mono ?_;rintro e w' ⟨rfl,rfl⟩);clear hc;have hBW:=HO.2.size;obtain⟨vo,hvo,hwo⟩:=HO.1;have hvlt:=hvo.lt;obtain⟨W0,hW0⟩:=zNm ((W.alloc (.cells #[.int .i64 (k:Int)] 3)).alloc (.cells #[.string s] 9));have hsz0:W0.heap.size=W.heap.size+1+1:=by rw[<-hW0];simp
 have hbn:Below W.heap.size W W0:=by rw[<-hW0];exact(((Below.refl _ _).alloc (Nat.le_refl _) _).alloc (by simp) _)
 have hnum:Boxed W0 W.heap.size 3 (.int .i64 (k:Int)):=by rw[<-hW0];exact(Boxed.new W 3 _).alloc _
 have hbx:Boxed W0 (W.heap.size+1) 9 (.string s):=by rw[<-hW0];have:=Boxed.new (W.alloc (.cells #[.int .i64 (k:Int)] 3)) 9 (.string s);simpa using this
 have hA0:rangeOwn.Aside rangeStr.No W.heap.size W W0:=rangeOwn.Aside.of_below hbn (Nat.le_refl _);have hDlt:∀D∈Ds,D<W.heap.size:=fun D hD=>HM.lt D hD;have hI0:PcsI w base k W.heap.size (W.heap.size+1) s Ds W0.heap.size [] W0:=⟨by simpa using HO.moved hA0 hBW,hnum,hbx,HM.moved hDlt hA0⟩;have hIt:=Hg.out (W.heap.size+1) W0 (by omega) hbx;have hnlt:w.heap.size<W0.heap.size:=by omega
 have hslen:(sghtL 0 g0).length<=900000:=by rw[sghtL_len];omega
 have hDl0:∀D∈Ds,D<W0.heap.size:=fun D hD=>by have:=hDlt D hD;omega
 rw[hW0];clear hW0 hbx hnum hbn hA0 hvo hwo HO HM;refine rangeStr.wpIn_rangeFunc_boxX (gf:=144) (lb:= #[.pointer (some ⟨W.heap.size+1,0,none⟩)]) rfl (enters_of func144 (by kernel_rfl) rfl) hIt (fun _ h=>h.elim)
  (fun x args W hr=>by rw[show args= #[x.v] from hr];rfl)
  (fun args V=>pcsTmps (.slice (some ⟨bb,o,none⟩) ss.length cv) w W.heap.size s V.heap.size ss.length k (.pointer (some ⟨bb,o+k,none⟩)) (W.heap.size+1) (args.getD 0 undef) u17 u18 u19 u20 u21 u22 u23 u24) (fun args V=>V.alloc (.cells (aggOf (args.getD 0 undef)) 84)) (fun args V=>(Below.refl _ _).alloc (Nat.le_refl _) _)
  (PcsI w base k W.heap.size (W.heap.size+1) s Ds W0.heap.size)
  (PcsBd (.slice (some ⟨bb,o,none⟩) ss.length cv) w W.heap.size s W0.heap.size ss.length k (.pointer (some ⟨bb,o+k,none⟩)) (W.heap.size+1) u17 u18 u19 u20 u21 u22 u23 u24)
  (fun pre x args V hsz hI hr=>by
   obtain⟨v,hv,hown⟩:=hI.out.1
   rw[show args= #[x.v] from hr]
   exact⟨V.heap.size,rfl,Blk.new V 84 x.cells,by omega,fun v' hv'=>by obtain rfl:=Boxed.inj (hv.alloc _) hv';exact own_blk_ne hown (Nat.le_refl _)⟩)
  (fun x args a A B hbd _ ha=>by
   obtain⟨g,h1,h2,h3,h4⟩:=hbd
   exact⟨g,h1,ha.cells _ _ (fun h=>h) h2 rfl,h3,fun v hv=>h4 v ((ha.low w.heap.size hnlt (fun h=>h)).symm.trans hv)⟩)
  (fun q X Y hq _ ha=>hq.moved ha (by omega) hDl0) hI0 ?assign ?body ?done;case assign=>intro l x args V K hr hK;obtain rfl:args= #[x.v]:=hr;obtain⟨pc,at_,⟨k0,r,q,c,l1,d,p,a,t⟩,⟨x,y,z⟩⟩:=x;simp only[Sgt.v,pcsTmps,aggOf,Array.getD,List.size_toArray,List.length_cons,List.length_nil,Nat.zero_add,Nat.lt_add_one,dite_true,List.getElem_toArray,List.getElem_cons_zero,Array.getInternal_eq_getElem]at hK⊢;gi_wp2;exact hK
 case body=>(
 intro l pre x args a' V hsz hI hbd hpre;obtain⟨g,rfl,hblk,hg0,hgv⟩:=hbd;obtain⟨⟨⟨v,hv,hown⟩,hbel⟩,hnum,hstr,hmk⟩:=hI;have hncell:=hnum.cell;have hgfr:=hblk.frozen 0;have hvg:=hgv v hv;have hgB:w.heap.size≠g:=by omega
 have hgk:W.heap.size≠g:=by omega
 have hgs:W.heap.size+1≠g:=by omega
 obtain⟨pc,at_,⟨k0,r,q,c,l1,d,p,a,t⟩,⟨x,y,z⟩⟩:=x;have hg0c:=hblk.c 0;have hblk2:=hblk.set 0 (.int .i64 (k:Int));change Blk _ _ _ [.int .i64 (k:Int),.int .i64 (at_:Int),.int .i64 k0,.int .i64 r,.int .i64 q,.int .i64 c,.int .i64 l1,.int .i64 d,.int .i64 p,.int .u32 a,.string t,.int .i64 x,.int .i64 y,.int .i64 z]at hblk2;have hv2:Boxed (V.setCell ⟨g,0,none⟩ (.int .i64 (k:Int))) w.heap.size 78 v:=hv.other hgB _;have hnum2:Boxed (V.setCell ⟨g,0,none⟩ (.int .i64 (k:Int))) W.heap.size 3 (.int .i64 (k:Int)):=hnum.other hgk _;have hstr2:Boxed (V.setCell ⟨g,0,none⟩ (.int .i64 (k:Int))) (W.heap.size+1) 9 (.string s):=hstr.other hgs _;have hown2:=own_far (p:=⟨g,0,none⟩) hown hvg (.int .i64 (k:Int));have hbel2:=hbel.setCell (p:=⟨g,0,none⟩) (show w.heap.size<=g by omega) (.int .i64 (k:Int));have hoth:∀(j:Nat) (o:Obj),V.heap[j]?=some o->o.isCells=false->(V.setCell ⟨g,0,none⟩ (.int .i64 (k:Int))).heap[j]?=some o:=fun j o hj ho=>by
  refine(Below.heap_setCell _ _ _ _ (show j≠g from fun e=>?_)).trans hj
  subst e
  rw[show V.heap[j]?=_ from hblk]at hj
  cases hj
  cases ho
 have hmk2:=hmk.kept hoth;have HstrV:=zY hstr;have hszV:(V.setCell ⟨g,0,none⟩ (.int .i64 (k:Int))).heap.size=V.heap.size:=by simp
 obtain⟨X,hX⟩:∃X:Sgt,X=⟨pc,at_,⟨k0,r,q,c,l1,d,p,a,t⟩,⟨x,y,z⟩⟩:=⟨_,rfl⟩;rw[<-hX];unfold pcsTmps Sgt.v;gi_upto_region 8 with fail;have Hoth:=zY hoth;clear hncell hgfr hg0c hblk hv hnum hstr hown hbel hmk hgv hvg hoth;generalize V.setCell ⟨g,0,none⟩ (.int .i64 (k:Int))=V2 at *;have hcell:=hv2.cell;have hfr:=hv2.frozen;have e0:=hblk2.c 0;have e1:=hblk2.c 1;have e2:=hblk2.c 2;have e3:=hblk2.c 3;have e4:=hblk2.c 4;have e5:=hblk2.c 5;have e6:=hblk2.c 6;have e7:=hblk2.c 7;have e8:=hblk2.c 8;have e9:=hblk2.c 9;have e10:=hblk2.c 10;have e11:=hblk2.c 11;have e12:=hblk2.c 12;have e13:=hblk2.c 13;have hXc:[.int .i64 (k:Int),.int .i64 (at_:Int),.int .i64 k0,.int .i64 r,.int .i64 q,.int .i64 c,.int .i64 l1,.int .i64 d,.int .i64 p,.int .u32 a,.string t,.int .i64 x,.int .i64 y,.int .i64 z]=(setP k X).cells:=by rw[hX];rfl
 have hpl:pre.length+1<=900000:=by have h1:=hpre.length_le;rw[List.length_append,List.length_singleton]at h1;omega
 obtain⟨nb,hnb⟩:=zNm ((base++pre.map (setP k)).length);have hnb2:nb+1<=900000*k+900001:=by rw[<-hnb,List.length_append,List.length_map];omega
 have hpx:(base++(pre++[X]).map (setP k)).flatMap Sgt.cells=(base++pre.map (setP k)).flatMap Sgt.cells++[.int .i64 (k:Int),.int .i64 (at_:Int),.int .i64 k0,.int .i64 r,.int .i64 q,.int .i64 c,.int .i64 l1,.int .i64 d,.int .i64 p,.int .u32 a,.string t,.int .i64 x,.int .i64 y,.int .i64 z]:=by rw[List.map_append,<-List.append_assoc,List.flatMap_append,hXc];simp
 have hpl2:(base++(pre++[X]).map (setP k)).length=nb+1:=by rw[List.map_append,<-List.append_assoc,List.length_append,hnb];rfl
 rw[hnb]at hown2;obtain⟨i0,hi,hz0,hz1,hz2⟩:=info_parts Tryz.infoSight;have hnew:=Blk.new V2 84 [.int .i64 (k:Int),.int .i64 (at_:Int),.int .i64 k0,.int .i64 r,.int .i64 q,.int .i64 c,.int .i64 l1,.int .i64 d,.int .i64 p,.int .u32 a,.string t,.int .i64 x,.int .i64 y,.int .i64 z];change Blk (V2.alloc (.cells #[.int .i64 (k:Int),.int .i64 (at_:Int),.int .i64 k0,.int .i64 r,.int .i64 q,.int .i64 c,.int .i64 l1,.int .i64 d,.int .i64 p,.int .u32 a,.string t,.int .i64 x,.int .i64 y,.int .i64 z] 84)) _ _ _ at hnew;have hnews:∀(j:Nat) (u:Value),([.int .i64 (k:Int),.int .i64 (at_:Int),.int .i64 k0,.int .i64 r,.int .i64 q,.int .i64 c,.int .i64 l1,.int .i64 d,.int .i64 p,.int .u32 a,.string t,.int .i64 x,.int .i64 y,.int .i64 z]:List Value)[j]?=some u->(V2.alloc (.cells #[.int .i64 (k:Int),.int .i64 (at_:Int),.int .i64 k0,.int .i64 r,.int .i64 q,.int .i64 c,.int .i64 l1,.int .i64 d,.int .i64 p,.int .u32 a,.string t,.int .i64 x,.int .i64 y,.int .i64 z] 84)).cell? ((⟨V2.heap.size,0,none⟩:Addr).add j)=some u:=fun j u hj=>by
  rw[Addr.add_lit,Nat.zero_add]
  exact hnew.cell hj
 have hone:∀u∈([.int .i64 (k:Int),.int .i64 (at_:Int),.int .i64 k0,.int .i64 r,.int .i64 q,.int .i64 c,.int .i64 l1,.int .i64 d,.int .i64 p,.int .u32 a,.string t,.int .i64 x,.int .i64 y,.int .i64 z]:List Value),u.oneCell'=true:=by simp[Value.oneCell']
 have Hnews:=zY hnews;have Hone:=zY hone;have Hown:=zY (hown2.alloc (.cells #[.int .i64 (k:Int),.int .i64 (at_:Int),.int .i64 k0,.int .i64 r,.int .i64 q,.int .i64 c,.int .i64 l1,.int .i64 d,.int .i64 p,.int .u32 a,.string t,.int .i64 x,.int .i64 y,.int .i64 z] 84));have Hown0:=zY hown2;have Hv:=zY hv2;have Hnum:=zY hnum2;have Hstr:=zY hstr2;have Hbel:=zY hbel2;have Hmk:=zY hmk2;have Hpx:=zY hpx;have Hpl2:=zY hpl2;have Hinfo:Hid (prog.info? 84=some i0/\i0.zero=some (.agg zero14.toArray)/\i0.size=14/\i0.bytes=120):=zY ⟨hi,hz0,hz1,hz2⟩;have hWz:=hbel2.size;have Hgne:Hid (w.heap.size≠W.heap.size/\w.heap.size≠W.heap.size+1):=zY ⟨by omega,by omega⟩;have HszV:=zY hszV;clear hszV hX hXc hpre hpx hpl2 hi hz0 hz1 hz2 hnew hnews hone hown2 hv2 hnum2 hstr2 hbel2 hmk2 hIt hI0 hblk2 hnb
 gi_wp2_with (gi_at_builtin;refine wpListIn_append_own _ rfl _ _ 78 rfl w.heap.size 84 i0 (.agg zero14.toArray) 14 120 underlying78 Hinfo.1 Hinfo.2.1 Hinfo.2.2.1 Hinfo.2.2.2 rfl (by omega) v nb _ rfl Hown.out ⟨V2.heap.size,0,none⟩ 1 1 _ rfl rfl Hnews.out Hone.out (by unfold maxLen;omega) (by omega) (by simp;omega) ?_;intro v' w1 hown1 hgr1 _;obtain⟨g',cap',rfl⟩:=ownsRow_succ hown1;obtain⟨hv1,hv2,hr2,hk2,hb2⟩:=Boxed.appended Hv.out (by decide) Hown0.out hWz (Nat.le_refl _) hown1 hgr1;have hc1:=hv1.cell;have hf1:=hv1.frozen;have hn1:Boxed w1 W.heap.size 3 (.int .i64 (k:Int)):=(Hnum.alloc _).kept hgr1 (Hnum.not_row (by decide) Hown0.out);have hs1:Boxed w1 (W.heap.size+1) 9 (.string s):=(Hstr.alloc _).kept hgr1 (Hstr.not_row (by decide) Hown0.out);have Hv2:=zY hv2;have Hr2:=zY hr2;have Hk2:=zY hk2;have Hb2:=zY hb2;have Hn1:=zY hn1;have Hs1:=zY hs1;clear hown1 hgr1 hv1 hv2 hr2 hk2 hb2 hs1 hn1);refine⟨⟨by have:=Hk2.size;have:=HszV.out;omega,fun k0 o0 hko hor=>?_⟩,⟨⟨_,Hv2.out,by rw[Hpl2.out,Hpx.out];exact Hr2.out⟩,Hbel.trans Hb2.out⟩,Hn1.other Hgne.1.symm _,Hs1.other Hgne.2.symm _,Hmk.kept fun j o hj ho=>Hk2.same j o hj ho⟩;rcases hor with h|rfl;{exact Hk2.same k0 o0 (Hoth.out _ _ hko h) h};{
 rw[show V.heap[W.heap.size+1]?=_ from HstrV.out]at hko;cases hko;exact Hs1.other Hgne.2.symm _})
 case done=>
 intro D V hD hI hk2;have Hk2:=zY hk2;have HI:=zY hI;clear hI0 hIt hk2 hI;gi_wp2;refine⟨⟨k+1,D::Ds,_,_,_,_,_,_,_,_,_,_,_,_,_,_,_,_,_,_,rfl,by omega,?_,?_⟩,?_⟩;{
 rw[piecsL_snoc Hf.out,Hbase.out];exact HI.out.out};{exact HI.marks.cons (fun x hx=>by have:=hDl0 x hx;omega) (by omega) Hk2.out};{
 simp[intOf];omega}};{
 obtain rfl:k=ss.length:=by omega
 obtain⟨⟨v,hv,hown⟩,hbel⟩:=HO.out;have hcell:=hv.cell;rw[List.take_length]at hown;have Hown:=zY hown;have Hbel:=zY hbel;have hfin:∃A n c,v=.slice A n c:=by rcases hown.2 with⟨rfl,_⟩|⟨g,cap,_,rfl,_⟩;{exact⟨_,_,_,rfl⟩};{exact⟨_,_,_,rfl⟩}
 obtain⟨A2,n2,c2,rfl⟩:=hfin;clear hv hown hbel HO;gi_wp2;refine rangeStr.leaves_marks Ds W HM.out fun W' hA=>⟨_,results_tmp rfl _ _ _,_,rfl,SgtsAt.of_own (own_cells Hown.out fun j o ho hc=>hA.cells j o (fun h=>h) ho hc),?_⟩
 exact⟨hA.os.trans Hbel.os,hA.tape.trans Hbel.tape,hA.output.trans Hbel.output,Nat.le_trans Hbel.size hA.size,fun j hj=>(hA.low j hj (fun h=>h)).trans (Hbel.block j hj)⟩}
end
end Go.Proofs.YthgenkkkapilhaaGreatDoor