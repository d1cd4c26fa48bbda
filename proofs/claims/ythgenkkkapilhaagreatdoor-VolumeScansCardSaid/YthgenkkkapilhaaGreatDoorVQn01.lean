/-
  Joined: StrW VoB VoC.
-/
import Derived.Test.YthgenkkkapilhaaGreatDoorVQn00
import Derived.StillTailTactics
set_option linter.all false
set_option maxRecDepth 100000
set_option maxHeartbeats 64000000
namespace Go.Proofs.YthgenkkkapilhaaGreatDoor
open Go.Proofs.Tryz
section
open Go.RowKit
theorem strB_eq (l:List Nat):strB l=⟨(l.map UInt8.ofNat).toArray⟩:=rfl
theorem mem_bs {s:ByteArray} {b:Nat}:b∈bs s↔∃c∈s.data.toList,c.toNat=b:=by unfold bs;rw[List.mem_map]
theorem trimS_nil (l cs:List UInt8):Lib.trimS l cs=[]↔∀b∈l,b∈cs:=by
 have hdw:∀(p:UInt8->Bool) (l:List UInt8),l.dropWhile p=[]↔∀b∈l,p b=true:=by{
 intro p l;induction l with
 |nil=>simp
 |cons a l ih=>
 by_cases h:p a=true;{
 rw[List.dropWhile_cons_of_pos h,ih];simp[h]};{
 rw[List.dropWhile_cons_of_neg h];simp[h]}};constructor;{
 intro h b hb;unfold Lib.trimS Lib.trimLeftS at h;have h1:=(hdw _ _).1 h;unfold Lib.trimRightS at h1;by_cases h2:(l.reverse.dropWhile (cs.contains ·))=[];{
 have h3:=(hdw _ _).1 h2 b (by simpa using hb);simpa using h3};{
 exfalso;cases h4:l.reverse.dropWhile (cs.contains ·)with
 |nil=>exact h2 h4
 |cons a r=>
 have h5:=List.head?_dropWhile_not (cs.contains ·) l.reverse;rw[h4]at h5;have h6:=h1 a (by rw[h4];simp);simp only[List.head?_cons]at h5;rw[h6]at h5;cases h5}};{
 intro h;have h2:l.reverse.dropWhile (cs.contains ·)=[]:=(hdw _ _).2 fun b hb=>by
  have:=h b (by simpa using hb)
  simpa using this
 unfold Lib.trimS Lib.trimRightS;rw[h2];rfl}
def allIn (cut:List Nat) (l:List Nat):Bool:=l.all fun b=>cut.contains b
theorem trim_any (w:World) (s cut:ByteArray) (hs:s.size<=1000000) (hc:cut.size<1000000) (ha:cut.data.toList.all (fun b=>decide (b.toNat<128))=true):
  Calls prog 57 #[.string s,.string cut] w fun e w'=>∃t,e=.returned (.string t)/\t.toList.isEmpty=allIn (bs cut) (bs s)/\Below w.heap.size w w':=by
 refine(Tryz.strings_Trim_laid s cut w (by omega) (by omega) (ascii_of_all ha)).mono fun e w' ⟨he,hb⟩=>⟨_,he,?_,hb⟩
 have h1:((⟨(Lib.trimS s.data.toList cut.data.toList).toArray⟩:ByteArray).toList.isEmpty=true)↔Lib.trimS s.data.toList cut.data.toList=[]:=by rw[Lib.toList_data,List.isEmpty_iff]
 rw[Bool.eq_iff_iff,h1,trimS_nil];unfold allIn;rw[List.all_eq_true];constructor;{
 intro h b hb;obtain⟨c,hc,rfl⟩:=mem_bs.1 hb;rw[List.contains_iff_mem];exact mem_bs.2 ⟨c,h c hc,rfl⟩};{
 intro h b hb;have:=h b.toNat (mem_bs.2 ⟨b,hb,rfl⟩);rw[List.contains_iff_mem]at this;obtain⟨c,hc,e⟩:=mem_bs.1 this;rwa [UInt8.toNat_inj.1 e]at hc}
theorem count_any (w:World) (s:ByteArray) (c:UInt8):Calls prog 274 #[.string s,.string ⟨#[c]⟩] w fun e w'=>e=.returned (.int .i64 ((bs s).count c.toNat:Nat))/\w=w':=by
 refine(Tryz.strings_Count_one s c w).mono fun e w' ⟨he,hw⟩=>⟨?_,hw.symm⟩
 rw[he];unfold Lib.countByte bs;have:∀l:List UInt8,(l.map (·.toNat)).count c.toNat=l.count c:=by{
 intro l;induction l with
 |nil=>rfl
 |cons a l ih=>
 rw[List.map_cons,List.count_cons,List.count_cons,ih];by_cases h:a=c;{subst h;simp};{
 have h2:a.toNat≠c.toNat:=fun e=>h (UInt8.toNat_inj.1 e);simp[h,h2]}};rw[this]
theorem indexByte_neg (l:List UInt8) (c:UInt8):(0<=Lib.indexByte l c)↔c∈l:=by
 induction l with
 |nil=>simp[Lib.indexByte]
 |cons b l ih=>
 unfold Lib.indexByte;have hge:=Lib.indexByte_ge l c;by_cases h:b=c;{subst h;simp};{
 have h1:(b==c)=false:=by simpa using h
 rw[h1];simp only[Bool.false_eq_true,if_false,List.mem_cons];split;{
 rename_i h2
 have h2:Lib.indexByte l c= -1:=by simpa using h2
 have h3:¬c∈l:=fun h3=>by have:=ih.2 h3;omega
 simp[h3,Ne.symm h]};{
 rename_i h2
 have h2:Lib.indexByte l c≠ -1:=by simpa using h2
 have h3:c∈l:=ih.1 (by omega);constructor;{exact fun _=>.inr h3};{exact fun _=>by omega}}}
theorem contains_any (w:World) (s:ByteArray) (c:UInt8):Calls prog 275 #[.string s,.string ⟨#[c]⟩] w fun e w'=>e=.returned (.bool ((bs s).contains c.toNat))/\w=w':=by
 refine(Tryz.strings_Contains_one s c w).mono fun e w' ⟨he,hw⟩=>⟨?_,hw.symm⟩
 rw[he];congr 2;rw[Bool.eq_iff_iff,decide_eq_true_eq,List.contains_iff_mem,indexByte_neg,mem_bs];constructor;{exact fun h=>⟨c,h,rfl⟩};{
 rintro⟨d,h,e⟩;rwa [UInt8.toNat_inj.1 e]at h}
theorem repeat_any (w:World) (c:UInt8) (n:Nat) (hn:n<=1000000):Calls prog 55 #[.string ⟨#[c]⟩,.int .i64 (n:Int)] w fun e w'=>e=.returned (.string (strB (List.replicate n c.toNat)))/\Below w.heap.size w w':=by
 refine(Tryz.strings_Repeat ⟨#[c]⟩ n w (by omega) (by show 1*n<=_;omega)).mono fun e w' ⟨he,hb⟩=>⟨?_,hb⟩
 rw[he,strB_eq];congr 3;have:∀n,Lib.repeatL [c] n=List.replicate n c:=by{
 intro n;induction n with
 |zero=>rfl
 |succ n ih=>rw[Lib.repeatL,ih];rfl};show (Lib.repeatL [c] n).toArray=_;rw[this,List.map_replicate];simp
def cellSet:List Nat:=[48,49,63]
def cellsOK (l:List Nat):Bool:=allIn cellSet l
def chkE (l:List Nat):Int:=if cellsOK l then 0 else 3
theorem ccheck_any (w:World) (s:ByteArray) (hs:s.size<=1000000):Calls prog 195 #[.string s] w fun e w'=>e=.returned (.int .i64 (chkE (bs s)))/\Below w.heap.size w w':=by
 have Ht:=zY (trim_any w s ⟨#[48,49,63]⟩ hs (by decide) (by decide));cases h:cellsOK (bs s)with
 |true=>(
 have He:Hid (chkE (bs s)=0):=zY (by unfold chkE;rw[h];rfl);have Hh:=zY h;clear h;go_enter func195,ntmps195;go_wp2_with fail;refine Ht.mono ?_;rintro e w1 ⟨t,rfl,ht,hb⟩;have ht1:t.toList.isEmpty=true:=ht.trans Hh.out;have ht2:(!t.toList.isEmpty)=false:=by rw[ht1];rfl
 have Hb:=zY hb;clear ht hb;go_wp2;go_ret;exact⟨ret_num (by rw[He.out]),Hb.out⟩)
 |false=>
 have He:Hid (chkE (bs s)=3):=zY (by unfold chkE;rw[h];rfl);have Hh:=zY h;clear h;go_enter func195,ntmps195;go_wp2_with fail;refine Ht.mono ?_;rintro e w1 ⟨t,rfl,ht,hb⟩;have ht1:t.toList.isEmpty=false:=ht.trans Hh.out;have ht2:(!t.toList.isEmpty)=true:=by rw[ht1];rfl
 have Hb:=zY hb;clear ht hb;go_wp2;go_ret;exact⟨ret_num (by rw[He.out]),Hb.out⟩
theorem cunr_any (w:World) (s:ByteArray):Calls prog 196 #[.string s] w fun e w'=>e=.returned (.int .i64 ((bs s).count 63:Nat))/\w=w':=by
 have Ht:=zY (count_any w s 63);go_enter func196,ntmps196;go_wp2_with (go_at_call 274;refine Ht.mono ?_;rintro e w' ⟨rfl,rfl⟩);go_ret;exact⟨rfl,rfl⟩
abbrev Bld (w:World) (B b:Nat) (l:List Nat):Prop:=Lib.IsBuilderF 135 5 B b (l.map u8V) w
theorem Bld.new (w:World):Bld (w.alloc (.cells #[.pointer none,.slice none 0 0] 135)) w.heap.size w.heap.size []:=Lib.IsBuilderF.of (Lib.fresh_isBuilder 135 5 w)
theorem wb_any (w:World) (B b:Nat) (l:List Nat) (c:Nat) (h:Bld w B b l) (hl:l.length<=1000000) (hB:B<=w.heap.size):
  Calls prog 248 #[.pointer (some ⟨b,0,none⟩),.int .u8 (c:Int)] w fun e w'=>e=.returned .nilIface/\Bld w' B b (l++[c])/\Below B w w':=by
 refine(Tryz.Builder_WriteByte_k B b _ (c:Int) w h (by rw[List.length_map];omega) hB).mono fun e w' ⟨he,h1,hb,_⟩=>⟨he,?_,hb⟩
 have:=Or.inr (a:=Lib.BuilderAtF 135 5 B b (.pointer none) (l.map u8V++[.int .u8 (c:Int)]) w') h1;show Lib.IsBuilderF _ _ _ _ ((l++[c]).map u8V) _;rw[List.map_append];exact this
theorem ws_any (w:World) (B b:Nat) (l:List Nat) (s:ByteArray) (h:Bld w B b l) (hl:l.length<=1000000) (hs:s.size<=1000000) (hB:B<=w.heap.size):
  Calls prog 64 #[.pointer (some ⟨b,0,none⟩),.string s] w fun e w'=>e=.returned (.tuple #[.int .i64 s.size,.nilIface])/\Bld w' B b (l++bs s)/\Below B w w':=by
 refine(Tryz.Builder_WriteString_k B b _ s w h (by rw[List.length_map];omega) hB).mono fun e w' ⟨he,h1,hb,_⟩=>⟨he,?_,hb⟩
 have:=Or.inr (a:=Lib.BuilderAtF 135 5 B b (.pointer none) (l.map u8V++Lib.strCells s) w') h1;have e1:(l++bs s).map u8V=l.map u8V++Lib.strCells s:=by rw[List.map_append];unfold Lib.strCells bs;rw[List.map_map];rfl
 show Lib.IsBuilderF _ _ _ _ _ _;rw[e1];exact this
theorem str_any (w:World) (B b:Nat) (l:List Nat) (hl:Bytes l) (h:Bld w B b l) (hB:B<=w.heap.size):
  Calls prog 65 #[.pointer (some ⟨b,0,none⟩)] w fun e w'=>e=.returned (.string (strB l))/\Bld w' B b l/\Below B w w':=by
 have e1:Lib.byteCells (l.map UInt8.ofNat)=l.map u8V:=by unfold Lib.byteCells;rw[List.map_map];refine List.map_congr_left fun x hx=>?_;have:=hl x hx;simp[Nat.mod_eq_of_lt this]
 refine(Tryz.Builder_String_any_k B b (l.map UInt8.ofNat) w (by rw[e1];exact h) hB).mono fun e w' ⟨he,h1,hb,_⟩=>⟨he,?_,hb⟩
 rw[e1]at h1;exact h1
def pk (l:List Nat):Nat->Nat
 |0=>0
 |k+1=>2*pk l k+(if cf l k=49 then 1 else 0)
theorem pk_lt (l:List Nat):∀k,pk l k<2^k
 |0=>by unfold pk;omega
 |k+1=>by
  have:=pk_lt l k
  unfold pk
  rw[Nat.pow_succ]
  split<;>omega
theorem pk_congr {l r:List Nat}:∀k,(∀j,j<k->cf l j=cf r j)->pk l k=pk r k
 |0,_=>rfl
 |k+1,h=>by
  unfold pk
  rw[pk_congr k fun j hj=>h j (by omega),h k (by omega)]
def byteOf (l:List Nat) (i:Nat):Nat:=pk (l.drop (8*i)) 8
def toB (l:List Nat):List Nat:=(List.range (l.length/8)).map (byteOf l)
theorem bsc (s:ByteArray) (k:Nat) (h:k<s.size):cf (bs s) k=(s[k]'h).toNat:=cf_get (bs_get s k h)
abbrev B01 (l:List Nat):Prop:=∀c∈l,c=48∨c=49
theorem u8_or1 {a:Nat} (h:a<128):bits .or .u8 ((2*a:Nat):Int) 1=((2*a+1:Nat):Int):=by
 have:allB 128 (fun a=>bits .or .u8 ((2*a:Nat):Int) 1==((2*a+1:Nat):Int))=true:=by decide +kernel
 simpa using allB_out this a h
theorem cells_01 {l:List Nat} (h:B01 l):cellsOK l=true:=by
 unfold cellsOK allIn cellSet;rw[List.all_eq_true];intro b hb;rcases h b hb with rfl|rfl<;>rfl
theorem cto_any (w:World) (s:ByteArray) (hs:s.size<=100000) (h8:s.size%8=0) (h01:B01 (bs s)):Calls prog 197 #[.string s] w fun e w'=>e=.returned (.tuple #[.string (strB (toB (bs s))),.slice none 0 0,.int .i64 0])/\Below w.heap.size w w':=by
 have hck:=ccheck_any w s (by omega);have e0:chkE (bs s)=0:=by unfold chkE;rw[cells_01 h01];rfl
 rw[e0]at hck;have Hck:=zY hck;obtain⟨n,hn⟩:∃n,s.size=8*n:=⟨s.size/8,by omega⟩;have hI8:((s.size:Int)%8 != 0)=false:=by rw[bne_eq_false_iff_eq];omega
 have hd:(s.size:Int)/8=n:=by omega
 have Hn:=zY hn;have H01:=zY h01;have H8:=zY h8;have hn1:n<=20000:=by omega
 have hn2:8*n<=s.size:=by omega
 clear hck e0 hn h8 h01;go_enter func197,ntmps197;go_wp2_with fail;refine Hck.mono ?_;rintro e w1 ⟨rfl,hb⟩;have Hb:=zY hb;clear hb Hck;go_wp2;go_loopw [7,24] (fun op x wr=>∃i:Nat,i<=n/\x=.int .i64 i/\op=.slice none 0 0/\Bld wr w1.heap.size w1.heap.size ((List.range i).map (byteOf (bs s)))/\Below w1.heap.size w1 wr) (fun _ x _=>n-(intOf x).toNat);case atStart=>exact⟨0,by omega,rfl,rfl,Bld.new w1,(Below.refl _ _).alloc (Nat.le_refl _) _⟩
 case round=>
 obtain⟨i,hi,rfl,rfl,hbl,hB⟩:=hrel;have Hbl:=zY hbl;have HBr:=zY hB;clear hbl hB;by_cases h:i<n;{
 have hiI:(i:Int)<n:=by omega
 have hix:i*8+8<=s.size:=by omega
 obtain⟨t,ht⟩:=zNm (s.extract (i*8) ((i+1)*8));have htb:bs t=((bs s).take ((i+1)*8)).drop (i*8):=by rw[<-ht,bs_extract]
 have hts:t.size=8:=by rw[<-bs_len,htb,List.length_drop,List.length_take,bs_len];omega
 have htc:∀k,k<8->cf (bs t) k=cf ((bs s).drop (8*i)) k:=by intro k hk;rw[htb];unfold cf;rw[List.getElem?_drop,List.getElem?_drop,List.getElem?_take,if_pos (by omega),Nat.mul_comm]
 have hpk:pk (bs t) 8=byteOf (bs s) i:=pk_congr 8 htc;have ht01:B01 (bs t):=fun c hc=>by
  rw[htb]at hc
  exact H01.out c (List.mem_of_mem_take (List.mem_of_mem_drop hc))
 have hcon:(bs t).contains 63=false:=by rw[<-Bool.not_eq_true,List.contains_iff_mem];intro hm;rcases ht01 63 hm with h|h<;>cases h
 have Hts:=zY hts;have Hpk:=zY hpk;have Hcon:=zY hcon;have Ht:=zY ht;have ht8:8<=t.size:=by omega
 have ht9:t.size<=8:=by omega
 clear htb hts htc hpk hcon ht ht01;go_wp2;rw[Ht.out];go_loop [10,34] (fun b x=>∃k:Nat,k<=8/\x=.int .i64 k/\b=.int .u8 (pk (bs t) k:Nat)) (fun _ x=>8-(intOf x).toNat);case atStart=>exact⟨0,by omega,rfl,rfl⟩
 case round=>
 obtain⟨k,hk,rfl,rfl⟩:=hrel;by_cases h':k<8;{
 have hkI:(k:Int)<8:=by omega
 have hkt:k<t.size:=by omega
 have hkT:(k:Int)<t.size:=by omega
 have hp1:=pk_lt (bs t) k;have hp2:2^k<=2^7:=Nat.pow_le_pow_right (by omega) (by omega);have hp3:pk (bs t) k<128:=by omega
 have hst:pk (bs t) (k+1)=2*pk (bs t) k+(if (t[k]'hkt).toNat=49 then 1 else 0):=by rw[<-bsc t k hkt];rfl
 have Hst:=zY hst;have hor:=u8_or1 hp3;clear hst hp1 hp2;generalize pk (bs t) k=a at *;by_cases h49:(t[k]'hkt).toNat=49;{
 have hI:((((t[k]'hkt).toNat:Nat):Int)==49)=true:=by rw[beq_iff_eq];omega
 have H49:=zY h49;have Hor:Hid (bits .or .u8 ((a:Int)*2) 1=((2*a+1:Nat):Int)):=zY (by
  rw[<-hor]
  congr 1
  omega);clear h49 hor;go_wp2;go_round;case rel=>exact⟨k+1,by omega,by go_num,by rw[Hst.out,if_pos H49.out];exact congrArg (Value.int .u8) Hor.out⟩
 case measure=>simp[intOf];omega};{
 have hI:((((t[k]'hkt).toNat:Nat):Int)==49)=false:=by rw[beq_eq_false_iff_ne];omega
 have H49:=zY h49;clear h49 hor;go_wp2;go_round;case rel=>exact⟨k+1,by omega,by go_num,by rw[Hst.out,if_neg H49.out];exact congrArg (Value.int .u8) (by omega)⟩
 case measure=>simp[intOf];omega}};{
 have hk8:k=8:=by omega
 subst hk8;rw[Hpk.out];have hsn:(List.range i).map (byteOf (bs s))++[byteOf (bs s) i]=(List.range (i+1)).map (byteOf (bs s)):=by rw[List.range_succ,List.map_append];rfl
 have Hsn:=zY hsn;have Hwb:=zY (wb_any wr w1.heap.size w1.heap.size _ (byteOf (bs s) i) Hbl.out (by simp;omega) HBr.size);clear hsn;generalize byteOf (bs s) i=B at *;go_wp2_with fail;refine Hwb.mono ?_;rintro e w2 ⟨rfl,hbl,hb⟩;have Hbl2:=zY hbl;have HB2:=zY (HBr.trans hb);clear hbl hb Hwb Hbl HBr;go_wp2_with fail;refine(contains_any _ t 63).mono ?_;rintro e w' ⟨rfl,rfl⟩;rw[show (63:UInt8).toNat=63 from rfl,Hcon.out];go_wp2;go_roundw;case rel=>exact⟨i+1,by omega,by go_num,rfl,by rw[<-Hsn.out];exact Hbl2.out,HB2.out⟩
 case measure=>simp[intOf];omega}};{
 have hin:i=n:=by omega
 subst hin;have hby:Bytes ((List.range i).map (byteOf (bs s))):=bytes_map fun j _=>by
  have:=pk_lt ((bs s).drop (8*j)) 8
  unfold byteOf
  omega
 have e:(List.range i).map (byteOf (bs s))=toB (bs s):=by unfold toB;rw[bs_len,Hn.out,Nat.mul_div_cancel_left _ (by omega)]
 rw[e]at hby;have hbl:=Hbl.out;rw[e]at hbl;have Hs:=zY (str_any wr w1.heap.size w1.heap.size _ hby hbl HBr.size);clear hby e hbl;go_wp2_with fail;refine Hs.mono ?_;rintro e w2 ⟨rfl,hbl,hb⟩;have HB2:=zY (HBr.trans hb);clear hbl hb Hs Hbl HBr;go_wp2;go_ret3;exact⟨rfl,Hb.trans (HB2.mono Hb.size)⟩}
theorem vcell_any (w:World) (k:Nat) (hk:k<4):Calls prog 335 #[.int .i64 (k:Int)] w fun e w'=>e=.returned (.string (strB [48+k%2]))/\w=w':=by
 rcases (by omega:k=0∨k=1∨k=2∨k=3)with rfl|rfl|rfl|rfl;all_goals
 go_enter func335,ntmps335;go_wp2;go_ret;exact⟨rfl,rfl⟩
def outS (s b:Nat):ByteArray:=strB [co1 s b,co2 s b]
theorem strB_cat (l r:List Nat):strB l++strB r=strB (l++r):=by
 unfold strB;apply ByteArray.ext;simp
theorem vcell_int (w:World) (k:Int) (h0:0<=k) (hk:k<4):Calls prog 335 #[.int .i64 k] w fun e w'=>e=.returned (.string (strB [48+k.toNat%2]))/\w=w':=by
 obtain⟨n,rfl⟩:=Int.eq_ofNat_of_zero_le h0;exact vcell_any w n (by omega)
theorem vnext_any (w:World) (s b:Nat) (hs:s<4) (hb:b<2):Calls prog 334 #[.int .i64 (s:Int),.int .i64 (b:Int)] w fun e w'=>e=.returned (.tuple #[.int .i64 (cnx s b:Nat),.string (outS s b)])/\w=w':=by
 have hs3:bits .and .i64 (s:Int) 3=s:=by rcases (by omega:s=0∨s=1∨s=2∨s=3)with rfl|rfl|rfl|rfl<;>decide
 have hs1:bits .and .i64 (s:Int) 1=(s:Int)%2:=by rcases (by omega:s=0∨s=1∨s=2∨s=3)with rfl|rfl|rfl|rfl<;>decide
 have hb1:bits .and .i64 (b:Int) 1=b:=by rcases (by omega:b=0∨b=1)with rfl|rfl<;>decide
 have e1:outS s b=strB [48+(b+s/2+s)%2]++strB [48+(b+s)%2]:=by rw[strB_cat];unfold outS co1 co2;rw[show (b+s/2+s%2)%2=(b+s/2+s)%2 by omega,show (b+s%2)%2=(b+s)%2 by omega];rfl
 have e2:((cnx s b:Nat):Int)=2*(b:Int)+(s:Int)/2:=by unfold cnx;omega
 have E1:=zY e1;have E2:=zY e2;clear e1 e2;go_enter func334,ntmps334;go_wp2_with fail;refine(vcell_int _ _ (by omega) (by omega)).mono ?_;rintro e w' ⟨rfl,rfl⟩;go_wp2_with fail;refine(vcell_int _ _ (by omega) (by omega)).mono ?_;rintro e w' ⟨rfl,rfl⟩;go_wp2;go_ret2;refine⟨?_,rfl⟩;rw[E1.out,E2.out];rfl
def ilv (i:Nat):Nat:=i%8*104+min (i%8) 4+i/8
def uil (j:Nat):Nat:=if j<420 then 8*(j%105)+j/105 else 8*((j-420)%104)+4+(j-420)/104
theorem ilv_lt {i:Nat} (h:i<836):ilv i<836:=by unfold ilv;omega
theorem ilv_all:allB 836 (fun i=>uil (ilv i)==i)=true:=by decide +kernel
theorem uil_all:allB 836 (fun j=>ilv (uil j)==j&&decide (uil j<836))=true:=by decide +kernel
theorem uil_ilv {i:Nat} (h:i<836):uil (ilv i)=i:=by simpa using allB_out ilv_all i h
theorem ilv_uil {j:Nat} (h:j<836):ilv (uil j)=j/\uil j<836:=by simpa using allB_out uil_all j h
def deinL (l:List Nat):List Nat:=(List.range 836).map fun i=>cf l (ilv i)
def interL (l:List Nat):List Nat:=(List.range 836).map fun j=>cf l (uil j)
theorem deinL_len (l:List Nat):(deinL l).length=836:=by unfold deinL;rw[List.length_map,List.length_range]
theorem interL_len (l:List Nat):(interL l).length=836:=by unfold interL;rw[List.length_map,List.length_range]
theorem list_ext836 {a b:List Nat} (ha:a.length=836) (hb:b.length=836) (h:∀i,i<836->cf a i=cf b i):a=b:=by
 refine List.ext_getElem? fun i=>?_;by_cases hi:i<836;{
 have:=h i hi;unfold cf at this;rw[List.getElem?_eq_getElem (by omega),List.getElem?_eq_getElem (by omega)]at this⊢;simpa using this};{rw[List.getElem?_eq_none (by omega),List.getElem?_eq_none (by omega)]}
theorem dein_inter {l:List Nat} (h:l.length=836):deinL (interL l)=l:=by
 refine list_ext836 (deinL_len _) h fun i hi=>?_;unfold deinL interL;rw[cf_map,if_pos hi,cf_map,if_pos (ilv_lt hi),uil_ilv hi]
theorem ilindex_any (w:World) (i:Nat) (hi:i<836):Calls prog 359 #[.int .i64 (i:Int),.int .i64 836,.int .i64 8] w fun e w'=>e=.returned (.int .i64 (ilv i:Nat))/\Below w.heap.size w w':=by
 have e:((ilv i:Nat):Int)=(i:Int)%8*104+min ((i:Int)%8) 4+(i:Int)/8:=by unfold ilv;omega
 have E:=zY e;clear e;have h1:(0:Int)<=(i:Int)%8*104:=by omega
 have h2:(i:Int)%8*104<=728:=by omega
 go_enter func359,ntmps359;go_wp2;go_quiet (fail);go_wp2;go_still_tail 13,(by kernel_rfl);go_wp2;go_ret;refine⟨ret_num ?_,(zBd (Below.refl _ _) nq).drew⟩;have w1:IntKind.i64.wrap 104=104:=by decide
 have w2:IntKind.i64.wrap ((i:Int)%8*104)=(i:Int)%8*104:=zIw (by omega);have w3:IntKind.i64.wrap ((i:Int)%8*104+min ((i:Int)%8) 4)=(i:Int)%8*104+min ((i:Int)%8) 4:=zIw (by omega);have w4:IntKind.i64.wrap ((i:Int)%8*104+min ((i:Int)%8) 4+(i:Int)/8)=(i:Int)%8*104+min ((i:Int)%8) 4+(i:Int)/8:=zIw (by omega);rw[w1,w2,w3,w4,E.out]
theorem dein1_any (w:World) (a b:Int):Calls prog 333 #[.int .i64 a,.int .i64 b] w fun e w'=>e=.returned (.tuple #[.int .i64 b,.int .i64 a])/\w=w':=by
 go_enter func333,ntmps333;go_wp2;go_ret2;exact⟨rfl,rfl⟩
def perD (l:List Nat) (i:Nat):List Nat:=(List.range 836).map fun j=>if j<i then cf l (ilv j) else 0
theorem perD_len (l:List Nat) (i:Nat):(perD l i).length=836:=by unfold perD;rw[List.length_map,List.length_range]
theorem perD_cf (l:List Nat) (i j:Nat):cf (perD l i) j=if j<836 then (if j<i then cf l (ilv j) else 0) else 0:=by unfold perD;rw[cf_map]
theorem cf_set (l:List Nat) (i x j:Nat) (h:i<l.length):cf (l.set i x) j=if i=j then x else cf l j:=by
 unfold cf;rw[List.getElem?_set];by_cases e:i=j;{
 subst e;simp[h]};{simp[e]}
theorem perD_set {l:List Nat} {i:Nat} (h:i<836):(perD l i).set i (cf l (ilv i))=perD l (i+1):=by
 refine list_ext836 (by rw[List.length_set,perD_len]) (perD_len _ _) fun j hj=>?_;rw[cf_set _ _ _ _ (by rw[perD_len];exact h),perD_cf,perD_cf,if_pos hj,if_pos hj];by_cases e:i=j;{
 subst e;rw[if_pos rfl,if_pos (by omega)]};{
 rw[if_neg e];by_cases h1:j<i;{rw[if_pos h1,if_pos (by omega)]};{rw[if_neg h1,if_neg (by omega)]}}
theorem perD_zero (l:List Nat):perD l 0=List.replicate 836 0:=by
 refine list_ext836 (perD_len _ _) List.length_replicate fun j hj=>?_;rw[perD_cf,if_pos hj,if_neg (by omega)];unfold cf;rw[List.getElem?_replicate,if_pos hj];rfl
theorem perD_end (l:List Nat):perD l 836=deinL l:=by
 unfold perD deinL;refine List.map_congr_left fun j hj=>?_;rw[if_pos (List.mem_range.1 hj)]
theorem make_u8_836 (w:World):(Instr.makeSlice 117 (.int .i64 836) (.int .i64 836)).run prog w=.ok (.slice (some ⟨w.heap.size,0,none⟩) 836 836) (w.alloc (.cells (arrB (perD [] 0)) 5)):=by
 rw[perD_zero];exact make_u8 836 836 (Nat.le_refl _) (by omega) w
theorem perD_nil (l:List Nat):perD [] 0=perD l 0:=by rw[perD_zero,perD_zero]
theorem permD_any (w:World) (s:ByteArray) (hs:s.size=836):Calls prog 309 #[.string s,.int .i64 8,.func (.func 333) #[] #[]] w fun e w'=>e=.returned (.tuple #[.string (strB (deinL (bs s))),.int .i64 0])/\Below w.heap.size w w':=by
 have hmk:=make_u8_836;have hsI:(s.size:Int)=836:=by omega
 have hK0:U8B (w.alloc (.cells (arrB (perD [] 0)) 5)) w.heap.size (perD (bs s) 0):=by rw[<-perD_nil];exact U8B.new w _
 have HK0:=zY hK0;have HB0:=zY (zBl w (.cells (arrB (perD [] 0)) 5));have hbl:=bs_len s;clear hK0;go_enter func309,ntmps309;go_wp2;go_loopw [19] (fun x wr=>∃i:Nat,i<=836/\x=.int .i64 i/\U8B wr w.heap.size (perD (bs s) i)/\Below w.heap.size w wr) (fun x _=>836-(intOf x).toNat);case atStart=>exact⟨0,by omega,rfl,HK0.out,HB0.out⟩
 case round=>
 obtain⟨i,hi,rfl,hb,hB⟩:=hrel;have Hb:=zY hb;have HBr:=zY hB;clear hb hB HK0 HB0;by_cases h:i<836;{
 have hiI:(i:Int)<836:=by omega
 go_wp2_with fail;refine(ilindex_any _ i h).mono ?_;rintro e w1 ⟨rfl,hb⟩;have Hb1:=zY (Blk.kept Hb.out hb);have HB1:=zYt HBr hb;have hlt:=Blk.lt Hb.out;clear hb;have hil:=ilv_lt h;have hx:ilv i<s.size:=by omega
 have hxI:((ilv i:Nat):Int)<s.size:=by omega
 have hxJ:((ilv i:Nat):Int)<836:=by omega
 have hcx:cf (bs s) (ilv i)=(s[ilv i]'hx).toNat:=cf_get (bs_get s _ hx);have hc1:=U8B.cell Hb1.out (i:=i) (x:=cf (perD (bs s) i) i) (by unfold cf;rw[List.getElem?_eq_getElem (by rw[perD_len];exact h)];rfl);have hf1:=Blk.frozen Hb1.out i;have Hset:Hid (U8B (w1.setCell ⟨w.heap.size,i,none⟩ (.int .u8 ((s[ilv i]'hx).toNat:Nat))) w.heap.size (perD (bs s) (i+1))):=zY (by
  rw[<-hcx,<-perD_set h]
  exact U8B.set Hb1.out i _);clear hcx;go_wp2_with (go_at_call 333;refine(dein1_any _ _ _).mono ?_;rintro e w' ⟨rfl,rfl⟩);go_roundw;case rel=>exact⟨i+1,by omega,by go_num,Hset.out,HB1.setCell (p:=⟨w.heap.size,i,none⟩) (Nat.le_refl _) _⟩
 case measure=>simp[intOf];omega};{
 have hi8:i=836:=by omega
 subst hi8;have hv:=U8B.bytes Hb.out (n:=836) (c:=836) (by rw[perD_len]) (Nat.le_refl _) (by omega);rw[perD_end]at hv;have hcs:=run_toStr hv (deinL_len _).symm;clear hv;go_wp2;go_ret2;exact⟨rfl,HBr.out⟩}
theorem dein_any (w:World) (s:ByteArray) (hs:s.size=836):Calls prog 284 #[.string s,.int .i64 8] w fun e w'=>e=.returned (.tuple #[.string (strB (deinL (bs s))),.int .i64 0])/\Below w.heap.size w w':=by
 have H:=zY (permD_any w s hs);clear hs;go_enter func284,ntmps284;go_wp2_with (go_at_call 309;refine H.mono ?_;rintro e w' ⟨rfl,hb⟩);go_ret2;exact⟨rfl,hb⟩
def bitsS (u:List Nat):List Nat:=u.map (48+·)
def extP (l:List Nat):Option (List Nat):=
 if l.contains 63=true then none else
 match cext 0 l with
 |none=>none
 |some u=>if u.drop (u.length-2)=[0,0] then some (u.take (u.length-2)) else none
def extR (l:List Nat):Value:=match extP l with
 |none=>.tuple #[.string ⟨#[]⟩,.int .i64 11]
 |some u=>.tuple #[.string (strB (bitsS u)),.int .i64 0]
theorem bitsS_bytes {u:List Nat} (h:Bits u):Bytes (bitsS u):=by
 intro b hb;obtain⟨x,hx,rfl⟩:=List.mem_map.1 hb;have:=h x hx;omega
theorem bitsS_len (u:List Nat):(bitsS u).length=u.length:=by unfold bitsS;rw[List.length_map]
theorem bitsS_00 (v:List Nat):bitsS v=[48,48]↔v=[0,0]:=by
 unfold bitsS;match v with
 |[]=>simp
 |[a]=>simp
 |[a,b]=>simp
 |a::b::c::r=>simp
theorem cext_step {l:List Nat} {k st x y:Nat} {u:List Nat} (hl:l.drop (2*k)=x::y::l.drop (2*(k+1))) (hc:cext 0 l=(cext st (l.drop (2*k))).map (u++·)) {b:Nat} (hb:b=(y-48+st%2)%2):
  (co1 st b=x/\co2 st b=y->cext 0 l=(cext (cnx st b) (l.drop (2*(k+1)))).map ((u++[b])++·))/\(¬(co1 st b=x/\co2 st b=y)->cext 0 l=none):=by
 rw[hl]at hc;simp only[cext,<-hb]at hc;constructor;{
 intro h;rw[if_pos h]at hc;rw[hc,Option.map_map];congr 1;funext z;simp};{
 intro h;rw[if_neg h]at hc;rw[hc];rfl}
theorem out_bytes (s b:Nat):Bytes [co1 s b,co2 s b]:=by
 intro c hc;have h1:co1 s b<256:=by unfold co1;omega
 have h2:co2 s b<256:=by unfold co2;omega
 simp only[List.mem_cons,List.not_mem_nil,or_false]at hc;rcases hc with rfl|rfl<;>assumption
theorem i64_xor1 {a b:Nat} (ha:a<2) (hb:b<2):bits .xor .i64 (a:Int) (b:Int)=(((a+b)%2:Nat):Int):=by
 rcases (by omega:a=0∨a=1)with rfl|rfl<;>rcases (by omega:b=0∨b=1)with rfl|rfl<;>decide
theorem vext_any (w:World) (s:ByteArray) (h4:4<=s.size) (hs:s.size<=100000) (h2:s.size%2=0) (hok:cellsOK (bs s)=true):Calls prog 285 #[.string s] w fun e w'=>e=.returned (extR (bs s))/\Below w.heap.size w w':=by
 have Ht:=zY (trim_any w s ⟨#[48,49,63]⟩ (by omega) (by decide) (by decide));have Hok:=zY hok;have h2I:((s.size:Int)%2 != 0)=false:=by rw[bne_eq_false_iff_eq];omega
 have h4I:¬(s.size:Int)<4:=by omega
 have h5I:¬(131076:Int)<s.size:=by omega
 obtain⟨m,hm⟩:∃m,s.size=2*m:=⟨s.size/2,by omega⟩;have hm1:s.size<=2*m:=by omega
 have hm2:2*m<=s.size:=by omega
 have Hm:=zY hm;clear hok h2 hm;go_enter func285,ntmps285;go_wp2_with fail;refine Ht.mono ?_;rintro e w1 ⟨t,rfl,ht,hb⟩;have ht1:t.toList.isEmpty=true:=ht.trans Hok.out;have ht2:(!t.toList.isEmpty)=false:=by rw[ht1];rfl
 have Hb:=zY hb;clear ht hb Ht;go_wp2_with fail;refine(contains_any _ s 63).mono ?_;rintro e w' ⟨rfl,rfl⟩;rw[show (63:UInt8).toNat=63 from rfl];cases hq:(bs s).contains 63 with
 |true=>(
 have e:extR (bs s)=.tuple #[.string ⟨#[]⟩,.int .i64 11]:=by unfold extR extP;rw[if_pos hq]
 have He:=zY e;clear e hq;go_wp2;go_ret2;exact⟨by rw[He.out];rfl,Hb.out⟩)
 |false=>
 have Hq:=zY hq;clear hq;go_wp2;go_loopw [5,6] (fun st x wr=>∃(k q:Nat) (u:List Nat),k<=m/\q<4/\u.length=k/\Bits u/\x=.int .i64 ((2*k:Nat):Int)/\st=.int .i64 q/\cext 0 (bs s)=(cext q ((bs s).drop (2*k))).map (u++·)/\Bld wr w1.heap.size w1.heap.size (bitsS u)/\Below w1.heap.size w1 wr) (fun _ x _=>s.size-(intOf x).toNat);case atStart=>refine⟨0,0,[],by omega,by omega,rfl,fun b hb=>(by cases hb),rfl,rfl,?_,Bld.new w1,(Below.refl _ _).alloc (Nat.le_refl _) _⟩;show cext 0 (bs s)=(cext 0 (bs s)).map ([]++·);simp
 case round=>
 obtain⟨k,q,u,hk,hq,hu,hub,rfl,rfl,hc,hbl,hB⟩:=hrel;have Hc:=zY hc;have Hbl:=zY hbl;have HBr:=zY hB;have Hu:=zY hu;have Hub:=zY hub;have hul:u.length<=k:=by omega
 have hul2:k<=u.length:=by omega
 clear hc hbl hB hu hub;by_cases h:k<m;{
 have hkI:((2*k:Nat):Int)<s.size:=by omega
 have hk1:2*k<s.size:=by omega
 have hk2:2*k+1<s.size:=by omega
 have hkJ:((2*k:Nat):Int)+1<s.size:=by omega
 obtain⟨p,hp⟩:=zNm (s.extract (2*k) (2*k+2));obtain⟨x,hx⟩:=zNm (cf (bs s) (2*k));obtain⟨y,hy⟩:=zNm (cf (bs s) (2*k+1));have hxs:(s[2*k]'hk1).toNat=x:=by rw[<-hx];exact(bsc s _ hk1).symm
 have hys:(s[2*k+1]'hk2).toNat=y:=by rw[<-hy];exact(bsc s _ hk2).symm
 have hyr:y=48∨y=49:=by{
 have hym:y∈bs s:=by rw[<-hy];unfold cf;rw[List.getElem?_eq_getElem (by rw[bs_len];exact hk2)];exact List.getElem_mem _
 have h1:=Hok.out;unfold cellsOK allIn cellSet at h1;rw[List.all_eq_true]at h1;have h2:=h1 y hym;have h3:y≠63:=by rintro rfl;have h4:=List.contains_iff_mem.2 hym;rw[Hq.out]at h4;cases h4
 simp only[List.contains_cons,List.contains_nil,Bool.or_false,Bool.or_eq_true,beq_iff_eq]at h2;omega};obtain⟨b,hbe⟩:=zNm ((y-48+q%2)%2);have hb2:b<2:=by omega
 have hbit:bits .xor .i64 (((y:Int)-48)%256) (bits .and .i64 (q:Int) 1)=(b:Int):=by{
 have h1:bits .and .i64 (q:Int) 1=((q%2:Nat):Int):=by rcases (by omega:q=0∨q=1∨q=2∨q=3)with rfl|rfl|rfl|rfl<;>decide
 have h2:((y:Int)-48)%256=((y-48:Nat):Int):=by omega
 rw[h1,h2,i64_xor1 (by omega) (by omega),hbe]};have hpl:bs p=[x,y]:=by{
 rw[<-hp,bs_extract];refine List.ext_getElem? fun j=>?_;rw[List.getElem?_drop,List.getElem?_take];match j with
 |0=>rw[if_pos (by omega),<-hx];unfold cf;rw[Nat.add_zero,List.getElem?_eq_getElem (by rw[bs_len];omega)];rfl
 |1=>rw[if_pos (by omega),<-hy];unfold cf;rw[List.getElem?_eq_getElem (by rw[bs_len];omega)];rfl
 |j+2=>
 rw[if_neg (by omega)];rfl};have hdr:(bs s).drop (2*k)=x::y::(bs s).drop (2*(k+1)):=by{
 rw[List.drop_eq_getElem_cons (by rw[bs_len];omega),List.drop_eq_getElem_cons (by rw[bs_len];omega),show 2*(k+1)=2*k+1+1 by omega];congr 1;{rw[<-hx];unfold cf;rw[List.getElem?_eq_getElem (by rw[bs_len];omega)];rfl};{
 congr 1;rw[<-hy];unfold cf;rw[List.getElem?_eq_getElem (by rw[bs_len];omega)];rfl}};have hst:=cext_step hdr Hc.out hbe.symm;have hop:outS q b=p↔co1 q b=x/\co2 q b=y:=by{
 constructor;{
 intro e;have:=congrArg bs e;unfold outS at this;rw[bs_strB (out_bytes q b),hpl]at this;simpa using this};{
 rintro⟨e1,e2⟩;apply bs_inj;unfold outS;rw[bs_strB (out_bytes q b),hpl,e1,e2]}};have Hst:=zY hst;have Hop:=zY hop;have Hpl:=zY hpl;have Hp:=zY hp;clear hst hop hpl hdr hx hy hbe hyr hp;go_wp2_with fail;refine(vnext_any wr q b hq hb2).mono ?_;rintro e w' ⟨rfl,rfl⟩;by_cases hmt:co1 q b=x/\co2 q b=y;{
 have hT:((outS q b).toList==(s.extract (2*k) (2*k+2)).toList)=true:=by rw[Hp.out,Hop.2 hmt];simp
 have Hc2:=zY (Hst.1 hmt);clear hmt;go_wp2_with fail;refine(vcell_any wr b (by omega)).mono ?_;rintro e w' ⟨rfl,rfl⟩;have hws:=ws_any wr w1.heap.size w1.heap.size (bitsS u) (strB [48+b%2]) Hbl.out (by rw[bitsS_len];omega) (by rw[strB_size];simp) HBr.size;have hbb:bitsS u++bs (strB [48+b%2])=bitsS (u++[b]):=by{
 rw[bs_strB (fun c hc=>by
  obtain rfl:c=48+b%2:=by simpa using hc
  omega)];unfold bitsS;rw[List.map_append,Nat.mod_eq_of_lt hb2];rfl};rw[hbb]at hws;have Hws:=zY hws;clear hws hbb;go_wp2_with fail;refine Hws.mono ?_;rintro e w2 ⟨rfl,hbl,hb⟩;have Hbl2:=zY hbl;have HB2:=zY (HBr.trans hb);clear hbl hb Hws Hbl HBr hT hbit hxs hys;go_wp2;go_roundw;case rel=>(
 refine⟨k+1,cnx q b,u++[b],by omega,cnx_lt hq hb2,by rw[List.length_append,List.length_singleton,Hu.out],fun c hc=>?_,by go_num,rfl,Hc2.out,Hbl2.out,HB2.out⟩;rcases List.mem_append.1 hc with hc|hc;{exact Hub.out c hc};{
 obtain rfl:c=b:=by simpa using hc
 exact hb2})
 case measure=>simp[intOf];omega};{
 have hT:((outS q b).toList==(s.extract (2*k) (2*k+2)).toList)=false:=by{
 rw[Hp.out,beq_eq_false_iff_ne];intro e;have e2:outS q b=p:=by apply bs_inj;unfold bs;rw[<-Lib.toList_data,<-Lib.toList_data,e]
 exact hmt (Hop.1 e2)};have e1:extR (bs s)=.tuple #[.string ⟨#[]⟩,.int .i64 11]:=by unfold extR extP;rw[Hst.2 hmt,if_neg (by rw[Hq.out];decide)]
 have He:=zY e1;clear hmt e1;go_wp2;go_ret2;exact⟨by rw[He.out];rfl,Hb.trans (HBr.mono Hb.size)⟩}};{
 have hkm:k=m:=by omega
 subst hkm;have hnI:¬((2*k:Nat):Int)<s.size:=by omega
 have hce:cext 0 (bs s)=some u:=by rw[Hc.out,List.drop_of_length_le (by rw[bs_len];omega)];show Option.map (u++·) (some [])=_;simp
 have hstr:=str_any wr w1.heap.size w1.heap.size (bitsS u) (bitsS_bytes Hub.out) Hbl.out HBr.size;have Hstr:=zY hstr;have hsz:(strB (bitsS u)).size=k:=by rw[strB_size,bitsS_len,Hu.out]
 have hbs:bs (strB (bitsS u))=bitsS u:=bs_strB (bitsS_bytes Hub.out);have hx1:bs ((strB (bitsS u)).extract (k-2) k)=bitsS (u.drop (k-2)):=by rw[bs_extract,hbs,List.take_of_length_le (by rw[bitsS_len];omega)];unfold bitsS;rw[List.map_drop]
 have hx2:(strB (bitsS u)).extract 0 (k-2)=strB (bitsS (u.take (k-2))):=by apply bs_inj;rw[bs_extract,hbs,bs_strB (bitsS_bytes (fun c hc=>Hub.out c (List.mem_of_mem_take hc)))];unfold bitsS;rw[List.map_take];rfl
 have hfin:extP (bs s)=if u.drop (k-2)=[0,0] then some (u.take (k-2)) else none:=by unfold extP;rw[hce,if_neg (by rw[Hq.out];decide),<-Hu.out]
 obtain⟨A,hA⟩:=zNm (strB (bitsS u));rw[hA]at Hstr hsz hx1 hx2;have HA:=zY hA;have Hsz:=zY hsz;have Hx1:=zY hx1;have Hx2:=zY hx2;have Hfin:=zY hfin;have hAs1:A.size<=k:=by omega
 have hAs2:k<=A.size:=by omega
 clear hstr hA hsz hbs hx1 hx2 hfin hce;go_wp2_with fail;refine Hstr.mono ?_;rintro e w2 ⟨rfl,hbl,hb⟩;have HB2:=zY (HBr.trans hb);clear hbl hb Hstr Hbl HBr;have hut:(bs (A.extract (A.size-2) A.size)=[48,48])↔u.drop (k-2)=[0,0]:=by rw[Hsz.out,Hx1.out];exact bitsS_00 _
 by_cases hz:u.drop (k-2)=[0,0];{
 have hT:((A.extract (A.size-2) A.size).toList==[48,48])=true:=by rw[beq_iff_eq];have e:=hut.2 hz;have e2:A.extract (A.size-2) A.size=strB [48,48]:=bs_inj (by rw[e];rfl);rw[e2,Lib.toList_data];rfl
 have he:extR (bs s)=.tuple #[.string (A.extract 0 (A.size-2)),.int .i64 0]:=by unfold extR;rw[Hfin.out,if_pos hz,Hsz.out,Hx2.out]
 have He:=zY he;clear he hz hut;go_wp2;go_ret2;exact⟨by rw[He.out];rfl,Hb.trans (HB2.mono Hb.size)⟩};{
 have hT:((A.extract (A.size-2) A.size).toList==[48,48])=false:=by rw[beq_eq_false_iff_ne];intro e;refine hz (hut.1 ?_);unfold bs;rw[<-Lib.toList_data,e];rfl
 have he:extR (bs s)=.tuple #[.string ⟨#[]⟩,.int .i64 11]:=by unfold extR;rw[Hfin.out,if_neg hz]
 have He:=zY he;clear he hz hut;go_wp2;go_ret2;exact⟨by rw[He.out];rfl,Hb.trans (HB2.mono Hb.size)⟩}}
def byC (b k:Nat):Nat:=48+b/2^(7-k)%2
def byCs (b:Nat):List Nat:=(List.range 8).map (byC b)
def frmB (l:List Nat):List Nat:=l.flatMap byCs
theorem byCs_len (b:Nat):(byCs b).length=8:=by unfold byCs;rw[List.length_map,List.length_range]
theorem frmB_snoc (l:List Nat) (b:Nat):frmB (l++[b])=frmB l++byCs b:=by unfold frmB;rw[List.flatMap_append];simp
theorem frmB_len:∀l:List Nat,(frmB l).length=8*l.length
 |[]=>rfl
 |b::r=>by
  have:=frmB_len r
  unfold frmB at this⊢
  rw[List.flatMap_cons,List.length_append,byCs_len,this,List.length_cons]
  omega
theorem frmB_01 (l:List Nat):B01 (frmB l):=by
 intro c hc;unfold frmB byCs at hc;obtain⟨b,_,hc⟩:=List.mem_flatMap.1 hc;obtain⟨k,_,rfl⟩:=List.mem_map.1 hc;unfold byC;omega
theorem Tryz.infoStrV:(prog.info? 9).map (fun i=>(i.zero,i.size,i.bytes))=some (some (.string ⟨#[]⟩),1,16):=by kernel_rfl
theorem infoV_parts {o:Option TypeInfo} {z:Option Value} {n m:Nat} (h:o.map (fun i=>(i.zero,i.size,i.bytes))=some (z,n,m)):∃i,o=some i/\i.zero=z/\i.size=n/\i.bytes=m:=by
 cases o with
 |none=>cases h
 |some i=>
 simp only[Option.map_some,Option.some.injEq,Prod.mk.injEq]at h;exact⟨i,rfl,h.1,h.2.1,h.2.2⟩
def splitG:List Nat->List Nat->List (List Nat)
 |p,[]=>[p]
 |p,c::r=>if c=47 then p::splitG [] r else splitG (p++[c]) r
def elemsL (s:List Nat):List (List Nat):=if s=[] then [] else splitG [] s
theorem splitG_sum:∀(r p:List Nat),(∀x∈splitG p r,x.length<=p.length+r.length)/\(splitG p r).length<=r.length+1
 |[],p=>by simp[splitG]
 |c::r,p=>by
  rw[splitG]
  split
  {
  obtain⟨h1,h2⟩:=splitG_sum r []
  refine⟨fun x hx=>?_,by simp;omega⟩
  rcases List.mem_cons.1 hx with rfl|hx
  ·omega
  {
  have:=h1 x hx
  simp at this⊢
  omega}}
  {
  obtain⟨h1,h2⟩:=splitG_sum r (p++[c])
  refine⟨fun x hx=>?_,by simp;omega⟩
  have:=h1 x hx
  simp at this⊢
  omega}
theorem elemsL_size {s:List Nat}:(∀x∈elemsL s,x.length<=s.length)/\(elemsL s).length<=s.length+1:=by
 unfold elemsL;split;{simp};{
 have:=splitG_sum s [];simpa using this}
def strsV (l:List (List Nat)):List Value:=l.map fun p=>.string (strB p)
theorem strsV_app (l m:List (List Nat)):strsV (l++m)=strsV l++strsV m:=by unfold strsV;rw[List.map_append]
theorem elems_any (w:World) (s:ByteArray) (hs:s.size<=1000000):Calls prog 291 #[.string s] w fun e w'=>∃v,e=.returned v/\w'.ownsRow w.heap.size 9 1 v (elemsL (bs s)).length (strsV (elemsL (bs s)))/\Below w.heap.size w w':=by
 obtain⟨R,hR⟩:=zNm (elemsL (bs s));rw[hR];obtain⟨iS,hi,hq0,hq1,hq2⟩:=infoV_parts Tryz.infoStrV;have HiS:Hid (prog.info? 9=some iS/\iS.zero=some (.string ⟨#[]⟩)/\iS.size=1/\iS.bytes=16):=zY ⟨hi,hq0,hq1,hq2⟩;clear hi hq0 hq1 hq2;by_cases h0:s.size=0;{
 have e0:s=⟨#[]⟩:=by apply ByteArray.ext;exact Array.eq_empty_of_size_eq_zero h0
 subst e0;have HR:Hid (R=[]):=zY (by rw[<-hR];rfl);clear hR h0;go_enter func291,ntmps291;go_wp2;go_ret;refine⟨_,rfl,?_,(Below.refl _ _).alloc (Nat.le_refl _) _⟩;rw[HR.out];exact ownV_new _ _ _};{
 have hb0:s.toList.isEmpty=false:=isEmptyV h0;have HR:Hid (splitG [] (bs s)=R):=zY (by
  rw[<-hR,elemsL,if_neg]
  intro e
  have:=congrArg List.length e
  rw[bs_len]at this
  exact h0 (by simpa using this));clear hR;go_enter func291,ntmps291;go_wp2;go_loopw [3,4,5] (fun v y x wr=>∃(k:Nat) (p:List Nat) (l:List (List Nat)),k<=s.size/\x=.int .i64 (k:Int)/\y=.string (strB p)/\p.length<=k/\l.length<=k/\l++splitG p ((bs s).drop k)=R/\wr.ownsRow w.heap.size 9 1 v l.length (strsV l)/\Below w.heap.size w wr) (fun _ _ x _=>s.size-(intOf x).toNat);case atStart=>exact⟨0,[],[],by omega,rfl,rfl,by simp,by simp,by rw[List.drop_zero];exact HR.out,ownV_new _ _ _,(Below.refl _ _).alloc (Nat.le_refl _) _⟩
 case round=>
 obtain⟨k,p,l,hk,rfl,rfl,hp,hl,hE,ho,hB⟩:=hrel;have HE:=zY hE;have Ho:=zY ho;have HB:=zY hB;clear hE ho hB;obtain⟨Av,cv,rfl⟩:=ownV_slice Ho.out;obtain⟨S,hS⟩:=zNm (strB p);have hSz:S.size=p.length:=by rw[<-hS,strB_size]
 have HS:=zY hS;rw[hS];clear hS;have Hnews:Hid (∀(q:Nat) (x:Value),([.string S]:List Value)[q]?=some x->(wr.alloc (.cells #[.string S] 9)).cell? ((⟨wr.heap.size,0,none⟩:Addr).add q)=some x):=zY (fun q x hq=>by
  rw[Addr.add_lit,Nat.zero_add]
  exact(Blk.new wr 9 [.string S]).cell hq);have Hone:Hid (∀x∈([.string S]:List Value),x.oneCell'=true):=zY (by simp[Value.oneCell']);have HU:=zY (Ho.alloc (.cells #[.string S] 9));have HB6:=zY (HB.alloc HB.size (.cells #[.string S] 9));by_cases h:k<s.size;{
 have hkI:(k:Int)<s.size:=by omega
 have HX:=zY (bsc s k h);have hd:(bs s).drop k=(s[k]'h).toNat::(bs s).drop (k+1):=by rw[List.drop_eq_getElem_cons (by rw[bs_len];exact h)];congr 1;rw[<-HX.out,cf_get (List.getElem?_eq_getElem _)]
 by_cases h47:(s[k]'h).toNat=47;{
 have e1:(((s[k]'h).toNat:Int)==47)=true:=by rw[h47];rfl
 have HE2:Hid ((l++[p])++splitG [] ((bs s).drop (k+1))=R):=zY (by
  rw[<-HE.out,hd,splitG,if_pos h47,List.append_assoc]
  rfl);clear hd HX;go_wp2_with (at_builtin;refine append_atV _ rfl _ _ 51 rfl w.heap.size 9 iS (.string ⟨#[]⟩) 1 16 underlying51 HiS.1 HiS.2.1 HiS.2.2.1 HiS.2.2.2 rfl (by omega) (.slice Av l.length cv) l.length _ rfl HU.out ⟨wr.heap.size,0,none⟩ 1 1 _ rfl rfl Hnews.out Hone.out (by unfold maxLen;omega) (by omega) HB6.size ?_;intro va wa hob hgb _;have KU:=zY hob;have KB:=zY (HB6.grown hgb HB6.size (ownV_ge HU.out));clear hob hgb);go_roundw;case rel=>exact⟨k+1,[],l++[p],by omega,by go_num,rfl,by simp,by simp;omega,HE2.out,by rw[List.length_append,strsV_app,show strsV [p]=[.string S] by rw[<-HS.out];rfl];exact KU.out,KB.out⟩
 case measure=>simp[intOf];omega};{
 have e1:(((s[k]'h).toNat:Int)==47)=false:=by rw[beq_eq_false_iff_ne];omega
 have hcat:S++s.extract k (k+1)=strB (p++[(s[k]'h).toNat]):=by rw[<-strB_bs (s.extract k (k+1)),bs_extract,List.drop_take,hd,show k+1-k=1 by omega,List.take_succ_cons,List.take_zero,<-HS.out,strB_cat]
 have Hcat:=zY hcat;have HE2:Hid (l++splitG (p++[(s[k]'h).toNat]) ((bs s).drop (k+1))=R):=zY (by
  rw[<-HE.out,hd,splitG,if_neg h47]);have hz1:(s.extract k (k+1)).size=1:=by rw[ByteArray.size_extract];omega
 have hcc:¬9223372036854775807<S.size+1:=by omega
 clear hd HX hcat h47 HU HB6 Hnews Hone;go_wp2;go_roundw;case rel=>exact⟨k+1,_,l,by omega,by go_num,by rw[Hcat.out],by simp;omega,by omega,HE2.out,Ho.out,HB.out⟩
 case measure=>simp[intOf];omega}};{
 have hkI:¬(k:Int)<s.size:=by omega
 have HE2:Hid (l++[p]=R):=zY (by
  rw[<-HE.out,List.drop_of_length_le (by rw[bs_len];omega),splitG]);go_wp2_with (at_builtin;refine append_atV _ rfl _ _ 51 rfl w.heap.size 9 iS (.string ⟨#[]⟩) 1 16 underlying51 HiS.1 HiS.2.1 HiS.2.2.1 HiS.2.2.2 rfl (by omega) (.slice Av l.length cv) l.length _ rfl HU.out ⟨wr.heap.size,0,none⟩ 1 1 _ rfl rfl Hnews.out Hone.out (by unfold maxLen;omega) (by omega) HB6.size ?_;intro va wa hob hgb _;have KU:=zY hob;have KB:=zY (HB6.grown hgb HB6.size (ownV_ge HU.out));clear hob hgb);go_ret;refine⟨va,rfl,?_,KB.out⟩;rw[<-HE2.out,List.length_append,strsV_app,show strsV [p]=[.string S] by rw[<-HS.out];rfl];exact KU.out}}
def okC (c:Nat):Bool:=decide (97<=c/\c<=122∨48<=c/\c<=57∨c=46∨c=95∨c=45)
def compB (p:List Nat):Bool:=decide (0<p.length/\p.length<=32/\p≠[46]/\p≠[46,46])&&p.all okC
def pathE (p:List Nat):Int:=if 200<p.length then 6 else if 8<(elemsL p).length then 6 else if (elemsL p).all compB then 0 else 7
theorem all_take {s:ByteArray} {k:Nat} (hk:k<s.size):((bs s).take (k+1)).all okC=(((bs s).take k).all okC&&okC (s[k]'hk).toNat):=by
 have hj:k<(bs s).length:=by rw[bs_len];exact hk
 rw[List.take_succ_eq_append_getElem hj,List.all_append,<-cf_get (List.getElem?_eq_getElem hj),bsc s k hk];simp
theorem comp_any (w:World) (s:ByteArray) (hs:s.size<=1000000):Calls prog 292 #[.string s] w fun e w'=>e=.returned (.bool (compB (bs s)))/\w=w':=by
 obtain⟨R,hR⟩:=zNm (compB (bs s));rw[hR];have hlen:(bs s).length=s.size:=bs_len s;have hdot:∀l:List Nat,(∀b∈l,b<256)->(s=strB l↔bs s=l):=fun l hl=>⟨fun e=>by rw[e,bs_strB hl],fun e=>by rw[<-e,strB_bs]⟩
 have d1:=hdot [46] (by simp);have d2:=hdot [46,46] (by simp);rw[show strB [46]=(⟨#[46]⟩:ByteArray) from rfl]at d1;rw[show strB [46,46]=(⟨#[46,46]⟩:ByteArray) from rfl]at d2;by_cases hc:0<s.size/\s.size<=32/\bs s≠[46]/\bs s≠[46,46];{
 obtain⟨c1,c2,c3,c4⟩:=hc;have hR2:(bs s).all okC=R:=by rw[<-hR,compB,hlen,decide_eq_true ⟨c1,c2,c3,c4⟩,Bool.true_and]
 have HR:=zY hR2;have i1:(0:Int)<s.size:=by omega
 have i2:(s.size:Int)<=32:=by omega
 have i3:¬s.toList=[46]:=fun e=>c3 (d1.1 (toListV.1 e));have i4:¬s.toList=[46,46]:=fun e=>c4 (d2.1 (toListV.1 e));clear hR hR2 hdot d1 d2 hlen c3 c4;go_enter func292,ntmps292;go_wp2;go_loop [3,4,5] (fun y x _=>∃(k:Nat),k<=s.size/\x=.int .i64 (k:Int)/\y=.bool (((bs s).take k).all okC)) (fun _ x _=>s.size-(intOf x).toNat);case atStart=>exact⟨0,by omega,rfl,by simp[i3,i4]⟩
 case round=>
 obtain⟨k,hk,rfl,rfl⟩:=hrel;obtain⟨b,hb⟩:=zNm (((bs s).take k).all okC);have Hb:=zY hb;rw[hb];clear hb;have HF:Hid (b=false->R=false):=zY (fun e=>by
  rw[<-HR.out,<-List.take_append_drop k (bs s),List.all_append,Hb.out,e,Bool.false_and]);cases b with
 |false=>go_wp2;go_ret;exact⟨by rw[show R=false by first|exact HF.out rfl|exact HF.out trivial]<;>rfl,rfl⟩
 |true=>
 by_cases h:k<s.size;{
 have hkI:(k:Int)<s.size:=by omega
 have HA:=zY (all_take h);by_cases a1:97<=(s[k]'h).toNat;{
 by_cases a2:(s[k]'h).toNat<=122;{
 have f0:(97:Int)<=((s[k]'h).toNat:Int):=by omega
 have f1:((s[k]'h).toNat:Int)<=122:=by omega
 have HV:Hid (((bs s).take (k+1)).all okC=true):=zY (by rw[HA.out,Hb.out,Bool.true_and,okC];exact decide_eq_true (by omega));clear a1 a2;go_wp2;go_round;case rel=>exact⟨k+1,by omega,by go_num,by rw[HV.out]⟩
 case measure=>simp[intOf];omega};{
 have f0:(97:Int)<=((s[k]'h).toNat:Int):=by omega
 have f1:¬((s[k]'h).toNat:Int)<=122:=by omega
 have f2:(48:Int)<=((s[k]'h).toNat:Int):=by omega
 have f3:¬((s[k]'h).toNat:Int)<=57:=by omega
 have f4:(((s[k]'h).toNat:Int)==46)=false:=by rw[beq_eq_false_iff_ne];omega
 have f5:(((s[k]'h).toNat:Int)==95)=false:=by rw[beq_eq_false_iff_ne];omega
 have f6:(((s[k]'h).toNat:Int)==45)=false:=by rw[beq_eq_false_iff_ne];omega
 have HV:Hid (((bs s).take (k+1)).all okC=false):=zY (by rw[HA.out,Hb.out,Bool.true_and,okC];exact decide_eq_false (by omega));clear a1 a2;go_wp2;go_round;case rel=>exact⟨k+1,by omega,by go_num,by rw[HV.out]⟩
 case measure=>simp[intOf];omega}};{
 by_cases b1:48<=(s[k]'h).toNat;{
 by_cases b2:(s[k]'h).toNat<=57;{
 have f0:¬(97:Int)<=((s[k]'h).toNat:Int):=by omega
 have f1:(48:Int)<=((s[k]'h).toNat:Int):=by omega
 have f2:((s[k]'h).toNat:Int)<=57:=by omega
 have HV:Hid (((bs s).take (k+1)).all okC=true):=zY (by rw[HA.out,Hb.out,Bool.true_and,okC];exact decide_eq_true (by omega));clear a1 b1 b2;go_wp2;go_round;case rel=>exact⟨k+1,by omega,by go_num,by rw[HV.out]⟩
 case measure=>simp[intOf];omega};{
 by_cases b3:(s[k]'h).toNat=95;{
 have f0:¬(97:Int)<=((s[k]'h).toNat:Int):=by omega
 have f1:(48:Int)<=((s[k]'h).toNat:Int):=by omega
 have f2:¬((s[k]'h).toNat:Int)<=57:=by omega
 have f3:(((s[k]'h).toNat:Int)==46)=false:=by rw[beq_eq_false_iff_ne];omega
 have f4:(((s[k]'h).toNat:Int)==95)=true:=by rw[beq_iff_eq];omega
 have HV:Hid (((bs s).take (k+1)).all okC=true):=zY (by rw[HA.out,Hb.out,Bool.true_and,okC];exact decide_eq_true (by omega));clear a1 b1 b2 b3;go_wp2;go_round;case rel=>exact⟨k+1,by omega,by go_num,by rw[HV.out]⟩
 case measure=>simp[intOf];omega};{
 have f0:¬(97:Int)<=((s[k]'h).toNat:Int):=by omega
 have f1:(48:Int)<=((s[k]'h).toNat:Int):=by omega
 have f2:¬((s[k]'h).toNat:Int)<=57:=by omega
 have f3:(((s[k]'h).toNat:Int)==46)=false:=by rw[beq_eq_false_iff_ne];omega
 have f4:(((s[k]'h).toNat:Int)==95)=false:=by rw[beq_eq_false_iff_ne];omega
 have f5:(((s[k]'h).toNat:Int)==45)=false:=by rw[beq_eq_false_iff_ne];omega
 have HV:Hid (((bs s).take (k+1)).all okC=false):=zY (by rw[HA.out,Hb.out,Bool.true_and,okC];exact decide_eq_false (by omega));clear a1 b1 b2 b3;go_wp2;go_round;case rel=>exact⟨k+1,by omega,by go_num,by rw[HV.out]⟩
 case measure=>simp[intOf];omega}}};{
 by_cases c1:(s[k]'h).toNat=46;{
 have f0:¬(97:Int)<=((s[k]'h).toNat:Int):=by omega
 have f1:¬(48:Int)<=((s[k]'h).toNat:Int):=by omega
 have f2:(((s[k]'h).toNat:Int)==46)=true:=by rw[beq_iff_eq];omega
 have HV:Hid (((bs s).take (k+1)).all okC=true):=zY (by rw[HA.out,Hb.out,Bool.true_and,okC];exact decide_eq_true (by omega));clear a1 b1 c1;go_wp2;go_round;case rel=>exact⟨k+1,by omega,by go_num,by rw[HV.out]⟩
 case measure=>simp[intOf];omega};{
 by_cases c2:(s[k]'h).toNat=45;{
 have f0:¬(97:Int)<=((s[k]'h).toNat:Int):=by omega
 have f1:¬(48:Int)<=((s[k]'h).toNat:Int):=by omega
 have f2:(((s[k]'h).toNat:Int)==46)=false:=by rw[beq_eq_false_iff_ne];omega
 have f3:(((s[k]'h).toNat:Int)==95)=false:=by rw[beq_eq_false_iff_ne];omega
 have f4:(((s[k]'h).toNat:Int)==45)=true:=by rw[beq_iff_eq];omega
 have HV:Hid (((bs s).take (k+1)).all okC=true):=zY (by rw[HA.out,Hb.out,Bool.true_and,okC];exact decide_eq_true (by omega));clear a1 b1 c1 c2;go_wp2;go_round;case rel=>exact⟨k+1,by omega,by go_num,by rw[HV.out]⟩
 case measure=>simp[intOf];omega};{
 have f0:¬(97:Int)<=((s[k]'h).toNat:Int):=by omega
 have f1:¬(48:Int)<=((s[k]'h).toNat:Int):=by omega
 have f2:(((s[k]'h).toNat:Int)==46)=false:=by rw[beq_eq_false_iff_ne];omega
 have f3:(((s[k]'h).toNat:Int)==95)=false:=by rw[beq_eq_false_iff_ne];omega
 have f4:(((s[k]'h).toNat:Int)==45)=false:=by rw[beq_eq_false_iff_ne];omega
 have HV:Hid (((bs s).take (k+1)).all okC=false):=zY (by rw[HA.out,Hb.out,Bool.true_and,okC];exact decide_eq_false (by omega));clear a1 b1 c1 c2;go_wp2;go_round;case rel=>exact⟨k+1,by omega,by go_num,by rw[HV.out]⟩
 case measure=>simp[intOf];omega}}}}};{
 obtain rfl:k=s.size:=by omega
 have hkI:¬((s.size:Nat):Int)<(s.size:Int):=by omega
 have HT:Hid (R=true):=zY (by rw[<-HR.out,<-Hb.out,<-bs_len s,List.take_length]);go_wp2;go_ret;exact⟨by rw[HT.out]<;>rfl,rfl⟩}};{
 have hRf:R=false:=by rw[<-hR,compB,hlen,decide_eq_false hc,Bool.false_and]
 have HR:=zY hRf;have hx:s.size=0∨32<s.size∨(0<s.size/\s.size<=32/\bs s=[46])∨(0<s.size/\s.size<=32/\bs s≠[46]/\bs s=[46,46]):=by{
 by_cases x1:s.size=0;{exact .inl x1};{
 by_cases x2:32<s.size;{exact .inr (.inl x2)};{
 by_cases x3:bs s=[46];{exact .inr (.inr (.inl ⟨by omega,by omega,x3⟩))};{
 by_cases x4:bs s=[46,46];{exact .inr (.inr (.inr ⟨by omega,by omega,x3,x4⟩))};{exact absurd ⟨by omega,by omega,x3,x4⟩ hc}}}}};clear hR hRf hdot hc hlen;rcases hx with x1|x2|⟨x1,x2,x3⟩|⟨x1,x2,x3,x4⟩;{
 have i1:¬(0:Int)<s.size:=by omega
 clear d1 d2;go_enter func292,ntmps292;go_wp2;go_loop [3,4,5] (fun y x _=>y=.bool false/\x=.int .i64 0) (fun _ _ _=>0);case atStart=>exact⟨rfl,rfl⟩
 case round=>
 obtain⟨rfl,rfl⟩:=hrel;go_wp2;go_ret;exact⟨by rw[HR.out]<;>rfl,rfl⟩};{
 have i1:(0:Int)<s.size:=by omega
 have i2:¬(s.size:Int)<=32:=by omega
 clear d1 d2;go_enter func292,ntmps292;go_wp2;go_loop [3,4,5] (fun y x _=>y=.bool false/\x=.int .i64 0) (fun _ _ _=>0);case atStart=>exact⟨rfl,rfl⟩
 case round=>
 obtain⟨rfl,rfl⟩:=hrel;go_wp2;go_ret;exact⟨by rw[HR.out]<;>rfl,rfl⟩};{
 have i1:(0:Int)<s.size:=by omega
 have i2:(s.size:Int)<=32:=by omega
 have i3:s.toList=[46]:=toListV.2 (d1.2 x3);clear x3;clear d1 d2;go_enter func292,ntmps292;go_wp2;go_loop [3,4,5] (fun y x _=>y=.bool false/\x=.int .i64 0) (fun _ _ _=>0);case atStart=>exact⟨rfl,rfl⟩
 case round=>
 obtain⟨rfl,rfl⟩:=hrel;go_wp2;go_ret;exact⟨by rw[HR.out]<;>rfl,rfl⟩};{
 have i1:(0:Int)<s.size:=by omega
 have i2:(s.size:Int)<=32:=by omega
 have i3:¬s.toList=[46]:=fun e=>x3 (d1.1 (toListV.1 e));have i4:s.toList=[46,46]:=toListV.2 (d2.2 x4);clear x3 x4;clear d1 d2;go_enter func292,ntmps292;go_wp2;go_loop [3,4,5] (fun y x _=>y=.bool false/\x=.int .i64 0) (fun _ _ _=>0);case atStart=>exact⟨rfl,rfl⟩
 case round=>
 obtain⟨rfl,rfl⟩:=hrel;go_wp2;go_ret;exact⟨by rw[HR.out]<;>rfl,rfl⟩}}
theorem splitG_bytes:∀(r p:List Nat),(∀b∈p,b<256)->(∀b∈r,b<256)->∀x∈splitG p r,∀b∈x,b<256
 |[],p,hp,_,x,hx=>by
  rw[splitG,List.mem_singleton]at hx
  rw[hx]
  exact hp
 |c::r,p,hp,hr,x,hx=>by
  rw[splitG]at hx
  split at hx
  {
  rcases List.mem_cons.1 hx with rfl|hx
  ·exact hp
  ·exact splitG_bytes r [] (fun b hb=>nomatch hb) (fun b hb=>hr b (List.mem_cons_of_mem _ hb)) x hx}
  {
  refine splitG_bytes r (p++[c]) (fun b hb=>?_) (fun b hb=>hr b (List.mem_cons_of_mem _ hb)) x hx
  rcases List.mem_append.1 hb with hb|hb
  ·exact hp b hb
  {
  rw[List.mem_singleton.1 hb]
  exact hr c List.mem_cons_self}}
theorem elemsL_bytes {s:List Nat} (hs:∀b∈s,b<256):∀x∈elemsL s,∀b∈x,b<256:=by
 unfold elemsL;split;{intro x hx;cases hx};{
 exact splitG_bytes s [] (fun b hb=>nomatch hb) hs}
theorem path_any (w:World) (s:ByteArray) (hs:s.size<=1000000):Calls prog 223 #[.string s] w fun e w'=>e=.returned (.int .i64 (pathE (bs s)))/\Below w.heap.size w w':=by
 obtain⟨R,hR⟩:=zNm (pathE (bs s));rw[hR];rw[pathE,bs_len]at hR;by_cases h2:200<s.size;{
 have i2:(200:Int)<s.size:=by omega
 rw[if_pos h2]at hR;have HR:=zY hR;clear hR;go_enter func223,ntmps223;go_wp2;go_ret;exact⟨by rw[<-HR.out]<;>rfl,Below.refl _ _⟩};{
 have i2:¬(200:Int)<s.size:=by omega
 rw[if_neg h2]at hR;have HEl:=zY (elems_any w s hs);have hby:=elemsL_bytes (s:=bs s) (fun b hb=>bs_lt s b hb);have hsz:=(elemsL_size (s:=bs s));rw[bs_len]at hsz;generalize elemsL (bs s)=L at *;have HC:Hid (∀(W:World) (p:List Nat),p∈L->Calls prog 292 #[.string (strB p)] W fun e w'=>e=.returned (.bool (compB p))/\W=w'):=zY (fun W p hp=>by
  have:=comp_any W (strB p) (by rw[strB_size];have:=hsz.1 p hp;omega)
  rwa [bs_strB (hby p hp)]at this);have hl8:L.length<=201:=by omega
 have HR:=zY hR;clear hR hby hsz h2;go_enter func223,ntmps223;go_wp2_with fail;refine HEl.mono ?_;rintro e1 w1 ⟨v,rfl,ho,hb⟩;have Ho:=zY ho;have HB:=zY hb;obtain⟨Av,cv,rfl⟩:=ownV_slice ho;clear ho hb HEl;by_cases h8:8<L.length;{
 have i8:(8:Int)<L.length:=by omega
 have HV:Hid (R=6):=zY (by rw[<-HR.out,if_pos h8]);go_wp2;go_ret;exact⟨by rw[HV.out]<;>rfl,HB.out⟩};{
 have i8:¬(8:Int)<L.length:=by omega
 have HV:Hid ((if L.all compB then (0:Int) else 7)=R):=zY (by rw[<-HR.out,if_neg h8]);clear HR;go_wp2;go_loop [4] (fun x=>∃i:Nat,i<=L.length/\x=.int .i64 (i:Int)/\(L.take i).all compB=true) (fun x=>L.length-(intOf x).toNat);case atStart=>exact⟨0,by omega,rfl,rfl⟩
 case round=>
 obtain⟨i,hi,rfl,hok⟩:=hrel;have Hok:=zY hok;clear hok;by_cases h:i<L.length;{
 have hiI:(i:Int)<L.length:=by omega
 obtain⟨p,hp⟩:∃p,L[i]?=some p:=⟨_,List.getElem?_eq_getElem h⟩;obtain⟨g,cap,e9,_⟩:=ownV_at Ho.out (by omega);cases e9;have hc:w1.cell? ⟨g,0+i,none⟩=some (.string (strB p)):=by rw[Nat.zero_add,Ho.cellAt i (by omega),strsV,List.getElem?_map,hp];rfl
 rw[Nat.zero_add]at hc;have HCp:=zY (HC.out w1 p (List.mem_of_getElem? hp));have HT:Hid ((L.take (i+1)).all compB=compB p):=zY (by
  rw[List.take_add_one,hp,Option.toList_some,List.all_append,Hok.out,Bool.true_and]
  simp);have HF:Hid (compB p=false->R=7):=zY (fun e=>by
  rw[<-HV.out,if_neg]
  intro hall
  have:=List.all_eq_true.1 hall p (List.mem_of_getElem? hp)
  rw[e]at this
  cases this);clear hp;generalize compB p=b at *;go_wp2_with fail;refine HCp.mono ?_;rintro e2 w2 ⟨rfl,rfl⟩;cases b with
 |false=>go_wp2;go_ret;exact⟨by rw[show R=7 by first|exact HF.out rfl|exact HF.out trivial]<;>rfl,HB.out⟩
 |true=>
 go_wp2;go_round;case rel=>exact⟨i+1,by omega,by go_num,HT.out⟩
 case measure=>simp[intOf];omega};{
 obtain rfl:i=L.length:=by omega
 have hiI:¬((L.length:Nat):Int)<(L.length:Int):=by omega
 have HT:Hid (R=0):=zY (by
  have h1:=Hok.out
  rw[List.take_length]at h1
  rw[<-HV.out,if_pos h1]);go_wp2;go_ret;exact⟨by rw[HT.out]<;>rfl,HB.out⟩}}}
end
end Go.Proofs.YthgenkkkapilhaaGreatDoor