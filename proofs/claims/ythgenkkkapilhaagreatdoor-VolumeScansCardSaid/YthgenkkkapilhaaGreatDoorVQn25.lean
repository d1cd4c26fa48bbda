/-
  Joined: FrB.
-/
import Derived.Test.YthgenkkkapilhaaGreatDoorVQn19
set_option linter.all false
set_option maxRecDepth 100000
set_option maxHeartbeats 64000000
namespace Go.Proofs.YthgenkkkapilhaaGreatDoor
open Go.Proofs.Tryz
section
open Go.RowKit
def valL (l:List Nat):Nat:=l.foldl (fun n c=>n*256+c) 0
theorem valL_snoc (l:List Nat) (c:Nat):valL (l++[c])=valL l*256+c:=by simp[valL]
theorem u32_or {a c:Nat} (ha:a<16777216) (hc:c<256):bits .or .u32 ((a*256:Nat):Int) (c:Int)=((a*256+c:Nat):Int):=by
 have ha':(a*256)%2^IntKind.u32.bits=a*256:=Nat.mod_eq_of_lt (by show a*256<4294967296;omega);have hc':c%2^IntKind.u32.bits=c:=Nat.mod_eq_of_lt (by show c<4294967296;omega);have ho:a*256|||c=a*256+c:=by have h:=Nat.shiftLeft_add_eq_or_of_lt (i:=8) (b:=c) (by omega) a;rw[Nat.shiftLeft_eq]at h;exact h.symm
 simp only[bits,BitVec.ofInt_natCast,BitVec.toNat_or,BitVec.toNat_ofNat,ha',hc',ho];rw[IntKind.wrap_u32];omega
theorem valL_lt:∀(l:List Nat),Bytes l->valL l<256^l.length:=by
 intro l;induction l using snoc_ind with
 |h0=>intro _;exact Nat.lt_of_lt_of_le (by decide:valL []<1) (by simp)
 |h1 l c ih=>
 intro hb;have h1:=ih (fun x hx=>hb x (List.mem_append_left _ hx));have h2:=hb c (by simp);rw[valL_snoc,List.length_append,List.length_singleton,Nat.pow_succ];omega
theorem fvalue_any (w:World) (s:ByteArray) (hs:s.size<=4):Calls prog 352 #[.string s] w fun e w'=>e=.returned (.int .u32 (valL (bs s)))/\w=w':=by
 go_enter func352,ntmps352;go_wp2;go_loopw [3,7] (fun v c wr=>∃k:Nat,k<=s.size/\v=.int .u32 (valL ((bs s).take k):Nat)/\c=.int .i64 (k:Int)/\w=wr) (fun _ c _=>s.size-(intOf c).toNat);case atStart=>exact⟨0,by omega,rfl,rfl,rfl⟩
 case round=>
 obtain⟨k,hk,rfl,rfl,rfl⟩:=hrel;by_cases h:k<s.size;{
 have hkI:(k:Int)<s.size:=by omega
 have hkl:k<(bs s).length:=by rw[bs_len];exact h
 have htk:(bs s).take (k+1)=(bs s).take k++[(s[k]'h).toNat]:=by rw[List.take_succ_eq_append_getElem hkl];have:=bs_get s k h;rw[List.getElem?_eq_getElem hkl]at this;rw[Option.some.inj this]
 have hlt:=valL_lt ((bs s).take k) (fun x hx=>bs_lt s x (List.mem_of_mem_take hx));rw[List.length_take,bs_len,Nat.min_eq_left hk]at hlt;have hlt2:valL ((bs s).take k)<16777216:=Nat.lt_of_lt_of_le hlt (by
  rcases (by omega:k=0∨k=1∨k=2∨k=3)with rfl|rfl|rfl|rfl<;>decide);have hc:(s[k]'h).toNat<256:=UInt8.toNat_lt _;have hv:bits .or .u32 ((valL ((bs s).take k):Int)*256%4294967296) (((s[k]'h).toNat:Int)%4294967296)=((valL ((bs s).take (k+1)):Nat):Int):=by rw[htk,valL_snoc,<-u32_or hlt2 hc];congr 1<;>omega
 have Hv:=zY hv;clear hlt hlt2 hc hv htk hkl;go_wp2;go_roundw;case rel=>exact⟨k+1,by omega,by rw[Hv.out],by go_num,trivial⟩
 case measure=>simp[intOf];omega};{
 have hn:k=s.size:=by omega
 subst hn;rw[List.take_of_length_le (by rw[bs_len];exact Nat.le_refl _)];go_wp2;go_ret;exact⟨rfl,rfl⟩}
def beL (n:Nat):Nat->List Nat
 |0=>[]
 |k+1=>n/256^k%256::beL n k
def frV (k r s i l d p:Int) (a:Int) (t:ByteArray):Value:=.agg #[.int .i64 k,.int .i64 r,.int .i64 s,.int .i64 i,.int .i64 l,.int .i64 d,.int .i64 p,.int .u32 a,.string t]
def inR (n lo hi:Int):Bool:=decide (lo<=n)&&decide (n<=hi)
def padOK (l:Int) (t:ByteArray):Bool:=allIn [0] ((bs t).drop l.toNat)
def frE (k r s i l d p:Int) (t:ByteArray):Int:=
 if (k != 66)&&(k != 68) then 10 else if !inR d 1 8|| !inR p 0 7 then 2
 else if !inR r 0 (d+p-1)|| !inR s 1 255|| !inR i 0 65535|| !inR l 0 28 then 2
 else if (t.size:Int) != 28|| !padOK l t then 1 else 0
theorem fcheck_any (w:World) (k r s i l d p a:Int) (t:ByteArray) (_ht:t.size<=1000):
  Calls prog 21 #[frV k r s i l d p a t] w fun e w'=>e=.returned (.int .i64 (frE k r s i l d p t))/\Below w.heap.size w w':=by
 obtain⟨X,hX⟩:=zNm (frE k r s i l d p t);rw[hX];unfold frE at hX;unfold frV;cases h1:((k != 66)&&(k != 68))with
 |true=>rw[h1,if_pos rfl]at hX;subst hX;rw[Bool.and_eq_true]at h1;obtain⟨h1,h2⟩:=h1;go_enter func21,ntmps21;go_wp2;go_ret;exact⟨rfl,((Below.refl _ _).alloc (Nat.le_refl _) _).alloc (by simp) _⟩
 |false=>
 rw[h1,if_neg (by simp)]at hX;have hk:(k != 66)=false∨((k != 66)=true/\(k != 68)=false):=by{
 cases h2:(k != 66)with
 |false=>exact .inl rfl
 |true=>rw[h2]at h1;exact .inr ⟨rfl,by simpa using h1⟩};have HW:Hid (∀W n lo hi,Calls prog 56 #[.int .i64 n,.int .i64 lo,.int .i64 hi] W fun e w'=>e=.returned (.bool (inR n lo hi))/\W=w'):=zY (fun W n lo hi=>within_any W n lo hi _ rfl);have hB:Below w.heap.size w ((w.alloc (.cells #[.int .i64 k,.int .i64 r,.int .i64 s,.int .i64 i,.int .i64 l,.int .i64 d,.int .i64 p,.int .u32 a,.string t] 49)).alloc (.cells #[.int .i64 d,.int .i64 p] 24)):=((Below.refl _ _).alloc (Nat.le_refl _) _).alloc (by simp) _;have HB:=zY hB;clear h1 hB;cases hd:inR d 1 8 with
 |false=>(
 rw[hd,if_pos (by rfl)]at hX;subst hX;rcases hk with hk|⟨hk,hk2⟩;all_goals
 go_enter func21,ntmps21;go_wp2_with (go_at_call 56;refine(HW.out _ _ _ _).mono ?_;rintro e w' ⟨rfl,rfl⟩);go_ret;exact⟨rfl,HB.out⟩)
 |true=>
 cases hp:inR p 0 7 with
 |false=>(
 rw[hd,hp,if_pos (by rfl)]at hX;subst hX;rcases hk with hk|⟨hk,hk2⟩;all_goals
 go_enter func21,ntmps21;go_wp2_with (go_at_call 56;refine(HW.out _ _ _ _).mono ?_;rintro e w' ⟨rfl,rfl⟩);go_ret;exact⟨rfl,HB.out⟩)
 |true=>
 rw[hd,hp,if_neg (by decide)]at hX;have hdI:1<=d/\d<=8:=by simpa [inR]using hd
 have hpI:0<=p/\p<=7:=by simpa [inR]using hp
 have ew1:IntKind.i64.wrap (d+p)=d+p:=by rw[IntKind.wrap_i64];omega
 have ew2:IntKind.i64.wrap (d+p-1)=d+p-1:=by rw[IntKind.wrap_i64];omega
 clear hdI hpI;cases hr:inR r 0 (d+p-1)with
 |false=>(
 rw[hr,if_pos (by simp)]at hX;subst hX;rcases hk with hk|⟨hk,hk2⟩;all_goals
 go_enter func21,ntmps21;go_wp2_with (go_at_call 56;refine(HW.out _ _ _ _).mono ?_;rintro e w' ⟨rfl,rfl⟩);go_ret;exact⟨rfl,HB.out⟩)
 |true=>
 cases hs:inR s 1 255 with
 |false=>(
 rw[hr,hs,if_pos (by simp)]at hX;subst hX;rcases hk with hk|⟨hk,hk2⟩;all_goals
 go_enter func21,ntmps21;go_wp2_with (go_at_call 56;refine(HW.out _ _ _ _).mono ?_;rintro e w' ⟨rfl,rfl⟩);go_ret;exact⟨rfl,HB.out⟩)
 |true=>
 cases hi:inR i 0 65535 with
 |false=>(
 rw[hr,hs,hi,if_pos (by simp)]at hX;subst hX;rcases hk with hk|⟨hk,hk2⟩;all_goals
 go_enter func21,ntmps21;go_wp2_with (go_at_call 56;refine(HW.out _ _ _ _).mono ?_;rintro e w' ⟨rfl,rfl⟩);go_ret;exact⟨rfl,HB.out⟩)
 |true=>
 cases hl:inR l 0 28 with
 |false=>(
 rw[hr,hs,hi,hl,if_pos (by simp)]at hX;subst hX;rcases hk with hk|⟨hk,hk2⟩;all_goals
 go_enter func21,ntmps21;go_wp2_with (go_at_call 56;refine(HW.out _ _ _ _).mono ?_;rintro e w' ⟨rfl,rfl⟩);go_ret;exact⟨rfl,HB.out⟩)
 |true=>
 rw[hr,hs,hi,hl,if_neg (by decide)]at hX;have hlI:0<=l/\l<=28:=by simpa [inR]using hl
 cases hn:((t.size:Int) != 28)with
 |true=>(
 rw[hn,if_pos (by simp)]at hX;subst hX;clear hlI;rcases hk with hk|⟨hk,hk2⟩;all_goals
 go_enter func21,ntmps21;go_wp2_with (go_at_call 56;refine(HW.out _ _ _ _).mono ?_;rintro e w' ⟨rfl,rfl⟩);go_ret;exact⟨rfl,HB.out⟩)
 |false=>
 have hn2:(t.size:Int)=28:=by simpa using hn
 have hn3:t.size=28:=by omega
 obtain⟨m,rfl⟩:∃m:Nat,l=m:=⟨l.toNat,by omega⟩;have HT:=trim_any;have hX2:X=if allIn [0] (bs (t.extract m 28))=true then 0 else 1:=by{
 rw[<-hX,hn];have e:bs (t.extract m 28)=(bs t).drop m:=by rw[bs_extract,List.take_of_length_le (by rw[bs_len];omega)]
 unfold padOK;rw[e,Int.toNat_natCast];cases allIn [0] ((bs t).drop m)<;>rfl};have Ht:Hid (∀W,Calls prog 57 #[.string (t.extract m 28),.string ⟨#[0]⟩] W fun e w'=>∃u,e=.returned (.string u)/\u.toList.isEmpty=allIn [0] (bs (t.extract m 28))/\Below W.heap.size W w'):=zY (fun W=>trim_any W (t.extract m 28) ⟨#[0]⟩ (by rw[ByteArray.size_extract];omega) (by decide) (by decide));have hm0:(0:Int)<=m:=by omega
 have hm1:(m:Int)<=28:=by omega
 have hm2:m<=28:=by omega
 clear hX hlI HT;cases hz:allIn [0] (bs (t.extract m 28))with
 |true=>(
 rw[hz,if_pos rfl]at hX2;rw[hz]at Ht;subst hX2;clear hz;rcases hk with hk|⟨hk,hk2⟩;all_goals
 go_enter func21,ntmps21;go_wp2_with (first|(go_at_call 56;refine(HW.out _ _ _ _).mono ?_;rintro e w' ⟨rfl,rfl⟩)|(go_at_call 57;refine(Ht.out _).mono ?_;rintro e w' ⟨u,rfl,hu,hb⟩));go_ret;exact⟨rfl,HB.trans (hb.mono HB.size)⟩)
 |false=>
 rw[hz,if_neg (by simp)]at hX2;rw[hz]at Ht;subst hX2;clear hz;rcases hk with hk|⟨hk,hk2⟩;all_goals
 go_enter func21,ntmps21;go_wp2_with (first|(go_at_call 56;refine(HW.out _ _ _ _).mono ?_;rintro e w' ⟨rfl,rfl⟩)|(go_at_call 57;refine(Ht.out _).mono ?_;rintro e w' ⟨u,rfl,hu,hb⟩));go_ret;exact⟨rfl,HB.trans (hb.mono HB.size)⟩
end
end Go.Proofs.YthgenkkkapilhaaGreatDoor