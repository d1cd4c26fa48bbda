/-
  Joined: GfA CrcA VoA Shelf PolA Shelh Sheli.
-/
import Derived.Test.YthgenkkkapilhaaGreatDoorVQnL
import Derived.Deep.AppendLies
import Derived.WalkSpells
import Derived.WalkLawsBesides
import Derived.Test.YthgenkkkapilhaaGreatDoorProg
import Derived.Laws.CopyOwn
import Derived.Shelf.Strings.BuilderK
import Derived.Shelf.Strings.Shaped
import Derived.Shelf.Strings.Repeat
import Derived.Shelf.Strings.SlTrimAscii
import Derived.Shelf.Strings.OnBuilder
import Derived.Shelf.Strconv.Itoa3
import Derived.Shelf.Strconv.AtoiAll
import Derived.Shelf.Pu.ParseUintPublic10
import Derived.Shelf.Strings.Split
import Derived.Shelf.Strings.FuncGrows
set_option linter.all false
set_option maxRecDepth 100000
set_option maxHeartbeats 64000000
namespace Go.Proofs.YthgenkkkapilhaaGreatDoor
open Go.Proofs.Tryz
section
def allB:Nat->(Nat->Bool)->Bool
 |0,_=>true
 |n+1,p=>p n&&allB n p
theorem allB_out {p:Nat->Bool}:∀{n:Nat},allB n p=true->∀a,a<n->p a=true
 |0,_,a,h=>by omega
 |n+1,h,a,ha=>by
  rw[allB,Bool.and_eq_true]at h
  rcases Nat.lt_succ_iff_lt_or_eq.1 ha with hl|rfl
  ·exact allB_out h.2 a hl
  {
  exact h.1}
theorem two_pow_xor {n b:Nat} (h:b<2^n):2^n^^^b=2^n+b:=by
 apply Nat.eq_of_testBit_eq;intro i;rw[Nat.testBit_xor,Nat.testBit_two_pow];rcases Nat.lt_trichotomy i n with hi|rfl|hi;{
 rw[Nat.testBit_two_pow_add_gt hi];have:decide (n=i)=false:=decide_eq_false (by omega);rw[this,Bool.false_xor]};{
 rw[Nat.testBit_two_pow_add_eq,Nat.testBit_lt_two_pow h];simp};{
 have h1:b.testBit i=false:=Nat.testBit_lt_two_pow (Nat.lt_of_lt_of_le h (Nat.pow_le_pow_right (by omega) (by omega)));have h2:(2^n+b).testBit i=false:=Nat.testBit_lt_two_pow (Nat.lt_of_lt_of_le (by omega:2^n+b<2^(n+1)) (Nat.pow_le_pow_right (by omega) hi));have h3:decide (n=i)=false:=decide_eq_false (by omega);rw[h1,h2,h3];rfl}
theorem lin_ext {f g:Nat->Nat} {N:Nat} (hf:∀a b,a<2^N->b<2^N->f (a^^^b)=f a^^^f b) (hg:∀a b,a<2^N->b<2^N->g (a^^^b)=g a^^^g b)
  (h:∀k,k<N->f (2^k)=g (2^k)):∀a,a<2^N->f a=g a:=by
 have h0:∀{u:Nat->Nat},(∀a b,a<2^N->b<2^N->u (a^^^b)=u a^^^u b)->u 0=0:=fun{u} hu=>by
  have hp:0<2^N:=Nat.two_pow_pos N
  have:=hu 0 0 hp hp
  rw[Nat.xor_self,Nat.xor_self]at this
  exact this
 have key:∀n,n<=N->∀a,a<2^n->f a=g a:=by{
 intro n;induction n with
 |zero=>(
 intro _ a ha;have:a=0:=by simpa using ha
 subst this;rw[h0 hf,h0 hg])
 |succ n ih=>
 intro hn a ha;by_cases hl:a<2^n;{exact ih (by omega) a hl};{
 have hb:a-2^n<2^n:=by rw[Nat.pow_succ]at ha;omega
 have e:a=2^n^^^(a-2^n):=by rw[two_pow_xor hb];omega
 have hle:2^n<2^N:=Nat.pow_lt_pow_right (by omega) hn;have hb2:a-2^n<2^N:=by omega
 rw[e,hf _ _ hle hb2,hg _ _ hle hb2,h n (by omega),ih (by omega) _ hb]}};exact key N (Nat.le_refl _)
def dbl8 (a:Nat):Nat:=if 128<=a then (2*a)%256^^^29 else 2*a
def gmulL:Nat->Nat->Nat->Nat->Nat
 |0,s,_,_=>s
 |k+1,s,a,b=>if b=0 then s else gmulL k (if b%2=1 then s^^^a else s) (dbl8 a) (b/2)
def gmul (a b:Nat):Nat:=gmulL 8 0 a b
theorem xor_lt {a b:Nat} (ha:a<256) (hb:b<256):a^^^b<256:=Nat.xor_lt_two_pow (n:=8) ha hb
theorem dbl8_lt {a:Nat} (ha:a<256):dbl8 a<256:=by
 unfold dbl8;split;{exact xor_lt (Nat.mod_lt _ (by omega)) (by omega)};{omega}
theorem dbl8_lin:allB 256 (fun a=>allB 256 fun b=>dbl8 (a^^^b)==(dbl8 a^^^dbl8 b))=true:=by decide +kernel
theorem dbl8_xor {a b:Nat} (ha:a<256) (hb:b<256):dbl8 (a^^^b)=dbl8 a^^^dbl8 b:=by simpa using allB_out (allB_out dbl8_lin a ha) b hb
theorem gmulL_zero (k s a:Nat):gmulL k s a 0=s:=by cases k<;>simp[gmulL]
theorem gmulL_lt:∀(k:Nat) {s a:Nat} (b:Nat),s<256->a<256->gmulL k s a b<256
 |0,s,a,b,hs,_=>hs
 |k+1,s,a,b,hs,ha=>by
  rw[gmulL]
  split
  ·exact hs
  {
  refine gmulL_lt k (b/2) ?_ (dbl8_lt ha)
  split
  ·exact xor_lt hs ha
  ·exact hs}
theorem gmul_lt {a:Nat} (b:Nat) (ha:a<256):gmul a b<256:=gmulL_lt 8 b (by omega) ha
theorem xor4 (a b c d:Nat):(a^^^b)^^^(c^^^d)=(a^^^c)^^^(b^^^d):=by
 rw[Nat.xor_assoc,Nat.xor_assoc,<-Nat.xor_assoc b c d,Nat.xor_comm b c,Nat.xor_assoc c b d]
theorem gmulL_lin:∀(k:Nat) {s t a c:Nat} (b:Nat),a<256->c<256->gmulL k (s^^^t) (a^^^c) b=gmulL k s a b^^^gmulL k t c b
 |0,_,_,_,_,_,_,_=>rfl
 |k+1,s,t,a,c,b,ha,hc=>by
  rw[gmulL,gmulL,gmulL]
  split
  ·rfl
  {
  rw[dbl8_xor ha hc,<-gmulL_lin k (b/2) (dbl8_lt ha) (dbl8_lt hc)]
  congr 1
  split
  ·exact xor4 s t a c
  ·rfl}
theorem gmul_xor_left {a c:Nat} (b:Nat) (ha:a<256) (hc:c<256):gmul (a^^^c) b=gmul a b^^^gmul c b:=by
 have:=gmulL_lin 8 (s:=0) (t:=0) b ha hc;rwa [Nat.xor_self]at this
def gsumL:Nat->Nat->Nat->Nat
 |0,_,_=>0
 |k+1,a,b=>(if b%2=1 then a else 0)^^^gsumL k (dbl8 a) (b/2)
theorem gsumL_zero:∀(k a:Nat),gsumL k a 0=0
 |0,_=>rfl
 |k+1,a=>by rw[gsumL,gsumL_zero k];simp
theorem gmulL_sum:∀(k s a b:Nat),gmulL k s a b=s^^^gsumL k a b
 |0,s,_,_=>by rw[gmulL,gsumL,Nat.xor_zero]
 |k+1,s,a,b=>by
  rw[gmulL,gsumL]
  split
  {
  rename_i h
  subst h
  rw[gsumL_zero]
  simp}
  {
  rw[gmulL_sum k]
  split
  ·rw[Nat.xor_assoc]
  ·rw[Nat.zero_xor]}
theorem bit_xor (b c:Nat):(b^^^c)%2=1↔¬(b%2=1↔c%2=1):=by
 have h:=Nat.testBit_xor b c 0;rw[Nat.testBit_zero,Nat.testBit_zero,Nat.testBit_zero]at h;by_cases h1:b%2=1<;>by_cases h2:c%2=1<;>simp[h1,h2]at h⊢<;>omega
theorem half_xor (b c:Nat):(b^^^c)/2=b/2^^^c/2:=by
 apply Nat.eq_of_testBit_eq;intro i;rw[Nat.testBit_xor,Nat.testBit_div_two,Nat.testBit_div_two,Nat.testBit_div_two,Nat.testBit_xor]
theorem gsumL_lin:∀(k a b c:Nat),gsumL k a (b^^^c)=gsumL k a b^^^gsumL k a c
 |0,_,_,_=>by simp[gsumL]
 |k+1,a,b,c=>by
  rw[gsumL,gsumL,gsumL,half_xor,gsumL_lin k,xor4]
  congr 1
  have:=bit_xor b c
  by_cases h1:b%2=1<;>by_cases h2:c%2=1<;>simp[h1,h2]at this⊢<;>simp[this]
theorem gmul_xor_right (a b c:Nat):gmul a (b^^^c)=gmul a b^^^gmul a c:=by
 unfold gmul;rw[gmulL_sum,gmulL_sum,gmulL_sum,gsumL_lin];simp
theorem gmul_comm {a b:Nat} (ha:a<256) (hb:b<256):gmul a b=gmul b a:=by
 refine lin_ext (N:=8) (f:=fun a=>gmul a b) (g:=fun a=>gmul b a) (fun x y hx hy=>gmul_xor_left b hx hy) (fun x y _ _=>gmul_xor_right b x y) (fun k hk=>?_) a ha;refine lin_ext (N:=8) (f:=fun b=>gmul (2^k) b) (g:=fun b=>gmul b (2^k)) (fun x y _ _=>gmul_xor_right _ x y) (fun x y hx hy=>gmul_xor_left _ hx hy) (fun j hj=>?_) b hb;have h:allB 8 (fun k=>allB 8 fun j=>gmul (2^k) (2^j)==gmul (2^j) (2^k))=true:=by decide +kernel
 simpa using allB_out (allB_out h k hk) j hj
theorem pow_lt8 {k:Nat} (h:k<8):2^k<256:=Nat.pow_lt_pow_right (by omega) h
theorem gmul_assoc {a b c:Nat} (ha:a<256) (hb:b<256) (hc:c<256):gmul (gmul a b) c=gmul a (gmul b c):=by
 refine lin_ext (N:=8) (f:=fun a=>gmul (gmul a b) c) (g:=fun a=>gmul a (gmul b c)) (fun x y hx hy=>?_) (fun x y hx hy=>gmul_xor_left _ hx hy) (fun k hk=>?_) a ha;{
 show gmul (gmul (x^^^y) b) c=_;rw[gmul_xor_left b hx hy,gmul_xor_left c (gmul_lt b hx) (gmul_lt b hy)]};refine lin_ext (N:=8) (f:=fun b=>gmul (gmul (2^k) b) c) (g:=fun b=>gmul (2^k) (gmul b c)) (fun x y hx hy=>?_) (fun x y hx hy=>?_) (fun j hj=>?_) b hb;{
 show gmul (gmul _ (x^^^y)) c=_;rw[gmul_xor_right,gmul_xor_left c (gmul_lt _ (pow_lt8 hk)) (gmul_lt _ (pow_lt8 hk))]};{
 show gmul _ (gmul (x^^^y) c)=_;rw[gmul_xor_left c hx hy,gmul_xor_right]};refine lin_ext (N:=8) (f:=fun c=>gmul (gmul (2^k) (2^j)) c) (g:=fun c=>gmul (2^k) (gmul (2^j) c)) (fun x y _ _=>gmul_xor_right _ x y) (fun x y hx hy=>?_) (fun i hi=>?_) c hc;{
 show gmul _ (gmul _ (x^^^y))=_;rw[gmul_xor_right,gmul_xor_right]};have h:allB 8 (fun k=>allB 8 fun j=>allB 8 fun i=>gmul (gmul (2^k) (2^j)) (2^i)==gmul (2^k) (gmul (2^j) (2^i)))=true:=by decide +kernel
 simpa using allB_out (allB_out (allB_out h k hk) j hj) i hi
theorem gmul_zero_right (a:Nat):gmul a 0=0:=gmulL_zero 8 0 a
theorem gmul_zero_left {b:Nat} (hb:b<256):gmul 0 b=0:=by rw[gmul_comm (by omega) hb,gmul_zero_right]
theorem gmul_one_right (a:Nat):gmul a 1=a:=by
 unfold gmul;rw[gmulL,if_neg (by omega),gmulL_zero];simp
theorem gmul_one_left {b:Nat} (hb:b<256):gmul 1 b=b:=by rw[gmul_comm (by omega) hb,gmul_one_right]
end
section
def rmulA (a b:Nat):Nat->Nat
 |0=>0
 |k+1=>if b.testBit k then rmulA a b k^^^(a<<<k) else rmulA a b k
def rmulB:Nat->Nat->Nat
 |0,p=>p
 |k+1,p=>rmulB k (if p.testBit (k+8) then p^^^(285<<<k) else p)
theorem rmulA_lin (a c b:Nat):∀k,rmulA (a^^^c) b k=rmulA a b k^^^rmulA c b k
 |0=>by simp[rmulA]
 |k+1=>by
  rw[rmulA,rmulA,rmulA,rmulA_lin a c b k]
  split
  ·rw[Nat.shiftLeft_xor_distrib,xor4]
  ·rfl
def gpowL:Nat->Nat->Nat->Nat->Nat
 |0,p,_,_=>p
 |k+1,p,a,n=>if n=0 then p else gpowL k (if n%2=1 then gmul p a else p) (gmul a a) (n/2)
def gpow (a n:Nat):Nat:=gpowL 8 1 a n
def ginv (a:Nat):Nat:=gpow a 254
theorem gpowL_lt:∀(k:Nat) {p a:Nat} (n:Nat),p<256->a<256->gpowL k p a n<256
 |0,_,_,_,hp,_=>hp
 |k+1,p,a,n,hp,ha=>by
  rw[gpowL]
  split
  ·exact hp
  {
  refine gpowL_lt k (n/2) ?_ (gmul_lt a ha)
  split
  ·exact gmul_lt a hp
  ·exact hp}
theorem gpow_lt {a:Nat} (n:Nat) (ha:a<256):gpow a n<256:=gpowL_lt 8 n (by omega) ha
theorem ginv_lt {a:Nat} (ha:a<256):ginv a<256:=gpow_lt 254 ha
theorem inv_all:allB 256 (fun a=>a==0||gmul a (ginv a)==1)=true:=by decide +kernel
theorem gmul_inv {a:Nat} (ha:a<256) (h:a≠0):gmul a (ginv a)=1:=by
 have:=allB_out inv_all a ha;simpa [h]using this
theorem gmul_eq_zero {a b:Nat} (ha:a<256) (hb:b<256) (h:gmul a b=0):a=0∨b=0:=by
 by_cases h0:a=0;{exact .inl h0};{
 refine .inr ?_;have e:gmul (ginv a) (gmul a b)=b:=by rw[<-gmul_assoc (ginv_lt ha) ha hb,gmul_comm (ginv_lt ha) ha,gmul_inv ha h0,gmul_one_left hb]
 rw[h,gmul_zero_right]at e;exact e.symm}
theorem inv_unique {a b:Nat} (ha:a<256) (hb:b<256) (h:gmul a b=1):b=ginv a:=by
 have h0:a≠0:=fun e=>by rw[e,gmul_zero_left hb]at h;cases h
 have e:gmul (ginv a) (gmul a b)=b:=by rw[<-gmul_assoc (ginv_lt ha) ha hb,gmul_comm (ginv_lt ha) ha,gmul_inv ha h0,gmul_one_left hb]
 rw[h,gmul_one_right]at e;exact e.symm
def pw:Nat->Nat
 |0=>1
 |n+1=>dbl8 (pw n)
theorem pw_lt:∀n,pw n<256
 |0=>by decide
 |n+1=>dbl8_lt (pw_lt n)
def pwFrom:Nat->Nat->Nat->Bool
 |0,_,x=>x==1
 |k+1,first,x=>(first==0||x != 1)&&pwFrom k 1 (dbl8 x)
theorem pwFrom_out:∀(k n:Nat),pwFrom k n (pw n)=true->pw (n+k)=1/\∀j,j<k->0<n+j->pw (n+j)≠1
 |0,n,h=>⟨by simpa [pwFrom]using h,fun j hj=>by omega⟩
 |k+1,n,h=>by
  rw[pwFrom,Bool.and_eq_true]at h
  have h2:pwFrom k (n+1) (pw (n+1))=true:=by
   have:∀(k a b x:Nat),0<a->0<b->pwFrom k a x=pwFrom k b x:=by
    intro k a b x ha hb
    cases k with
    |zero=>rfl
    |succ k=>
     have h1:(a==0)=false:=by simp;omega
     have h2:(b==0)=false:=by simp;omega
     rw[pwFrom,pwFrom,h1,h2]
   rw[this k (n+1) 1 _ (by omega) (by omega)]
   exact h.2
  obtain⟨i1,i2⟩:=pwFrom_out k (n+1) h2
  refine⟨by rw[<-i1];congr 1;omega,fun j hj hp=>?_⟩
  cases j with
  |zero=>
   have:n≠0:=by omega
   simpa [this]using h.1
  |succ j=>rw[show n+(j+1)=n+1+j by omega];exact i2 j (by omega) (by omega)
def gexpB:Nat->Nat->Bool
 |0,_=>true
 |k+1,x=>gpow 2 (254-k)==x&&gexpB k (dbl8 x)
theorem gexpB_ok:gexpB 255 1=true:=by decide +kernel
theorem gexpB_out:∀(k n:Nat),k<=255->n=255-k->gexpB k (pw n)=true->∀j,j<k->gpow 2 (n+j)=pw (n+j)
 |0,_,_,_,_,j,hj=>by omega
 |k+1,n,hk,hn,h,j,hj=>by
  rw[gexpB,Bool.and_eq_true]at h
  cases j with
  |zero=>
   have:=h.1
   rw[beq_iff_eq,show 254-k=n by omega]at this
   simpa using this
  |succ j=>
   rw[show n+(j+1)=n+1+j by omega]
   exact gexpB_out k (n+1) (by omega) (by omega) h.2 j (by omega)
theorem gpow_pw {n:Nat} (h:n<255):gpow 2 n=pw n:=by simpa using gexpB_out 255 0 (by omega) rfl gexpB_ok n h
end
section
open Go.RowKit
def SlAt {α:Type} (R:World->Value->α->Prop) (w:World) (v:Value) (xs:List α):Prop:=
 ∃(A:Option Addr) (c:Nat),v=.slice A xs.length c/\xs.length<=c/\c<=9223372036854775807 /\
  ∀i x,xs[i]?=some x->∃b o u,A=some ⟨b,o,none⟩/\w.cell? ⟨b,o+i,none⟩=some u/\R w u x
def PlainR {α:Type} (f:α->Value) (_:World) (u:Value) (x:α):Prop:=u=f x
section
variable {α:Type} {R:World->Value->α->Prop} {w w':World} {v:Value} {xs:List α}
theorem SlAt.keep (h:SlAt R w v xs) (hk:∀p u,w.cell? p=some u->w'.cell? p=some u) (hR:∀u x,R w u x->R w' u x):SlAt R w' v xs:=by
 obtain⟨A,c,hv,h1,h2,h3⟩:=h;refine⟨A,c,hv,h1,h2,fun i x hi=>?_⟩;obtain⟨b,o,u,hA,hc,hr⟩:=h3 i x hi;exact⟨b,o,u,hA,hk _ _ hc,hR _ _ hr⟩
theorem plainR_keep {f:α->Value} (u:Value) (x:α) (h:PlainR f w u x):PlainR f w' u x:=h
theorem cell_below {p:Addr} {u:Value} (hb:Below w.heap.size w w') (h:w.cell? p=some u):w'.cell? p=some u:=
 (hb.cell (World.block_lt_of_cell? _ _ h)).trans h
end
end
section
open Go.RowKit
theorem u8_xor {a b:Nat} (ha:a<256) (hb:b<256):bits .xor .u8 (a:Int) (b:Int)=((a^^^b:Nat):Int):=by
 have ha':a%2^IntKind.u8.bits=a:=Nat.mod_eq_of_lt ha;have hb':b%2^IntKind.u8.bits=b:=Nat.mod_eq_of_lt hb;simp only[bits,BitVec.ofInt_natCast,BitVec.toNat_xor,BitVec.toNat_ofNat,ha',hb'];have:=xor_lt ha hb;exact by rw[IntKind.wrap_u8];omega
theorem u8_and1 {a:Nat} (ha:a<256):bits .and .u8 (a:Int) 1=((a%2:Nat):Int):=by
 have:=bits_mask .u8 8 (by decide) wraps_u8 1 (by decide) (a:Int) (by omega) (by omega);simpa using this
theorem ret_num {k:IntKind} {a b:Int} (h:a=b):Ending.returned (.int k a)=.returned (.int k b):=by rw[h]
theorem dbl_any (w:World) (a:Nat) (ha:a<256):Calls prog 271 #[.int .u8 a] w fun e w'=>e=.returned (.int .u8 (dbl8 a:Nat))/\w=w':=by
 by_cases h:128<=a;{
 have hI:(128:Int)<=a:=by omega
 have h2:bits .xor .u8 ((a:Int)*2%256) 29=((dbl8 a:Nat):Int):=by unfold dbl8;rw[if_pos h,<-u8_xor (by omega) (by omega),Nat.mul_comm];rfl
 have H2:=zY h2;clear h2;go_enter func271,ntmps271;go_wp2;go_ret;exact⟨ret_num H2.out,rfl⟩};{
 have hI:¬(128:Int)<=a:=by omega
 go_enter func271,ntmps271;go_wp2;go_ret;refine⟨ret_num ?_,rfl⟩;unfold dbl8;rw[if_neg h];omega}
theorem gadd_any (w:World) (a b:Nat) (ha:a<256) (hb:b<256):Calls prog 189 #[.int .u8 a,.int .u8 b] w fun e w'=>e=.returned (.int .u8 (a^^^b:Nat))/\w=w':=by
 have H:=zY (u8_xor ha hb);go_enter func189,ntmps189;go_wp2;go_ret;exact⟨ret_num H.out,rfl⟩
theorem gmul_any (w:World) (a b:Nat) (ha:a<256) (hb:b<256):Calls prog 188 #[.int .u8 a,.int .u8 b] w fun e w'=>e=.returned (.int .u8 (gmul a b:Nat))/\w=w':=by
 go_enter func188,ntmps188;go_wp2;go_loop [0,1,5] (fun x y s=>∃(k a' b' s':Nat),k<=8/\a'<256/\b'<2^k/\s'<256/\x=.int .u8 a'/\y=.int .u8 b'/\s=.int .u8 s'/\gmulL k s' a' b'=gmul a b) (fun _ y _=>(intOf y).toNat);case atStart=>exact⟨8,a,b,0,Nat.le_refl _,ha,hb,by omega,rfl,rfl,rfl,rfl⟩
 case round=>
 obtain⟨k,a',b',s',hk,ha',hb',hs',rfl,rfl,rfl,hg⟩:=hrel;have Hg:=zY hg;clear hg;have hb8:b'<256:=Nat.lt_of_lt_of_le hb' (Nat.pow_le_pow_right (i:=k) (j:=8) (by omega) hk);by_cases h0:b'=0;{
 subst h0;go_wp2;go_ret;refine⟨ret_num ?_,rfl⟩;rw[<-Hg.out,gmulL_zero]};{
 obtain⟨k,rfl⟩:∃j,k=j+1:=by{
 cases k with
 |zero=>exact absurd (by simpa using hb') h0
 |succ j=>exact⟨j,rfl⟩};have hpos:(0:Int)<b':=by omega
 have hpN:0<b':=by omega
 have hand:=u8_and1 hb8;have hdb:=dbl_any w a' ha';have Hdb:=zY hdb;have hdl:=dbl8_lt ha';have hxl:=xor_lt hs' ha';have hh:b'/2<2^k:=by rw[Nat.pow_succ]at hb';omega
 have Hh:=zY hh;have Hxl:=zY hxl;have Hdl:=zY hdl;clear hdb hh hb' hxl hdl;by_cases hodd:b'%2=1;{
 have hx:=u8_xor hs' ha';have hand':(bits .and .u8 (b':Int) 1==1)=true:=by rw[hand,hodd];rfl
 have Hodd:=zY hodd;clear hand hodd;go_wp2_with (go_at_call 271;refine Hdb.mono ?_;rintro e w' ⟨rfl,rfl⟩);go_round;case rel=>refine⟨k,dbl8 a',b'/2,s'^^^a',by omega,Hdl.out,Hh.out,Hxl.out,rfl,by go_num,by rw[<-hx],?_⟩;rw[<-Hg.out,gmulL,if_neg h0,if_pos Hodd.out]
 case measure=>simp[intOf];omega};{
 have hand':(bits .and .u8 (b':Int) 1==1)=false:=by rw[hand,show b'%2=0 by omega];rfl
 have Hodd:=zY hodd;clear hand hodd;go_wp2_with (go_at_call 271;refine Hdb.mono ?_;rintro e w' ⟨rfl,rfl⟩);go_round;case rel=>refine⟨k,dbl8 a',b'/2,s',by omega,Hdl.out,Hh.out,hs',rfl,by go_num,rfl,?_⟩;rw[<-Hg.out,gmulL,if_neg h0,if_neg Hodd.out]
 case measure=>simp[intOf];omega}}
theorem u32_xor {a b:Nat} (ha:a<4294967296) (hb:b<4294967296):bits .xor .u32 (a:Int) (b:Int)=((a^^^b:Nat):Int):=by
 have ha':a%2^IntKind.u32.bits=a:=Nat.mod_eq_of_lt ha;have hb':b%2^IntKind.u32.bits=b:=Nat.mod_eq_of_lt hb;simp only[bits,BitVec.ofInt_natCast,BitVec.toNat_xor,BitVec.toNat_ofNat,ha',hb'];have:=Nat.xor_lt_two_pow (n:=32) ha hb;rw[IntKind.wrap_u32];omega
def cdbl (a:Nat):Nat:=if 2147483648<=a then (2*a)%4294967296^^^79764919 else 2*a
theorem cdbl_lt {a:Nat} (ha:a<4294967296):cdbl a<4294967296:=by
 unfold cdbl;split;{exact Nat.xor_lt_two_pow (n:=32) (Nat.mod_lt _ (by omega)) (by omega)};{omega}
theorem cdbl_hi {a:Nat} (h:2147483648<=a):bits .xor .u32 ((a:Int)*2%4294967296) 79764919=((cdbl a:Nat):Int):=by
 unfold cdbl;rw[if_pos h,<-u32_xor (by omega) (by omega),Nat.mul_comm];rfl
theorem cdouble_any (w:World) (a:Nat) (ha:a<4294967296):Calls prog 356 #[.int .u32 a] w fun e w'=>e=.returned (.int .u32 (cdbl a:Nat))/\w=w':=by
 by_cases h:2147483648<=a;{
 have hq:((a:Int)/2147483648==1)=true:=by rw[beq_iff_eq];omega
 have H:=zY (cdbl_hi h);go_enter func356,ntmps356;go_wp2;go_ret;exact⟨ret_num H.out,rfl⟩};{
 have hq:((a:Int)/2147483648==1)=false:=by rw[beq_eq_false_iff_ne];omega
 have H:=zY h;go_enter func356,ntmps356;go_wp2;go_ret;refine⟨ret_num ?_,rfl⟩;unfold cdbl;rw[if_neg h];omega}
theorem rstep_any (w:World) (a:Nat) (ha:a<4294967296):Calls prog 322 #[.int .u32 a] w fun e w'=>e=.returned (.int .u32 (cdbl a:Nat))/\w=w':=by
 by_cases h:2147483648<=a;{
 have hI:(2147483648:Int)<=a:=by omega
 have H:=zY (cdbl_hi h);go_enter func322,ntmps322;go_wp2;go_ret;exact⟨ret_num H.out,rfl⟩};{
 have hI:¬(2147483648:Int)<=a:=by omega
 go_enter func322,ntmps322;go_wp2;go_ret;refine⟨ret_num ?_,rfl⟩;unfold cdbl;rw[if_neg h];omega}
def cdblN:Nat->Nat->Nat
 |0,a=>a
 |k+1,a=>cdbl (cdblN k a)
theorem cdblN_lt {a:Nat} (ha:a<4294967296):∀k,cdblN k a<4294967296
 |0=>ha
 |k+1=>cdbl_lt (cdblN_lt ha k)
def bs (s:ByteArray):List Nat:=s.data.toList.map (·.toNat)
theorem bs_len (s:ByteArray):(bs s).length=s.size:=by unfold bs;rw[List.length_map];rfl
theorem bs_lt (s:ByteArray):∀b∈bs s,b<256:=by
 intro b hb;obtain⟨x,_,rfl⟩:=List.mem_map.1 hb;exact UInt8.toNat_lt x
@[irreducible] def crcByte (c b:Nat):Nat:=cdblN 8 (c^^^(b*16777216))
def crcL (c:Nat) (l:List Nat):Nat:=l.foldl crcByte c
theorem crcByte_lt {c b:Nat} (hc:c<4294967296) (hb:b<256):crcByte c b<4294967296:=by
 unfold crcByte;exact cdblN_lt (Nat.xor_lt_two_pow (n:=32) hc (by omega)) 8
theorem crcL_lt (l:List Nat):∀{c:Nat},c<4294967296->(∀b∈l,b<256)->crcL c l<4294967296:=by
 induction l with
 |nil=>exact fun hc _=>hc
 |cons b l ih=>
 intro c hc h;have:=ih (crcByte_lt hc (h b List.mem_cons_self)) fun x hx=>h x (List.mem_cons_of_mem _ hx);unfold crcL at this⊢;rw[List.foldl_cons];exact this
theorem crcL_snoc (c:Nat) (l:List Nat) (b:Nat):crcL c (l++[b])=crcByte (crcL c l) b:=by
 unfold crcL;rw[List.foldl_append];rfl
theorem bs_take (s:ByteArray) (k:Nat) (h:k<s.size):(bs s).take (k+1)=(bs s).take k++[(s[k]'h).toNat]:=by
 have hl:k<s.data.toList.length:=h;unfold bs;rw[List.take_add_one,List.getElem?_map,List.getElem?_eq_getElem hl];rfl
theorem cupdate_any (w:World) (c:Nat) (s:ByteArray) (hc:c<4294967296) (hs:s.size<=1000000):Calls prog 305 #[.int .u32 c,.string s] w fun e w'=>e=.returned (.int .u32 (crcL c (bs s):Nat))/\w=w':=by
 go_enter func305,ntmps305;go_wp2;go_loop [0,8] (fun r i=>∃k:Nat,k<=s.size/\i=.int .i64 k/\r=.int .u32 (crcL c ((bs s).take k):Nat)) (fun _ i=>s.size-(intOf i).toNat);case atStart=>exact⟨0,by omega,rfl,rfl⟩
 case round=>
 obtain⟨k,hk,rfl,rfl⟩:=hrel;have hrl:crcL c ((bs s).take k)<4294967296:=crcL_lt _ hc fun b hb=>bs_lt s b (List.mem_of_mem_take hb);by_cases h:k<s.size;{
 have hI:(k:Int)<s.size:=by omega
 have hkb:k<(bs s).length:=by rw[bs_len];exact h
 obtain⟨b,hb⟩:∃b:Nat,b=(s[k]'h).toNat:=⟨_,rfl⟩;have hbl:b<256:=by rw[hb];exact UInt8.toNat_lt _
 have htk:=bs_take s k h;rw[<-hb]at htk;have hx:bits .xor .u32 ((crcL c ((bs s).take k):Nat):Int) (((s[k]'h).toNat:Int)%4294967296*16777216%4294967296)=((crcL c ((bs s).take k)^^^b*16777216:Nat):Int):=by rw[<-u32_xor hrl (by omega),hb];congr 1;rw[hb]at hbl;omega
 have hst:crcL c ((bs s).take (k+1))=cdblN 8 (crcL c ((bs s).take k)^^^b*16777216):=by rw[htk,crcL_snoc];unfold crcByte;rfl
 have hxl:crcL c ((bs s).take k)^^^b*16777216<4294967296:=Nat.xor_lt_two_pow (n:=32) hrl (by omega);have Hst:=zY hst;have Hx:=zY hx;clear hst htk hx hb;generalize crcL c ((bs s).take k)^^^b*16777216=x at *;go_wp2;go_loop [0,18] (fun r i=>∃j:Nat,j<=8/\i=.int .i64 j/\r=.int .u32 (cdblN j x:Nat)) (fun _ i=>8-(intOf i).toNat);case atStart=>exact⟨0,by omega,rfl,congrArg (Value.int .u32) Hx.out⟩
 case round=>
 obtain⟨j,hj,rfl,rfl⟩:=hrel;by_cases h8:j<8;{
 have hI8:(j:Int)<8:=by omega
 have Hc:=zY (cdouble_any w (cdblN j x) (cdblN_lt hxl j));go_wp2_with (go_at_call 356;refine Hc.mono ?_;rintro e w' ⟨rfl,rfl⟩);go_round;case rel=>exact⟨j+1,by omega,by go_num,rfl⟩
 case measure=>simp[intOf];omega};{
 have hj8:j=8:=by omega
 subst hj8;go_wp2;go_round;case rel=>exact⟨k+1,by omega,by go_num,by rw[Hst.out]⟩
 case measure=>simp[intOf];omega}};{
 have hkn:k=s.size:=by omega
 subst hkn;have e:(bs s).take s.size=bs s:=by rw[<-bs_len,List.take_length]
 have He:=zY e;clear e;go_wp2;go_ret;refine⟨ret_num ?_,rfl⟩;rw[He.out]}
abbrev strV (s:ByteArray):Value:=.string s
abbrev StrsAt (w:World) (v:Value) (xs:List ByteArray):Prop:=SlAt (PlainR strV) w v xs
def sumL (l:List ByteArray):Nat:=l.foldl (fun c s=>crcL c (bs s)) 4294967295
theorem sumL_snoc (l:List ByteArray) (s:ByteArray):sumL (l++[s])=crcL (sumL l) (bs s):=by
 unfold sumL;rw[List.foldl_append];rfl
theorem foldS_lt (l:List ByteArray):∀c,c<4294967296->l.foldl (fun c s=>crcL c (bs s)) c<4294967296:=by
 induction l with
 |nil=>exact fun c h=>h
 |cons s l ih=>exact fun c h=>ih _ (crcL_lt _ h (bs_lt s))
theorem sumL_lt (l:List ByteArray):sumL l<4294967296:=foldS_lt l _ (by omega)
theorem csum_any (w:World) (v:Value) (xs:List ByteArray) (hv:StrsAt w v xs) (hs:∀s∈xs,s.size<=1000000) (hl:xs.length<=1000000):Calls prog 249 #[v] w fun e w'=>e=.returned (.int .u32 (sumL xs:Nat))/\w=w':=by
 obtain⟨A,d,rfl,h1,h2,h3⟩:=hv;have H3:=zY h3;clear h3;go_enter func249,ntmps249;go_wp2;go_loop [3,8] (fun r i=>∃k:Nat,k<=xs.length/\i=.int .i64 k/\r=.int .u32 (sumL (xs.take k):Nat)) (fun _ i=>xs.length-(intOf i).toNat);case atStart=>exact⟨0,by omega,rfl,rfl⟩
 case round=>
 obtain⟨k,hk,rfl,rfl⟩:=hrel;by_cases h:k<xs.length;{
 have hI:(k:Int)<xs.length:=by omega
 obtain⟨b,o,u,rfl,hck,rfl⟩:=H3.out k xs[k] (List.getElem?_eq_getElem h);have hst:sumL (xs.take (k+1))=crcL (sumL (xs.take k)) (bs xs[k]):=by rw[List.take_add_one,List.getElem?_eq_getElem h];exact sumL_snoc _ _
 have Hst:=zY hst;have Hc:=zY (cupdate_any w (sumL (xs.take k)) xs[k] (sumL_lt _) (hs _ (List.getElem_mem h)));clear hst;go_wp2_with (go_at_call 305;refine Hc.mono ?_;rintro e w' ⟨rfl,rfl⟩);go_round;case rel=>exact⟨k+1,by omega,by go_num,by rw[Hst.out]⟩
 case measure=>simp[intOf];omega};{
 have hkn:k=xs.length:=by omega
 subst hkn;go_wp2;go_ret;exact⟨rfl,rfl⟩}
def strB (l:List Nat):ByteArray:=⟨(l.map UInt8.ofNat).toArray⟩
def be4 (c:Nat):List Nat:=[c/16777216,c/65536%256,c/256%256,c%256]
theorem be4_conv (w:World) (c:Nat):(convert 117 9 (.slice (some ⟨w.heap.size,0,none⟩) 4 4)).run prog (w.alloc (.cells #[.int .u8 ((c:Int)/16777216),.int .u8 ((c:Int)/65536%256),.int .u8 ((c:Int)/256%256),.int .u8 ((c:Int)%256)] 5)) =
  .ok (.string (strB (be4 c))) (w.alloc (.cells #[.int .u8 ((c:Int)/16777216),.int .u8 ((c:Int)/65536%256),.int .u8 ((c:Int)/256%256),.int .u8 ((c:Int)%256)] 5)):=by
 have h:=run_convert_bytes_arg (P:=prog) (w.alloc (.cells #[.int .u8 ((c:Int)/16777216),.int .u8 ((c:Int)/65536%256),.int .u8 ((c:Int)/256%256),.int .u8 ((c:Int)%256)] 5)) 117 5 underlying117 underlying5 w.heap.size 0 4 4
  [(c:Int)/16777216,(c:Int)/65536%256,(c:Int)/256%256,(c:Int)%256] rfl (fun i hi=>?_) 9 underlying9;{
 rw[h];rfl};{
 rw[World.cell?_alloc_at _ _ _ _ (by simp)];match i,hi with
 |0,_=>rfl
 |1,_=>rfl
 |2,_=>rfl
 |3,_=>rfl}
theorem cbytes_any (w:World) (c:Nat) (hc:c<4294967296):Calls prog 251 #[.int .u32 c] w fun e w'=>e=.returned (.string (strB (be4 c)))/\Below w.heap.size w w':=by
 have hcv:=be4_conv w c;go_enter func251,ntmps251;go_wp2;go_ret;exact⟨rfl,(Below.refl _ _).alloc (Nat.le_refl _) _⟩
theorem ret_bool' {a b:Bool} (h:a=b):Ending.returned (.bool a)=.returned (.bool b):=by rw[h]
theorem within_any (w:World) (n lo hi:Int) (b:Bool) (hb:b=(decide (lo<=n)&&decide (n<=hi))):Calls prog 56 #[.int .i64 n,.int .i64 lo,.int .i64 hi] w fun e w'=>e=.returned (.bool b)/\w=w':=by
 have Hb:=zY hb;clear hb;by_cases h1:lo<=n;{
 by_cases h2:n<=hi;{
 have hd:decide (n<=hi)=true:=decide_eq_true h2;go_enter func56,ntmps56;go_wp2;go_ret;exact⟨ret_bool' (by rw[Hb.out];simp[h1,h2]),rfl⟩};{
 have hd:decide (n<=hi)=false:=decide_eq_false h2;go_enter func56,ntmps56;go_wp2;go_ret;exact⟨ret_bool' (by rw[Hb.out];simp;omega),rfl⟩}};{
 go_enter func56,ntmps56;go_wp2;go_ret;exact⟨ret_bool' (by rw[Hb.out];simp;omega),rfl⟩}
def markS:ByteArray:=strB [49,49,49,49,49,48,48,49,49,48,49,48,49,48,48,48]
theorem bs_strB {l:List Nat} (h:∀b∈l,b<256):bs (strB l)=l:=by
 unfold bs strB;rw[List.toList_toArray,List.map_map];conv=>rhs;rw[<-List.map_id l]
 refine List.map_congr_left fun b hb=>?_;simp only[Function.comp_apply,id_eq];exact Nat.mod_eq_of_lt (h b hb)
theorem strB_bs (s:ByteArray):strB (bs s)=s:=by
 unfold bs strB;rw[List.map_map];have:(s.data.toList.map ((fun x=>UInt8.ofNat x)∘fun x=>x.toNat))=s.data.toList:=by{
 conv=>rhs;rw[<-List.map_id s.data.toList]
 refine List.map_congr_left fun b _=>?_;simp};have e:(s.data.toList.map (UInt8.ofNat∘fun x=>x.toNat))=s.data.toList:=this;rw[e]
theorem bs_inj {s t:ByteArray} (h:bs s=bs t):s=t:=by rw[<-strB_bs s,<-strB_bs t,h]
theorem bs_extract (s:ByteArray) (i j:Nat):bs (s.extract i j)=((bs s).take j).drop i:=by
 unfold bs;rw[ByteArray.data_extract,Array.toList_extract,List.extract_eq_take_drop,<-List.map_take,<-List.map_drop,List.drop_take]
theorem strB_size (l:List Nat):(strB l).size=l.length:=by
 unfold strB;show (List.toArray _).size=_;simp
theorem bs_get (s:ByteArray) (i:Nat) (h:i<s.size):(bs s)[i]?=some (s[i]'h).toNat:=by
 have hl:i<s.data.toList.length:=h;unfold bs;rw[List.getElem?_map,List.getElem?_eq_getElem hl];rfl
abbrev u8V (x:Nat):Value:=.int .u8 (x:Int)
abbrev BytesAt (w:World) (v:Value) (xs:List Nat):Prop:=SlAt (PlainR u8V) w v xs
theorem BytesAt.below {w w':World} {v:Value} {xs:List Nat} (h:BytesAt w v xs) (hb:Below w.heap.size w w'):BytesAt w' v xs:=
 SlAt.keep h (fun _ _=>cell_below hb) plainR_keep
theorem SlAt.nil {α:Type} {R:World->Value->α->Prop} (w:World):SlAt R w (.slice none 0 0) []:=
 ⟨none,0,rfl,Nat.le_refl _,by omega,fun i x h=>by cases h⟩
theorem SlAt.cell {α:Type} {f:α->Value} {w:World} {A:Option Addr} {n c:Nat} {xs:List α} (h:SlAt (PlainR f) w (.slice A n c) xs) {i:Nat} {x:α} (hi:xs[i]?=some x):∃b o,A=some ⟨b,o,none⟩/\w.cell? ⟨b,o+i,none⟩=some (f x):=by
 obtain⟨A',c',e,_,_,h3⟩:=h;cases e;obtain⟨b,o,u,rfl,hc,rfl⟩:=h3 i x hi;exact⟨b,o,rfl,hc⟩
theorem SlAt.take {α:Type} {f:α->Value} {w:World} {A:Option Addr} {n c:Nat} {xs:List α} (h:SlAt (PlainR f) w (.slice A n c) xs) {k:Nat} (hk:k<=xs.length):SlAt (PlainR f) w (.slice A k c) (xs.take k):=by
 obtain⟨A',c',e,h1,h2,h3⟩:=h;cases e;refine⟨_,_,by rw[List.length_take,Nat.min_eq_left hk],by rw[List.length_take];omega,h2,fun i x hi=>h3 i x ?_⟩;rw[List.getElem?_take]at hi;split at hi;{exact hi};{
 cases hi}
def Blk (w:World) (g:Nat) (t:TypeId) (us:List Value):Prop:=w.heap[g]?=some (.cells us.toArray t (0,0))
section
variable {w w':World} {g:Nat} {t:TypeId} {us:List Value}
theorem Blk.lt (h:Blk w g t us):g<w.heap.size:=(Array.getElem?_eq_some_iff.1 h).1
theorem Blk.cell (h:Blk w g t us) {i:Nat} {u:Value} (hi:us[i]?=some u):w.cell? ⟨g,i,none⟩=some u:=by
 unfold Blk at h;simp only[World.cell?,h];simpa using hi
theorem Blk.c (h:Blk w g t us) (i:Nat) {u:Value} (hi:us[i]?=some u:=by rfl):w.cell? ⟨g,i,none⟩=some u:=h.cell hi
theorem Blk.frozen (h:Blk w g t us) (i:Nat):w.frozen? ⟨g,i,none⟩=false:=by
 unfold Blk at h;simp[World.frozen?,h]
theorem Blk.new (w:World) (t:TypeId) (us:List Value):Blk (w.alloc (.cells us.toArray t)) w.heap.size t us:=by
 show (w.heap.push _)[w.heap.size]?=_;simp
theorem Blk.of_heap (h:w'.heap[g]?=w.heap[g]?) (hb:Blk w g t us):Blk w' g t us:=h.trans hb
theorem Blk.below {B:Nat} (h:Blk w g t us) (hb:Below B w w') (hg:g<B):Blk w' g t us:=(hb.block g hg).trans h
theorem Blk.kept (h:Blk w g t us) (hb:Below w.heap.size w w'):Blk w' g t us:=(hb.block g h.lt).trans h
theorem Blk.alloc (h:Blk w g t us) (o:Obj):Blk (w.alloc o) g t us:=h.kept ((Below.refl _ _).alloc (Nat.le_refl _) _)
theorem Blk.set (h:Blk w g t us) (i:Nat) (u:Value):Blk (w.setCell ⟨g,i,none⟩ u) g t (us.set i u):=by
 unfold Blk at h⊢;simp[World.setCell,Array.getElem?_modify,h]
theorem Blk.far (h:Blk w g t us) {p:Addr} (hp:g≠p.block) (u:Value):Blk (w.setCell p u) g t us:=(Below.heap_setCell w p u g hp).trans h
theorem Blk.slAt {α:Type} {f:α->Value} {xs:List α} (h:Blk w g t (xs.map f)) {c:Nat} (h1:xs.length<=c) (h2:c<=9223372036854775807):SlAt (PlainR f) w (.slice (some ⟨g,0,none⟩) xs.length c) xs:=
 ⟨_,c,rfl,h1,h2,fun i x hi=>⟨g,0,f x,rfl,by rw[Nat.zero_add];exact h.cell (by rw[List.getElem?_map,hi];rfl),rfl⟩⟩
end
def arrB (xs:List Nat):Array Value:=(xs.map u8V).toArray
abbrev U8B (w:World) (g:Nat) (xs:List Nat):Prop:=Blk w g 5 (xs.map u8V)
theorem U8B.new (w:World) (xs:List Nat):U8B (w.alloc (.cells (arrB xs) 5)) w.heap.size xs:=Blk.new w _ _
theorem U8B.cell {w:World} {g:Nat} {xs:List Nat} (h:U8B w g xs) {i x:Nat} (hi:xs[i]?=some x):w.cell? ⟨g,i,none⟩=some (.int .u8 (x:Int)):=
 Blk.cell h (by rw[List.getElem?_map,hi];rfl)
theorem U8B.set {w:World} {g:Nat} {xs:List Nat} (h:U8B w g xs) (i x:Nat):U8B (w.setCell ⟨g,i,none⟩ (.int .u8 (x:Int))) g (xs.set i x):=by
 unfold U8B;rw[List.map_set];exact Blk.set h i (u8V x)
theorem U8B.bytes {w:World} {g:Nat} {xs:List Nat} (h:U8B w g xs) {n c:Nat} (hn:n=xs.length) (h1:n<=c) (h2:c<=9223372036854775807):BytesAt w (.slice (some ⟨g,0,none⟩) n c) xs:=by
 subst hn;exact Blk.slAt h h1 h2
theorem Tryz.infoU8:(prog.info? 5).map (fun i=>(i.zero,i.size,i.bytes))=some (some (.int .u8 0),1,1):=by kernel_rfl
theorem make_u8 (n c:Nat) (hnc:n<=c) (hc:c<=1000000) (w:World):(Instr.makeSlice 117 (.int .i64 (n:Int)) (.int .i64 (c:Int))).run prog w=.ok (.slice (some ⟨w.heap.size,0,none⟩) n c) (w.alloc (.cells (arrB (List.replicate c 0)) 5)):=by
 obtain⟨i0,hi,hz0,hz1,hz2⟩:=info_parts Tryz.infoU8;have hr:=run_make (P:=prog) w 117 5 i0 (.int .u8 0) underlying117 hi hz0 .i64 .i64 n c (by omega) (by omega) (by rw[hz2];omega) (by omega);rw[hr,hz1];have e:madeCells (Value.int .u8 0).cells ((c:Int).toNat*1)=arrB (List.replicate c 0):=by show madeCells #[Value.int .u8 0] _=_;unfold madeCells arrB;rw[Nat.mul_one,Int.toNat_natCast,List.map_replicate];refine Array.ext (by simp) fun i h1 h2=>?_;simp[Nat.mod_one]
 rw[e];rfl
end
section
open Go.RowKit
theorem own_ge {w:World} {base n:Nat} {t:TypeId} {v:Value} {xs:List Value} (h:w.ownsRow base t 1 v n xs):∀k,v.ownBlock=some k->base<=k:=by
 rcases h.2 with⟨rfl,_⟩|⟨g,cap,cur,rfl,hb,_⟩;{intro k hk;cases hk};{
 intro k hk;cases hk;exact hb}
theorem cell_one_new (w:World) (x:Value) (t:TypeId) (j:Nat) (u:Value) (hu:[x][j]?=some u):(w.alloc (.cells #[x] t)).cell? (Addr.add ⟨w.heap.size,0,none⟩ j)=some u:=by
 cases j with
 |zero=>cases hu;rw[Addr.add_lit,World.cell?_alloc_at _ _ _ _ (by simp)];rfl
 |succ j=>cases hu
def VAt (w:World) (v:Value) (us:List Value):Prop:=
 ∃A c,v=.slice A us.length c/\us.length<=c/\c<=9223372036854775807/\∀j u,us[j]?=some u->∃ad,A=some ad/\w.cell? (ad.add j)=some u
theorem SlAt.vAt {α:Type} {f:α->Value} {w:World} {v:Value} {xs:List α} (h:SlAt (PlainR f) w v xs):VAt w v (xs.map f):=by
 obtain⟨A,c,rfl,h1,h2,h3⟩:=h;refine⟨A,c,by rw[List.length_map],by simpa using h1,h2,fun j u hu=>?_⟩;rw[List.getElem?_map]at hu;obtain⟨x,hx,rfl⟩:=Option.map_eq_some_iff.1 hu;obtain⟨b,o,u,rfl,hc,rfl⟩:=h3 j x hx;exact⟨_,rfl,by rw[Addr.add_lit];exact hc⟩
theorem VAt.one (w:World) (x:Value) (t:TypeId):VAt (w.alloc (.cells #[x] t)) (.slice (some ⟨w.heap.size,0,none⟩) 1 1) [x]:=
 ⟨_,1,rfl,Nat.le_refl _,by omega,fun j u hu=>⟨_,rfl,cell_one_new w x t j u hu⟩⟩
section
variable (w:World) {TS T:TypeId} {z:Value} {b:Nat} (hT:prog.underlying TS=some (.slice T)) (hinfo:(prog.info? T).map (fun i=>(i.zero,i.size,i.bytes))=some (some z,1,b)) (hz:z.cells.size=1) (hb:b<=24)
include hT hinfo
theorem run_append_nilV (B:Nat) (ty:TypeId) (v:Value) (n c:Nat) (xs:List Value) (hown:w.ownsRow B T 1 v n xs):(Builtin.append_ #[TS,TS] ty #[v,.slice none 0 c]).run prog w=.ok v w:=by
 obtain⟨i0,hi,hz0,hz1,hz2⟩:=info_parts hinfo;rcases hown.2 with⟨rfl,rfl⟩|⟨g,cap,cur,rfl,_,_,hnc,_⟩;{simp[Builtin.append_,run_underlying hT,sizeOf,typeInfo,hi,Builtin.lenOf,Builtin.firstCells]};{
 simp[Builtin.append_,run_underlying hT,sizeOf,typeInfo,hi,Builtin.lenOf,Builtin.firstCells,hnc,storeCells]}
include hz hb in
theorem run_appendV (B:Nat) (ty:TypeId) (v:Value) (n:Nat) (xs:List Value) (hown:w.ownsRow B T 1 v n xs) (vx:Value) (us:List Value) (hv:VAt w vx us) (h1:∀u∈us,u.oneCell'=true) (hn:n+us.length<=1000000) (hB:B<=w.heap.size):
  ∃v' w',(Builtin.append_ #[TS,TS] ty #[v,vx]).run prog w=.ok v' w'/\w'.ownsRow B T 1 v' (n+us.length) (xs++us)/\w.grownBy w' v.ownBlock/\(v'.ownBlock=v.ownBlock∨v'.ownBlock=some w.heap.size):=by
 obtain⟨A,c,rfl,g1,g2,g3⟩:=hv;cases A with
 |none=>(
 have hy:us=[]:=by{
 cases us with
 |nil=>rfl
 |cons y r=>obtain⟨_,e,_⟩:=g3 0 y rfl;cases e};subst hy;exact⟨v,w,run_append_nilV w hT hinfo B ty v n c _ hown,by simpa using hown,World.grownBy.refl w _,.inl rfl⟩)
 |some ad=>
 obtain⟨i0,hi,hz0,hz1,hz2⟩:=info_parts hinfo;obtain⟨v',w',hr,k1,k2,_,k3⟩:=run_append_own_at (P:=prog) w B TS ty T i0 z 1 b hT hi hz0 hz1 hz2 hz (by decide) v n xs hown ad us.length c us (by simp)
  (fun j u hu=>by obtain⟨_,e,h⟩:=g3 j u hu;cases e;exact h) h1 (by unfold maxLen;omega) (Nat.le_trans (Nat.mul_le_mul hn hb) (by omega)) hB;exact⟨v',w',hr,k1,k2,k3⟩
include hz hb in
theorem wp_appendV {o:Oper} {a:Act} {K:Act->World->Prop} {Q:Exit->Act->World->Prop} (s x:Operand) (ho:o.op=.call { callee:=.builtin .append,args:= #[s,x],argTypes:= #[TS,TS] })
  (B:Nat) (v:Value) (n:Nat) (xs:List Value) (hs:a.eval s=v) (vx:Value) (hx:a.eval x=vx) (hown:w.ownsRow B T 1 v n xs) (us:List Value) (hv:VAt w vx us) (h1:∀u∈us,u.oneCell'=true) (hn:n+us.length<=1000000) (hB:B<=w.heap.size)
  (h:∀v' w',w'.ownsRow B T 1 v' (n+us.length) (xs++us)->w.grownBy w' v.ownBlock->(v'.ownBlock=v.ownBlock∨v'.ownBlock=some w.heap.size)->Below B w w'->K (a.put o.dst v') w'):o.wp prog a w K Q:=by
 obtain⟨v',w',hr,g1,g2,g3⟩:=run_appendV w hT hinfo hz hb B o.type v n xs hown vx us hv h1 hn hB;unfold Oper.wp execOp;simp only[ho,resolve,invoke,builtin,Sem.run_bind,Sem.run_pure,Result.andThen_ok,List.map_toArray,List.map_cons,List.map_nil,hs,hx,hr];exact h v' w' g1 g2 g3 ((Below.refl _ _).grown g2 hB (own_ge hown))
include hz hb in
theorem wpList_appendV {ops:Array Oper} {rest:List Oper} {o:Oper} {a:Act} {Q:Exit->Act->World->Prop} (hw:Region.wanted o (yielded ops a.tmps)=true) (s x:Operand) (ho:o.op=.call { callee:=.builtin .append,args:= #[s,x],argTypes:= #[TS,TS] })
  (B:Nat) (v:Value) (n:Nat) (xs:List Value) (hs:a.eval s=v) (vx:Value) (hx:a.eval x=vx) (hown:w.ownsRow B T 1 v n xs) (us:List Value) (hv:VAt w vx us) (h1:∀u∈us,u.oneCell'=true) (hn:n+us.length<=1000000) (hB:B<=w.heap.size)
  (h:∀v' w',w'.ownsRow B T 1 v' (n+us.length) (xs++us)->w.grownBy w' v.ownBlock->(v'.ownBlock=v.ownBlock∨v'.ownBlock=some w.heap.size)->Below B w w'->wpList prog ops Q rest (a.put o.dst v') w'):wpList prog ops Q (o::rest) a w:=
 wpList_step fun K hK=>by
  simp only[hw,if_true]
  exact wp_appendV w hT hinfo hz hb s x ho B v n xs hs vx hx hown us hv h1 hn hB fun v' w' g1 g2 g3 g4=>hK _ _ (h v' w' g1 g2 g3 g4)
include hz hb in
end
theorem one_u8s (xs:List Nat):∀u∈xs.map u8V,u.oneCell'=true:=by
 intro u hu;obtain⟨x,_,rfl⟩:=List.mem_map.1 hu;rfl
theorem BytesAt.of_own {w:World} {base n:Nat} {v:Value} {xs:List Nat} (h:w.ownsRow base 5 1 v n (xs.map u8V)):BytesAt w v xs:=by
 obtain⟨hl,h⟩:=h;have hn:xs.length=n:=by simpa using hl
 rcases h with⟨rfl,h0⟩|⟨g,cap,cur,rfl,hb,hh,hnc,hm,hsz,htk⟩;{
 have:xs=[]:=List.eq_nil_of_length_eq_zero (by omega);subst this;exact SlAt.nil w};{
 refine⟨some ⟨g,0,none⟩,cap,by rw[hn],by omega,hm,fun i x hx=>⟨g,0,u8V x,rfl,?_,rfl⟩⟩;have h2:(xs.map u8V)[i]?=some (u8V x):=by rw[List.getElem?_map,hx];rfl
 rw[<-htk,List.getElem?_take]at h2;split at h2;{
 simp only[World.cell?,hh,Nat.zero_add];simpa using h2};{cases h2}}
theorem own_empty (w:World) (t:TypeId) (size:Nat):(w.alloc (.cells #[] t)).ownsRow w.heap.size t size (.slice (some ⟨w.heap.size,0,none⟩) 0 0) 0 []:=
 ⟨by simp,.inr ⟨w.heap.size,0,#[],rfl,Nat.le_refl _,by show (w.heap.push _)[w.heap.size]?=_;simp,Nat.le_refl _,Nat.zero_le _,by simp,by simp⟩⟩
theorem cells_of {w:World} {A:Option Addr} {n c:Nat} {p:List Nat} (h:BytesAt w (.slice A n c) p):(p=[]∨∃ad,A=some ad)/\∀ad,A=some ad->∀(j:Nat) (u:Value),(p.map u8V)[j]?=some u->w.cell? (ad.add j)=some u:=by
 refine⟨?_,fun ad e j u hu=>?_⟩;{
 cases p with
 |nil=>exact .inl rfl
 |cons x r=>
 obtain⟨b,o,e,_⟩:=h.cell (i:=0) rfl;exact .inr ⟨_,e⟩};{
 subst e;rw[List.getElem?_map]at hu;obtain⟨x,hx,rfl⟩:=Option.map_eq_some_iff.1 hu;obtain⟨b,o,e,hc⟩:=h.cell hx;cases e;rw[Addr.add_lit];exact hc}
theorem run_app1 {W:World} {B n:Nat} {v:Value} {xs:List Nat} (ty:TypeId) (x:Nat) (hown:W.ownsRow B 5 1 v n (xs.map u8V)) (hn:n<=900000) (hB:B<=W.heap.size):
  ∃v' w',(Builtin.append_ #[117,117] ty #[v,.slice (some ⟨W.heap.size,0,none⟩) 1 1]).run prog (W.alloc (.cells #[.int .u8 (x:Int)] 5))=.ok v' w'/\w'.ownsRow B 5 1 v' (n+1) ((xs++[x]).map u8V)/\Below B W w':=by
 obtain⟨v',w',hr,h1,h2,_⟩:=run_appendV (W.alloc (.cells #[u8V x] 5)) underlying117 Tryz.infoU8 rfl (by omega) B ty v n _ (hown.alloc _) _ [u8V x] (VAt.one W _ _) (by simp[Value.oneCell']) (by simp;omega) (by simp;omega);refine⟨v',w',hr,by simpa using h1,?_⟩;exact((Below.refl _ _).alloc hB _).grown h2 (by simp;omega) (own_ge hown)
theorem wpList_app1 {ops:Array Oper} {rest:List Oper} {o:Oper} {a:Act} {Q:Exit->Act->World->Prop} {W:World} {B n:Nat} {v:Value} {xs:List Nat} {x:Nat} (hw:Region.wanted o (yielded ops a.tmps)=true) (s y:Operand) (ho:o.op=.call { callee:=.builtin .append,args:= #[s,y],argTypes:= #[117,117] })
  (hs:a.eval s=v) (hy:a.eval y=.slice (some ⟨W.heap.size,0,none⟩) 1 1) (hown:W.ownsRow B 5 1 v n (xs.map u8V)) (hn:n<=900000) (hB:B<=W.heap.size)
  (h:∀v' w',w'.ownsRow B 5 1 v' (n+1) ((xs++[x]).map u8V)->Below B W w'->wpList prog ops Q rest (a.put o.dst v') w'):wpList prog ops Q (o::rest) a (W.alloc (.cells #[.int .u8 (x:Int)] 5)):=
 wpList_step fun K hK=>by
  simp only[hw,if_true]
  obtain⟨v',w',hr,g1,g2⟩:=run_app1 o.type x hown hn hB
  unfold Oper.wp execOp
  simp only[ho,resolve,invoke,builtin,Sem.run_bind,Sem.run_pure,Result.andThen_ok,List.map_toArray,List.map_cons,List.map_nil,hs,hy,hr]
  exact hK _ _ (h v' w' g1 g2)
theorem BytesAt.cell {w:World} {A:Option Addr} {n c:Nat} {xs:List Nat} (h:BytesAt w (.slice A n c) xs) {i x:Nat} (hi:xs[i]?=some x):∃b o,A=some ⟨b,o,none⟩/\w.cell? ⟨b,o+i,none⟩=some (.int .u8 (x:Int)):=SlAt.cell h hi
theorem BytesAt.one (w:World) (x:Nat):BytesAt (w.alloc (.cells #[.int .u8 (x:Int)] 5)) (.slice (some ⟨w.heap.size,0,none⟩) 1 1) [x]:=
 U8B.bytes (U8B.new w [x]) rfl (Nat.le_refl _) (by omega)
theorem still_of {P:Program} {f:FuncId} {args:Array Value} {w:World} {v:Value} (h:Calls P f args w fun e w'=>e=.returned v/\w=w'):Calls P f args w fun e w'=>e=.returned v/\w'=w:=
 h.mono fun _ _ ⟨he,hw⟩=>⟨he,hw.symm⟩
end
section
open Go.RowKit
structure RowB (w:World) (g:Nat) (xs:List Nat):Prop where
 lt:g<w.heap.size
 cell:∀i x:Nat,xs[i]?=some x->w.cell? ⟨g,i,none⟩=some (.int .u8 (x:Int))
 free:∀i,i<xs.length->w.frozen? ⟨g,i,none⟩=false
section
variable {w w':World} {g:Nat} {xs:List Nat}
theorem RowB.of_heap (h:RowB w g xs) (hw:w'.heap[g]?=w.heap[g]?):RowB w' g xs:=by
 refine⟨?_,fun i x hx=>(World.cell?_of_block (a:=⟨g,i,none⟩) hw).trans (h.cell i x hx),fun i hi=>?_⟩;{
 have hl:=h.lt;rcases Nat.lt_or_ge g w'.heap.size with h1|h1;{exact h1};{
 rw[Array.getElem?_eq_none h1,Array.getElem?_eq_getElem hl]at hw;cases hw}};{
 have:=h.free i hi;simp only[World.frozen?]at this⊢;rw[hw];exact this}
theorem RowB.kept (h:RowB w g xs) (hb:Below w.heap.size w w'):RowB w' g xs:=h.of_heap (hb.block g h.lt)
theorem RowB.bytes (h:RowB w g xs) {n c:Nat} (hn:n=xs.length) (h1:n<=c) (h2:c<=9223372036854775807):BytesAt w (.slice (some ⟨g,0,none⟩) n c) xs:=by
 subst hn;exact⟨_,c,rfl,h1,h2,fun i x hi=>⟨g,0,u8V x,rfl,by rw[Nat.zero_add];exact h.cell i x hi,rfl⟩⟩
end
theorem run_toBytes (W:World) (s:ByteArray) (hs:s.size<=1000000):
  ∃c w1,(convert 9 117 (.string s)).run prog W=.ok (.slice (some ⟨W.heap.size,0,none⟩) s.size c) w1/\s.size<=c/\c<=9223372036854775807/\RowB w1 W.heap.size (bs s)/\Below W.heap.size W w1/\w1.heap.size=W.heap.size+1:=by
 have hr:=run_bytes_of_string (P:=prog) W 9 117 5 s underlying9 underlying117 underlying5;have hge:=grownCap_ge W s.size 0 5;have hle:=grownCap_le_maxLen W s.size 0 5 (by unfold maxLen;omega);generalize grownCap W s.size 0 5=c at *;refine⟨c,_,hr,hge,hle,?_,?_,by simp⟩;{
 have hh:(W.drew.alloc (.cells (bytesRow s c) 5 ((bytesRow s c).size,(bytesRow s c).size+1))).heap[W.heap.size]?=some (.cells (bytesRow s c) 5 ((bytesRow s c).size,(bytesRow s c).size+1)):=by show (W.heap.push _)[W.heap.size]?=_;simp
 refine⟨by simp,fun i x hx=>?_,fun i hi=>?_⟩;{
 simp only[World.cell?,hh];have hil:=(List.getElem?_eq_some_iff.1 hx).1;rw[bs_len]at hil;rw[bs_get s i hil]at hx;have hi2:i<(s.data.map (fun b=>Value.int .u8 (b.toNat:Int))).size:=by simpa using hil
 unfold bytesRow;rw[Array.getElem?_append_left hi2,Array.getElem?_eq_getElem hi2];cases hx;simp;rfl};{
 rw[bs_len]at hi;have hsz:i<(bytesRow s c).size:=by unfold bytesRow;simp;omega
 simp only[World.frozen?,hh];simp;omega}};{exact((Below.refl W.heap.size W).drew).alloc (Nat.le_refl _) _}
theorem run_toStr {W:World} {A:Option Addr} {n c:Nat} {p:List Nat} (h:BytesAt W (.slice A n c) p) (hn:n=p.length):(convert 117 9 (.slice A n c)).run prog W=.ok (.string (strB p)) W:=by
 subst hn;cases A with
 |none=>(
 have hp:p=[]:=by{
 cases p with
 |nil=>rfl
 |cons x r=>obtain⟨_,_,e,_⟩:=BytesAt.cell h (i:=0) rfl;cases e};subst hp;exact run_convert_bytes_nil (P:=prog) W 117 5 underlying117 underlying5 _ _ 9 underlying9)
 |some ad=>
 obtain⟨b,o,f⟩:=ad;by_cases hp:p=[];{
 subst hp;have hl:(loadCells ⟨b,o,f⟩ 0).run prog W=.ok #[] W:=by simpa using run_loadCells_list (P:=prog) W ⟨b,o,f⟩ [] (by simp)
 show (convert 117 9 (.slice (some ⟨b,o,f⟩) 0 c)).run prog W=_;rw[run_convert_bytes_string W 117 9 5 _ 0 c underlying117 underlying5 underlying9,run_bytesToString W _ 0 c [] hl];rfl};{
 obtain⟨x,hx⟩:∃x,p[0]?=some x:=by{
 cases p with
 |nil=>exact absurd rfl hp
 |cons x r=>exact⟨x,rfl⟩};obtain⟨b',o',e,_⟩:=BytesAt.cell h hx;cases e;have hr:=run_convert_bytes_arg (P:=prog) W 117 5 underlying117 underlying5 b o p.length c (p.map fun x:Nat=>(x:Int)) (by simp) (fun i hi=>by
  obtain⟨b1,o1,e1,hc⟩:=BytesAt.cell h (List.getElem?_eq_getElem hi)
  cases e1
  rw[hc]
  simp[List.getD,List.getElem?_eq_getElem hi]) 9 underlying9;have e:strOfNums (p.map fun x:Nat=>(x:Int))=strB p:=by unfold strOfNums strB;rw[List.map_map];rfl
 rw[hr,e]}
end
section
open Go.RowKit
theorem ownV_below {w w':World} {B n size:Nat} {t:TypeId} {v:Value} {xs:List Value} (h:w.ownsRow B t size v n xs) (hb:Below w.heap.size w w'):w'.ownsRow B t size v n xs:=
 ⟨h.1,h.2.imp id fun⟨g,cap,cur,e,hB,hh,r⟩=>⟨g,cap,cur,e,hB,(hb.block g (Array.getElem?_eq_some_iff.1 hh).1).trans hh,r⟩⟩
theorem ownV_ge {w:World} {B n size:Nat} {t:TypeId} {v:Value} {xs:List Value} (h:w.ownsRow B t size v n xs):∀k,v.ownBlock=some k->B<=k:=fun k hk=>(h.lt k hk).1
theorem ownV_slice {W:World} {B n size:Nat} {t:TypeId} {v:Value} {xs:List Value} (h:W.ownsRow B t size v n xs):∃A c,v=.slice A n c:=by
 rcases h.2 with⟨e,rfl⟩|⟨g,cap,_,e,_⟩;{exact⟨_,_,e⟩};{exact⟨_,_,e⟩}
theorem ownV_at {W:World} {B n size:Nat} {t:TypeId} {v:Value} {xs:List Value} (h:W.ownsRow B t size v n xs) (hn:0<n):∃g c,v=.slice (some ⟨g,0,none⟩) n c/\B<=g:=by
 rcases h.2 with⟨e,h0⟩|⟨g,cap,_,e,hb,_⟩;{omega};{exact⟨_,_,e,hb⟩}
theorem ownV_new (W:World) (t:TypeId) (n:Nat):(W.alloc (.cells #[] t)).ownsRow W.heap.size t n (.slice (some ⟨W.heap.size,0,none⟩) 0 0) 0 []:=by
 refine⟨by simp,.inr ⟨W.heap.size,0,#[],rfl,Nat.le_refl _,?_,Nat.le_refl _,by decide,by simp,by simp⟩⟩;show (W.heap.push (Obj.cells #[] t))[W.heap.size]?=_;exact Array.getElem?_push_size
theorem toListV {s:ByteArray} {l:List UInt8}:s.toList=l↔s=⟨l.toArray⟩:=by
 rw[ByteArray.toList_eq];constructor;{
 intro h;apply ByteArray.ext;rw[<-h]};{
 rintro rfl;rfl}
theorem isEmptyV {s:ByteArray} (h:s.size≠0):s.toList.isEmpty=false:=by
 rw[ByteArray.toList_eq];cases e:s.data.toList with
 |nil=>(
 have:s.data.toList.length=0:=by rw[e];rfl
 rw[Array.length_toList]at this;exact absurd this h)
 |cons=>rfl
theorem beqV_true {a b:ByteArray} (h:a=b):(a==b)=true:=(Go.MapKept.bytes_beq a b).2 h
theorem beqV_false {a b:ByteArray} (h:a≠b):(a==b)=false:=by
 cases e:(a==b)with
 |true=>exact absurd ((Go.MapKept.bytes_beq a b).1 e) h
 |false=>rfl
theorem bneV_true {a b:ByteArray} (h:a≠b):(a != b)=true:=by rw[bne,beqV_false h];rfl
theorem bneV_false {a b:ByteArray} (h:a=b):(a != b)=false:=by rw[bne,beqV_true h];rfl
theorem ownV_nil (W:World) (B size:Nat) (t:TypeId):W.ownsRow B t size (.slice none 0 0) 0 []:=⟨by simp,.inl ⟨rfl,rfl⟩⟩
theorem append_atV {P:Program} {ops:Array Oper} {rest:List Oper} {o:Oper} {a:Act} {Q:Exit->Act->World->Prop} (w:World) (hgd:o.guard=none) (s x:Operand) (t:TypeId) (ho:o.op=.call { callee:=.builtin .append,args:= #[s,x],argTypes:= #[t,t] })
  (base:Nat) (e:TypeId) (i:TypeInfo) (z:Value) (size bytes:Nat) (ht:P.underlying t=some (.slice e)) (hi:P.info? e=some i) (hz:i.zero=some z) (hsize:i.size=size) (hby:i.bytes=bytes) (hzs:z.cells.size=size) (hsz:0<size)
  (v:Value) (n:Nat) (xs:List Value) (hs:a.eval s=v) (hown:w.ownsRow base e size v n xs) (ad:Addr) (m c:Nat) (news:List Value) (hx:a.eval x=.slice (some ad) m c) (hl:news.length=m*size)
  (hnews:∀j u,news[j]?=some u->w.cell? (ad.add j)=some u) (h1:∀u∈news,u.oneCell'=true) (h63:n+m<=maxLen) (hbytes:(n+m)*bytes<=140737488355328) (hbase:base<=w.heap.size)
  (h:∀v' w',w'.ownsRow base e size v' (n+m) (xs++news)->w.grownBy w' v.ownBlock->(v'.ownBlock=v.ownBlock∨v'.ownBlock=some w.heap.size)->wpList P ops Q rest (a.put o.dst v') w'):wpList P ops Q (o::rest) a w:=by
 obtain⟨v',w',hr,g1,g2,_,g3⟩:=run_append_own_at (P:=P) w base t o.type e i z size bytes ht hi hz hsize hby hzs hsz v n xs hown ad m c news hl hnews h1 h63 hbytes hbase;refine wpList_plain hgd fun K hK=>?_;unfold Oper.wp execOp;simp only[ho,resolve,invoke,builtin,Sem.run_bind,Sem.run_pure,Result.andThen_ok,List.map_toArray,List.map_cons,List.map_nil,hs,hx,hr];exact hK _ _ (h v' w' g1 g2 g3)
structure Shape (α:Type) where
 n:Nat
 R:World->List Value->α->Prop
 len:∀{w cs x},R w cs x->cs.length=n
 one:∀{w cs x},R w cs x->∀u∈cs,u.oneCell'=true
 keep:∀{w w' cs x},R w cs x->Below w.heap.size w w'->R w' cs x
def SeqAt {α:Type} (ρ:Shape α) (W:World) (v:Value) (xs:List α):Prop:=
 ∃(A:Option Addr) (c:Nat),v=.slice A xs.length c/\xs.length<=c/\c<=9223372036854775807 /\
  ∀i x,xs[i]?=some x->∃b o cs,A=some ⟨b,o,none⟩/\ρ.R W cs x/\∀j u,cs[j]?=some u->W.cell? ⟨b,o+i*ρ.n+j,none⟩=some u
section
variable {α:Type} {ρ:Shape α} {w w' W:World} {v:Value} {xs:List α}
theorem SeqAt.below (h:SeqAt ρ w v xs) (hb:Below w.heap.size w w'):SeqAt ρ w' v xs:=by
 obtain⟨A,c,e,h1,h2,h3⟩:=h;refine⟨A,c,e,h1,h2,fun i x hx=>?_⟩;obtain⟨b,o,cs,e1,hr,h4⟩:=h3 i x hx;exact⟨b,o,cs,e1,ρ.keep hr hb,fun j u hu=>cell_below hb (h4 j u hu)⟩
theorem SeqAt.nil (w:World):SeqAt ρ w (.slice none 0 0) []:=⟨none,0,rfl,Nat.le_refl _,by decide,fun i x h=>by simp at h⟩
theorem SeqAt.one (h:SeqAt ρ w v xs):v.oneCell'=true:=by
 obtain⟨A,c,rfl,_⟩:=h;rfl
theorem SeqAt.slice (h:SeqAt ρ w v xs):∃A c,v=.slice A xs.length c/\xs.length<=c/\c<=9223372036854775807:=by
 obtain⟨A,c,e,h1,h2,_⟩:=h;exact⟨A,c,e,h1,h2⟩
inductive Both {β γ:Type} (r:β->γ->Prop):List β->List γ->Prop
 |nil:Both r [] []
 |cons {x y xs ys}:r x y->Both r xs ys->Both r (x::xs) (y::ys)
theorem Both.len {β γ:Type} {r:β->γ->Prop} {l:List β} {m:List γ} (h:Both r l m):l.length=m.length:=by
 induction h with
 |nil=>rfl
 |cons _ _ ih=>rw[List.length_cons,List.length_cons,ih]
theorem Both.mono {β γ:Type} {r s:β->γ->Prop} {l:List β} {m:List γ} (h:Both r l m) (hs:∀x y,r x y->s x y):Both s l m:=by
 induction h with
 |nil=>exact .nil
 |cons h1 _ ih=>exact .cons (hs _ _ h1) ih
theorem Both.app {β γ:Type} {r:β->γ->Prop} {l l':List β} {m m':List γ} (h:Both r l m) (h':Both r l' m'):Both r (l++l') (m++m'):=by
 induction h with
 |nil=>exact h'
 |cons h1 _ ih=>exact .cons h1 ih
theorem Both.at {β γ:Type} {r:β->γ->Prop} {l:List β} {m:List γ} (h:Both r l m):∀{i:Nat} {y:γ},m[i]?=some y->∃x,l[i]?=some x/\r x y:=by
 induction h with
 |nil=>intro i y hy;simp at hy
 | @cons x z l m h1 _ ih=>
 intro i y hy;cases i with
 |zero=>(
 obtain rfl:z=y:=by simpa using hy
 exact⟨x,rfl,h1⟩)
 |succ i=>exact ih (i:=i) (by simpa using hy)
theorem flat_get {n:Nat}:∀{css:List (List Value)} {i:Nat} {cs:List Value},(∀c∈css,c.length=n)->css[i]?=some cs->∀j,j<n->css.flatten[i*n+j]?=cs[j]?
 |[],_,_,_,h,_,_=>by simp at h
 |c::r,0,cs,hl,h,j,hj=>by
  obtain rfl:c=cs:=by simpa using h
  rw[List.flatten_cons,List.getElem?_append_left (by rw[hl c List.mem_cons_self];omega)]
  simp
 |c::r,i+1,cs,hl,h,j,hj=>by
  have hc:=hl c List.mem_cons_self
  rw[List.flatten_cons,List.getElem?_append_right (by rw[hc,Nat.add_mul];omega),show (i+1)*n+j-c.length=i*n+j by rw[hc,Nat.add_mul];omega]
  exact flat_get (fun x hx=>hl x (List.mem_cons_of_mem _ hx)) (by simpa using h) j hj
theorem flat_len {n:Nat}:∀{css:List (List Value)},(∀c∈css,c.length=n)->css.flatten.length=css.length*n
 |[],_=>by simp
 |c::r,hl=>by
  rw[List.flatten_cons,List.length_append,flat_len fun x hx=>hl x (List.mem_cons_of_mem _ hx),hl c List.mem_cons_self,List.length_cons,Nat.add_mul]
  omega
theorem Both.lens {w0:World} {css:List (List Value)} (h:Both (ρ.R w0) css xs):∀c∈css,c.length=ρ.n:=by
 induction h with
 |nil=>intro c hc;cases hc
 |cons h1 _ ih=>
 intro c hc;rcases List.mem_cons.1 hc with rfl|hc;{exact ρ.len h1};{exact ih c hc}
theorem Both.ones {w0:World} {css:List (List Value)} (h:Both (ρ.R w0) css xs):∀u∈css.flatten,u.oneCell'=true:=by
 induction h with
 |nil=>intro u hu;simp at hu
 |cons h1 _ ih=>
 intro u hu;rw[List.flatten_cons]at hu;rcases List.mem_append.1 hu with hu|hu;{exact ρ.one h1 u hu};{exact ih u hu}
def OwnSeq (ρ:Shape α) (t:TypeId) (w0 W:World) (v:Value) (xs:List α):Prop:=
 ∃css,W.ownsRow w0.heap.size t ρ.n v xs.length css.flatten/\Both (ρ.R w0) css xs
theorem OwnSeq.nil {t:TypeId} {w0:World} (W:World):OwnSeq ρ t w0 W (.slice none 0 0) []:=⟨[],ownV_nil _ _ _ _,.nil⟩
theorem OwnSeq.at {t:TypeId} {w0:World} (h:OwnSeq ρ t w0 W v xs) (hb:Below w0.heap.size w0 W):SeqAt ρ W v xs:=by
 obtain⟨css,h,hB⟩:=h;rcases h.2 with⟨rfl,h0⟩|⟨g,cap,cur,rfl,_,_,h1,h2,_⟩;{
 obtain rfl:=List.length_eq_zero_iff.1 h0;exact SeqAt.nil _};{
 refine⟨_,_,rfl,h1,by unfold maxLen at h2;omega,fun i x hx=>?_⟩;obtain⟨cs,hcs,hr⟩:=hB.at hx;refine⟨g,0,cs,rfl,ρ.keep hr hb,fun j u hu=>?_⟩;have hj:j<ρ.n:=by have:=(List.getElem?_eq_some_iff.1 hu).1;rwa [ρ.len hr]at this
 have hi:i<xs.length:=(List.getElem?_eq_some_iff.1 hx).1;have hm:(i+1)*ρ.n<=xs.length*ρ.n:=Nat.mul_le_mul (by omega) (Nat.le_refl _);rw[Nat.add_mul,Nat.one_mul]at hm;rw[Nat.zero_add,h.cellAt (i*ρ.n+j) (by omega),flat_get hB.lens hcs j hj,hu]}
theorem OwnSeq.below {t:TypeId} {w0:World} (h:OwnSeq ρ t w0 W v xs) (hb:Below W.heap.size W w'):OwnSeq ρ t w0 w' v xs:=by
 obtain⟨css,h,hB⟩:=h;exact⟨css,ownV_below h hb,hB⟩
end
def strS:Shape ByteArray where
 n:=1
 R _ cs s:=cs=[.string s]
 len h:=by rw[h];rfl
 one h u hu:=by rw[h]at hu;rw[List.mem_singleton.1 hu];rfl
 keep h _:=h
structure Atr where
 k:ByteArray
 v:ByteArray
def atrS:Shape Atr where
 n:=2
 R _ cs x:=cs=[.string x.k,.string x.v]
 len h:=by rw[h];rfl
 one h u hu:=by
  rw[h]at hu
  simp only[List.mem_cons,List.not_mem_nil,or_false]at hu
  rcases hu with rfl|rfl<;>rfl
 keep h _:=h
structure Ext where
 s:Int
 o:Int
 l:Int
def extS:Shape Ext where
 n:=3
 R _ cs x:=cs=[.int .i64 x.s,.int .i64 x.o,.int .i64 x.l]
 len h:=by rw[h];rfl
 one h u hu:=by
  rw[h]at hu
  simp only[List.mem_cons,List.not_mem_nil,or_false]at hu
  rcases hu with rfl|rfl|rfl<;>rfl
 keep h _:=h
structure Ent where
 k:Int
 path:ByteArray
 attrs:List Atr
 tgt:ByteArray
 size:Int
 dig:ByteArray
 exts:List Ext
def entS:Shape Ent where
 n:=7
 R w cs x:=∃va vx,cs=[.int .i64 x.k,.string x.path,va,.string x.tgt,.int .i64 x.size,.string x.dig,vx]/\SeqAt atrS w va x.attrs/\SeqAt extS w vx x.exts
 len h:=by
  obtain⟨_,_,rfl,_⟩:=h
  rfl
 one h u hu:=by
  obtain⟨_,_,rfl,h1,h2⟩:=h
  simp only[List.mem_cons,List.not_mem_nil,or_false]at hu
  rcases hu with rfl|rfl|rfl|rfl|rfl|rfl|rfl
  any_goals rfl
  ·exact h1.one
  ·exact h2.one
 keep h hb:=by
  obtain⟨va,vx,e,h1,h2⟩:=h
  exact⟨va,vx,e,h1.below hb,h2.below hb⟩
end
end Go.Proofs.YthgenkkkapilhaaGreatDoor
namespace Go.Proofs
section
open Go.Shelf
def Tryz.lays169_ren:Go.Shelf.Ren:=⟨fun|169=>65|n=>n,fun|70=>133|9=>9|0=>0|72=>135|37=>117|127=>201|3=>3|5=>5|n=>n,fun|n=>n⟩
theorem Tryz.lays169:Go.Proofs.Lays.n169 prog Tryz.lays169_ren:={
  mixed:=by kernel_rfl
  f169:=func65.trans (congrArg some (by kernel_rfl))
  t0:=underlying0
  a0:=isAgg0
  z0:=sizeOf0
  v0:=zeroValue0
  t3:=underlying3
  a3:=isAgg3
  z3:=sizeOf3
  v3:=zeroValue3
  t9:=underlying9
  a9:=isAgg9
  z9:=sizeOf9
  v9:=zeroValue9
  t37:=underlying117
  a37:=isAgg117
  z37:=sizeOf117
  v37:=zeroValue117
  t70:=underlying133
  a70:=isAgg133
  z70:=sizeOf133
  v70:=zeroValue133
  t72:=underlying135
  a72:=isAgg135
  z72:=sizeOf135
  v72:=zeroValue135
  t127:=underlying201
  a127:=isAgg201
  z127:=sizeOf201
  v127:=zeroValue201 }
theorem Tryz.Builder_Extra_169:Builder.Extra prog Tryz.lays169_ren:={
  sizeBuilder:=by kernel_rfl
  liesBuilder:=by kernel_rfl
  t5:=underlying5
  a5:=isAgg5
  z5:=sizeOf5
  v5:=zeroValue5
  infoByte:=by kernel_rfl
  cellsByte:=by kernel_rfl
  sizeByte:=by kernel_rfl
  neB5:=by decide }
def Tryz.lays160_ren:Go.Shelf.Ren:=⟨fun|160=>57|232=>67|231=>106|227=>68|234=>69|233=>107|236=>70|235=>108|228=>128|271=>129|151=>130|197=>185|120=>199|152=>200|260=>270|137=>276|119=>277|224=>278|225=>279|217=>326|266=>370|n=>n,fun|9=>9|4=>4|3=>3|5=>5|117=>144|116=>143|0=>0|124=>147|21=>21|105=>203|46=>185|119=>359|139=>362|138=>361|n=>n,fun|3=>2|4=>3|n=>n⟩
theorem Tryz.lays160:Go.Proofs.Lays.n160 prog Tryz.lays160_ren:={
  mixed:=by kernel_rfl
  f119:=func277.trans (congrArg some (by kernel_rfl))
  f120:=func199.trans (congrArg some (by kernel_rfl))
  f137:=func276.trans (congrArg some (by kernel_rfl))
  f151:=func130.trans (congrArg some (by kernel_rfl))
  f152:=func200.trans (congrArg some (by kernel_rfl))
  f160:=func57.trans (congrArg some (by kernel_rfl))
  f197:=func185.trans (congrArg some (by kernel_rfl))
  f217:=func326.trans (congrArg some (by kernel_rfl))
  f224:=func278.trans (congrArg some (by kernel_rfl))
  f225:=func279.trans (congrArg some (by kernel_rfl))
  f227:=func68.trans (congrArg some (by kernel_rfl))
  f228:=func128.trans (congrArg some (by kernel_rfl))
  f231:=func106.trans (congrArg some (by kernel_rfl))
  f232:=func67.trans (congrArg some (by kernel_rfl))
  f233:=func107.trans (congrArg some (by kernel_rfl))
  f234:=func69.trans (congrArg some (by kernel_rfl))
  f235:=func108.trans (congrArg some (by kernel_rfl))
  f236:=func70.trans (congrArg some (by kernel_rfl))
  f260:=func270.trans (congrArg some (by kernel_rfl))
  f266:=func370.trans (congrArg some (by kernel_rfl))
  f271:=func129.trans (congrArg some (by kernel_rfl))
  t0:=underlying0
  a0:=isAgg0
  z0:=sizeOf0
  v0:=zeroValue0
  t3:=underlying3
  a3:=isAgg3
  z3:=sizeOf3
  v3:=zeroValue3
  t4:=underlying4
  a4:=isAgg4
  z4:=sizeOf4
  v4:=zeroValue4
  t5:=underlying5
  a5:=isAgg5
  z5:=sizeOf5
  v5:=zeroValue5
  t9:=underlying9
  a9:=isAgg9
  z9:=sizeOf9
  v9:=zeroValue9
  t21:=underlying21
  a21:=isAgg21
  z21:=sizeOf21
  v21:=zeroValue21
  t46:=underlying185
  a46:=isAgg185
  z46:=sizeOf185
  v46:=zeroValue185
  t105:=underlying203
  a105:=isAgg203
  z105:=sizeOf203
  v105:=zeroValue203
  t116:=underlying143
  a116:=isAgg143
  z116:=sizeOf143
  t117:=underlying144
  a117:=isAgg144
  z117:=sizeOf144
  v117:=zeroValue144
  t119:=underlying359
  a119:=isAgg359
  z119:=sizeOf359
  t124:=underlying147
  a124:=isAgg147
  z124:=sizeOf147
  v124:=zeroValue147
  t138:=underlying361
  a138:=isAgg361
  z138:=sizeOf361
  v138:=zeroValue361
  t139:=underlying362
  a139:=isAgg362
  z139:=sizeOf362
  v139:=zeroValue362
  g3:=by kernel_rfl
  g4:=by kernel_rfl }
open Go.RowKit in
theorem Tryz.Builder_String_any_k (B b:Nat) (l:List UInt8) (w:World) (h:Lib.IsBuilderF 135 5 B b (Lib.byteCells l) w) (hBw:B<=w.heap.size):
    Calls prog 65 #[.pointer (some ⟨b,0,none⟩)] w fun e w'=>e=.returned (.string ⟨l.toArray⟩)/\(Lib.IsBuilderF 135 5 B b (Lib.byteCells l) w'/\Below B w w'/\Lib.OthersKept 5 (some b) w w'):=Any.Builder_String_any_k Tryz.lays169 Tryz.Builder_Extra_169 B b l w h hBw
def Tryz.lays144_ren:Go.Shelf.Ren:=⟨fun|144=>275|143=>325|219=>369|217=>326|225=>279|224=>278|267=>392|266=>370|314=>406|n=>n,fun|9=>9|4=>4|3=>3|5=>5|46=>185|146=>254|51=>25|n=>n,fun|1=>1|n=>n⟩
theorem Tryz.lays144:Go.Proofs.Lays.n144 prog Tryz.lays144_ren:={
  mixed:=by kernel_rfl
  f143:=func325.trans (congrArg some (by kernel_rfl))
  f144:=func275.trans (congrArg some (by kernel_rfl))
  f217:=func326.trans (congrArg some (by kernel_rfl))
  f219:=func369.trans (congrArg some (by kernel_rfl))
  f224:=func278.trans (congrArg some (by kernel_rfl))
  f225:=func279.trans (congrArg some (by kernel_rfl))
  f266:=func370.trans (congrArg some (by kernel_rfl))
  f267:=func392.trans (congrArg some (by kernel_rfl))
  f314:=func406.trans (congrArg some (by kernel_rfl))
  t3:=underlying3
  a3:=isAgg3
  z3:=sizeOf3
  v3:=zeroValue3
  t4:=underlying4
  a4:=isAgg4
  z4:=sizeOf4
  v4:=zeroValue4
  t5:=underlying5
  a5:=isAgg5
  z5:=sizeOf5
  v5:=zeroValue5
  t9:=underlying9
  a9:=isAgg9
  z9:=sizeOf9
  v9:=zeroValue9
  t46:=underlying185
  a46:=isAgg185
  z46:=sizeOf185
  v46:=zeroValue185
  t51:=underlying25
  a51:=isAgg25
  z51:=sizeOf25
  v51:=zeroValue25
  t146:=underlying254
  a146:=isAgg254
  z146:=sizeOf254
  v146:=zeroValue254
  g1:=by kernel_rfl }
open Go.RowKit Go.Lib in
theorem Tryz.strings_Contains_one (s:ByteArray) (c:UInt8) (w:World):
    Calls prog 275 #[.string s,.string ⟨#[c]⟩] w fun e w'=>e=.returned (.bool (decide (0<=Lib.indexByte s.data.toList c)))/\w'=w:=Any.strings_Contains_one Tryz.lays144 s c w
def Tryz.lays138_ren:Go.Shelf.Ren:=⟨fun|138=>274|195=>323|218=>324|143=>325|219=>369|217=>326|225=>279|224=>278|267=>392|266=>370|314=>406|n=>n,fun|9=>9|3=>3|4=>4|5=>5|0=>0|46=>185|146=>254|51=>25|n=>n,fun|1=>1|n=>n⟩
theorem Tryz.lays138:Go.Proofs.Lays.n138 prog Tryz.lays138_ren:={
  mixed:=by kernel_rfl
  f138:=func274.trans (congrArg some (by kernel_rfl))
  f143:=func325.trans (congrArg some (by kernel_rfl))
  f195:=func323.trans (congrArg some (by kernel_rfl))
  f217:=func326.trans (congrArg some (by kernel_rfl))
  f218:=func324.trans (congrArg some (by kernel_rfl))
  f219:=func369.trans (congrArg some (by kernel_rfl))
  f224:=func278.trans (congrArg some (by kernel_rfl))
  f225:=func279.trans (congrArg some (by kernel_rfl))
  f266:=func370.trans (congrArg some (by kernel_rfl))
  f267:=func392.trans (congrArg some (by kernel_rfl))
  f314:=func406.trans (congrArg some (by kernel_rfl))
  t0:=underlying0
  a0:=isAgg0
  z0:=sizeOf0
  v0:=zeroValue0
  t3:=underlying3
  a3:=isAgg3
  z3:=sizeOf3
  v3:=zeroValue3
  t4:=underlying4
  a4:=isAgg4
  z4:=sizeOf4
  v4:=zeroValue4
  t5:=underlying5
  a5:=isAgg5
  z5:=sizeOf5
  v5:=zeroValue5
  t9:=underlying9
  a9:=isAgg9
  z9:=sizeOf9
  v9:=zeroValue9
  t46:=underlying185
  a46:=isAgg185
  z46:=sizeOf185
  v46:=zeroValue185
  t51:=underlying25
  a51:=isAgg25
  z51:=sizeOf25
  v51:=zeroValue25
  t146:=underlying254
  a146:=isAgg254
  z146:=sizeOf254
  v146:=zeroValue254
  g1:=by kernel_rfl }
open Go.RowKit Go.Lib in
theorem Tryz.strings_Count_one (s:ByteArray) (c:UInt8) (w:World):
    Calls prog 274 #[.string s,.string ⟨#[c]⟩] w fun e w'=>e=.returned (.int .i64 (Lib.countByte s.data.toList c))/\w'=w:=Any.strings_Count_one Tryz.lays138 s c w
def Tryz.lays105_ren:Go.Shelf.Ren:=⟨fun|105=>55|212=>104|99=>26|165=>105|166=>64|170=>102|169=>65|263=>182|264=>183|206=>66|240=>127|241=>184|276=>198|277=>269|n=>n,fun|9=>9|3=>3|4=>4|20=>20|0=>0|46=>185|109=>186|5=>5|72=>135|76=>138|51=>25|146=>254|53=>211|148=>256|70=>133|37=>117|75=>137|127=>201|164=>266|80=>140|n=>n,fun|n=>n⟩
theorem Tryz.lays105:Go.Proofs.Lays.n105 prog Tryz.lays105_ren:={
  mixed:=by kernel_rfl
  f99:=func26.trans (congrArg some (by kernel_rfl))
  f105:=func55.trans (congrArg some (by kernel_rfl))
  f165:=func105.trans (congrArg some (by kernel_rfl))
  f166:=func64.trans (congrArg some (by kernel_rfl))
  f169:=func65.trans (congrArg some (by kernel_rfl))
  f170:=func102.trans (congrArg some (by kernel_rfl))
  f206:=func66.trans (congrArg some (by kernel_rfl))
  f212:=func104.trans (congrArg some (by kernel_rfl))
  f240:=func127.trans (congrArg some (by kernel_rfl))
  f241:=func184.trans (congrArg some (by kernel_rfl))
  f263:=func182.trans (congrArg some (by kernel_rfl))
  f264:=func183.trans (congrArg some (by kernel_rfl))
  f276:=func198.trans (congrArg some (by kernel_rfl))
  f277:=func269.trans (congrArg some (by kernel_rfl))
  t0:=underlying0
  a0:=isAgg0
  z0:=sizeOf0
  v0:=zeroValue0
  t3:=underlying3
  a3:=isAgg3
  z3:=sizeOf3
  v3:=zeroValue3
  t4:=underlying4
  a4:=isAgg4
  z4:=sizeOf4
  v4:=zeroValue4
  t5:=underlying5
  a5:=isAgg5
  z5:=sizeOf5
  v5:=zeroValue5
  t9:=underlying9
  a9:=isAgg9
  z9:=sizeOf9
  v9:=zeroValue9
  t20:=underlying20
  a20:=isAgg20
  z20:=sizeOf20
  v20:=zeroValue20
  t37:=underlying117
  a37:=isAgg117
  z37:=sizeOf117
  v37:=zeroValue117
  t46:=underlying185
  a46:=isAgg185
  z46:=sizeOf185
  v46:=zeroValue185
  t51:=underlying25
  a51:=isAgg25
  z51:=sizeOf25
  v51:=zeroValue25
  t53:=underlying211
  a53:=isAgg211
  z53:=sizeOf211
  v53:=zeroValue211
  t70:=underlying133
  a70:=isAgg133
  z70:=sizeOf133
  v70:=zeroValue133
  t72:=underlying135
  a72:=isAgg135
  z72:=sizeOf135
  v72:=zeroValue135
  t75:=underlying137
  a75:=isAgg137
  z75:=sizeOf137
  v75:=zeroValue137
  t76:=underlying138
  a76:=isAgg138
  z76:=sizeOf138
  v76:=zeroValue138
  t109:=underlying186
  a109:=isAgg186
  z109:=sizeOf186
  v109:=zeroValue186
  t127:=underlying201
  a127:=isAgg201
  z127:=sizeOf201
  v127:=zeroValue201
  t146:=underlying254
  a146:=isAgg254
  z146:=sizeOf254
  v146:=zeroValue254
  t148:=underlying256
  a148:=isAgg256
  z148:=sizeOf256
  v148:=zeroValue256
  t164:=underlying266
  a164:=isAgg266
  z164:=sizeOf266
  v164:=zeroValue266 }
theorem Tryz.Builder_Extra_105:Builder.Extra prog Tryz.lays105_ren:={
  sizeBuilder:=by kernel_rfl
  liesBuilder:=by kernel_rfl
  t5:=underlying5
  a5:=isAgg5
  z5:=sizeOf5
  v5:=zeroValue5
  infoByte:=by kernel_rfl
  cellsByte:=by kernel_rfl
  sizeByte:=by kernel_rfl
  neB5:=by decide }
open Go.RowKit Go.Lib in
theorem Tryz.strings_Repeat (s:ByteArray) (c:Nat) (w:World) (hc:c<=9223372036854775807) (hlen:s.size*c<=140737488355328):
    Calls prog 55 #[.string s,.int .i64 c] w fun e w'=>e=.returned (.string ⟨(Lib.repeatL s.data.toList c).toArray⟩)/\Below w.heap.size w w':=Any.strings_Repeat Tryz.lays105 Tryz.Builder_Extra_105 s c w hc hlen
theorem Tryz.strings_Trim_laid (s cutset:ByteArray) (w:World) (hs:s.size<=9223372036854775807) (hcs:cutset.size<4294967281) (hascii:∀(j:Nat) b,cutset.data.toList[j]?=some b->b.toNat<128):
    Calls prog 57 #[.string s,.string cutset] w fun e w'=>e=.returned (.string ⟨(Lib.trimS s.data.toList cutset.data.toList).toArray⟩)/\RowKit.Below w.heap.size w w':=Any.strings_Trim_laid Tryz.lays160 (by kernel_rfl) s cutset w hs hcs hascii
def Tryz.lays167_ren:Go.Shelf.Ren:=⟨fun|167=>248|240=>127|276=>198|n=>n,fun|0=>0|4=>4|5=>5|9=>9|20=>20|37=>117|70=>133|72=>135|75=>137|80=>140|164=>266|n=>n,fun|n=>n⟩
theorem Tryz.lays167:Go.Proofs.Lays.n167 prog Tryz.lays167_ren:={
  mixed:=by kernel_rfl
  f167:=func248.trans (congrArg some (by kernel_rfl))
  f240:=func127.trans (congrArg some (by kernel_rfl))
  f276:=func198.trans (congrArg some (by kernel_rfl))
  t0:=underlying0
  a0:=isAgg0
  z0:=sizeOf0
  v0:=zeroValue0
  t4:=underlying4
  a4:=isAgg4
  z4:=sizeOf4
  v4:=zeroValue4
  t5:=underlying5
  a5:=isAgg5
  z5:=sizeOf5
  v5:=zeroValue5
  t9:=underlying9
  a9:=isAgg9
  z9:=sizeOf9
  v9:=zeroValue9
  t20:=underlying20
  a20:=isAgg20
  z20:=sizeOf20
  v20:=zeroValue20
  t37:=underlying117
  a37:=isAgg117
  z37:=sizeOf117
  v37:=zeroValue117
  t70:=underlying133
  a70:=isAgg133
  z70:=sizeOf133
  v70:=zeroValue133
  t72:=underlying135
  a72:=isAgg135
  z72:=sizeOf135
  v72:=zeroValue135
  t75:=underlying137
  a75:=isAgg137
  z75:=sizeOf137
  v75:=zeroValue137
  t164:=underlying266
  a164:=isAgg266
  z164:=sizeOf266
  v164:=zeroValue266 }
theorem Tryz.Builder_Extra_167:Builder.Extra prog Tryz.lays167_ren:={
  sizeBuilder:=by kernel_rfl
  liesBuilder:=by kernel_rfl
  t5:=underlying5
  a5:=isAgg5
  z5:=sizeOf5
  v5:=zeroValue5
  infoByte:=by kernel_rfl
  cellsByte:=by kernel_rfl
  sizeByte:=by kernel_rfl
  neB5:=by decide }
open Go.RowKit in
theorem Tryz.Builder_WriteByte_k (B b:Nat) (bs:List Value) (c:Int) (w:World) (h:Lib.IsBuilderF 135 5 B b bs w) (hlen:bs.length+1<=140737488355328) (hBw:B<=w.heap.size):
    Calls prog 248 #[.pointer (some ⟨b,0,none⟩),.int .u8 c] w fun e w'=>e=.returned .nilIface/\(Lib.BuilderAtF 135 5 B b (.pointer (some ⟨b,0,none⟩)) (bs++[.int .u8 c]) w'/\Below B w w'/\Lib.OthersKept 5 (some b) w w'):=Any.Builder_WriteByte_k Tryz.lays167 Tryz.Builder_Extra_167 B b bs c w h hlen hBw
def Tryz.lays166_ren:Go.Shelf.Ren:=⟨fun|166=>64|240=>127|276=>198|n=>n,fun|0=>0|3=>3|4=>4|5=>5|9=>9|20=>20|37=>117|70=>133|72=>135|75=>137|80=>140|164=>266|n=>n,fun|n=>n⟩
theorem Tryz.lays166:Go.Proofs.Lays.n166 prog Tryz.lays166_ren:={
  mixed:=by kernel_rfl
  f166:=func64.trans (congrArg some (by kernel_rfl))
  f240:=func127.trans (congrArg some (by kernel_rfl))
  f276:=func198.trans (congrArg some (by kernel_rfl))
  t0:=underlying0
  a0:=isAgg0
  z0:=sizeOf0
  v0:=zeroValue0
  t3:=underlying3
  a3:=isAgg3
  z3:=sizeOf3
  v3:=zeroValue3
  t4:=underlying4
  a4:=isAgg4
  z4:=sizeOf4
  v4:=zeroValue4
  t9:=underlying9
  a9:=isAgg9
  z9:=sizeOf9
  v9:=zeroValue9
  t20:=underlying20
  a20:=isAgg20
  z20:=sizeOf20
  v20:=zeroValue20
  t37:=underlying117
  a37:=isAgg117
  z37:=sizeOf117
  v37:=zeroValue117
  t70:=underlying133
  a70:=isAgg133
  z70:=sizeOf133
  v70:=zeroValue133
  t72:=underlying135
  a72:=isAgg135
  z72:=sizeOf135
  v72:=zeroValue135
  t75:=underlying137
  a75:=isAgg137
  z75:=sizeOf137
  v75:=zeroValue137
  t164:=underlying266
  a164:=isAgg266
  z164:=sizeOf266
  v164:=zeroValue266 }
theorem Tryz.Builder_Extra_166:Builder.Extra prog Tryz.lays166_ren:={
  sizeBuilder:=by kernel_rfl
  liesBuilder:=by kernel_rfl
  t5:=underlying5
  a5:=isAgg5
  z5:=sizeOf5
  v5:=zeroValue5
  infoByte:=by kernel_rfl
  cellsByte:=by kernel_rfl
  sizeByte:=by kernel_rfl
  neB5:=by decide }
open Go.RowKit in
theorem Tryz.Builder_WriteString_k (B b:Nat) (bs:List Value) (s:ByteArray) (w:World) (h:Lib.IsBuilderF 135 5 B b bs w) (hlen:bs.length+s.size<=140737488355328) (hBw:B<=w.heap.size):
    Calls prog 64 #[.pointer (some ⟨b,0,none⟩),.string s] w fun e w'=>e=.returned (.tuple #[.int .i64 s.size,.nilIface])/\(Lib.BuilderAtF 135 5 B b (.pointer (some ⟨b,0,none⟩)) (bs++Lib.strCells s) w'/\Below B w w'/\Lib.OthersKept 5 (some b) w w'):=Any.Builder_WriteString_k Tryz.lays166 Tryz.Builder_Extra_166 B b bs s w h hlen hBw
end
end Go.Proofs
namespace Go.Proofs.YthgenkkkapilhaaGreatDoor
open Go.Proofs.Tryz
section
abbrev Bytes (l:List Nat):Prop:=∀b∈l,b<256
def cf (p:List Nat) (i:Nat):Nat:=(p[i]?).getD 0
theorem cf_lt {p:List Nat} (h:Bytes p) (i:Nat):cf p i<256:=by
 unfold cf;cases e:p[i]? with
 |none=>exact(by omega:(0:Nat)<256)
 |some x=>exact h x (List.mem_of_getElem? e)
theorem cf_get {p:List Nat} {i x:Nat} (h:p[i]?=some x):cf p i=x:=by unfold cf;rw[h];rfl
theorem cf_big {p:List Nat} {i:Nat} (h:p.length<=i):cf p i=0:=by unfold cf;rw[List.getElem?_eq_none h];rfl
theorem cf_map (f:Nat->Nat) (n i:Nat):cf ((List.range n).map f) i=if i<n then f i else 0:=by
 unfold cf;rw[List.getElem?_map];split;{
 rename_i h
 rw[List.getElem?_range h];rfl};{
 rename_i h
 rw[List.getElem?_eq_none (by simpa using h)];rfl}
theorem bytes_map {f:Nat->Nat} {n:Nat} (h:∀i,i<n->f i<256):Bytes ((List.range n).map f):=by
 intro b hb;obtain⟨i,hi,rfl⟩:=List.mem_map.1 hb;exact h i (List.mem_range.1 hi)
def ptrim (p:List Nat):List Nat:=(p.reverse.dropWhile (· == 0)).reverse
theorem ptrim_snoc_zero (l:List Nat):ptrim (l++[0])=ptrim l:=by
 unfold ptrim;rw[List.reverse_append,List.reverse_singleton,List.singleton_append,List.dropWhile_cons_of_pos (by rfl)]
theorem ptrim_snoc_other (l:List Nat) {x:Nat} (h:x≠0):ptrim (l++[x])=l++[x]:=by
 unfold ptrim;rw[List.reverse_append,List.reverse_singleton,List.singleton_append,List.dropWhile_cons_of_neg (by simpa using h)];simp
theorem snoc_ind {P:List Nat->Prop} (h0:P []) (h1:∀l x,P l->P (l++[x])):∀l,P l:=by
 intro l;have:P l.reverse.reverse:=by{
 induction l.reverse with
 |nil=>exact h0
 |cons a r ih=>rw[List.reverse_cons];exact h1 _ _ ih};rwa [List.reverse_reverse]at this
theorem cf_snoc (l:List Nat) (x i:Nat):cf (l++[x]) i=if i=l.length then x else cf l i:=by
 unfold cf;rw[List.getElem?_append];split;{
 rename_i h
 rw[if_neg (by omega)]};{
 rename_i h
 split;{
 rename_i e
 subst e;simp};{rw[List.getElem?_eq_none (by simp;omega),List.getElem?_eq_none (by omega)]}}
def cv (p q:List Nat):Nat->Nat->Nat
 |0,_=>0
 |n+1,m=>cv p q n m^^^(if n<=m then gmul (cf p n) (cf q (m-n)) else 0)
def pmulR (p q:List Nat):List Nat:=(List.range (p.length+q.length)).map (cv p q p.length)
def pmul (p q:List Nat):List Nat:=ptrim (pmulR p q)
def hev (x:Nat):List Nat->Nat
 |[]=>0
 |a::p=>gmul (hev x p) x^^^a
def pderR (p:List Nat):List Nat:=(List.range (p.length-1)).map fun i=>if i%2=0 then cf p (i+1) else 0
def pder (p:List Nat):List Nat:=ptrim (pderR p)
theorem cv_lt {p q:List Nat} (hp:Bytes p):∀n m,cv p q n m<256
 |0,_=>by unfold cv;omega
 |n+1,m=>by
  unfold cv
  refine xor_lt (cv_lt hp n m) ?_
  split
  ·exact gmul_lt _ (cf_lt hp n)
  ·omega
theorem hev_lt {x:Nat} (hx:x<256):∀{p:List Nat},Bytes p->hev x p<256
 |[],_=>by unfold hev;omega
 |a::p,h=>xor_lt (gmul_lt _ (hev_lt hx fun b hb=>h b (List.mem_cons_of_mem _ hb))) (h a List.mem_cons_self)
theorem pmulR_len (p q:List Nat):(pmulR p q).length=p.length+q.length:=by unfold pmulR;simp
end
section
def rvF (x:Nat) (f:Nat->Nat):Nat->Nat
 |0=>0
 |n+1=>gmul (rvF x f n) x^^^f n
def xp (x:Nat):Nat->Nat
 |0=>1
 |n+1=>gmul (xp x n) x
theorem xp_lt {x:Nat} (hx:x<256):∀n,xp x n<256
 |0=>by unfold xp;omega
 |n+1=>gmul_lt _ (xp_lt hx n)
theorem rvF_lt {x:Nat} {f:Nat->Nat} (hf:∀i,f i<256):∀n,rvF x f n<256
 |0=>by unfold rvF;omega
 |n+1=>xor_lt (gmul_lt _ (rvF_lt hf n)) (hf n)
theorem rvF_xor {x:Nat} {f g:Nat->Nat} (hf:∀i,f i<256) (hg:∀i,g i<256):∀n,rvF x (fun i=>f i^^^g i) n=rvF x f n^^^rvF x g n
 |0=>(Nat.xor_self 0).symm
 |n+1=>by
  simp only[rvF]
  rw[rvF_xor hf hg n,gmul_xor_left x (rvF_lt hf n) (rvF_lt hg n),xor4]
theorem rvF_mul {x c:Nat} {f:Nat->Nat} (hx:x<256) (hc:c<256) (hf:∀i,f i<256):∀n,rvF x (fun i=>gmul c (f i)) n=gmul c (rvF x f n)
 |0=>(gmul_zero_right c).symm
 |n+1=>by
  simp only[rvF]
  rw[rvF_mul hx hc hf n,gmul_xor_right,gmul_assoc hc (rvF_lt hf n) hx]
theorem rvF_shift {x:Nat} {f:Nat->Nat} (hx:x<256) (hf:∀i,f i<256):∀n,rvF x f (n+1)=gmul (f 0) (xp x n)^^^rvF x (fun i=>f (i+1)) n
 |0=>by
  simp only[rvF,xp]
  rw[gmul_zero_left hx,gmul_one_right]
  simp
 |n+1=>by
  have ih:=rvF_shift hx hf n
  rw[show rvF x f (n+1+1)=gmul (rvF x f (n+1)) x^^^f (n+1) from rfl,ih,gmul_xor_left x (gmul_lt _ (hf 0)) (rvF_lt (fun i=>hf (i+1)) n),gmul_assoc (hf 0) (xp_lt hx n) hx]
  simp only[rvF,xp]
  rw[Nat.xor_assoc]
theorem rvF_congr {x:Nat} {f g:Nat->Nat}:∀n,(∀i,i<n->f i=g i)->rvF x f n=rvF x g n
 |0,_=>rfl
 |n+1,h=>by
  simp only[rvF]
  rw[rvF_congr n fun i hi=>h i (by omega),h n (by omega)]
def wv (x:Nat) (w:List Nat):Nat:=w.foldl (fun s c=>gmul s x^^^c) 0
theorem wv_snoc (x:Nat) (w:List Nat) (c:Nat):wv x (w++[c])=gmul (wv x w) x^^^c:=by unfold wv;rw[List.foldl_append];rfl
theorem wv_rvF (x:Nat) (w:List Nat):wv x w=rvF x (cf w) w.length:=by
 induction w using snoc_ind with
 |h0=>rfl
 |h1 l c ih=>
 rw[wv_snoc,ih,List.length_append,List.length_singleton];simp only[rvF];rw[cf_snoc,if_pos rfl];congr 2;exact rvF_congr _ fun i hi=>by rw[cf_snoc,if_neg (by omega)]
theorem wv_lt {x:Nat} {w:List Nat} (h:Bytes w):wv x w<256:=by rw[wv_rvF];exact rvF_lt (cf_lt h) _
theorem wv_append {x:Nat} {w:List Nat} (hx:x<256) (hw:Bytes w):∀r:List Nat,Bytes r->wv x (w++r)=gmul (wv x w) (xp x r.length)^^^wv x r:=by
 intro r;induction r using snoc_ind with
 |h0=>intro _;rw[List.append_nil];show _=gmul _ 1^^^0;rw[gmul_one_right];simp
 |h1 l c ih=>
 intro hr;have hl:Bytes l:=fun b hb=>hr b (List.mem_append_left _ hb);rw[<-List.append_assoc,wv_snoc,ih hl,wv_snoc,List.length_append,List.length_singleton,gmul_xor_left x (gmul_lt _ (wv_lt hw)) (wv_lt hl),gmul_assoc (wv_lt hw) (xp_lt hx _) hx,Nat.xor_assoc];rfl
def genP:Nat->List Nat
 |0=>[1]
 |n+1=>pmul (genP n) [pw n,1]
def lfsr (g r:List Nat) (s:Nat):List Nat:=(List.range 8).map fun i=>cf r (i+1)^^^gmul (s^^^cf r 0) (cf g (7-i))
def rsPar (l:List Nat):List Nat:=l.foldl (lfsr (genP 8)) (List.replicate 8 0)
def rsEnc (l:List Nat):List Nat:=l++rsPar l
def G8:List Nat:=[24,200,173,239,54,81,11,255,1]
theorem genP_8:genP 8=G8:=by decide +kernel
theorem G8_bytes:Bytes G8:=by decide
theorem G8_roots:allB 8 (fun k=>rvF (pw k) (fun i=>cf G8 (7-i)) 8==xp (pw k) 8)=true:=by decide +kernel
theorem lfsr_len (g r:List Nat) (s:Nat):(lfsr g r s).length=8:=by unfold lfsr;simp
theorem lfsr_bytes {g r:List Nat} {s:Nat} (hr:Bytes r) (hs:s<256):Bytes (lfsr g r s):=bytes_map fun _ _=>xor_lt (cf_lt hr _) (gmul_lt _ (xor_lt hs (cf_lt hr 0)))
theorem lfsr_wv {r:List Nat} {s k:Nat} (hk:k<8) (hl:r.length=8) (hr:Bytes r) (hs:s<256):wv (pw k) (lfsr G8 r s)=gmul (wv (pw k) r) (pw k)^^^gmul s (xp (pw k) 8):=by
 have hx:=pw_lt k;have hroot:rvF (pw k) (fun i=>cf G8 (7-i)) 8=xp (pw k) 8:=by simpa using allB_out G8_roots k hk
 have hf:s^^^cf r 0<256:=xor_lt hs (cf_lt hr 0);rw[wv_rvF,lfsr_len,rvF_congr (g:=fun i=>cf r (i+1)^^^gmul (s^^^cf r 0) (cf G8 (7-i))) 8 (fun i hi=>by unfold lfsr;rw[cf_map,if_pos hi]),
  rvF_xor (fun i=>cf_lt hr _) (fun i=>gmul_lt _ hf),rvF_mul hx hf (fun i=>cf_lt G8_bytes _),hroot];rw[wv_rvF,hl];have h1:rvF (pw k) (fun i=>cf r (i+1)) 8=gmul (rvF (pw k) (fun i=>cf r (i+1)) 7) (pw k):=by show gmul _ _^^^cf r 8=_;rw[cf_big (by omega)];simp
 have h2:=rvF_shift hx (cf_lt hr) 7;rw[h1,h2,gmul_xor_left _ (gmul_lt _ (cf_lt hr 0)) (rvF_lt (fun i=>cf_lt hr _) _),gmul_xor_left _ hs (cf_lt hr 0),gmul_assoc (cf_lt hr 0) (xp_lt hx 7) hx];show _^^^(_^^^gmul (cf r 0) (xp (pw k) 8))=(gmul (cf r 0) (xp (pw k) 8)^^^_)^^^_;generalize gmul (cf r 0) (xp (pw k) 8)=a;generalize gmul (rvF (pw k) (fun i=>cf r (i+1)) 7) (pw k)=b;generalize gmul s (xp (pw k) 8)=c;rw[Nat.xor_comm a b,Nat.xor_assoc,Nat.xor_comm c a]
theorem rsPar_inv (l:List Nat) (hl:Bytes l):(rsPar l).length=8/\Bytes (rsPar l)/\∀k,k<8->wv (pw k) (rsPar l)=gmul (wv (pw k) l) (xp (pw k) 8):=by
 induction l using snoc_ind with
 |h0=>(
 refine⟨rfl,fun b hb=>?_,fun k hk=>?_⟩;{
 have:=List.eq_of_mem_replicate hb;omega};{
 have hz:wv (pw k) (List.replicate 8 0)=0:=by show gmul (gmul (gmul (gmul (gmul (gmul (gmul (gmul 0 (pw k)^^^0) (pw k)^^^0) (pw k)^^^0) (pw k)^^^0) (pw k)^^^0) (pw k)^^^0) (pw k)^^^0) (pw k)^^^0=0;simp only[gmul_zero_left (pw_lt k),Nat.xor_self]
 show wv (pw k) (List.replicate 8 0)=gmul 0 _;rw[hz,gmul_zero_left (xp_lt (pw_lt k) 8)]})
 |h1 l c ih=>
 have hl':Bytes l:=fun b hb=>hl b (List.mem_append_left _ hb);have hc:c<256:=hl c (by simp);obtain⟨h1,h2,h3⟩:=ih hl';have e:rsPar (l++[c])=lfsr G8 (rsPar l) c:=by unfold rsPar;rw[List.foldl_append,genP_8];rfl
 rw[e];refine⟨lfsr_len _ _ _,lfsr_bytes h2 hc,fun k hk=>?_⟩;have hx:=pw_lt k;rw[lfsr_wv hk h1 h2 hc,h3 k hk,wv_snoc,gmul_xor_left _ (gmul_lt _ (wv_lt hl')) hc,gmul_assoc (wv_lt hl') (xp_lt hx 8) hx,gmul_comm (xp_lt hx 8) hx,<-gmul_assoc (wv_lt hl') hx (xp_lt hx 8)]
theorem rsEnc_word (l:List Nat) (hl:Bytes l) {k:Nat} (hk:k<8):wv (pw k) (rsEnc l)=0:=by
 obtain⟨h1,h2,h3⟩:=rsPar_inv l hl;unfold rsEnc;rw[wv_append (pw_lt k) hl _ h2,h1,h3 k hk,Nat.xor_self]
def synd (w:List Nat):List Nat:=(List.range 8).map fun i=>wv (pw i) w
theorem synd_len (w:List Nat):(synd w).length=8:=by unfold synd;simp
theorem synd_enc {l:List Nat} (hl:Bytes l):synd (rsEnc l)=List.replicate 8 0:=by
 refine List.ext_getElem? fun i=>?_;unfold synd;by_cases hi:i<8;{
 rw[List.getElem?_map,List.getElem?_range hi,List.getElem?_replicate,if_pos hi];simp[rsEnc_word l hl hi]};{rw[List.getElem?_eq_none (by simpa using hi),List.getElem?_eq_none (by simpa using hi)]}
end
section
def cnx (s b:Nat):Nat:=2*b+s/2
def co1 (s b:Nat):Nat:=48+(b+s/2+s%2)%2
def co2 (s b:Nat):Nat:=48+(b+s%2)%2
abbrev Bits (l:List Nat):Prop:=∀b∈l,b<2
theorem cnx_lt {s b:Nat} (hs:s<4) (hb:b<2):cnx s b<4:=by unfold cnx;omega
def cenc:Nat->List Nat->List Nat
 |_,[]=>[]
 |s,b::l=>co1 s b::co2 s b::cenc (cnx s b) l
theorem cenc_len:∀(l:List Nat) (s:Nat),(cenc s l).length=2*l.length
 |[],_=>rfl
 |b::l,s=>by
  simp only[cenc,List.length_cons,cenc_len l]
  omega
def cext:Nat->List Nat->Option (List Nat)
 |_,[]=>some []
 |s,x::y::l=>
  let b:=(y-48+s%2)%2
  if co1 s b=x/\co2 s b=y then (cext (cnx s b) l).map (b::·) else none
 |_,[_]=>none
theorem cext_enc:∀(l:List Nat) (s:Nat),Bits l->cext s (cenc s l)=some l
 |[],_,_=>rfl
 |b::l,s,h=>by
  have hb:=h b List.mem_cons_self
  have e:(co2 s b-48+s%2)%2=b:=by unfold co2;omega
  simp only[cenc,cext,e,and_self,if_true,cext_enc l (cnx s b) fun x hx=>h x (List.mem_cons_of_mem _ hx),Option.map_some]
end
end Go.Proofs.YthgenkkkapilhaaGreatDoor
namespace Go.Proofs
section
open Go.Shelf
def Tryz.lays170_ren:Go.Shelf.Ren:=⟨fun|170=>102|n=>n,fun|70=>133|3=>3|0=>0|72=>135|37=>117|5=>5|n=>n,fun|n=>n⟩
theorem Tryz.lays170:Go.Proofs.Lays.n170 prog Tryz.lays170_ren:={
  mixed:=by kernel_rfl
  f170:=func102.trans (congrArg some (by kernel_rfl))
  t0:=underlying0
  a0:=isAgg0
  z0:=sizeOf0
  v0:=zeroValue0
  t3:=underlying3
  a3:=isAgg3
  z3:=sizeOf3
  v3:=zeroValue3
  t37:=underlying117
  a37:=isAgg117
  z37:=sizeOf117
  v37:=zeroValue117
  t70:=underlying133
  a70:=isAgg133
  z70:=sizeOf133
  v70:=zeroValue133
  t72:=underlying135
  a72:=isAgg135
  z72:=sizeOf135
  v72:=zeroValue135 }
def Tryz.lays156_ren:Go.Shelf.Ren:=⟨fun|156=>131|165=>105|166=>64|169=>65|240=>127|241=>184|276=>198|277=>269|n=>n,fun|31=>51|9=>9|3=>3|4=>4|0=>0|20=>20|72=>135|76=>138|70=>133|37=>117|75=>137|127=>201|164=>266|5=>5|80=>140|n=>n,fun|n=>n⟩
theorem Tryz.lays156:Go.Proofs.Lays.n156 prog Tryz.lays156_ren:={
  mixed:=by kernel_rfl
  f156:=func131.trans (congrArg some (by kernel_rfl))
  f165:=func105.trans (congrArg some (by kernel_rfl))
  f166:=func64.trans (congrArg some (by kernel_rfl))
  f169:=func65.trans (congrArg some (by kernel_rfl))
  f240:=func127.trans (congrArg some (by kernel_rfl))
  f241:=func184.trans (congrArg some (by kernel_rfl))
  f276:=func198.trans (congrArg some (by kernel_rfl))
  f277:=func269.trans (congrArg some (by kernel_rfl))
  t0:=underlying0
  a0:=isAgg0
  z0:=sizeOf0
  v0:=zeroValue0
  t3:=underlying3
  a3:=isAgg3
  z3:=sizeOf3
  v3:=zeroValue3
  t4:=underlying4
  a4:=isAgg4
  z4:=sizeOf4
  v4:=zeroValue4
  t9:=underlying9
  a9:=isAgg9
  z9:=sizeOf9
  v9:=zeroValue9
  t20:=underlying20
  a20:=isAgg20
  z20:=sizeOf20
  v20:=zeroValue20
  t31:=underlying51
  a31:=isAgg51
  z31:=sizeOf51
  v31:=zeroValue51
  t37:=underlying117
  a37:=isAgg117
  z37:=sizeOf117
  v37:=zeroValue117
  t70:=underlying133
  a70:=isAgg133
  z70:=sizeOf133
  v70:=zeroValue133
  t72:=underlying135
  a72:=isAgg135
  z72:=sizeOf135
  v72:=zeroValue135
  t75:=underlying137
  a75:=isAgg137
  z75:=sizeOf137
  v75:=zeroValue137
  t76:=underlying138
  a76:=isAgg138
  z76:=sizeOf138
  v76:=zeroValue138
  t127:=underlying201
  a127:=isAgg201
  z127:=sizeOf201
  v127:=zeroValue201
  t164:=underlying266
  a164:=isAgg266
  z164:=sizeOf266
  v164:=zeroValue266 }
theorem Tryz.Builder_Extra_156:Builder.Extra prog Tryz.lays156_ren:={
  sizeBuilder:=by kernel_rfl
  liesBuilder:=by kernel_rfl
  t5:=underlying5
  a5:=isAgg5
  z5:=sizeOf5
  v5:=zeroValue5
  infoByte:=by kernel_rfl
  cellsByte:=by kernel_rfl
  sizeByte:=by kernel_rfl
  neB5:=by decide }
open Go.RowKit in
theorem Tryz.strings_Join (bk o c:Nat) (xs:List ByteArray) (sep:ByteArray) (w:World) (hcells:∀(j:Nat) x,xs[j]?=some x->w.cell? ⟨bk,o+j,none⟩=some (.string x)) (hbk:bk<w.heap.size) (hN:xs.length<=140737488355328) (hcap:xs.length<=c) (hlen:(Lib.join (xs.map (·.data.toList)) sep.data.toList).length<=140737488355328):
    Calls prog 131 #[.slice (some ⟨bk,o,none⟩) xs.length c,.string sep] w fun e w'=>e=.returned (.string ⟨(Lib.join (xs.map (·.data.toList)) sep.data.toList).toArray⟩)/\Below w.heap.size w w':=Any.strings_Join Tryz.lays156 Tryz.Builder_Extra_156 bk o c xs sep w hcells hbk hN hcap hlen
def Tryz.lays106_ren:Go.Shelf.Ren:=⟨fun|106=>364|213=>390|265=>405|n=>n,fun|9=>9|3=>3|n=>n,fun|n=>n⟩
theorem Tryz.lays106:Go.Proofs.Lays.n106 prog Tryz.lays106_ren:={
  mixed:=by kernel_rfl
  f106:=func364.trans (congrArg some (by kernel_rfl))
  f213:=func390.trans (congrArg some (by kernel_rfl))
  f265:=func405.trans (congrArg some (by kernel_rfl))
  t3:=underlying3
  a3:=isAgg3
  z3:=sizeOf3
  v3:=zeroValue3
  t9:=underlying9
  a9:=isAgg9
  z9:=sizeOf9
  v9:=zeroValue9 }
open Go.RowKit in
theorem Tryz.strings_Compare (a b:ByteArray) (w:World):
    Calls prog 364 #[.string a,.string b] w fun e w'=>e=.returned (.int .i64 (Lib.compareBytes a.data.toList b.data.toList))/\w'=w:=Any.strings_Compare Tryz.lays106 a b w
open Go.RowKit in
theorem Tryz.Builder_Len_f (B b:Nat) (bs:List Value) (w:World) (h:Lib.IsBuilderF 135 5 B b bs w):
    Calls prog 102 #[.pointer (some ⟨b,0,none⟩)] w fun e w'=>e=.returned (.int .i64 bs.length)/\w'=w:=Any.Builder_Len_f Tryz.lays170 B b bs w h
def Tryz.lays172_ren:Go.Shelf.Ren:=⟨fun|172=>209|244=>282|245=>283|247=>328|279=>329|280=>330|281=>331|282=>332|287=>304|316=>371|171=>54|205=>372|321=>354|322=>355|243=>103|246=>181|283=>265|284=>266|285=>267|286=>268|129=>317|317=>316|318=>318|319=>319|320=>320|337=>366|338=>367|n=>n,fun|9=>9|3=>3|75=>137|76=>138|4=>4|5=>5|167=>365|37=>117|0=>0|85=>366|2=>2|168=>368|53=>211|175=>312|46=>185|210=>399|127=>201|145=>414|143=>412|21=>21|171=>323|173=>326|212=>356|51=>25|20=>20|213=>357|232=>409|233=>410|80=>140|n=>n,fun|15=>4|16=>5|17=>0|18=>6|19=>7|n=>n⟩
theorem Tryz.lays172:Go.Proofs.Lays.n172 prog Tryz.lays172_ren:={
  mixed:=by kernel_rfl
  f129:=func317.trans (congrArg some (by kernel_rfl))
  f171:=func54.trans (congrArg some (by kernel_rfl))
  f172:=func209.trans (congrArg some (by kernel_rfl))
  f205:=func372.trans (congrArg some (by kernel_rfl))
  f243:=func103.trans (congrArg some (by kernel_rfl))
  f244:=func282.trans (congrArg some (by kernel_rfl))
  f245:=func283.trans (congrArg some (by kernel_rfl))
  f246:=func181.trans (congrArg some (by kernel_rfl))
  f247:=func328.trans (congrArg some (by kernel_rfl))
  f279:=func329.trans (congrArg some (by kernel_rfl))
  f280:=func330.trans (congrArg some (by kernel_rfl))
  f281:=func331.trans (congrArg some (by kernel_rfl))
  f282:=func332.trans (congrArg some (by kernel_rfl))
  f283:=func265.trans (congrArg some (by kernel_rfl))
  f284:=func266.trans (congrArg some (by kernel_rfl))
  f285:=func267.trans (congrArg some (by kernel_rfl))
  f286:=func268.trans (congrArg some (by kernel_rfl))
  f287:=func304.trans (congrArg some (by kernel_rfl))
  f316:=func371.trans (congrArg some (by kernel_rfl))
  f317:=func316.trans (congrArg some (by kernel_rfl))
  f318:=func318.trans (congrArg some (by kernel_rfl))
  f319:=func319.trans (congrArg some (by kernel_rfl))
  f320:=func320.trans (congrArg some (by kernel_rfl))
  f321:=func354.trans (congrArg some (by kernel_rfl))
  f322:=func355.trans (congrArg some (by kernel_rfl))
  f337:=func366.trans (congrArg some (by kernel_rfl))
  f338:=func367.trans (congrArg some (by kernel_rfl))
  t0:=underlying0
  a0:=isAgg0
  z0:=sizeOf0
  v0:=zeroValue0
  t2:=underlying2
  a2:=isAgg2
  z2:=sizeOf2
  v2:=zeroValue2
  t3:=underlying3
  a3:=isAgg3
  z3:=sizeOf3
  v3:=zeroValue3
  t4:=underlying4
  a4:=isAgg4
  z4:=sizeOf4
  v4:=zeroValue4
  t5:=underlying5
  a5:=isAgg5
  z5:=sizeOf5
  v5:=zeroValue5
  t9:=underlying9
  a9:=isAgg9
  z9:=sizeOf9
  v9:=zeroValue9
  t20:=underlying20
  a20:=isAgg20
  z20:=sizeOf20
  v20:=zeroValue20
  t21:=underlying21
  a21:=isAgg21
  z21:=sizeOf21
  v21:=zeroValue21
  t37:=underlying117
  a37:=isAgg117
  z37:=sizeOf117
  v37:=zeroValue117
  t46:=underlying185
  a46:=isAgg185
  z46:=sizeOf185
  v46:=zeroValue185
  t51:=underlying25
  a51:=isAgg25
  z51:=sizeOf25
  v51:=zeroValue25
  t53:=underlying211
  a53:=isAgg211
  z53:=sizeOf211
  v53:=zeroValue211
  t75:=underlying137
  a75:=isAgg137
  z75:=sizeOf137
  v75:=zeroValue137
  t76:=underlying138
  a76:=isAgg138
  z76:=sizeOf138
  v76:=zeroValue138
  t85:=underlying366
  a85:=isAgg366
  z85:=sizeOf366
  v85:=zeroValue366
  t127:=underlying201
  a127:=isAgg201
  z127:=sizeOf201
  v127:=zeroValue201
  t143:=underlying412
  a143:=isAgg412
  z143:=sizeOf412
  v143:=zeroValue412
  t145:=underlying414
  a145:=isAgg414
  z145:=sizeOf414
  v145:=zeroValue414
  t167:=underlying365
  a167:=isAgg365
  z167:=sizeOf365
  v167:=zeroValue365
  t168:=underlying368
  a168:=isAgg368
  z168:=sizeOf368
  v168:=zeroValue368
  t171:=underlying323
  a171:=isAgg323
  z171:=sizeOf323
  v171:=zeroValue323
  t173:=underlying326
  a173:=isAgg326
  z173:=sizeOf326
  v173:=zeroValue326
  t175:=underlying312
  a175:=isAgg312
  z175:=sizeOf312
  v175:=zeroValue312
  t210:=underlying399
  a210:=isAgg399
  z210:=sizeOf399
  v210:=zeroValue399
  t212:=underlying356
  a212:=isAgg356
  z212:=sizeOf356
  v212:=zeroValue356
  t213:=underlying357
  a213:=isAgg357
  z213:=sizeOf357
  t232:=underlying409
  a232:=isAgg409
  z232:=sizeOf409
  v232:=zeroValue409
  t233:=underlying410
  a233:=isAgg410
  z233:=sizeOf410
  v233:=zeroValue410
  g15:=by kernel_rfl
  g16:=by kernel_rfl
  g17:=by kernel_rfl
  g18:=by kernel_rfl
  g19:=by kernel_rfl }
open Go.RowKit in
theorem Tryz.strconv_Atoi (s:ByteArray) (n:Int) (hl:s.size<=18) (h:Lib.atoi s.data.toList=some n) (w:World):
    Calls prog 209 #[.string s] w fun e w'=>e=.returned (.tuple #[.int .i64 n,.nilIface])/\∃t,w'=Lib.bytesWorld w 5 t:=Any.strconv_Atoi Tryz.lays172 s n hl h w
def Tryz.laysM171_ren:Go.Shelf.Ren:=⟨fun|171=>54|243=>103|246=>181|283=>265|284=>266|285=>267|286=>268|129=>317|317=>316|318=>318|319=>319|320=>320|337=>366|338=>367|n=>n,fun|3=>3|9=>9|2=>2|4=>4|171=>323|0=>0|53=>211|37=>117|5=>5|173=>326|212=>356|51=>25|20=>20|213=>357|46=>185|232=>409|233=>410|n=>n,fun|17=>0|18=>6|19=>7|n=>n⟩
theorem Tryz.laysM171:Go.Proofs.LaysM.n171 prog Tryz.laysM171_ren:={
  mixed:=by kernel_rfl
  f129:=func317.trans (congrArg some (by kernel_rfl))
  f171:=func54.trans (congrArg some (by kernel_rfl))
  f243:=func103.trans (congrArg some (by kernel_rfl))
  f246:=func181.trans (congrArg some (by kernel_rfl))
  f283:=func265.trans (congrArg some (by kernel_rfl))
  f284:=func266.trans (congrArg some (by kernel_rfl))
  f285:=func267.trans (congrArg some (by kernel_rfl))
  f286:=func268.trans (congrArg some (by kernel_rfl))
  f317:=func316.trans (congrArg some (by kernel_rfl))
  f318:=func318.trans (congrArg some (by kernel_rfl))
  f319:=func319.trans (congrArg some (by kernel_rfl))
  f320:=func320.trans (congrArg some (by kernel_rfl))
  f337:=func366.trans (congrArg some (by kernel_rfl))
  f338:=func367.trans (congrArg some (by kernel_rfl))
  t0:=underlying0
  a0:=isAgg0
  z0:=sizeOf0
  v0:=zeroValue0
  t2:=underlying2
  a2:=isAgg2
  z2:=sizeOf2
  v2:=zeroValue2
  t3:=underlying3
  a3:=isAgg3
  z3:=sizeOf3
  v3:=zeroValue3
  t4:=underlying4
  a4:=isAgg4
  z4:=sizeOf4
  v4:=zeroValue4
  t5:=underlying5
  a5:=isAgg5
  z5:=sizeOf5
  v5:=zeroValue5
  t9:=underlying9
  a9:=isAgg9
  z9:=sizeOf9
  v9:=zeroValue9
  t20:=underlying20
  a20:=isAgg20
  z20:=sizeOf20
  v20:=zeroValue20
  t37:=underlying117
  a37:=isAgg117
  z37:=sizeOf117
  v37:=zeroValue117
  t46:=underlying185
  a46:=isAgg185
  z46:=sizeOf185
  v46:=zeroValue185
  t51:=underlying25
  a51:=isAgg25
  z51:=sizeOf25
  v51:=zeroValue25
  t53:=underlying211
  a53:=isAgg211
  z53:=sizeOf211
  v53:=zeroValue211
  t171:=underlying323
  a171:=isAgg323
  z171:=sizeOf323
  v171:=zeroValue323
  t173:=underlying326
  a173:=isAgg326
  z173:=sizeOf326
  v173:=zeroValue326
  t212:=underlying356
  a212:=isAgg356
  z212:=sizeOf356
  v212:=zeroValue356
  t213:=underlying357
  a213:=isAgg357
  z213:=sizeOf357
  t232:=underlying409
  a232:=isAgg409
  z232:=sizeOf409
  v232:=zeroValue409
  t233:=underlying410
  a233:=isAgg410
  z233:=sizeOf410
  v233:=zeroValue410
  g17:=by kernel_rfl
  g18:=by kernel_rfl
  g19:=by kernel_rfl
  i0:=by kernel_rfl
  i2:=by kernel_rfl
  i3:=by kernel_rfl
  i4:=by kernel_rfl
  i5:=by kernel_rfl
  i9:=by kernel_rfl
  i20:=by kernel_rfl
  i37:=by kernel_rfl
  i46:=by kernel_rfl
  i51:=by kernel_rfl
  i53:=by kernel_rfl
  i171:=by kernel_rfl
  i173:=by kernel_rfl
  i212:=by kernel_rfl
  i232:=by kernel_rfl
  i233:=by kernel_rfl
  m17:=by kernel_rfl
  m18:=by kernel_rfl
  m19:=by kernel_rfl }
open Go.RowKit Go.Sort Go.Lib in
theorem Tryz.strconv_Itoa (n : Int) (h0 : -9223372036854775808 <= n) (h1 : n <= 9223372036854775807) (w : World) (htab : Lib.TabIs prog w "internal/strconv.uint64pow10" .u64 Lib.pow10Tab) :
    Calls prog 54 #[.int .i64 n] w fun e w'=>e=.returned (.string ⟨(Lib.itoa n).toArray⟩)/\∃k os,w'=grow (w.drewN k) os:=Any.strconv_Itoa Tryz.laysM171 n h0 h1 w htab
def Tryz.laysGw17_ren:Go.Shelf.Ren:=⟨fun|17=>386|15=>404|20=>413|n=>n,fun|9=>9|23=>332|4=>4|3=>3|0=>0|21=>21|n=>n,fun|n=>n⟩
theorem Tryz.laysGw17:Go.Proofs.LaysGw.n17 prog Tryz.laysGw17_ren:={
  mixed:=by kernel_rfl
  f15:=func404.trans (congrArg some (by kernel_rfl))
  f17:=func386.trans (congrArg some (by kernel_rfl))
  f20:=func413.trans (congrArg some (by kernel_rfl))
  t0:=underlying0
  a0:=isAgg0
  z0:=sizeOf0
  v0:=zeroValue0
  i0:=by kernel_rfl
  t3:=underlying3
  a3:=isAgg3
  z3:=sizeOf3
  v3:=zeroValue3
  i3:=by kernel_rfl
  t4:=underlying4
  a4:=isAgg4
  z4:=sizeOf4
  v4:=zeroValue4
  i4:=by kernel_rfl
  t9:=underlying9
  a9:=isAgg9
  z9:=sizeOf9
  v9:=zeroValue9
  i9:=by kernel_rfl
  t21:=underlying21
  a21:=isAgg21
  z21:=sizeOf21
  v21:=zeroValue21
  i21:=by kernel_rfl
  t23:=underlying332
  a23:=isAgg332
  z23:=sizeOf332
  v23:=zeroValue332
  i23:=by kernel_rfl }
open Go.RowKit Go.Lib in
theorem Tryz.strings_ContainsFunc (g:Nat) (lb:Array Value) (eg:∀args w,(callFunc g args).run prog w=.ok (.enter g args) w) (p:Nat->Bool) (s:ByteArray) (w:World) (hp:PredAt prog g lb encR p w):
    Calls prog 386 #[.string s,.func (.func g) #[] lb] w fun e w'=>e=.returned (.bool (decide (0<=Lib.idxFunc p true s)))/\Below w.heap.size w w':=Any.strings_ContainsFunc Tryz.laysGw17 g lb eg p s w hp
def Tryz.lays146_ren:Go.Shelf.Ren:=⟨fun|146=>385|221=>403|268=>412|138=>274|143=>325|195=>323|197=>185|218=>324|219=>369|260=>270|217=>326|225=>279|224=>278|267=>392|266=>370|314=>406|n=>n,fun|9=>9|31=>51|3=>3|4=>4|0=>0|105=>203|21=>21|5=>5|46=>185|119=>359|139=>362|138=>361|146=>254|51=>25|n=>n,fun|1=>1|3=>2|4=>3|n=>n⟩
theorem Tryz.lays146:Go.Proofs.Lays.n146 prog Tryz.lays146_ren:={
  mixed:=by kernel_rfl
  f138:=func274.trans (congrArg some (by kernel_rfl))
  f143:=func325.trans (congrArg some (by kernel_rfl))
  f146:=func385.trans (congrArg some (by kernel_rfl))
  f195:=func323.trans (congrArg some (by kernel_rfl))
  f197:=func185.trans (congrArg some (by kernel_rfl))
  f217:=func326.trans (congrArg some (by kernel_rfl))
  f218:=func324.trans (congrArg some (by kernel_rfl))
  f219:=func369.trans (congrArg some (by kernel_rfl))
  f221:=func403.trans (congrArg some (by kernel_rfl))
  f224:=func278.trans (congrArg some (by kernel_rfl))
  f225:=func279.trans (congrArg some (by kernel_rfl))
  f260:=func270.trans (congrArg some (by kernel_rfl))
  f266:=func370.trans (congrArg some (by kernel_rfl))
  f267:=func392.trans (congrArg some (by kernel_rfl))
  f268:=func412.trans (congrArg some (by kernel_rfl))
  f314:=func406.trans (congrArg some (by kernel_rfl))
  t0:=underlying0
  a0:=isAgg0
  z0:=sizeOf0
  v0:=zeroValue0
  t3:=underlying3
  a3:=isAgg3
  z3:=sizeOf3
  v3:=zeroValue3
  t4:=underlying4
  a4:=isAgg4
  z4:=sizeOf4
  v4:=zeroValue4
  t5:=underlying5
  a5:=isAgg5
  z5:=sizeOf5
  v5:=zeroValue5
  t9:=underlying9
  a9:=isAgg9
  z9:=sizeOf9
  v9:=zeroValue9
  t21:=underlying21
  a21:=isAgg21
  z21:=sizeOf21
  v21:=zeroValue21
  t31:=underlying51
  a31:=isAgg51
  z31:=sizeOf51
  v31:=zeroValue51
  t46:=underlying185
  a46:=isAgg185
  z46:=sizeOf185
  v46:=zeroValue185
  t51:=underlying25
  a51:=isAgg25
  z51:=sizeOf25
  v51:=zeroValue25
  t105:=underlying203
  a105:=isAgg203
  z105:=sizeOf203
  v105:=zeroValue203
  t119:=underlying359
  a119:=isAgg359
  z119:=sizeOf359
  t138:=underlying361
  a138:=isAgg361
  z138:=sizeOf361
  v138:=zeroValue361
  t139:=underlying362
  a139:=isAgg362
  z139:=sizeOf362
  v139:=zeroValue362
  t146:=underlying254
  a146:=isAgg254
  z146:=sizeOf254
  v146:=zeroValue254
  g1:=by kernel_rfl
  g3:=by kernel_rfl
  g4:=by kernel_rfl }
open Go.RowKit Go.Lib in
theorem Tryz.strings_Split (s sep:ByteArray) (m:Int) (w:World) (hs:s.size<4294967281) (hm:w.cell? ⟨1,0,none⟩=some (.int .i64 m)) (h1:1<=sep.size):
    Calls prog 385 #[.string s,.string sep] w fun e w'=>
      e=.returned (.slice (some ⟨w.heap.size,0,none⟩) (Lib.countB s sep+1) (Lib.countB s sep+1))/\w'=w.alloc (.cells ((Lib.splitB sep 0 (Lib.countB s sep) s).map Value.string).toArray 9):=Any.strings_Split Tryz.lays146 (by kernel_rfl) s sep m w hs hm h1
def Tryz.lays283_ren:Go.Shelf.Ren:=⟨fun|283=>265|n=>n,fun|3=>3|9=>9|4=>4|n=>n,fun|n=>n⟩
theorem Tryz.lays283:Go.Proofs.Lays.n283 prog Tryz.lays283_ren:={
  mixed:=by kernel_rfl
  f283:=func265.trans (congrArg some (by kernel_rfl))
  t3:=underlying3
  a3:=isAgg3
  z3:=sizeOf3
  v3:=zeroValue3
  t4:=underlying4
  a4:=isAgg4
  z4:=sizeOf4
  v4:=zeroValue4
  t9:=underlying9
  a9:=isAgg9
  z9:=sizeOf9
  v9:=zeroValue9 }
open Go.Lib in
theorem Tryz.internal_strconv_small (i:Nat) (h:i<100) (w:World):
    Calls prog 265 #[.int .i64 i] w fun e w'=>e=.returned (.string ⟨(Lib.decDigits i).toArray⟩)/\w'=w:=Any.internal_strconv_small Tryz.lays283 i h w
def Tryz.laysM284_ren:Go.Shelf.Ren:=⟨fun|284=>266|129=>317|317=>316|318=>318|n=>n,fun|53=>211|3=>3|212=>356|0=>0|4=>4|46=>185|5=>5|9=>9|n=>n,fun|17=>0|n=>n⟩
theorem Tryz.laysM284:Go.Proofs.LaysM.n284 prog Tryz.laysM284_ren:={
  mixed:=by kernel_rfl
  f129:=func317.trans (congrArg some (by kernel_rfl))
  f284:=func266.trans (congrArg some (by kernel_rfl))
  f317:=func316.trans (congrArg some (by kernel_rfl))
  f318:=func318.trans (congrArg some (by kernel_rfl))
  t0:=underlying0
  a0:=isAgg0
  z0:=sizeOf0
  v0:=zeroValue0
  t3:=underlying3
  a3:=isAgg3
  z3:=sizeOf3
  v3:=zeroValue3
  t4:=underlying4
  a4:=isAgg4
  z4:=sizeOf4
  v4:=zeroValue4
  t5:=underlying5
  a5:=isAgg5
  z5:=sizeOf5
  v5:=zeroValue5
  t9:=underlying9
  a9:=isAgg9
  z9:=sizeOf9
  v9:=zeroValue9
  t46:=underlying185
  a46:=isAgg185
  z46:=sizeOf185
  v46:=zeroValue185
  t53:=underlying211
  a53:=isAgg211
  z53:=sizeOf211
  v53:=zeroValue211
  t212:=underlying356
  a212:=isAgg356
  z212:=sizeOf356
  v212:=zeroValue356
  g17:=by kernel_rfl
  i0:=by kernel_rfl
  i3:=by kernel_rfl
  i4:=by kernel_rfl
  i5:=by kernel_rfl
  i9:=by kernel_rfl
  i46:=by kernel_rfl
  i53:=by kernel_rfl
  i212:=by kernel_rfl
  m17:=by kernel_rfl }
open Go.Lib in
theorem Tryz.internal_strconv_numDigits (u : Nat) (h1 : 1 <= u) (h2 : u < 18446744073709551616) (w : World) (htab : Lib.TabIs prog w "internal/strconv.uint64pow10" .u64 Lib.pow10Tab) :
    Calls prog 266 #[.int .u64 u] w fun e w'=>e=.returned (.int .i64 (Lib.nDigits u))/\w'=w:=Any.internal_strconv_numDigits Tryz.laysM284 u h1 h2 w htab
def Tryz.lays285_ren:Go.Shelf.Ren:=⟨fun|285=>267|n=>n,fun|37=>117|53=>211|3=>3|4=>4|51=>25|9=>9|5=>5|0=>0|n=>n,fun|n=>n⟩
theorem Tryz.lays285:Go.Proofs.Lays.n285 prog Tryz.lays285_ren:={
  mixed:=by kernel_rfl
  f285:=func267.trans (congrArg some (by kernel_rfl))
  t0:=underlying0
  a0:=isAgg0
  z0:=sizeOf0
  v0:=zeroValue0
  t3:=underlying3
  a3:=isAgg3
  z3:=sizeOf3
  v3:=zeroValue3
  t4:=underlying4
  a4:=isAgg4
  z4:=sizeOf4
  v4:=zeroValue4
  t5:=underlying5
  a5:=isAgg5
  z5:=sizeOf5
  v5:=zeroValue5
  t9:=underlying9
  a9:=isAgg9
  z9:=sizeOf9
  v9:=zeroValue9
  t37:=underlying117
  a37:=isAgg117
  z37:=sizeOf117
  v37:=zeroValue117
  t51:=underlying25
  a51:=isAgg25
  z51:=sizeOf25
  v51:=zeroValue25
  t53:=underlying211
  a53:=isAgg211
  z53:=sizeOf211
  v53:=zeroValue211 }
open Go.RowKit Go.Sort Go.Lib in
theorem Tryz.internal_strconv_formatBase10 (blk off cap:Nat) (u:Nat) (d:Array UInt8) (w:World) (hH:Holds (fun(b:UInt8)=>Value.int .u8 (b.toNat:Int)) w blk off d) (hu:u<10^d.size) (hu64:u<18446744073709551616) (hsz:d.size<4611686018427387904):
    Calls prog 267 #[.slice (some ⟨blk,off,none⟩) d.size cap,.int .u64 u] w fun e w'=>
      e=.returned (.tuple #[])/\∃(n v':Nat) (dk:Array UInt8),w'=(putRow (fun(b:UInt8)=>Value.int .u8 (b.toNat:Int)) w blk off dk).drewN n/\FmtInv d.size u 0 v' dk:=Any.internal_strconv_formatBase10 Tryz.lays285 blk off cap u d w hH hu hu64 hsz
end
end Go.Proofs