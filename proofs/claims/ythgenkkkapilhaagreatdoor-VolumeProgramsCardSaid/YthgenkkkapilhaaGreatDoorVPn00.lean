/-
  Joined: GfA.
-/
import Derived.Test.YthgenkkkapilhaaGreatDoorVPnL
import Derived.Deep.AppendLies
import Derived.WalkSpells
import Derived.WalkLawsBesides
import Derived.BigQuiet
import Derived.Test.YthgenkkkapilhaaGreatDoorProg
set_option linter.all false
set_option maxRecDepth 100000
set_option maxHeartbeats 64000000
namespace Go.Proofs.YthgenkkkapilhaaGreatDoor
open Go.Proofs.Tryz
section
def allB:Nat->(Nat->Bool)->Bool
 |0,_=>true
 |n+1,p=>p n&&allB n p
theorem allB_out {p:Nat->Bool}:∀{n:Nat},allB n p=true->∀a,a<n->p a=true
 |0,_,a,h=>by omega
 |n+1,h,a,ha=>by
  rw[allB,Bool.and_eq_true]at h
  rcases Nat.lt_succ_iff_lt_or_eq.1 ha with hl|rfl
  ·exact allB_out h.2 a hl
  {
  exact h.1}
theorem two_pow_xor {n b:Nat} (h:b<2^n):2^n^^^b=2^n+b:=by
 apply Nat.eq_of_testBit_eq;intro i;rw[Nat.testBit_xor,Nat.testBit_two_pow];rcases Nat.lt_trichotomy i n with hi|rfl|hi;{
 rw[Nat.testBit_two_pow_add_gt hi];have:decide (n=i)=false:=decide_eq_false (by omega);rw[this,Bool.false_xor]};{
 rw[Nat.testBit_two_pow_add_eq,Nat.testBit_lt_two_pow h];simp};{
 have h1:b.testBit i=false:=Nat.testBit_lt_two_pow (Nat.lt_of_lt_of_le h (Nat.pow_le_pow_right (by omega) (by omega)));have h2:(2^n+b).testBit i=false:=Nat.testBit_lt_two_pow (Nat.lt_of_lt_of_le (by omega:2^n+b<2^(n+1)) (Nat.pow_le_pow_right (by omega) hi));have h3:decide (n=i)=false:=decide_eq_false (by omega);rw[h1,h2,h3];rfl}
theorem lin_ext {f g:Nat->Nat} {N:Nat} (hf:∀a b,a<2^N->b<2^N->f (a^^^b)=f a^^^f b) (hg:∀a b,a<2^N->b<2^N->g (a^^^b)=g a^^^g b)
  (h:∀k,k<N->f (2^k)=g (2^k)):∀a,a<2^N->f a=g a:=by
 have h0:∀{u:Nat->Nat},(∀a b,a<2^N->b<2^N->u (a^^^b)=u a^^^u b)->u 0=0:=fun{u} hu=>by
  have hp:0<2^N:=Nat.two_pow_pos N
  have:=hu 0 0 hp hp
  rw[Nat.xor_self,Nat.xor_self]at this
  exact this
 have key:∀n,n<=N->∀a,a<2^n->f a=g a:=by{
 intro n;induction n with
 |zero=>(
 intro _ a ha;have:a=0:=by simpa using ha
 subst this;rw[h0 hf,h0 hg])
 |succ n ih=>
 intro hn a ha;by_cases hl:a<2^n;{exact ih (by omega) a hl};{
 have hb:a-2^n<2^n:=by rw[Nat.pow_succ]at ha;omega
 have e:a=2^n^^^(a-2^n):=by rw[two_pow_xor hb];omega
 have hle:2^n<2^N:=Nat.pow_lt_pow_right (by omega) hn;have hb2:a-2^n<2^N:=by omega
 rw[e,hf _ _ hle hb2,hg _ _ hle hb2,h n (by omega),ih (by omega) _ hb]}};exact key N (Nat.le_refl _)
def dbl8 (a:Nat):Nat:=if 128<=a then (2*a)%256^^^29 else 2*a
def gmulL:Nat->Nat->Nat->Nat->Nat
 |0,s,_,_=>s
 |k+1,s,a,b=>if b=0 then s else gmulL k (if b%2=1 then s^^^a else s) (dbl8 a) (b/2)
def gmul (a b:Nat):Nat:=gmulL 8 0 a b
theorem xor_lt {a b:Nat} (ha:a<256) (hb:b<256):a^^^b<256:=Nat.xor_lt_two_pow (n:=8) ha hb
theorem dbl8_lt {a:Nat} (ha:a<256):dbl8 a<256:=by
 unfold dbl8;split;{exact xor_lt (Nat.mod_lt _ (by omega)) (by omega)};{omega}
theorem dbl8_lin:allB 256 (fun a=>allB 256 fun b=>dbl8 (a^^^b)==(dbl8 a^^^dbl8 b))=true:=by decide +kernel
theorem dbl8_xor {a b:Nat} (ha:a<256) (hb:b<256):dbl8 (a^^^b)=dbl8 a^^^dbl8 b:=by simpa using allB_out (allB_out dbl8_lin a ha) b hb
theorem gmulL_zero (k s a:Nat):gmulL k s a 0=s:=by cases k<;>simp[gmulL]
theorem gmulL_lt:∀(k:Nat) {s a:Nat} (b:Nat),s<256->a<256->gmulL k s a b<256
 |0,s,a,b,hs,_=>hs
 |k+1,s,a,b,hs,ha=>by
  rw[gmulL]
  split
  ·exact hs
  {
  refine gmulL_lt k (b/2) ?_ (dbl8_lt ha)
  split
  ·exact xor_lt hs ha
  ·exact hs}
theorem gmul_lt {a:Nat} (b:Nat) (ha:a<256):gmul a b<256:=gmulL_lt 8 b (by omega) ha
theorem xor4 (a b c d:Nat):(a^^^b)^^^(c^^^d)=(a^^^c)^^^(b^^^d):=by
 rw[Nat.xor_assoc,Nat.xor_assoc,<-Nat.xor_assoc b c d,Nat.xor_comm b c,Nat.xor_assoc c b d]
theorem gmulL_lin:∀(k:Nat) {s t a c:Nat} (b:Nat),a<256->c<256->gmulL k (s^^^t) (a^^^c) b=gmulL k s a b^^^gmulL k t c b
 |0,_,_,_,_,_,_,_=>rfl
 |k+1,s,t,a,c,b,ha,hc=>by
  rw[gmulL,gmulL,gmulL]
  split
  ·rfl
  {
  rw[dbl8_xor ha hc,<-gmulL_lin k (b/2) (dbl8_lt ha) (dbl8_lt hc)]
  congr 1
  split
  ·exact xor4 s t a c
  ·rfl}
theorem gmul_xor_left {a c:Nat} (b:Nat) (ha:a<256) (hc:c<256):gmul (a^^^c) b=gmul a b^^^gmul c b:=by
 have:=gmulL_lin 8 (s:=0) (t:=0) b ha hc;rwa [Nat.xor_self]at this
def gsumL:Nat->Nat->Nat->Nat
 |0,_,_=>0
 |k+1,a,b=>(if b%2=1 then a else 0)^^^gsumL k (dbl8 a) (b/2)
theorem gsumL_zero:∀(k a:Nat),gsumL k a 0=0
 |0,_=>rfl
 |k+1,a=>by rw[gsumL,gsumL_zero k];simp
theorem gmulL_sum:∀(k s a b:Nat),gmulL k s a b=s^^^gsumL k a b
 |0,s,_,_=>by rw[gmulL,gsumL,Nat.xor_zero]
 |k+1,s,a,b=>by
  rw[gmulL,gsumL]
  split
  {
  rename_i h
  subst h
  rw[gsumL_zero]
  simp}
  {
  rw[gmulL_sum k]
  split
  ·rw[Nat.xor_assoc]
  ·rw[Nat.zero_xor]}
theorem bit_xor (b c:Nat):(b^^^c)%2=1↔¬(b%2=1↔c%2=1):=by
 have h:=Nat.testBit_xor b c 0;rw[Nat.testBit_zero,Nat.testBit_zero,Nat.testBit_zero]at h;by_cases h1:b%2=1<;>by_cases h2:c%2=1<;>simp[h1,h2]at h⊢<;>omega
theorem half_xor (b c:Nat):(b^^^c)/2=b/2^^^c/2:=by
 apply Nat.eq_of_testBit_eq;intro i;rw[Nat.testBit_xor,Nat.testBit_div_two,Nat.testBit_div_two,Nat.testBit_div_two,Nat.testBit_xor]
theorem gsumL_lin:∀(k a b c:Nat),gsumL k a (b^^^c)=gsumL k a b^^^gsumL k a c
 |0,_,_,_=>by simp[gsumL]
 |k+1,a,b,c=>by
  rw[gsumL,gsumL,gsumL,half_xor,gsumL_lin k,xor4]
  congr 1
  have:=bit_xor b c
  by_cases h1:b%2=1<;>by_cases h2:c%2=1<;>simp[h1,h2]at this⊢<;>simp[this]
theorem gmul_xor_right (a b c:Nat):gmul a (b^^^c)=gmul a b^^^gmul a c:=by
 unfold gmul;rw[gmulL_sum,gmulL_sum,gmulL_sum,gsumL_lin];simp
theorem gmul_comm {a b:Nat} (ha:a<256) (hb:b<256):gmul a b=gmul b a:=by
 refine lin_ext (N:=8) (f:=fun a=>gmul a b) (g:=fun a=>gmul b a) (fun x y hx hy=>gmul_xor_left b hx hy) (fun x y _ _=>gmul_xor_right b x y) (fun k hk=>?_) a ha;refine lin_ext (N:=8) (f:=fun b=>gmul (2^k) b) (g:=fun b=>gmul b (2^k)) (fun x y _ _=>gmul_xor_right _ x y) (fun x y hx hy=>gmul_xor_left _ hx hy) (fun j hj=>?_) b hb;have h:allB 8 (fun k=>allB 8 fun j=>gmul (2^k) (2^j)==gmul (2^j) (2^k))=true:=by decide +kernel
 simpa using allB_out (allB_out h k hk) j hj
theorem pow_lt8 {k:Nat} (h:k<8):2^k<256:=Nat.pow_lt_pow_right (by omega) h
theorem gmul_assoc {a b c:Nat} (ha:a<256) (hb:b<256) (hc:c<256):gmul (gmul a b) c=gmul a (gmul b c):=by
 refine lin_ext (N:=8) (f:=fun a=>gmul (gmul a b) c) (g:=fun a=>gmul a (gmul b c)) (fun x y hx hy=>?_) (fun x y hx hy=>gmul_xor_left _ hx hy) (fun k hk=>?_) a ha;{
 show gmul (gmul (x^^^y) b) c=_;rw[gmul_xor_left b hx hy,gmul_xor_left c (gmul_lt b hx) (gmul_lt b hy)]};refine lin_ext (N:=8) (f:=fun b=>gmul (gmul (2^k) b) c) (g:=fun b=>gmul (2^k) (gmul b c)) (fun x y hx hy=>?_) (fun x y hx hy=>?_) (fun j hj=>?_) b hb;{
 show gmul (gmul _ (x^^^y)) c=_;rw[gmul_xor_right,gmul_xor_left c (gmul_lt _ (pow_lt8 hk)) (gmul_lt _ (pow_lt8 hk))]};{
 show gmul _ (gmul (x^^^y) c)=_;rw[gmul_xor_left c hx hy,gmul_xor_right]};refine lin_ext (N:=8) (f:=fun c=>gmul (gmul (2^k) (2^j)) c) (g:=fun c=>gmul (2^k) (gmul (2^j) c)) (fun x y _ _=>gmul_xor_right _ x y) (fun x y hx hy=>?_) (fun i hi=>?_) c hc;{
 show gmul _ (gmul _ (x^^^y))=_;rw[gmul_xor_right,gmul_xor_right]};have h:allB 8 (fun k=>allB 8 fun j=>allB 8 fun i=>gmul (gmul (2^k) (2^j)) (2^i)==gmul (2^k) (gmul (2^j) (2^i)))=true:=by decide +kernel
 simpa using allB_out (allB_out (allB_out h k hk) j hj) i hi
theorem gmul_zero_right (a:Nat):gmul a 0=0:=gmulL_zero 8 0 a
theorem gmul_zero_left {b:Nat} (hb:b<256):gmul 0 b=0:=by rw[gmul_comm (by omega) hb,gmul_zero_right]
theorem gmul_one_right (a:Nat):gmul a 1=a:=by
 unfold gmul;rw[gmulL,if_neg (by omega),gmulL_zero];simp
theorem gmul_one_left {b:Nat} (hb:b<256):gmul 1 b=b:=by rw[gmul_comm (by omega) hb,gmul_one_right]
end
section
def rmulA (a b:Nat):Nat->Nat
 |0=>0
 |k+1=>if b.testBit k then rmulA a b k^^^(a<<<k) else rmulA a b k
def rmulB:Nat->Nat->Nat
 |0,p=>p
 |k+1,p=>rmulB k (if p.testBit (k+8) then p^^^(285<<<k) else p)
theorem rmulA_lin (a c b:Nat):∀k,rmulA (a^^^c) b k=rmulA a b k^^^rmulA c b k
 |0=>by simp[rmulA]
 |k+1=>by
  rw[rmulA,rmulA,rmulA,rmulA_lin a c b k]
  split
  ·rw[Nat.shiftLeft_xor_distrib,xor4]
  ·rfl
def gpowL:Nat->Nat->Nat->Nat->Nat
 |0,p,_,_=>p
 |k+1,p,a,n=>if n=0 then p else gpowL k (if n%2=1 then gmul p a else p) (gmul a a) (n/2)
def gpow (a n:Nat):Nat:=gpowL 8 1 a n
def ginv (a:Nat):Nat:=gpow a 254
theorem gpowL_lt:∀(k:Nat) {p a:Nat} (n:Nat),p<256->a<256->gpowL k p a n<256
 |0,_,_,_,hp,_=>hp
 |k+1,p,a,n,hp,ha=>by
  rw[gpowL]
  split
  ·exact hp
  {
  refine gpowL_lt k (n/2) ?_ (gmul_lt a ha)
  split
  ·exact gmul_lt a hp
  ·exact hp}
theorem gpow_lt {a:Nat} (n:Nat) (ha:a<256):gpow a n<256:=gpowL_lt 8 n (by omega) ha
theorem ginv_lt {a:Nat} (ha:a<256):ginv a<256:=gpow_lt 254 ha
theorem inv_all:allB 256 (fun a=>a==0||gmul a (ginv a)==1)=true:=by decide +kernel
theorem gmul_inv {a:Nat} (ha:a<256) (h:a≠0):gmul a (ginv a)=1:=by
 have:=allB_out inv_all a ha;simpa [h]using this
theorem gmul_eq_zero {a b:Nat} (ha:a<256) (hb:b<256) (h:gmul a b=0):a=0∨b=0:=by
 by_cases h0:a=0;{exact .inl h0};{
 refine .inr ?_;have e:gmul (ginv a) (gmul a b)=b:=by rw[<-gmul_assoc (ginv_lt ha) ha hb,gmul_comm (ginv_lt ha) ha,gmul_inv ha h0,gmul_one_left hb]
 rw[h,gmul_zero_right]at e;exact e.symm}
theorem inv_unique {a b:Nat} (ha:a<256) (hb:b<256) (h:gmul a b=1):b=ginv a:=by
 have h0:a≠0:=fun e=>by rw[e,gmul_zero_left hb]at h;cases h
 have e:gmul (ginv a) (gmul a b)=b:=by rw[<-gmul_assoc (ginv_lt ha) ha hb,gmul_comm (ginv_lt ha) ha,gmul_inv ha h0,gmul_one_left hb]
 rw[h,gmul_one_right]at e;exact e.symm
def pw:Nat->Nat
 |0=>1
 |n+1=>dbl8 (pw n)
theorem pw_lt:∀n,pw n<256
 |0=>by decide
 |n+1=>dbl8_lt (pw_lt n)
def pwFrom:Nat->Nat->Nat->Bool
 |0,_,x=>x==1
 |k+1,first,x=>(first==0||x != 1)&&pwFrom k 1 (dbl8 x)
theorem pwFrom_out:∀(k n:Nat),pwFrom k n (pw n)=true->pw (n+k)=1/\∀j,j<k->0<n+j->pw (n+j)≠1
 |0,n,h=>⟨by simpa [pwFrom]using h,fun j hj=>by omega⟩
 |k+1,n,h=>by
  rw[pwFrom,Bool.and_eq_true]at h
  have h2:pwFrom k (n+1) (pw (n+1))=true:=by
   have:∀(k a b x:Nat),0<a->0<b->pwFrom k a x=pwFrom k b x:=by
    intro k a b x ha hb
    cases k with
    |zero=>rfl
    |succ k=>
     have h1:(a==0)=false:=by simp;omega
     have h2:(b==0)=false:=by simp;omega
     rw[pwFrom,pwFrom,h1,h2]
   rw[this k (n+1) 1 _ (by omega) (by omega)]
   exact h.2
  obtain⟨i1,i2⟩:=pwFrom_out k (n+1) h2
  refine⟨by rw[<-i1];congr 1;omega,fun j hj hp=>?_⟩
  cases j with
  |zero=>
   have:n≠0:=by omega
   simpa [this]using h.1
  |succ j=>rw[show n+(j+1)=n+1+j by omega];exact i2 j (by omega) (by omega)
def gexpB:Nat->Nat->Bool
 |0,_=>true
 |k+1,x=>gpow 2 (254-k)==x&&gexpB k (dbl8 x)
theorem gexpB_ok:gexpB 255 1=true:=by decide +kernel
theorem gexpB_out:∀(k n:Nat),k<=255->n=255-k->gexpB k (pw n)=true->∀j,j<k->gpow 2 (n+j)=pw (n+j)
 |0,_,_,_,_,j,hj=>by omega
 |k+1,n,hk,hn,h,j,hj=>by
  rw[gexpB,Bool.and_eq_true]at h
  cases j with
  |zero=>
   have:=h.1
   rw[beq_iff_eq,show 254-k=n by omega]at this
   simpa using this
  |succ j=>
   rw[show n+(j+1)=n+1+j by omega]
   exact gexpB_out k (n+1) (by omega) (by omega) h.2 j (by omega)
theorem gpow_pw {n:Nat} (h:n<255):gpow 2 n=pw n:=by simpa using gexpB_out 255 0 (by omega) rfl gexpB_ok n h
end
section
open Go.RowKit
def SlAt {α:Type} (R:World->Value->α->Prop) (w:World) (v:Value) (xs:List α):Prop:=
 ∃(A:Option Addr) (c:Nat),v=.slice A xs.length c/\xs.length<=c/\c<=9223372036854775807 /\
  ∀i x,xs[i]?=some x->∃b o u,A=some ⟨b,o,none⟩/\w.cell? ⟨b,o+i,none⟩=some u/\R w u x
def PlainR {α:Type} (f:α->Value) (_:World) (u:Value) (x:α):Prop:=u=f x
section
variable {α:Type} {R:World->Value->α->Prop} {w w':World} {v:Value} {xs:List α}
theorem SlAt.keep (h:SlAt R w v xs) (hk:∀p u,w.cell? p=some u->w'.cell? p=some u) (hR:∀u x,R w u x->R w' u x):SlAt R w' v xs:=by
 obtain⟨A,c,hv,h1,h2,h3⟩:=h;refine⟨A,c,hv,h1,h2,fun i x hi=>?_⟩;obtain⟨b,o,u,hA,hc,hr⟩:=h3 i x hi;exact⟨b,o,u,hA,hk _ _ hc,hR _ _ hr⟩
theorem plainR_keep {f:α->Value} (u:Value) (x:α) (h:PlainR f w u x):PlainR f w' u x:=h
theorem cell_below {p:Addr} {u:Value} (hb:Below w.heap.size w w') (h:w.cell? p=some u):w'.cell? p=some u:=
 (hb.cell (World.block_lt_of_cell? _ _ h)).trans h
end
end
section
open Go.RowKit
theorem u8_xor {a b:Nat} (ha:a<256) (hb:b<256):bits .xor .u8 (a:Int) (b:Int)=((a^^^b:Nat):Int):=by
 have ha':a%2^IntKind.u8.bits=a:=Nat.mod_eq_of_lt ha;have hb':b%2^IntKind.u8.bits=b:=Nat.mod_eq_of_lt hb;simp only[bits,BitVec.ofInt_natCast,BitVec.toNat_xor,BitVec.toNat_ofNat,ha',hb'];have:=xor_lt ha hb;exact by rw[IntKind.wrap_u8];omega
theorem u8_and1 {a:Nat} (ha:a<256):bits .and .u8 (a:Int) 1=((a%2:Nat):Int):=by
 have:=bits_mask .u8 8 (by decide) wraps_u8 1 (by decide) (a:Int) (by omega) (by omega);simpa using this
theorem ret_num {k:IntKind} {a b:Int} (h:a=b):Ending.returned (.int k a)=.returned (.int k b):=by rw[h]
theorem dbl_any (w:World) (a:Nat) (ha:a<256):Calls prog 271 #[.int .u8 a] w fun e w'=>e=.returned (.int .u8 (dbl8 a:Nat))/\w=w':=by
 by_cases h:128<=a;{
 have hI:(128:Int)<=a:=by omega
 have h2:bits .xor .u8 ((a:Int)*2%256) 29=((dbl8 a:Nat):Int):=by unfold dbl8;rw[if_pos h,<-u8_xor (by omega) (by omega),Nat.mul_comm];rfl
 have H2:=zY h2;clear h2;go_enter func271,ntmps271;go_wp2;go_ret;exact⟨ret_num H2.out,rfl⟩};{
 have hI:¬(128:Int)<=a:=by omega
 go_enter func271,ntmps271;go_wp2;go_ret;refine⟨ret_num ?_,rfl⟩;unfold dbl8;rw[if_neg h];omega}
theorem gadd_any (w:World) (a b:Nat) (ha:a<256) (hb:b<256):Calls prog 189 #[.int .u8 a,.int .u8 b] w fun e w'=>e=.returned (.int .u8 (a^^^b:Nat))/\w=w':=by
 have H:=zY (u8_xor ha hb);go_enter func189,ntmps189;go_wp2;go_ret;exact⟨ret_num H.out,rfl⟩
theorem gmul_any (w:World) (a b:Nat) (ha:a<256) (hb:b<256):Calls prog 188 #[.int .u8 a,.int .u8 b] w fun e w'=>e=.returned (.int .u8 (gmul a b:Nat))/\w=w':=by
 go_enter func188,ntmps188;go_wp2;go_loop [0,1,5] (fun x y s=>∃(k a' b' s':Nat),k<=8/\a'<256/\b'<2^k/\s'<256/\x=.int .u8 a'/\y=.int .u8 b'/\s=.int .u8 s'/\gmulL k s' a' b'=gmul a b) (fun _ y _=>(intOf y).toNat);case atStart=>exact⟨8,a,b,0,Nat.le_refl _,ha,hb,by omega,rfl,rfl,rfl,rfl⟩
 case round=>
 obtain⟨k,a',b',s',hk,ha',hb',hs',rfl,rfl,rfl,hg⟩:=hrel;have Hg:=zY hg;clear hg;have hb8:b'<256:=Nat.lt_of_lt_of_le hb' (Nat.pow_le_pow_right (i:=k) (j:=8) (by omega) hk);by_cases h0:b'=0;{
 subst h0;go_wp2;go_ret;refine⟨ret_num ?_,rfl⟩;rw[<-Hg.out,gmulL_zero]};{
 obtain⟨k,rfl⟩:∃j,k=j+1:=by{
 cases k with
 |zero=>exact absurd (by simpa using hb') h0
 |succ j=>exact⟨j,rfl⟩};have hpos:(0:Int)<b':=by omega
 have hpN:0<b':=by omega
 have hand:=u8_and1 hb8;have hdb:=dbl_any w a' ha';have Hdb:=zY hdb;have hdl:=dbl8_lt ha';have hxl:=xor_lt hs' ha';have hh:b'/2<2^k:=by rw[Nat.pow_succ]at hb';omega
 have Hh:=zY hh;have Hxl:=zY hxl;have Hdl:=zY hdl;clear hdb hh hb' hxl hdl;by_cases hodd:b'%2=1;{
 have hx:=u8_xor hs' ha';have hand':(bits .and .u8 (b':Int) 1==1)=true:=by rw[hand,hodd];rfl
 have Hodd:=zY hodd;clear hand hodd;go_wp2_with (go_at_call 271;refine Hdb.mono ?_;rintro e w' ⟨rfl,rfl⟩);go_round;case rel=>refine⟨k,dbl8 a',b'/2,s'^^^a',by omega,Hdl.out,Hh.out,Hxl.out,rfl,by go_num,by rw[<-hx],?_⟩;rw[<-Hg.out,gmulL,if_neg h0,if_pos Hodd.out]
 case measure=>simp[intOf];omega};{
 have hand':(bits .and .u8 (b':Int) 1==1)=false:=by rw[hand,show b'%2=0 by omega];rfl
 have Hodd:=zY hodd;clear hand hodd;go_wp2_with (go_at_call 271;refine Hdb.mono ?_;rintro e w' ⟨rfl,rfl⟩);go_round;case rel=>refine⟨k,dbl8 a',b'/2,s',by omega,Hdl.out,Hh.out,hs',rfl,by go_num,rfl,?_⟩;rw[<-Hg.out,gmulL,if_neg h0,if_neg Hodd.out]
 case measure=>simp[intOf];omega}}
end
end Go.Proofs.YthgenkkkapilhaaGreatDoor