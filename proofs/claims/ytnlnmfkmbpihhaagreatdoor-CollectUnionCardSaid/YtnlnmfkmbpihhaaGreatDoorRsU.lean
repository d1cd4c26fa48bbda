/-
 PLAIN: the field as a type; sums; polynomials and their roots; linear registers.
 PLAIN: Berlekamp and Massey's rounds find the register of at most four locators.
 PLAIN: Forney's formula: the program's outer decoder finds the code word within four symbols.
 PLAIN: linear equations by elimination, as the reference solves them: a system with one solution is solved.
 PLAIN: the reference's outer decoder answers as the program's.
-/
import Derived.Test.YtnlnmfkmbpihhaaGreatDoorPolA
import Derived.Test.YtnlnmfkmbpihhaaGreatDoorPolW
import Derived.Test.YtnlnmfkmbpihhaaGreatDoorStrW
namespace Go.Proofs.YtnlnmfkmbpihhaaGreatDoor

/-- An element of the field. -/
structure GF where
 n : Nat
 lt : n < 256
theorem GF.ext : ∀ {a b : GF}, a.n = b.n → a = b
 | ⟨_, _⟩, ⟨_, _⟩, rfl => rfl
namespace GF
instance : Add GF := ⟨fun a b => ⟨a.n ^^^ b.n, xor_lt a.lt b.lt⟩⟩
instance : Mul GF := ⟨fun a b => ⟨gmul a.n b.n, gmul_lt _ a.lt⟩⟩
instance : OfNat GF 0 := ⟨⟨0, by omega⟩⟩
instance : OfNat GF 1 := ⟨⟨1, by omega⟩⟩
def inv (a : GF) : GF := ⟨ginv a.n, ginv_lt a.lt⟩
theorem add_n (a b : GF) : (a + b).n = a.n ^^^ b.n := rfl
theorem mul_n (a b : GF) : (a * b).n = gmul a.n b.n := rfl
theorem one_n : (1 : GF).n = 1 := rfl
theorem add_assoc (a b c : GF) : a + b + c = a + (b + c) := ext (Nat.xor_assoc _ _ _)
theorem add_comm (a b : GF) : a + b = b + a := ext (Nat.xor_comm _ _)
theorem add_self (a : GF) : a + a = 0 := ext (Nat.xor_self _)
theorem add_zero (a : GF) : a + 0 = a := ext (Nat.xor_zero _)
theorem zero_add (a : GF) : 0 + a = a := ext (Nat.zero_xor _)
theorem mul_comm (a b : GF) : a * b = b * a := ext (gmul_comm a.lt b.lt)
theorem mul_assoc (a b c : GF) : a * b * c = a * (b * c) := ext (gmul_assoc a.lt b.lt c.lt)
theorem mul_add (a b c : GF) : a * (b + c) = a * b + a * c := ext (gmul_xor_right _ _ _)
theorem add_mul (a b c : GF) : (a + b) * c = a * c + b * c := ext (gmul_xor_left _ a.lt b.lt)
theorem mul_zero (a : GF) : a * 0 = 0 := ext (show gmul a.n 0 = 0 from gmul_zero_right a.n)
theorem zero_mul (a : GF) : 0 * a = 0 := ext (gmul_zero_left a.lt)
theorem mul_one (a : GF) : a * 1 = a := ext (gmul_one_right _)
theorem one_mul (a : GF) : 1 * a = a := ext (gmul_one_left a.lt)
theorem n_ne {a : GF} (h : a ≠ 0) : a.n ≠ 0 := fun e => h (ext e)
theorem inv_n (a : GF) : (inv a).n = ginv a.n := by simp only [inv]
theorem mul_inv {a : GF} (h : a ≠ 0) : a * inv a = 1 := by
 apply ext
 rw [mul_n, inv_n, one_n]
 exact gmul_inv a.lt (n_ne h)
theorem mul_eq_zero {a b : GF} (h : a * b = 0) : a = 0 ∨ b = 0 := by
 have h1 : gmul a.n b.n = 0 := congrArg GF.n h
 rcases gmul_eq_zero a.lt b.lt h1 with e | e
 ·exact .inl (ext e)
 ·exact .inr (ext e)
theorem mul_ne {a b : GF} (ha : a ≠ 0) (hb : b ≠ 0) : a * b ≠ 0 := fun h => by
 rcases mul_eq_zero h with e | e
 ·exact ha e
 ·exact hb e
theorem add_eq_zero {a b : GF} (h : a + b = 0) : a = b := by
 have h1 := congrArg (· + b) h
 simp only [add_assoc, add_self, add_zero, zero_add] at h1
 exact h1
theorem one_ne : (1 : GF) ≠ 0 := fun h => by
 have := congrArg GF.n h
 exact absurd this (by decide)
instance : Std.Associative (α := GF) (· + ·) := ⟨add_assoc⟩
instance : Std.Commutative (α := GF) (· + ·) := ⟨add_comm⟩
instance : Std.Associative (α := GF) (· * ·) := ⟨mul_assoc⟩
instance : Std.Commutative (α := GF) (· * ·) := ⟨mul_comm⟩

/-- The sum of the first n. -/
def sm (f : Nat → GF) : Nat → GF
 | 0 => 0
 | n + 1 => sm f n + f n
theorem sm_congr {f g : Nat → GF} : ∀ n, (∀ i, i < n → f i = g i) → sm f n = sm g n
 | 0, _ => rfl
 | n + 1, h => by
  show sm f n + f n = sm g n + g n
  rw [sm_congr n fun i hi => h i (by omega), h n (by omega)]
theorem sm_zero {f : Nat → GF} : ∀ n, (∀ i, i < n → f i = 0) → sm f n = 0
 | 0, _ => rfl
 | n + 1, h => by
  show sm f n + f n = 0
  rw [sm_zero n fun i hi => h i (by omega), h n (by omega), add_zero]
theorem sm_add (f g : Nat → GF) : ∀ n, sm (fun i => f i + g i) n = sm f n + sm g n
 | 0 => (add_zero 0).symm
 | n + 1 => by
  show sm (fun i => f i + g i) n + (f n + g n) = sm f n + f n + (sm g n + g n)
  rw [sm_add f g n]
  ac_rfl
theorem sm_mul (c : GF) (f : Nat → GF) : ∀ n, sm (fun i => c * f i) n = c * sm f n
 | 0 => (mul_zero c).symm
 | n + 1 => by
  show sm (fun i => c * f i) n + c * f n = c * (sm f n + f n)
  rw [sm_mul c f n, mul_add]
theorem sm_swap (f : Nat → Nat → GF) (m : Nat) : ∀ n, sm (fun i => sm (fun j => f i j) m) n = sm (fun j => sm (fun i => f i j) n) m
 | 0 => by
  show (0 : GF) = sm (fun j => sm (fun i => f i j) 0) m
  exact (sm_zero m fun _ _ => rfl).symm
 | n + 1 => by
  show sm (fun i => sm (fun j => f i j) m) n + sm (fun j => f n j) m = sm (fun j => sm (fun i => f i j) n + f n j) m
  rw [sm_swap f m n, sm_add]
theorem sm_split (f : Nat → GF) (a : Nat) : ∀ b, sm f (a + b) = sm f a + sm (fun i => f (a + i)) b
 | 0 => (add_zero _).symm
 | b + 1 => by
  show sm f (a + b) + f (a + b) = sm f a + (sm (fun i => f (a + i)) b + f (a + b))
  rw [sm_split f a b, add_assoc]
theorem sm_head (f : Nat → GF) (n : Nat) : sm f (n + 1) = f 0 + sm (fun i => f (i + 1)) n := by
 rw [Nat.add_comm n 1, sm_split f 1 n]
 show (0 + f 0) + _ = _
 rw [zero_add]
 congr 1
 exact sm_congr n fun i _ => by rw [Nat.add_comm]
/-- One summand alone. -/
theorem sm_one {f : Nat → GF} {k : Nat} : ∀ n, k < n → (∀ i, i < n → i ≠ k → f i = 0) → sm f n = f k
 | 0, h, _ => by omega
 | n + 1, h, h0 => by
  show sm f n + f n = f k
  by_cases e : k = n
  ·subst e
   rw [sm_zero k fun i hi => h0 i (by omega) (by omega), zero_add]
  ·rw [sm_one n (by omega) fun i hi hk => h0 i (by omega) hk, h0 n (by omega) (fun e2 => e e2.symm), add_zero]

/-! powers and polynomials, as lists of coefficients, low ones first -/
def pow (x : GF) : Nat → GF
 | 0 => 1
 | n + 1 => x * pow x n
theorem pow_add (x : GF) (a : Nat) : ∀ b, pow x (a + b) = pow x a * pow x b
 | 0 => (mul_one _).symm
 | b + 1 => by
  show x * pow x (a + b) = pow x a * (x * pow x b)
  rw [pow_add x a b]
  ac_rfl
def ev (x : GF) : List GF → GF
 | [] => 0
 | a :: p => a + x * ev x p
/-- The quotient by 'x + r'. -/
def sdiv (r : GF) : List GF → List GF
 | [] => []
 | [_] => []
 | _ :: b :: p => ev r (b :: p) :: sdiv r (b :: p)
theorem sdiv_len (r : GF) : ∀ p, (sdiv r p).length = p.length - 1
 | [] => rfl
 | [_] => rfl
 | _ :: b :: p => by
  show (sdiv r (b :: p)).length + 1 = _
  rw [sdiv_len r (b :: p)]
  rfl
theorem sdiv_ev (r x : GF) : ∀ p, ev x p = ev r p + (x + r) * ev x (sdiv r p)
 | [] => by
  show (0 : GF) = 0 + (x + r) * 0
  rw [mul_zero, add_zero]
 | [a] => by
  show a + x * 0 = a + r * 0 + (x + r) * 0
  rw [mul_zero, mul_zero, mul_zero, add_zero, add_zero]
 | a :: b :: p => by
  have ih := sdiv_ev r x (b :: p)
  show a + x * ev x (b :: p) = a + r * ev r (b :: p) + (x + r) * (ev r (b :: p) + x * ev x (sdiv r (b :: p)))
  generalize ev x (sdiv r (b :: p)) = q at *
  generalize ev r (b :: p) = e at *
  rw [ih]
  simp only [mul_add, add_mul]
  have h0 := add_self (r * e)
  have h1 : a + r * e + (x * e + r * e + (x * (x * q) + r * (x * q))) = a + (x * e + (x * (x * q) + r * (x * q))) + (r * e + r * e) := by ac_rfl
  rw [h1, h0, add_zero]
  ac_rfl
theorem ev_zeros (x : GF) : ∀ p : List GF, (∀ c ∈ p, c = 0) → ev x p = 0
 | [], _ => rfl
 | a :: p, h => by
  show a + x * ev x p = 0
  rw [h a List.mem_cons_self, ev_zeros x p fun c hc => h c (List.mem_cons_of_mem _ hc), mul_zero, add_zero]
theorem sdiv_zeros (r : GF) : ∀ p : List GF, (∀ c ∈ sdiv r p, c = 0) → ∀ c ∈ p.drop 1, c = 0
 | [], _, c, hc => by cases hc
 | [_], _, c, hc => by cases hc
 | a :: b :: p, h, c, hc => by
  have h1 : ev r (b :: p) = 0 := h _ List.mem_cons_self
  have h2 := sdiv_zeros r (b :: p) fun c hc => h c (List.mem_cons_of_mem _ hc)
  have h3 : ∀ c ∈ p, c = 0 := h2
  have h4 : b = 0 := by
   have h5 : b + r * ev r p = 0 := h1
   rw [ev_zeros r p h3, mul_zero, add_zero] at h5
   exact h5
  rcases List.mem_cons.1 hc with rfl | hc
  ·exact h4
  ·exact h3 c hc
/-- A polynomial with as many roots as coefficients is zero. -/
theorem roots_zero : ∀ (xs : List GF) (p : List GF), xs.Nodup → (∀ x ∈ xs, ev x p = 0) → p.length ≤ xs.length → ∀ c ∈ p, c = 0
 | [], p, _, _, h, c, hc => by
  rw [List.eq_nil_of_length_eq_zero (Nat.le_zero.1 h)] at hc
  cases hc
 | x :: xs, [], _, _, _, c, hc => by cases hc
 | x :: xs, a :: p, hn, hr, hl, c, hc => by
  have h1 := hr x List.mem_cons_self
  have h2 := roots_zero xs (sdiv x (a :: p)) (List.nodup_cons.1 hn).2 (fun y hy => by
   have h3 := hr y (List.mem_cons_of_mem _ hy)
   rw [sdiv_ev x y, h1, zero_add] at h3
   rcases mul_eq_zero h3 with e | e
   ·have := add_eq_zero e
    subst this
    exact absurd hy (List.nodup_cons.1 hn).1
   ·exact e) (by rw [sdiv_len]; simp at hl ⊢; omega)
  have h3 : ∀ c ∈ p, c = 0 := sdiv_zeros x (a :: p) h2
  rcases List.mem_cons.1 hc with rfl | hc
  ·have h4 : c + x * ev x p = 0 := h1
   rw [ev_zeros x p h3, mul_zero, add_zero] at h4
   exact h4
  ·exact h3 c hc

/-! sums of powers -/
theorem vander : ∀ (n : Nat) (y X : Nat → GF), (∀ i j, i < j → j < n → X i ≠ X j) → (∀ k, k < n → sm (fun j => y j * pow (X j) k) n = 0) → ∀ j, j < n → y j = 0
 | 0, _, _, _, _, j, hj => by omega
 | n + 1, y, X, hX, h, j, hj => by
  have h1 : ∀ k, k < n → sm (fun j => (y j * (X j + X n)) * pow (X j) k) n = 0 := fun k hk => by
   have e0 := h k (by omega)
   have e1 := h (k + 1) (by omega)
   have e2 : sm (fun j => y j * pow (X j) (k + 1)) (n + 1) + X n * sm (fun j => y j * pow (X j) k) (n + 1) = 0 := by rw [e0, e1, mul_zero, add_zero]
   rw [← sm_mul, ← sm_add] at e2
   have e3 : sm (fun j => y j * pow (X j) (k + 1) + X n * (y j * pow (X j) k)) (n + 1) = sm (fun j => (y j * (X j + X n)) * pow (X j) k) n + 0 := by
    show sm (fun j => y j * pow (X j) (k + 1) + X n * (y j * pow (X j) k)) n + (y n * pow (X n) (k + 1) + X n * (y n * pow (X n) k)) = _
    congr 1
    ·refine sm_congr n fun j _ => ?_
     show y j * (X j * pow (X j) k) + X n * (y j * pow (X j) k) = _
     rw [mul_add, add_mul]
     congr 1 <;> ac_rfl
    ·have e4 : X n * (y n * pow (X n) k) = y n * pow (X n) (k + 1) := by
      show _ = y n * (X n * pow (X n) k)
      ac_rfl
     rw [e4, add_self]
   rw [e3, add_zero] at e2
   exact e2
  have h2 := vander n (fun j => y j * (X j + X n)) X (fun i j hij hj => hX i j hij (by omega)) h1
  have h3 : ∀ j, j < n → y j = 0 := fun j hj => by
   rcases mul_eq_zero (h2 j hj) with e | e
   ·exact e
   ·exact absurd (add_eq_zero e) (hX j n hj (by omega))
  by_cases e : j = n
  ·subst e
   have h4 := h 0 (by omega)
   have h5 : sm (fun i => y i * pow (X i) 0) (j + 1) = y j := by
    show sm (fun i => y i * pow (X i) 0) j + y j * 1 = y j
    rw [sm_zero j fun i hi => by rw [h3 i hi, zero_mul], zero_add, mul_one]
   rw [h5] at h4
   exact h4
  ·exact h3 j (by omega)

theorem sm_rev : ∀ (n : Nat) (f : Nat → GF), sm f n = sm (fun i => f (n - 1 - i)) n
 | 0, _ => rfl
 | n + 1, f => by
  conv => rhs; rw [sm_head]
  show sm f n + f n = f (n + 1 - 1 - 0) + sm (fun i => f (n + 1 - 1 - (i + 1))) n
  rw [sm_rev n f, add_comm]
  congr 1
  exact sm_congr n fun i _ => by rw [show n + 1 - 1 - (i + 1) = n - 1 - i by omega]
theorem ev_sm (x : GF) : ∀ p : List GF, ev x p = sm (fun k => p.getD k 0 * pow x k) p.length
 | [] => rfl
 | a :: p => by
  rw [List.length_cons, sm_head]
  show a + x * ev x p = a * 1 + sm (fun k => p.getD k 0 * (x * pow x k)) p.length
  rw [ev_sm x p, mul_one, ← sm_mul]
  congr 1
  exact sm_congr _ fun k _ => by ac_rfl
theorem ev_range (x : GF) (f : Nat → GF) (n : Nat) : ev x ((List.range n).map f) = sm (fun k => f k * pow x k) n := by
 rw [ev_sm, List.length_map, List.length_range]
 refine sm_congr n fun k hk => ?_
 rw [List.getD_eq_getElem?_getD, List.getElem?_map, List.getElem?_range hk]
 rfl
theorem nodup_range {X : Nat → GF} {n : Nat} (hX : ∀ i j, i < j → j < n → X i ≠ X j) : ((List.range n).map X).Nodup := by
 refine List.pairwise_map.2 ?_
 refine List.Pairwise.imp_of_mem ?_ (List.pairwise_lt_range (n := n))
 intro i j _ hj hij
 exact hX i j hij (List.mem_range.1 hj)

/-! registers -/
def dsc (c S : Nat → GF) (m : Nat) : GF := sm (fun i => c i * S (m - i)) (m + 1)
/-- c is a register of length L. -/
def Reg (c : Nat → GF) (L : Nat) : Prop := c 0 = 1 ∧ ∀ i, L < i → c i = 0
def Gen (c : Nat → GF) (L : Nat) (S : Nat → GF) (n : Nat) : Prop := ∀ m, L ≤ m → m < n → dsc c S m = 0
theorem dsc_short {c S : Nat → GF} {L m : Nat} (h : ∀ i, L < i → c i = 0) (hm : L ≤ m) : dsc c S m = sm (fun i => c i * S (m - i)) (L + 1) := by
 unfold dsc
 obtain ⟨k, rfl⟩ : ∃ k, m = L + k := ⟨m - L, by omega⟩
 rw [show L + k + 1 = L + 1 + k by omega, sm_split, sm_zero k fun i _ => by rw [h _ (by omega), zero_mul], add_zero]
/-- Massey's bound. -/
theorem massey {c b S : Nat → GF} {L K n : Nat} (hc : Reg c L) (hb : Reg b K) (_hL : L ≤ n) (hgc : Gen c L S n) (hd : dsc c S n ≠ 0) (hgb : Gen b K S (n + 1)) : n + 1 ≤ L + K := by
 rcases Nat.lt_or_ge n (L + K) with h | h
 ·omega
 ·exfalso
  have e1 : sm (fun i => sm (fun j => c i * (b j * S (n - i - j))) (K + 1)) (L + 1) = 0 := by
   refine sm_zero _ fun i hi => ?_
   rw [sm_mul]
   have := hgb (n - i) (by omega) (by omega)
   rw [dsc_short hb.2 (by omega)] at this
   rw [this, mul_zero]
  rw [sm_swap] at e1
  have e2 : sm (fun j => sm (fun i => c i * (b j * S (n - i - j))) (L + 1)) (K + 1) = sm (fun j => b j * dsc c S (n - j)) (K + 1) := by
   refine sm_congr _ fun j hj => ?_
   rw [dsc_short hc.2 (by omega), ← sm_mul]
   refine sm_congr _ fun i _ => ?_
   rw [show n - i - j = n - j - i by omega]
   ac_rfl
  rw [e2, sm_head, Nat.sub_zero, hb.1, one_mul, sm_zero K fun j hj => by rw [hgc (n - (j + 1)) (by omega) (by omega), mul_zero], add_zero] at e1
  exact hd e1

/-! the register of given locators -/
def lam (X : Nat → GF) : Nat → Nat → GF
 | 0, 0 => 1
 | 0, _ + 1 => 0
 | n + 1, 0 => lam X n 0
 | n + 1, i + 1 => lam X n (i + 1) + X n * lam X n i
theorem lam_zero (X : Nat → GF) : ∀ n, lam X n 0 = 1
 | 0 => rfl
 | n + 1 => lam_zero X n
theorem lam_big (X : Nat → GF) : ∀ n i, n < i → lam X n i = 0
 | 0, 0, h => by omega
 | 0, _ + 1, _ => rfl
 | n + 1, 0, h => by omega
 | n + 1, i + 1, h => by
  show lam X n (i + 1) + X n * lam X n i = 0
  rw [lam_big X n (i + 1) (by omega), lam_big X n i (by omega), mul_zero, add_zero]
theorem lam_reg (X : Nat → GF) (n : Nat) : Reg (lam X n) n := ⟨lam_zero X n, lam_big X n⟩
/-- The first coefficients of the register over '1 + x z'. -/
def quo (c : Nat → GF) (x : GF) (m : Nat) : GF := sm (fun i => c i * pow x (m - i)) (m + 1)
theorem quo_zero (c : Nat → GF) (x : GF) : quo c x 0 = c 0 := by
 show (0 : GF) + c 0 * 1 = c 0
 rw [zero_add, mul_one]
theorem quo_succ (c : Nat → GF) (x : GF) (m : Nat) : quo c x (m + 1) = x * quo c x m + c (m + 1) := by
 show sm (fun i => c i * pow x (m + 1 - i)) (m + 1) + c (m + 1) * pow x (m + 1 - (m + 1)) = _
 rw [Nat.sub_self]
 show _ + c (m + 1) * 1 = _
 rw [mul_one]
 congr 1
 unfold quo
 rw [← sm_mul]
 refine sm_congr _ fun i hi => ?_
 rw [show m + 1 - i = m - i + 1 by omega]
 show c i * (x * pow x (m - i)) = x * (c i * pow x (m - i))
 ac_rfl
theorem quo_lam (X : Nat → GF) (n : Nat) (x : GF) : ∀ m, quo (lam X (n + 1)) x (m + 1) = quo (lam X n) x (m + 1) + X n * quo (lam X n) x m
 | 0 => by
  rw [quo_succ, quo_succ, quo_zero, quo_zero]
  show x * lam X n 0 + (lam X n 1 + X n * lam X n 0) = x * lam X n 0 + lam X n 1 + X n * lam X n 0
  ac_rfl
 | m + 1 => by
  rw [quo_succ, quo_lam X n x m, quo_succ (lam X n) x (m + 1), quo_succ (lam X n) x m]
  show x * (x * quo (lam X n) x m + lam X n (m + 1) + X n * quo (lam X n) x m) + (lam X n (m + 1 + 1) + X n * lam X n (m + 1)) = _
  simp only [mul_add]
  ac_rfl
theorem quo_root (X : Nat → GF) : ∀ (n j m : Nat), j < n → n ≤ m → quo (lam X n) (X j) m = 0
 | 0, j, _, h, _ => by omega
 | n + 1, j, 0, _, h => by omega
 | n + 1, j, m + 1, hj, hm => by
  rw [quo_lam]
  by_cases e : j = n
  ·subst e
   rw [quo_succ, lam_big X j (m + 1) (by omega), add_zero, add_self]
  ·rw [quo_root X n j (m + 1) (by omega) (by omega), quo_root X n j m (by omega) (by omega), mul_zero, add_zero]
/-- The syndromes of some errors. -/
def syn (e X : Nat → GF) (n : Nat) (k : Nat) : GF := sm (fun j => e j * pow (X j) k) n
theorem dsc_syn (c e X : Nat → GF) (n m : Nat) : dsc c (syn e X n) m = sm (fun j => e j * quo c (X j) m) n := by
 unfold dsc syn quo
 have h : ∀ i, c i * sm (fun j => e j * pow (X j) (m - i)) n = sm (fun j => e j * (c i * pow (X j) (m - i))) n := fun i => by
  rw [← sm_mul]
  exact sm_congr n fun j _ => by ac_rfl
 rw [sm_congr (m + 1) fun i _ => h i, sm_swap]
 exact sm_congr n fun j _ => by rw [sm_mul]
theorem lam_gen (e X : Nat → GF) (n N : Nat) : Gen (lam X n) n (syn e X n) N := fun m hm _ => by
 rw [dsc_syn]
 exact sm_zero n fun j hj => by rw [quo_root X n j m hj hm, mul_zero]
/-- The only register that is no longer. -/
theorem reg_unique {c e X : Nat → GF} {n L : Nat} (hX : ∀ i j, i < j → j < n → X i ≠ X j) (he : ∀ j, j < n → e j ≠ 0) (hn : 2 * n ≤ 8) (hc : Reg c L) (hL : L ≤ n) (hg : Gen c L (syn e X n) 8) : ∀ i, c i = lam X n i := by
 obtain ⟨z, hz⟩ : ∃ z : Nat → GF, z = fun i => c i + lam X n i := ⟨_, rfl⟩
 have hz0 : z 0 = 0 := by rw [hz]; show c 0 + lam X n 0 = 0; rw [hc.1, lam_zero, add_self]
 have hzb : ∀ i, n < i → z i = 0 := fun i hi => by rw [hz]; show c i + lam X n i = 0; rw [hc.2 i (by omega), lam_big X n i hi, add_zero]
 have hd : ∀ m, n ≤ m → m < 8 → dsc z (syn e X n) m = 0 := fun m hm h8 => by
  have h1 := hg m (by omega) h8
  have h2 := lam_gen e X n 8 m hm h8
  have h3 : dsc z (syn e X n) m = dsc c (syn e X n) m + dsc (lam X n) (syn e X n) m := by
   unfold dsc
   rw [← sm_add]
   exact sm_congr _ fun i _ => by rw [hz, add_mul]
  rw [h3, h1, h2, add_zero]
 have hv := vander n (fun j => e j * sm (fun i => z (i + 1) * pow (X j) (n - 1 - i)) n) X hX fun k hk => by
  have h1 := hd (n + k) (by omega) (by omega)
  rw [dsc_syn] at h1
  rw [← h1]
  refine sm_congr n fun j hj => ?_
  have h2 : quo z (X j) (n + k) = sm (fun i => z (i + 1) * pow (X j) (n - 1 - i)) n * pow (X j) k := by
   unfold quo
   rw [show n + k + 1 = n + 1 + k by omega, sm_split, sm_zero k fun i _ => by rw [hzb _ (by omega), zero_mul], add_zero, sm_head, hz0, zero_mul, zero_add, mul_comm, ← sm_mul]
   refine sm_congr n fun i hi => ?_
   rw [show n + k - (i + 1) = k + (n - 1 - i) by omega, pow_add]
   ac_rfl
  rw [h2]
  ac_rfl
 have hZ : ∀ j, j < n → sm (fun i => z (i + 1) * pow (X j) (n - 1 - i)) n = 0 := fun j hj => by
  rcases mul_eq_zero (hv j hj) with h | h
  ·exact absurd h (he j hj)
  ·exact h
 have hr := roots_zero ((List.range n).map X) ((List.range n).map fun k => z (n - k)) (nodup_range hX) (fun x hx => by
  obtain ⟨j, hj, rfl⟩ := List.mem_map.1 hx
  rw [ev_range, sm_rev, ← hZ j (List.mem_range.1 hj)]
  exact sm_congr n fun i hi => by rw [show n - (n - 1 - i) = i + 1 by omega]) (by simp)
 intro i
 have hzi : z i = 0 := by
  by_cases h0 : i = 0
  ·rw [h0, hz0]
  ·by_cases h1 : i ≤ n
   ·refine hr _ (List.mem_map.2 ⟨n - i, List.mem_range.2 (by omega), ?_⟩)
    rw [show n - (n - i) = i by omega]
   ·exact hzb i (by omega)
 rw [hz] at hzi
 exact add_eq_zero hzi

end GF
end Go.Proofs.YtnlnmfkmbpihhaaGreatDoor

namespace Go.Proofs.YtnlnmfkmbpihhaaGreatDoor
open GF

def gf (n : Nat) : GF := ⟨n % 256, Nat.mod_lt _ (by omega)⟩
theorem gf_n {n : Nat} (h : n < 256) : (gf n).n = n := Nat.mod_eq_of_lt h
theorem gf_of (a : GF) : gf a.n = a := GF.ext (Nat.mod_eq_of_lt a.lt)
theorem gf_inj {a b : Nat} (ha : a < 256) (hb : b < 256) (h : gf a = gf b) : a = b := by
 have := congrArg GF.n h
 rwa [gf_n ha, gf_n hb] at this
theorem gf_add {a b : Nat} (ha : a < 256) (hb : b < 256) : gf (a ^^^ b) = gf a + gf b := by
 apply GF.ext
 rw [add_n, gf_n (xor_lt ha hb), gf_n ha, gf_n hb]
theorem gf_mul {a b : Nat} (ha : a < 256) (hb : b < 256) : gf (gmul a b) = gf a * gf b := by
 apply GF.ext
 rw [mul_n, gf_n (gmul_lt b ha), gf_n ha, gf_n hb]
theorem gf_inv {a : Nat} (ha : a < 256) : gf (ginv a) = GF.inv (gf a) := by
 apply GF.ext
 rw [inv_n, gf_n (ginv_lt ha), gf_n ha]
theorem gf_ne {a : Nat} (ha : a < 256) (h : a ≠ 0) : gf a ≠ 0 := fun e => h (gf_inj ha (by omega) e)
/-- A list's coefficients. -/
def cG (p : List Nat) (i : Nat) : GF := gf (cf p i)
theorem disc_gf {l s : List Nat} (hl : Bytes l) (hs : Bytes s) (m : Nat) : ∀ i, gf (disc l s m i) = sm (fun i => cG l i * cG s (m - i)) i
 | 0 => rfl
 | i + 1 => by
  show gf (disc l s m i ^^^ gmul (cf l i) (cf s (m - i))) = sm (fun i => cG l i * cG s (m - i)) i + cG l i * cG s (m - i)
  rw [gf_add (disc_lt hl m i) (gmul_lt _ (cf_lt hl i)), disc_gf hl hs m i, gf_mul (cf_lt hl i) (cf_lt hs _)]
  rfl
theorem padd_cf (p q : List Nat) (i : Nat) : cf (padd p q) i = cf p i ^^^ cf q i := by
 unfold padd
 rw [ptrim_cf]
 unfold paddR
 rw [cf_map]
 split
 ·rfl
 ·rw [cf_big (by omega), cf_big (by omega), Nat.xor_self]
theorem shift_cf (g : Nat) (q : List Nat) (i : Nat) : cf (List.replicate g 0 ++ q) i = if i < g then 0 else cf q (i - g) := by
 unfold cf
 split
 ·rw [List.getElem?_append_left (by rw [List.length_replicate]; omega), List.getElem?_replicate, if_pos (by omega)]
  rfl
 ·rw [List.getElem?_append_right (by rw [List.length_replicate]; omega), List.length_replicate]
theorem cv_one (p : List Nat) (c m : Nat) : ∀ n, cv p [c] n m = if m < n then gmul (cf p m) c else 0
 | 0 => by rw [if_neg (by omega)]; rfl
 | n + 1 => by
  show cv p [c] n m ^^^ (if n ≤ m then gmul (cf p n) (cf [c] (m - n)) else 0) = _
  rw [cv_one p c m n]
  by_cases h1 : m < n
  ·rw [if_pos h1, if_neg (by omega), if_pos (by omega), Nat.xor_zero]
  ·rw [if_neg h1, if_pos (by omega), Nat.zero_xor]
   by_cases h2 : m = n
   ·subst h2
    rw [if_pos (by omega), Nat.sub_self]
    rfl
   ·rw [if_neg (by omega), cf_big (p := [c]) (by simp; omega), gmul_zero_right]
theorem pmul_one_cf {p : List Nat} (c i : Nat) (hc : c < 256) : cf (pmul p [c]) i = gmul (cf p i) c := by
 unfold pmul
 rw [ptrim_cf]
 unfold pmulR
 rw [cf_map, cv_one]
 by_cases h : i < p.length
 ·rw [if_pos (by simp; omega), if_pos h]
 ·rw [cf_big (p := p) (by omega), gmul_zero_left hc, if_neg h]
  split <;> rfl
theorem gdv_gf {a b : Nat} (ha : a < 256) (hb : b < 256) (h : b ≠ 0) : gf (gdv a b) = gf a * GF.inv (gf b) := by
 unfold gdv
 rw [if_neg h, gf_mul ha (ginv_lt hb), gf_inv hb]
/-- l, and a shifted multiple of p. -/
def shifted (l p : Nat → GF) (g : Nat) (c : GF) (i : Nat) : GF := l i + (if i < g then 0 else p (i - g) * c)
theorem bmNext_cG {s : List Nat} {n : Nat} {t : BM} (hl : Bytes t.l) (hp : Bytes t.prev) (_hs : Bytes s) (hlast : t.last < 256) (h0 : t.last ≠ 0) (i : Nat) :
  cG (bmNext s n t) i = shifted (cG t.l) (cG t.prev) t.gap (gf (disc t.l s n (n + 1)) * GF.inv (gf t.last)) i := by
 have hd := disc_lt (s := s) hl n (n + 1)
 have hg := gdv_lt (b := t.last) hd
 unfold cG bmNext shifted
 rw [padd_cf, shift_cf]
 split
 ·rw [gf_add (cf_lt hl i) (by omega)]
  rfl
 ·rw [pmul_one_cf _ _ hg, gf_add (cf_lt hl i) (gmul_lt _ (cf_lt hp _)), gf_mul (cf_lt hp _) hg, gdv_gf hd hlast h0]
theorem dsc_shifted (l p S : Nat → GF) (g : Nat) (c : GF) (m : Nat) : dsc (shifted l p g c) S m = dsc l S m + (if m < g then 0 else c * dsc p S (m - g)) := by
 unfold dsc
 have e : sm (fun i => shifted l p g c i * S (m - i)) (m + 1) = sm (fun i => l i * S (m - i)) (m + 1) + sm (fun i => (if i < g then 0 else p (i - g) * c) * S (m - i)) (m + 1) := by
  rw [← sm_add]
  exact sm_congr _ fun i _ => by unfold shifted; rw [add_mul]
 rw [e]
 congr 1
 split
 ·exact sm_zero _ fun i hi => by rw [if_pos (by omega), zero_mul]
 ·obtain ⟨k, rfl⟩ : ∃ k, m = g + k := ⟨m - g, by omega⟩
  rw [show g + k + 1 = g + (k + 1) by omega, sm_split, sm_zero g fun i hi => by rw [if_pos hi, zero_mul], zero_add, ← sm_mul, show g + k - g = k by omega]
  refine sm_congr _ fun i hi => ?_
  rw [if_neg (by omega), show g + i - g = i by omega, show g + k - (g + i) = k - i by omega]
  ac_rfl

/-- What the rounds hold behind n of them. -/
structure BInv (S : Nat → GF) (n : Nat) (t : BM) : Prop where
 reg : Reg (cG t.l) t.length
 gen : Gen (cG t.l) t.length S n
 len : t.length ≤ n
 last : t.last ≠ 0
 prev : (t.length = 0 ∧ t.gap = n + 1 ∧ (∀ i, cG t.prev i = if i = 0 then 1 else 0) ∧ t.last = 1) ∨
  ∃ m P, m < n ∧ t.gap = n - m ∧ 2 * P ≤ m ∧ Reg (cG t.prev) P ∧ Gen (cG t.prev) P S m ∧ dsc (cG t.prev) S m = gf t.last ∧ t.length = m + 1 - P
 low : ∀ b K, Reg b K → Gen b K S 8 → t.length ≤ K
theorem gen_mono {c S : Nat → GF} {L n m : Nat} (h : Gen c L S n) (hm : m ≤ n) : Gen c L S m := fun k h1 h2 => h k h1 (by omega)
theorem bm_inv {s : List Nat} (hs : Bytes s) : ∀ n, n ≤ 8 → BInv (cG s) n (bmRun s n)
 | 0, _ => by
  have h1 : ∀ i, cG [1] i = if i = 0 then 1 else 0 := fun i => by
   unfold cG
   match i with
   | 0 => rfl
   | i + 1 => rw [cf_big (p := [1]) (by simp), if_neg (by omega)]; rfl
  refine ⟨⟨h1 0, fun i hi => ?_⟩, fun m _ hm => by omega, Nat.le_refl _, by show (1 : Nat) ≠ 0; omega, .inl ⟨rfl, rfl, h1, rfl⟩, fun _ _ _ _ => Nat.zero_le _⟩
  have : 0 < i := hi
  show cG [1] i = 0
  rw [h1, if_neg (by omega)]
 | n + 1, hn => by
  have ih := bm_inv hs n (by omega)
  have ok := bm_ok s n (by omega)
  rw [bmRun_succ]
  generalize bmRun s n = t at *
  obtain ⟨hreg, hgen, hlen, hlast, hprev, hlow⟩ := ih
  have hd : gf (disc t.l s n (n + 1)) = dsc (cG t.l) (cG s) n := disc_gf ok.bl hs n (n + 1)
  have hdl := disc_lt (s := s) ok.bl n (n + 1)
  by_cases h0 : disc t.l s n (n + 1) = 0
  ·rw [bmStep_zero h0]
   rw [h0] at hd
   refine ⟨hreg, fun m h1 h2 => ?_, by show t.length ≤ n + 1; omega, hlast, ?_, hlow⟩
   ·by_cases e : m = n
    ·subst e
     exact hd.symm
    ·exact hgen m h1 (by omega)
   ·rcases hprev with ⟨p1, p2, p3, p4⟩ | ⟨m, P, p1, p2, p3, p4, p5, p6, p7⟩
    ·exact .inl ⟨p1, by show t.gap + 1 = n + 1 + 1; omega, p3, p4⟩
    ·exact .inr ⟨m, P, by omega, by show t.gap + 1 = n + 1 - m; omega, p3, p4, p5, p6, p7⟩
  ·have hdn : dsc (cG t.l) (cG s) n ≠ 0 := by rw [← hd]; exact gf_ne hdl h0
   have hx := fun i => bmNext_cG (s := s) (n := n) ok.bl ok.bp hs ok.last hlast i
   have hxf : cG (bmNext s n t) = shifted (cG t.l) (cG t.prev) t.gap (gf (disc t.l s n (n + 1)) * GF.inv (gf t.last)) := funext hx
   rw [hd] at hxf
   have hgap : 1 ≤ t.gap := by
    rcases hprev with ⟨_, p2, _⟩ | ⟨m, P, p1, p2, _⟩ <;> omega
   have hreg0 : cG (bmNext s n t) 0 = 1 := by
    rw [hxf]
    unfold shifted
    rw [if_pos (by omega), add_zero]
    exact hreg.1
   -- the new register generates one term more
   have key : ∀ Ln, t.length ≤ Ln → n + 1 - t.length ≤ Ln → (t.length = 0 → n + 1 ≤ Ln) → Reg (cG (bmNext s n t)) Ln ∧ Gen (cG (bmNext s n t)) Ln (cG s) (n + 1) := by
    intro Ln hL1 hL2 hL3
    rcases hprev with ⟨p1, p2, p3, p4⟩ | ⟨m, P, p1, p2, p3, p4, p5, p6, p7⟩
    ·have h3 := hL3 p1
     refine ⟨⟨hreg0, fun i hi => ?_⟩, fun k h1 h2 => by omega⟩
     rw [hxf]
     unfold shifted
     rw [hreg.2 i (by omega), zero_add, if_neg (by omega), p3, if_neg (by omega), zero_mul]
    ·refine ⟨⟨hreg0, fun i hi => ?_⟩, fun k h1 h2 => ?_⟩
     ·rw [hxf]
      unfold shifted
      rw [hreg.2 i (by omega), zero_add, if_neg (by omega), p4.2 (i - t.gap) (by omega), zero_mul]
     ·rw [hxf, dsc_shifted, if_neg (by omega)]
      by_cases e : k = n
      ·subst e
       rw [show k - t.gap = m by omega, p6, mul_assoc, mul_comm (GF.inv (gf t.last)), mul_inv (gf_ne ok.last hlast), mul_one, add_self]
      ·rw [hgen k (by omega) (by omega), p5 (k - t.gap) (by omega) (by omega), mul_zero, add_zero]
   by_cases h2 : 2 * t.length ≤ n
   ·rw [bmStep_far h0 h2]
    obtain ⟨k1, k2⟩ := key (n + 1 - t.length) (by omega) (Nat.le_refl _) (fun e => by omega)
    refine ⟨k1, k2, by show n + 1 - t.length ≤ n + 1; omega, h0, .inr ⟨n, t.length, by omega, by show 1 = n + 1 - n; omega, h2, hreg, hgen, hd.symm, rfl⟩, fun b K hb hg => ?_⟩
    have := massey hreg hb hlen hgen hdn (gen_mono hg (by omega))
    show n + 1 - t.length ≤ K
    omega
   ·rw [bmStep_near h0 h2]
    obtain ⟨k1, k2⟩ := key t.length (Nat.le_refl _) (by omega) (fun e => by omega)
    refine ⟨k1, k2, by show t.length ≤ n + 1; omega, hlast, ?_, hlow⟩
    rcases hprev with ⟨p1, _⟩ | ⟨m, P, p1, p2, p3, p4, p5, p6, p7⟩
    ·omega
    ·exact .inr ⟨m, P, by omega, by show t.gap + 1 = n + 1 - m; omega, p3, p4, p5, p6, p7⟩
/-- At most four locators are found. -/
theorem bm_lam {s : List Nat} (hs : Bytes s) {e X : Nat → GF} {n : Nat} (hn : n ≤ 4) (hX : ∀ i j, i < j → j < n → X i ≠ X j) (he : ∀ j, j < n → e j ≠ 0) (hS : ∀ k, k < 8 → cG s k = syn e X n k) :
  ∀ i, cG (locP s) i = lam X n i := by
 have h := bm_inv hs 8 (Nat.le_refl _)
 have hds : ∀ (c : Nat → GF) m, m < 8 → dsc c (cG s) m = dsc c (syn e X n) m := fun c m hm => by
  unfold dsc
  exact sm_congr _ fun i _ => by rw [hS _ (by omega)]
 have hL := h.low (lam X n) n (lam_reg X n) (fun m h1 h2 => by rw [hds _ m h2]; exact lam_gen e X n 8 m h1 h2)
 have hu := reg_unique hX he (by omega) h.reg hL (fun m h1 h2 => by rw [← hds _ m h2]; exact h.gen m h1 h2)
 intro i
 rw [← hu i]
 unfold cG locP
 rw [ptrim_cf]

end Go.Proofs.YtnlnmfkmbpihhaaGreatDoor

namespace Go.Proofs.YtnlnmfkmbpihhaaGreatDoor
namespace GF

theorem pow_succ (x : GF) (n : Nat) : pow x (n + 1) = x * pow x n := rfl
theorem pow_zero (x : GF) : pow x 0 = 1 := rfl
theorem inv_of {a b : GF} (h : a * b = 1) : ∀ {c : GF}, c * b = 1 → c = a := fun {c} hc => by
 have h1 : c * (b * a) = a := by rw [← mul_assoc, hc, one_mul]
 rw [mul_comm b, h, mul_one] at h1
 exact h1
/-- A polynomial's value, by its first n coefficients. -/
def pv (f : Nat → GF) (x : GF) (n : Nat) : GF := sm (fun i => f i * pow x i) n
theorem pv_succ (f : Nat → GF) (x : GF) (n : Nat) : pv f x (n + 1) = pv f x n + f n * pow x n := rfl
theorem pv_head (f : Nat → GF) (x : GF) (n : Nat) : pv f x (n + 1) = f 0 + x * pv (fun i => f (i + 1)) x n := by
 unfold pv
 rw [sm_head, ← sm_mul, pow_zero, mul_one]
 congr 1
 refine sm_congr n fun i _ => ?_
 show f (i + 1) * (x * pow x i) = x * (f (i + 1) * pow x i)
 ac_rfl
theorem pv_congr {f g : Nat → GF} (x : GF) (n : Nat) (h : ∀ i, i < n → f i = g i) : pv f x n = pv g x n := sm_congr n fun i hi => by rw [h i hi]
theorem pv_add (f g : Nat → GF) (x : GF) (n : Nat) : pv (fun i => f i + g i) x n = pv f x n + pv g x n := by
 unfold pv
 rw [← sm_add]
 exact sm_congr n fun i _ => by rw [add_mul]
theorem pv_mul (c : GF) (f : Nat → GF) (x : GF) (n : Nat) : pv (fun i => c * f i) x n = c * pv f x n := by
 unfold pv
 rw [← sm_mul]
 exact sm_congr n fun i _ => by rw [mul_assoc]
theorem pv_tail {f : Nat → GF} (x : GF) {n : Nat} (h : ∀ i, n ≤ i → f i = 0) : ∀ k, pv f x (n + k) = pv f x n
 | 0 => rfl
 | k + 1 => by
  show pv f x (n + k) + f (n + k) * pow x (n + k) = _
  rw [pv_tail x h k, h (n + k) (by omega), zero_mul, add_zero]
/-- Two series over each other. -/
theorem pv_step {f g : Nat → GF} {y x : GF} {n : Nat} (h0 : g 0 = f 0) (h1 : ∀ i, g (i + 1) = f (i + 1) + y * f i) (hz : f n = 0) : pv g x (n + 1) = (1 + y * x) * pv f x n := by
 have e1 : pv (fun i => g (i + 1)) x n = pv (fun i => f (i + 1)) x n + y * pv f x n := by
  rw [← pv_mul, ← pv_add]
  exact pv_congr x n fun i _ => h1 i
 rw [pv_head, h0, e1, add_mul, one_mul]
 have e2 : pv f x n = f 0 + x * pv (fun i => f (i + 1)) x n := by rw [← pv_head, pv_succ, hz, zero_mul, add_zero]
 rw [mul_add, ← add_assoc, ← e2]
 congr 1
 ac_rfl
theorem lam_pv (X : Nat → GF) (n : Nat) (x : GF) : pv (lam X (n + 1)) x (n + 2) = (1 + X n * x) * pv (lam X n) x (n + 1) :=
 pv_step (f := lam X n) rfl (fun _ => rfl) (lam_big X n (n + 1) (by omega))
theorem lam_pv_zero (X : Nat → GF) (x : GF) : ∀ (n j : Nat), j < n → 1 + X j * x = 0 → pv (lam X n) x (n + 1) = 0
 | 0, _, h, _ => by omega
 | n + 1, j, h, hz => by
  rw [lam_pv]
  by_cases e : j = n
  ·rw [← e, hz, zero_mul]
  ·rw [lam_pv_zero X x n j (by omega) hz, mul_zero]
theorem lam_pv_ne (X : Nat → GF) (x : GF) : ∀ n, (∀ j, j < n → 1 + X j * x ≠ 0) → pv (lam X n) x (n + 1) ≠ 0
 | 0, _ => by
  have : pv (lam X 0) x 1 = 1 := by
   rw [pv_head]
   show (1 : GF) + x * 0 = 1
   rw [mul_zero, add_zero]
  rw [this]
  exact one_ne
 | n + 1, h => by
  rw [lam_pv]
  exact mul_ne (h n (by omega)) (lam_pv_ne X x n fun j hj => h j (by omega))
/-- The register over '1 + X k z', its value. -/
def pq (X : Nat → GF) (n k : Nat) (x : GF) : GF := pv (quo (lam X n) (X k)) x n
theorem quo_self (X : Nat → GF) (k : Nat) : ∀ m, quo (lam X (k + 1)) (X k) m = lam X k m
 | 0 => by rw [quo_zero, lam_zero, lam_zero]
 | m + 1 => by
  rw [quo_lam, quo_succ]
  rw [add_comm (X k * _), add_assoc, add_self, add_zero]
theorem pq_base (X : Nat → GF) (k : Nat) (x : GF) : pq X (k + 1) k x = pv (lam X k) x (k + 1) := pv_congr x _ fun i _ => quo_self X k i
theorem pq_step (X : Nat → GF) {n k : Nat} (h : k < n) (x : GF) : pq X (n + 1) k x = (1 + X n * x) * pq X n k x :=
 pv_step (f := quo (lam X n) (X k)) (by rw [quo_zero, quo_zero]; rfl) (fun i => quo_lam X n (X k) i) (quo_root X n k n h (Nat.le_refl _))
theorem pq_ne (X : Nat → GF) (k : Nat) (x : GF) : ∀ n, k < n → (∀ i, i < n → i ≠ k → 1 + X i * x ≠ 0) → pq X n k x ≠ 0
 | 0, h, _ => by omega
 | n + 1, h, hx => by
  by_cases e : k = n
  ·subst e
   rw [pq_base]
   exact lam_pv_ne X x k fun j hj => hx j (by omega) (by omega)
  ·rw [pq_step X (by omega)]
   exact mul_ne (hx n (by omega) (by omega)) (pq_ne X k x n (by omega) fun i hi hk => hx i (by omega) hk)
theorem pq_zero (X : Nat → GF) {j k : Nat} (x : GF) (hjk : j ≠ k) (hz : 1 + X k * x = 0) : ∀ n, j < n → k < n → pq X n j x = 0
 | 0, h, _ => by omega
 | n + 1, hj, hk => by
  by_cases e : j = n
  ·subst e
   rw [pq_base]
   exact lam_pv_zero X x j k (by omega) hz
  ·rw [pq_step X (by omega)]
   by_cases e2 : k = n
   ·rw [← e2, hz, zero_mul]
   ·rw [pq_zero X x hjk hz n (by omega) (by omega), mul_zero]
theorem pq_long (X : Nat → GF) {n k : Nat} (h : k < n) (x : GF) {N : Nat} (hN : n ≤ N) : pv (quo (lam X n) (X k)) x N = pq X n k x := by
 obtain ⟨d, rfl⟩ : ∃ d, N = n + d := ⟨N - n, by omega⟩
 exact pv_tail x (fun i hi => quo_root X n k i h hi) d
/-- The slope at a root. -/
theorem slope_root (X : Nat → GF) (n k : Nat) (x : GF) (h1 : X k * x = 1) : ∀ N, pv (fun i => if i % 2 = 0 then lam X n (i + 1) else 0) x (2 * N) = X k * pv (quo (lam X n) (X k)) x (2 * N)
 | 0 => by
  show (0 : GF) = X k * 0
  rw [mul_zero]
 | N + 1 => by
  rw [show 2 * (N + 1) = 2 * N + 1 + 1 by omega, pv_succ, pv_succ, pv_succ, pv_succ, slope_root X n k x h1 N, if_pos (by omega), if_neg (by omega), zero_mul, add_zero, mul_add, mul_add, add_assoc]
  congr 1
  have e : lam X n (2 * N + 1) = quo (lam X n) (X k) (2 * N + 1) + X k * quo (lam X n) (X k) (2 * N) := by
   rw [quo_succ, add_comm (X k * _), add_assoc, add_self, add_zero]
  rw [e, pow_succ, add_mul, add_comm]
  congr 1
  ·ac_rfl
  ·generalize quo (lam X n) (X k) (2 * N + 1) = q
   rw [show X k * (q * (x * pow x (2 * N))) = (X k * x) * (q * pow x (2 * N)) by ac_rfl, h1, one_mul]
/-- The evaluator at a root. -/
theorem omega_root (e X : Nat → GF) (n k : Nat) (x : GF) (hk : k < n) (hn : n ≤ 8) (hz : 1 + X k * x = 0) : pv (dsc (lam X n) (syn e X n)) x 8 = e k * pq X n k x := by
 have h1 : pv (dsc (lam X n) (syn e X n)) x 8 = sm (fun j => e j * pq X n j x) n := by
  have h2 : ∀ m, dsc (lam X n) (syn e X n) m * pow x m = sm (fun j => e j * (quo (lam X n) (X j) m * pow x m)) n := fun m => by
   rw [dsc_syn, mul_comm, ← sm_mul]
   exact sm_congr n fun j _ => by ac_rfl
  unfold pv
  rw [sm_congr 8 fun m _ => h2 m, sm_swap]
  refine sm_congr n fun j hj => ?_
  rw [sm_mul]
  congr 1
  exact pq_long X hj x hn
 rw [h1]
 exact sm_one n hk fun i hi hne => by rw [pq_zero X x hne hz n hi hk, mul_zero]
theorem lam_top (X : Nat → GF) : ∀ n, (∀ j, j < n → X j ≠ 0) → lam X n n ≠ 0
 | 0, _ => one_ne
 | n + 1, h => by
  show lam X n (n + 1) + X n * lam X n n ≠ 0
  rw [lam_big X n (n + 1) (by omega), zero_add]
  exact mul_ne (h n (by omega)) (lam_top X n fun j hj => h j (by omega))
/-- A sum over the places that count. -/
theorem sm_filter (p : Nat → Bool) (f : Nat → GF) : ∀ n, (∀ i, i < n → p i = false → f i = 0) → sm f n = sm (fun j => f (((List.range n).filter p).getD j 0)) ((List.range n).filter p).length
 | 0, _ => rfl
 | n + 1, h => by
  have ih := sm_filter p f n fun i hi => h i (by omega)
  show sm f n + f n = _
  rw [List.range_succ, List.filter_append]
  cases hp : p n with
  | true =>
   rw [List.filter_cons_of_pos hp, List.filter_nil, List.length_append, List.length_singleton]
   show _ = sm _ _ + _
   rw [ih]
   congr 1
   ·refine sm_congr _ fun i hi => ?_
    rw [List.getD_eq_getElem?_getD, List.getD_eq_getElem?_getD, List.getElem?_append_left hi]
   ·show f n = f (_)
    rw [List.getD_eq_getElem?_getD, List.getElem?_append_right (Nat.le_refl _), Nat.sub_self]
    rfl
  | false =>
   rw [List.filter_cons_of_neg (by rw [hp]; exact Bool.false_ne_true), List.filter_nil, List.append_nil, h n (by omega) hp, add_zero, ih]
end GF
open GF

theorem gf_pw_pow (a : Nat) : ∀ k, pow (gf (pw a)) k = gf (pw (a * k))
 | 0 => rfl
 | k + 1 => by
  rw [GF.pow_succ, gf_pw_pow a k, Nat.mul_succ, Nat.add_comm, pw_add, gf_mul (pw_lt _) (pw_lt _)]
theorem gf_hev {x : Nat} (hx : x < 256) : ∀ {p : List Nat} (N : Nat), Bytes p → p.length ≤ N → gf (hev x p) = pv (cG p) (gf x) N
 | [], N, _, _ => by
  have h := pv_tail (f := cG []) (gf x) (n := 0) (fun i _ => rfl) N
  rw [Nat.zero_add] at h
  rw [h]
  rfl
 | a :: p, 0, _, h => by simp at h
 | a :: p, N + 1, hb, h => by
  have hb' : Bytes p := fun b hb2 => hb b (List.mem_cons_of_mem _ hb2)
  have ih := gf_hev hx N hb' (by simpa using h)
  show gf (gmul (hev x p) x ^^^ a) = _
  rw [gf_add (gmul_lt _ (hev_lt hx hb')) (hb a List.mem_cons_self), gf_mul (hev_lt hx hb') hx, ih, pv_head, add_comm]
  rw [mul_comm]
  rfl
theorem gf_rvF {x : Nat} {f : Nat → Nat} (hx : x < 256) (hf : ∀ i, f i < 256) : ∀ n, gf (rvF x f n) = sm (fun i => gf (f i) * pow (gf x) (n - 1 - i)) n
 | 0 => rfl
 | n + 1 => by
  show gf (gmul (rvF x f n) x ^^^ f n) = sm _ n + gf (f n) * pow (gf x) (n + 1 - 1 - n)
  rw [gf_add (gmul_lt _ (rvF_lt hf n)) (hf n), gf_mul (rvF_lt hf n) hx, gf_rvF hx hf n, show n + 1 - 1 - n = 0 by omega, GF.pow_zero, mul_one, mul_comm, ← sm_mul]
  congr 1
  refine sm_congr n fun i hi => ?_
  rw [show n + 1 - 1 - i = n - 1 - i + 1 by omega, GF.pow_succ]
  ac_rfl
theorem cG_synd {w : List Nat} (hw : Bytes w) {k : Nat} (hk : k < 8) : cG (synd w) k = sm (fun i => cG w i * pow (gf (pw (w.length - 1 - i))) k) w.length := by
 unfold cG synd
 rw [cf_map, if_pos hk, wv_rvF, gf_rvF (pw_lt k) (cf_lt hw)]
 refine sm_congr _ fun i _ => ?_
 rw [gf_pw_pow, gf_pw_pow, Nat.mul_comm]
theorem cG_zero {i : Nat} : cG (List.replicate 8 0) i = 0 := by
 unfold cG cf
 rw [List.getElem?_replicate]
 split <;> rfl
/-- The locator and the value of a place. -/
def errE (w c : List Nat) (j : Nat) : GF := cG w ((differ w c).getD j 0) + cG c ((differ w c).getD j 0)
def errX (w c : List Nat) (j : Nat) : GF := gf (pw (w.length - 1 - (differ w c).getD j 0))
theorem differ_at {w c : List Nat} {j : Nat} (hj : j < (differ w c).length) : (differ w c).getD j 0 < w.length ∧ cf w ((differ w c).getD j 0) ≠ cf c ((differ w c).getD j 0) := by
 have h : (differ w c).getD j 0 ∈ differ w c := by
  rw [List.getD_eq_getElem?_getD, List.getElem?_eq_getElem hj]
  exact List.getElem_mem hj
 unfold differ at h
 rw [List.mem_filter] at h
 unfold differ
 exact ⟨List.mem_range.1 h.1, by simpa using h.2⟩
theorem differ_mem {w c : List Nat} {i : Nat} (hi : i < w.length) (h : cf w i ≠ cf c i) : ∃ j, j < (differ w c).length ∧ (differ w c).getD j 0 = i := by
 have hm : i ∈ differ w c := by
  unfold differ
  rw [List.mem_filter]
  exact ⟨List.mem_range.2 hi, by simpa using h⟩
 obtain ⟨j, hj, e⟩ := List.getElem_of_mem hm
 exact ⟨j, hj, by rw [List.getD_eq_getElem?_getD, List.getElem?_eq_getElem hj]; exact e⟩
theorem differ_sorted (w c : List Nat) : (differ w c).Pairwise (· < ·) := List.Pairwise.filter _ List.pairwise_lt_range
theorem differ_lt {w c : List Nat} {i j : Nat} (h : i < j) (hj : j < (differ w c).length) : (differ w c).getD i 0 < (differ w c).getD j 0 := by
 have := List.pairwise_iff_getElem.1 (differ_sorted w c) i j (by omega) hj h
 rw [List.getD_eq_getElem?_getD, List.getD_eq_getElem?_getD, List.getElem?_eq_getElem hj, List.getElem?_eq_getElem (by omega)]
 exact this
theorem gpw_inj {N i j : Nat} (hN : N ≤ 255) (hi : i < N) (hj : j < N) (h : gf (pw (N - 1 - i)) = gf (pw (N - 1 - j))) : i = j := by
 have h1 := gf_inj (pw_lt _) (pw_lt _) h
 have h2 := pw_inj (by omega) (by omega) h1
 omega
theorem errX_ne {w c : List Nat} (hN : w.length ≤ 255) : ∀ i j, i < j → j < (differ w c).length → errX w c i ≠ errX w c j := fun i j hij hj e => by
 have h1 := gpw_inj hN (differ_at (by omega)).1 (differ_at hj).1 e
 have h2 := differ_lt hij hj
 omega
theorem errE_ne {w c : List Nat} (hw : Bytes w) (hc : Bytes c) : ∀ j, j < (differ w c).length → errE w c j ≠ 0 := fun _ hj e =>
 (differ_at hj).2 (gf_inj (cf_lt hw _) (cf_lt hc _) (add_eq_zero e))
/-- The syndromes are those of the errors. -/
theorem synd_err {w c : List Nat} (hw : Bytes w) (hc : Bytes c) (hl : c.length = w.length) (h0 : synd c = List.replicate 8 0) {k : Nat} (hk : k < 8) : cG (synd w) k = syn (errE w c) (errX w c) (differ w c).length k := by
 have h1 := cG_synd hw hk
 have h2 := cG_synd hc hk
 rw [h0, cG_zero, hl] at h2
 have h3 : cG (synd w) k = sm (fun i => (cG w i + cG c i) * pow (gf (pw (w.length - 1 - i))) k) w.length := by
  rw [← add_zero (cG (synd w) k), h1]
  conv => lhs; rw [h2]
  rw [← sm_add]
  exact sm_congr _ fun i _ => by rw [add_mul]
 rw [h3]
 unfold syn
 rw [sm_filter (fun i => cf w i != cf c i) _ _ fun i _ hp => by
  have : cf w i = cf c i := by simpa using hp
  unfold cG
  rw [this, add_self, zero_mul]]
 rfl
theorem gf_cv {p q : List Nat} (hp : Bytes p) (hq : Bytes q) (m : Nat) : ∀ n, gf (cv p q n m) = sm (fun i => if i ≤ m then cG p i * cG q (m - i) else 0) n
 | 0 => rfl
 | n + 1 => by
  show gf (cv p q n m ^^^ _) = sm _ n + (if n ≤ m then cG p n * cG q (m - n) else 0)
  rw [gf_add (cv_lt hp n m) (by split; exact gmul_lt _ (cf_lt hp n); omega), gf_cv hp hq m n]
  congr 1
  split
  ·exact gf_mul (cf_lt hp n) (cf_lt hq _)
  ·rfl
theorem cG_omega {s l : List Nat} (hs : Bytes s) (hl : Bytes l) (h8 : s.length = 8) (m : Nat) : cG ((pmul s l).take 8) m = if m < 8 then dsc (cG l) (cG s) m else 0 := by
 unfold cG
 by_cases h : m < 8
 ·rw [if_pos h]
  have e : cf ((pmul s l).take 8) m = cf (pmul s l) m := by unfold cf; rw [List.getElem?_take, if_pos h]
  rw [e]
  unfold pmul
  rw [ptrim_cf]
  unfold pmulR
  rw [cf_map, if_pos (by omega), h8, gf_cv hs hl]
  obtain ⟨d, hd⟩ : ∃ d, 8 = m + 1 + d := ⟨8 - (m + 1), by omega⟩
  rw [hd, sm_split, sm_zero d fun i _ => by rw [if_neg (by omega)], add_zero]
  unfold dsc
  rw [sm_rev]
  refine sm_congr _ fun i hi => ?_
  rw [if_pos (by omega), show m - (m + 1 - 1 - i) = i by omega, show m + 1 - 1 - i = m - i by omega, mul_comm]
  rfl
 ·rw [if_neg h, cf_big (by rw [List.length_take]; omega)]
  rfl
theorem cG_der (l : List Nat) (i : Nat) : cG (pder l) i = if i % 2 = 0 then cG l (i + 1) else 0 := by
 unfold cG pder
 rw [ptrim_cf]
 unfold pderR
 rw [cf_map]
 by_cases h : i < l.length - 1
 ·rw [if_pos h]
  split <;> rfl
 ·rw [if_neg h, cf_big (by omega : l.length ≤ i + 1)]
  split <;> rfl
theorem xAt_inv {w : List Nat} {i : Nat} (hN : w.length ≤ 255) (hi : i < w.length) : gf (pw (w.length - 1 - i)) * gf (xAt w i) = 1 := by
 unfold xAt
 rw [← gf_mul (pw_lt _) (pw_lt _), ← pw_add]
 by_cases h : w.length - 1 - i = 0
 ·rw [h]
  rfl
 ·rw [Nat.mod_eq_of_lt (by omega), show w.length - 1 - i + (255 - (w.length - 1 - i)) = 255 by omega, pw_255]
  rfl
theorem xAt_lt (w : List Nat) (i : Nat) : xAt w i < 256 := pw_lt _

/-- What lies behind the first i places. -/
def mixL (c w : List Nat) (i : Nat) : List Nat := (List.range w.length).map fun j => if j < i then cf c j else cf w j
theorem list_cf {l : List Nat} : (List.range l.length).map (cf l) = l := by
 refine List.ext_getElem? fun i => ?_
 rw [List.getElem?_map]
 by_cases h : i < l.length
 ·rw [List.getElem?_range h, List.getElem?_eq_getElem h]
  show some (cf l i) = _
  rw [cf_get (List.getElem?_eq_getElem h)]
 ·rw [List.getElem?_eq_none (by simpa using h), List.getElem?_eq_none (by omega)]
  rfl
theorem cf_ext {a b : List Nat} (hl : a.length = b.length) (h : ∀ i, i < a.length → cf a i = cf b i) : a = b := by
 rw [← list_cf (l := a), ← list_cf (l := b), hl]
 exact List.map_congr_left fun i hi => h i (by rw [hl]; exact List.mem_range.1 hi)
theorem mix_len (c w : List Nat) (i : Nat) : (mixL c w i).length = w.length := by unfold mixL; rw [List.length_map, List.length_range]
theorem mix_cf (c w : List Nat) (i : Nat) {j : Nat} (hj : j < w.length) : cf (mixL c w i) j = if j < i then cf c j else cf w j := by unfold mixL; rw [cf_map, if_pos hj]
theorem mix_zero (c w : List Nat) : mixL c w 0 = w := cf_ext (mix_len c w 0) fun i hi => by rw [mix_len] at hi; rw [mix_cf c w 0 hi, if_neg (by omega)]
theorem mix_all {c w : List Nat} (hl : c.length = w.length) : mixL c w w.length = c := cf_ext (by rw [mix_len, hl]) fun i hi => by rw [mix_len] at hi; rw [mix_cf c w _ hi, if_pos hi]
theorem mix_same {c w : List Nat} {i : Nat} (h : cf w i = cf c i) : mixL c w (i + 1) = mixL c w i := cf_ext (by rw [mix_len, mix_len]) fun j hj => by
 rw [mix_len] at hj
 rw [mix_cf c w _ hj, mix_cf c w _ hj]
 by_cases e : j = i
 ·subst e
  rw [if_pos (by omega), if_neg (by omega), h]
 ·by_cases h1 : j < i
  ·rw [if_pos h1, if_pos (by omega)]
  ·rw [if_neg h1, if_neg (by omega)]
theorem mix_set {c w : List Nat} {i : Nat} (hi : i < w.length) : (mixL c w i).set i (cf c i) = mixL c w (i + 1) := cf_ext (by rw [List.length_set, mix_len, mix_len]) fun j hj => by
 rw [List.length_set, mix_len] at hj
 rw [cf_set _ _ _ _ (by rw [mix_len]; exact hi), mix_cf c w _ hj, mix_cf c w _ hj]
 by_cases e : i = j
 ·subst e
  rw [if_pos rfl, if_pos (by omega)]
 ·rw [if_neg e]
  by_cases h1 : j < i
  ·rw [if_pos h1, if_pos (by omega)]
  ·rw [if_neg h1, if_neg (by omega)]

section
variable {w c : List Nat} (hw : Bytes w) (hc : Bytes c) (hl : c.length = w.length) (hN : w.length ≤ 255) (h0 : synd c = List.replicate 8 0) (h4 : (differ w c).length ≤ 4)
include hw hc hl hN h0 h4
theorem loc_lam (i : Nat) : cG (locP (synd w)) i = lam (errX w c) (differ w c).length i :=
 bm_lam (synd_bytes hw) h4 (errX_ne hN) (errE_ne hw hc) (fun _ hk => synd_err hw hc hl h0 hk) i
theorem loc_len : (locP (synd w)).length = (differ w c).length + 1 := by
 have hg := loc_lam hw hc hl hN h0 h4
 have ht : lam (errX w c) (differ w c).length (differ w c).length ≠ 0 := lam_top _ _ fun _ _ => gf_ne (pw_lt _) (pw_ne_zero _)
 generalize (differ w c).length = n at *
 have h1 : n < (locP (synd w)).length := by
  rcases Nat.lt_or_ge n (locP (synd w)).length with h | h
  ·exact h
  ·exfalso
   apply ht
   rw [← hg n]
   unfold cG
   rw [cf_big h]
   rfl
 rcases Nat.lt_or_ge (n + 1) (locP (synd w)).length with h | h
 ·exfalso
  have h2 := ptrim_last (bmRun (synd w) 8).l (by show 0 < (locP (synd w)).length; omega)
  rw [← ptrim_cf] at h2
  have h3 : cG (locP (synd w)) ((locP (synd w)).length - 1) = 0 := by rw [hg, lam_big _ _ _ (by omega)]
  exact gf_ne (cf_lt (locP_bytes _) _) h2 h3
 ·omega
/-- A root of the locator is a place that differs. -/
theorem loc_root {i : Nat} (hi : i < w.length) : hev (xAt w i) (locP (synd w)) = 0 ↔ cf w i ≠ cf c i := by
 have hlen := loc_len hw hc hl hN h0 h4
 have e1 : gf (hev (xAt w i) (locP (synd w))) = pv (lam (errX w c) (differ w c).length) (gf (xAt w i)) ((differ w c).length + 1) := by
  rw [gf_hev (xAt_lt w i) _ (locP_bytes _) (Nat.le_of_eq hlen)]
  exact pv_congr _ _ fun j _ => loc_lam hw hc hl hN h0 h4 j
 have hinv := xAt_inv hN hi
 constructor
 ·intro h e
  rw [h] at e1
  refine lam_pv_ne (errX w c) (gf (xAt w i)) _ (fun j hj hz => ?_) e1.symm
  obtain ⟨d1, d2⟩ := differ_at hj
  have h1 := add_eq_zero hz
  have h2 := inv_of hinv h1.symm
  exact d2 (by rw [gpw_inj hN d1 hi h2]; exact e)
 ·intro h
  obtain ⟨j, hj, e⟩ := differ_mem hi h
  have hz : 1 + errX w c j * gf (xAt w i) = 0 := by
   unfold errX
   rw [e, hinv, add_self]
  rw [lam_pv_zero _ _ _ j hj hz] at e1
  exact gf_inj (hev_lt (xAt_lt w i) (locP_bytes _)) (by omega) e1
/-- Forney's value. -/
theorem loc_value {i : Nat} (hi : i < w.length) (h : cf w i ≠ cf c i) : hev (xAt w i) (pder (locP (synd w))) ≠ 0 ∧ gdv (gmul (pw (w.length - 1 - i)) (hev (xAt w i) ((pmul (synd w) (locP (synd w))).take 8))) (hev (xAt w i) (pder (locP (synd w)))) = cf w i ^^^ cf c i := by
 obtain ⟨j, hj, e⟩ := differ_mem hi h
 have hinv := xAt_inv hN hi
 have hX : errX w c j = gf (pw (w.length - 1 - i)) := by unfold errX; rw [e]
 have hz : 1 + errX w c j * gf (xAt w i) = 0 := by rw [hX, hinv, add_self]
 have hz1 : errX w c j * gf (xAt w i) = 1 := by rw [hX, hinv]
 have hg := loc_lam hw hc hl hN h0 h4
 have hlen := loc_len hw hc hl hN h0 h4
 have hne : pq (errX w c) (differ w c).length j (gf (xAt w i)) ≠ 0 := pq_ne _ _ _ _ hj fun k hk hkj hz2 => by
  have h2 := inv_of hz1 (add_eq_zero hz2).symm
  rcases Nat.lt_or_ge k j with h3 | h3
  ·exact errX_ne hN k j h3 hj h2
  ·exact errX_ne hN j k (by omega) hk h2.symm
 have hs : gf (hev (xAt w i) (pder (locP (synd w)))) = errX w c j * pq (errX w c) (differ w c).length j (gf (xAt w i)) := by
  rw [gf_hev (xAt_lt w i) (2 * 4) (pder_bytes (locP_bytes _)) (by have := pder_len (locP (synd w)); omega), pv_congr _ _ (g := fun i => if i % 2 = 0 then lam (errX w c) (differ w c).length (i + 1) else 0) fun k _ => by rw [cG_der, hg], slope_root _ _ _ _ hz1]
  congr 1
  exact pq_long _ hj _ (by omega)
 have ho : gf (hev (xAt w i) ((pmul (synd w) (locP (synd w))).take 8)) = errE w c j * pq (errX w c) (differ w c).length j (gf (xAt w i)) := by
  rw [gf_hev (xAt_lt w i) 8 (fun b hb => pmul_bytes (synd_bytes hw) b (List.mem_of_mem_take hb)) (by rw [List.length_take]; omega), pv_congr _ _ (g := dsc (lam (errX w c) (differ w c).length) (syn (errE w c) (errX w c) (differ w c).length)) fun k hk => ?_, omega_root _ _ _ _ _ hj (by omega) hz]
  rw [cG_omega (synd_bytes hw) (locP_bytes _) (synd_len w), if_pos hk]
  unfold dsc
  refine sm_congr _ fun m hm => ?_
  rw [hg, synd_err hw hc hl h0 (by omega)]
 have hsn : gf (hev (xAt w i) (pder (locP (synd w)))) ≠ 0 := by
  rw [hs]
  exact mul_ne (gf_ne (pw_lt _) (pw_ne_zero _)) hne
 have hsl := hev_lt (xAt_lt w i) (pder_bytes (locP_bytes (synd w)))
 have hol : hev (xAt w i) ((pmul (synd w) (locP (synd w))).take 8) < 256 := hev_lt (xAt_lt w i) fun b hb => pmul_bytes (synd_bytes hw) b (List.mem_of_mem_take hb)
 have hs0 : hev (xAt w i) (pder (locP (synd w))) ≠ 0 := fun e0 => hsn (by rw [e0]; rfl)
 refine ⟨hs0, gf_inj (gdv_lt (gmul_lt _ (pw_lt _))) (xor_lt (cf_lt hw i) (cf_lt hc i)) ?_⟩
 unfold gdv
 rw [if_neg hs0, gf_mul (gmul_lt _ (pw_lt _)) (ginv_lt hsl), gf_mul (pw_lt _) hol, gf_inv hsl, ho, ← hX, gf_add (cf_lt hw i) (cf_lt hc i)]
 rw [hs] at hsn ⊢
 have hE : errE w c j = gf (cf w i) + gf (cf c i) := by unfold errE cG; rw [e]
 rw [← hE]
 generalize errE w c j = E at *
 generalize pq (errX w c) (differ w c).length j (gf (xAt w i)) = q at *
 rw [show errX w c j * (E * q) = E * (errX w c j * q) by ac_rfl, mul_assoc, mul_inv hsn, mul_one]
theorem fix_all : ∀ i, i ≤ w.length → fixP (locP (synd w)) ((pmul (synd w) (locP (synd w))).take 8) (pder (locP (synd w))) w i = some (mixL c w i, ((List.range i).filter fun k => cf w k != cf c k).length)
 | 0, _ => by
  rw [mix_zero]
  rfl
 | i + 1, h => by
  have ih := fix_all i (by omega)
  have hr := loc_root hw hc hl hN h0 h4 (i := i) (by omega)
  rw [List.range_succ, List.filter_append, List.length_append]
  by_cases e : cf w i = cf c i
  ·rw [fixP_skip ih (fun hz => hr.1 hz e), mix_same e, List.filter_cons_of_neg (by simpa using e)]
   rfl
  ·obtain ⟨h1, h2⟩ := loc_value hw hc hl hN h0 h4 (i := i) (by omega) e
   have h3 : cf (mixL c w i) i = cf w i := by rw [mix_cf c w i (by omega), if_neg (by omega)]
   rw [fixP_fix ih (hr.2 e) h1, h2, h3, ← Nat.xor_assoc, Nat.xor_self, Nat.zero_xor, mix_set (by omega), List.filter_cons_of_pos (by simpa using e)]
   rfl
/-- The code word within four symbols is found. -/
theorem rs_complete : rsDec w = some (c, (differ w c).length) := by
 rw [rsDec_eq rfl rfl rfl, fix_all hw hc hl hN h0 h4 w.length (Nat.le_refl _), mix_all hl]
 unfold rsFin
 dsimp only
 rw [if_pos ⟨by rw [loc_len hw hc hl hN h0 h4]; rfl, h0, h4⟩]
end
/-- What is found is a code word within four symbols. -/
theorem rs_sound {w o : List Nat} {n : Nat} (hw : Bytes w) (h : rsDec w = some (o, n)) : o.length = w.length ∧ Bytes o ∧ synd o = List.replicate 8 0 ∧ (differ w o).length ≤ 4 ∧ n = (differ w o).length := by
 rw [rsDec_eq rfl rfl rfl] at h
 cases hf : fixP (locP (synd w)) ((pmul (synd w) (locP (synd w))).take 8) (pder (locP (synd w))) w w.length with
 | none => rw [hf] at h; cases h
 | some p =>
  obtain ⟨out, r⟩ := p
  rw [hf] at h
  unfold rsFin at h
  dsimp only at h
  split at h
  ·next hi =>
   cases h
   obtain ⟨k1, k2, _⟩ := fixP_ok hw _ hf
   exact ⟨k1, k2, hi.2.1, hi.2.2, rfl⟩
  ·cases h
end Go.Proofs.YtnlnmfkmbpihhaaGreatDoor

namespace Go.Proofs.YtnlnmfkmbpihhaaGreatDoor
open GF

def rowOf (rows : List (List Nat)) (j : Nat) : List Nat := (rows[j]?).getD []
/-- The first row from a on whose coefficient i is not zero. -/
def pivAt (rows : List (List Nat)) (i a : Nat) : Nat :=
 if a < rows.length then (if cf (rowOf rows a) i = 0 then pivAt rows i (a + 1) else a) else a
termination_by rows.length - a
def swapR (rows : List (List Nat)) (i a : Nat) : List (List Nat) := (rows.set i (rowOf rows a)).set a (rowOf rows i)
def scaleR (r : List Nat) (b : Nat) : List Nat := (List.range r.length).map fun k => gmul (cf r k) b
def elimR (c : Nat) (a b : List Nat) : List Nat := (List.range a.length).map fun k => cf a k ^^^ gmul c (cf b k)
def elimAll (R : List (List Nat)) (i : Nat) : Nat → List (List Nat)
 | 0 => R
 | j + 1 => if j = i ∨ cf (rowOf (elimAll R i j) j) i = 0 then elimAll R i j else (elimAll R i j).set j (elimR (cf (rowOf (elimAll R i j) j) i) (rowOf (elimAll R i j) j) (rowOf (elimAll R i j) i))
def scaled (R : List (List Nat)) (i : Nat) : List (List Nat) := R.set i (scaleR (rowOf R i) (ginv (cf (rowOf R i) i)))
def gStep (rows : List (List Nat)) (i : Nat) : Option (List (List Nat)) :=
 if pivAt rows i i < rows.length then some (elimAll (scaled (swapR rows i (pivAt rows i i)) i) i rows.length) else none
def gRun (rows : List (List Nat)) : Nat → Option (List (List Nat))
 | 0 => some rows
 | i + 1 => (gRun rows i).bind fun R => gStep R i
/-- Are the right sides zero from row i on? -/
def gRest (R : List (List Nat)) (n i : Nat) : Bool :=
 if i < R.length then (if cf (rowOf R i) n = 0 then gRest R n (i + 1) else false) else true
termination_by R.length - i
def gaussR (rows : List (List Nat)) (n : Nat) : Option (List Nat) :=
 match gRun rows n with
 | none => none
 | some R => if gRest R n n then some ((List.range n).map fun i => cf (rowOf R i) n) else none

theorem rowOf_set {R : List (List Nat)} {i : Nat} (hi : i < R.length) (r : List Nat) (j : Nat) : rowOf (R.set i r) j = if i = j then r else rowOf R j := by
 unfold rowOf
 rw [List.getElem?_set]
 by_cases e : i = j
 ·subst e
  rw [if_pos rfl, if_pos hi, if_pos rfl]
  rfl
 ·rw [if_neg e, if_neg e]
theorem rowOf_big {R : List (List Nat)} {j : Nat} (h : R.length ≤ j) : rowOf R j = [] := by unfold rowOf; rw [List.getElem?_eq_none h]; rfl
theorem pivAt_ok (rows : List (List Nat)) (i : Nat) : ∀ n a, rows.length - a = n → a ≤ pivAt rows i a ∧ (pivAt rows i a < rows.length → cf (rowOf rows (pivAt rows i a)) i ≠ 0) ∧ ∀ j, a ≤ j → j < pivAt rows i a → j < rows.length → cf (rowOf rows j) i = 0 := by
 intro n
 induction n with
 | zero =>
  intro a ha
  rw [pivAt, if_neg (by omega)]
  exact ⟨Nat.le_refl _, fun h => by omega, fun j h1 h2 => by omega⟩
 | succ n ih =>
  intro a ha
  rw [pivAt, if_pos (by omega)]
  by_cases h0 : cf (rowOf rows a) i = 0
  ·rw [if_pos h0]
   obtain ⟨k1, k2, k3⟩ := ih (a + 1) (by omega)
   refine ⟨by omega, k2, fun j h1 h2 h3 => ?_⟩
   by_cases e : a = j
   ·rw [← e]; exact h0
   ·exact k3 j (by omega) h2 h3
  ·rw [if_neg h0]
   exact ⟨Nat.le_refl _, fun _ => h0, fun j h1 h2 => by omega⟩
theorem gRest_true {R : List (List Nat)} {n : Nat} (h : ∀ j, n ≤ j → j < R.length → cf (rowOf R j) n = 0) : ∀ d i, R.length - i = d → n ≤ i → gRest R n i = true := by
 intro d
 induction d with
 | zero => intro i hi _; rw [gRest, if_neg (by omega)]
 | succ d ih =>
  intro i hi hn
  rw [gRest, if_pos (by omega), if_pos (h i hn (by omega))]
  exact ih (i + 1) (by omega) (by omega)

/-- A matrix of rows of n + 1 bytes. -/
structure Mat (R : List (List Nat)) (m n : Nat) : Prop where
 len : R.length = m
 row : ∀ j, j < m → (rowOf R j).length = n + 1 ∧ Bytes (rowOf R j)
theorem Mat.bytes {R : List (List Nat)} {m n : Nat} (h : Mat R m n) (j : Nat) : Bytes (rowOf R j) := by
 rcases Nat.lt_or_ge j m with h1 | h1
 ·exact (h.row j h1).2
 ·rw [rowOf_big (by rw [h.len]; exact h1)]
  intro b hb
  cases hb
theorem Mat.set {R : List (List Nat)} {m n : Nat} (h : Mat R m n) {i : Nat} (hi : i < m) {r : List Nat} (hr : r.length = n + 1) (hb : Bytes r) : Mat (R.set i r) m n :=
 ⟨by rw [List.length_set]; exact h.len, fun j hj => by
  rw [rowOf_set (by rw [h.len]; exact hi)]
  split
  ·exact ⟨hr, hb⟩
  ·exact h.row j hj⟩
theorem scaleR_len (r : List Nat) (b : Nat) : (scaleR r b).length = r.length := by unfold scaleR; rw [List.length_map, List.length_range]
theorem elimR_len (c : Nat) (a b : List Nat) : (elimR c a b).length = a.length := by unfold elimR; rw [List.length_map, List.length_range]
theorem scaleR_bytes {r : List Nat} {b : Nat} (h : Bytes r) : Bytes (scaleR r b) := bytes_map fun k _ => gmul_lt _ (cf_lt h k)
theorem elimR_bytes {c : Nat} {a b : List Nat} (hc : c < 256) (h : Bytes a) : Bytes (elimR c a b) := bytes_map fun k _ => xor_lt (cf_lt h k) (gmul_lt _ hc)
theorem cG_scale {r : List Nat} {b : Nat} (h : Bytes r) (hb : b < 256) (k : Nat) : cG (scaleR r b) k = gf b * cG r k := by
 unfold cG scaleR
 rw [cf_map]
 split
 ·rw [gf_mul (cf_lt h k) hb, mul_comm]
 ·rw [cf_big (p := r) (by omega)]
  exact (mul_zero _).symm
theorem cG_elim {c : Nat} {a b : List Nat} (hc : c < 256) (ha : Bytes a) (hb : Bytes b) (hl : b.length = a.length) (k : Nat) : cG (elimR c a b) k = cG a k + gf c * cG b k := by
 unfold cG elimR
 rw [cf_map]
 split
 ·rw [gf_add (cf_lt ha k) (gmul_lt _ hc), gf_mul hc (cf_lt hb k)]
 ·rw [cf_big (p := a) (by omega), cf_big (p := b) (by omega)]
  show (0 : GF) = 0 + gf c * 0
  rw [mul_zero, add_zero]
theorem Mat.swap {R : List (List Nat)} {m n : Nat} (h : Mat R m n) {i a : Nat} (hi : i < m) (ha : a < m) : Mat (swapR R i a) m n :=
 (h.set hi (h.row a ha).1 (h.row a ha).2).set ha (h.row i hi).1 (h.row i hi).2
theorem Mat.scaled {R : List (List Nat)} {m n : Nat} (h : Mat R m n) {i : Nat} (hi : i < m) : Mat (scaled R i) m n :=
 h.set hi (by rw [scaleR_len]; exact (h.row i hi).1) (scaleR_bytes (h.row i hi).2)
theorem Mat.elim {R : List (List Nat)} {m n : Nat} (h : Mat R m n) (i : Nat) : ∀ j, j ≤ m → Mat (elimAll R i j) m n
 | 0, _ => h
 | j + 1, hj => by
  have ih := h.elim i j (by omega)
  unfold elimAll
  split
  ·exact ih
  ·exact ih.set (by omega) (by rw [elimR_len]; exact (ih.row j (by omega)).1) (elimR_bytes (cf_lt (ih.bytes j) i) (ih.bytes j))
theorem Mat.step {R R' : List (List Nat)} {m n i : Nat} (h : Mat R m n) (hi : i < m) (hs : gStep R i = some R') : Mat R' m n := by
 unfold gStep at hs
 split at hs
 ·next hp =>
  rw [h.len] at hp hs
  cases hs
  exact ((h.swap hi hp).scaled hi).elim i m (Nat.le_refl _)
 ·cases hs
theorem Mat.run {R : List (List Nat)} {m n : Nat} (h : Mat R m n) : ∀ (i : Nat) {R' : List (List Nat)}, i ≤ m → gRun R i = some R' → Mat R' m n
 | 0, R', _, e => by cases e; exact h
 | i + 1, R', hi, e => by
  unfold gRun at e
  cases h1 : gRun R i with
  | none => rw [h1] at e; cases e
  | some R1 =>
   rw [h1] at e
   exact (h.run i (by omega) h1).step (by omega) e
theorem swap_row {R : List (List Nat)} {i a : Nat} (hi : i < R.length) (ha : a < R.length) (j : Nat) : rowOf (swapR R i a) j = if a = j then rowOf R i else if i = j then rowOf R a else rowOf R j := by
 unfold swapR
 rw [rowOf_set (by rw [List.length_set]; exact ha), rowOf_set hi]
/-- The rows behind the elimination of column i. -/
theorem elim_row {R : List (List Nat)} {m n i : Nat} (h : Mat R m n) (hi : i < m) : ∀ t, t ≤ m → ∀ j, j < m → ∀ k, cG (rowOf (elimAll R i t) j) k = if j < t ∧ j ≠ i then cG (rowOf R j) k + cG (rowOf R j) i * cG (rowOf R i) k else cG (rowOf R j) k
 | 0, _, j, _, k => by rw [if_neg (by omega)]; rfl
 | t + 1, ht, j, hj, k => by
  have ih := elim_row h hi t (by omega)
  have hm := h.elim i t (by omega)
  have ihi := ih i hi
  have iht := ih t (by omega)
  unfold elimAll
  by_cases e : t = i ∨ cf (rowOf (elimAll R i t) t) i = 0
  ·rw [if_pos e, ih j hj k]
   by_cases hjt : j = t
   ·subst hjt
    rw [if_neg (by omega)]
    rcases e with e | e
    ·rw [if_neg (fun h => h.2 e)]
    ·by_cases e2 : j = i
     ·rw [if_neg (fun h => h.2 e2)]
     ·rw [if_pos ⟨by omega, e2⟩]
      have h1 : cG (rowOf R j) i = 0 := by
       have := iht i
       rw [if_neg (by omega)] at this
       rw [← this]
       unfold cG
       rw [e]
       rfl
      rw [h1, zero_mul, add_zero]
   ·by_cases h1 : j < t ∧ j ≠ i
    ·rw [if_pos h1, if_pos ⟨by omega, h1.2⟩]
    ·rw [if_neg h1, if_neg (fun h => h1 ⟨by omega, h.2⟩)]
  ·rw [if_neg e, rowOf_set (by rw [hm.len]; omega)]
   by_cases hjt : t = j
   ·subst hjt
    rw [if_pos rfl, if_pos ⟨by omega, fun h => e (.inl h)⟩, cG_elim (cf_lt (hm.bytes t) i) (hm.bytes t) (hm.bytes i) (by rw [(hm.row i hi).1, (hm.row t (by omega)).1])]
    have h1 := iht k
    have h2 := iht i
    have h3 := ihi k
    rw [if_neg (by omega)] at h1 h2
    rw [if_neg (fun h => h.2 rfl)] at h3
    rw [h1, h3]
    congr 2
   ·rw [if_neg hjt, ih j hj k]
    by_cases h1 : j < t ∧ j ≠ i
    ·rw [if_pos h1, if_pos ⟨by omega, h1.2⟩]
    ·rw [if_neg h1, if_neg (fun h => h1 ⟨by omega, h.2⟩)]

/-- What a row says of a vector that ends in one. -/
def fv (y : Nat → GF) (n : Nat) (r : List Nat) : GF := sm (fun k => cG r k * y k) (n + 1)
theorem fv_lin {y : Nat → GF} {n : Nat} {r a b : List Nat} {c : GF} (h : ∀ k, cG r k = cG a k + c * cG b k) : fv y n r = fv y n a + c * fv y n b := by
 unfold fv
 rw [← sm_mul, ← sm_add]
 exact sm_congr _ fun k _ => by rw [h, add_mul, mul_assoc]
theorem fv_scale {y : Nat → GF} {n : Nat} {r a : List Nat} {c : GF} (h : ∀ k, cG r k = c * cG a k) : fv y n r = c * fv y n a := by
 unfold fv
 rw [← sm_mul]
 exact sm_congr _ fun k _ => by rw [h, mul_assoc]
/-- A system with one solution, its first i columns being unit vectors. -/
structure Sys (R : List (List Nat)) (m n : Nat) (x : Nat → GF) (i : Nat) : Prop where
 mat : Mat R m n
 one : x n = 1
 sol : ∀ j, j < m → fv x n (rowOf R j) = 0
 uni : ∀ y : Nat → GF, y n = 1 → (∀ j, j < m → fv y n (rowOf R j) = 0) → ∀ k, k < n → y k = x k
 unit : ∀ j, j < m → ∀ k, k < i → cG (rowOf R j) k = if j = k then 1 else 0
theorem Sys.pivot {R : List (List Nat)} {m n i : Nat} {x : Nat → GF} (h : Sys R m n x i) (hi : i < n) : pivAt R i i < m := by
 obtain ⟨_, _, k3⟩ := pivAt_ok R i _ i rfl
 rcases Nat.lt_or_ge (pivAt R i i) m with hp | hp
 ·exact hp
 ·exfalso
  have hz : ∀ j, i ≤ j → j < m → cG (rowOf R j) i = 0 := fun j h1 h2 => by
   unfold cG
   rw [k3 j h1 (by omega) (by rw [h.mat.len]; exact h2)]
   rfl
  obtain ⟨z, hzd⟩ : ∃ z : Nat → GF, z = fun k => if k < i then cG (rowOf R k) i else if k = i then 1 else 0 := ⟨_, rfl⟩
  have hu := h.uni (fun k => x k + z k) (by rw [hzd]; dsimp only; rw [if_neg (by omega), if_neg (by omega), add_zero, h.one]) (fun j hj => ?_) i hi
  ·rw [hzd] at hu
   dsimp only at hu
   rw [if_neg (by omega), if_pos rfl] at hu
   have h1 : x i + (x i + 1) = x i + x i := by rw [hu]
   rw [← add_assoc, add_self, zero_add] at h1
   exact one_ne h1
  ·have e1 : fv (fun k => x k + z k) n (rowOf R j) = fv x n (rowOf R j) + sm (fun k => cG (rowOf R j) k * z k) (n + 1) := by
    unfold fv
    rw [← sm_add]
    exact sm_congr _ fun k _ => by rw [mul_add]
   obtain ⟨d, hd⟩ : ∃ d, n + 1 = i + 1 + d := ⟨n - i, by omega⟩
   rw [e1, h.sol j hj, zero_add, hd, sm_split, sm_zero d fun k _ => by rw [hzd]; dsimp only; rw [if_neg (by omega), if_neg (by omega), mul_zero]]
   rw [add_zero]
   show sm _ i + cG (rowOf R j) i * z i = 0
   have ezi : z i = 1 := by rw [hzd]; dsimp only; rw [if_neg (by omega), if_pos rfl]
   have ezk : ∀ k, k < i → z k = cG (rowOf R k) i := fun k hk => by rw [hzd]; dsimp only; rw [if_pos hk]
   rw [ezi, mul_one]
   by_cases hji : j < i
   ·rw [sm_one i hji fun k hk hne => by rw [h.unit j hj k hk, if_neg (fun e => hne e.symm), zero_mul], h.unit j hj j hji, if_pos rfl, one_mul, ezk j hji, add_self]
   ·rw [sm_zero i fun k hk => by rw [h.unit j hj k hk, if_neg (by omega), zero_mul], hz j (by omega) hj, add_zero]
theorem Sys.swap {R : List (List Nat)} {m n i a : Nat} {x : Nat → GF} (h : Sys R m n x i) (hi : i < m) (ha : a < m) (hia : i ≤ a) : Sys (swapR R i a) m n x i := by
 have hr := swap_row (R := R) (i := i) (a := a) (by rw [h.mat.len]; exact hi) (by rw [h.mat.len]; exact ha)
 refine ⟨h.mat.swap hi ha, h.one, fun j hj => ?_, fun y hy hall => h.uni y hy fun j hj => ?_, fun j hj k hk => ?_⟩
 ·rw [hr]
  split
  ·exact h.sol i hi
  ·split
   ·exact h.sol a ha
   ·exact h.sol j hj
 ·by_cases e1 : j = a
  ·have h1 := hall i hi
   rw [hr] at h1
   by_cases e2 : a = i
   ·rw [if_pos e2] at h1
    rw [e1, e2]
    exact h1
   ·rw [if_neg e2, if_pos rfl] at h1
    rw [e1]
    exact h1
  ·by_cases e2 : j = i
   ·have h1 := hall a ha
    rw [hr, if_pos rfl] at h1
    rw [e2]
    exact h1
   ·have h1 := hall j hj
    rw [hr, if_neg (fun e => e1 e.symm), if_neg (fun e => e2 e.symm)] at h1
    exact h1
 ·rw [hr]
  split
  ·next e => rw [h.unit i hi k hk, if_neg (by omega), if_neg (by omega)]
  ·split
   ·next e => rw [h.unit a ha k hk, if_neg (by omega), if_neg (by omega)]
   ·exact h.unit j hj k hk
theorem Sys.scale {R : List (List Nat)} {m n i : Nat} {x : Nat → GF} (h : Sys R m n x i) (hi : i < m) (h0 : cf (rowOf R i) i ≠ 0) : Sys (scaled R i) m n x i ∧ cG (rowOf (scaled R i) i) i = 1 := by
 have hb := h.mat.bytes i
 have hl := ginv_lt (cf_lt hb i)
 have hr : ∀ j, rowOf (scaled R i) j = if i = j then scaleR (rowOf R i) (ginv (cf (rowOf R i) i)) else rowOf R j := fun j => rowOf_set (by rw [h.mat.len]; exact hi) _ j
 have hs := cG_scale hb hl
 have hinv : gf (ginv (cf (rowOf R i) i)) * cG (rowOf R i) i = 1 := by
  rw [gf_inv (cf_lt hb i), mul_comm]
  exact mul_inv (gf_ne (cf_lt hb i) h0)
 have hne : gf (ginv (cf (rowOf R i) i)) ≠ 0 := fun e => by rw [e, zero_mul] at hinv; exact one_ne hinv.symm
 refine ⟨⟨h.mat.scaled hi, h.one, fun j hj => ?_, fun y hy hall => h.uni y hy fun j hj => ?_, fun j hj k hk => ?_⟩, ?_⟩
 ·rw [hr]
  split
  ·rw [fv_scale hs, h.sol i hi, mul_zero]
  ·exact h.sol j hj
 ·have h1 := hall j hj
  rw [hr] at h1
  split at h1
  ·next e =>
   rw [fv_scale hs] at h1
   rw [← e]
   rcases mul_eq_zero h1 with h2 | h2
   ·exact absurd h2 hne
   ·exact h2
  ·exact h1
 ·rw [hr]
  split
  ·next e => rw [hs, h.unit i hi k hk, if_neg (by omega), if_neg (by omega), mul_zero]
  ·exact h.unit j hj k hk
 ·rw [hr, if_pos rfl, hs, hinv]
theorem Sys.elim {R : List (List Nat)} {m n i : Nat} {x : Nat → GF} (h : Sys R m n x i) (hi : i < m) (h1 : cG (rowOf R i) i = 1) : Sys (elimAll R i m) m n x (i + 1) := by
 have hr := fun j hj => elim_row h.mat hi m (Nat.le_refl _) j hj
 have hi0 : ∀ k, cG (rowOf (elimAll R i m) i) k = cG (rowOf R i) k := fun k => by rw [hr i hi, if_neg (fun h => h.2 rfl)]
 have hj0 : ∀ j, j < m → j ≠ i → ∀ k, cG (rowOf (elimAll R i m) j) k = cG (rowOf R j) k + cG (rowOf R j) i * cG (rowOf R i) k := fun j hj hne k => by rw [hr j hj, if_pos ⟨hj, hne⟩]
 have hfi : ∀ y, fv y n (rowOf (elimAll R i m) i) = fv y n (rowOf R i) := fun y => sm_congr _ fun k _ => by rw [hi0]
 refine ⟨h.mat.elim i m (Nat.le_refl _), h.one, fun j hj => ?_, fun y hy hall => h.uni y hy fun j hj => ?_, fun j hj k hk => ?_⟩
 ·by_cases e : j = i
  ·rw [e, hfi, h.sol i hi]
  ·rw [fv_lin (hj0 j hj e), h.sol j hj, h.sol i hi, mul_zero, add_zero]
 ·by_cases e : j = i
  ·rw [e, ← hfi]
   exact hall i hi
  ·have h2 := hall j hj
   have h3 := hall i hi
   rw [hfi] at h3
   rw [fv_lin (hj0 j hj e), h3, mul_zero, add_zero] at h2
   exact h2
 ·by_cases e : j = i
  ·rw [e, hi0]
   by_cases e2 : k = i
   ·rw [e2, h1, if_pos rfl]
   ·rw [h.unit i hi k (by omega)]
  ·rw [hj0 j hj e]
   by_cases e2 : k = i
   ·rw [e2, h1, mul_one, add_self, if_neg e]
   ·rw [h.unit j hj k (by omega), h.unit i hi k (by omega), if_neg (c := i = k) (fun e => e2 e.symm), mul_zero, add_zero]
theorem Sys.step {R : List (List Nat)} {m n i : Nat} {x : Nat → GF} (h : Sys R m n x i) (hi : i < n) (hm : n ≤ m) : ∃ R', gStep R i = some R' ∧ Sys R' m n x (i + 1) := by
 have hp := h.pivot hi
 obtain ⟨k1, k2, _⟩ := pivAt_ok R i _ i rfl
 refine ⟨_, by unfold gStep; rw [h.mat.len, if_pos hp], ?_⟩
 have h1 := h.swap (by omega) hp k1
 have h2 : cf (rowOf (swapR R i (pivAt R i i)) i) i ≠ 0 := by
  rw [swap_row (by rw [h.mat.len]; omega) (by rw [h.mat.len]; exact hp)]
  split
  ·next e =>
   have := k2 (by rw [h.mat.len]; exact hp)
   rwa [e] at this
  ·rw [if_pos rfl]
   exact k2 (by rw [h.mat.len]; exact hp)
 obtain ⟨h3, h4⟩ := h1.scale (by omega) h2
 exact h3.elim (by omega) h4
theorem Sys.run {R : List (List Nat)} {m n : Nat} {x : Nat → GF} (h : Sys R m n x 0) (hm : n ≤ m) : ∀ i, i ≤ n → ∃ R', gRun R i = some R' ∧ Sys R' m n x i
 | 0, _ => ⟨R, rfl, h⟩
 | i + 1, hi => by
  obtain ⟨R1, h1, h2⟩ := h.run hm i (by omega)
  obtain ⟨R2, h3, h4⟩ := h2.step (by omega) hm
  exact ⟨R2, by unfold gRun; rw [h1]; exact h3, h4⟩
/-- A system with one solution is solved. -/
theorem gauss_ok {R : List (List Nat)} {m n : Nat} {x : Nat → GF} (h : Sys R m n x 0) (hm : n ≤ m) : gaussR R n = some ((List.range n).map fun i => (x i).n) := by
 obtain ⟨R', h1, h2⟩ := h.run hm n (Nat.le_refl _)
 have hx : ∀ j, j < n → cG (rowOf R' j) n = x j := fun j hj => by
  have h3 := h2.sol j (by omega)
  unfold fv at h3
  change sm _ n + cG (rowOf R' j) n * x n = 0 at h3
  rw [sm_one n hj fun k hk hne => by rw [h2.unit j (by omega) k hk, if_neg (fun e => hne e.symm), zero_mul], h2.unit j (by omega) j hj, if_pos rfl, one_mul, h2.one, mul_one] at h3
  exact (add_eq_zero h3).symm
 have hz : ∀ j, n ≤ j → j < m → cf (rowOf R' j) n = 0 := fun j h3 h4 => by
  have h5 := h2.sol j h4
  unfold fv at h5
  change sm _ n + cG (rowOf R' j) n * x n = 0 at h5
  rw [sm_zero n fun k hk => by rw [h2.unit j h4 k hk, if_neg (by omega), zero_mul], zero_add, h2.one, mul_one] at h5
  exact gf_inj (cf_lt (h2.mat.bytes j) n) (by omega) h5
 unfold gaussR
 rw [h1]
 dsimp only
 rw [gRest_true (fun j h3 h4 => hz j h3 (by rw [← h2.mat.len]; exact h4)) _ n rfl (Nat.le_refl _), if_pos rfl]
 refine congrArg some (List.map_congr_left fun i hi => ?_)
 rw [← hx i (List.mem_range.1 hi)]
 exact (gf_n (cf_lt (h2.mat.bytes i) n)).symm
theorem gauss_len {R : List (List Nat)} {n : Nat} {y : List Nat} (h : gaussR R n = some y) : y.length = n := by
 unfold gaussR at h
 split at h
 ·cases h
 ·split at h
  ·cases h
   rw [List.length_map, List.length_range]
  ·cases h
end Go.Proofs.YtnlnmfkmbpihhaaGreatDoor

namespace Go.Proofs.YtnlnmfkmbpihhaaGreatDoor
open GF

theorem gf_xp {x : Nat} (hx : x < 256) : ∀ k, gf (xp x k) = pow (gf x) k
 | 0 => rfl
 | k + 1 => by
  show gf (gmul (xp x k) x) = gf x * pow (gf x) k
  rw [gf_mul (xp_lt hx k) hx, gf_xp hx k, mul_comm]
/-- The equations for a locator of e places. -/
def rowE (t : List Nat) (e j : Nat) : List Nat := (List.range (e + 1)).map fun k => if k < e then cf t (j - (k + 1)) else cf t j
def rowsE (t : List Nat) (e : Nat) : List (List Nat) := (List.range (8 - e)).map fun i => rowE t e (e + i)
def sumE (l : List Nat) (x : Nat) : Nat → Nat
 | 0 => 1
 | k + 1 => sumE l x k ^^^ gmul (cf l k) (xp x (k + 1))
def errsL (l : List Nat) (n e : Nat) : List Nat := (List.range n).filter fun i => sumE l (ginv (pw (n - 1 - i))) e == 0
def errsR (t : List Nat) (n e : Nat) : Option (List Nat) :=
 match gaussR (rowsE t e) e with
 | none => none
 | some l => if (errsL l n e).length = e then some (errsL l n e) else none
/-- The equations for the values. -/
def rowV (w at_ : List Nat) (j : Nat) : List Nat := (List.range (at_.length + 1)).map fun k => if k < at_.length then xp (pw (w.length - 1 - cf at_ k)) j else cf (synd w) j
def rowsV (w at_ : List Nat) : List (List Nat) := (List.range 8).map fun j => rowV w at_ j
def fixV (w at_ y : List Nat) : Nat → List Nat
 | 0 => w
 | k + 1 => (fixV w at_ y k).set (cf at_ k) (cf (fixV w at_ y k) (cf at_ k) ^^^ cf y k)
def valR (w at_ : List Nat) : Option (List Nat) :=
 match gaussR (rowsV w at_) at_.length with
 | none => none
 | some y => some (fixV w at_ y at_.length)
def refTry (w : List Nat) (e : Nat) : Option (List Nat) :=
 match errsR (synd w) w.length e with
 | none => none
 | some at_ => match valR w at_ with
  | none => none
  | some c => if synd c = List.replicate 8 0 then some c else none
def refGo (w : List Nat) : Nat → Nat → Option (List Nat × Nat)
 | 0, _ => none
 | k + 1, e => match refTry w e with
  | some c => some (c, (differ w c).length)
  | none => refGo w k (e + 1)

theorem rowOf_map (f : Nat → List Nat) (m j : Nat) : rowOf ((List.range m).map f) j = if j < m then f j else [] := by
 unfold rowOf
 rw [List.getElem?_map]
 split
 ·next h =>
  rw [List.getElem?_range h]
  rfl
 ·next h =>
  rw [List.getElem?_eq_none (by simpa using h)]
  rfl
theorem rowE_bytes {t : List Nat} (h : Bytes t) (e j : Nat) : Bytes (rowE t e j) := bytes_map fun k _ => by split <;> exact cf_lt h _
theorem rowV_bytes {w : List Nat} (hw : Bytes w) (at_ : List Nat) (j : Nat) : Bytes (rowV w at_ j) := bytes_map fun k _ => by
 split
 ·exact xp_lt (pw_lt _) j
 ·exact cf_lt (synd_bytes hw) _
theorem matE {t : List Nat} (h : Bytes t) (e : Nat) : Mat (rowsE t e) (8 - e) e :=
 ⟨by unfold rowsE; rw [List.length_map, List.length_range], fun j hj => by
  unfold rowsE
  rw [rowOf_map, if_pos hj]
  exact ⟨by unfold rowE; rw [List.length_map, List.length_range], rowE_bytes h _ _⟩⟩
theorem matV {w : List Nat} (h : Bytes w) (at_ : List Nat) : Mat (rowsV w at_) 8 at_.length :=
 ⟨by unfold rowsV; rw [List.length_map, List.length_range], fun j hj => by
  unfold rowsV
  rw [rowOf_map, if_pos hj]
  exact ⟨by unfold rowV; rw [List.length_map, List.length_range], rowV_bytes h _ _⟩⟩
theorem gauss_bytes {R : List (List Nat)} {m n : Nat} (h : Mat R m n) (hm : n ≤ m) {y : List Nat} (hy : gaussR R n = some y) : Bytes y := by
 unfold gaussR at hy
 cases h1 : gRun R n with
 | none => rw [h1] at hy; cases hy
 | some R' =>
  rw [h1] at hy
  dsimp only at hy
  split at hy
  ·cases hy
   have h2 := h.run n hm h1
   exact bytes_map fun i _ => cf_lt (h2.bytes i) n
  ·cases hy

/-! what is found is near -/
theorem filter_step (p q : Nat → Bool) (i : Nat) (h : ∀ j, j ≠ i → p j = q j) : ∀ n, ((List.range n).filter p).length ≤ ((List.range n).filter q).length + (if i < n then 1 else 0)
 | 0 => Nat.le_refl _
 | n + 1 => by
  have ih := filter_step p q i h n
  rw [List.range_succ, List.filter_append, List.filter_append, List.length_append, List.length_append]
  by_cases e : n = i
  ·subst e
   rw [if_neg (Nat.lt_irrefl _)] at ih
   rw [if_pos (Nat.lt_succ_self _)]
   have : (List.filter p [n]).length ≤ 1 := List.length_filter_le _ _
   omega
  ·have h1 := h n e
   have : (List.filter p [n]).length = (List.filter q [n]).length := by
    rw [List.filter_cons, List.filter_cons, h1]
    split <;> rfl
   by_cases h2 : i < n
   ·rw [if_pos h2] at ih
    rw [if_pos (by omega)]
    omega
   ·rw [if_neg h2] at ih
    rw [if_neg (by omega)]
    omega
theorem fixV_near (w at_ y : List Nat) (hw : Bytes w) (hy : Bytes y) (ha : ∀ k, k < at_.length → cf at_ k < w.length) : ∀ k, k ≤ at_.length → (fixV w at_ y k).length = w.length ∧ Bytes (fixV w at_ y k) ∧ (differ w (fixV w at_ y k)).length ≤ k
 | 0, _ => by
  refine ⟨rfl, hw, ?_⟩
  have : differ w w = [] := by
   unfold differ
   rw [List.filter_eq_nil_iff]
   intro a _
   simp
  show (differ w w).length ≤ 0
  rw [this]
  exact Nat.le_refl _
 | k + 1, hk => by
  obtain ⟨h1, h2, h3⟩ := fixV_near w at_ y hw hy ha k (by omega)
  have h4 := ha k (by omega)
  unfold fixV
  refine ⟨by rw [List.length_set]; exact h1, fun b hb => ?_, ?_⟩
  ·rcases List.mem_or_eq_of_mem_set hb with hb | rfl
   ·exact h2 b hb
   ·exact xor_lt (cf_lt h2 _) (cf_lt hy _)
  ·have := filter_step (fun i => cf w i != cf ((fixV w at_ y k).set (cf at_ k) (cf (fixV w at_ y k) (cf at_ k) ^^^ cf y k)) i) (fun i => cf w i != cf (fixV w at_ y k) i) (cf at_ k) (fun j hj => by rw [cf_set _ _ _ _ (by rw [h1]; exact h4), if_neg (fun e => hj e.symm)]) w.length
   unfold differ at h3 ⊢
   rw [if_pos h4] at this
   omega
theorem errs_lt {l : List Nat} {n e k : Nat} (h : k < (errsL l n e).length) : cf (errsL l n e) k < n := by
 have hm : cf (errsL l n e) k ∈ errsL l n e := by
  rw [cf_get (List.getElem?_eq_getElem h)]
  exact List.getElem_mem h
 unfold errsL at hm
 exact List.mem_range.1 (List.mem_filter.1 hm).1
theorem try_sound {w c : List Nat} {e : Nat} (hw : Bytes w) (he : e ≤ 8) (h : refTry w e = some c) : c.length = w.length ∧ Bytes c ∧ synd c = List.replicate 8 0 ∧ (differ w c).length ≤ e := by
 unfold refTry at h
 split at h
 ·cases h
 ·next at_ hA =>
  split at h
  ·cases h
  ·next c2 hV =>
   split at h
   ·next hs =>
    cases h
    have hat : at_.length = e ∧ ∀ k, k < at_.length → cf at_ k < w.length := by
     unfold errsR at hA
     split at hA
     ·cases hA
     ·split at hA
      ·next hl => cases hA; exact ⟨hl, fun k hk => errs_lt hk⟩
      ·cases hA
    unfold valR at hV
    split at hV
    ·cases hV
    ·next y hy =>
     cases hV
     have hyb := gauss_bytes (matV hw at_) (by omega) hy
     obtain ⟨k1, k2, k3⟩ := fixV_near w at_ y hw hyb hat.2 at_.length (Nat.le_refl _)
     exact ⟨k1, k2, hs, by omega⟩
   ·cases h

/-! what is near is found -/
theorem fv_rowE (t : List Nat) (e j : Nat) (y : Nat → GF) : fv y e (rowE t e j) = sm (fun k => cG t (j - (k + 1)) * y k) e + cG t j * y e := by
 unfold fv
 show sm _ e + cG (rowE t e j) e * y e = _
 have h : ∀ k, k < e + 1 → cG (rowE t e j) k = if k < e then cG t (j - (k + 1)) else cG t j := fun k hk => by
  unfold cG rowE
  rw [cf_map, if_pos hk]
  split <;> rfl
 rw [h e (by omega), if_neg (Nat.lt_irrefl _)]
 congr 1
 exact sm_congr e fun k hk => by rw [h k (by omega), if_pos hk]
theorem fv_rowV (w at_ : List Nat) (j : Nat) (y : Nat → GF) : fv y at_.length (rowV w at_ j) = sm (fun k => pow (gf (pw (w.length - 1 - cf at_ k))) j * y k) at_.length + cG (synd w) j * y at_.length := by
 unfold fv
 show sm _ at_.length + cG (rowV w at_ j) at_.length * y at_.length = _
 have h : ∀ k, k < at_.length + 1 → cG (rowV w at_ j) k = if k < at_.length then pow (gf (pw (w.length - 1 - cf at_ k))) j else cG (synd w) j := fun k hk => by
  unfold cG rowV
  rw [cf_map, if_pos hk]
  split
  ·exact gf_xp (pw_lt _) j
  ·rfl
 rw [h at_.length (by omega), if_neg (Nat.lt_irrefl _)]
 congr 1
 exact sm_congr _ fun k hk => by rw [h k (by omega), if_pos hk]
theorem cf_getD (l : List Nat) (k : Nat) : l.getD k 0 = cf l k := by unfold cf; rw [List.getD_eq_getElem?_getD]

section
variable {w c : List Nat} (hw : Bytes w) (hc : Bytes c) (hl : c.length = w.length) (hN : w.length ≤ 255) (h0 : synd c = List.replicate 8 0) (h4 : (differ w c).length ≤ 4)
include hw hc hl hN h0 h4
theorem sysE : Sys (rowsE (synd w) (differ w c).length) (8 - (differ w c).length) (differ w c).length (fun k => if k < (differ w c).length then lam (errX w c) (differ w c).length (k + 1) else 1) 0 := by
 have hS := fun k hk => synd_err hw hc hl h0 (k := k) hk
 have hX := errX_ne (w := w) (c := c) hN
 have hE := errE_ne hw hc
 generalize errX w c = X at *
 generalize errE w c = E at *
 generalize (differ w c).length = n at *
 have key : ∀ (y : Nat → GF) (cc : Nat → GF), y n = 1 → cc 0 = 1 → (∀ k, k < n → cc (k + 1) = y k) → (∀ i, n < i → cc i = 0) → ∀ i, i < 8 - n → fv y n (rowOf (rowsE (synd w) n) i) = dsc cc (syn E X n) (n + i) := by
  intro y cc hy hc0 hcs hcz i hi
  unfold rowsE
  rw [rowOf_map, if_pos hi, fv_rowE, hy, mul_one, dsc_short hcz (by omega), sm_head, hc0, one_mul, Nat.sub_zero, hS _ (by omega), add_comm]
  congr 1
  refine sm_congr n fun k hk => ?_
  rw [hS _ (by omega), hcs k hk, mul_comm]
 refine ⟨matE (synd_bytes hw) n, by rw [if_neg (Nat.lt_irrefl _)], fun j hj => ?_, fun y hy hall k hk => ?_, fun j hj k hk => by omega⟩
 ·rw [key _ (lam X n) (by rw [if_neg (Nat.lt_irrefl _)]) (lam_zero X n) (fun k hk => by rw [if_pos hk]) (lam_big X n) j hj]
  exact lam_gen E X n 8 (n + j) (by omega) (by omega)
 ·obtain ⟨cc, hcc⟩ : ∃ cc : Nat → GF, cc = fun i => if i = 0 then 1 else if i ≤ n then y (i - 1) else 0 := ⟨_, rfl⟩
  have c0 : cc 0 = 1 := by rw [hcc]; dsimp only; rw [if_pos rfl]
  have cs : ∀ k, k < n → cc (k + 1) = y k := fun k hk => by rw [hcc]; dsimp only; rw [if_neg (by omega), if_pos (by omega)]; rfl
  have cz : ∀ i, n < i → cc i = 0 := fun i hi => by rw [hcc]; dsimp only; rw [if_neg (by omega), if_neg (by omega)]
  have hg : Gen cc n (syn E X n) 8 := fun m h1 h2 => by
   have h3 := key y cc hy c0 cs cz (m - n) (by omega)
   rw [hall (m - n) (by omega), show n + (m - n) = m by omega] at h3
   exact h3.symm
  have hu := reg_unique hX hE (by omega) ⟨c0, cz⟩ (Nat.le_refl _) hg (k + 1)
  rw [cs k hk] at hu
  rw [if_pos hk]
  exact hu
omit hw hc hl h0 h4 in
theorem sumE_root {i : Nat} (hi : i < w.length) : (sumE ((List.range (differ w c).length).map fun k => (if k < (differ w c).length then lam (errX w c) (differ w c).length (k + 1) else 1).n) (ginv (pw (w.length - 1 - i))) (differ w c).length = 0) ↔ cf w i ≠ cf c i := by
 have hsm : ∀ k, k ≤ (differ w c).length → sumE ((List.range (differ w c).length).map fun k => (if k < (differ w c).length then lam (errX w c) (differ w c).length (k + 1) else 1).n) (ginv (pw (w.length - 1 - i))) k < 256 ∧ gf (sumE ((List.range (differ w c).length).map fun k => (if k < (differ w c).length then lam (errX w c) (differ w c).length (k + 1) else 1).n) (ginv (pw (w.length - 1 - i))) k) = pv (lam (errX w c) (differ w c).length) (GF.inv (gf (pw (w.length - 1 - i)))) (k + 1) := by
  have hx := ginv_lt (pw_lt (w.length - 1 - i))
  intro k
  induction k with
  | zero =>
   intro _
   refine ⟨(by decide : (1 : Nat) < 256), ?_⟩
   rw [pv_head, lam_zero]
   show (1 : GF) = 1 + _ * 0
   rw [mul_zero, add_zero]
  | succ k ih =>
   intro hk
   obtain ⟨i1, i2⟩ := ih (by omega)
   have e : cf ((List.range (differ w c).length).map fun k => (if k < (differ w c).length then lam (errX w c) (differ w c).length (k + 1) else 1).n) k = (lam (errX w c) (differ w c).length (k + 1)).n := by
    rw [cf_map, if_pos (by omega), if_pos (by omega)]
   unfold sumE
   rw [e]
   have hlt := (lam (errX w c) (differ w c).length (k + 1)).lt
   refine ⟨xor_lt i1 (gmul_lt _ hlt), ?_⟩
   rw [gf_add i1 (gmul_lt _ hlt), i2, gf_mul hlt (xp_lt hx _), gf_of, gf_xp hx, gf_inv (pw_lt _)]
   rfl
 obtain ⟨s1, s2⟩ := hsm _ (Nat.le_refl _)
 have hinv : gf (pw (w.length - 1 - i)) * GF.inv (gf (pw (w.length - 1 - i))) = 1 := mul_inv (gf_ne (pw_lt _) (pw_ne_zero _))
 constructor
 ·intro h e
  rw [h] at s2
  refine lam_pv_ne (errX w c) _ _ (fun j hj hz => ?_) s2.symm
  obtain ⟨d1, d2⟩ := differ_at hj
  have h2 := inv_of hinv (add_eq_zero hz).symm
  exact d2 (by rw [gpw_inj hN d1 hi h2]; exact e)
 ·intro h
  obtain ⟨j, hj, e⟩ := differ_mem hi h
  have hz : 1 + errX w c j * GF.inv (gf (pw (w.length - 1 - i))) = 0 := by
   unfold errX
   rw [e, hinv, add_self]
  rw [lam_pv_zero _ _ _ j hj hz] at s2
  exact gf_inj s1 (by omega) s2
theorem errs_complete : errsR (synd w) w.length (differ w c).length = some (differ w c) := by
 have h1 := gauss_ok (sysE hw hc hl hN h0 h4) (by omega)
 have h2 : errsL ((List.range (differ w c).length).map fun k => (if k < (differ w c).length then lam (errX w c) (differ w c).length (k + 1) else 1).n) w.length (differ w c).length = differ w c := by
  unfold errsL
  conv => rhs; unfold differ
  refine List.filter_congr fun i hi => ?_
  have h3 := sumE_root (c := c) hN (List.mem_range.1 hi)
  rw [Bool.eq_iff_iff, beq_iff_eq, bne_iff_ne]
  exact h3
 unfold errsR
 rw [h1]
 dsimp only
 rw [h2, if_pos rfl]
theorem sysV : Sys (rowsV w (differ w c)) 8 (differ w c).length (fun k => if k < (differ w c).length then errE w c k else 1) 0 := by
 have hS := fun k hk => synd_err hw hc hl h0 (k := k) hk
 have hX := errX_ne (w := w) (c := c) hN
 have key : ∀ (y : Nat → GF), y (differ w c).length = 1 → ∀ j, j < 8 → fv y (differ w c).length (rowOf (rowsV w (differ w c)) j) = sm (fun k => (y k + errE w c k) * pow (errX w c k) j) (differ w c).length := fun y hy j hj => by
  unfold rowsV
  rw [rowOf_map, if_pos hj, fv_rowV, hy, mul_one, hS j hj]
  unfold syn
  rw [← sm_add]
  refine sm_congr _ fun k _ => ?_
  have e : gf (pw (w.length - 1 - cf (differ w c) k)) = errX w c k := by unfold errX; rw [cf_getD]
  rw [e, add_mul, mul_comm]
 refine ⟨matV hw _, by rw [if_neg (Nat.lt_irrefl _)], fun j hj => ?_, fun y hy hall k hk => ?_, fun j hj k hk => by omega⟩
 ·rw [key _ (by rw [if_neg (Nat.lt_irrefl _)]) j hj]
  exact sm_zero _ fun k hk => by rw [if_pos hk, add_self, zero_mul]
 ·have h1 := vander (differ w c).length (fun k => y k + errE w c k) (errX w c) hX (fun j hj => by
   rw [← key y hy j (by omega)]
   exact hall j (by omega)) k hk
  rw [if_pos hk]
  exact add_eq_zero h1
omit hl hN h0 h4 in
theorem fixV_at (k : Nat) (hk : k ≤ (differ w c).length) : (fixV w (differ w c) ((List.range (differ w c).length).map fun k => (if k < (differ w c).length then errE w c k else 1).n) k).length = w.length ∧
  (∀ i, (∀ j, j < k → cf (differ w c) j ≠ i) → cf (fixV w (differ w c) ((List.range (differ w c).length).map fun k => (if k < (differ w c).length then errE w c k else 1).n) k) i = cf w i) ∧
  ∀ j, j < k → cf (fixV w (differ w c) ((List.range (differ w c).length).map fun k => (if k < (differ w c).length then errE w c k else 1).n) k) (cf (differ w c) j) = cf c (cf (differ w c) j) := by
 induction k with
 | zero => exact ⟨rfl, fun i _ => rfl, fun j hj => by omega⟩
 | succ k ih =>
  obtain ⟨i1, i2, i3⟩ := ih (by omega)
  have hd := differ_at (w := w) (c := c) (j := k) (by omega)
  rw [cf_getD] at hd
  have hne : ∀ j, j < k → cf (differ w c) j ≠ cf (differ w c) k := fun j hj e => by
   have := differ_lt (w := w) (c := c) hj (by omega)
   rw [cf_getD, cf_getD] at this
   omega
  have hv : cf ((List.range (differ w c).length).map fun k => (if k < (differ w c).length then errE w c k else 1).n) k = cf w (cf (differ w c) k) ^^^ cf c (cf (differ w c) k) := by
   rw [cf_map, if_pos (by omega), if_pos (by omega)]
   unfold errE cG
   rw [cf_getD, ← gf_add (cf_lt hw _) (cf_lt hc _), gf_n (xor_lt (cf_lt hw _) (cf_lt hc _))]
  unfold fixV
  rw [hv, i2 _ (fun j hj => hne j hj), ← Nat.xor_assoc, Nat.xor_self, Nat.zero_xor]
  refine ⟨by rw [List.length_set]; exact i1, fun i hi => ?_, fun j hj => ?_⟩
  ·rw [cf_set _ _ _ _ (by rw [i1]; exact hd.1), if_neg (hi k (by omega))]
   exact i2 i fun j hj => hi j (by omega)
  ·rw [cf_set _ _ _ _ (by rw [i1]; exact hd.1)]
   by_cases e : j = k
   ·subst e
    rw [if_pos rfl]
   ·rw [if_neg (fun e2 => hne j (by omega) e2.symm)]
    exact i3 j (by omega)
theorem val_complete : valR w (differ w c) = some c := by
 have h1 := gauss_ok (sysV hw hc hl hN h0 h4) (by omega)
 obtain ⟨k1, k2, k3⟩ := fixV_at hw hc _ (Nat.le_refl _)
 unfold valR
 rw [h1]
 dsimp only
 refine congrArg some (cf_ext (by rw [k1, hl]) fun i hi => ?_)
 rw [k1] at hi
 by_cases e : cf w i = cf c i
 ·rw [k2 i fun j hj e2 => ?_]
  ·exact e
  ·have := differ_at (w := w) (c := c) hj
   rw [cf_getD, e2] at this
   exact this.2 e
 ·obtain ⟨j, hj, e2⟩ := differ_mem hi e
  rw [cf_getD] at e2
  have := k3 j hj
  rw [e2] at this
  exact this
theorem try_complete : refTry w (differ w c).length = some c := by
 unfold refTry
 rw [errs_complete hw hc hl hN h0 h4]
 dsimp only
 rw [val_complete hw hc hl hN h0 h4]
 dsimp only
 rw [if_pos h0]
end
theorem refGo_some {w c : List Nat} {d : Nat} (hw : Bytes w) : ∀ k e, k + e = 5 → refGo w k e = some (c, d) → c.length = w.length ∧ Bytes c ∧ synd c = List.replicate 8 0 ∧ (differ w c).length ≤ 4 ∧ d = (differ w c).length
 | 0, _, _, h => by cases h
 | k + 1, e, hk, h => by
  unfold refGo at h
  split at h
  ·next c2 hc =>
   cases h
   obtain ⟨k1, k2, k3, k4⟩ := try_sound hw (by omega) hc
   exact ⟨k1, k2, k3, by omega, rfl⟩
  ·exact refGo_some hw k (e + 1) (by omega) h
theorem refGo_none {w : List Nat} : ∀ k e, refGo w k e = none → ∀ i, e ≤ i → i < e + k → refTry w i = none
 | 0, _, _, i, h1, h2 => by omega
 | k + 1, e, h, i, h1, h2 => by
  unfold refGo at h
  split at h
  ·cases h
  ·next hn =>
   by_cases he : i = e
   ·rw [he]; exact hn
   ·exact refGo_none k (e + 1) h i (by omega) (by omega)
/-- Both decoders agree. -/
theorem refDec_eq {w : List Nat} (hw : Bytes w) (hN : w.length ≤ 255) : refGo w 5 0 = rsDec w := by
 cases h : refGo w 5 0 with
 | some p =>
  obtain ⟨c, d⟩ := p
  obtain ⟨k1, k2, k3, k4, rfl⟩ := refGo_some hw 5 0 rfl h
  exact (rs_complete hw k2 k1 hN k3 k4).symm
 | none =>
  cases h2 : rsDec w with
  | none => rfl
  | some p =>
   obtain ⟨o, n⟩ := p
   obtain ⟨k1, k2, k3, k4, _⟩ := rs_sound hw h2
   have h3 := refGo_none 5 0 h (differ w o).length (Nat.zero_le _) (by omega)
   rw [try_complete hw k2 k1 hN k3 k4] at h3
   cases h3
end Go.Proofs.YtnlnmfkmbpihhaaGreatDoor
