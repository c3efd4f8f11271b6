/-
  Plain facts on numbers of 64 bits: how many bits are set, by masks and sums.
-/
import Derived.Test.YtaldkbdnefpklaaDoorCore
namespace Sg

def popW : Nat → Nat → Nat
  | 0, _ => 0
  | k + 1, x => x % 2 + popW k (x / 2)
/-- How many of the 64 lowest bits are set. -/
def pop (x : Nat) : Nat := popW 64 x

theorem popW_add (k m x : Nat) : popW (k + m) x = popW k x + popW m (x / 2 ^ k) := by
  induction k generalizing x with
  | zero => simp [popW]
  | succ k ih =>
    rw [show k + 1 + m = (k + m) + 1 by omega]
    simp only [popW]
    rw [ih, Nat.div_div_eq_div_mul, Nat.pow_succ']
    omega
theorem popW_mod (k x : Nat) : popW k (x % 2 ^ k) = popW k x := by
  induction k generalizing x with
  | zero => rfl
  | succ k ih =>
    simp only [popW]
    rw [← ih (x / 2), ← ih (x % 2 ^ (k + 1) / 2)]
    have h1 : x % 2 ^ (k + 1) % 2 = x % 2 := Nat.mod_mod_of_dvd _ (by rw [Nat.pow_succ]; exact Nat.dvd_mul_left 2 _)
    have h2 : x % 2 ^ (k + 1) / 2 % 2 ^ k = x / 2 % 2 ^ k := by
      rw [Nat.pow_succ, Nat.mul_comm, Nat.mod_mul_right_div_self]
      simp
    rw [h1, h2]
theorem popW_le (k x : Nat) : popW k x ≤ k := by
  induction k generalizing x with
  | zero => simp [popW]
  | succ k ih => simp only [popW]; have := ih (x / 2); omega

/-- A mask of k bytes c. -/
def maskB (c : Nat) : Nat → Nat
  | 0 => 0
  | k + 1 => c + 256 * maskB c k

theorem and_byte (a m A M : Nat) (ha : a < 256) (hm : m < 256) : (a + 256 * A) &&& (m + 256 * M) = (a &&& m) + 256 * (A &&& M) := by
  have h1 : a &&& m < 256 := Nat.lt_of_le_of_lt Nat.and_le_left ha
  apply Nat.eq_of_testBit_eq
  intro i
  have e : ∀ (a A : Nat), a < 256 → (a + 256 * A).testBit i = if i < 8 then a.testBit i else A.testBit (i - 8) := by
    intro a A ha
    rw [show 256 = 2 ^ 8 by rfl, Nat.add_comm, Nat.testBit_two_pow_mul_add A (by simpa using ha)]
  rw [Nat.testBit_and, e a A ha, e m M hm, e _ _ h1]
  split <;> simp [Nat.testBit_and]

def st1 (k x : Nat) : Nat := ((x / 2) &&& maskB 85 k) + (x &&& maskB 85 k)
def st2 (k x : Nat) : Nat := ((x / 4) &&& maskB 51 k) + (x &&& maskB 51 k)
def st3 (k x : Nat) : Nat := (x / 16 + x) &&& maskB 15 k

theorem d1 : ∀ b : Fin 256, ∀ y : Fin 2, (b.val / 2 + 128 * y.val) &&& 85 = (b.val / 2) &&& 85 := by decide +kernel
theorem d2 : ∀ b : Fin 256, ∀ y : Fin 4, (b.val / 4 + 64 * y.val) &&& 51 = (b.val / 4) &&& 51 := by decide +kernel
theorem st1_byte (k b y : Nat) (hb : b < 256) : st1 (k + 1) (b + 256 * y) = st1 1 b + 256 * st1 k y := by
  unfold st1
  have e1 : (b + 256 * y) / 2 = (b / 2 + 128 * (y % 2)) + 256 * (y / 2) := by omega
  have h := d1 ⟨b, hb⟩ ⟨y % 2, by omega⟩
  simp only [maskB, Nat.mul_zero, Nat.add_zero] at *
  rw [e1, and_byte _ 85 _ _ (by omega) (by omega), and_byte b 85 y _ hb (by omega), h]
  omega
theorem st2_byte (k b y : Nat) (hb : b < 256) : st2 (k + 1) (b + 256 * y) = st2 1 b + 256 * st2 k y := by
  unfold st2
  have e1 : (b + 256 * y) / 4 = (b / 4 + 64 * (y % 4)) + 256 * (y / 4) := by omega
  have h := d2 ⟨b, hb⟩ ⟨y % 4, by omega⟩
  simp only [maskB, Nat.mul_zero, Nat.add_zero] at *
  rw [e1, and_byte _ 51 _ _ (by omega) (by omega), and_byte b 51 y _ hb (by omega), h]
  omega
theorem d3 : ∀ b : Fin 256, ∀ y : Fin 5, (b.val % 16 ≤ 4 ∧ b.val / 16 ≤ 4) → (b.val / 16 + 16 * y.val + b.val) &&& 15 = (b.val / 16 + b.val) &&& 15 := by decide +kernel
theorem st3_byte (k b y : Nat) (hb : b < 256) (h1 : b % 16 ≤ 4) (h2 : b / 16 ≤ 4) (hy : y % 16 ≤ 4) : st3 (k + 1) (b + 256 * y) = st3 1 b + 256 * st3 k y := by
  unfold st3
  have e1 : (b + 256 * y) / 16 + (b + 256 * y) = (b / 16 + 16 * (y % 16) + b) + 256 * (y / 16 + y) := by omega
  have h := d3 ⟨b, hb⟩ ⟨y % 16, by omega⟩ ⟨h1, h2⟩
  simp only [maskB, Nat.mul_zero, Nat.add_zero] at *
  rw [e1, and_byte _ 15 _ _ (by omega) (by omega), h]
theorem d4 : ∀ b : Fin 256, st1 1 b.val < 256 ∧ st2 1 (st1 1 b.val) < 256 ∧ st2 1 (st1 1 b.val) % 16 ≤ 4 ∧ st2 1 (st1 1 b.val) / 16 ≤ 4 ∧ st3 1 (st2 1 (st1 1 b.val)) = popW 8 b.val := by decide +kernel

/-- The bytes' counts, one a byte. -/
def cnts : Nat → Nat → Nat
  | 0, _ => 0
  | k + 1, x => popW 8 (x % 256) + 256 * cnts k (x / 256)
theorem low_nibble (k x : Nat) : st2 k (st1 k x) % 16 ≤ 4 := by
  cases k with
  | zero => simp [st2, st1, maskB]
  | succ k =>
    have hx : x = x % 256 + 256 * (x / 256) := by omega
    have h := d4 ⟨x % 256, by omega⟩
    rw [hx, st1_byte _ _ _ (by omega), st2_byte _ _ _ h.1]
    have := h.2.2.1
    simp only at this
    omega
theorem stages (k x : Nat) : st3 k (st2 k (st1 k x)) = cnts k x := by
  induction k generalizing x with
  | zero => simp [st3, maskB, cnts]
  | succ k ih =>
    have hx : x = x % 256 + 256 * (x / 256) := by omega
    have h := d4 ⟨x % 256, by omega⟩
    conv => lhs; rw [hx]
    rw [st1_byte _ _ _ (by omega), st2_byte _ _ _ h.1, st3_byte _ _ _ h.2.1 h.2.2.1 h.2.2.2.1 (low_nibble k (x / 256)), ih, h.2.2.2.2]
    rfl

theorem sum8 (p0 p1 p2 p3 p4 p5 p6 p7 x y z u : Nat) (h0 : p0 ≤ 8) (h1 : p1 ≤ 8) (h2 : p2 ≤ 8) (h3 : p3 ≤ 8) (h4 : p4 ≤ 8) (h5 : p5 ≤ 8) (h6 : p6 ≤ 8) (h7 : p7 ≤ 8)
    (hx : x = p0 + 256 * (p1 + 256 * (p2 + 256 * (p3 + 256 * (p4 + 256 * (p5 + 256 * (p6 + 256 * p7)))))))
    (hy : y = x + x / 256) (hz : z = y + y / 65536) (hu : u = z + z / 4294967296) : u % 128 = p0 + p1 + p2 + p3 + p4 + p5 + p6 + p7 := by
  have e1 : x / 256 = p1 + 256 * (p2 + 256 * (p3 + 256 * (p4 + 256 * (p5 + 256 * (p6 + 256 * p7))))) := by omega
  have e2 : y = (p0 + p1) + 256 * ((p1 + p2) + 256 * ((p2 + p3) + 256 * ((p3 + p4) + 256 * ((p4 + p5) + 256 * ((p5 + p6) + 256 * ((p6 + p7) + 256 * p7)))))) := by omega
  have e3 : y / 65536 = (p2 + p3) + 256 * ((p3 + p4) + 256 * ((p4 + p5) + 256 * ((p5 + p6) + 256 * ((p6 + p7) + 256 * p7)))) := by omega
  clear hx e1
  have e4 : z = (p0 + p1 + p2 + p3) + 256 * ((p1 + p2 + p3 + p4) + 256 * ((p2 + p3 + p4 + p5) + 256 * ((p3 + p4 + p5 + p6) + 256 * ((p4 + p5 + p6 + p7) + 256 * ((p5 + p6 + p7) + 256 * ((p6 + p7) + 256 * p7)))))) := by omega
  clear hy e2 hz e3
  have e5 : z / 4294967296 = (p4 + p5 + p6 + p7) + 256 * ((p5 + p6 + p7) + 256 * ((p6 + p7) + 256 * p7)) := by omega
  omega
/-- What the sums make of it: no sum goes round. -/
theorem pop_sums (x a b c e f : Nat) (_hx : x < 18446744073709551616) (ha : a = st1 8 x) (hb : b = st2 8 a) (hc : c = st3 8 b) (he : e = c + c / 256) (hf : f = e + e / 65536) :
    (f + f / 4294967296) % 128 = pop x ∧ a < 18446744073709551616 ∧ b / 16 + b < 18446744073709551616 ∧ c ≤ 651069095498377736 ∧ e < 18446744073709551616 ∧ f + f / 4294967296 < 9223372036854775808 := by
  subst ha; subst hb
  rw [stages] at hc
  simp only [cnts, Nat.mul_zero, Nat.add_zero, Nat.div_div_eq_div_mul] at hc
  have g : ∀ y, popW 8 y ≤ 8 := popW_le 8
  have hpop : pop x = popW 8 (x % 256) + popW 8 (x / 256 % 256) + popW 8 (x / 65536 % 256) + popW 8 (x / 16777216 % 256) + popW 8 (x / 4294967296 % 256) + popW 8 (x / 1099511627776 % 256) + popW 8 (x / 281474976710656 % 256) + popW 8 (x / 72057594037927936 % 256) := by
    have m : ∀ y, popW 8 (y % 256) = popW 8 y := fun y => popW_mod 8 y
    rw [m, m, m, m, m, m, m, m]
    unfold pop
    rw [show 64 = 8 + 56 by rfl, popW_add, show 56 = 8 + 48 by rfl, popW_add, show 48 = 8 + 40 by rfl, popW_add, show 40 = 8 + 32 by rfl, popW_add, show 32 = 8 + 24 by rfl, popW_add, show 24 = 8 + 16 by rfl, popW_add, show 16 = 8 + 8 by rfl, popW_add]
    simp only [Nat.div_div_eq_div_mul, Nat.reducePow, Nat.reduceMul]
    omega
  have hs := sum8 _ _ _ _ _ _ _ _ c e f _ (g (x % 256)) (g (x / 256 % 256)) (g (x / 65536 % 256)) (g (x / 16777216 % 256)) (g (x / 4294967296 % 256)) (g (x / 1099511627776 % 256)) (g (x / 281474976710656 % 256)) (g (x / 72057594037927936 % 256)) hc he hf rfl
  have hm1 : maskB 85 8 = 6148914691236517205 := by decide
  have hm2 : maskB 51 8 = 3689348814741910323 := by decide
  have b1 : st1 8 x ≤ 12297829382473034410 := by
    unfold st1; rw [hm1]
    have h1 : (x / 2) &&& 6148914691236517205 ≤ 6148914691236517205 := Nat.and_le_right
    have h2 : x &&& 6148914691236517205 ≤ 6148914691236517205 := Nat.and_le_right
    omega
  have b2 : st2 8 (st1 8 x) ≤ 7378697629483820646 := by
    unfold st2; rw [hm2]
    have h1 : (st1 8 x / 4) &&& 3689348814741910323 ≤ 3689348814741910323 := Nat.and_le_right
    have h2 : st1 8 x &&& 3689348814741910323 ≤ 3689348814741910323 := Nat.and_le_right
    omega
  have g0 := g (x % 256); have g1 := g (x / 256 % 256); have g2 := g (x / 65536 % 256); have g3 := g (x / 16777216 % 256)
  have g4 := g (x / 4294967296 % 256); have g5 := g (x / 1099511627776 % 256); have g6 := g (x / 281474976710656 % 256); have g7 := g (x / 72057594037927936 % 256)
  generalize popW 8 (x % 256) = p0 at *
  generalize popW 8 (x / 256 % 256) = p1 at *
  generalize popW 8 (x / 65536 % 256) = p2 at *
  generalize popW 8 (x / 16777216 % 256) = p3 at *
  generalize popW 8 (x / 4294967296 % 256) = p4 at *
  generalize popW 8 (x / 1099511627776 % 256) = p5 at *
  generalize popW 8 (x / 281474976710656 % 256) = p6 at *
  generalize popW 8 (x / 72057594037927936 % 256) = p7 at *
  have hc' : c ≤ 578721382704613384 + 72347712793764352 := by omega
  refine ⟨by rw [hs, hpop], by omega, by omega, by omega, by omega, by omega⟩
end Sg
