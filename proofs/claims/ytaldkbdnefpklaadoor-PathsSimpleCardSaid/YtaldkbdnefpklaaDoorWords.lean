/-
  Plain facts on sets of small numbers as lists of words of 64 bits.
-/
import Derived.Test.YtaldkbdnefpklaaDoorPop
import Derived.Test.YtaldkbdnefpklaaDoorHeld
import Derived.Lib.TrailingZeros
namespace Sg
open Go

abbrev BV := BitVec 64
def mem (ws : List BV) (i : Nat) : Bool := (ws.getD (i / 64) 0).getLsbD (i % 64)
def addW (ws : List BV) (i : Nat) : List BV := ws.set (i / 64) (ws.getD (i / 64) 0 ||| BitVec.twoPow 64 (i % 64))
def dropW (ws : List BV) (i : Nat) : List BV := ws.set (i / 64) (ws.getD (i / 64) 0 &&& ~~~ BitVec.twoPow 64 (i % 64))
@[simp] theorem addW_length (ws : List BV) (i : Nat) : (addW ws i).length = ws.length := by simp [addW]
@[simp] theorem dropW_length (ws : List BV) (i : Nat) : (dropW ws i).length = ws.length := by simp [dropW]

theorem getD_set {ws : List BV} {i j : Nat} {x : BV} (hi : i < ws.length) : (ws.set i x).getD j 0 = if i = j then x else ws.getD j 0 := by
  simp only [List.getD_eq_getElem?_getD, List.getElem?_set]
  by_cases h : i = j
  · subst h; simp [hi]
  · simp [h]
theorem mem_addW (ws : List BV) (i j : Nat) (h : i / 64 < ws.length) : mem (addW ws i) j = (decide (j = i) || mem ws j) := by
  unfold mem addW
  rw [getD_set h]
  by_cases e : i / 64 = j / 64
  · rw [if_pos e, ← e, BitVec.getLsbD_or, BitVec.getLsbD_twoPow]
    have : (i % 64 = j % 64) ↔ j = i := by omega
    have hlt : i % 64 < 64 := by omega
    simp only [this, hlt, decide_true, Bool.true_and]
    rw [Bool.or_comm]
  · rw [if_neg e]
    have : ¬ j = i := fun h => e (by rw [h])
    simp [this]
theorem mem_dropW (ws : List BV) (i j : Nat) (h : i / 64 < ws.length) : mem (dropW ws i) j = (mem ws j && !decide (j = i)) := by
  unfold mem dropW
  rw [getD_set h]
  by_cases e : i / 64 = j / 64
  · rw [if_pos e, ← e, BitVec.getLsbD_and, BitVec.getLsbD_not, BitVec.getLsbD_twoPow]
    have : (i % 64 = j % 64) ↔ j = i := by omega
    have hlt : i % 64 < 64 := by omega
    have hlt' : j % 64 < 64 := by omega
    simp [this, hlt, hlt']
  · rw [if_neg e]
    have : ¬ j = i := fun h => e (by rw [h])
    simp [this]
theorem mem_out {ws : List BV} {i : Nat} (h : ws.length ≤ i / 64) : mem ws i = false := by
  unfold mem
  have : ws.getD (i / 64) 0 = 0 := by rw [List.getD_eq_getElem?_getD, List.getElem?_eq_none h]; rfl
  rw [this]; simp
theorem mem_replicate (m i : Nat) : mem (List.replicate m 0) i = false := by
  unfold mem
  have : (List.replicate m (0 : BV)).getD (i / 64) 0 = 0 := by
    rw [List.getD_eq_getElem?_getD, List.getElem?_replicate]; split <;> rfl
  rw [this]; simp
/-- Two lists of words of one length are alike where their members are. -/
theorem words_ext {ws vs : List BV} (hl : ws.length = vs.length) (h : ∀ i, mem ws i = mem vs i) : ws = vs := by
  apply List.ext_getElem hl
  intro i h1 h2
  apply BitVec.eq_of_getLsbD_eq
  intro j hj
  have := h (64 * i + j)
  unfold mem at this
  have e1 : (64 * i + j) / 64 = i := by omega
  have e2 : (64 * i + j) % 64 = j := by omega
  rw [e1, e2, List.getD_eq_getElem?_getD, List.getD_eq_getElem?_getD, List.getElem?_eq_getElem h1, List.getElem?_eq_getElem h2] at this
  exact this

/-! ### The model's bits -/
theorem ofInt_toNat (x : BV) : BitVec.ofInt 64 (x.toNat : Int) = x := by simp
theorem wrap_toNat (x : BV) : IntKind.u64.wrap (x.toNat : Int) = (x.toNat : Int) := wrap_u64_in (by omega) (by have := x.isLt; omega)
theorem bitop_or (x y : BV) : bitop .or .u64 (x.toNat : Int) (y.toNat : Int) = ((x ||| y).toNat : Int) := by
  show IntKind.u64.wrap ((BitVec.ofInt 64 (x.toNat : Int) ||| BitVec.ofInt 64 (y.toNat : Int)).toNat : Int) = _
  rw [ofInt_toNat, ofInt_toNat, wrap_toNat]
theorem bitop_and (x y : BV) : bitop .and .u64 (x.toNat : Int) (y.toNat : Int) = ((x &&& y).toNat : Int) := by
  show IntKind.u64.wrap ((BitVec.ofInt 64 (x.toNat : Int) &&& BitVec.ofInt 64 (y.toNat : Int)).toNat : Int) = _
  rw [ofInt_toNat, ofInt_toNat, wrap_toNat]
theorem bitop_andNot (x y : BV) : bitop .andNot .u64 (x.toNat : Int) (y.toNat : Int) = ((x &&& ~~~ y).toNat : Int) := by
  show IntKind.u64.wrap ((BitVec.ofInt 64 (x.toNat : Int) &&& ~~~ BitVec.ofInt 64 (y.toNat : Int)).toNat : Int) = _
  rw [ofInt_toNat, ofInt_toNat, wrap_toNat]
theorem shl_one (m : Nat) (h : m < 64) : IntKind.u64.wrap (1 * 2 ^ (min m 64)) = ((BitVec.twoPow 64 m).toNat : Int) := by
  have hp : (2 : Nat) ^ m < 2 ^ 64 := Nat.pow_lt_pow_right (by omega) h
  rw [Nat.min_eq_left (by omega), BitVec.toNat_twoPow, Nat.mod_eq_of_lt hp, Int.one_mul]
  rw [wrap_u64_in]
  · simp
  · exact Int.le_of_lt (Int.pow_pos (by omega))
  · have : ((2 ^ m : Nat) : Int) < ((2 ^ 64 : Nat) : Int) := by exact_mod_cast hp
    simpa using this
theorem and_two (x : BV) (m : Nat) (h : m < 64) : ((x &&& BitVec.twoPow 64 m).toNat : Int) ≠ 0 ↔ x.getLsbD m = true := by
  constructor
  · intro h1
    by_cases hb : x.getLsbD m = true
    · exact hb
    · exfalso; apply h1
      have : x &&& BitVec.twoPow 64 m = 0 := by
        apply BitVec.eq_of_getLsbD_eq
        intro i hi
        rw [BitVec.getLsbD_and, BitVec.getLsbD_twoPow]
        by_cases e : m = i
        · subst e; simp at hb; simp [hb]
        · simp [e]
      rw [this]; rfl
  · intro hb h1
    have h2 : x &&& BitVec.twoPow 64 m = 0 := BitVec.eq_of_toNat_eq (by simpa using h1)
    have h3 := congrArg (fun b => b.getLsbD m) h2
    simp only [BitVec.getLsbD_and, BitVec.getLsbD_twoPow, hb, h, decide_true, Bool.and_true] at h3
    simp at h3

/-! ### Counting -/
theorem popW_bits (k x : Nat) : popW k x = ((List.range k).filter (fun i => x.testBit i)).length := by
  induction k generalizing x with
  | zero => rfl
  | succ k ih =>
    rw [List.range_succ_eq_map, List.filter_cons]
    simp only [popW, ih]
    have hm : ((List.range k).map Nat.succ).filter (fun i => x.testBit i) = ((List.range k).filter (fun i => (x / 2).testBit i)).map Nat.succ := by
      rw [List.filter_map]; congr 1
      apply List.filter_congr; intro i _
      simp [Function.comp, Nat.testBit_succ]
    have h0 : x.testBit 0 = decide (x % 2 = 1) := by simp [Nat.testBit_zero]
    rw [hm, h0]
    by_cases h : x % 2 = 1
    · simp [h]; omega
    · have : x % 2 = 0 := by omega
      simp [this]
def total (ws : List BV) : Nat := (ws.map fun x => pop x.toNat).sum
theorem total_cons (x : BV) (ws : List BV) : total (x :: ws) = pop x.toNat + total ws := by simp [total]
theorem total_take (ws : List BV) (k : Nat) (h : k < ws.length) : total (ws.take (k + 1)) = total (ws.take k) + pop (ws.getD k 0).toNat := by
  rw [List.take_succ_eq_append_getElem h]
  simp only [total, List.map_append, List.sum_append, List.map_cons, List.map_nil, List.sum_cons, List.sum_nil, Nat.add_zero, List.getD_eq_getElem?_getD, List.getElem?_eq_getElem h, Option.getD_some]
theorem mem_cons_lt (x : BV) (ws : List BV) (i : Nat) (h : i < 64) : mem (x :: ws) i = x.getLsbD i := by
  unfold mem
  rw [show i / 64 = 0 by omega, show i % 64 = i by omega]
  rfl
theorem mem_cons_ge (x : BV) (ws : List BV) (i : Nat) : mem (x :: ws) (64 + i) = mem ws i := by
  unfold mem
  rw [show (64 + i) / 64 = i / 64 + 1 by omega, show (64 + i) % 64 = i % 64 by omega]
  rfl
/-- The members, rising. -/
def els (ws : List BV) (m : Nat) : List Nat := (List.range m).filter (mem ws)
theorem total_eq (ws : List BV) : total ws = (els ws (64 * ws.length)).length := by
  induction ws with
  | nil => rfl
  | cons x ws ih =>
    rw [total_cons, ih]
    unfold els
    rw [show 64 * (x :: ws).length = 64 + 64 * ws.length by simp; omega, List.range_add, List.filter_append, List.length_append]
    have h1 : pop x.toNat = ((List.range 64).filter (mem (x :: ws))).length := by
      unfold pop
      rw [popW_bits]
      refine congrArg List.length (List.filter_congr ?_)
      intro i hi
      rw [mem_cons_lt x ws i (by simpa using hi), BitVec.getLsbD]
    rw [h1]
    refine congrArg _ ?_
    · rw [List.filter_map, List.length_map]
      refine congrArg List.length (List.filter_congr ?_)
      intro i _
      exact (mem_cons_ge x ws i).symm
theorem filter_range_le {p : Nat → Bool} {n m : Nat} (h : n ≤ m) (hp : ∀ i, n ≤ i → p i = false) : (List.range m).filter p = (List.range n).filter p := by
  obtain ⟨k, rfl⟩ := Nat.exists_eq_add_of_le h
  rw [List.range_add, List.filter_append]
  have : ((List.range k).map (n + ·)).filter p = [] := by
    rw [List.filter_eq_nil_iff]
    intro a ha
    obtain ⟨b, _, rfl⟩ := List.mem_map.1 ha
    rw [hp _ (by omega)]; simp
  rw [this, List.append_nil]
theorem filter_range_lt {p : Nat → Bool} {i j : Nat} (h : i ≤ j) (hp : ∀ m, m < j → i ≤ m → p m = false) : (List.range j).filter p = (List.range i).filter p := by
  obtain ⟨k, rfl⟩ := Nat.exists_eq_add_of_le h
  rw [List.range_add, List.filter_append]
  have : ((List.range k).map (i + ·)).filter p = [] := by
    rw [List.filter_eq_nil_iff]
    intro a ha
    obtain ⟨b, hb, rfl⟩ := List.mem_map.1 ha
    have := List.mem_range.1 hb
    rw [hp _ (by omega) (by omega)]; simp
  rw [this, List.append_nil]
theorem total_clean {ws : List BV} {n : Nat} (hl : n ≤ 64 * ws.length) (hc : ∀ i, n ≤ i → mem ws i = false) : total ws = (els ws n).length := by
  rw [total_eq]; unfold els; rw [filter_range_le hl hc]

/-! ### The lowest bit of a word -/
theorem lowest (x : BV) (h : x ≠ 0) : ∃ k, k < 64 ∧ x.getLsbD k = true ∧ (∀ i, i < k → x.getLsbD i = false) ∧ x.toNat &&& (2 ^ 64 - x.toNat) = 2 ^ k := by
  have h0 : x.toNat ≠ 0 := fun e => h (BitVec.eq_of_toNat_eq (by simpa using e))
  obtain ⟨h1, h2⟩ := Lib.lowest_bit 64 x.toNat h0 x.isLt
  refine ⟨Lib.ctz 64 x.toNat, h2, ?_, ?_, h1⟩
  · have := congrArg (fun y => y.testBit (Lib.ctz 64 x.toNat)) h1
    simp only [Nat.testBit_and, Nat.testBit_two_pow_self, Bool.and_eq_true] at this
    exact this.1
  · intro i hi
    generalize Lib.ctz 64 x.toNat = k at *
    by_cases hb : x.getLsbD i = true
    · exfalso
      -- the least set bit's place
      have key : ∀ m, m < 64 → x.toNat.testBit m = true → (∀ j, j < m → x.toNat.testBit j = false) → (x.toNat &&& (2 ^ 64 - x.toNat)).testBit m = true := by
        intro m hm hbm hlow
        rw [Nat.testBit_and, hbm, Bool.true_and]
        have hdvd : x.toNat % 2 ^ m = 0 := by
          apply Nat.eq_of_testBit_eq
          intro j
          rw [Nat.testBit_mod_two_pow, Nat.zero_testBit]
          by_cases hj : j < m
          · simp [hj, hlow j hj]
          · simp [hj]
        have hodd : x.toNat / 2 ^ m % 2 = 1 := by
          rw [Nat.testBit_eq_decide_div_mod_eq] at hbm
          simpa using hbm
        rw [Nat.testBit_eq_decide_div_mod_eq]
        have hlt := x.isLt
        obtain ⟨q, hq⟩ : ∃ q, x.toNat = 2 ^ m * q := ⟨x.toNat / 2 ^ m, by have := Nat.div_add_mod x.toNat (2 ^ m); omega⟩
        have hpos : 0 < 2 ^ m := Nat.pow_pos (by omega)
        have hq' : x.toNat / 2 ^ m = q := by rw [hq]; exact Nat.mul_div_cancel_left q hpos
        have h64 : (2 : Nat) ^ 64 = 2 ^ m * 2 ^ (64 - m) := by rw [← Nat.pow_add]; congr 1; omega
        have hsub : 2 ^ 64 - x.toNat = 2 ^ m * (2 ^ (64 - m) - q) := by rw [h64, hq, Nat.mul_sub]
        rw [hsub, Nat.mul_div_cancel_left _ hpos]
        rw [hq'] at hodd
        have hqlt : q < 2 ^ (64 - m) := by
          rw [h64, hq] at hlt
          exact Nat.lt_of_mul_lt_mul_left hlt
        have heven : 2 ^ (64 - m) % 2 = 0 := by
          obtain ⟨r, hr⟩ : ∃ r, 64 - m = r + 1 := ⟨63 - m, by omega⟩
          rw [hr, Nat.pow_succ]; omega
        have : (2 ^ (64 - m) - q) % 2 = 1 := by omega
        simp [this]
      -- take the least set bit
      have hex : ∃ m, m ≤ i ∧ x.toNat.testBit m = true ∧ ∀ j, j < m → x.toNat.testBit j = false := by
        have : ∀ i, x.toNat.testBit i = true → ∃ m, m ≤ i ∧ x.toNat.testBit m = true ∧ ∀ j, j < m → x.toNat.testBit j = false := by
          intro i
          induction i using Nat.strongRecOn with
          | _ i ih =>
            intro hb
            by_cases hall : ∀ j, j < i → x.toNat.testBit j = false
            · exact ⟨i, Nat.le_refl _, hb, hall⟩
            · obtain ⟨j, hj⟩ := Classical.not_forall.1 hall
              obtain ⟨hj1, hj2⟩ := Classical.not_imp.1 hj
              obtain ⟨m, hm, h1, h2⟩ := ih j hj1 (by simpa using hj2)
              exact ⟨m, by omega, h1, h2⟩
        exact this i hb
      obtain ⟨m, hm, hbm, hlow⟩ := hex
      have h3 := key m (by omega) hbm hlow
      rw [h1, Nat.testBit_two_pow] at h3
      simp at h3
      omega
    · simpa using hb

/-! ### The text of OnesCount64, as the walk spells it -/
abbrev uSh (a k : Int) : Int := a.fdiv (2 ^ (min k.toNat IntKind.u64.bits))
abbrev uAnd (a c : Int) : Int := bitop .and .u64 a c
abbrev uAdd (a c : Int) : Int := IntKind.u64.wrap (a + c)
theorem uSh_nat (a k : Nat) (hk : k ≤ 64) : uSh (a : Int) (k : Int) = ((a / 2 ^ k : Nat) : Int) := by
  unfold uSh
  have : min ((k : Int).toNat) IntKind.u64.bits = k := by simp [IntKind.bits]; omega
  rw [this, Int.fdiv_eq_ediv_of_nonneg _ (by exact Int.le_of_lt (Int.pow_pos (by omega)))]
  simp
theorem uAnd_nat (a c : Nat) (ha : a < 18446744073709551616) (hc : c < 18446744073709551616) : uAnd (a : Int) (c : Int) = ((a &&& c : Nat) : Int) := by
  have h1 : ((BitVec.ofNat 64 a).toNat : Int) = a := by rw [BitVec.toNat_ofNat, Nat.mod_eq_of_lt ha]
  have h2 : ((BitVec.ofNat 64 c).toNat : Int) = c := by rw [BitVec.toNat_ofNat, Nat.mod_eq_of_lt hc]
  have := bitop_and (BitVec.ofNat 64 a) (BitVec.ofNat 64 c)
  rw [h1, h2] at this
  unfold uAnd
  rw [this, BitVec.toNat_and, BitVec.toNat_ofNat, BitVec.toNat_ofNat, Nat.mod_eq_of_lt ha, Nat.mod_eq_of_lt hc]
theorem uAdd_nat (a c : Nat) (h : a + c < 18446744073709551616) : uAdd (a : Int) (c : Int) = ((a + c : Nat) : Int) := by
  unfold uAdd; rw [wrap_u64_in (by omega) (by omega)]; simp
theorem and127 (a : Nat) (h : a < 9223372036854775808) : bitop .and .i64 (a : Int) 127 = ((a % 128 : Nat) : Int) := by
  show IntKind.i64.wrap ((BitVec.ofInt 64 (a : Int) &&& BitVec.ofInt 64 127).toNat : Int) = _
  have h1 : BitVec.ofInt 64 (a : Int) = BitVec.ofNat 64 a := by simp
  have h2 : BitVec.ofInt 64 127 = BitVec.ofNat 64 127 := by rfl
  rw [h1, h2, BitVec.toNat_and, BitVec.toNat_ofNat, BitVec.toNat_ofNat, Nat.mod_eq_of_lt (by omega), show 127 % 2 ^ 64 = 2 ^ 7 - 1 by rfl, Nat.and_two_pow_sub_one_eq_mod]
  rw [wrap_i64 (by omega) (by omega)]
theorem ones_pure (x : Nat) (hx : x < 18446744073709551616) (x1 x2 x3 x4 x5 x6 : Int)
    (h1 : x1 = uAdd (uAnd (uSh x 1) 6148914691236517205) (uAnd x 6148914691236517205))
    (h2 : x2 = uAdd (uAnd (uSh x1 2) 3689348814741910323) (uAnd x1 3689348814741910323))
    (h3 : x3 = uAnd (uAdd (uSh x2 4) x2) 1085102592571150095)
    (h4 : x4 = uAdd x3 (uSh x3 8)) (h5 : x5 = uAdd x4 (uSh x4 16)) (h6 : x6 = uAdd x5 (uSh x5 32)) :
    bitop .and .i64 (IntKind.i64.wrap x6) 127 = (pop x : Int) := by
  obtain ⟨r, ba, bb, bc, be, bf⟩ := pop_sums x _ _ _ _ _ hx rfl rfl rfl rfl rfl
  generalize ha : st1 8 x = a at *
  generalize hb : st2 8 a = b at *
  generalize hc : st3 8 b = c at *
  have m1 : maskB 85 8 = 6148914691236517205 := by decide
  have m2 : maskB 51 8 = 3689348814741910323 := by decide
  have m3 : maskB 15 8 = 1085102592571150095 := by decide
  have bb' : b < 18446744073709551616 := by omega
  have e1 : x1 = (a : Int) := by
    rw [h1, show (1 : Int) = ((1 : Nat) : Int) by rfl, show (6148914691236517205 : Int) = ((6148914691236517205 : Nat) : Int) by rfl, uSh_nat _ _ (by omega), uAnd_nat _ _ (by omega) (by omega), uAnd_nat _ _ hx (by omega)]
    have hs : (x / 2 ^ 1 &&& 6148914691236517205) + (x &&& 6148914691236517205) = a := by rw [← ha, st1, m1]
    rw [uAdd_nat _ _ (by omega), hs]
  have e2 : x2 = (b : Int) := by
    rw [h2, e1, show (2 : Int) = ((2 : Nat) : Int) by rfl, show (3689348814741910323 : Int) = ((3689348814741910323 : Nat) : Int) by rfl, uSh_nat _ _ (by omega), uAnd_nat _ _ (by omega) (by omega), uAnd_nat _ _ ba (by omega)]
    have hs : (a / 2 ^ 2 &&& 3689348814741910323) + (a &&& 3689348814741910323) = b := by rw [← hb, st2, m2]
    rw [uAdd_nat _ _ (by omega), hs]
  have e3 : x3 = (c : Int) := by
    rw [h3, e2, show (4 : Int) = ((4 : Nat) : Int) by rfl, show (1085102592571150095 : Int) = ((1085102592571150095 : Nat) : Int) by rfl, uSh_nat _ _ (by omega), uAdd_nat _ _ (by omega), uAnd_nat _ _ (by omega) (by omega)]
    rw [← hc, st3, m3]
  have e4 : x4 = ((c + c / 256 : Nat) : Int) := by
    rw [h4, e3, show (8 : Int) = ((8 : Nat) : Int) by rfl, uSh_nat _ _ (by omega), uAdd_nat _ _ (by omega)]
  generalize c + c / 256 = e at *
  have e5 : x5 = ((e + e / 65536 : Nat) : Int) := by
    rw [h5, e4, show (16 : Int) = ((16 : Nat) : Int) by rfl, uSh_nat _ _ (by omega), uAdd_nat _ _ (by omega)]
  generalize e + e / 65536 = f at *
  have e6 : x6 = ((f + f / 4294967296 : Nat) : Int) := by
    rw [h6, e5, show (32 : Int) = ((32 : Nat) : Int) by rfl, uSh_nat _ _ (by omega), uAdd_nat _ _ (by omega)]
  have b7 : f + f / 4294967296 < 9223372036854775808 := bf
  rw [e6, wrap_i64 (by omega) (by omega), and127 _ b7, r]

/-! ### The text of TrailingZeros64 -/
def tzTab : Array Value := (Lib.deBruijn64tab.map fun (n : Nat) => Value.int .u8 (n : Int)).toArray
def tzAt (k : Nat) : Nat := 2 ^ k * 285870213051353865 % 18446744073709551616 / 288230376151711744
theorem tz_pure (x k : Nat) (h0 : x ≠ 0) (hx : x < 18446744073709551616) (hk : x &&& (2 ^ 64 - x) = 2 ^ k) :
    uSh (IntKind.u64.wrap (uAnd (x : Int) (IntKind.u64.wrap (-(x : Int))) * 285870213051353865)) 58 = (tzAt k : Int) := by
  have e1 : IntKind.u64.wrap (-(x : Int)) = ((2 ^ 64 - x : Nat) : Int) := by rw [wrap_u64]; omega
  rw [e1, uAnd_nat _ _ hx (by omega), hk, wrap_u64]
  have e2 : ((2 ^ k : Nat) : Int) * 285870213051353865 % 18446744073709551616 = ((2 ^ k * 285870213051353865 % 18446744073709551616 : Nat) : Int) := by
    rw [show (285870213051353865 : Int) = ((285870213051353865 : Nat) : Int) by rfl, show (18446744073709551616 : Int) = ((18446744073709551616 : Nat) : Int) by rfl, ← Int.natCast_mul, ← Int.natCast_emod]
  rw [e2, show (58 : Int) = ((58 : Nat) : Int) by rfl, uSh_nat _ _ (by omega)]
  rfl
theorem getD_some {l : List Nat} {i v : Nat} (h : l.getD i 0 = v) (hi : i < l.length) : l[i]? = some v := by
  rw [List.getD_eq_getElem?_getD, List.getElem?_eq_getElem hi] at h
  rw [List.getElem?_eq_getElem hi]
  exact congrArg some h
theorem map_get {l : List Nat} {i v : Nat} (h : l[i]? = some v) : (l.map fun (n : Nat) => Value.int .u8 (n : Int)).toArray[i]? = some (.int .u8 (v : Int)) := by
  simp [h]
theorem tab_length : Lib.deBruijn64tab.length = 64 := by decide
theorem tz_tab (k : Nat) (hk : k < 64) : tzAt k < 64 ∧ tzTab[tzAt k]? = some (.int .u8 (k : Int)) := by
  obtain ⟨h1, h2⟩ := Lib.deBruijn64_at k hk
  have h1' : tzAt k < 64 := h1
  have h2' : Lib.deBruijn64tab.getD (tzAt k) 0 = k := h2
  refine ⟨h1', ?_⟩
  generalize tzAt k = m at *
  exact map_get (getD_some h2' (by rw [tab_length]; exact h1'))
/-- The table of math/bits stands where the program's first variable stands. -/
def Tab (w : World) : Prop := ∃ T fr, w.heap[0]? = some (.cells tzTab T fr)
theorem Tab.ch {F : Nat → Prop} {w w' : World} (h : Tab w) (c : Ch F w w') (hn : ¬ F 0) : Tab w' := by
  obtain ⟨T, fr, h⟩ := h; exact ⟨T, fr, c.at h hn⟩
theorem Tab.ch0 {w w' : World} (h : Tab w) (c : Ch0 w w') : Tab w' := h.ch c id

theorem shl_ones (m : Nat) (h : m < 64) : IntKind.u64.wrap (18446744073709551615 * 2 ^ (min m 64)) = ((BitVec.allOnes 64 <<< m).toNat : Int) := by
  rw [Nat.min_eq_left (by omega), wrap_u64, BitVec.toNat_shiftLeft, BitVec.toNat_allOnes, Nat.shiftLeft_eq]
  have e : (18446744073709551615 : Int) * 2 ^ m = (((2 ^ 64 - 1) * 2 ^ m : Nat) : Int) := by simp
  rw [e, show (18446744073709551616 : Int) = ((2 ^ 64 : Nat) : Int) by rfl, ← Int.natCast_emod]
theorem ones_bit (m j : Nat) (hj : j < 64) : (BitVec.allOnes 64 <<< m).getLsbD j = decide (m ≤ j) := by
  rw [BitVec.getLsbD_shiftLeft, BitVec.getLsbD_allOnes]
  by_cases h : m ≤ j
  · have h1 : ¬ j < m := by omega
    have h2 : j - m < 64 := by omega
    simp [hj, h1, h2, h]
  · have h1 : j < m := by omega
    simp [h1, h]
theorem bv_zero {y : BV} (h : ∀ j, j < 64 → y.getLsbD j = false) : y = 0 := BitVec.eq_of_getLsbD_eq (fun i hi => by rw [h i hi]; simp)
end Sg
