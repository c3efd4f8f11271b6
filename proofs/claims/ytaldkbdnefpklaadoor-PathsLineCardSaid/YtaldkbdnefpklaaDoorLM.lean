/-
  A part of the walk of the program.
-/
import Derived.Test.YtaldkbdnefpklaaDoorYA
set_option linter.unusedVariables false
set_option linter.unusedSimpArgs false
set_option maxRecDepth 100000
namespace Go.Proofs.YtaldkbdnefpklaaDoor
open Go Go.RowKit Sg

def ringL (n k : Nat) (x y : Nat) : Nat := if x < k ∧ x < n ∧ y = (x + 1) % n then 4 else 0
theorem mod_step {n x : Nat} (hx : x < n) : (x + 1) % n = if x + 1 = n then 0 else x + 1 := by
  by_cases e : x + 1 = n
  · rw [if_pos e, e, Nat.mod_self]
  · rw [if_neg e, Nat.mod_eq_of_lt (by omega)]
theorem ring_add {n k : Nat} (hn : 2 ≤ n) (hk : k < n) : addE n (ringL n k) ((k : Int), (((k + 1) % n : Nat) : Int), 4) = ringL n (k + 1) := by
  funext x y
  have hlt := Nat.mod_lt (k + 1) (show 0 < n by omega)
  have hms := mod_step hk
  have h1 : inE n ((k : Int), (((k + 1) % n : Nat) : Int), 4) := by unfold inE; (try dsimp only); omega
  have h2 : okE ((k : Int), (((k + 1) % n : Nat) : Int), 4) := by
    unfold okE; (try dsimp only)
    refine ⟨by omega, by omega, fun e => ?_⟩
    have e2 : k = (k + 1) % n := by omega
    split at hms <;> omega
  unfold addE
  (try dsimp only)
  rw [show ((k : Nat) : Int).toNat = k by omega, show (((k + 1) % n : Nat) : Int).toNat = (k + 1) % n by omega]
  unfold ringL
  by_cases e : x = k ∧ y = (k + 1) % n
  · obtain ⟨rfl, rfl⟩ := e
    rw [if_pos ⟨h1, h2, rfl, rfl⟩, if_neg (by omega), if_pos ⟨by omega, hk, rfl⟩]; rfl
  · rw [if_neg (fun k => e ⟨k.2.2.1, k.2.2.2⟩)]
    by_cases e2 : x < k ∧ x < n ∧ y = (x + 1) % n
    · rw [if_pos e2, if_pos ⟨by omega, e2.2⟩]
    · rw [if_neg e2, if_neg]
      rintro ⟨h3, h4, h5⟩
      by_cases e3 : x = k
      · subst e3; exact e ⟨rfl, h5⟩
      · exact e2 ⟨by omega, h4, h5⟩
theorem ring_E {n x y : Nat} : EE (ringL n n) 4 x y ↔ x < n ∧ y = (x + 1) % n := by
  unfold EE ringL
  by_cases h : x < n ∧ x < n ∧ y = (x + 1) % n
  · rw [if_pos h]; exact ⟨fun _ => h.2, fun _ => by decide⟩
  · rw [if_neg h]
    refine ⟨fun k => absurd (by simp) k, fun k => absurd ⟨k.1, k⟩ h⟩
theorem ring_E3 {n x y : Nat} : ¬ EE (ringL n n) 3 x y := by
  unfold EE ringL
  split
  · exact fun k => k (by decide)
  · exact fun k => k (by simp)
theorem ring_wk {n : Nat} : ∀ {k x y : Nat}, x < n → (Wk (EE (ringL n n) 4) k x y ↔ y = (x + k) % n)
  | 0, x, y, hx => by show x = y ↔ _; rw [Nat.add_zero, Nat.mod_eq_of_lt hx]; exact eq_comm
  | k + 1, x, y, hx => by
    have hlt := Nat.mod_lt (x + 1) (show 0 < n by omega)
    show (∃ c, EE (ringL n n) 4 x c ∧ Wk (EE (ringL n n) 4) k c y) ↔ _
    constructor
    · rintro ⟨c, hc, hw⟩
      rw [ring_E] at hc
      rw [hc.2] at hw
      rw [(ring_wk hlt).1 hw, Nat.mod_add_mod]; congr 1; omega
    · intro h
      exact ⟨_, ring_E.2 ⟨hx, rfl⟩, (ring_wk hlt).2 (by rw [h, Nat.mod_add_mod]; congr 1; omega)⟩
def ringD (n x y : Nat) : Nat := if x < y then y - x else y + n - x
theorem ring_dst {n x y : Nat} (hx : x < n) (hy : y < n) : dst (EE (ringL n n) 4) x y = ringD n x y := by
  refine IsD.dst ⟨by unfold ringD; split <;> omega, (ring_wk hx).2 ?_, fun j h1 h2 => ?_⟩
  · unfold ringD
    split
    · rw [show x + (y - x) = y by omega, Nat.mod_eq_of_lt hy]
    · rw [show x + (y + n - x) = y + n by omega, Nat.add_mod_right, Nat.mod_eq_of_lt hy]
  · have h3 := (ring_wk hx).1 h2
    unfold ringD
    by_cases hj : x + j < n
    · rw [Nat.mod_eq_of_lt hj] at h3
      split <;> omega
    · by_cases hj2 : x + j < n + n
      · have : (x + j) % n = x + j - n := by rw [Nat.mod_eq_sub_mod (by omega), Nat.mod_eq_of_lt (by omega)]
        split <;> omega
      · split <;> omega
theorem ring_dst3 {n x y : Nat} : dst (EE (ringL n n) 3) x y = 0 := dst_zero fun k h1 h2 => by
  obtain ⟨q, rfl⟩ : ∃ q, k = q + 1 := ⟨k - 1, by omega⟩
  obtain ⟨c, hc, -⟩ := h2
  exact ring_E3 hc
theorem ring_ok {n : Nat} (hn : 2 ≤ n) : LbOk n (ringL n n) := by
  refine ⟨fun a b => by unfold ringL; split <;> decide, fun a => ?_, fun a b hab => ?_⟩
  · unfold ringL
    rw [if_neg]
    rintro ⟨h1, _, h3⟩
    have := mod_step h1
    split at this <;> omega
  · unfold ringL
    rw [if_neg]
    rintro ⟨h1, _, h3⟩
    have := Nat.mod_lt (a + 1) (show 0 < n by omega)
    omega
theorem ring_path {n b : Nat} (hn : 2 ≤ n) (hb : b < n) : ∀ {d a : Nat}, a < n → Left (EE (ringL n n) 4) a b d → ∀ (i : Nat) (h : i < (spath (ringL n n) n 4 b d a).length), (spath (ringL n n) n 4 b d a)[i] = (a + (i + 1)) % n
  | 0, a, _, _, i, h => absurd h (by simp [spath])
  | d + 1, a, ha, hl, i, h => by
    obtain ⟨m, hm, hp⟩ := left_ex (ring_ok hn) (show d + 1 ≠ 0 by omega) hl
    have hlt := Nat.mod_lt (a + 1) (show 0 < n by omega)
    obtain ⟨k, hk, rfl⟩ := List.mem_iff_getElem.1 hm
    have hall : ∀ (j : Nat) (hj : j < (outN (ringL n n) a n 4).length), (outN (ringL n n) a n 4)[j] = (a + 1) % n := fun j hj => (ring_E.1 (mem_outN.1 (List.getElem_mem hj)).2).2
    have hnx : nx (EE (ringL n n) 4) (outN (ringL n n) a n 4) b (d + 1) = (a + 1) % n := by
      rw [nx_at (k := 0) (by omega) (by rw [hall 0 (by omega), ← hall k hk]; exact hp) (fun i hi => absurd hi (by omega)), hall 0 (by omega)]
    rw [hall k hk] at hp
    have hsp : spath (ringL n n) n 4 b (d + 1) a = (a + 1) % n :: spath (ringL n n) n 4 b d ((a + 1) % n) := by
      show nx _ _ _ _ :: spath _ _ _ _ _ (nx _ _ _ _) = _
      rw [hnx]
    have ih := ring_path hn hb hlt (left_next hp)
    simp only [hsp]
    cases i with
    | zero => rfl
    | succ i =>
      rw [List.getElem_cons_succ, ih i (by simp only [hsp, List.length_cons] at h; omega), Nat.mod_add_mod]
      congr 1; omega
theorem ring_ds {n x y : Nat} (hx : x < n) (hy : y < n) : dsI n (ringL n n) 4 x y = (ringD n x y : Int) := by
  unfold dsI dI
  rw [if_pos ⟨⟨by omega, by omega⟩, by omega, by omega⟩, show ((x : Nat) : Int).toNat = x by omega, show ((y : Nat) : Int).toNat = y by omega, ring_dst hx hy, if_neg (by unfold ringD; split <;> omega)]
theorem ringd {n x y : Nat} (hx : x < n) (hy : y < n) : (((y : Int) - x + n) % n = 0 → (ringD n x y : Int) = n) ∧ (((y : Int) - x + n) % n ≠ 0 → (ringD n x y : Int) = ((y : Int) - x + n) % n) := by
  unfold ringD
  by_cases h : x < y
  · rw [if_pos h]
    have : ((y : Int) - x + n) % n = (y : Int) - x := by
      rw [Int.add_emod_right, Int.emod_eq_of_lt (by omega) (by omega)]
    omega
  · rw [if_neg h]
    by_cases e : x = y
    · subst e
      have : ((x : Int) - x + n) % n = 0 := by rw [show (x : Int) - x + n = n by omega, Int.emod_self]
      omega
    · have : ((y : Int) - x + n) % n = (y : Int) - x + n := Int.emod_eq_of_lt (by omega) (by omega)
      omega
theorem ring_ds3 {n : Nat} {x y : Int} : dsI n (ringL n n) 3 x y = -1 := by
  unfold dsI dI
  rw [ring_dst3, if_pos rfl]; split <;> rfl
theorem ring_sh {n x y : Nat} (hn : 2 ≤ n) (hx : x < n) (hy : y < n) : (shI n (ringL n n) 4 x y).length = ringD n x y + 1 ∧ ∀ (i : Nat) (h : i < (shI n (ringL n n) 4 x y).length), (shI n (ringL n n) 4 x y)[i] = (((x + i) % n : Nat) : Int) := by
  have e : shI n (ringL n n) 4 x y = (x :: spath (ringL n n) n 4 y (ringD n x y) x).map fun (m : Nat) => (m : Int) := by
    unfold shI
    rw [ring_ds hx hy, if_neg (by omega), show ((x : Nat) : Int).toNat = x by omega, show ((y : Nat) : Int).toNat = y by omega, ring_dst hx hy]
  have hl : Left (EE (ringL n n) 4) x y (ringD n x y) := by
    unfold Left
    rw [if_neg (by unfold ringD; split <;> omega)]
    exact ring_dst hx hy
  refine ⟨by rw [e, List.length_map, List.length_cons, spath_len], fun i h => ?_⟩
  simp only [e, List.getElem_map]
  cases i with
  | zero => rw [List.getElem_cons_zero, Nat.add_zero, Nat.mod_eq_of_lt hx]
  | succ i => rw [List.getElem_cons_succ, ring_path hn hy hx hl i (by simp only [e, List.length_map, List.length_cons] at h; omega)]

end Go.Proofs.YtaldkbdnefpklaaDoor
