/-
  Walks, how long a shortest one is, and two searches for it.
-/
import Derived.Test.YtaldkbdnefpklaaDoorCore
namespace Sg

/-- A walk of so many steps. -/
def Wk (E : Nat → Nat → Prop) : Nat → Nat → Nat → Prop
  | 0, a, b => a = b
  | k + 1, a, b => ∃ c, E a c ∧ Wk E k c b
section
variable {E : Nat → Nat → Prop} {a b c k i j : Nat}
theorem Wk.snoc : ∀ {k a b c : Nat}, Wk E k a b → E b c → Wk E (k + 1) a c
  | 0, _, _, c, rfl, h2 => ⟨c, h2, rfl⟩
  | _ + 1, _, _, _, ⟨d, h1, h2⟩, h3 => ⟨d, h1, h2.snoc h3⟩
theorem Wk.unsnoc : ∀ {k a c : Nat}, Wk E (k + 1) a c → ∃ b, Wk E k a b ∧ E b c
  | 0, a, _, ⟨_, h1, rfl⟩ => ⟨a, rfl, h1⟩
  | _ + 1, _, _, ⟨d, h1, h2⟩ => by
    obtain ⟨b, h3, h4⟩ := Wk.unsnoc h2
    exact ⟨b, ⟨d, h1, h3⟩, h4⟩
theorem Wk.append : ∀ {i a b : Nat}, Wk E i a b → Wk E j b c → Wk E (i + j) a c
  | 0, _, _, rfl, h => by rw [Nat.zero_add]; exact h
  | i + 1, _, _, ⟨d, h1, h2⟩, h => by rw [show i + 1 + j = (i + j) + 1 by omega]; exact ⟨d, h1, h2.append h⟩
theorem Wk.turn : ∀ {k a b : Nat}, Wk (fun x y => E y x) k a b → Wk E k b a
  | 0, _, _, h => h.symm
  | _ + 1, _, _, ⟨_, h1, h2⟩ => h2.turn.snoc h1
/-- The least number of steps, one or more. -/
def IsD (E : Nat → Nat → Prop) (a b k : Nat) : Prop := 1 ≤ k ∧ Wk E k a b ∧ ∀ j, 1 ≤ j → Wk E j a b → k ≤ j
open Classical in
/-- How far it is, by one step or more; 0: there is no way. -/
noncomputable def dst (E : Nat → Nat → Prop) (a b : Nat) : Nat := if h : ∃ k, IsD E a b k then h.choose else 0
theorem IsD.dst (h : IsD E a b k) : Sg.dst E a b = k := by
  unfold Sg.dst
  have hx : ∃ k, IsD E a b k := ⟨k, h⟩
  rw [dif_pos hx]
  have h2 := hx.choose_spec
  have h3 := h2.2.2 k h.1 h.2.1
  have h4 := h.2.2 _ h2.1 h2.2.1
  omega
theorem isD_of : ∀ {k : Nat}, 1 ≤ k → Wk E k a b → ∃ j, j ≤ k ∧ IsD E a b j := by
  intro k
  induction k using Nat.strongRecOn with
  | _ k ih =>
    intro h1 h2
    by_cases h : ∃ j, 1 ≤ j ∧ j < k ∧ Wk E j a b
    · obtain ⟨j, h3, h4, h5⟩ := h
      obtain ⟨i, h6, h7⟩ := ih j h4 h3 h5
      exact ⟨i, by omega, h7⟩
    · exact ⟨k, Nat.le_refl _, h1, h2, fun j h3 h4 => Classical.byContradiction fun h5 => h ⟨j, h3, by omega, h4⟩⟩
theorem dst_le (h1 : 1 ≤ k) (h2 : Wk E k a b) : dst E a b ≠ 0 ∧ dst E a b ≤ k := by
  obtain ⟨j, h3, h4⟩ := isD_of h1 h2
  rw [h4.dst]
  exact ⟨by have := h4.1; omega, h3⟩
theorem dst_is (h : dst E a b ≠ 0) : IsD E a b (dst E a b) := by
  by_cases hx : ∃ k, IsD E a b k
  · obtain ⟨k, hk⟩ := hx
    rw [hk.dst]; exact hk
  · exact absurd (dif_neg hx) h
theorem dst_zero (h : ∀ k, 1 ≤ k → ¬ Wk E k a b) : dst E a b = 0 := Classical.byContradiction fun h2 => h _ (dst_is h2).1 (dst_is h2).2.1
theorem dst_turn : dst (fun x y => E y x) a b = dst E b a := by
  by_cases h : dst E b a = 0
  · rw [h]
    exact dst_zero fun k h1 h2 => (dst_le h1 h2.turn).1 h
  · obtain ⟨h1, h2, h3⟩ := dst_is h
    exact IsD.dst ⟨h1, Wk.turn (E := fun x y => E y x) h2, fun j h4 h5 => h3 j h4 h5.turn⟩
theorem dst_via (h1 : dst E a b ≠ 0) (h2 : dst E b c ≠ 0) : dst E a c ≠ 0 ∧ dst E a c ≤ dst E a b + dst E b c := by
  have k1 := dst_is h1
  have k2 := dst_is h2
  exact dst_le (by have := k1.1; omega) (k1.2.1.append k2.2.1)
theorem dst_lt (hE : ∀ x y, E x y → x < c ∧ y < c) (h : dst E a b ≠ 0) : a < c ∧ b < c := by
  obtain ⟨h1, h2, -⟩ := dst_is h
  obtain ⟨k, hk⟩ : ∃ k, dst E a b = k + 1 := ⟨dst E a b - 1, by omega⟩
  rw [hk] at h2
  obtain ⟨e, h4, h5⟩ := h2.unsnoc
  obtain ⟨d, h3, -⟩ := h2
  exact ⟨(hE _ _ h3).1, (hE _ _ h5).2⟩
end
def upd (F : Nat → Nat) (m d : Nat) : Nat → Nat := fun i => if i = m then d else F i
theorem upd_at {F : Nat → Nat} {m d : Nat} : upd F m d m = d := if_pos rfl
theorem upd_ne {F : Nat → Nat} {m d i : Nat} (h : i ≠ m) : upd F m d i = F i := if_neg h
def zeros (n : Nat) (F : Nat → Nat) : Nat := ((List.range n).filter fun i => decide (F i = 0)).length
theorem zeros_le (n : Nat) (F : Nat → Nat) : zeros n F ≤ n := Nat.le_trans (List.length_filter_le _ _) (by simp)
theorem zeros_succ (n : Nat) (F : Nat → Nat) : zeros (n + 1) F = zeros n F + if F n = 0 then 1 else 0 := by
  unfold zeros
  rw [List.range_succ, List.filter_append, List.length_append]
  by_cases h : F n = 0 <;> simp [h]
theorem zeros_out {n : Nat} {F : Nat → Nat} {m d : Nat} (h : n ≤ m) : zeros n (upd F m d) = zeros n F := by
  unfold zeros
  congr 1
  refine List.filter_congr fun i hi => ?_
  rw [upd_ne (by have := List.mem_range.1 hi; omega)]
theorem zeros_upd {F : Nat → Nat} {m d : Nat} (h : F m = 0) (hd : d ≠ 0) : ∀ {n : Nat}, m < n → zeros n (upd F m d) + 1 = zeros n F := by
  intro n
  induction n with
  | zero => intro h; omega
  | succ n ih =>
    intro hm
    rw [zeros_succ, zeros_succ]
    by_cases e : m = n
    · subst e
      rw [upd_at, if_neg hd, if_pos h, zeros_out (Nat.le_refl _)]
    · rw [upd_ne (fun k => e k.symm), ← ih (by omega)]; omega
/-- The search by levels, while a node of the queue is being worked on (x). -/
structure Inn (E : Nat → Nat → Prop) (s : Nat) (F : Nat → Nat) (Q : List Nat) (x : Nat → Prop) (d : Nat) (fst : Bool) : Prop where
  a : ∀ m, F m ≠ 0 → IsD E s m (F m)
  q : ∀ m ∈ Q, F m ≠ 0 ∧ F m ≤ d ∧ d ≤ F m + 1
  srt : Q.Pairwise fun i j => F i ≤ F j
  c : ∀ p, F p ≠ 0 → p ∉ Q → ¬ x p → ∀ m, E p m → F m ≠ 0
  f : fst = false → ∀ m, E s m → F m ≠ 0
def Un (s : Nat) (F : Nat → Nat) (u d : Nat) (fst : Bool) : Prop := (fst = true ∧ u = s ∧ d = 1) ∨ (fst = false ∧ F u ≠ 0 ∧ d = F u + 1)
def Ot (E : Nat → Nat → Prop) (s : Nat) (F : Nat → Nat) (Q : List Nat) (fst : Bool) : Prop := (fst = true ∧ Q = [s] ∧ ∀ m, F m = 0) ∨ (fst = false ∧ ∃ d, Inn E s F Q (fun _ => False) d false)
section
variable {E : Nat → Nat → Prop} {s u d m : Nat} {F : Nat → Nat} {Q : List Nat} {fst : Bool}
theorem Un.pos (h : Un s F u d fst) : 1 ≤ d := by rcases h with h | h <;> omega
theorem Inn.near (h : Inn E s F Q (· = u) d fst) (hu : Un s F u d fst) : ∀ {k : Nat}, 1 ≤ k → k + 1 ≤ d → ∀ p, Wk E k s p → F p ≠ 0 := by
  intro k
  induction k with
  | zero => intro h1; omega
  | succ k ih =>
    intro _ hd p hw
    rcases hu with ⟨_, _, h3⟩ | ⟨h1, h2, h3⟩
    · omega
    obtain ⟨p', h4, h5⟩ := hw.unsnoc
    by_cases hk : k = 0
    · subst hk
      obtain rfl : s = p' := h4
      exact h.f h1 p h5
    · have h6 := ih (by omega) (by omega) p' h4
      have h7 := (h.a p' h6).2.2 k (by omega) h4
      exact h.c p' h6 (fun hq => by have := (h.q p' hq).2.2; omega) (fun e => by subst e; omega) p h5
theorem Inn.disc (h : Inn E s F Q (· = u) d fst) (hu : Un s F u d fst) (he : E u m) (h0 : F m = 0) : Inn E s (upd F m d) (Q ++ [m]) (· = u) d fst ∧ Un s (upd F m d) u d fst := by
  have hp := hu.pos
  have hD : IsD E s m d := by
    refine ⟨hp, ?_, fun j h1 h2 => Classical.byContradiction fun h3 => h.near hu h1 (by omega) m h2 h0⟩
    rcases hu with ⟨_, rfl, rfl⟩ | ⟨h1, h2, h3⟩
    · exact ⟨m, he, rfl⟩
    · rw [h3]; exact (h.a u h2).2.1.snoc he
  have hmono : ∀ i, F i ≠ 0 → upd F m d i ≠ 0 := fun i hi => by
    by_cases e : i = m
    · subst e; exact absurd h0 hi
    · rw [upd_ne e]; exact hi
  have hkeep : ∀ i, F i ≠ 0 → upd F m d i = F i := fun i hi => upd_ne (fun e => hi (e ▸ h0))
  refine ⟨⟨fun i hi => ?_, fun i hi => ?_, ?_, fun p hp2 hq hx i hi => ?_, fun hf i hi => hmono i (h.f hf i hi)⟩, ?_⟩
  · by_cases e : i = m
    · subst e; rw [upd_at]; exact hD
    · rw [upd_ne e] at hi ⊢; exact h.a i hi
  · rcases List.mem_append.1 hi with hi | hi
    · have := h.q i hi
      rw [hkeep i this.1]; exact this
    · rw [List.mem_singleton.1 hi, upd_at]; omega
  · rw [List.pairwise_append]
    refine ⟨h.srt.imp_of_mem fun h1 h2 h3 => ?_, by simp, fun i hi j hj => ?_⟩
    · rw [hkeep _ (h.q _ h1).1, hkeep _ (h.q _ h2).1]; exact h3
    · rw [List.mem_singleton.1 hj, upd_at, hkeep _ (h.q _ hi).1]
      exact (h.q _ hi).2.1
  · have hpm : p ≠ m := fun e => hq (by simp [e])
    rw [upd_ne hpm] at hp2
    exact hmono i (h.c p hp2 (fun k => hq (List.mem_append_left _ k)) hx i hi)
  · rcases hu with h1 | ⟨h1, h2, h3⟩
    · exact .inl h1
    · exact .inr ⟨h1, hmono u h2, by rw [hkeep u h2]; exact h3⟩
theorem Ot.pop (h : Ot E s F (u :: Q) fst) : Un s F u (if fst then 1 else F u + 1) fst ∧ Inn E s F Q (· = u) (if fst then 1 else F u + 1) fst := by
  rcases h with ⟨rfl, h2, h3⟩ | ⟨rfl, d, h⟩
  · injection h2 with h4 h5
    subst h4; subst h5
    exact ⟨.inl ⟨rfl, rfl, rfl⟩, fun m hm => absurd (h3 m) hm, (fun m hm => by cases hm), .nil, fun p hp => absurd (h3 p) hp, fun hf => by cases hf⟩
  · have hq := h.q u (List.mem_cons_self ..)
    have hs := List.pairwise_cons.1 h.srt
    refine ⟨.inr ⟨rfl, hq.1, rfl⟩, h.a, fun m hm => ?_, hs.2, fun p hp hpq hx => h.c p hp (fun k => ?_) id, h.f⟩
    · have h1 := h.q m (List.mem_cons_of_mem _ hm)
      have h2 := hs.1 m hm
      exact ⟨h1.1, by show F m ≤ F u + 1; omega, by show F u + 1 ≤ F m + 1; omega⟩
    · rcases List.mem_cons.1 k with k | k
      · exact hx k
      · exact hpq k
theorem Inn.done (h : Inn E s F Q (· = u) d fst) (hu : Un s F u d fst) (ha : ∀ m, E u m → F m ≠ 0) : Ot E s F Q false := by
  refine .inr ⟨rfl, d, h.a, h.q, h.srt, fun p hp hq _ => ?_, fun _ => ?_⟩
  · by_cases e : p = u
    · subst e; exact ha
    · exact h.c p hp hq e
  · rcases hu with ⟨_, rfl, _⟩ | ⟨h1, _⟩
    · exact ha
    · exact h.f h1
theorem Ot.fin (h : Ot E s F [] fst) (m : Nat) : F m = dst E s m := by
  rcases h with ⟨_, h2, _⟩ | ⟨rfl, d, h⟩
  · cases h2
  by_cases hm : F m = 0
  · rw [hm]
    refine (dst_zero fun k h1 h2 => ?_).symm
    have : ∀ {k : Nat}, 1 ≤ k → ∀ p, Wk E k s p → F p ≠ 0 := by
      intro k
      induction k with
      | zero => intro h; omega
      | succ k ih =>
        intro _ p hw
        obtain ⟨p', h4, h5⟩ := hw.unsnoc
        by_cases hk : k = 0
        · subst hk
          obtain rfl : s = p' := h4
          exact h.f rfl p h5
        · exact h.c p' (ih (by omega) p' h4) (by simp) id p h5
    exact this h1 m h2 hm
  · exact (h.a m hm).dst.symm
end
theorem ifc {p q : Prop} {ip : Decidable p} {iq : Decidable q} {x y : Nat} (h : p ↔ q) : @ite Nat p ip x y = @ite Nat q iq x y := by
  by_cases k : p
  · rw [if_pos k, if_pos (h.1 k)]
  · rw [if_neg k, if_neg (fun e => k (h.2 e))]
/-- The search by layers, backwards. -/
structure Lay (E : Nat → Nat → Prop) (n t : Nat) (O : Nat → Nat) (L : List Nat) (d : Nat) : Prop where
  o : ∀ a, a < n → O a = if dst E a t < d then dst E a t else 0
  l1 : d = 1 → L = [t]
  l2 : 2 ≤ d → ∀ a, a ∈ L ↔ a < n ∧ dst E a t + 1 = d
  p : 1 ≤ d
/-- Rows below k, and of row k what lies before place j of the layer. -/
def Pk (E : Nat → Nat → Prop) (L : List Nat) (k j a : Nat) : Prop := (a < k ∧ ∃ m ∈ L, E a m) ∨ (a = k ∧ ∃ m ∈ L.take j, E a m)
open Classical in
structure Mid (E : Nat → Nat → Prop) (n : Nat) (O : Nat → Nat) (L : List Nat) (d k j : Nat) (Oc : Nat → Nat) (Nc : List Nat) : Prop where
  o : ∀ a, Oc a = if O a = 0 ∧ Pk E L k j a then d else O a
  m : ∀ a, a ∈ Nc ↔ O a = 0 ∧ Pk E L k j a
  z : zeros n Oc + Nc.length = zeros n O
section
variable {E : Nat → Nat → Prop} {n t d k j : Nat} {O Oc : Nat → Nat} {L Nc : List Nat}
theorem Lay.start (O : Nat → Nat) (h : ∀ a, a < n → O a = 0) : Lay E n t O [t] 1 :=
  ⟨fun a ha => by rw [h a ha]; split <;> omega, fun _ => rfl, fun h => by omega, Nat.le_refl _⟩
theorem Lay.key (h : Lay E n t O L d) (hE : ∀ x y, E x y → x < n ∧ y < n) {a : Nat} (ha : a < n) : (O a = 0 ∧ ∃ m ∈ L, E a m) ↔ dst E a t = d := by
  have hp := h.p
  constructor
  · rintro ⟨h0, m, hm, he⟩
    have hw : Wk E d a t := by
      by_cases e : d = 1
      · rw [h.l1 e] at hm
        rw [List.mem_singleton.1 hm] at he
        rw [e]; exact ⟨t, he, rfl⟩
      · have h2 := ((h.l2 (by omega) m).1 hm).2
        have h3 := (dst_is (show dst E m t ≠ 0 by omega)).2.1
        rw [← h2]; exact ⟨m, he, h3⟩
    have h4 := dst_le hp hw
    have h5 := h.o a ha
    rw [h0] at h5
    split at h5 <;> omega
  · intro hd
    refine ⟨by rw [h.o a ha, if_neg (by omega)], ?_⟩
    have h1 := dst_is (show dst E a t ≠ 0 by omega)
    obtain ⟨q, hq⟩ : ∃ q, d = q + 1 := ⟨d - 1, by omega⟩
    rw [hd, hq] at h1
    obtain ⟨m, he, hw⟩ := h1.2.1
    by_cases e : q = 0
    · subst e
      obtain rfl : m = t := hw
      exact ⟨m, by rw [h.l1 hq]; simp, he⟩
    · have h2 := dst_le (by omega) hw
      have h3 := h1.2.2 (dst E m t + 1) (by omega) ⟨m, he, (dst_is h2.1).2.1⟩
      exact ⟨m, (h.l2 (by omega) m).2 ⟨(hE _ _ he).2, by omega⟩, he⟩
theorem Lay.fin (h : Lay E n t O [] d) (hE : ∀ x y, E x y → x < n ∧ y < n) {a : Nat} (ha : a < n) : O a = dst E a t := by
  have hp := h.p
  have h2 : 2 ≤ d := Classical.byContradiction fun k => by have := h.l1 (by omega); cases this
  rw [h.o a ha]
  by_cases hd : dst E a t < d
  · rw [if_pos hd]
  exfalso
  have key : ∀ {j a : Nat}, a < n → dst E a t = d - 1 + j → False := by
    intro j
    induction j with
    | zero => intro a ha h3; have := (h.l2 h2 a).2 ⟨ha, by omega⟩; cases this
    | succ j ih =>
      intro a ha h3
      have h4 := dst_is (show dst E a t ≠ 0 by omega)
      have h4' := h4.2.1
      rw [h3, show d - 1 + (j + 1) = (d - 1 + j) + 1 by omega] at h4'
      obtain ⟨m, he, hw⟩ := h4'
      have h5 := dst_le (show 1 ≤ d - 1 + j by omega) hw
      have h6 := h4.2.2 (dst E m t + 1) (by omega) ⟨m, he, (dst_is h5.1).2.1⟩
      exact ih (hE _ _ he).2 (by omega)
  exact key ha (show dst E a t = d - 1 + (dst E a t - (d - 1)) by omega)
theorem pk_zero (L : List Nat) (a : Nat) : ¬ Pk E L 0 0 a := by rintro (⟨h, _⟩ | ⟨_, m, h, _⟩); (· omega); (· simp at h)
theorem pk_row (a : Nat) : Pk E L k L.length a ↔ Pk E L (k + 1) 0 a := by
  unfold Pk
  rw [List.take_of_length_le (Nat.le_refl _)]
  constructor
  · rintro (⟨h1, h2⟩ | ⟨h1, h2⟩)
    · exact .inl ⟨by omega, h2⟩
    · exact .inl ⟨by omega, h2⟩
  · rintro (⟨h1, h2⟩ | ⟨h1, m, h2, _⟩)
    · by_cases e : a = k
      · exact .inr ⟨e, h2⟩
      · exact .inl ⟨by omega, h2⟩
    · simp at h2
theorem pk_next (hj : j < L.length) (a : Nat) : Pk E L k (j + 1) a ↔ Pk E L k j a ∨ (a = k ∧ E k L[j]) := by
  unfold Pk
  rw [List.take_succ_eq_append_getElem hj]
  constructor
  · rintro (h | ⟨rfl, m, hm, he⟩)
    · exact .inl (.inl h)
    · rcases List.mem_append.1 hm with hm | hm
      · exact .inl (.inr ⟨rfl, m, hm, he⟩)
      · rw [List.mem_singleton.1 hm] at he; exact .inr ⟨rfl, he⟩
  · rintro ((h | ⟨rfl, m, hm, he⟩) | ⟨rfl, he⟩)
    · exact .inl h
    · exact .inr ⟨rfl, m, List.mem_append_left _ hm, he⟩
    · exact .inr ⟨rfl, L[j], List.mem_append_right _ (List.mem_singleton.2 rfl), he⟩
theorem Mid.start : Mid E n O L d 0 0 O [] := ⟨fun a => by rw [if_neg (fun h => pk_zero L a h.2)], fun a => ⟨(fun h => by cases h), fun h => absurd h.2 (pk_zero L a)⟩, by simp⟩
theorem Mid.row (h : Mid E n O L d k L.length Oc Nc) : Mid E n O L d (k + 1) 0 Oc Nc := ⟨fun a => (h.o a).trans (ifc (and_congr_right fun _ => pk_row a)), fun a => by rw [h.m a, pk_row], h.z⟩
theorem Mid.yes (h : Mid E n O L d k j Oc Nc) (hd : d ≠ 0) (hk : k < n) (hj : j < L.length) (h0 : Oc k = 0) (he : E k L[j]) : Mid E n O L d k (j + 1) (upd Oc k d) (Nc ++ [k]) := by
  have hO : O k = 0 := by have := h.o k; rw [h0] at this; split at this <;> first | (exact absurd this.symm hd) | exact this.symm
  refine ⟨fun a => ?_, fun a => ?_, ?_⟩
  · by_cases e : a = k
    · subst e
      rw [upd_at, if_pos ⟨hO, (pk_next hj a).2 (.inr ⟨rfl, he⟩)⟩]
    · rw [upd_ne e]
      exact (h.o a).trans (ifc (and_congr_right fun _ => ⟨fun h => (pk_next hj a).2 (.inl h), fun h => ((pk_next hj a).1 h).elim id fun h => absurd h.1 e⟩))
  · rw [List.mem_append, h.m a, List.mem_singleton, pk_next hj]
    constructor
    · rintro (⟨h1, h2⟩ | rfl)
      · exact ⟨h1, .inl h2⟩
      · exact ⟨hO, .inr ⟨rfl, he⟩⟩
    · rintro ⟨h1, h2 | ⟨h2, _⟩⟩
      · exact .inl ⟨h1, h2⟩
      · exact .inr h2
  · have h1 := zeros_upd h0 hd hk
    have h2 := h.z
    rw [List.length_append]
    simp only [List.length_cons, List.length_nil]
    omega
theorem Mid.no1 (h : Mid E n O L d k j Oc Nc) (hj : j < L.length) (h0 : Oc k ≠ 0) : Mid E n O L d k (j + 1) Oc Nc := by
  have key : ∀ a, (O a = 0 ∧ Pk E L k (j + 1) a) ↔ (O a = 0 ∧ Pk E L k j a) := fun a => by
    rw [pk_next hj]
    constructor
    · rintro ⟨h1, h2 | ⟨rfl, _⟩⟩
      · exact ⟨h1, h2⟩
      · exact Classical.byContradiction fun h3 => h0 (by rw [h.o a, if_neg h3]; exact h1)
    · rintro ⟨h1, h2⟩; exact ⟨h1, .inl h2⟩
  exact ⟨fun a => (h.o a).trans (ifc (key a).symm), fun a => by rw [h.m a, key], h.z⟩
theorem Mid.no2 (h : Mid E n O L d k j Oc Nc) (hj : j < L.length) (he : ¬ E k L[j]) : Mid E n O L d k (j + 1) Oc Nc := by
  have key : ∀ a, Pk E L k (j + 1) a ↔ Pk E L k j a := fun a => by
    rw [pk_next hj]
    exact ⟨fun h => h.elim id (fun k => absurd k.2 he), .inl⟩
  exact ⟨fun a => (h.o a).trans (ifc (and_congr_right fun _ => (key a).symm)), fun a => by rw [h.m a, key], h.z⟩
theorem Mid.next (hl : Lay E n t O L d) (hE : ∀ x y, E x y → x < n ∧ y < n) (h : Mid E n O L d n 0 Oc Nc) : Lay E n t Oc Nc (d + 1) := by
  have key : ∀ a, a < n → (Pk E L n 0 a ↔ ∃ m ∈ L, E a m) := fun a ha => ⟨fun h => h.elim (·.2) (fun k => by obtain ⟨_, m, hm, _⟩ := k; simp at hm), fun h => .inl ⟨ha, h⟩⟩
  have hp := hl.p
  refine ⟨fun a ha => ?_, fun e => by omega, fun _ a => ?_, by omega⟩
  · rw [h.o a]
    by_cases e : O a = 0 ∧ Pk E L n 0 a
    · rw [if_pos e]
      have h1 := (hl.key hE ha).1 ⟨e.1, (key a ha).1 e.2⟩
      rw [h1, if_pos (by omega)]
    · rw [if_neg e, hl.o a ha]
      have h1 : dst E a t ≠ d := fun k => e ⟨((hl.key hE ha).2 k).1, (key a ha).2 ((hl.key hE ha).2 k).2⟩
      by_cases h2 : dst E a t < d
      · rw [if_pos h2, if_pos (by omega)]
      · rw [if_neg h2, if_neg (by omega)]
  · rw [h.m a]
    constructor
    · rintro ⟨h1, h2⟩
      have ha : a < n := by rcases h2 with h2 | ⟨_, m, hm, _⟩; (· exact h2.1); (· simp at hm)
      exact ⟨ha, by rw [(hl.key hE ha).1 ⟨h1, (key a ha).1 h2⟩]⟩
    · rintro ⟨ha, h1⟩
      have h2 := (hl.key hE ha).2 (by omega)
      exact ⟨h2.1, (key a ha).2 h2.2⟩
end
end Sg
