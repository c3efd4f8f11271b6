/-
  What holds of a report that is read: its numbers are of 64 bits when the tokens' are; so it is one whose text is read as it.
-/
import Derived.Test.YtbnllchicnmkiaaDoorRepL
set_option linter.unusedVariables false
set_option linter.unusedSimpArgs false
namespace Sg
open Go
section
variable {α β : Type}
/-- From tokens whose numbers are such: what is left is such, and what is read is so. -/
def PN (P : α → Prop) (p : PR α) : Prop := ∀ ts a r, p ts = some (a, r) → TokG in64 ts → TokG in64 r ∧ P a
theorem pn_bind {Q : α → Prop} {P : β → Prop} {p : PR α} {f : α → PR β} (hp : PN Q p) (hf : ∀ a, Q a → PN P (f a)) : PN P (pbind p f) := fun ts b r h hg => by
  obtain ⟨a, r', h1, h2⟩ := bind_some h
  obtain ⟨g1, q1⟩ := hp ts a r' h1 hg
  exact hf a q1 r' b r h2 g1
theorem pn_ret {P : α → Prop} {a : α} (h : P a) : PN P (pret a) := fun ts b r k hg => by
  have k : some (a, ts) = some (b, r) := k
  injection k with k; injection k with k1 k2
  subst k1; subst k2; exact ⟨hg, h⟩
theorem pn_tok {k : Int} {x : ByteArray} : PN (fun _ => True) (ptok k x) := fun ts a r h hg => by
  unfold ptok at h
  split at h
  · injection h with h; injection h with _ h; subst h
    exact ⟨hg.suf (tail_suf ts), trivial⟩
  · cases h
theorem pn_num : PN in64 pnum := fun ts a r h hg => by
  unfold pnum at h
  split at h
  · rename_i hs
    injection h with h; injection h with h1 h2; subst h1; subst h2
    exact ⟨hg.suf (tail_suf ts), hg.hd hs⟩
  · cases h
theorem pn_ends : PN (fun _ => True) pends := fun ts a r h hg => by
  unfold pends at h
  split at h
  · injection h with h; injection h with _ h; subst h
    exact ⟨fun t ht => (by cases ht), trivial⟩
  · split at h
    · injection h with h; injection h with _ h; subst h
      exact ⟨hg.suf (skipP_suf ts), trivial⟩
    · cases h
theorem pn_given {o : Option β} : PN (fun _ => True) (pgiven o) := fun ts a r h hg => by
  cases o with
  | none => cases h
  | some b =>
    have h : some (b, ts) = some (a, r) := h
    injection h with h; injection h with _ h; subst h; exact ⟨hg, trivial⟩
theorem pn_word {f : ByteArray → Option β} : PN (fun _ => True) (pword f) := pn_bind pn_tok fun _ _ => pn_given
theorem pn_if {P : α → Prop} {c : List Tok → Bool} {p q : PR α} (hp : PN P p) (hq : PN P q) : PN P (pif c p q) := fun ts a r h hg => by
  unfold pif at h
  split at h
  · exact hp ts a r h hg
  · exact hq ts a r h hg
theorem pn_key : PN (fun _ => True) pkey := pn_bind pn_tok fun _ _ => pn_bind (pn_if pn_tok (pn_ret trivial)) fun _ _ => pn_bind pn_tok fun _ _ => pn_ret trivial
theorem pn_manyF {P : α → Prop} {c : List Tok → Bool} {p : PR α} (hp : PN P p) : ∀ n, PN (fun l => ∀ x ∈ l, P x) (manyF c p n)
  | 0 => fun ts l r h hg => by
    have h : some (([] : List α), ts) = some (l, r) := h
    injection h with h; injection h with h1 h2
    subst h1; subst h2
    exact ⟨hg, fun _ hx => (by cases hx)⟩
  | n + 1 => fun ts l r h hg => by
    unfold manyF at h
    split at h
    · cases hq : p ts with
      | none => rw [hq] at h; cases h
      | some x =>
        obtain ⟨a, r'⟩ := x
        rw [hq] at h
        simp only at h
        obtain ⟨g1, pa⟩ := hp ts a r' hq hg
        cases hy : manyF c p n r' with
        | none => rw [hy] at h; cases h
        | some z =>
          obtain ⟨l', s⟩ := z
          rw [hy] at h
          injection h with h; injection h with h1 h2
          subst h1; subst h2
          obtain ⟨g2, pl⟩ := pn_manyF hp n r' l' s hy g1
          exact ⟨g2, fun x hx => by
            rcases List.mem_cons.1 hx with rfl | hx
            · exact pa
            · exact pl x hx⟩
    · injection h with h; injection h with h1 h2
      subst h1; subst h2
      exact ⟨hg, fun _ hx => (by cases hx)⟩
theorem pn_many {P : α → Prop} {c : List Tok → Bool} {p : PR α} (hp : PN P p) : PN (fun l => ∀ x ∈ l, P x) (pmany c p) := fun ts l r h hg => pn_manyF hp ts.length ts l r h hg
end
def NumW (w : QWhy) : Prop := in64 w.1 ∧ in64 w.2.1 ∧ in64 w.2.2.2.2.1 ∧ in64 w.2.2.2.2.2.1
def NumA (a : QAn) : Prop := in64 a.2.1 ∧ in64 a.2.2.1 ∧ in64 a.2.2.2.1 ∧ in64 a.2.2.2.2.2.1 ∧ ∀ w ∈ a.2.2.2.2.2.2.1, NumW w
def NumQ (r : QRep) : Prop := in64 r.1 ∧ (∀ a ∈ r.2.2.1, NumA a) ∧ ∀ z ∈ r.2.2.2.2.2, in64 z
theorem pn_why {f : Wds} : PN NumW (pwhy f) := pn_bind pn_tok fun _ _ => pn_bind pn_num fun _ ha => pn_bind pn_word fun _ _ => pn_bind pn_num fun _ hb => pn_bind pn_key fun _ _ => pn_bind pn_num fun _ hx => pn_bind pn_num fun _ hy => pn_bind pn_word fun _ _ => pn_bind pn_word fun _ _ => pn_bind pn_tok fun _ _ => pn_ret ⟨ha, hb, hx, hy⟩
theorem pn_an {f : Wds} : PN NumA (panm f) := pn_bind pn_tok fun _ _ => pn_bind pn_word fun _ _ => pn_bind pn_num fun _ h1 => pn_bind pn_num fun _ h2 => pn_bind pn_num fun _ h3 => pn_bind pn_key fun _ _ => pn_bind pn_num fun _ h4 => pn_bind pn_word fun _ _ => pn_bind pn_word fun _ _ => pn_bind (pn_many pn_why) fun _ h5 => pn_bind pn_ends fun _ _ => pn_ret ⟨h1, h2, h3, h4, h5⟩
theorem pn_order {a : Int} : PN (fun l => ∀ z ∈ l, in64 z) (porder a) := by
  unfold porder
  split
  · exact pn_bind pn_tok fun _ _ => pn_bind (pn_many pn_num) fun _ h => pn_bind pn_tok fun _ _ => pn_ret h
  · exact pn_ret (fun _ h => by cases h)
theorem pn_rep {f : Wds} : PN NumQ (prep f) := pn_bind pn_tok fun _ _ => pn_bind pn_num fun _ h1 => pn_bind pn_ends fun _ _ => pn_bind pn_tok fun _ _ => pn_bind pn_word fun _ _ => pn_bind pn_ends fun _ _ => pn_bind (pn_many pn_an) fun _ h2 => pn_bind pn_tok fun _ _ => pn_bind pn_word fun _ _ => pn_bind pn_ends fun _ _ => pn_bind pn_tok fun _ _ => pn_bind pn_word fun _ _ => pn_bind pn_order fun _ h3 => pn_bind pn_ends fun _ _ => pn_ret ⟨h1, h2, h3⟩
theorem repP_num {f : Wds} {may : QRep → Bool} {ts : List Tok} {r : QRep} (h : repP f may ts = some r) (hg : TokG in64 ts) : NumQ r ∧ may r = true := by
  unfold repP at h
  split at h
  · rename_i r' hp
    split at h
    · rename_i hm
      injection h with h; subst h
      exact ⟨(pn_rep _ _ _ hp (hg.suf (skipP_suf ts))).2, hm⟩
    · cases h
  · cases h
/-- What may be, and has numbers of 64 bits, is in order. -/
theorem okq_of {K : ByteArray → Bool} (hK : ∀ k, K k = true → okK k) {r : QRep} (hm : mayR K r = true) (hn : NumQ r) : OkQ r := by
  obtain ⟨m1, m2, m3, m4, m5, m6, m7⟩ := mayR_of hm
  obtain ⟨n1, n2, n3⟩ := hn
  refine ⟨n1, fun a ha => ?_, m3, m4, n3, m6⟩
  obtain ⟨a1, a2, a3, a4, a5⟩ := mayA_of (m7 a ha)
  obtain ⟨b1, b2, b3, b4, b5⟩ := n2 a ha
  refine ⟨a1, b1, b2, b3, hK _ a2, b4, fun w hw => ?_, a3⟩
  obtain ⟨w1, w2⟩ := mayW_of (a5 w hw)
  obtain ⟨c1, c2, c3, c4⟩ := b5 w hw
  exact ⟨c1, c2, w1, hK _ w2, c3, c4⟩
/-! ### How long a text may be -/
theorem nameW_len {l : List ByteArray} {B : Nat} (h : ∀ s ∈ l, s.size ≤ B) (k : Int) : (nameW l k).size ≤ B := by
  unfold nameW
  split
  · cases hq : l[k.toNat]? with
    | none => exact Nat.zero_le _
    | some s => exact h s (List.mem_of_getElem? hq)
  · exact Nat.zero_le _
theorem labelN_len (k : Int) : (labelN k).size ≤ 2 := by
  unfold labelN
  repeat' split
  all_goals decide
theorem bsel_len {b : Bool} {x y : ByteArray} {B : Nat} (hx : x.size ≤ B) (hy : y.size ≤ B) : (bsel b x y).size ≤ B := by
  cases b
  · exact hy
  · exact hx
theorem wT_len {s : ByteArray} {B : Nat} (h : s.size ≤ B) : (wT s).length ≤ B + 1 := by
  unfold wT; rw [List.length_cons, sb_len]; omega
theorem keyT_len {k : ByteArray} (h : k.size ≤ 6) : (keyT k).length ≤ 11 := by
  have := wT_len h
  unfold keyT
  split <;> simp only [List.length_append, List.length_cons, List.length_nil] <;> omega
theorem whyT_len {w : QWhy} (h : NumW w) (hk : w.2.2.2.1.size ≤ 6) : (whyT w).length ≤ 150 := by
  obtain ⟨h1, h2, h3, h4⟩ := h
  have a1 := valT_len h1
  have a2 := valT_len h2
  have a3 := valT_len h3
  have a4 := valT_len h4
  have a5 := keyT_len hk
  have a6 := wT_len (labelN_len w.2.2.1)
  have a7 := wT_len (bsel_len (b := w.2.2.2.2.2.2.1) (x := wNil) (y := wValue) (B := 5) (by decide) (by decide))
  have a8 := wT_len (bsel_len (b := w.2.2.2.2.2.2.2) (x := wCond) (y := wSure) (B := 5) (by decide) (by decide))
  unfold whyT
  simp only [List.length_append, List.length_cons, List.length_nil]
  omega
theorem anT_len {a : QAn} (h : NumA a) (hk : a.2.2.2.2.1.size ≤ 6) (hc : a.2.2.2.2.2.2.1.length ≤ 300) (hw : ∀ w ∈ a.2.2.2.2.2.2.1, w.2.2.2.1.size ≤ 6) : (anT a).length ≤ 46000 := by
  obtain ⟨h1, h2, h3, h4, h5⟩ := h
  have a1 := valT_len h1
  have a2 := valT_len h2
  have a3 := valT_len h3
  have a4 := valT_len h4
  have a5 := keyT_len hk
  have a6 := wT_len (nameW_len (l := no :: KWS) (B := 8) (by decide) a.1)
  have a7 := wT_len (bsel_len (b := a.2.2.2.2.2.2.2.1) (x := wReal) (y := wPlain) (B := 5) (by decide) (by decide))
  have a8 := wT_len (nameW_len (l := VWS) (B := 7) (by decide) a.2.2.2.2.2.2.2.2)
  have a9 := fmT_len (f := whyT) (B := 150) (l := a.2.2.2.2.2.2.1) (fun w hx => whyT_len (h5 w hx) (hw w hx))
  have b1 : (sb wAnomaly).length = 7 := rfl
  have b2 := Nat.mul_le_mul_right 150 hc
  unfold anT kindN levelN
  simp only [List.length_append, List.length_cons, List.length_nil]
  omega
theorem repT_len {r : QRep} (h : NumQ r) (hl : r.2.2.1.length ≤ 1000) (ho : r.2.2.2.2.2.length ≤ 300) (ha : ∀ a ∈ r.2.2.1, a.2.2.2.2.1.size ≤ 6 ∧ a.2.2.2.2.2.2.1.length ≤ 300 ∧ ∀ w ∈ a.2.2.2.2.2.2.1, w.2.2.2.1.size ≤ 6) : (repT r).length ≤ 47000000 := by
  obtain ⟨h1, h2, h3⟩ := h
  have a1 := valT_len h1
  have a2 := fmT_len (f := anT) (B := 46000) (l := r.2.2.1) (fun a hx => anT_len (h2 a hx) (ha a hx).1 (ha a hx).2.1 (ha a hx).2.2)
  have a3 := Nat.mul_le_mul_right 46000 hl
  have a4 := wT_len (bsel_len (b := r.2.1) (x := wYes) (y := wNo) (B := 3) (by decide) (by decide))
  have a5 := wT_len (nameW_len (l := VWS) (B := 7) (by decide) r.2.2.2.1)
  have a6 := wT_len (nameW_len (l := AWS) (B := 7) (by decide) r.2.2.2.2.1)
  have a7 := fmT_len (f := valT) (B := 22) (l := r.2.2.2.2.2) (fun z hz => valT_len (h3 z hz))
  have a8 := Nat.mul_le_mul_right 22 ho
  have b1 : (sb wTxns).length = 4 := rfl
  have b2 : (sb wUnique).length = 6 := rfl
  have b3 : (sb wLevel).length = 5 := rfl
  have b4 : (sb wAnswer).length = 6 := rfl
  unfold repT repTz ordT levelN answerN
  split <;> simp only [List.length_append, List.length_cons, List.length_nil] <;> omega
end Sg
