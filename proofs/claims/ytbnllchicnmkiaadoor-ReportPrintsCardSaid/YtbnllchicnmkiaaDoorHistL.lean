/-
  A text with more ends of lines where there is one, and in front: its tokens.
-/
import Derived.Test.YtbnllchicnmkiaaDoorHistX
import Derived.Test.YtbnllchicnmkiaaDoorScanMore
import Derived.Lib.Replace
namespace Sg
open Go
theorem ext_app {us1 : List Tok} : ∀ {ts1 us2 ts2 : List Tok} {b : Bool}, us1.map bareT = ts1.map bareT → Ext false us2 ts2 → Ext b (us1 ++ us2) (ts1 ++ ts2) := by
  induction us1 with
  | nil =>
    intro ts1 us2 ts2 b h k
    cases ts1 with
    | nil => exact k.up
    | cons t ts => cases h
  | cons u us ih =>
    intro ts1 us2 ts2 b h k
    cases ts1 with
    | nil => cases h
    | cons t ts =>
      rw [List.map_cons, List.map_cons] at h
      injection h with h1 h2
      have hk : u.1 = t.1 := congrArg (fun x => x.1) h1
      have hx : u.2.2 = t.2.2 := congrArg (fun x => x.2.2) h1
      by_cases h4 : t.1 = 4
      · exact .line (hk.trans h4) h4 (ih h2 k)
      · exact .tok hk hx h4 (ih h2 k)
theorem ext_lines : ∀ {ls us ts : List Tok}, (∀ t ∈ ls, t.1 = 4) → Ext true us ts → Ext true (ls ++ us) ts
  | [], _, _, _, h => h
  | l :: _, _, _, hl, h => .more (hl l (List.mem_cons_self ..)) (ext_lines (fun t ht => hl t (List.mem_cons_of_mem _ ht)) h)
/-! ### A line by itself -/
theorem run_stop {p : Nat → Bool} {c : UInt8} (hc : p c.toNat = false) : ∀ (a r : Bs), run p (a ++ c :: r) = run p a
  | [], r => by rw [List.nil_append, run_cons, if_neg (by rw [hc]; simp)]; rfl
  | x :: a, r => by rw [List.cons_append, run_cons, run_cons, run_stop hc a r]
theorem bat_nl {a r : Bs} {j : Nat} (h : j ≤ a.length) {f : Nat → Bool} (h1 : f 10 = false) (h0 : f 0 = false) : f (bat (a ++ 10 :: r) j) = f (bat a j) := by
  by_cases e : j < a.length
  · rw [bat_app e]
  · have : j = a.length := by omega
    subst this
    rw [bat_out (l := a) (Nat.le_refl _), h0]
    have : bat (a ++ 10 :: r) a.length = 10 := by unfold bat; simp
    rw [this, h1]
theorem bat_nlE {a r : Bs} {j n : Nat} (h : j ≤ a.length) (h1 : n ≠ 10) (h0 : n ≠ 0) : (bat (a ++ 10 :: r) j = n) = (bat a j = n) := by
  have := bat_nl (r := r) h (f := fun c => decide (c = n)) (decide_eq_false (fun e => h1 e.symm)) (decide_eq_false (fun e => h0 e.symm))
  exact propext (decide_eq_decide.1 this)
theorem numL_line {a r : Bs} (ha : a ≠ []) : numL (a ++ 10 :: r) = numL a := by
  have hl : 1 ≤ a.length := List.length_pos_iff.2 ha
  obtain ⟨s, hs⟩ : ∃ s, (if bat a 0 = 45 then 1 else 0) = s := ⟨_, rfl⟩
  have hs' : (if bat (a ++ 10 :: r) 0 = 45 then 1 else 0) = s := by rw [bat_app (by omega)]; exact hs
  have hs1 : s ≤ a.length := by rw [← hs]; split <;> omega
  have e3 : (a ++ 10 :: r).drop s = a.drop s ++ 10 :: r := List.drop_append_of_le_length hs1
  have e4 : run digN ((a ++ 10 :: r).drop s) = run digN (a.drop s) := by rw [e3, run_stop rfl]
  have hr := run_le digN (a.drop s)
  have e5 : ((a ++ 10 :: r).drop s).take (run digN (a.drop s)) = (a.drop s).take (run digN (a.drop s)) := by rw [e3, List.take_append_of_le_length hr]
  rw [List.length_drop] at hr
  rw [numL_at hs', numL_at hs, e4, e5, bat_nl (j := s + run digN (a.drop s)) (by omega) (f := lowN) rfl rfl, bat_nl (j := 1) hl (f := innN) rfl rfl]
  simp only [bat_nlE (r := r) hs1 (show (48 : Nat) ≠ 10 by decide) (by decide)]
theorem tokL_line {a r : Bs} {i : Nat} (ha : a ≠ []) (hn : bat a 0 ≠ 10) : tokL i (a ++ 10 :: r) = tokL i a := by
  have hl : 1 ≤ a.length := List.length_pos_iff.2 ha
  have h0 : bat (a ++ 10 :: r) 0 = bat a 0 := bat_app (by omega)
  have ht : (a ++ 10 :: r).take 1 = a.take 1 := List.take_append_of_le_length hl
  have hi : run innN (a ++ 10 :: r) = run innN a := run_stop rfl a r
  have hti : (a ++ 10 :: r).take (run innN a) = a.take (run innN a) := List.take_append_of_le_length (run_le ..)
  have h1 : digN (bat (a ++ 10 :: r) 1) = digN (bat a 1) := bat_nl hl rfl rfl
  unfold tokL
  simp only [h0, ht, hi, hti, h1, numL_line ha]
  by_cases c1 : bat a 0 = 10
  · exact absurd c1 hn
  · rw [if_neg c1, if_neg c1]
    by_cases c2 : lowN (bat a 0) = true
    · rw [if_pos c2, if_pos c2]
    · rw [if_neg c2, if_neg c2]
      by_cases c3 : (digN (bat a 0) || (decide (bat a 0 = 45) && digN (bat a 1))) = true
      · rw [if_pos c3, if_pos c3]
        cases hq : numL a with
        | error e => rfl
        | ok y =>
          obtain ⟨k, v⟩ := y
          have hk := numL_len hq (by simpa using c3)
          show Except.ok ((2, (i : Int), bs ((a ++ 10 :: r).take k), v), k) = Except.ok ((2, (i : Int), bs (a.take k), v), k)
          rw [List.take_append_of_le_length hk.2]
      · rw [if_neg c3, if_neg c3]
def nlT (i : Nat) : Tok := (4, (i : Int), ⟨#[10]⟩, 0)
theorem scan_line : ∀ {n : Nat} {a r : Bs} {i : Nat}, a.length ≤ n → (∀ c ∈ a, c ≠ 10) → scanX i (a ++ 10 :: r) = match scanX i a with
    | .error e => .error e
    | .ok ts => aft (ts ++ [nlT (i + a.length)]) (scanX (i + a.length + 1) r)
  | n, [], r, i, _, _ => by
    have ht : tokL i ((10 : UInt8) :: r) = .ok (nlT i, 1) := rfl
    rw [List.nil_append, scanX_tok (by simp) (by show (10 : Nat) ≠ 32; decide) ht]; rfl
  | 0, _ :: _, _, _, h, _ => by simp at h
  | n + 1, x :: a, r, i, h, hc => by
    have hne : x :: a ≠ [] := by simp
    have hb : bat (x :: a ++ 10 :: r) 0 = bat (x :: a) 0 := bat_app (by simp)
    have hx : bat (x :: a) 0 ≠ 10 := by
      have h1 := hc x (List.mem_cons_self ..)
      intro e
      exact h1 (UInt8.toNat_inj.1 e)
    by_cases h32 : bat (x :: a) 0 = 32
    · have ih := scan_line (n := n) (a := a) (r := r) (i := i + 1) (by simpa using h) (fun c hc' => hc c (List.mem_cons_of_mem _ hc'))
      rw [scanX_blank (by simp) (hb.trans h32), scanX_blank hne h32]
      show scanX (i + 1) (a ++ 10 :: r) = match scanX (i + 1) a with | .error e => _ | .ok ts => _
      rw [ih]
      rw [show i + 1 + a.length = i + (x :: a).length by rw [List.length_cons]; omega]
    · have htk := tokL_line (r := r) (i := i) hne hx
      cases hq : tokL i (x :: a) with
      | error e => rw [scanX_err (by simp) (by rw [hb]; exact h32) (htk.trans hq), scanX_err hne h32 hq]
      | ok y =>
        obtain ⟨t, k⟩ := y
        have hk := tokL_len hne hq
        have hd : (x :: a ++ 10 :: r).drop k = (x :: a).drop k ++ 10 :: r := List.drop_append_of_le_length hk.2
        have hld : ((x :: a).drop k).length = (x :: a).length - k := List.length_drop ..
        have ih := scan_line (n := n) (a := (x :: a).drop k) (r := r) (i := i + k) (by rw [hld]; omega) (fun c hc' => hc c (List.mem_of_mem_drop hc'))
        rw [scanX_tok (by simp) (by rw [hb]; exact h32) (htk.trans hq), scanX_tok hne h32 hq, hd, ih]
        cases scanX (i + k) ((x :: a).drop k) with
        | error e => rfl
        | ok ts =>
          rw [hld, show i + k + ((x :: a).length - k) = i + (x :: a).length by omega]
          show aft [t] (aft (ts ++ [nlT (i + (x :: a).length)]) (scanX (i + (x :: a).length + 1) r)) = aft ([t] ++ ts ++ [nlT (i + (x :: a).length)]) (scanX (i + (x :: a).length + 1) r)
          cases scanX (i + (x :: a).length + 1) r with
          | error e => rfl
          | ok us => simp [aft]
/-! ### What is put in: ends of lines, with blanks ahead -/
def PadL (pad : Bs) : Prop := ∀ (i : Nat) (r : Bs), ∃ ls : List Tok, (∀ t ∈ ls, t.1 = 4) ∧ scanX i (pad ++ r) = aft ls (scanX (i + pad.length) r)
theorem pad_app {p q : Bs} (hp : PadL p) (hq : PadL q) : PadL (p ++ q) := fun i r => by
  obtain ⟨l1, h1, k1⟩ := hp i (q ++ r)
  obtain ⟨l2, h2, k2⟩ := hq (i + p.length) r
  refine ⟨l1 ++ l2, fun t ht => (List.mem_append.1 ht).elim (h1 t) (h2 t), ?_⟩
  rw [List.append_assoc, k1, k2, List.length_append, Nat.add_assoc]
  cases scanX (i + (p.length + q.length)) r with
  | error e => rfl
  | ok us => simp [aft]
theorem pad_nl : PadL [10] := fun i r => ⟨[nlT i], (fun t ht => by rw [List.mem_singleton.1 ht]; rfl), scan_line (n := 0) (a := []) (Nat.le_refl _) (fun _ h => by cases h)⟩
theorem pad_bl : PadL [32, 10] := fun i r => ⟨[nlT (i + 1)], (fun t ht => by rw [List.mem_singleton.1 ht]; rfl), by
  have := scan_line (n := 1) (a := [32]) (r := r) (i := i) (Nat.le_refl _) (fun c h => by rw [List.mem_singleton.1 h]; decide)
  rw [show scanX i [32] = .ok [] from scanX_blank (by simp) rfl] at this
  exact this⟩
theorem pad_2 : PadL [10, 32, 10, 10] := pad_app pad_nl (pad_app pad_bl pad_nl)
def rep (pad : Bs) : Bs → Bs
  | [] => []
  | c :: r => if c = 10 then 10 :: (pad ++ rep pad r) else c :: rep pad r
theorem rep_no {pad : Bs} : ∀ {a : Bs}, (∀ c ∈ a, c ≠ 10) → rep pad a = a
  | [], _ => rfl
  | c :: a, h => by
    unfold rep
    rw [if_neg (h c (List.mem_cons_self ..)), rep_no (fun d hd => h d (List.mem_cons_of_mem _ hd))]
theorem rep_line {pad : Bs} : ∀ {a r : Bs}, (∀ c ∈ a, c ≠ 10) → rep pad (a ++ 10 :: r) = a ++ 10 :: (pad ++ rep pad r)
  | [], r, _ => by
    rw [List.nil_append]
    conv => lhs; unfold rep
    rw [if_pos rfl]; rfl
  | c :: a, r, h => by
    rw [List.cons_append]
    conv => lhs; unfold rep
    rw [if_neg (h c (List.mem_cons_self ..)), rep_line (fun d hd => h d (List.mem_cons_of_mem _ hd))]; rfl
theorem line_split : ∀ (l : Bs), (∀ c ∈ l, c ≠ 10) ∨ ∃ a r, l = a ++ 10 :: r ∧ ∀ c ∈ a, c ≠ 10
  | [] => .inl (fun _ h => by cases h)
  | c :: l => by
    by_cases hc : c = 10
    · subst hc; exact .inr ⟨[], l, rfl, fun _ h => by cases h⟩
    · rcases line_split l with h | ⟨a, r, h1, h2⟩
      · exact .inl (fun d hd => by rcases List.mem_cons.1 hd with rfl | hd; (· exact hc); (· exact h d hd))
      · exact .inr ⟨c :: a, r, by rw [h1]; rfl, fun d hd => by rcases List.mem_cons.1 hd with rfl | hd; (· exact hc); (· exact h2 d hd)⟩
def RelS (b : Bool) : Except (Nat × Nat) (List Tok) → Except (Nat × Nat) (List Tok) → Prop
  | .ok us, .ok ts => Ext b us ts
  | .error p, .error q => p.2 = q.2
  | _, _ => False
theorem scan_rep {pad : Bs} (hp : PadL pad) : ∀ {n : Nat} {l : Bs} {i j : Nat}, l.length ≤ n → RelS false (scanX j (rep pad l)) (scanX i l)
  | n, l, i, j, hn => by
    have sh0 : ∀ (k : Nat) (a : Bs), scanX k a = sh k (scanX 0 a) := fun k a => by have := scanX_sh k 0 a; rw [Nat.zero_add] at this; exact this
    rcases line_split l with h | ⟨a, r, rfl, h⟩
    · rw [rep_no h, sh0 j, sh0 i]
      cases scanX 0 l with
      | error e => exact rfl
      | ok ts =>
        have := ext_app (b := false) (us1 := ts.map (shT j)) (ts1 := ts.map (shT i)) (us2 := []) (ts2 := []) (by rw [bare_sh, bare_sh]) .nil
        rw [List.append_nil, List.append_nil] at this
        exact this
    · rw [rep_line h, scan_line (Nat.le_refl _) h, scan_line (Nat.le_refl _) h, sh0 j a, sh0 i a]
      cases hq : scanX 0 a with
      | error e => exact rfl
      | ok ts =>
        obtain ⟨ls, h1, h2⟩ := hp (j + a.length + 1) (rep pad r)
        have hl : (a ++ 10 :: r).length = a.length + r.length + 1 := by rw [List.length_append, List.length_cons]; omega
        have key : ∀ m, r.length ≤ m → m < n + 1 → RelS false (scanX (j + a.length + 1 + pad.length) (rep pad r)) (scanX (i + a.length + 1) r) := fun m hm hmn => by
          cases n with
          | zero => omega
          | succ n => exact scan_rep hp (n := n) (by omega)
        have ih := key r.length (Nat.le_refl _) (by omega)
        show RelS false (aft (ts.map (shT j) ++ [nlT (j + a.length)]) (scanX (j + a.length + 1) (pad ++ rep pad r))) (aft (ts.map (shT i) ++ [nlT (i + a.length)]) (scanX (i + a.length + 1) r))
        rw [h2]
        cases hx : scanX (j + a.length + 1 + pad.length) (rep pad r) with
        | error e =>
          cases hy : scanX (i + a.length + 1) r with
          | error e' => rw [hx, hy] at ih; exact ih
          | ok us' => rw [hx, hy] at ih; exact ih.elim
        | ok us =>
          cases hy : scanX (i + a.length + 1) r with
          | error e' => rw [hx, hy] at ih; exact ih.elim
          | ok us' =>
            rw [hx, hy] at ih
            show Ext false (ts.map (shT j) ++ [nlT (j + a.length)] ++ (ls ++ us)) (ts.map (shT i) ++ [nlT (i + a.length)] ++ us')
            rw [List.append_assoc, List.append_assoc]
            have hx' : Ext true (ls ++ us) us' := ext_lines h1 (Ext.up ih)
            have hy' : Ext false (nlT (j + a.length) :: (ls ++ us)) (nlT (i + a.length) :: us') := .line rfl rfl hx'
            exact ext_app (by rw [bare_sh, bare_sh]) hy'
open Go.Lib in
theorem index_line : ∀ {a r : Bs}, (∀ c ∈ a, c ≠ 10) → Lib.index (a ++ 10 :: r) [10] = a.length
  | [], r, _ => by rw [List.nil_append]; unfold Lib.index; rw [if_pos (by simp [List.isPrefixOf])]; rfl
  | c :: a, r, h => by
    have hc := h c (List.mem_cons_self ..)
    have ih := index_line (a := a) (r := r) (fun d hd => h d (List.mem_cons_of_mem _ hd))
    rw [List.cons_append]
    unfold Lib.index
    rw [if_neg (by simp [List.isPrefixOf, Ne.symm hc]), ih, if_neg (by simp), List.length_cons]
    rfl
theorem index_no : ∀ {a : Bs}, (∀ c ∈ a, c ≠ 10) → Lib.index a [10] = -1
  | [], _ => rfl
  | c :: a, h => by
    have hc := h c (List.mem_cons_self ..)
    unfold Lib.index
    rw [if_neg (by simp [List.isPrefixOf, Ne.symm hc]), index_no (fun d hd => h d (List.mem_cons_of_mem _ hd))]; rfl
theorem count_app (a r : Bs) (h : ∀ c ∈ a, c ≠ 10) : Lib.count (a ++ 10 :: r) [10] = Lib.count r [10] + 1 := by
  rw [Lib.count_one, Lib.count_one, List.count_append, List.count_cons_self, List.count_eq_zero_of_not_mem (fun hm => h 10 hm rfl)]; omega
theorem count_no {a : Bs} (h : ∀ c ∈ a, c ≠ 10) : Lib.count a [10] = 0 := by
  rw [Lib.count_one, List.count_eq_zero_of_not_mem (fun hm => h 10 hm rfl)]
theorem replaceK_rep (pad : Bs) : ∀ {n : Nat} {l : Bs}, l.length ≤ n → Lib.replaceK [10] (10 :: pad) (Lib.count l [10]) l = rep pad l
  | n, l, hn => by
    rcases line_split l with h | ⟨a, r, rfl, h⟩
    · rw [count_no h, rep_no h]; rfl
    · have hl : (a ++ 10 :: r).length = a.length + r.length + 1 := by rw [List.length_append, List.length_cons]; omega
      rw [count_app a r h, Lib.replaceK_hit _ _ _ _ a.length (index_line h), rep_line h]
      have e1 : (a ++ 10 :: r).take a.length = a := List.take_left
      have e2 : (a ++ 10 :: r).drop (a.length + [(10 : UInt8)].length) = r := by
        rw [← List.drop_drop, List.drop_left]; rfl
      rw [e1, e2]
      cases n with
      | zero => omega
      | succ n => rw [replaceK_rep pad (n := n) (l := r) (by omega)]; simp
theorem replaceAll_rep {pad : Bs} (hp : pad ≠ []) (l : Bs) : Lib.replaceAll l [10] (10 :: pad) = rep pad l := by
  unfold Lib.replaceAll Lib.replace
  rw [if_neg (by
    intro h
    have := beq_iff_eq.1 h
    injection this with _ h2
    exact hp h2.symm)]
  have : Lib.replaceNum l [10] (-1) = Lib.count l [10] := by unfold Lib.replaceNum; rw [if_pos (.inl (by decide))]
  rw [this, replaceK_rep pad (Nat.le_refl _)]
theorem rep_len (pad : Bs) : ∀ (l : Bs), l.length ≤ (rep pad l).length
  | [] => Nat.le_refl _
  | c :: l => by
    have := rep_len pad l
    unfold rep
    split
    · rw [List.length_cons, List.length_cons, List.length_append]; omega
    · rw [List.length_cons, List.length_cons]; omega
theorem scan_pad {pad s : Bs} (hp : PadL pad) (ht : (pad ++ rep pad s).length ≤ 20000) : RelS true (scanA (pad ++ rep pad s)) (scanA s) := by
  have hl := rep_len pad s
  rw [List.length_append] at ht
  unfold scanA
  rw [if_neg (by rw [List.length_append]; omega), if_neg (by omega)]
  show RelS true (scanX 0 (pad ++ rep pad s)) (scanX 0 s)
  obtain ⟨ls, h1, h2⟩ := hp 0 (rep pad s)
  rw [h2]
  have ih := scan_rep hp (n := s.length) (l := s) (i := 0) (j := 0 + pad.length) (Nat.le_refl _)
  cases hx : scanX (0 + pad.length) (rep pad s) with
  | error e =>
    cases hy : scanX 0 s with
    | error e' => rw [hx, hy] at ih; exact ih
    | ok us' => rw [hx, hy] at ih; exact ih.elim
  | ok us =>
    cases hy : scanX 0 s with
    | error e' => rw [hx, hy] at ih; exact ih.elim
    | ok us' => rw [hx, hy] at ih; exact ext_lines h1 (Ext.up ih)
end Sg
