/-
  A history's tokens: they print as its text, and read as it.
-/
import Derived.Test.YtbnllchicnmkiaaDoorHistX
import Derived.Test.YtbnllchicnmkiaaDoorHistT
import Derived.Test.YtbnllchicnmkiaaDoorBack
namespace Sg
open Go
def tkW (s : ByteArray) : Tok := (1, 0, s, 0)
def tkN (z : Int) : Tok := (2, 0, bs (Lib.itoa z), z)
def tkM (c : UInt8) : Tok := (3, 0, mk1 c, 0)
def tkL : Tok := (4, 0, ⟨#[10]⟩, 0)
def nilW : ByteArray := ⟨#[110, 105, 108]⟩
def midK (x : TOp) : List Tok := if x.2.2.2.2.2 = true then [tkW nilW] else if x.1 = 2 ∧ x.2.2.2.2.1 = true then tkM 40 :: (x.2.2.2.1.map tkN ++ [tkM 41]) else if x.1 ≠ 2 ∧ (x.1 ≠ 4 ∨ x.2.2.2.2.1 = true) then [tkN x.2.2.1] else []
def opK (x : TOp) : List Tok := tkM 91 :: tkW (bs (wordO x.1)) :: tkW x.2.1 :: (midK x ++ [tkM 93])
def evK (e : TEv) : List Tok := tkW (bs (wordE e.1)) :: tkN e.2.1 :: (e.2.2.flatMap opK ++ [tkL])
def in64 (z : Int) : Prop := -9223372036854775808 ≤ z ∧ z ≤ 9223372036854775807
def isW (s : ByteArray) : Prop := sb s ≠ [] ∧ lowN (bat (sb s) 0) = true ∧ ∀ c ∈ sb s, innN c.toNat = true
structure OkO (key : ByteArray → Bool) (x : TOp) : Prop where
  kind : 1 ≤ x.1 ∧ x.1 ≤ 4
  key_ : key x.2.1 = true
  word : isW x.2.1
  val : in64 x.2.2.1
  list : ∀ z ∈ x.2.2.2.1, in64 z
  bare : x.1 = 1 ∨ x.1 = 3 → x.2.2.2.1 = [] ∧ x.2.2.2.2.1 = false ∧ x.2.2.2.2.2 = false
  two : x.1 = 2 → x.2.2.1 = 0 ∧ x.2.2.2.2.2 = false ∧ x.2.2.2.1.length ≤ 40 ∧ (x.2.2.2.2.1 = true ∨ x.2.2.2.1 = [])
  four : x.1 = 4 → x.2.2.2.1 = [] ∧ (x.2.2.2.2.1 = true ∨ x.2.2.2.2.2 = false) ∧ (x.2.2.1 = 0 ∨ (x.2.2.2.2.1 = true ∧ x.2.2.2.2.2 = false))
structure OkV (key : ByteArray → Bool) (e : TEv) : Prop where
  kind : 1 ≤ e.1 ∧ e.1 ≤ 4
  proc : 0 ≤ e.2.1 ∧ e.2.1 ≤ 99
  len : 1 ≤ e.2.2.length ∧ e.2.2.length ≤ 8
  ops : ∀ x ∈ e.2.2, OkO key x
/-! ### The text -/
theorem prF_W (s : ByteArray) (r : List Tok) : prF false (tkW s :: r) = 32 :: (sb s ++ prF false r) := rfl
theorem prF_M (c : UInt8) (r : List Tok) : prF false (tkM c :: r) = 32 :: c :: prF false r := rfl
theorem prF_N (z : Int) (r : List Tok) : prF false (tkN z :: r) = 32 :: (Lib.itoa z ++ prF false r) := rfl
theorem prF_L (r : List Tok) : prF false (tkL :: r) = 10 :: prF true r := rfl
theorem prF_Wt (s : ByteArray) (r : List Tok) : prF true (tkW s :: r) = sb s ++ prF false r := rfl
theorem prF_vals : ∀ (l : List Int) (r : List Tok), prF false (l.map tkN ++ r) = l.flatMap valT ++ prF false r
  | [], _ => rfl
  | z :: l, r => by
    rw [List.map_cons, List.cons_append, prF_N, prF_vals l r, List.flatMap_cons]
    simp [valT]
theorem prF_mid (x : TOp) (r : List Tok) : prF false (midK x ++ r) = midT x ++ prF false r := by
  unfold midK midT
  split
  · rfl
  · split
    · rw [List.cons_append, prF_M, List.append_assoc, prF_vals, List.cons_append, List.nil_append, prF_M]
      simp
    · split
      · rw [List.cons_append, List.nil_append, prF_N]; simp [valT]
      · rfl
theorem prF_op (x : TOp) (r : List Tok) : prF false (opK x ++ r) = opT x ++ prF false r := by
  unfold opK opT
  rw [List.cons_append, List.cons_append, List.cons_append, prF_M, prF_W, prF_W, List.append_assoc, prF_mid, List.cons_append, List.nil_append, prF_M, sb_bs]
  simp
theorem prF_ops : ∀ (l : List TOp) (r : List Tok), prF false (l.flatMap opK ++ r) = l.flatMap opT ++ prF false r
  | [], _ => rfl
  | x :: l, r => by
    rw [List.flatMap_cons, List.append_assoc, prF_op, prF_ops l r, List.flatMap_cons, List.append_assoc]
theorem prF_ev (e : TEv) (r : List Tok) : prF true (evK e ++ r) = evT e ++ prF true r := by
  unfold evK evT hdT
  rw [List.cons_append, List.cons_append, prF_Wt, prF_N, List.append_assoc, prF_ops, List.cons_append, List.nil_append, prF_L, sb_bs]
  simp
theorem prF_hist : ∀ (l : List TEv), prF true (l.flatMap evK) = l.flatMap evT
  | [] => rfl
  | e :: l => by rw [List.flatMap_cons, prF_ev, prF_hist l, List.flatMap_cons]
/-! ### They are tokens as a scan gives them -/
theorem wt_W {s : ByteArray} (h : isW s) : WT (tkW s) := .inl ⟨rfl, rfl, h.1, h.2.1, h.2.2⟩
theorem wt_N {z : Int} (h : in64 z) : WT (tkN z) := .inr (.inl ⟨rfl, h.1, h.2, sb_bs _⟩)
theorem wt_M {c : UInt8} (h : markN c.toNat = true) : WT (tkM c) := .inr (.inr (.inl ⟨rfl, rfl, c, rfl, h⟩))
theorem wt_L : WT tkL := .inr (.inr (.inr ⟨rfl, rfl, rfl⟩))
theorem wordO_W {k : Int} (h : 1 ≤ k ∧ k ≤ 4) : isW (bs (wordO k)) := by
  have : k = 1 ∨ k = 2 ∨ k = 3 ∨ k = 4 := by omega
  unfold isW
  rw [sb_bs]
  rcases this with rfl | rfl | rfl | rfl <;> exact ⟨by decide, by decide, by decide⟩
theorem wordE_W {k : Int} (h : 1 ≤ k ∧ k ≤ 4) : isW (bs (wordE k)) := by
  have : k = 1 ∨ k = 2 ∨ k = 3 ∨ k = 4 := by omega
  unfold isW
  rw [sb_bs]
  rcases this with rfl | rfl | rfl | rfl <;> exact ⟨by decide, by decide, by decide⟩
theorem wt_op {key : ByteArray → Bool} {x : TOp} (h : OkO key x) : ∀ t ∈ opK x, WT t := by
  intro t ht
  unfold opK at ht
  simp only [List.mem_cons, List.mem_append, List.not_mem_nil, or_false] at ht
  rcases ht with rfl | rfl | rfl | ht | rfl
  · exact wt_M (by decide)
  · exact wt_W (wordO_W h.kind)
  · exact wt_W h.word
  · unfold midK at ht
    split at ht
    · rw [List.mem_singleton.1 ht]; exact wt_W ⟨by decide, by decide, by decide⟩
    · split at ht
      · simp only [List.mem_cons, List.mem_append, List.not_mem_nil, or_false, List.mem_map] at ht
        rcases ht with rfl | ⟨z, hz, rfl⟩ | rfl
        · exact wt_M (by decide)
        · exact wt_N (h.list z hz)
        · exact wt_M (by decide)
      · split at ht
        · rw [List.mem_singleton.1 ht]; exact wt_N h.val
        · cases ht
  · exact wt_M (by decide)
theorem wt_hist {key : ByteArray → Bool} {l : List TEv} (h : ∀ e ∈ l, OkV key e) : ∀ t ∈ l.flatMap evK, WT t := by
  intro t ht
  obtain ⟨e, he, ht⟩ := List.mem_flatMap.1 ht
  have hv := h e he
  unfold evK at ht
  simp only [List.mem_cons, List.mem_append, List.not_mem_nil, or_false, List.mem_flatMap] at ht
  rcases ht with rfl | rfl | ⟨x, hx, ht⟩ | rfl
  · exact wt_W (wordE_W hv.kind)
  · exact wt_N ⟨by have := hv.proc; omega, by have := hv.proc; omega⟩
  · exact wt_op (hv.ops x hx) t ht
  · exact wt_L
/-! ### They read as the history -/
theorem sW (s : ByteArray) (r : List Tok) (k : Int) (x : ByteArray) : seesB (tkW s :: r) k x = (decide (1 = k) && (decide (x = ⟨#[]⟩) || decide (s = x))) := rfl
theorem sM (c : UInt8) (r : List Tok) (k : Int) (x : ByteArray) : seesB (tkM c :: r) k x = (decide (3 = k) && (decide (x = ⟨#[]⟩) || decide (mk1 c = x))) := rfl
theorem sN (z : Int) (r : List Tok) (k : Int) (x : ByteArray) : seesB (tkN z :: r) k x = (decide (2 = k) && (decide (x = ⟨#[]⟩) || decide (bs (Lib.itoa z) = x))) := rfl
theorem sN_no (z : Int) (r : List Tok) : seesB (tkN z :: r) 2 no = true := by rw [sN]; show (true && (decide ((⟨#[]⟩ : ByteArray) = ⟨#[]⟩) || _)) = true; rw [decide_eq_true rfl]; rfl
theorem sW_no (s : ByteArray) (r : List Tok) : seesB (tkW s :: r) 1 no = true := by rw [sW]; show (true && (decide ((⟨#[]⟩ : ByteArray) = ⟨#[]⟩) || _)) = true; rw [decide_eq_true rfl]; rfl
theorem sM_eq (c : UInt8) (r : List Tok) : seesB (tkM c :: r) 3 (mk1 c) = true := by rw [sM, decide_eq_true (p := mk1 c = mk1 c) rfl, decide_eq_true (p := (3 : Int) = 3) rfl]; simp
theorem sM_ne {c d : UInt8} (r : List Tok) (h : c ≠ d) : seesB (tkM c :: r) 3 (mk1 d) = false := by
  rw [sM, decide_eq_false (p := mk1 d = ⟨#[]⟩) (fun e => by have := congrArg ByteArray.size e; cases this), decide_eq_false (p := mk1 c = mk1 d) (fun e => h (by have h1 := congrArg sb e; have h2 : [c] = [d] := h1; injection h2))]
  simp
theorem kind_no {t : Tok} {r : List Tok} {k : Int} {x : ByteArray} (h : t.1 ≠ k) : seesB (t :: r) k x = false := by
  unfold seesB; simp only; rw [decide_eq_false h]; rfl
theorem wordO_I {k : Int} (r : List Tok) (h : 1 ≤ k ∧ k ≤ 4) : ∃ j : Nat, wordI (tkW (bs (wordO k)) :: r) OWS = some j ∧ (j : Int) + 1 = k := by
  have : k = 1 ∨ k = 2 ∨ k = 3 ∨ k = 4 := by omega
  rcases this with rfl | rfl | rfl | rfl
  · exact ⟨0, rfl, rfl⟩
  · exact ⟨1, rfl, rfl⟩
  · exact ⟨2, rfl, rfl⟩
  · exact ⟨3, rfl, rfl⟩
theorem wordE_I {k : Int} (r : List Tok) (h : 1 ≤ k ∧ k ≤ 4) : ∃ j : Nat, wordI (tkW (bs (wordE k)) :: r) EWS = some j ∧ (j : Int) + 1 = k := by
  have : k = 1 ∨ k = 2 ∨ k = 3 ∨ k = 4 := by omega
  rcases this with rfl | rfl | rfl | rfl
  · exact ⟨0, rfl, rfl⟩
  · exact ⟨1, rfl, rfl⟩
  · exact ⟨2, rfl, rfl⟩
  · exact ⟨3, rfl, rfl⟩
theorem listP_vals {e : Int} : ∀ (l acc : List Int) (r : List Tok), acc.length + l.length ≤ 40 → listP e (l.map tkN ++ tkM 41 :: r) acc = .ok (acc ++ l, r)
  | [], acc, r, _ => by
    rw [List.map_nil, List.nil_append, listP_end (kind_no (by decide)) (sM_eq 41 r), List.append_nil]; rfl
  | z :: l, acc, r, h => by
    rw [List.map_cons, List.cons_append, listP_num (sN_no z _) (by rw [List.length_cons] at h; omega)]
    have := listP_vals (e := e) l (acc ++ [z]) r (by rw [List.length_append, List.length_singleton]; rw [List.length_cons] at h; omega)
    rw [List.append_assoc] at this
    exact this
theorem midP_K {key : ByteArray → Bool} {e : Int} {x : TOp} (h : OkO key x) (r : List Tok) : midP e x.1 (midK x ++ tkM 93 :: r) = .ok (x.2.2, tkM 93 :: r) := by
  obtain ⟨k, kt, v, l, hs, n⟩ := x
  have hk := h.kind
  have hb := h.bare
  have h2 := h.two
  have h4 := h.four
  dsimp only at hk hb h2 h4
  unfold midK
  dsimp only
  have : k = 1 ∨ k = 3 ∨ k = 2 ∨ k = 4 := by omega
  have one : ∀ k' : Int, k' = 1 ∨ k' = 3 → l = [] → hs = false → n = false → midP e k' ((if n = true then [tkW nilW] else if k' = 2 ∧ hs = true then tkM 40 :: (l.map tkN ++ [tkM 41]) else if k' ≠ 2 ∧ (k' ≠ 4 ∨ hs = true) then [tkN v] else []) ++ tkM 93 :: r) = .ok ((v, l, hs, n), tkM 93 :: r) := by
    rintro k' hk' rfl rfl rfl
    rw [if_neg (by simp), if_neg (by simp), if_pos ⟨by omega, .inl (by omega)⟩]
    exact midP_val (by omega) (by omega) (sN_no v _)
  rcases this with rfl | rfl | rfl | rfl
  · obtain ⟨a1, a2, a3⟩ := hb (.inl rfl); exact one 1 (.inl rfl) a1 a2 a3
  · obtain ⟨a1, a2, a3⟩ := hb (.inr rfl); exact one 3 (.inr rfl) a1 a2 a3
  · obtain ⟨rfl, rfl, hl, hh⟩ := h2 rfl
    rw [if_neg (by simp)]
    cases hs with
    | true =>
      rw [if_pos ⟨rfl, rfl⟩]
      refine midP_list (r := tkM 93 :: r) (l := l) (sM_eq 40 _) ?_
      have := listP_vals (e := e) l [] (tkM 93 :: r) (by simpa using hl)
      rw [List.nil_append] at this
      rw [← this]
      show listP e ((l.map tkN ++ [tkM 41]) ++ tkM 93 :: r) [] = _
      rw [List.append_assoc]; rfl
    | false =>
      obtain rfl : l = [] := by rcases hh with hh | hh; (· cases hh); (· exact hh)
      rw [if_neg (by simp), if_neg (by simp)]
      exact midP_bare (sM_ne _ (by decide))
  · obtain ⟨rfl, hh, hv⟩ := h4 rfl
    cases n with
    | true =>
      obtain rfl : hs = true := by rcases hh with hh | hh; (· exact hh); (· cases hh)
      obtain rfl : v = 0 := by rcases hv with hv | hv; (· exact hv); (· cases hv.2)
      rw [if_pos rfl]
      exact midP_nil (by show seesB (tkW nilW :: _) 1 nilW = true; rw [sW, decide_eq_true (p := nilW = nilW) rfl]; simp)
    | false =>
      rw [if_neg (by simp), if_neg (by simp)]
      cases hs with
      | true => rw [if_pos ⟨by decide, .inr rfl⟩]; exact midP_get (kind_no (show (2 : Int) ≠ 1 by decide)) (sN_no v _)
      | false =>
        obtain rfl : v = 0 := by rcases hv with hv | hv; (· exact hv); (· cases hv.1)
        rw [if_neg (by simp)]
        exact midP_no (kind_no (by decide)) (kind_no (by decide))
theorem opP_K {key : ByteArray → Bool} {e : Int} {x : TOp} (h : OkO key x) (r : List Tok) : opP key e (opK x ++ r).tail = .ok (x, r) := by
  have hw := wordO_I (tkW x.2.1 :: (midK x ++ tkM 93 :: r)) h.kind
  obtain ⟨j, hw, hj⟩ := hw
  have e1 : (opK x ++ r).tail = tkW (bs (wordO x.1)) :: tkW x.2.1 :: (midK x ++ tkM 93 :: r) := by unfold opK; simp
  rw [e1, opP_go hw (sW_no _ _) h.key_, hj]
  exact restP_ok (midP_K h r) (sM_eq 93 r)
theorem opsP_K {key : ByteArray → Bool} {e : Int} : ∀ (l acc : List TOp) (f : Nat) (r : List Tok), (∀ x ∈ l, OkO key x) → acc.length + l.length ≤ 8 → (l.flatMap opK ++ tkL :: r).length ≤ f → opsP key e f (l.flatMap opK ++ tkL :: r) acc = .ok (acc ++ l, tkL :: r)
  | [], acc, f, r, _, _, _ => by rw [List.append_nil]; exact opsP_stop (kind_no (by decide))
  | x :: l, acc, f, r, h, h8, hf => by
    have e1 : (x :: l).flatMap opK ++ tkL :: r = opK x ++ (l.flatMap opK ++ tkL :: r) := by rw [List.flatMap_cons, List.append_assoc]
    rw [e1] at hf ⊢
    have hs : seesB (opK x ++ (l.flatMap opK ++ tkL :: r)) 3 (mk1 91) = true := sM_eq 91 _
    rw [List.length_append] at hf
    have hl : 1 ≤ (opK x).length := by unfold opK; simp
    obtain ⟨g, rfl⟩ : ∃ g, f = g + 1 := ⟨f - 1, by omega⟩
    rw [List.length_cons] at h8
    rw [opsP_go hs (by omega) (opP_K (h x (List.mem_cons_self ..)) _)]
    have := opsP_K (e := e) l (acc ++ [x]) g r (fun y hy => h y (List.mem_cons_of_mem _ hy)) (by rw [List.length_append, List.length_singleton]; omega) (by omega)
    rw [List.append_assoc] at this
    exact this
theorem eventP_K {key : ByteArray → Bool} {e : Int} {v : TEv} (h : OkV key v) (r : List Tok) : eventP key e (evK v ++ r) = .ok (v, r) := by
  obtain ⟨k, p, l⟩ := v
  have hk := h.kind
  have hp := h.proc
  have hl := h.len
  dsimp only at hk hp hl
  have e1 : evK (k, p, l) ++ r = tkW (bs (wordE k)) :: tkN p :: (l.flatMap opK ++ tkL :: r) := by unfold evK; simp
  obtain ⟨j, hw, hj⟩ := wordE_I (tkN p :: (l.flatMap opK ++ tkL :: r)) hk
  rw [e1, eventP_go hw (sN_no p _) hp.1 hp.2, hj]
  have hs : seesB (l.flatMap opK ++ tkL :: r) 3 (mk1 91) = true := by
    cases l with
    | nil => simp at hl
    | cons x l => rw [List.flatMap_cons, List.append_assoc]; exact sM_eq 91 _
  have := opsP_K (key := key) (e := e) l [] _ r h.ops (by simpa using hl.2) (Nat.le_refl _)
  rw [List.nil_append] at this
  exact evR_line hs this (by simp) (line_sees rfl)
theorem histP_K {key : ByteArray → Bool} {e : Int} : ∀ (l acc : List TEv) (f : Nat), (∀ v ∈ l, OkV key v) → acc.length + l.length ≤ 300 → (l.flatMap evK).length < f → histP key e f (l.flatMap evK) acc = .ok (acc ++ l)
  | [], acc, f, _, _, _ => by rw [List.append_nil]; exact histP_end rfl
  | v :: l, acc, f, h, h3, hf => by
    rw [List.flatMap_cons] at hf ⊢
    have hsk : skipP (evK v ++ l.flatMap evK) = evK v ++ l.flatMap evK := skipP_stop (kind_no (show (1 : Int) ≠ 4 by decide))
    rw [List.length_append] at hf
    have hl : 1 ≤ (evK v).length := by unfold evK; simp
    obtain ⟨g, rfl⟩ : ∃ g, f = g + 1 := ⟨f - 1, by omega⟩
    rw [List.length_cons] at h3
    rw [histP_go (by rw [hsk]; unfold evK; simp) (by omega) (by rw [hsk]; exact eventP_K (h v (List.mem_cons_self ..)) _)]
    have := histP_K (e := e) l (acc ++ [v]) g (fun y hy => h y (List.mem_cons_of_mem _ hy)) (by rw [List.length_append, List.length_singleton]; omega) (by omega)
    rw [List.append_assoc] at this
    exact this
theorem ext_bare {b : Bool} : ∀ {us ts : List Tok}, us.map bareT = ts.map bareT → Ext b us ts
  | [], [], _ => .nil
  | [], _ :: _, h => by cases h
  | _ :: _, [], h => by cases h
  | u :: us, t :: ts, h => by
    rw [List.map_cons, List.map_cons] at h
    injection h with h1 h2
    have hk : u.1 = t.1 := congrArg (fun x => x.1) h1
    have hx : u.2.2 = t.2.2 := congrArg (fun x => x.2.2) h1
    by_cases h4 : t.1 = 4
    · exact .line (hk.trans h4) h4 (ext_bare h2)
    · exact .tok hk hx h4 (ext_bare h2)
/-- A history's text is read as it. -/
theorem back_read {key : ByteArray → Bool} {l : List TEv} (hl : l.length ≤ 300) (h : ∀ v ∈ l, OkV key v) (hlen : (l.flatMap evT).length ≤ 20000) : ∃ us, scanA (l.flatMap evT) = .ok us ∧ ∀ e, histP key e (us.length + 1) us [] = .ok l := by
  obtain ⟨us, h1, h2⟩ := prF_scan true 0 (wt_hist h)
  rw [prF_hist] at h1
  refine ⟨us, ?_, fun e => ?_⟩
  · unfold scanA; rw [if_neg (by omega)]; exact h1
  · have hr := rel_hist (key := key) (e := e) (e' := 0) (acc := []) (Nat.le_refl _) (Nat.lt_succ_self us.length) (Nat.lt_succ_self (l.flatMap evK).length) (ext_bare h2)
    have hk := histP_K (key := key) (e := 0) l [] _ h (by simpa using hl) (Nat.lt_succ_self (l.flatMap evK).length)
    rw [hk] at hr
    cases hq : histP key e (us.length + 1) us [] with
    | error y => rw [hq] at hr; exact hr.elim
    | ok l' => rw [hq] at hr; have : l' = [] ++ l := hr; rw [this]; rfl
end Sg
