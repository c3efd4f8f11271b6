/-
  A part of the walk of the program.
-/
import Derived.Test.YteknclegacbpkaaDoorC
set_option linter.unusedVariables false
set_option linter.unusedSimpArgs false
set_option maxRecDepth 100000
namespace Go.Proofs.YteknclegacbpkaaDoor
open Go Go.RowKit Sg

/-- What the scan hands back. -/
def ScanR (s : ByteArray) (base : Nat) (v : Value) (w' : World) : Prop :=
  (∃ l u, scanA (sb s) = .ok l ∧ v = .tuple #[u, .nilIface] ∧ OwnF 4 ftk w' base 29 u l ∧ l.length ≤ 20000) ∨
  (∃ a e, scanA (sb s) = .error (a, e) ∧ v = .tuple #[.slice none 0 0, .iface 45 (.agg #[.int .i64 (a : Int), .int .i64 (e : Int)])])
theorem index_ok (c : Nat) (w : World) (hc : c < 256) : Sg.Ret Tryd.prog 27 #[.string ⟨#[40, 41, 91, 93]⟩, .int .u8 (c : Int)] w fun v w' => (∃ z : Int, v = .int .i64 z ∧ (decide (0 ≤ z) = markN c)) ∧ w = w' := by
  refine Calls.mono (Tryd.strings_IndexByte ⟨#[40, 41, 91, 93]⟩ (c : Int) w) ?_
  rintro e w' ⟨rfl, rfl⟩
  refine ⟨_, rfl, ⟨_, rfl, ?_⟩, rfl⟩
  have key : ∀ c : Fin 256, decide (0 ≤ Lib.indexByte [40, 41, 91, 93] (c.1.toUInt8)) = markN c.1 := by decide +kernel
  have := key ⟨c, hc⟩
  rw [Int.toNat_natCast]
  exact this
theorem bat_in {s : ByteArray} {i : Nat} (h : bat (sb s) i ≠ 0) : i < s.size := by
  refine Nat.lt_of_not_le fun h' => h (bat_out (by rw [sb_len]; exact h'))
theorem drop_ne {s : ByteArray} {i : Nat} (h : i < s.size) : (sb s).drop i ≠ [] := by
  intro e
  have := congrArg List.length e
  rw [List.length_drop, sb_len] at this
  simp at this; omega
theorem ext1 {s : ByteArray} {i : Nat} (h : i < s.size) : s.extract i (i + 1) = bs (((sb s).drop i).take 1) := sub_at
/-- Where the scan stands: what is scanned, and what is left. -/
def At (s : ByteArray) (acc : List Tok) (i : Nat) : Prop := scanX 0 (sb s) = aft acc (scanX i ((sb s).drop i)) ∧ i ≤ s.size ∧ acc.length ≤ i
theorem At.start (s : ByteArray) : At s [] 0 := ⟨by rw [aft_nil]; rfl, by omega, by simp⟩
theorem At.blanks {s : ByteArray} {acc : List Tok} {i : Nat} (h : At s acc i) : At s acc (i + run (fun c => decide (c = 32)) ((sb s).drop i)) := by
  have hr := run_le (fun c => decide (c = 32)) ((sb s).drop i)
  refine ⟨?_, by have := h.2.1; rw [List.length_drop, sb_len] at hr; omega, by have := h.2.2; omega⟩
  rw [h.1, scanX_blanks hr (fun j hj => of_decide_eq_true (run_all hj)), List.drop_drop]
theorem At.tok {s : ByteArray} {acc : List Tok} {i k : Nat} {t : Tok} (h : At s acc i) (hi : i < s.size) (hb : bat (sb s) i ≠ 32) (ht : tokL i ((sb s).drop i) = .ok (t, k)) : At s (acc ++ [t]) (i + k) := by
  have hk := tokL_len (drop_ne hi) ht
  rw [List.length_drop, sb_len] at hk
  refine ⟨?_, by omega, by rw [List.length_append]; have := h.2.2; simp only [List.length_cons, List.length_nil]; omega⟩
  rw [h.1, scanX_tok (drop_ne hi) (by rw [bat_drop]; exact hb) ht, aft_aft, List.drop_drop]
theorem At.err {s : ByteArray} {acc : List Tok} {i : Nat} {e : Nat × Nat} (h : At s acc i) (hi : i < s.size) (hb : bat (sb s) i ≠ 32) (ht : tokL i ((sb s).drop i) = .error e) : scanX 0 (sb s) = .error e := by
  rw [h.1, scanX_err (drop_ne hi) (by rw [bat_drop]; exact hb) ht]; rfl
theorem At.fin {s : ByteArray} {acc : List Tok} (h : At s acc s.size) : scanX 0 (sb s) = .ok acc := by
  rw [h.1, List.drop_eq_nil_of_le (by rw [sb_len]; exact Nat.le_refl _), scanX_nil]
  simp [aft]
theorem scanA_X {s : ByteArray} (h : s.size ≤ 20000) : scanA (sb s) = scanX 0 (sb s) := by
  unfold scanA
  rw [if_neg (by rw [sb_len]; omega)]; rfl
theorem tokL_word {s : ByteArray} {i : Nat} (h : lowN (bat (sb s) i) = true) : tokL i ((sb s).drop i) = .ok ((1, (i : Int), s.extract i (i + run innN ((sb s).drop i)), 0), run innN ((sb s).drop i)) := by
  have h9 : bat ((sb s).drop i) 0 = bat (sb s) i := by rw [bat_drop]; rfl
  have hn : ¬ bat (sb s) i = 10 := by unfold lowN at h; have := of_decide_eq_true h; omega
  unfold tokL
  simp only [h9]
  rw [if_neg hn, if_pos h, sub_at]
theorem tokL_num {s : ByteArray} {i : Nat} (h1 : lowN (bat (sb s) i) = false) (h : digN (bat (sb s) i) = true ∨ (bat (sb s) i = 45 ∧ digN (bat (sb s) (i + 1)) = true)) :
    tokL i ((sb s).drop i) = match numL ((sb s).drop i) with | .ok (k, v) => .ok ((2, (i : Int), s.extract i (i + k), v), k) | .error (k, e) => .error (i + k, e) := by
  have h9 : bat ((sb s).drop i) 0 = bat (sb s) i := by rw [bat_drop]; rfl
  have h8 : bat ((sb s).drop i) 1 = bat (sb s) (i + 1) := by rw [bat_drop]
  have hn : ¬ bat (sb s) i = 10 := by
    rcases h with h | h
    · unfold digN at h; have := of_decide_eq_true h; omega
    · omega
  have hc : (digN (bat (sb s) i) || (decide (bat (sb s) i = 45) && digN (bat (sb s) (i + 1)))) = true := by
    rcases h with h | h
    · rw [h]; rfl
    · rw [h.2, decide_eq_true h.1]; simp
  unfold tokL
  simp only [h9, h8]
  rw [if_neg hn, h1, if_neg (by simp), if_pos hc]
  cases numL ((sb s).drop i) with
  | ok p => obtain ⟨k, v⟩ := p; simp only [sub_at]
  | error p => rfl
theorem tokL_mark {s : ByteArray} {i : Nat} (hi : i < s.size) (h : markN (bat (sb s) i) = true ∨ bat (sb s) i = 10) :
    tokL i ((sb s).drop i) = .ok (((if bat (sb s) i = 10 then 4 else 3 : Int), (i : Int), s.extract i (i + 1), 0), 1) := by
  have h9 : bat ((sb s).drop i) 0 = bat (sb s) i := by rw [bat_drop]; rfl
  unfold tokL
  simp only [h9]
  by_cases e : bat (sb s) i = 10
  · rw [if_pos e, if_pos e, sub_at]
  · have hm : markN (bat (sb s) i) = true := h.resolve_right e
    have hm2 := hm
    unfold markN at hm2
    have hm3 := of_decide_eq_true hm2
    have hl : lowN (bat (sb s) i) = false := decide_eq_false (by omega)
    have hd : digN (bat (sb s) i) = false := decide_eq_false (by omega)
    have h45 : decide (bat (sb s) i = 45) = false := decide_eq_false (by omega)
    rw [if_neg e, if_neg e, hl, hd, h45, if_neg (by simp), if_neg (by simp), if_pos hm, sub_at]
theorem tokL_bad {s : ByteArray} {i : Nat} (h1 : bat (sb s) i ≠ 10) (h2 : lowN (bat (sb s) i) = false) (h3 : digN (bat (sb s) i) = false) (h4 : ¬ (bat (sb s) i = 45 ∧ digN (bat (sb s) (i + 1)) = true)) (h5 : markN (bat (sb s) i) = false) :
    tokL i ((sb s).drop i) = .error (i, 10) := by
  have h9 : bat ((sb s).drop i) 0 = bat (sb s) i := by rw [bat_drop]; rfl
  have h8 : bat ((sb s).drop i) 1 = bat (sb s) (i + 1) := by rw [bat_drop]
  unfold tokL
  simp only [h9, h8]
  rw [if_neg h1, h2, if_neg (by simp), if_neg, h5, if_neg (by simp)]
  rw [h3]
  simpa using h4

end Go.Proofs.YteknclegacbpkaaDoor
