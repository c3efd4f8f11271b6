/-
  A part of the walk of the program.
-/
import Derived.Test.YteknclegacbpkaaDoorB
import Derived.Test.YteknclegacbpkaaDoorScanNum
import Derived.Test.YteknclegacbpkaaDoorSh
import Derived.Lib.AtoiErrMem
set_option linter.unusedVariables false
set_option linter.unusedSimpArgs false
set_option maxRecDepth 100000
namespace Go.Proofs.YteknclegacbpkaaDoor
open Go Go.RowKit Sg

/-- The library's error of a range lies where it lies. -/
def ER (w : World) : Prop := ∃ tp p T fr, w.heap[4]? = some (.cells #[.iface tp p] T fr)
theorem ER.ch0 {w w' : World} (h : ER w) (c : Ch0 w w') : ER w' := by
  obtain ⟨tp, p, T, fr, h⟩ := h
  exact ⟨tp, p, T, fr, c.at0 h⟩
theorem ER.ch {F : Nat → Prop} {w w' : World} (h : ER w) (c : Ch F w w') (hn : ¬ F 4) : ER w' := by
  obtain ⟨tp, p, T, fr, h⟩ := h
  exact ⟨tp, p, T, fr, c.at h hn⟩
theorem atoi_ok (t : ByteArray) (w : World) (ht : t.size ≤ 20000) (hER : ER w) (h : Lib.atoiAll (sb t) ≠ .syntax) : Sg.Ret Tryd.prog 46 #[.string t] w fun v w' =>
    (∃ z e, v = .tuple #[.int .i64 z, e] ∧ IsI e ∧ (isNil e = true → Lib.atoiAll (sb t) = .ok z) ∧ (isNil e = false → Lib.atoiAll (sb t) = .range)) ∧ Ch0 w w' := by
  cases hq : Lib.atoiAll (sb t) with
  | ok z =>
    refine Calls.mono (Tryd.strconv_Atoi_ok t (by omega) z hq w) ?_
    rintro e w' ⟨rfl, hw⟩
    refine ⟨_, rfl, ⟨z, _, rfl, .inl rfl, (fun _ => rfl), (fun h => by cases h)⟩, ?_⟩
    rcases hw with rfl | ⟨t', rfl⟩
    · exact Ch.refl _ _
    · exact Ch.of_below (Lib.bytesWorld_below _ _ _)
  | range =>
    obtain ⟨tp, p, T, fr, hg⟩ := hER
    refine Calls.mono (Tryd.strconv_Atoi_range t (by omega) hq (.iface tp p) w (cell_of hg rfl) (.inr ⟨_, _, rfl⟩)) ?_
    rintro e w' ⟨N, rfl, _, _, hb⟩
    exact ⟨_, rfl, ⟨_, _, rfl, .inr ⟨_, _, rfl⟩, (fun h => by cases h), (fun _ => rfl)⟩, Ch.of_below hb⟩
  | _ => exact absurd hq h
def tok0 (i : Nat) : Tok := (2, (i : Int), ⟨#[]⟩, 0)
/-- What the scan of a number hands back. -/
def NumR (s : ByteArray) (i x : Nat) (v : Value) (w' : World) : Prop :=
  (∃ k z, numL ((sb s).drop i) = .ok (k, z) ∧ i + k ≤ s.size ∧ v = .tuple #[.agg (ftk (2, (i : Int), s.extract i (i + k), z)).toArray, .nilIface] ∧ w'.heap[x]? = some (.cells #[.string s, .int .i64 ((i + k : Nat) : Int)] 48 (0, 0))) ∨
  (∃ k e, numL ((sb s).drop i) = .error (k, e) ∧ v = .tuple #[.agg (ftk (tok0 i)).toArray, .iface 45 (.agg #[.int .i64 ((i + k : Nat) : Int), .int .i64 (e : Int)])])
theorem nk_at {s : ByteArray} {i k : Nat} (h : NK ((sb s).drop i) k) : Lib.atoiAll (sb (s.extract i (i + k))) ≠ .syntax := by
  rw [sub_at, sb_bs]; exact nk_syntax h
theorem nk_ok {s : ByteArray} {i k : Nat} {z : Int} (h : NK ((sb s).drop i) k) (ha : Lib.atoiAll (sb (s.extract i (i + k))) = .ok z) : numL ((sb s).drop i) = if lowN (bat (sb s) (i + k)) then .error (k, 10) else .ok (k, z) := by
  rw [sub_at, sb_bs] at ha
  rcases h with ⟨z', h1, h2⟩ | ⟨h1, _⟩
  · rw [ha] at h1
    injection h1 with h1
    subst h1
    rw [h2, bat_drop]
  · rw [ha] at h1; cases h1
theorem nk_range {s : ByteArray} {i k : Nat} (h : NK ((sb s).drop i) k) (ha : Lib.atoiAll (sb (s.extract i (i + k))) = .range) : numL ((sb s).drop i) = .error (0, 11) := by
  rw [sub_at, sb_bs] at ha
  rcases h with ⟨z', h1, h2⟩ | ⟨_, h1⟩
  · rw [ha] at h1; cases h1
  · exact h1

end Go.Proofs.YteknclegacbpkaaDoor
