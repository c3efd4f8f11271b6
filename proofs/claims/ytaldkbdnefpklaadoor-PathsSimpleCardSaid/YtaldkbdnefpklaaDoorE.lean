/-
  A part of the walk of the program.
-/
import Derived.Test.YtaldkbdnefpklaaDoorD
import Derived.Test.YtaldkbdnefpklaaDoorVia
import Derived.Test.YtaldkbdnefpklaaDoorQueue
set_option linter.unusedVariables false
set_option linter.unusedSimpArgs false
set_option maxRecDepth 100000
namespace Go.Proofs.YtaldkbdnefpklaaDoor
open Go Go.RowKit Sg

theorem q_len {w : World} {base : Nat} {e : TypeId} {v : Value} {bs : List (Nat × Nat)} (h : QRow w base e v (ptrs bs)) : ∃ a c, v = .slice a bs.length c := by
  obtain ⟨a, c, e⟩ := h.len
  rw [List.length_map] at e
  exact ⟨a, c, e⟩
theorem ty_ne {w : World} {a b : Nat} {Ta Tb : TypeId} (ha : ∃ cs, w.heap[a]? = some (.cells cs Ta (0, 0))) (hb : ∃ cs, w.heap[b]? = some (.cells cs Tb (0, 0))) (h : Ta ≠ Tb) : a ≠ b := by
  obtain ⟨cs, ha⟩ := ha
  obtain ⟨cs', hb⟩ := hb
  intro e
  subst e
  rw [ha] at hb
  exact h (Obj.cells.inj (Option.some.inj hb)).2.1
theorem mine_not {w : World} {ts : List TypeId} {base k : Nat} {T : TypeId} (h : ∃ cs, w.heap[k]? = some (.cells cs T (0, 0))) (hT : T ∉ ts) : ¬ Mine ts base w k := by
  rintro ⟨_, cs', T', hT', h'⟩
  obtain ⟨cs, h⟩ := h
  rw [h] at h'
  have := (Obj.cells.inj (Option.some.inj h')).2.1
  exact hT (this ▸ hT')
/-- Sets behind a slice that the call has made. -/
structure Rws (w : World) (base n : Nat) (v : Value) (bs : List (Nat × Nat)) (M : Nat → Nat → Bool) : Prop where
  fam : Fam w base n bs M
  sl : QRow w base 30 v (ptrs bs)
theorem Rws.notw {w : World} {base n : Nat} {v : Value} {bs : List (Nat × Nat)} {M : Nat → Nat → Bool} (h : Rws w base n v bs M) {k : Nat} (hk : slBlk v k) {b2 m : Nat} {bs2 : List (Nat × Nat)} {M2 : Nat → Nat → Bool} (f : Fam w b2 m bs2 M2) : ¬ inB bs2 k := fun hb => by
  exact ty_ne (h.sl.ty hk) (f.ty hb) (by decide) rfl
theorem Rws.ch {F : Nat → Prop} {w w' : World} {base n : Nat} {v : Value} {bs : List (Nat × Nat)} {M : Nat → Nat → Bool} (h : Rws w base n v bs M) (c : Ch F w w') (h1 : ∀ b ∈ bs, ¬ F b.1 ∧ ¬ F b.2) (h2 : ∀ k, slBlk v k → ¬ F k) : Rws w' base n v bs M :=
  ⟨h.fam.ch c h1, h.sl.ch c h2⟩
theorem Rws.ch0 {w w' : World} {base n : Nat} {v : Value} {bs : List (Nat × Nat)} {M : Nat → Nat → Bool} (h : Rws w base n v bs M) (c : Ch0 w w') : Rws w' base n v bs M := h.ch c (fun _ _ => ⟨id, id⟩) (fun _ _ => id)
theorem Rws.keep {ts : List TypeId} {b : Nat} {w w' : World} {base n : Nat} {v : Value} {bs : List (Nat × Nat)} {M : Nat → Nat → Bool} (h : Rws w base n v bs M) (c : Ch (Mine ts b w) w w') (hts : 30 ∉ ts ∧ 67 ∉ ts ∧ 70 ∉ ts) : Rws w' base n v bs M :=
  h.ch c (fun b hb => by
    obtain ⟨p, hp⟩ := h.fam.at hb
    exact ⟨mine_not hp.ty.1 hts.2.1, mine_not hp.ty.2 hts.2.2⟩) (fun k hk => mine_not (h.sl.ty hk) hts.1)
theorem ptr_of {w : World} {a : Option Addr} {c : Nat} {bs : List (Nat × Nat)} (h : Sl w (.slice a bs.length c) (ptrs bs)) {k : Nat} (hk : k < bs.length) :
    ∃ b o cs T fr, a = some ⟨b, o, none⟩ ∧ w.heap[b]? = some (.cells cs T fr) ∧ cs[o + (k : Int).toNat * 1]? = some (.pointer (some ⟨bs[k].1, 0, none⟩)) := by
  obtain ⟨b, o, c, cs, T, fr, e, h1, h2⟩ := ptr_at h hk
  simp only [Value.slice.injEq, true_and] at e
  exact ⟨b, o, cs, T, fr, e.1, h1, h2⟩
theorem slot_of {w : World} {a : Option Addr} {c : Nat} {bs : List (Nat × Nat)} (h : Sl w (.slice a bs.length c) (ptrs bs)) {k : Int} (h0 : 0 ≤ k) (hk : k < bs.length) :
    ∃ b o cs T fr, a = some ⟨b, o, none⟩ ∧ w.heap[b]? = some (.cells cs T fr) ∧ cs[o + k.toNat * 1]? = some (.pointer (some ⟨(bs[k.toNat]'(by omega)).1, 0, none⟩)) := by
  obtain ⟨b, o, cs, T, fr, e, h1, h2⟩ := ptr_of h (k := k.toNat) (by omega)
  exact ⟨b, o, cs, T, fr, e, h1, by rw [show ((k.toNat : Nat) : Int).toNat = k.toNat by omega] at h2; exact h2⟩


theorem Rws.apart {w w' : World} {base n m : Nat} {v : Value} {bs bs2 : List (Nat × Nat)} {M M2 : Nat → Nat → Bool} (h : Rws w base n v bs M) (f : Fam w base m bs2 M2) (c : Ch (inB bs2) w w') (hap : ∀ b ∈ bs, ∀ c ∈ bs2, b.2 ≠ c.2) : Rws w' base n v bs M :=
  h.ch c (fun b hb => by
    obtain ⟨p, hp⟩ := h.fam.at hb
    refine ⟨fun hk => ?_, fun hk => ?_⟩
    · exact ty_ne hp.ty.1 (f.ty hk) (by decide) rfl
    · obtain ⟨c, hc, e⟩ := hk
      exact hap b hb c hc e) (fun k hk => h.notw hk f)
theorem fam_nil {w : World} {base n : Nat} {M : Nat → Nat → Bool} : Fam w base n [] M := ⟨fun i hi => absurd hi (by simp), by simp, fun b hb => by cases hb⟩
/-- Families of sets, all apart. -/
structure FamK (w : World) (base n K : Nat) (bss : Nat → List (Nat × Nat)) (vs : Nat → Value) (M : Nat → Nat → Nat → Bool) : Prop where
  r : ∀ f, f < K → Rws w base n (vs f) (bss f) (M f)
  ap : ∀ f g, f < K → g < K → f ≠ g → ∀ b ∈ bss f, ∀ c ∈ bss g, b.2 ≠ c.2
  ap2 : ∀ f g, f < K → g < K → f ≠ g → ∀ k, slBlk (vs f) k → ¬ slBlk (vs g) k
section
variable {w w' : World} {base n K : Nat} {bss : Nat → List (Nat × Nat)} {vs : Nat → Value} {M : Nat → Nat → Nat → Bool}
theorem FamK.ch {F : Nat → Prop} (h : FamK w base n K bss vs M) (c : Ch F w w') (h1 : ∀ f, f < K → ∀ b ∈ bss f, ¬ F b.1 ∧ ¬ F b.2) (h2 : ∀ f, f < K → ∀ k, slBlk (vs f) k → ¬ F k) : FamK w' base n K bss vs M :=
  ⟨fun f hf => (h.r f hf).ch c (h1 f hf) (h2 f hf), h.ap, h.ap2⟩
theorem FamK.ch0 (h : FamK w base n K bss vs M) (c : Ch0 w w') : FamK w' base n K bss vs M := h.ch c (fun _ _ _ _ => ⟨id, id⟩) (fun _ _ _ _ => id)
theorem FamK.keep {ts : List TypeId} {b : Nat} (h : FamK w base n K bss vs M) (c : Ch (Mine ts b w) w w') (hts : 30 ∉ ts ∧ 67 ∉ ts ∧ 70 ∉ ts) : FamK w' base n K bss vs M :=
  ⟨fun f hf => (h.r f hf).keep c hts, h.ap, h.ap2⟩
theorem FamK.store {o : Nat} (h : FamK w base n K bss vs M) (ho : ∃ cs, w.heap[o]? = some (.cells cs 81 (0, 0))) (c : Ch (fun k => k = o) w w') : FamK w' base n K bss vs M :=
  h.ch c (fun f hf b hb => by
    obtain ⟨p, hp⟩ := (h.r f hf).fam.at hb
    exact ⟨ty_ne hp.ty.1 ho (by decide), ty_ne hp.ty.2 ho (by decide)⟩) (fun f hf k hk => ty_ne ((h.r f hf).sl.ty hk) ho (by decide))
theorem FamK.eq {M' : Nat → Nat → Nat → Bool} (h : FamK w base n K bss vs M) (e : ∀ f i j, f < K → i < (bss f).length → M f i j = M' f i j) : FamK w base n K bss vs M' :=
  ⟨fun f hf => ⟨(h.r f hf).fam.eq fun i j hi => e f i j hf hi, (h.r f hf).sl⟩, h.ap, h.ap2⟩
theorem FamK.len (h : FamK w base n K bss vs M) {f : Nat} (hf : f < K) {c : Nat × Nat} (hc : c ∈ bss f) : c.1 < w.heap.size ∧ c.2 < w.heap.size := by
  obtain ⟨p, hp⟩ := (h.r f hf).fam.at hc
  exact hp.lt
theorem FamK.push (h : FamK w base n K bss vs M) {q : Nat} (hq : q < K) {b : Nat × Nat} (hb : Row1 w n b (M q (bss q).length)) (hfr : ∀ f, f < K → ∀ c ∈ bss f, c.2 ≠ b.2) (hlo : base ≤ b.1 ∧ base ≤ b.2) {v' : Value}
    (ho : QRow w' base 30 v' (ptrs (bss q) ++ [.pointer (some ⟨b.1, 0, none⟩)])) (c : Ch (slBlk (vs q)) w w') (hbk : ∀ k, slBlk v' k → slBlk (vs q) k ∨ w.heap.size ≤ k) :
    FamK w' base n K (fun f => if f = q then bss f ++ [b] else bss f) (fun f => if f = q then v' else vs f) M := by
  have hno : ∀ {p : Nat → Bool} {x : Nat × Nat}, Row1 w n x p → ¬ slBlk (vs q) x.1 ∧ ¬ slBlk (vs q) x.2 := fun hp =>
    ⟨fun hk => ty_ne hp.ty.1 ((h.r q hq).sl.ty hk) (by decide) rfl, fun hk => ty_ne hp.ty.2 ((h.r q hq).sl.ty hk) (by decide) rfl⟩
  refine ⟨fun f hf => ?_, fun f g hf hg hne x hx y hy => ?_, fun f g hf hg hne k hx hy => ?_⟩
  · by_cases e : f = q
    · subst e
      simp only [if_pos]
      refine ⟨((h.r f hf).fam.ch c fun x hx => ?_).push (hb.ch c (hno hb).1 (hno hb).2) (hfr f hf) hlo, by rw [show ptrs (bss f ++ [b]) = ptrs (bss f) ++ [.pointer (some ⟨b.1, 0, none⟩)] by simp [ptrs]]; exact ho⟩
      obtain ⟨p, hp⟩ := (h.r f hf).fam.at hx
      exact hno hp
    · simp only [if_neg e]
      refine (h.r f hf).ch c (fun x hx => ?_) fun k hk hk2 => h.ap2 f q hf hq e k hk hk2
      obtain ⟨p, hp⟩ := (h.r f hf).fam.at hx
      exact hno hp
  · (try dsimp only at hx hy)
    by_cases ef : f = q
    · subst ef
      rw [if_pos rfl] at hx
      rw [if_neg (fun e => hne e.symm)] at hy
      rcases List.mem_append.1 hx with hx | hx
      · exact h.ap f g hf hg hne x hx y hy
      · rw [List.mem_singleton.1 hx]; exact (hfr g hg y hy).symm
    · rw [if_neg ef] at hx
      by_cases eg : g = q
      · subst eg
        rw [if_pos rfl] at hy
        rcases List.mem_append.1 hy with hy | hy
        · exact h.ap f g hf hg hne x hx y hy
        · rw [List.mem_singleton.1 hy]; exact hfr f hf x hx
      · rw [if_neg eg] at hy
        exact h.ap f g hf hg hne x hx y hy
  · (try dsimp only at hx hy)
    by_cases ef : f = q
    · subst ef
      rw [if_pos rfl] at hx
      rw [if_neg (fun e => hne e.symm)] at hy
      rcases hbk k hx with h1 | h1
      · exact h.ap2 f g hf hg hne k h1 hy
      · have := ((h.r g hg).sl.lt hy).2; omega
    · rw [if_neg ef] at hx
      by_cases eg : g = q
      · subst eg
        rw [if_pos rfl] at hy
        rcases hbk k hy with h1 | h1
        · exact h.ap2 f g hf hg hne k hx h1
        · have := ((h.r f hf).sl.lt hx).2; omega
      · rw [if_neg eg] at hy
        exact h.ap2 f g hf hg hne k hx hy
/-- One row of one family anew. -/
theorem FamK.row (h : FamK w base n K bss vs M) {q i : Nat} (hq : q < K) (hi : i < (bss q).length) {M' : Nat → Nat → Bool} (hf' : Fam w' base n (bss q) M') (c : Ch (fun k => k = (bss q)[i].2) w w') : FamK w' base n K bss vs (fun f => if f = q then M' else M f) := by
  have hrow := (h.r q hq).fam.row i hi
  refine ⟨fun f hf => ?_, h.ap, h.ap2⟩
  have hsl : ∀ k, slBlk (vs f) k → k ≠ (bss q)[i].2 := fun k hk => ty_ne ((h.r f hf).sl.ty hk) hrow.ty.2 (by decide)
  by_cases e : f = q
  · subst e
    simp only [if_pos]
    exact ⟨hf', (h.r f hf).sl.ch c hsl⟩
  · simp only [if_neg e]
    refine (h.r f hf).ch c (fun x hx => ?_) hsl
    obtain ⟨p, hp⟩ := (h.r f hf).fam.at hx
    exact ⟨ty_ne hp.ty.1 hrow.ty.2 (by decide), h.ap f q hf hq e x hx _ (List.getElem_mem hi)⟩
end


/-- Labels between two nodes, of n of them. -/
structure LbOk (n : Nat) (Lb : Nat → Nat → Nat) : Prop where
  lt : ∀ a b, Lb a b < 16
  diag : ∀ a, Lb a a = 0
  off : ∀ a b, n ≤ a ∨ n ≤ b → Lb a b = 0
abbrev GE := Int × Int × Int
def inE (n : Nat) (e : GE) : Prop := 0 ≤ e.1 ∧ e.1 < n ∧ 0 ≤ e.2.1 ∧ e.2.1 < n
def okE (e : GE) : Prop := 1 ≤ e.2.2 ∧ e.2.2 ≤ 15 ∧ e.1 ≠ e.2.1
instance (n : Nat) (e : GE) : Decidable (inE n e) := by unfold inE; infer_instance
instance (e : GE) : Decidable (okE e) := by unfold okE; infer_instance
def errE (n : Nat) (e : GE) : Int := if inE n e then if okE e then 0 else 1 else 60
def addE (n : Nat) (Lb : Nat → Nat → Nat) (e : GE) : Nat → Nat → Nat := fun x y => if inE n e ∧ okE e ∧ x = e.1.toNat ∧ y = e.2.1.toNat then Lb x y ||| e.2.2.toNat else Lb x y
theorem or_lt16 : ∀ {a b : Nat}, a < 16 → b < 16 → a ||| b < 16 := fun ha hb => Nat.or_lt_two_pow (n := 4) ha hb
theorem LbOk.zero (n : Nat) : LbOk n (fun _ _ => 0) := ⟨fun _ _ => by decide, fun _ => rfl, fun _ _ _ => rfl⟩
theorem LbOk.add {n : Nat} {Lb : Nat → Nat → Nat} (h : LbOk n Lb) (e : GE) : LbOk n (addE n Lb e) := by
  refine ⟨fun a b => ?_, fun a => ?_, fun a b hab => ?_⟩
  · unfold addE
    split
    · rename_i hc
      have := hc.2.1
      unfold okE at this
      exact or_lt16 (h.lt a b) (by omega)
    · exact h.lt a b
  · unfold addE
    rw [if_neg, h.diag]
    rintro ⟨h1, h2, h3, h4⟩
    unfold inE at h1
    unfold okE at h2
    omega
  · unfold addE
    rw [if_neg, h.off a b hab]
    rintro ⟨h1, h2, h3, h4⟩
    unfold inE at h1
    omega
def ofm (o : Int) : Nat := (o % 16).toNat
theorem ofm_lt (o : Int) : ofm o < 16 := by unfold ofm; omega
theorem ofm_in {o : Int} (h0 : 0 ≤ o) (h1 : o ≤ 15) : ofm o = o.toNat := by unfold ofm; rw [Int.emod_eq_of_lt h0 (by omega)]
theorem bit_one (x : Int) : bitop .and .i64 x 1 = x % 2 := by
  show IntKind.i64.wrap (((BitVec.ofInt 64 x &&& BitVec.ofInt 64 1).toNat : Nat) : Int) = _
  have h1 : (BitVec.ofInt 64 x &&& BitVec.ofInt 64 1).toNat = (x % 2).toNat := by
    rw [BitVec.toNat_and, show (BitVec.ofInt 64 1).toNat = 1 by decide, Nat.and_one_is_mod, BitVec.toNat_ofInt]
    omega
  rw [h1, wrap_i64 (by omega) (by omega)]
  omega
theorem shr_bit (o : Int) {k : Nat} (hk : k < 4) : bitop .and .i64 (o.fdiv (2 ^ (min ((k : Int)).toNat (IntKind.bits .i64)))) 1 = if (ofm o).testBit k then 1 else 0 := by
  rw [bit_one, show min ((k : Int)).toNat (IntKind.bits .i64) = k by rw [show IntKind.bits .i64 = 64 from rfl]; omega, Int.fdiv_eq_ediv_of_nonneg _ (by exact Int.le_of_lt (Int.pow_pos (by decide)))]
  unfold ofm Nat.testBit
  rw [Nat.shiftRight_eq_div_pow]
  rcases (show k = 0 ∨ k = 1 ∨ k = 2 ∨ k = 3 by omega) with rfl | rfl | rfl | rfl <;> (simp only [Nat.one_and_eq_mod_two]; (split <;> simp_all <;> omega))
theorem and_ofm {L : Nat} (hL : L < 16) (o : Int) : bitop .and .i64 (L : Int) o = ((L &&& ofm o : Nat) : Int) := by
  show IntKind.i64.wrap (((BitVec.ofInt 64 (L : Int) &&& BitVec.ofInt 64 o).toNat : Nat) : Int) = _
  have h1 : (BitVec.ofInt 64 (L : Int) &&& BitVec.ofInt 64 o).toNat = L &&& ofm o := by
    rw [BitVec.toNat_and, BitVec.toNat_ofInt, BitVec.toNat_ofInt]
    have e1 : ((L : Int) % ((2 ^ 64 : Nat) : Int)).toNat = L := by omega
    rw [e1]
    have h2 : L &&& (o % ((2 ^ 64 : Nat) : Int)).toNat < 16 := Nat.lt_of_le_of_lt Nat.and_le_left hL
    have h3 : (L &&& (o % ((2 ^ 64 : Nat) : Int)).toNat) % 2 ^ 4 = L % 2 ^ 4 &&& (o % ((2 ^ 64 : Nat) : Int)).toNat % 2 ^ 4 := Nat.and_mod_two_pow
    rw [Nat.mod_eq_of_lt (by omega), Nat.mod_eq_of_lt (by omega)] at h3
    rw [h3]
    congr 1
    unfold ofm
    omega
  rw [h1]
  have h4 : L &&& ofm o < 16 := Nat.lt_of_le_of_lt Nat.and_le_left hL
  rw [wrap_i64 (by omega) (by omega)]
theorem or_nat {a b : Nat} (ha : a < 16) (hb : b < 16) : bitop .or .i64 (a : Int) (b : Int) = ((a ||| b : Nat) : Int) := by
  show IntKind.i64.wrap (((BitVec.ofInt 64 (a : Int) ||| BitVec.ofInt 64 (b : Int)).toNat : Nat) : Int) = _
  have h1 : (BitVec.ofInt 64 (a : Int) ||| BitVec.ofInt 64 (b : Int)).toNat = a ||| b := by
    rw [BitVec.toNat_or, BitVec.toNat_ofInt, BitVec.toNat_ofInt]
    congr 1 <;> omega
  have := or_lt16 ha hb
  rw [h1, wrap_i64 (by omega) (by omega)]
theorem shl_pow {k : Nat} (hk : k < 4) : IntKind.i64.wrap (1 * 2 ^ (min ((k : Int)).toNat 64)) = ((2 ^ k : Nat) : Int) := by
  rcases (show k = 0 ∨ k = 1 ∨ k = 2 ∨ k = 3 by omega) with rfl | rfl | rfl | rfl <;> rfl
theorem low_next : ∀ {L : Nat}, L < 16 → ∀ {k : Nat}, k < 4 → (L.testBit k = true → L % 2 ^ k ||| 2 ^ k = L % 2 ^ (k + 1)) ∧ (L.testBit k = false → L % 2 ^ k = L % 2 ^ (k + 1)) := by decide
def outK (k L o : Nat) : Bool := decide ((L &&& o) % 2 ^ k ≠ 0)
theorem outK_zero (L o : Nat) : outK 0 L o = false := by simp [outK, Nat.mod_one]
theorem outK_next : ∀ {L : Nat}, L < 16 → ∀ {o : Nat}, o < 16 → ∀ {k : Nat}, k < 4 → outK (k + 1) L o = (outK k L o || (o.testBit k && L.testBit k)) := by decide
theorem outK_all : ∀ {L : Nat}, L < 16 → ∀ {o : Nat}, o < 16 → outK 4 L o = decide (L &&& o ≠ 0) := by decide
def bitM (Lb : Nat → Nat → Nat) (f a b : Nat) : Bool := (Lb a b).testBit f
def midL (Lb : Nat → Nat → Nat) (o fr to k f a b : Nat) : Bool := (Lb a b).testBit f || (decide (f < k) && o.testBit f && decide (a = fr) && decide (b = to))
def lbv (Lb : Nat → Nat → Nat) (a b : Int) : Nat := if 0 ≤ a ∧ 0 ≤ b then Lb a.toNat b.toNat else 0

theorem or_row1 {w : World} {n : Nat} {c b : Nat × Nat} {p q : Nat → Bool} (h : Row1 w n c p) (k : Row1 w n b q) (hne : c.2 ≠ b.2) : Sg.Ret Tryd.prog 45 #[.pointer (some ⟨c.1, 0, none⟩), .pointer (some ⟨b.1, 0, none⟩)] w fun v w' =>
    (∃ z, v = .tuple #[.bool z, .int .i64 0]) ∧ Row1 w' n c (fun j => p j || q j) ∧ Ch (fun k => k = c.2) w w' := by
  have hty := k.ne h
  obtain ⟨ws, hs, hm⟩ := h
  obtain ⟨vs, hv, hm2⟩ := k
  refine Ret.mono (or_any _ _ n ws _ _ vs w hs hv hty (.inl hne)) fun v w' hh => ?_
  obtain ⟨ws', e1, e2, e3, e4⟩ := hh
  exact ⟨⟨_, e1⟩, ⟨ws', e2, fun j => by rw [e3, hm, hm2]⟩, e4⟩
/-- A graph of the program with n nodes. -/
structure IsG (w : World) (base g n : Nat) (Lb : Nat → Nat → Nat) : Prop where
  ex : ∃ bss vs, FamK w base n 4 bss vs (bitM Lb) ∧ (∀ f, f < 4 → (bss f).length = n) ∧ w.heap[g]? = some (.cells #[.int .i64 (n : Int), vs 0, vs 1, vs 2, vs 3, .bool true] 81 (0, 0))
  lo : base ≤ g
  le : n ≤ 300
  ok : LbOk n Lb
theorem IsG.ch0 {w w' : World} {base g n : Nat} {Lb : Nat → Nat → Nat} (h : IsG w base g n Lb) (c : Ch0 w w') : IsG w' base g n Lb := by
  obtain ⟨bss, vs, h1, h2, h3⟩ := h.ex
  exact ⟨⟨bss, vs, h1.ch0 c, h2, c.at0 h3⟩, h.lo, h.le, h.ok⟩
theorem IsG.keep {ts : List TypeId} {b : Nat} {w w' : World} {base g n : Nat} {Lb : Nat → Nat → Nat} (h : IsG w base g n Lb) (c : Ch (Mine ts b w) w w') (hts : 81 ∉ ts ∧ 30 ∉ ts ∧ 67 ∉ ts ∧ 70 ∉ ts) : IsG w' base g n Lb := by
  obtain ⟨bss, vs, h1, h2, h3⟩ := h.ex
  exact ⟨⟨bss, vs, h1.keep c hts.2, h2, c.at h3 (mine_not ⟨_, h3⟩ hts.1)⟩, h.lo, h.le, h.ok⟩
theorem vs_at {n : Int} {vs : Nat → Value} {k : Nat} (hk : k < 4) : (#[.int .i64 n, vs 0, vs 1, vs 2, vs 3, .bool true] : Array Value)[k + 1]? = some (vs k) := by
  rcases (show k = 0 ∨ k = 1 ∨ k = 2 ∨ k = 3 by omega) with rfl | rfl | rfl | rfl <;> rfl
theorem inB_mine {w : World} {base n : Nat} {bs : List (Nat × Nat)} {M : Nat → Nat → Bool} (f : Fam w base n bs M) {i : Nat} (hi : i < bs.length) : Mine [70] base w (bs[i].2) := by
  obtain ⟨cs, h⟩ := f.ty ⟨_, List.getElem_mem hi, rfl⟩
  exact ⟨(f.lt ⟨_, List.getElem_mem hi, rfl⟩).1, cs, 70, by simp, h⟩
theorem mine_back {ts : List TypeId} {base : Nat} {w w' : World} {k : Nat} (h : Mine ts base w' k) (c : Ch (Mine ts base w) w w') (hk : k < w.heap.size) : Mine ts base w k := by
  by_cases hm : Mine ts base w k
  · exact hm
  · obtain ⟨h1, cs, T, hT, h2⟩ := h
    exact ⟨h1, cs, T, hT, by rw [← c.blk k hk hm]; exact h2⟩

end Go.Proofs.YtaldkbdnefpklaaDoor
