/-
  A part of the walk of the program.
-/
import Derived.Test.YtbnllchicnmkiaaDoorRA
import Derived.Test.YtbnllchicnmkiaaDoorStrs
import Derived.Test.YtbnllchicnmkiaaDoorMapsS
set_option linter.unusedVariables false
set_option linter.unusedSimpArgs false
set_option maxRecDepth 100000
namespace Go.Proofs.YtbnllchicnmkiaaDoor
open Go Go.RowKit Sg
theorem el41 : Sg.Elem Tryd.prog 41 12 (.agg #[.string ⟨#[]⟩, .string ⟨#[]⟩, .string ⟨#[]⟩, .string ⟨#[]⟩, .string ⟨#[]⟩, .string ⟨#[]⟩, .string ⟨#[]⟩, .string ⟨#[]⟩, .string ⟨#[]⟩, .string ⟨#[]⟩, .string ⟨#[]⟩, .string ⟨#[]⟩]) 192 := ⟨_, rfl, rfl, rfl, rfl⟩
theorem bd41 : Sg.Bld Tryd.prog 41 [0, 1, 2, 3, 4, 5, 6, 7, 8, 9, 10, 11] [.string ⟨#[]⟩, .string ⟨#[]⟩, .string ⟨#[]⟩, .string ⟨#[]⟩, .string ⟨#[]⟩, .string ⟨#[]⟩, .string ⟨#[]⟩, .string ⟨#[]⟩, .string ⟨#[]⟩, .string ⟨#[]⟩, .string ⟨#[]⟩, .string ⟨#[]⟩] := ⟨_, rfl, rfl, .inr ⟨_, _, _, rfl, rfl, rfl, Sg.allAt2 (n := 12) rfl⟩⟩
theorem ag41 : Sg.Aggr Tryd.prog 41 12 := ⟨⟨_, rfl, trivial⟩, _, rfl, rfl⟩
theorem el46 : Sg.Elem Tryd.prog 46 4 (.agg #[.string ⟨#[]⟩, .string ⟨#[]⟩, .string ⟨#[]⟩, .string ⟨#[]⟩]) 64 := ⟨_, rfl, rfl, rfl, rfl⟩
theorem bd46 : Sg.Bld Tryd.prog 46 [0, 1, 2, 3] [.string ⟨#[]⟩, .string ⟨#[]⟩, .string ⟨#[]⟩, .string ⟨#[]⟩] := ⟨_, rfl, rfl, .inr ⟨_, _, _, rfl, rfl, rfl, Sg.allAt2 (n := 4) rfl⟩⟩
theorem ag46 : Sg.Aggr Tryd.prog 46 4 := ⟨⟨_, rfl, trivial⟩, _, rfl, rfl⟩
theorem el63 : Sg.Elem Tryd.prog 63 6 (.agg #[.string ⟨#[]⟩, .string ⟨#[]⟩, .string ⟨#[]⟩, .string ⟨#[]⟩, .string ⟨#[]⟩, .string ⟨#[]⟩]) 96 := ⟨_, rfl, rfl, rfl, rfl⟩
theorem bd63 : Sg.Bld Tryd.prog 63 [0, 1, 2, 3, 4, 5] [.string ⟨#[]⟩, .string ⟨#[]⟩, .string ⟨#[]⟩, .string ⟨#[]⟩, .string ⟨#[]⟩, .string ⟨#[]⟩] := ⟨_, rfl, rfl, .inr ⟨_, _, _, rfl, rfl, rfl, Sg.allAt2 (n := 6) rfl⟩⟩
theorem ag63 : Sg.Aggr Tryd.prog 63 6 := ⟨⟨_, rfl, trivial⟩, _, rfl, rfl⟩

theorem level_some {s : ByteArray} {i : Nat} (h : idxW VWS s = some i) : fP.level s = some (i : Int) := by
  unfold fP
  dsimp only
  rw [h]; rfl
theorem level_none {s : ByteArray} (h : idxW VWS s = none) : fP.level s = none := by
  unfold fP
  dsimp only
  rw [h]; rfl
theorem wsA_get {l : List ByteArray} {k : Nat} (h : k < l.length) : (l.map Value.string).toArray[k]? = some (.string l[k]) := by rw [List.getElem?_toArray, List.getElem?_map, List.getElem?_eq_getElem h]; rfl
/-- The words of a table. -/
def tabV (l : List ByteArray) : Array Value := (l.map Value.string).toArray
theorem tabV_get {l : List ByteArray} {k : Nat} (h : k < l.length) : (tabV l)[k]? = some (.string l[k]) := wsA_get h
theorem idx_some {l : List ByteArray} {s : ByteArray} {k : Nat} (h : k < l.length) (h1 : s = l[k]) (h2 : ∀ i (hi : i < l.length), i < k → s ≠ l[i]) : idxW l s = some k := by
  unfold idxW
  rw [List.findIdx?_eq_some_iff_getElem]
  exact ⟨h, decide_eq_true h1, fun i hi => by rw [decide_eq_false (h2 i (by omega) hi)]; simp⟩
theorem idx_none {l : List ByteArray} {s : ByteArray} (h2 : ∀ i (hi : i < l.length), s ≠ l[i]) : idxW l s = none := by
  unfold idxW
  rw [List.findIdx?_eq_none_iff]
  intro x hx
  obtain ⟨i, hi, rfl⟩ := List.mem_iff_getElem.1 hx
  exact decide_eq_false (h2 i hi)

theorem kinds_ok (w : World) :
  Sg.Ret Tryd.prog 11 #[] w fun v w' => v = .agg (tabV (no :: KWS)) ∧ Ch0 w w' := by
 refine enterG (n := 2) (l := []) Tryd.func11 rfl rfl rfl rfl ?_
 refine W.g0 ?_; intro σ
 refine W.seq ?_
 refine W.region ?_
 refine WL.alloc el41 rfl ?_
 intro w1 u0_0; have hu0_0 := u0_0.at_; have cu0_0 := u0_0.ch; have zu0_0 := u0_0.size
 refine WL.e1 Nx.thn 0 (lh) ?_
 intro σ1 s0
 refine W.seq ?_
 refine W.region ?_
 refine WL.x (X.build bd41 (pcons lc (pcons lc (pcons lc (pcons lc (pcons lc (pcons lc (pcons lc (pcons lc (pcons lc (pcons lc (pcons lc (pcons lc pnil)))))))))))) rfl (rfl : _ = [_, _, _, _, _, _, _, _, _, _, _, _])) rfl ?_
 refine WL.storeS ag41 (lt rfl (s0)) (lh) rfl rfl (by first | assumption | exact cu0_0.at0 (by assumption)) (by first | decide | (simp; done) | (simp; omega)) ?_
 intro w2 u1_1; have hu1_1 := u1_1.at_; have cu1_1 := u1_1.ch; have zu1_1 := u1_1.size
 refine WL.e1 Nx.thn 0 (lt rfl (s0)) ?_
 intro σ2 s0
 refine W.retG Nx.fG ⟨[_], (.cell s0 (by first | assumption | exact cu1_1.at (by assumption) (by intro hne; first | exact hne | ((try dsimp only at hne); omega)) | exact cu1_1.at (cu0_0.at0 (by assumption)) (by intro hne; first | exact hne | ((try dsimp only at hne); omega))) (by exact ag41) .nil), ?_⟩
 exact ⟨rfl, cu0_0.trans cu1_1 (fun _ _ => id) (fun i hi e => by (try dsimp only at e); omega)⟩
theorem answers_ok (w : World) :
  Sg.Ret Tryd.prog 14 #[] w fun v w' => v = .agg (tabV AWS) ∧ Ch0 w w' := by
 refine enterG (n := 2) (l := []) Tryd.func14 rfl rfl rfl rfl ?_
 refine W.g0 ?_; intro σ
 refine W.seq ?_
 refine W.region ?_
 refine WL.alloc el46 rfl ?_
 intro w1 u0_0; have hu0_0 := u0_0.at_; have cu0_0 := u0_0.ch; have zu0_0 := u0_0.size
 refine WL.e1 Nx.thn 0 (lh) ?_
 intro σ1 s0
 refine W.seq ?_
 refine W.region ?_
 refine WL.x (X.build bd46 (pcons lc (pcons lc (pcons lc (pcons lc pnil)))) rfl (rfl : _ = [_, _, _, _])) rfl ?_
 refine WL.storeS ag46 (lt rfl (s0)) (lh) rfl rfl (by first | assumption | exact cu0_0.at0 (by assumption)) (by first | decide | (simp; done) | (simp; omega)) ?_
 intro w2 u1_1; have hu1_1 := u1_1.at_; have cu1_1 := u1_1.ch; have zu1_1 := u1_1.size
 refine WL.e1 Nx.thn 0 (lt rfl (s0)) ?_
 intro σ2 s0
 refine W.retG Nx.fG ⟨[_], (.cell s0 (by first | assumption | exact cu1_1.at (by assumption) (by intro hne; first | exact hne | ((try dsimp only at hne); omega)) | exact cu1_1.at (cu0_0.at0 (by assumption)) (by intro hne; first | exact hne | ((try dsimp only at hne); omega))) (by exact ag46) .nil), ?_⟩
 exact ⟨rfl, cu0_0.trans cu1_1 (fun _ _ => id) (fun i hi e => by (try dsimp only at e); omega)⟩
theorem names_ok (w : World) :
  Sg.Ret Tryd.prog 28 #[] w fun v w' => v = .agg (tabV VWS) ∧ Ch0 w w' := by
 refine enterG (n := 2) (l := []) Tryd.func28 rfl rfl rfl rfl ?_
 refine W.g0 ?_; intro σ
 refine W.seq ?_
 refine W.region ?_
 refine WL.alloc el63 rfl ?_
 intro w1 u0_0; have hu0_0 := u0_0.at_; have cu0_0 := u0_0.ch; have zu0_0 := u0_0.size
 refine WL.e1 Nx.thn 0 (lh) ?_
 intro σ1 s0
 refine W.seq ?_
 refine W.region ?_
 refine WL.x (X.build bd63 (pcons lc (pcons lc (pcons lc (pcons lc (pcons lc (pcons lc pnil)))))) rfl (rfl : _ = [_, _, _, _, _, _])) rfl ?_
 refine WL.storeS ag63 (lt rfl (s0)) (lh) rfl rfl (by first | assumption | exact cu0_0.at0 (by assumption)) (by first | decide | (simp; done) | (simp; omega)) ?_
 intro w2 u1_1; have hu1_1 := u1_1.at_; have cu1_1 := u1_1.ch; have zu1_1 := u1_1.size
 refine WL.e1 Nx.thn 0 (lt rfl (s0)) ?_
 intro σ2 s0
 refine W.retG Nx.fG ⟨[_], (.cell s0 (by first | assumption | exact cu1_1.at (by assumption) (by intro hne; first | exact hne | ((try dsimp only at hne); omega)) | exact cu1_1.at (cu0_0.at0 (by assumption)) (by intro hne; first | exact hne | ((try dsimp only at hne); omega))) (by exact ag63) .nil), ?_⟩
 exact ⟨rfl, cu0_0.trans cu1_1 (fun _ _ => id) (fun i hi e => by (try dsimp only at e); omega)⟩

theorem own_form {w : World} {base e size m : Nat} {v : Value} {xs : List Value} (h : w.ownsRow base e size v m xs) : ∃ a c, v = .slice a m c := by
  rcases h.2 with ⟨rfl, h0⟩ | ⟨g, cap, cur, rfl, _⟩
  · exact ⟨none, 0, by rw [h0]⟩
  · exact ⟨_, cap, rfl⟩
theorem orow_form {α : Type} {size : Nat} {R : Rd α} {A : Nat → Prop} {w : World} {base e : Nat} {v : Value} {l : List α} (h : ORow size R A w base e v l) : ∃ a c, v = .slice a l.length c := by
  obtain ⟨ess, _, _, h3, _⟩ := h
  exact own_form h3
theorem orow_mine {α : Type} {size : Nat} {R : Rd α} {ts : List TypeId} {b0 : Nat} {F : Nat → Prop} {w w' : World} {base e : Nat} {v : Value} {l : List α} (hR : Mon R) (h : ORow size R (Mine ts b0 w) w base e v l) (c : Ch F w w') (hF : ∀ j, Mine ts b0 w j → ¬ F j) (hv : ∀ k, slBlk v k → ¬ F k) : ORow size R (Mine ts b0 w') w' base e v l := by
  obtain ⟨ess, e1, e2, e3, e4⟩ := h
  exact ⟨ess, e1, e2, own_ch e3 c hv, fun j hj => hR _ _ _ _ _ _ _ c hF (fun k hk => hk.ch c (hF k hk)) (e4 j hj)⟩
theorem mine_ne {ts : List TypeId} {b0 ob T : Nat} {w : World} {cs : Array Value} {fr : Nat × Nat} (h : w.heap[ob]? = some (.cells cs T fr)) (hT : T ∉ ts) : ∀ j, Mine ts b0 w j → ¬ j = ob := by
  rintro j ⟨_, cs2, T2, hT2, h2⟩ rfl
  rw [h] at h2
  exact hT ((Obj.cells.inj (Option.some.inj h2)).2.1 ▸ hT2)

theorem rd_mine {α : Type} {R : Rd α} {ts : List TypeId} {b0 : Nat} {F : Nat → Prop} {w w' : World} {es : List Value} {x : α} (hR : Mon R) (h : R (Mine ts b0 w) w es x) (c : Ch F w w') (hF : ∀ j, Mine ts b0 w j → ¬ F j) : R (Mine ts b0 w') w' es x := hR _ _ _ _ _ _ _ c hF (fun k hk => hk.ch c (hF k hk)) h
theorem rd_mono {α : Type} {R : Rd α} {ts : List TypeId} {b0 b1 : Nat} {w : World} {es : List Value} {x : α} (hR : Mon R) (h : R (Mine ts b0 w) w es x) (hb : b1 ≤ b0) : R (Mine ts b1 w) w es x := hR _ _ _ _ _ _ _ (Ch.refl (fun _ => False) w) (fun _ _ => id) (fun k hk => hk.mono (fun _ h => h) hb) h
theorem orow_ch {α : Type} {size : Nat} {R : Rd α} {A : Nat → Prop} {F : Nat → Prop} {w w' : World} {base e : Nat} {v : Value} {l : List α} (hR : Mon R) (h : ORow size R A w base e v l) (c : Ch F w w') (hF : ∀ j, A j → ¬ F j) (hv : ∀ k, slBlk v k → ¬ F k) : ORow size R A w' base e v l := by
  obtain ⟨ess, e1, e2, e3, e4⟩ := h
  exact ⟨ess, e1, e2, own_ch e3 c hv, fun j hj => hR _ _ _ _ _ _ _ c hF (fun k hk => hk) (e4 j hj)⟩
/-- Taking a word that stands for something in any case. -/
def kindV (s : ByteArray) : Int := match idxW (no :: KWS) s with | some i => (i : Int) | none => -1
def labV (s : ByteArray) : Int := ((idxW LWS s).map labI).getD 0
def ansV (s : ByteArray) : Int := match idxW AWS s with | some i => (i : Int) | none => -1
theorem kind_go {ts : List Tok} (h : seesB ts 1 no = true) : pword fP.kind ts = some (kindV (hdX ts), ts.tail) := word_go h
theorem lab_go {ts : List Tok} (h : seesB ts 1 no = true) : pword fP.label ts = some (labV (hdX ts), ts.tail) := (word_go h).trans (by
  show some ((match idxW LWS (hdX ts) with | some i => labI i | none => 0), ts.tail) = _
  unfold labV
  cases idxW LWS (hdX ts) <;> rfl)
theorem ans_go {ts : List Tok} (h : seesB ts 1 no = true) : pword fP.answer ts = some (ansV (hdX ts), ts.tail) := word_go h
/-- What stands behind an anomaly's kind; behind its level. -/
def anK2 (kd t o ot : Int) (k : ByteArray) (v : Int) (re : Bool) (lv : Int) : List QWhy → PR QAn := fun cyc => pbind pends fun _ => pret (kd, t, o, ot, k, v, cyc, re, lv)
def anK1 (kd : Int) : PR QAn := pbind pnum fun t => pbind pnum fun o => pbind pnum fun ot => pbind pkey fun k => pbind pnum fun v => pbind (pword (two wReal wPlain)) fun re => pbind (pword fP.level) fun lv => pbind (pmany (fun ts => seesB ts 3 (mk1 91)) (pwhy fP)) fun cyc => anK2 kd t o ot k v re lv cyc
theorem two_ne (s : ByteArray) (h : 0 < s.size) : s ≠ no := fun e => by rw [e] at h; exact absurd h (by decide)
def LBL : ByteArray → Option Int := fun s => (idxW LWS s).map labI
theorem labels_ok (w : World) :
  Sg.Ret Tryd.prog 29 #[] w fun v w' => ∃ b, v = .map (some b) ∧ MS Tryd.prog 9 3 w' b 4 LBL ∧ w.heap.size ≤ b ∧ Ch0 w w' := by
 refine enter1 (n := 3) (l := []) Tryd.func29 rfl rfl rfl rfl ?_
 refine W.g0 ?_; intro σ
 refine W.seq ?_
 refine W.region ?_
 refine WL.x (X.asg lc) rfl ?_
 refine WL.e0 Nx.thn  ?_
 intro σ1 
 refine W.seq ?_
 refine W.region ?_
 refine WL.mkMapS (k := 9) (e := 3) rfl ?_
 intro w1 hms cm hzm
 refine WL.insS Tryd.underlying65 Tryd.underlying9 Tryd.underlying3 (lh) (show ev _ (.const _) = _ from rfl) (show ev _ (.const _) = _ from rfl) (s := ⟨#[119, 119]⟩) (z := 1) (by unfold maxLen; decide) (by decide) (by unfold maxLen; omega) hms ?_
 intro w2 hms ci0
 refine WL.insS Tryd.underlying65 Tryd.underlying9 Tryd.underlying3 (lh) (show ev _ (.const _) = _ from rfl) (show ev _ (.const _) = _ from rfl) (s := ⟨#[119, 114]⟩) (z := 2) (by unfold maxLen; decide) (by decide) (by unfold maxLen; omega) hms ?_
 intro w3 hms ci1
 refine WL.insS Tryd.underlying65 Tryd.underlying9 Tryd.underlying3 (lh) (show ev _ (.const _) = _ from rfl) (show ev _ (.const _) = _ from rfl) (s := ⟨#[114, 119]⟩) (z := 4) (by unfold maxLen; decide) (by decide) (by unfold maxLen; omega) hms ?_
 intro w4 hms ci2
 refine WL.insS Tryd.underlying65 Tryd.underlying9 Tryd.underlying3 (lh) (show ev _ (.const _) = _ from rfl) (show ev _ (.const _) = _ from rfl) (s := ⟨#[114, 116]⟩) (z := 8) (by unfold maxLen; decide) (by decide) (by unfold maxLen; omega) hms ?_
 intro w5 hms ci3
 refine WL.x (X.mv (lh)) rfl ?_
 refine WL.x (X.asg (lh)) rfl ?_
 refine WL.e1 Nx.thn 0 (lh) ?_
 intro σ2 s0
 refine W.ret1 Nx.f1 s0 ?_
 refine ⟨_, rfl, ?_, Nat.le_refl _, ((((cm.trans ci0 (H := fun _ => False) (fun _ _ e => e) (fun j hj e => by (try dsimp only at e); omega)).trans ci1 (H := fun _ => False) (fun _ _ e => e) (fun j hj e => by (try dsimp only at e); omega)).trans ci2 (H := fun _ => False) (fun _ _ e => e) (fun j hj e => by (try dsimp only at e); omega)).trans ci3 (H := fun _ => False) (fun _ _ e => e) (fun j hj e => by (try dsimp only at e); omega))⟩
 have e : (fun y : ByteArray => if y = ⟨#[114, 116]⟩ then some (8 : Int) else if y = ⟨#[114, 119]⟩ then some 4 else if y = ⟨#[119, 114]⟩ then some 2 else if y = ⟨#[119, 119]⟩ then some 1 else none) = LBL := by
   funext y
   unfold LBL LWS
   rw [idxW_cons, idxW_cons, idxW_cons, idxW_cons]
   by_cases h1 : y = ⟨#[119, 119]⟩
   · subst h1; rfl
   · by_cases h2 : y = ⟨#[119, 114]⟩
     · subst h2; rfl
     · by_cases h3 : y = ⟨#[114, 119]⟩
       · subst h3; rfl
       · by_cases h4 : y = ⟨#[114, 116]⟩
         · subst h4; rfl
         · rw [if_neg h1, if_neg h2, if_neg h3, if_neg h4, if_neg h4, if_neg h3, if_neg h2, if_neg h1]; rfl
 exact e ▸ hms
end Go.Proofs.YtbnllchicnmkiaaDoor
