/-
  A part of the walk of the program.
-/
import Derived.Test.YtbnnogbmmbkedaaDoorH
import Derived.Test.YtbnnogbmmbkedaaDoorReads
import Derived.Test.YtbnnogbmmbkedaaDoorFrame
set_option linter.unusedVariables false
set_option linter.unusedSimpArgs false
set_option maxRecDepth 100000
namespace Go.Proofs.YtbnnogbmmbkedaaDoor
open Go Go.RowKit Sg

theorem sl_ref {w : World} {p pb cap : Nat} {ms : List Bool} (h : IsRef w p pb ms) (hd : w.heap[p]? = some (.cells #[.slice (some ⟨pb, 0, none⟩) ms.length cap] 50 (0, 0))) (hc : ms.length ≤ cap) : Sl w (.slice (some ⟨pb, 0, none⟩) (ms.map Value.bool).length cap) (ms.map Value.bool) := by
  obtain ⟨cs, hb, hg⟩ := h.bd
  refine .inr ⟨pb, 0, cap, cs, _, _, rfl, by rw [List.length_map]; exact hc, hb, fun j hj => ?_⟩
  rw [List.length_map] at hj
  rw [Nat.zero_add, hg j hj]
  simp [List.getD_eq_getElem?_getD, List.getElem?_eq_getElem hj]
theorem own_some {w : World} {base m : Nat} {e : TypeId} {v : Value} {xs : List Value} (h : w.ownsRow base e 1 v m xs) (hn : v ≠ .slice none 0 0) :
    ∃ g cap cur, v = .slice (some ⟨g, 0, none⟩) m cap ∧ base ≤ g ∧ w.heap[g]? = some (.cells cur e (0, 0)) ∧ m ≤ cap ∧ ∀ j, j < m → cur[j]? = xs[j]? := by
  obtain ⟨hl, h⟩ := h
  rcases h with ⟨rfl, _⟩ | ⟨g, cap, cur, rfl, hb, hg, hc, _, hs, ht⟩
  · exact absurd rfl hn
  · refine ⟨g, cap, cur, rfl, hb, hg, hc, fun j hj => ?_⟩
    rw [← ht, List.getElem?_take, if_pos (by omega)]
    simp
theorem rcopy_ok (p pb : Nat) (ms : List Bool) (w : World) (h : IsRef w p pb ms) :
    Sg.Ret Tryd.prog 25 #[.pointer (some ⟨p, 0, none⟩)] w fun v w' => ∃ p' pb', v = .pointer (some ⟨p', 0, none⟩) ∧ IsRef w' p' pb' ms ∧ Ch0 w w' ∧ w.heap.size ≤ p' ∧ w.heap.size ≤ pb' := by
  obtain ⟨cap, hcap, hd⟩ := h.hd
  obtain ⟨cs, hb, hg⟩ := h.bd
  have hle := h.le
  have hsl : Sl w (.slice (some ⟨pb, 0, none⟩) (ms.map Value.bool).length cap) (ms.map Value.bool) := sl_ref h hd hcap
  refine enter1 (n := 11) (l := [.pointer (some ⟨p, 0, none⟩)]) Tryd.func25 rfl rfl rfl rfl ?_
  refine W.g1 0 (v1 := .pointer (some ⟨p, 0, none⟩)) rfl ?_; intro σ s0
  refine W.seq ?_
  refine W.region ?_
  refine WL.x (X.asg lc) rfl ?_
  refine WL.e1 Nx.thn 0 (lt rfl (s0)) ?_
  intro σ1 s0
  refine W.seq ?_
  refine W.region ?_
  refine WL.bsliceR (vs := []) Tryd.underlying48 el4 (by decide) pnil rfl (fun _ h => by cases h) (by decide) rfl ?_
  intro w1 u1_0; have hu1_0 := u1_0.at_; have cu1_0 := u1_0.ch; have zu1_0 := u1_0.size
  refine WL.x (X.mv (lt rfl (s0))) rfl ?_
  refine WL.x (X.nilck (lh)) rfl ?_
  refine WL.x (X.fieldAddr fd50_0 (lh)) rfl ?_
  refine WL.x (X.load pl48 (lh) (by first | assumption | exact cu1_0.at0 (by assumption)) (by first | rfl | assumption)) rfl ?_
  refine WL.appendA Tryd.underlying48 el4 rfl (by decide) (lt rfl (lt rfl (lt rfl (lt rfl (lh))))) (lh) (owns_empty (base := w.heap.size) hu1_0 (Nat.le_refl _)) (fun j u hu => Sl.news (l := ms.map Value.bool) (by rw [List.length_map]; rw [List.length_map] at hsl; exact hsl.ch0 cu1_0) j u hu) (by simp) (by intro u hu; obtain ⟨b, _, rfl⟩ := List.mem_map.1 hu; rfl) (by unfold maxLen; omega) (by omega) (by omega) rfl ?_
  intro va1_5 w2 ho1_5 ca1_5 hn1_5
  have hc2 : Ch0 w w2 := cu1_0.trans ca1_5 (fun _ _ => id) (fun i hi e => by have : i = w.heap.size := e; omega)
  rw [Nat.zero_add, List.nil_append] at ho1_5
  obtain ⟨g, cap', cur, rfl, hgb, hgh, hcap', hgt⟩ := own_some ho1_5 (fun e => by cases (hn1_5.1 e).1)
  have hz5 := hc2.size
  refine WL.x (X.build bd50 (pcons (lh) pnil) rfl (rfl : _ = [_])) rfl ?_
  refine WL.box (lh) rfl ?_
  intro w3 u1_7; have hu1_7 := u1_7.at_; have cu1_7 := u1_7.ch; have zu1_7 := u1_7.size
  refine WL.x (X.asg (lh)) rfl ?_
  refine WL.e1 Nx.thn 2 (lh) ?_
  intro σ2 s2
  refine W.ret1 Nx.f1 s2 ?_
  refine ⟨_, _, rfl, ⟨⟨cap', hcap', hu1_7⟩, ⟨cur, cu1_7.at0 hgh, fun i hi => ?_⟩, h.le⟩, hc2.trans0 cu1_7, by omega, hgb⟩
  rw [hgt i (by simpa using hi)]
  simp [List.getD_eq_getElem?_getD, List.getElem?_eq_getElem hi]
theorem rsame_ok (p pb : Nat) (ms : List Bool) (p2 pb2 : Nat) (ms2 : List Bool) (w : World) (h : IsRef w p pb ms) (h2 : IsRef w p2 pb2 ms2) :
    Sg.Ret Tryd.prog 30 #[.pointer (some ⟨p, 0, none⟩), .pointer (some ⟨p2, 0, none⟩)] w fun v w' => v = .bool (decide (ms = ms2)) ∧ Dr w w' := by
  obtain ⟨cap, hcap, hd⟩ := h.hd
  obtain ⟨cs, hb, hg⟩ := h.bd
  have hle := h.le
  obtain ⟨cap2, hcap2, hd2⟩ := h2.hd
  obtain ⟨cs2, hb2, hg2⟩ := h2.bd
  have hle2 := h2.le
  refine enter1 (n := 45) (l := [.pointer (some ⟨p, 0, none⟩), .pointer (some ⟨p2, 0, none⟩)]) Tryd.func30 rfl rfl rfl rfl ?_
  refine W.g2 0 1 (v1 := .pointer (some ⟨p, 0, none⟩)) (v2 := .pointer (some ⟨p2, 0, none⟩)) rfl rfl ?_; intro σ s0 s1
  refine W.seq ?_
  refine W.region ?_
  refine WL.x (X.asg lc) rfl ?_
  refine WL.e2 Nx.thn 0 1 (lt rfl (s0)) (lt rfl (s1)) ?_
  intro σ1 s0 s1
  refine W.seq ?_
  refine W.seq ?_
  refine W.draw mo (by kernel_rfl) Nx.thn ?_
  refine WQ.x (fun _ => X.mv (s1)) rfl ?_
  refine WQ.x (fun _ => X.eqlN Tryd.underlying38 (lh) lc) rfl ?_
  refine WQ.x (fun _ => X.mv (lh)) rfl ?_
  refine WQ.yes rfl rfl (lh) (rfl) ?_
  refine WQ.x (fun _ => X.mv (lt rfl (lt rfl (lt rfl (s1))))) rfl ?_
  refine WQ.yes rfl rfl (lt rfl (lh)) (rfl) ?_
  refine WQ.x (fun _ => X.nilck (lh)) rfl ?_
  refine WQ.yes rfl rfl (lt rfl (lt rfl (lh))) (rfl) ?_
  refine WQ.x (fun _ => X.fieldAddr fd50_0 (lh)) rfl ?_
  refine WQ.yes rfl rfl (lt rfl (lt rfl (lt rfl (lh)))) (rfl) ?_
  refine WQ.x (fun _ => X.load pl48 (lh) (by first | assumption) (by first | rfl | assumption)) rfl ?_
  refine WQ.yes rfl rfl (lt rfl (lt rfl (lt rfl (lt rfl (lh))))) (rfl) ?_
  refine WQ.x (fun _ => X.lenSl Tryd.underlying48 (lh)) rfl ?_
  refine WQ.yes rfl rfl (lt rfl (lt rfl (lt rfl (lt rfl (lt rfl (lh)))))) (rfl) ?_
  refine WQ.x (fun _ => X.mv (lt rfl (lt rfl (lt rfl (lt rfl (lt rfl (lt rfl (lt rfl (lt rfl (s0)))))))))) rfl ?_
  refine WQ.yes rfl rfl (lt rfl (lt rfl (lt rfl (lt rfl (lt rfl (lt rfl (lh))))))) (rfl) ?_
  refine WQ.x (fun _ => X.nilck (lh)) rfl ?_
  refine WQ.yes rfl rfl (lt rfl (lt rfl (lt rfl (lt rfl (lt rfl (lt rfl (lt rfl (lh)))))))) (rfl) ?_
  refine WQ.x (fun _ => X.fieldAddr fd50_0 (lh)) rfl ?_
  refine WQ.yes rfl rfl (lt rfl (lt rfl (lt rfl (lt rfl (lt rfl (lt rfl (lt rfl (lt rfl (lh))))))))) (rfl) ?_
  refine WQ.x (fun _ => X.load pl48 (lh) (by first | assumption) (by first | rfl | assumption)) rfl ?_
  refine WQ.yes rfl rfl (lt rfl (lt rfl (lt rfl (lt rfl (lt rfl (lt rfl (lt rfl (lt rfl (lt rfl (lh)))))))))) (rfl) ?_
  refine WQ.x (fun _ => X.lenSl Tryd.underlying48 (lh)) rfl ?_
  refine WQ.yes rfl rfl (lt rfl (lt rfl (lt rfl (lt rfl (lt rfl (lt rfl (lt rfl (lt rfl (lt rfl (lt rfl (lh))))))))))) (rfl) ?_
  refine WQ.x (fun _ => X.neq (lt rfl (lt rfl (lt rfl (lt rfl (lt rfl (lh)))))) (lh)) rfl ?_
  refine WQ.x (fun _ => X.pickF (lt rfl (lt rfl (lt rfl (lt rfl (lt rfl (lt rfl (lt rfl (lt rfl (lt rfl (lt rfl (lt rfl (lh)))))))))))) (rfl) (lh)) rfl ?_
  refine WQ.e3 0 1 20 (lt rfl (lt rfl (lt rfl (lt rfl (lt rfl (lt rfl (lt rfl (lt rfl (lt rfl (lt rfl (lt rfl (lt rfl (lt rfl (lt rfl (lt rfl (s0)))))))))))))))) (lt rfl (lt rfl (lt rfl (lt rfl (lt rfl (lt rfl (lt rfl (lt rfl (lt rfl (lt rfl (lt rfl (lt rfl (lt rfl (lt rfl (lt rfl (s1)))))))))))))))) (lh) ?_
  intro σ2 s0 s1 s20
  intro _; refine gdrew ?_; intro w1 hh1 cd1 dr1
  refine W.cndp s20 (fun hlen => ?_) (fun hlen => ?_)
  · refine W.seq ?_
    refine W.region ?_
    refine WL.x (X.asg lc) rfl ?_
    refine WL.e1 Nx.thn 4 (lh) ?_
    intro σ3 s4
    refine W.ret1 (Nx.rthn Nx.f1) s4 ?_
    exact ⟨by rw [decide_eq_false (fun e => hlen (by rw [e]))], dr1⟩
  · have hlen : ms.length = ms2.length := by omega
    refine W.skip Nx.thn ?_
    refine W.seq ?_
    refine W.seq ?_
    refine W.region ?_
    refine WL.x (X.mv (s0)) rfl ?_
    refine WL.x (X.nilck (lh)) rfl ?_
    refine WL.x (X.fieldAddr fd50_0 (lh)) rfl ?_
    refine WL.x (X.load pl48 (lh) (by first | assumption | exact cd1.at0 (by assumption)) (by first | rfl | assumption)) rfl ?_
    refine WL.x (X.lenSl Tryd.underlying48 (lh)) rfl ?_
    refine WL.x (X.mv lc) rfl ?_
    refine WL.e4 Nx.thn 0 1 25 26 (lt rfl (lt rfl (lt rfl (lt rfl (lt rfl (lt rfl (s0))))))) (lt rfl (lt rfl (lt rfl (lt rfl (lt rfl (lt rfl (s1))))))) (lt rfl (lh)) (lh) ?_
    intro σ4 s0 s1 s25 s26
    refine W.block ?_
    have qo2 := s0
    have qo3 := s1
    have qo4 := s25
    -- loop 0: kept [0, 1, 25], varied [26]
    refine W.loop (G := Nat) (fun k σ' w' => (σ' 0 = σ4 0 ∧ σ' 1 = σ4 1 ∧ σ' 25 = σ4 25 ∧ True) ∧ (σ' 26 = .int .i64 (k : Int) ∧ k ≤ ms.length ∧ Dr w w' ∧ Ch0 w w' ∧ ∀ i, i < k → ms[i]? = ms2[i]?)) (fun k => ms.length - k) (0) ⟨⟨rfl, rfl, rfl, trivial⟩, s26, by omega, dr1, cd1, fun i hi => absurd hi (by omega)⟩ ?_
    rintro k σ5 w2 ⟨⟨f0, f1, f25, _⟩, s26, hk, hdr, hcl, heq⟩
    have s0 := f0.trans qo2
    have s1 := f1.trans qo3
    have s25 := f25.trans qo4
    refine W.seq ?_
    refine W.region ?_
    refine WL.x (X.lss (s26) (s25)) rfl ?_
    refine WL.e5 Nx.thn 0 1 25 26 27 (lt rfl (s0)) (lt rfl (s1)) (lt rfl (s25)) (lt rfl (s26)) (lh) ?_
    intro σ6 s0 s1 s25 s26 s27
    refine W.seq ?_
    refine W.cndp s27 (fun hlt => ?_) (fun hlt => ?_)
    · refine W.skip Nx.thn ?_
      refine W.seq ?_
      refine W.block ?_
      refine W.seq ?_
      refine W.region ?_
      refine WL.x (X.mv (s26)) rfl ?_
      refine WL.x (X.asg (lh)) rfl ?_
      refine WL.e5 Nx.thn 0 1 5 25 26 (lt rfl (lt rfl (s0))) (lt rfl (lt rfl (s1))) (lh) (lt rfl (lt rfl (s25))) (lt rfl (lt rfl (s26))) ?_
      intro σ7 s0 s1 s5 s25 s26
      refine W.seq ?_
      refine W.draw mo (by kernel_rfl) Nx.thn ?_
      refine WQ.x (fun _ => X.mv (s0)) rfl ?_
      refine WQ.x (fun _ => X.nilck (lh)) rfl ?_
      refine WQ.x (fun _ => X.fieldAddr fd50_0 (lh)) rfl ?_
      refine WQ.x (fun _ => X.load pl48 (lh) (by first | assumption | exact hcl.at0 (by assumption) | exact hcl.at0 (cd1.at0 (by assumption))) (by first | rfl | assumption)) rfl ?_
      refine WQ.x (fun _ => X.mv (lt rfl (lt rfl (lt rfl (lt rfl (s5)))))) rfl ?_
      refine WQ.x (fun _ => X.indexAddr Tryd.underlying48 el4 (lt rfl (lh)) (lh) (by omega) (by omega)) rfl ?_
      refine WQ.x (fun m => X.load pl4 (lh) (hdr.ch0.at0 hb) (by rw [show 0 + (k : Int).toNat * 1 = k by omega]; exact hg k (by omega))) rfl ?_
      refine WQ.x (fun _ => X.mv (lt rfl (lt rfl (lt rfl (lt rfl (lt rfl (lt rfl (lt rfl (s1))))))))) rfl ?_
      refine WQ.x (fun _ => X.nilck (lh)) rfl ?_
      refine WQ.x (fun _ => X.fieldAddr fd50_0 (lh)) rfl ?_
      refine WQ.x (fun _ => X.load pl48 (lh) (by first | assumption | exact hcl.at0 (by assumption) | exact hcl.at0 (cd1.at0 (by assumption))) (by first | rfl | assumption)) rfl ?_
      refine WQ.x (fun _ => X.mv (lt rfl (lt rfl (lt rfl (lt rfl (lt rfl (lt rfl (lt rfl (lt rfl (lt rfl (lt rfl (lt rfl (s5))))))))))))) rfl ?_
      refine WQ.x (fun _ => X.indexAddr Tryd.underlying48 el4 (lt rfl (lh)) (lh) (by omega) (by omega)) rfl ?_
      refine WQ.x (fun m => X.load pl4 (lh) (hdr.ch0.at0 hb2) (by rw [show 0 + (k : Int).toNat * 1 = k by omega]; exact hg2 k (by omega))) rfl ?_
      refine WQ.x (fun _ => X.neqB Tryd.underlying4 (lt rfl (lt rfl (lt rfl (lt rfl (lt rfl (lt rfl (lt rfl (lh)))))))) (lh)) rfl ?_
      refine WQ.e5 0 1 25 26 43 (lt rfl (lt rfl (lt rfl (lt rfl (lt rfl (lt rfl (lt rfl (lt rfl (lt rfl (lt rfl (lt rfl (lt rfl (lt rfl (lt rfl (lt rfl (s0)))))))))))))))) (lt rfl (lt rfl (lt rfl (lt rfl (lt rfl (lt rfl (lt rfl (lt rfl (lt rfl (lt rfl (lt rfl (lt rfl (lt rfl (lt rfl (lt rfl (s1)))))))))))))))) (lt rfl (lt rfl (lt rfl (lt rfl (lt rfl (lt rfl (lt rfl (lt rfl (lt rfl (lt rfl (lt rfl (lt rfl (lt rfl (lt rfl (lt rfl (s25)))))))))))))))) (lt rfl (lt rfl (lt rfl (lt rfl (lt rfl (lt rfl (lt rfl (lt rfl (lt rfl (lt rfl (lt rfl (lt rfl (lt rfl (lt rfl (lt rfl (s26)))))))))))))))) (lh) ?_
      intro σ8 s0 s1 s25 s26 s43
      intro _; refine gdrew ?_; intro w3 hh6 cd6 dr6
      refine W.cndp s43 (fun hq => ?_) (fun hq => ?_)
      · refine W.seq ?_
        refine W.region ?_
        refine WL.x (X.asg lc) rfl ?_
        refine WL.e1 Nx.thn 4 (lh) ?_
        intro σ9 s4
        refine W.ret1 (Nx.rblk (Nx.rthn (Nx.rthn (Nx.rblk (Nx.rthn Nx.f1))))) s4 ?_
        exact ⟨by rw [decide_eq_false (fun e => hq (by rw [e]))], hdr.trans dr6⟩
      · refine W.skip (Nx.blk Nx.thn) ?_
        refine W.region ?_
        first | refine WL.x (X.add (s26) lc (by omega) (by omega)) rfl ?_ | refine WL.x (X.addw (s26) lc) rfl ?_
        refine WL.x (X.mv (lh)) rfl ?_
        refine WL.e4 Nx.thn 0 1 25 26 (lt rfl (lt rfl (s0))) (lt rfl (lt rfl (s1))) (lt rfl (lt rfl (s25))) (lh) ?_
        intro σ10 s0 s1 s25 s26
        have hq : ms.getD k false = ms2.getD k false := Classical.not_not.1 hq
        refine ⟨k + 1, by omega, ⟨s0.trans qo2.symm, s1.trans qo3.symm, s25.trans qo4.symm, trivial⟩, s26, by omega, hdr.trans dr6, hcl.trans0 cd6, fun i hi => by by_cases e : i = k; (· subst e; simp only [List.getD_eq_getElem?_getD, List.getElem?_eq_getElem (show i < ms.length by omega), List.getElem?_eq_getElem (show i < ms2.length by omega), Option.getD_some] at hq ⊢; rw [hq]); (· exact heq i (by omega))⟩
    · refine W.exit (Nx.xthn (Nx.xthn (Nx.xblk Nx.thn))) ?_
      refine W.seq ?_
      refine W.region ?_
      refine WL.x (X.asg lc) rfl ?_
      refine WL.e1 Nx.thn 4 (lh) ?_
      intro σ11 s4
      refine W.ret1 Nx.f1 s4 ?_
      exact ⟨by rw [decide_eq_true (List.ext_getElem? fun i => by by_cases h : i < ms.length; (· exact heq i (by omega)); (· rw [List.getElem?_eq_none (by omega), List.getElem?_eq_none (by omega)]))], hdr⟩
end Go.Proofs.YtbnnogbmmbkedaaDoor
