/-
  A part of the walk of the program.
-/
import Derived.Test.YtaldkbdnefpklaaDoorR
set_option linter.unusedVariables false
set_option linter.unusedSimpArgs false
set_option maxRecDepth 100000
namespace Go.Proofs.YtaldkbdnefpklaaDoor
open Go Go.RowKit Sg

/-- Which node comes next, d steps from the end. -/
noncomputable def pcN (E : Nat → Nat → Prop) (to d m : Nat) : Bool := decide ((d = 1 ∧ m = to) ∨ (1 < d ∧ dst E m to + 1 = d))
noncomputable def fI (E : Nat → Nat → Prop) (to d : Nat) (i : Int) : Bool := decide ((d = 1 ∧ i = (to : Int)) ∨ (1 < d ∧ dst E i.toNat to + 1 = d))
theorem fI_nat {E : Nat → Nat → Prop} {to d m : Nat} : fI E to d (m : Int) = pcN E to d m := by
  unfold fI pcN
  rw [show ((m : Nat) : Int).toNat = m by omega]
  exact decide_eq_decide.2 (by omega)
noncomputable def nx (E : Nat → Nat → Prop) (l : List Nat) (to d : Nat) : Nat := (l.find? (pcN E to d)).getD 0
theorem nx_at {E : Nat → Nat → Prop} {l : List Nat} {to d k : Nat} (hk : k < l.length) (h1 : pcN E to d l[k] = true) (h2 : ∀ (i : Nat) (h : i < k), pcN E to d (l[i]'(by omega)) = false) : nx E l to d = l[k] := by
  unfold nx
  rw [show l.find? (pcN E to d) = some l[k] from List.find?_eq_some_iff_getElem.2 ⟨h1, k, hk, rfl, fun j hj => by rw [h2 j hj]; rfl⟩]
  rfl
noncomputable def spath (Lb : Nat → Nat → Nat) (n : Nat) (o : Int) (to : Nat) : Nat → Nat → List Nat
  | 0, _ => []
  | d + 1, a => nx (EE Lb o) (outN Lb a n o) to (d + 1) :: spath Lb n o to d (nx (EE Lb o) (outN Lb a n o) to (d + 1))
/-- So many steps are left. -/
def Left (E : Nat → Nat → Prop) (a to d : Nat) : Prop := if d = 0 then a = to else dst E a to = d
theorem left_ex {n : Nat} {Lb : Nat → Nat → Nat} (h : LbOk n Lb) {o : Int} {a to d : Nat} (hd : d ≠ 0) (hl : Left (EE Lb o) a to d) : ∃ m ∈ outN Lb a n o, pcN (EE Lb o) to d m = true := by
  unfold Left at hl
  rw [if_neg hd] at hl
  have h1 := dst_is (show dst (EE Lb o) a to ≠ 0 by omega)
  obtain ⟨q, hq⟩ : ∃ q, d = q + 1 := ⟨d - 1, by omega⟩
  rw [hl, hq] at h1
  obtain ⟨m, he, hw⟩ := h1.2.1
  refine ⟨m, mem_outN.2 ⟨(EE.lt h _ _ he).2, he⟩, ?_⟩
  unfold pcN
  refine decide_eq_true ?_
  by_cases e : q = 0
  · subst e
    exact .inl ⟨hq, hw⟩
  · have h2 := dst_le (by omega) hw
    have h3 := h1.2.2 (dst (EE Lb o) m to + 1) (by omega) ⟨m, he, (dst_is h2.1).2.1⟩
    exact .inr ⟨by omega, by omega⟩
theorem left_next {E : Nat → Nat → Prop} {to d m : Nat} (hp : pcN E to (d + 1) m = true) : Left E m to d := by
  unfold pcN at hp
  have := of_decide_eq_true hp
  unfold Left
  by_cases e : d = 0
  · rw [if_pos e]; omega
  · rw [if_neg e]; omega
theorem index_nx (f : Nat) (caps : List Value) (E : Nat → Nat → Prop) (to d : Nat) (a : Option Addr) (c : Nat) (l : List Nat) (w : World) (hcal : Sg.Callee Tryd.prog f) (hf : ∀ (m : Nat) w0, m ∈ l → Ch0 w w0 → Sg.Ret Tryd.prog f (Value.int .i64 (m : Int) :: caps).toArray w0 fun v w' => v = .bool (pcN E to d m) ∧ Ch0 w0 w')
    (hs : Sl w (.slice a l.length c) (l.map fun (m : Nat) => Value.int .i64 (m : Int))) (hl : l.length ≤ 140737488355328) (hex : ∃ m ∈ l, pcN E to d m = true) : Sg.Ret Tryd.prog 38 #[.slice a l.length c, .func (.func f) #[] caps.toArray] w fun v w' =>
    (∃ (k : Nat) (hk : k < l.length), v = .int .i64 (k : Int) ∧ l[k] = nx E l to d ∧ pcN E to d l[k] = true) ∧ Ch0 w w' := by
  have key := index_fn f caps (fI E to d) a c (l.map fun (m : Nat) => (m : Int)) w hcal (fun i w0 hi c0 => by
    obtain ⟨m, hm, rfl⟩ := List.mem_map.1 hi
    rw [fI_nat]
    exact hf m w0 hm c0) (by rw [List.map_map, List.length_map]; exact hs) (by rw [List.length_map]; exact hl)
  rw [List.length_map] at key
  refine Ret.mono key fun v w' hh => ⟨?_, hh.2⟩
  rcases hh.1 with ⟨k, hk, rfl, h1, h2⟩ | ⟨rfl, h1⟩
  · rw [List.length_map] at hk
    rw [List.getElem_map, fI_nat] at h1
    refine ⟨k, hk, rfl, (nx_at hk h1 fun i hi => ?_).symm, h1⟩
    have := h2 i hi
    rw [List.getElem_map, fI_nat] at this
    exact this
  · exfalso
    obtain ⟨m, hm, hp⟩ := hex
    have := h1 _ (List.mem_map.2 ⟨m, hm, rfl⟩)
    rw [fI_nat, hp] at this
    cases this
theorem pair_eq {E : Nat → Nat → Prop} {to e m : Nat} (hp : pcN E to (e + 1) m = true) (h : e = 0) : ((m : Int), (to : Int)) = ((to : Int), (to : Int)) := by
  subst h
  have h8 : m = to := left_next hp
  rw [h8]
theorem box_of {σ : Env} {k A : Nat} {w : World} {c : Option Obj} (h : σ k = .pointer (some ⟨A, 0, none⟩)) (h2 : w.heap[A]? = c) : ∃ bb, σ k = .pointer (some ⟨bb, 0, none⟩) ∧ w.heap[bb]? = c ∧ bb = A := ⟨A, h, h2, rfl⟩

theorem short_fn (E : Nat → Nat → Prop) (n d to m db tb bb b8 : Nat) (w : World) (hm : m < n) (hd64 : d ≤ 4096) (hdb : w.heap[db]? = some (.cells #[.int .i64 (d : Int)] 3 (0, 0))) (htb : w.heap[tb]? = some (.cells #[.int .i64 (to : Int)] 3 (0, 0))) (hbb : w.heap[bb]? = some (.cells #[.slice (some ⟨b8, 0, none⟩) n n] 44 (0, 0))) (hb8 : w.heap[b8]? = some (.cells (wI n (fun i => (dst E i to : Int))) 3 (0, 0)))  :
    Sg.Ret Tryd.prog 40 #[.int .i64 (m : Int), .pointer (some ⟨db, 0, none⟩), .pointer (some ⟨tb, 0, none⟩), .pointer (some ⟨bb, 0, none⟩)] w fun v w' => v = .bool (pcN E to d m) ∧ Dr w w' := by
  refine enter1 (n := 26) (l := [.int .i64 (m : Int), .pointer (some ⟨db, 0, none⟩), .pointer (some ⟨tb, 0, none⟩), .pointer (some ⟨bb, 0, none⟩)]) Tryd.func40 rfl rfl rfl rfl ?_
  refine W.g4 0 1 2 3 (v1 := .int .i64 (m : Int)) (v2 := .pointer (some ⟨db, 0, none⟩)) (v3 := .pointer (some ⟨tb, 0, none⟩)) (v4 := .pointer (some ⟨bb, 0, none⟩)) rfl rfl rfl rfl ?_; intro σ s0 s1 s2 s3
  refine W.seq ?_
  refine W.region ?_
  refine WL.x (X.asg lc) rfl ?_
  refine WL.e4 Nx.thn 0 1 2 3 (lt rfl (s0)) (lt rfl (s1)) (lt rfl (s2)) (lt rfl (s3)) ?_
  intro σ1 s0 s1 s2 s3
  refine W.seq ?_
  refine W.draw mo (by kernel_rfl) Nx.thn ?_
  refine WQ.x (fun m => X.load pl3 (s1) hdb (v := .int .i64 (d : Int)) rfl) rfl ?_
  refine WQ.x (fun _ => X.eql (lh) lc) rfl ?_
  refine WQ.x (fun _ => X.mv (lh)) rfl ?_
  refine WQ.splitp (lh) (fun h1 => ?_) (fun h1 => ?_)
  · refine WQ.yes rfl rfl (lh) (decide_eq_true h1) ?_
    refine WQ.x (fun _ => X.mv (lt rfl (lt rfl (lt rfl (s0))))) rfl ?_
    refine WQ.yes rfl rfl (lt rfl (lh)) (decide_eq_true h1) ?_
    refine WQ.x (fun m => X.load pl3 (lt rfl (lt rfl (lt rfl (lt rfl (s2))))) htb (v := .int .i64 (to : Int)) rfl) rfl ?_
    refine WQ.yes rfl rfl (lt rfl (lt rfl (lh))) (decide_eq_true h1) ?_
    refine WQ.x (fun _ => X.eql (lt rfl (lh)) (lh)) rfl ?_
    refine WQ.x (fun _ => X.pickT (lt rfl (lt rfl (lt rfl (lh)))) (decide_eq_true h1) (lh)) rfl ?_
    refine WQ.x (fun _ => X.mv (lh)) rfl ?_
    refine WQ.splitp (lh) (fun h2 => ?_) (fun h2 => ?_)
    · refine WQ.no rfl rfl (lh) (decide_eq_true h2) rfl ?_
      refine WQ.no rfl rfl (lt rfl (lh)) (decide_eq_true h2) rfl ?_
      refine WQ.no rfl rfl (lt rfl (lt rfl (lh))) (decide_eq_true h2) rfl ?_
      refine WQ.nou rfl (lh) rfl ?_
      refine WQ.nou rfl (lt rfl (lh)) rfl ?_
      refine WQ.nou rfl (lt rfl (lt rfl (lh))) rfl ?_
      refine WQ.nou rfl (lt rfl (lt rfl (lt rfl (lh)))) rfl ?_
      refine WQ.nou rfl (lt rfl (lt rfl (lt rfl (lt rfl (lh))))) rfl ?_
      refine WQ.nou rfl (lt rfl (lt rfl (lt rfl (lt rfl (lt rfl (lh)))))) rfl ?_
      refine WQ.nou rfl (lt rfl (lt rfl (lt rfl (lt rfl (lt rfl (lt rfl (lh))))))) rfl ?_
      refine WQ.no rfl rfl (lt rfl (lt rfl (lt rfl (lt rfl (lt rfl (lt rfl (lt rfl (lt rfl (lt rfl (lt rfl (lh))))))))))) (decide_eq_true h2) rfl ?_
      refine WQ.x (fun _ => X.pickT (lt rfl (lt rfl (lt rfl (lt rfl (lt rfl (lt rfl (lt rfl (lt rfl (lt rfl (lt rfl (lt rfl (lh)))))))))))) (decide_eq_true h2) lc) rfl ?_
      refine WQ.x (fun _ => X.asg (lh)) rfl ?_
      refine WQ.e1 5 (lh) ?_
      intro σ2 s5
      intro _; refine gdrew ?_; intro w1 hh1 cd1 dr1
      refine W.ret1 Nx.f1 s5 ?_
      refine ⟨congrArg Value.bool ?_, dr1⟩
      unfold pcN
      first | exact (decide_eq_true (by omega)).symm | exact (decide_eq_false (by omega)).symm | exact decide_eq_decide.2 (by omega)
    · refine WQ.yes rfl rfl (lh) (decide_eq_false h2) ?_
      refine WQ.x (fun m => X.load pl3 (lt rfl (lt rfl (lt rfl (lt rfl (lt rfl (lt rfl (lt rfl (lt rfl (s1))))))))) hdb (v := .int .i64 (d : Int)) rfl) rfl ?_
      refine WQ.yes rfl rfl (lt rfl (lh)) (decide_eq_false h2) ?_
      refine WQ.x (fun _ => X.gtr (lh) lc) rfl ?_
      refine WQ.yes rfl rfl (lt rfl (lt rfl (lh))) (decide_eq_false h2) ?_
      refine WQ.x (fun _ => X.mv (lh)) rfl ?_
      refine WQ.splitp (lh) (fun h3 => ?_) (fun h3 => ?_)
      · refine WQ.yes rfl rfl (lh) (decide_eq_true h3) ?_
        refine WQ.x (fun m => X.load pl44 (lt rfl (lt rfl (lt rfl (lt rfl (lt rfl (lt rfl (lt rfl (lt rfl (lt rfl (lt rfl (lt rfl (s3)))))))))))) hbb (v := .slice (some ⟨b8, 0, none⟩) n n) rfl) rfl ?_
        refine WQ.yes rfl rfl (lt rfl (lh)) (decide_eq_true h3) ?_
        refine WQ.x (fun _ => X.mv (lt rfl (lt rfl (lt rfl (lt rfl (lt rfl (lt rfl (lt rfl (lt rfl (lt rfl (lt rfl (lt rfl (lt rfl (s0)))))))))))))) rfl ?_
        refine WQ.yes rfl rfl (lt rfl (lt rfl (lh))) (decide_eq_true h3) ?_
        refine WQ.x (fun _ => X.indexAddr Tryd.underlying44 el3 (lt rfl (lh)) (lh) (by omega) (by omega)) rfl ?_
        refine WQ.yes rfl rfl (lt rfl (lt rfl (lt rfl (lh)))) (decide_eq_true h3) ?_
        refine WQ.x (fun m9 => X.load pl3 (lh) hb8 (v := .int .i64 (dst E m to : Int)) (by rw [show 0 + (m : Int).toNat * 1 = m by omega]; exact wI_get hm)) rfl ?_
        refine WQ.yes rfl rfl (lt rfl (lt rfl (lt rfl (lt rfl (lh))))) (decide_eq_true h3) ?_
        refine WQ.x (fun m => X.load pl3 (lt rfl (lt rfl (lt rfl (lt rfl (lt rfl (lt rfl (lt rfl (lt rfl (lt rfl (lt rfl (lt rfl (lt rfl (lt rfl (lt rfl (lt rfl (s1)))))))))))))))) hdb (v := .int .i64 (d : Int)) rfl) rfl ?_
        refine WQ.yes rfl rfl (lt rfl (lt rfl (lt rfl (lt rfl (lt rfl (lh)))))) (decide_eq_true h3) ?_
        first | refine WQ.x (fun _ => X.sub (lh) lc (by omega) (by omega)) rfl ?_ | refine WQ.x (fun _ => X.subw (lh) lc) rfl ?_
        refine WQ.yes rfl rfl (lt rfl (lt rfl (lt rfl (lt rfl (lt rfl (lt rfl (lh))))))) (decide_eq_true h3) ?_
        refine WQ.x (fun _ => X.eql (lt rfl (lt rfl (lh))) (lh)) rfl ?_
        refine WQ.yes rfl rfl (lt rfl (lt rfl (lt rfl (lt rfl (lt rfl (lt rfl (lt rfl (lt rfl (lt rfl (lt rfl (lh))))))))))) (decide_eq_false h2) ?_
        refine WQ.x (fun _ => X.pickT (lt rfl (lt rfl (lt rfl (lt rfl (lt rfl (lt rfl (lt rfl (lh)))))))) (decide_eq_true h3) (lh)) rfl ?_
        refine WQ.x (fun _ => X.pickF (lt rfl (lt rfl (lt rfl (lt rfl (lt rfl (lt rfl (lt rfl (lt rfl (lt rfl (lt rfl (lt rfl (lh)))))))))))) (decide_eq_false h2) (lh)) rfl ?_
        refine WQ.x (fun _ => X.asg (lh)) rfl ?_
        refine WQ.e1 5 (lh) ?_
        intro σ3 s5
        intro _; refine gdrew ?_; intro w2 hh1 cd1 dr1
        refine W.ret1 Nx.f1 s5 ?_
        refine ⟨congrArg Value.bool ?_, dr1⟩
        unfold pcN
        first | exact (decide_eq_true (by omega)).symm | exact (decide_eq_false (by omega)).symm | exact decide_eq_decide.2 (by omega)
      · refine WQ.no rfl rfl (lh) (decide_eq_false h3) rfl ?_
        refine WQ.no rfl rfl (lt rfl (lh)) (decide_eq_false h3) rfl ?_
        refine WQ.no rfl rfl (lt rfl (lt rfl (lh))) (decide_eq_false h3) rfl ?_
        refine WQ.no rfl rfl (lt rfl (lt rfl (lt rfl (lh)))) (decide_eq_false h3) rfl ?_
        refine WQ.no rfl rfl (lt rfl (lt rfl (lt rfl (lt rfl (lh))))) (decide_eq_false h3) rfl ?_
        refine WQ.no rfl rfl (lt rfl (lt rfl (lt rfl (lt rfl (lt rfl (lh)))))) (decide_eq_false h3) rfl ?_
        refine WQ.no rfl rfl (lt rfl (lt rfl (lt rfl (lt rfl (lt rfl (lt rfl (lh))))))) (decide_eq_false h3) rfl ?_
        refine WQ.yes rfl rfl (lt rfl (lt rfl (lt rfl (lt rfl (lt rfl (lt rfl (lt rfl (lt rfl (lt rfl (lt rfl (lh))))))))))) (decide_eq_false h2) ?_
        refine WQ.x (fun _ => X.pickF (lt rfl (lt rfl (lt rfl (lt rfl (lt rfl (lt rfl (lt rfl (lh)))))))) (decide_eq_false h3) lc) rfl ?_
        refine WQ.x (fun _ => X.pickF (lt rfl (lt rfl (lt rfl (lt rfl (lt rfl (lt rfl (lt rfl (lt rfl (lt rfl (lt rfl (lt rfl (lh)))))))))))) (decide_eq_false h2) (lh)) rfl ?_
        refine WQ.x (fun _ => X.asg (lh)) rfl ?_
        refine WQ.e1 5 (lh) ?_
        intro σ4 s5
        intro _; refine gdrew ?_; intro w3 hh1 cd1 dr1
        refine W.ret1 Nx.f1 s5 ?_
        refine ⟨congrArg Value.bool ?_, dr1⟩
        unfold pcN
        first | exact (decide_eq_true (by omega)).symm | exact (decide_eq_false (by omega)).symm | exact decide_eq_decide.2 (by omega)
  · refine WQ.no rfl rfl (lh) (decide_eq_false h1) rfl ?_
    refine WQ.no rfl rfl (lt rfl (lh)) (decide_eq_false h1) rfl ?_
    refine WQ.no rfl rfl (lt rfl (lt rfl (lh))) (decide_eq_false h1) rfl ?_
    refine WQ.x (fun _ => X.pickF (lt rfl (lt rfl (lt rfl (lh)))) (decide_eq_false h1) lc) rfl ?_
    refine WQ.x (fun _ => X.mv (lh)) rfl ?_
    refine WQ.yes rfl rfl (lh) rfl ?_
    refine WQ.x (fun m => X.load pl3 (lt rfl (lt rfl (lt rfl (lt rfl (lt rfl (lt rfl (lt rfl (lt rfl (s1))))))))) hdb (v := .int .i64 (d : Int)) rfl) rfl ?_
    refine WQ.yes rfl rfl (lt rfl (lh)) rfl ?_
    refine WQ.x (fun _ => X.gtr (lh) lc) rfl ?_
    refine WQ.yes rfl rfl (lt rfl (lt rfl (lh))) rfl ?_
    refine WQ.x (fun _ => X.mv (lh)) rfl ?_
    refine WQ.splitp (lh) (fun h3 => ?_) (fun h3 => ?_)
    · refine WQ.yes rfl rfl (lh) (decide_eq_true h3) ?_
      refine WQ.x (fun m => X.load pl44 (lt rfl (lt rfl (lt rfl (lt rfl (lt rfl (lt rfl (lt rfl (lt rfl (lt rfl (lt rfl (lt rfl (s3)))))))))))) hbb (v := .slice (some ⟨b8, 0, none⟩) n n) rfl) rfl ?_
      refine WQ.yes rfl rfl (lt rfl (lh)) (decide_eq_true h3) ?_
      refine WQ.x (fun _ => X.mv (lt rfl (lt rfl (lt rfl (lt rfl (lt rfl (lt rfl (lt rfl (lt rfl (lt rfl (lt rfl (lt rfl (lt rfl (s0)))))))))))))) rfl ?_
      refine WQ.yes rfl rfl (lt rfl (lt rfl (lh))) (decide_eq_true h3) ?_
      refine WQ.x (fun _ => X.indexAddr Tryd.underlying44 el3 (lt rfl (lh)) (lh) (by omega) (by omega)) rfl ?_
      refine WQ.yes rfl rfl (lt rfl (lt rfl (lt rfl (lh)))) (decide_eq_true h3) ?_
      refine WQ.x (fun m9 => X.load pl3 (lh) hb8 (v := .int .i64 (dst E m to : Int)) (by rw [show 0 + (m : Int).toNat * 1 = m by omega]; exact wI_get hm)) rfl ?_
      refine WQ.yes rfl rfl (lt rfl (lt rfl (lt rfl (lt rfl (lh))))) (decide_eq_true h3) ?_
      refine WQ.x (fun m => X.load pl3 (lt rfl (lt rfl (lt rfl (lt rfl (lt rfl (lt rfl (lt rfl (lt rfl (lt rfl (lt rfl (lt rfl (lt rfl (lt rfl (lt rfl (lt rfl (s1)))))))))))))))) hdb (v := .int .i64 (d : Int)) rfl) rfl ?_
      refine WQ.yes rfl rfl (lt rfl (lt rfl (lt rfl (lt rfl (lt rfl (lh)))))) (decide_eq_true h3) ?_
      first | refine WQ.x (fun _ => X.sub (lh) lc (by omega) (by omega)) rfl ?_ | refine WQ.x (fun _ => X.subw (lh) lc) rfl ?_
      refine WQ.yes rfl rfl (lt rfl (lt rfl (lt rfl (lt rfl (lt rfl (lt rfl (lh))))))) (decide_eq_true h3) ?_
      refine WQ.x (fun _ => X.eql (lt rfl (lt rfl (lh))) (lh)) rfl ?_
      refine WQ.yes rfl rfl (lt rfl (lt rfl (lt rfl (lt rfl (lt rfl (lt rfl (lt rfl (lt rfl (lt rfl (lt rfl (lh))))))))))) rfl ?_
      refine WQ.x (fun _ => X.pickT (lt rfl (lt rfl (lt rfl (lt rfl (lt rfl (lt rfl (lt rfl (lh)))))))) (decide_eq_true h3) (lh)) rfl ?_
      refine WQ.x (fun _ => X.pickF (lt rfl (lt rfl (lt rfl (lt rfl (lt rfl (lt rfl (lt rfl (lt rfl (lt rfl (lt rfl (lt rfl (lh)))))))))))) rfl (lh)) rfl ?_
      refine WQ.x (fun _ => X.asg (lh)) rfl ?_
      refine WQ.e1 5 (lh) ?_
      intro σ5 s5
      intro _; refine gdrew ?_; intro w4 hh1 cd1 dr1
      refine W.ret1 Nx.f1 s5 ?_
      refine ⟨congrArg Value.bool ?_, dr1⟩
      unfold pcN
      first | exact (decide_eq_true (by omega)).symm | exact (decide_eq_false (by omega)).symm | exact decide_eq_decide.2 (by omega)
    · refine WQ.no rfl rfl (lh) (decide_eq_false h3) rfl ?_
      refine WQ.no rfl rfl (lt rfl (lh)) (decide_eq_false h3) rfl ?_
      refine WQ.no rfl rfl (lt rfl (lt rfl (lh))) (decide_eq_false h3) rfl ?_
      refine WQ.no rfl rfl (lt rfl (lt rfl (lt rfl (lh)))) (decide_eq_false h3) rfl ?_
      refine WQ.no rfl rfl (lt rfl (lt rfl (lt rfl (lt rfl (lh))))) (decide_eq_false h3) rfl ?_
      refine WQ.no rfl rfl (lt rfl (lt rfl (lt rfl (lt rfl (lt rfl (lh)))))) (decide_eq_false h3) rfl ?_
      refine WQ.no rfl rfl (lt rfl (lt rfl (lt rfl (lt rfl (lt rfl (lt rfl (lh))))))) (decide_eq_false h3) rfl ?_
      refine WQ.yes rfl rfl (lt rfl (lt rfl (lt rfl (lt rfl (lt rfl (lt rfl (lt rfl (lt rfl (lt rfl (lt rfl (lh))))))))))) rfl ?_
      refine WQ.x (fun _ => X.pickF (lt rfl (lt rfl (lt rfl (lt rfl (lt rfl (lt rfl (lt rfl (lh)))))))) (decide_eq_false h3) lc) rfl ?_
      refine WQ.x (fun _ => X.pickF (lt rfl (lt rfl (lt rfl (lt rfl (lt rfl (lt rfl (lt rfl (lt rfl (lt rfl (lt rfl (lt rfl (lh)))))))))))) rfl (lh)) rfl ?_
      refine WQ.x (fun _ => X.asg (lh)) rfl ?_
      refine WQ.e1 5 (lh) ?_
      intro σ6 s5
      intro _; refine gdrew ?_; intro w5 hh1 cd1 dr1
      refine W.ret1 Nx.f1 s5 ?_
      refine ⟨congrArg Value.bool ?_, dr1⟩
      unfold pcN
      first | exact (decide_eq_true (by omega)).symm | exact (decide_eq_false (by omega)).symm | exact decide_eq_decide.2 (by omega)
end Go.Proofs.YtaldkbdnefpklaaDoor
