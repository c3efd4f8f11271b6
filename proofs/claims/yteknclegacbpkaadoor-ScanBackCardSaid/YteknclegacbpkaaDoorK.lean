/-
  A part of the walk of the program.
-/
import Derived.Test.YteknclegacbpkaaDoorI
import Derived.Test.YteknclegacbpkaaDoorF
set_option linter.unusedVariables false
set_option linter.unusedSimpArgs false
set_option maxRecDepth 100000
namespace Go.Proofs.YteknclegacbpkaaDoor
open Go Go.RowKit Sg

theorem RTok.cases {l : Bs} {i : Nat} {v : Value} (h : RTok l i v) : ∃ (tk : Tok) (k a e : Nat), v = .tuple #[.agg (ftk tk).toArray, .int .i64 (k : Int), .int .i64 (a : Int), .int .i64 (e : Int)] ∧
    (e = 0 → ∃ q, k = i + q ∧ tokL i l = .ok (tk, q)) ∧ (e ≠ 0 → tokL i l = .error (a, e)) := by
  rcases h with ⟨tk, k, h1, rfl⟩ | ⟨a, e, h1, he, rfl⟩
  · exact ⟨tk, i + k, 0, 0, rfl, fun _ => ⟨k, rfl, h1⟩, fun h => absurd rfl h⟩
  · exact ⟨_, 0, a, e, rfl, fun h => absurd h he, fun _ => h1⟩
theorem At.blank {s : ByteArray} {acc : List Tok} {i : Nat} (h : At s acc i) (hi : i < s.size) (hb : bat (sb s) i = 32) : At s acc (i + 1) := by
  refine ⟨?_, by omega, by have := h.2.2; omega⟩
  rw [h.1, scanX_blank (drop_ne hi) (by rw [bat_drop]; exact hb), List.drop_drop]
/-- The tokens that are told, and the fault. -/
def scL (s : ByteArray) : List Tok := match scanA (sb s) with | .ok l => l | .error _ => []
def scE (s : ByteArray) : Nat × Nat := match scanA (sb s) with | .ok _ => (0, 0) | .error p => p
def errV (s : ByteArray) : Value := match scanA (sb s) with | .ok _ => .nilIface | .error p => .iface 45 (.agg #[.int .i64 (p.1 : Int), .int .i64 (p.2 : Int)])
theorem scL_ok {s : ByteArray} {l : List Tok} (h : scanA (sb s) = .ok l) : scL s = l ∧ scE s = (0, 0) ∧ errV s = .nilIface := by unfold scL scE errV; rw [h]; exact ⟨rfl, rfl, rfl⟩
theorem scL_err {s : ByteArray} {p : Nat × Nat} (h : scanA (sb s) = .error p) : scL s = [] ∧ scE s = p ∧ errV s = .iface 45 (.agg #[.int .i64 (p.1 : Int), .int .i64 (p.2 : Int)]) := by unfold scL scE errV; rw [h]; exact ⟨rfl, rfl, rfl⟩
theorem errV_isI (s : ByteArray) : IsI (errV s) := by unfold errV; split; (· exact .inl rfl); (· exact .inr ⟨_, _, rfl⟩)
/-- What the reference's scan hands back. -/
def RScan (s : ByteArray) (base : Nat) (v : Value) (w' : World) : Prop := ∃ u, v = .tuple #[u, .int .i64 ((scE s).1 : Int), .int .i64 ((scE s).2 : Int)] ∧ OwnF 4 ftk w' base 29 u (scL s)

set_option maxHeartbeats 1600000 in
theorem rscan_ok (s : ByteArray) (w : World) :
    Sg.Ret Tryd.prog 11 #[.string s] w fun v w' => RScan s w.heap.size v w' ∧ Ch0 w w' := by
  refine enter3 (n := 42) (l := [.string s]) Tryd.func11 rfl rfl rfl rfl ?_
  refine W.g1 0 (v1 := .string s) rfl ?_; intro σ s0
  refine W.seq ?_
  refine W.region ?_
  refine WL.x (X.asg lc) rfl ?_
  refine WL.x (X.asg lc) rfl ?_
  refine WL.x (X.asg lc) rfl ?_
  refine WL.e1 Nx.thn 0 (lt rfl (lt rfl (lt rfl (s0)))) ?_
  intro σ1 s0
  refine W.seq ?_
  refine W.seq ?_
  refine W.region ?_
  refine WL.x (X.mv (s0)) rfl ?_
  refine WL.x (X.lenSt Tryd.underlying9 (lh)) rfl ?_
  refine WL.x (X.gtr (lh) lc) rfl ?_
  refine WL.e2 Nx.thn 0 13 (lt rfl (lt rfl (lt rfl (s0)))) (lh) ?_
  intro σ2 s0 s13
  refine W.cndp s13 (fun hbig => ?_) (fun hbig => ?_)
  · refine W.seq ?_
    refine W.region ?_
    refine WL.x (X.asg lc) rfl ?_
    refine WL.x (X.asg lc) rfl ?_
    refine WL.x (X.asg lc) rfl ?_
    refine WL.e3 Nx.thn 2 3 4 (lt rfl (lt rfl (lh))) (lt rfl (lh)) (lh) ?_
    intro σ3 s2 s3 s4
    refine W.ret3 (Nx.rthn Nx.f3) s2 s3 s4 ?_
    obtain ⟨k1, k2, -⟩ := scL_err (s := s) (p := (0, 4)) (by unfold scanA; rw [if_pos (by rw [sb_len]; omega)])
    exact ⟨⟨_, by rw [k2]; rfl, by rw [k1]; exact OwnF.nil⟩, Ch.refl _ _⟩
  · have hsz : s.size ≤ 20000 := by omega
    refine W.skip Nx.thn ?_
    refine W.seq ?_
    refine W.region ?_
    refine WL.x (X.asg lc) rfl ?_
    refine WL.e2 Nx.thn 0 5 (lt rfl (s0)) (lh) ?_
    intro σ4 s0 s5
    refine W.seq ?_
    refine W.seq ?_
    refine W.region ?_
    refine WL.x (X.asg lc) rfl ?_
    refine WL.e3 Nx.thn 0 5 6 (lt rfl (s0)) (lt rfl (s5)) (lh) ?_
    intro σ5 s0 s5 s6
    refine W.block ?_
    have qo1 := s0
    -- loop 0: kept [0], varied [5, 6]
    refine W.loop (G := Nat × List Tok) (fun (i, acc) σ' w' => (σ' 0 = σ5 0 ∧ True) ∧ (∃ lv, σ' 5 = lv ∧ σ' 6 = .int .i64 (i : Int) ∧ At s acc i ∧ OwnF 4 ftk w' w.heap.size 29 lv acc ∧ Ch0 w w')) (fun (i, acc) => s.size - i) ((0, [])) ⟨⟨rfl, trivial⟩, _, s5, s6, At.start s, OwnF.nil, Ch.refl _ _⟩ ?_
    rintro ⟨i, acc⟩ σ6 w1 ⟨⟨f0, _⟩, lv, s5, s6, hat, hown, hcl⟩
    have s0 := f0.trans qo1
    have his := hat.2.1
    refine W.seq ?_
    refine W.seq ?_
    refine W.region ?_
    refine WL.x (X.mv (s6)) rfl ?_
    refine WL.x (X.mv (lt rfl (s0))) rfl ?_
    refine WL.x (X.lenSt Tryd.underlying9 (lh)) rfl ?_
    refine WL.x (X.lss (lt rfl (lt rfl (lh))) (lh)) rfl ?_
    refine WL.e4 Nx.thn 0 5 6 17 (lt rfl (lt rfl (lt rfl (lt rfl (s0))))) (lt rfl (lt rfl (lt rfl (lt rfl (s5))))) (lt rfl (lt rfl (lt rfl (lt rfl (s6))))) (lh) ?_
    intro σ7 s0 s5 s6 s17
    refine W.cndp s17 (fun hlt => ?_) (fun hlt => ?_)
    · have hi : i < s.size := by omega
      refine W.skip Nx.thn ?_
      refine W.block ?_
      refine W.seq ?_
      refine W.seq ?_
      refine W.region ?_
      refine WL.x (X.mv (s0)) rfl ?_
      refine WL.x (X.mv (lt rfl (s6))) rfl ?_
      first | refine WL.x (X.idxN Tryd.underlying9 (lt rfl (lh)) (lh) (by omega)) rfl ?_ | refine WL.x (X.idxS Tryd.underlying9 (lt rfl (lh)) (lh) (by omega) (by omega)) rfl ?_
      refine WL.x (X.eql (lh) lc) rfl ?_
      refine WL.e4 Nx.thn 0 5 6 21 (lt rfl (lt rfl (lt rfl (lt rfl (s0))))) (lt rfl (lt rfl (lt rfl (lt rfl (s5))))) (lt rfl (lt rfl (lt rfl (lt rfl (s6))))) (lh) ?_
      intro σ8 s0 s5 s6 s21
      refine W.cndp s21 (fun hb => ?_) (fun hb => ?_)
      · refine W.seq ?_
        refine W.region ?_
        refine WL.x (X.mv (s6)) rfl ?_
        refine WL.x (v := .int .i64 ((i + 1 : Nat) : Int)) (by rw [Int.natCast_add]; exact X.add (lh) lc (by omega) (by omega)) rfl ?_
        refine WL.x (X.asg (lh)) rfl ?_
        refine WL.e3 Nx.thn 0 5 6 (lt rfl (lt rfl (lt rfl (s0)))) (lt rfl (lt rfl (lt rfl (s5)))) (lh) ?_
        intro σ9 s0 s5 s6
        refine W.exit (Nx.xthn (Nx.xblk Nx.thn)) ?_
        refine ⟨(i + 1, acc), by (try dsimp only); omega, ⟨s0.trans qo1.symm, trivial⟩, _, s5, s6, hat.blank hi (by omega), hown, hcl⟩
      · refine W.skip Nx.thn ?_
        refine W.seq ?_
        refine W.region ?_
        refine WL.x (X.mv (s0)) rfl ?_
        refine WL.x (X.mv (lt rfl (s6))) rfl ?_
        refine WL.call2 ce29 (lt rfl (lh)) (lh) (rtoken_ok s i w1 hi hsz) rfl ?_
        rintro v1 w2 ⟨hrt, c1⟩
        obtain ⟨tk, k, a, e, rfl, he0, he1⟩ := hrt.cases
        have hown := hown.ch0 c1
        have hcl := hcl.trans0 c1
        refine WL.x (X.mv (lh)) rfl ?_
        refine WL.x (X.extract (lh) rfl) rfl ?_
        refine WL.x (X.extract (lt rfl (lh)) rfl) rfl ?_
        refine WL.x (X.extract (lt rfl (lt rfl (lh))) rfl) rfl ?_
        refine WL.x (X.extract (lt rfl (lt rfl (lt rfl (lh)))) rfl) rfl ?_
        refine WL.alloc el29 rfl ?_
        intro w3 u1
        have ht0 := u1.at_
        have cu8_8 := u1.ch
        have hzo : ∀ k9, slBlk lv k9 → ¬ k9 = w2.heap.size := fun k9 hk9 e9 => by have := (hown.lt hk9).2; omega
        have hown := hown.ch0 cu8_8
        have hcl9 := hcl.size
        refine WL.storeS (vs := ftk tk) ag29 (lh) (lt rfl (lt rfl (lt rfl (lt rfl (lh))))) (List.all_eq_true.2 (ftk_one tk)) rfl ht0 (by first | decide | (simp; done)) ?_
        intro w4 us
        have htk := show (w4.heap[(_ : Nat)]? = some (Obj.cells (ftk tk).toArray 29 (0, 0))) from us.at_
        have cst := us.ch
        have hown := hown.ch cst hzo
        have hcl := (hcl.trans0 cu8_8).trans cst (H := fun _ => False) (fun _ _ e => e) (fun q hq e => by (try dsimp only at e); omega)
        refine WL.x (X.asg (lt rfl (lt rfl (lt rfl (lh))))) rfl ?_
        refine WL.x (X.asg (lt rfl (lt rfl (lt rfl (lh))))) rfl ?_
        refine WL.x (X.asg (lt rfl (lt rfl (lt rfl (lh))))) rfl ?_
        refine WL.e6 Nx.thn 0 5 7 8 9 10 (lt rfl (lt rfl (lt rfl (lt rfl (lt rfl (lt rfl (lt rfl (lt rfl (lt rfl (lt rfl (lt rfl (lt rfl (s0))))))))))))) (lt rfl (lt rfl (lt rfl (lt rfl (lt rfl (lt rfl (lt rfl (lt rfl (lt rfl (lt rfl (lt rfl (lt rfl (s5))))))))))))) (lt rfl (lt rfl (lt rfl (lh)))) (lt rfl (lt rfl (lh))) (lt rfl (lh)) (lh) ?_
        intro σ10 s0 s5 s7 s8 s9 s10
        refine W.seq ?_
        refine W.seq ?_
        refine W.region ?_
        refine WL.x (X.mv (s10)) rfl ?_
        refine WL.x (X.neq (lh) lc) rfl ?_
        refine WL.e7 Nx.thn 0 5 7 8 9 10 33 (lt rfl (lt rfl (s0))) (lt rfl (lt rfl (s5))) (lt rfl (lt rfl (s7))) (lt rfl (lt rfl (s8))) (lt rfl (lt rfl (s9))) (lt rfl (lt rfl (s10))) (lh) ?_
        intro σ11 s0 s5 s7 s8 s9 s10 s33
        refine W.cndp s33 (fun he => ?_) (fun he => ?_)
        · have htl := he1 (by omega)
          refine W.seq ?_
          refine W.region ?_
          refine WL.x (X.mv (s9)) rfl ?_
          refine WL.x (X.mv (lt rfl (s10))) rfl ?_
          refine WL.x (X.asg lc) rfl ?_
          refine WL.x (X.asg (lt rfl (lt rfl (lh)))) rfl ?_
          refine WL.x (X.asg (lt rfl (lt rfl (lh)))) rfl ?_
          refine WL.e3 Nx.thn 2 3 4 (lt rfl (lt rfl (lh))) (lt rfl (lh)) (lh) ?_
          intro σ12 s2 s3 s4
          refine W.ret3 (Nx.rthn (Nx.rblk (Nx.rthn (Nx.rblk (Nx.rthn Nx.f3))))) s2 s3 s4 ?_
          obtain ⟨k1, k2, -⟩ := scL_err (s := s) (p := (a, e)) (by rw [scanA_X hsz]; exact hat.err hi (by omega) htl)
          exact ⟨⟨_, by rw [k2]; rfl, by rw [k1]; exact OwnF.nil⟩, hcl⟩
        · obtain ⟨q, rfl, htl⟩ := he0 (by omega)
          have hql := tokL_len (drop_ne hi) htl
          refine W.skip Nx.thn ?_
          refine W.seq ?_
          refine W.region ?_
          refine WL.x (X.mv (s5)) rfl ?_
          refine WL.x (X.loadBox (vs := ftk tk) ag29 (lt rfl (s7)) htk rfl) rfl ?_
          refine WL.bsliceR (vs := [_]) Tryd.underlying23 el29 (by decide) (pcons (lh) pnil) rfl (fun u hu => by rw [List.mem_singleton.1 hu]; rfl) (show 1 * 4 ≤ 16777216 by decide) rfl ?_
          intro w6 u11_2; have hu11_2 := u11_2.at_; have cu11_2 := u11_2.ch; have zu11_2 := u11_2.size
          refine WL.appendF Tryd.underlying23 el29 rfl (by decide) ftk_len ftk_one (lt rfl (lt rfl (lh))) (lh) (hown.ch0 cu11_2) (rsl_one (x := tk) (A := all) ftk_len hu11_2 rfl trivial) (by simp only [List.length_cons, List.length_nil]; unfold maxLen; have := hat.2.2; omega) (by simp only [List.length_cons, List.length_nil]; have := hat.2.2; omega) (by have := cu11_2.size; have := hcl.size; omega) rfl ?_
          intro va11_3 w7 ho11_3 ca11_3
          have hcl := (hcl.trans0 cu11_2).trans ca11_3 (H := fun _ => False) (fun _ _ e => e) (fun q hq e => by have := (hown.lt e).1; omega)
          refine WL.x (X.asg (lh)) rfl ?_
          refine WL.e3 Nx.thn 0 5 8 (lt rfl (lt rfl (lt rfl (lt rfl (lt rfl (s0)))))) (lh) (lt rfl (lt rfl (lt rfl (lt rfl (lt rfl (s8)))))) ?_
          intro σ13 s0 s5 s8
          refine W.region ?_
          refine WL.x (X.mv (s8)) rfl ?_
          refine WL.x (X.asg (lh)) rfl ?_
          refine WL.e3 (Nx.blk Nx.thn) 0 5 6 (lt rfl (lt rfl (s0))) (lt rfl (lt rfl (s5))) (lh) ?_
          intro σ14 s0 s5 s6
          refine ⟨(i + q, acc ++ [tk]), by (try dsimp only); omega, ⟨s0.trans qo1.symm, trivial⟩, _, s5, s6, hat.tok hi (by omega) htl, ho11_3, hcl⟩
    · refine W.exit (Nx.xthn (Nx.xthn (Nx.xblk Nx.thn))) ?_
      refine W.seq ?_
      refine W.region ?_
      refine WL.x (X.mv (s5)) rfl ?_
      refine WL.x (X.asg (lh)) rfl ?_
      refine WL.x (X.asg lc) rfl ?_
      refine WL.x (X.asg lc) rfl ?_
      refine WL.e3 Nx.thn 2 3 4 (lt rfl (lt rfl (lh))) (lt rfl (lh)) (lh) ?_
      intro σ15 s2 s3 s4
      refine W.ret3 Nx.f3 s2 s3 s4 ?_
      have hie : i = s.size := by omega
      subst hie
      obtain ⟨k1, k2, -⟩ := scL_ok (s := s) (l := acc) (by rw [scanA_X hsz]; exact hat.fin)
      exact ⟨⟨_, by rw [k2]; rfl, by rw [k1]; exact hown⟩, hcl⟩
theorem scan_fn (s : ByteArray) (w : World) (hER : ER w) : Sg.Ret Tryd.prog 9 #[.string s] w fun v w' => (∃ u, v = .tuple #[u, errV s] ∧ OwnF 4 ftk w' w.heap.size 29 u (scL s)) ∧ Ch0 w w' := by
  refine Ret.mono (scan_ok s w hER) fun v w' hh => ⟨?_, hh.2⟩
  rcases hh.1 with ⟨l, u, h1, rfl, h2, _⟩ | ⟨a, e, h1, rfl⟩
  · obtain ⟨k1, k2, k3⟩ := scL_ok h1
    exact ⟨u, by rw [k3], by rw [k1]; exact h2⟩
  · obtain ⟨k1, k2, k3⟩ := scL_err h1
    exact ⟨_, by rw [k3], by rw [k1]; exact OwnF.nil⟩

end Go.Proofs.YteknclegacbpkaaDoor
