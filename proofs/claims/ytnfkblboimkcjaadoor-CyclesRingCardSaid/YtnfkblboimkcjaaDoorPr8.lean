/-
  A part of the walk of the program. | A part of the walk of the program. | A part of the walk of the program. | DERIVED: THE SHELF's CONTRACTS AT THIS DUMP, IN PLAIN WORDS (tools/lay-plain.mjs out of 'TrydShelfX.lean', which tools/lay-shelf.mjs wrote): THE SAME DECLARATIONS UNDER THE SAME NAMES: 'import', 'namespace', 'open', 'def', 'theorem' AND NOTHING ELSE: no command of the shelf's: FOR A HAND-IN. Each laying: the table of numbers ('.._ren') and one theorem, a field a fact of the dump's own or the kernel's comparison; each contract: ONE APPLICATION. | A part of the walk of the program.
-/
import Derived.Test.YtnfkblboimkcjaaDoorPr7
import Derived.Shelf.GgSortMore.Stable
import Derived.Ground.NamesProg
import Derived.Test.YtnfkblboimkcjaaDoorProg
import Derived.Lib.ReflectliteSwap
section
set_option linter.unusedVariables false
set_option linter.unusedSimpArgs false
set_option maxRecDepth 100000
namespace Go.Proofs.YtnfkblboimkcjaaDoor
open Go Go.RowKit Sg
theorem swapr_ok {α : Type} {c : α → Bool} {m blk lf sf : Nat} {lb sb : List Value} {S : List α → World → Prop} (H : Srts Tryd.prog c m blk lf lb sf sb S) (p U M V q : List α) (w : World) (hS : S (p ++ U ++ M ++ V ++ q) w) (hXY : U.length = V.length) (a b k : Nat) (ha : a = p.length) (hb : b = p.length + U.length + M.length) (hk : k = U.length) :
  Sg.Ret Tryd.prog 89 #[.agg #[.func (.func lf) #[] lb.toArray, .func (.func sf) #[] sb.toArray], .int .i64 ((a : Nat) : Int), .int .i64 ((b : Nat) : Int), .int .i64 ((k : Nat) : Int)] w fun v w' => S (p ++ V ++ M ++ U ++ q) w' ∧ Ch (fun k => k = blk) w w' := by
 have hlt := H.lt _ _ hS
 have hsm := H.small
 have hm := H.len _ _ hS
 simp only [List.length_append] at hm
 refine enter0 (n := 23) (l := [.agg #[.func (.func lf) #[] lb.toArray, .func (.func sf) #[] sb.toArray], .int .i64 ((a : Nat) : Int), .int .i64 ((b : Nat) : Int), .int .i64 ((k : Nat) : Int)]) Tryd.func89 rfl rfl rfl rfl ?_
 refine W.g4 0 1 2 3 (v1 := .agg #[.func (.func lf) #[] lb.toArray, .func (.func sf) #[] sb.toArray]) (v2 := .int .i64 ((a : Nat) : Int)) (v3 := .int .i64 ((b : Nat) : Int)) (v4 := .int .i64 ((k : Nat) : Int)) rfl rfl rfl rfl ?_; intro σ s0 s1 s2 s3
 refine W.seq ?_
 refine W.region ?_
 refine WL.box (s0) rfl ?_
 intro w1 u0_0; have hu0_0 := u0_0.at_; have cu0_0 := u0_0.ch; have zu0_0 := u0_0.size
 refine WL.e4 Nx.thn 1 2 3 4 (lt rfl (s1)) (lt rfl (s2)) (lt rfl (s3)) (lh) ?_
 intro σ1 s1 s2 s3 s4
 refine W.seq ?_
 refine W.region ?_
 refine WL.x (X.asg lc) rfl ?_
 refine WL.e5 Nx.thn 1 2 3 4 8 (lt rfl (s1)) (lt rfl (s2)) (lt rfl (s3)) (lt rfl (s4)) (lh) ?_
 intro σ2 s1 s2 s3 s4 s8
 refine W.block ?_
 have qo1 := s1
 have qo2 := s2
 have qo3 := s3
 have qo4 := s4
 -- loop 0: kept [1, 2, 3, 4], varied [8]
 refine W.loop (G := Nat) (fun i σ' w' => (σ' 1 = σ2 1 ∧ σ' 2 = σ2 2 ∧ σ' 3 = σ2 3 ∧ σ' 4 = σ2 4 ∧ True) ∧ (σ' 8 = .int .i64 ((i : Nat) : Int) ∧ i ≤ k ∧ S (swr p U M V q i) w' ∧ (w').heap[w.heap.size]? = some (.cells #[.func (.func lf) #[] lb.toArray, .func (.func sf) #[] sb.toArray] 120 (0, 0)) ∧ Ch (fun j => j = blk) w w')) (fun i => k - i) (0) ⟨⟨rfl, rfl, rfl, rfl, trivial⟩, s8, by omega, (by rw [swr_zero]; exact H.ch _ _ _ hS cu0_0), hu0_0, Ch.weak cu0_0⟩ ?_
 rintro i σ3 w2 ⟨⟨f1, f2, f3, f4, _⟩, s8, hi, hSi, hbx, hcl⟩
 have s1 := f1.trans qo1
 have s2 := f2.trans qo2
 have s3 := f3.trans qo3
 have s4 := f4.trans qo4
 refine W.seq ?_
 refine W.seq ?_
 refine W.region ?_
 refine WL.x (X.mv (s8)) rfl ?_
 refine WL.x (X.mv (lt rfl (s3))) rfl ?_
 refine WL.x (X.lss (lt rfl (lh)) (lh)) rfl ?_
 refine WL.e6 Nx.thn 1 2 3 4 8 11 (jt2 rfl (lt rfl (s1))) (jt2 rfl (lt rfl (s2))) (jt2 rfl (lt rfl (s3))) (jt2 rfl (lt rfl (s4))) (jt2 rfl (lt rfl (s8))) (lh) ?_
 intro σ4 s1 s2 s3 s4 s8 s11
 refine W.cndp s11 (fun hlt2 => ?_) (fun hlt2 => ?_)
 ·
  refine W.skip Nx.thn ?_
  refine W.seq ?_
  refine W.block ?_
  refine W.region ?_
  refine WL.x (X.fieldAddr fd120_1 (s4)) rfl ?_
  refine WL.x (X.load pl116 (lh) (by assumption) (by rfl)) rfl ?_
  refine WL.x (X.mv (jt2 rfl (s1))) rfl ?_
  refine WL.x (X.mv (jt2 rfl (lt rfl (s8)))) rfl ?_
  refine WL.x (X.addN (lt rfl (lh)) (lh) (by omega)) rfl ?_
  refine WL.x (X.mv (jt4 rfl (lt rfl (s2)))) rfl ?_
  refine WL.x (X.mv (jt4 rfl (jt2 rfl (s8)))) rfl ?_
  refine WL.x (X.addN (lt rfl (lh)) (lh) (by omega)) rfl ?_
  obtain ⟨v9, w3, hr9, hs9, ck⟩ := H.swap _ w2 (a + i) (b + i) (by omega) (by omega) hSi
  rw [ha, hb, swr_step hXY (by omega)] at hs9
  obtain ⟨hbx2, hcl2⟩ := H.step hSi hlt hbx hcl ck
  refine WL.extv2 (jt4 rfl (jt2 rfl (lh))) (jt2 rfl (lt rfl (lh))) (lh) hr9 rfl ?_
  refine WL.e5 (Nx.blk Nx.thn) 1 2 3 4 8 (jt8 rfl (lt rfl (s1))) (jt8 rfl (lt rfl (s2))) (jt8 rfl (lt rfl (s3))) (jt8 rfl (lt rfl (s4))) (jt8 rfl (lt rfl (s8))) ?_
  intro σ5 s1 s2 s3 s4 s8
  refine W.region ?_
  refine WL.x (X.mv (s8)) rfl ?_
  refine WL.x (X.addN (b := 1) (lh) lc (by omega)) rfl ?_
  refine WL.x (X.asg (lh)) rfl ?_
  refine WL.e5 Nx.thn 1 2 3 4 8 (jt2 rfl (lt rfl (s1))) (jt2 rfl (lt rfl (s2))) (jt2 rfl (lt rfl (s3))) (jt2 rfl (lt rfl (s4))) (lh) ?_
  intro σ6 s1 s2 s3 s4 s8
  refine ⟨i + 1, by omega, ⟨s1.trans qo1.symm, s2.trans qo2.symm, s3.trans qo3.symm, s4.trans qo4.symm, trivial⟩, s8, by omega, hs9, hbx2, hcl2⟩
 ·
  refine W.exit (Nx.xthn (Nx.xthn (Nx.xblk Nx.n0))) ?_
  have hik : i = U.length := by omega
  rw [hik, swr_all _ _ _ _ _ hXY] at hSi
  exact ⟨hSi, hcl⟩
set_option maxHeartbeats 800000 in
theorem rotate_ok {α : Type} {c : α → Bool} {m blk lf sf : Nat} {lb sb : List Value} {S : List α → World → Prop} (H : Srts Tryd.prog c m blk lf lb sf sb S) (p U V q : List α) (w : World) (hS : S (p ++ U ++ V ++ q) w) (hX0 : 0 < U.length) (hY0 : 0 < V.length) (a mm b : Nat) (ha : a = p.length) (hmm : mm = p.length + U.length) (hb : b = p.length + U.length + V.length) :
  Sg.Ret Tryd.prog 88 #[.agg #[.func (.func lf) #[] lb.toArray, .func (.func sf) #[] sb.toArray], .int .i64 ((a : Nat) : Int), .int .i64 ((mm : Nat) : Int), .int .i64 ((b : Nat) : Int)] w fun v w' => S (p ++ V ++ U ++ q) w' ∧ Ch (fun k => k = blk) w w' := by
 have hlt := H.lt _ _ hS
 have hsm := H.small
 have hm := H.len _ _ hS
 simp only [List.length_append] at hm
 refine enter0 (n := 53) (l := [.agg #[.func (.func lf) #[] lb.toArray, .func (.func sf) #[] sb.toArray], .int .i64 ((a : Nat) : Int), .int .i64 ((mm : Nat) : Int), .int .i64 ((b : Nat) : Int)]) Tryd.func88 rfl rfl rfl rfl ?_
 refine W.g4 0 1 2 3 (v1 := .agg #[.func (.func lf) #[] lb.toArray, .func (.func sf) #[] sb.toArray]) (v2 := .int .i64 ((a : Nat) : Int)) (v3 := .int .i64 ((mm : Nat) : Int)) (v4 := .int .i64 ((b : Nat) : Int)) rfl rfl rfl rfl ?_; intro σ s0 s1 s2 s3
 refine W.seq ?_
 refine W.region ?_
 refine WL.box (s0) rfl ?_
 intro w1 u0_0; have hu0_0 := u0_0.at_; have cu0_0 := u0_0.ch; have zu0_0 := u0_0.size
 refine WL.e4 Nx.thn 1 2 3 4 (lt rfl (s1)) (lt rfl (s2)) (lt rfl (s3)) (lh) ?_
 intro σ1 s1 s2 s3 s4
 refine W.seq ?_
 refine W.region ?_
 refine WL.x (X.mv (s2)) rfl ?_
 refine WL.x (X.mv (lt rfl (s1))) rfl ?_
 refine WL.x (X.subN (lt rfl (lh)) (lh) (by omega) (by omega)) rfl ?_
 refine WL.x (X.asg (lh)) rfl ?_
 refine WL.e4 Nx.thn 2 3 4 8 (jt4 rfl (s2)) (jt4 rfl (s3)) (jt4 rfl (s4)) (lh) ?_
 intro σ2 s2 s3 s4 s8
 refine W.seq ?_
 refine W.region ?_
 refine WL.x (X.mv (s3)) rfl ?_
 refine WL.x (X.mv (lt rfl (s2))) rfl ?_
 refine WL.x (X.subN (lt rfl (lh)) (lh) (by omega) (by omega)) rfl ?_
 refine WL.x (X.asg (lh)) rfl ?_
 refine WL.e4 Nx.thn 2 4 8 9 (jt4 rfl (s2)) (jt4 rfl (s4)) (jt4 rfl (s8)) (lh) ?_
 intro σ3 s2 s4 s8 s9
 refine W.seq ?_
 refine W.block ?_
 have qo1 := s2
 have qo2 := s4
 -- loop 0: kept [2, 4], varied [8, 9]
 refine W.loop (G := List α × List α × List α × List α) (fun (A, X1, Y1, B) σ' w' => (σ' 2 = σ3 2 ∧ σ' 4 = σ3 4 ∧ True) ∧ (σ' 8 = .int .i64 ((X1.length : Nat) : Int) ∧ σ' 9 = .int .i64 ((Y1.length : Nat) : Int) ∧ 0 < X1.length ∧ 0 < Y1.length ∧ S (p ++ A ++ X1 ++ Y1 ++ B ++ q) w' ∧ A ++ (Y1 ++ X1) ++ B = V ++ U ∧ p.length + A.length + X1.length = mm ∧ A.length + X1.length + Y1.length + B.length = U.length + V.length ∧ (w').heap[w.heap.size]? = some (.cells #[.func (.func lf) #[] lb.toArray, .func (.func sf) #[] sb.toArray] 120 (0, 0)) ∧ Ch (fun j => j = blk) w w')) (fun (A, X1, Y1, B) => X1.length + Y1.length) (([], U, V, [])) ⟨⟨rfl, rfl, trivial⟩, s8.trans (by congr 2; omega), s9.trans (by congr 2; omega), hX0, hY0, (by simpa only [List.append_nil] using H.ch _ _ _ hS cu0_0), (by simp), (by simp only [List.length_nil]; omega), (by simp only [List.length_nil]; omega), hu0_0, Ch.weak cu0_0⟩ ?_
 rintro ⟨A, X1, Y1, B⟩ σ4 w2 ⟨⟨f2, f4, _⟩, s8, s9, hx0, hy0, hSi, heq, hml, hsum, hbx, hcl⟩
 have s2 := f2.trans qo1
 have s4 := f4.trans qo2
 refine W.seq ?_
 refine W.seq ?_
 refine W.region ?_
 refine WL.x (X.mv (s8)) rfl ?_
 refine WL.x (X.mv (lt rfl (s9))) rfl ?_
 refine WL.x (X.neq (lt rfl (lh)) (lh)) rfl ?_
 refine WL.e5 Nx.thn 2 4 8 9 18 (jt2 rfl (lt rfl (s2))) (jt2 rfl (lt rfl (s4))) (jt2 rfl (lt rfl (s8))) (jt2 rfl (lt rfl (s9))) (lh) ?_
 intro σ5 s2 s4 s8 s9 s18
 refine W.cndp s18 (fun hne => ?_) (fun hne => ?_)
 ·
  refine W.skip Nx.thn ?_
  refine W.block ?_
  refine W.seq ?_
  refine W.region ?_
  refine WL.x (X.mv (s8)) rfl ?_
  refine WL.x (X.mv (lt rfl (s9))) rfl ?_
  refine WL.x (X.gtr (lt rfl (lh)) (lh)) rfl ?_
  refine WL.e5 Nx.thn 2 4 8 9 21 (jt2 rfl (lt rfl (s2))) (jt2 rfl (lt rfl (s4))) (jt2 rfl (lt rfl (s8))) (jt2 rfl (lt rfl (s9))) (lh) ?_
  intro σ6 s2 s4 s8 s9 s21
  refine W.cndp s21 (fun hgt => ?_) (fun hgt => ?_)
  ·
   obtain ⟨Xa, Xb, hX1, hXa⟩ := cut_at (l := X1) (b := Y1.length) (by omega)
   have hXl : X1.length = Xa.length + Xb.length := by rw [hX1, List.length_append]
   refine W.seq ?_
   refine W.region ?_
   refine WL.x (X.loadBox ag120 (s4) (by assumption) rfl) rfl ?_
   refine WL.x (X.mv (lt rfl (s2))) rfl ?_
   refine WL.x (X.mv (jt2 rfl (s8))) rfl ?_
   refine WL.x (X.subN (lt rfl (lh)) (lh) (by omega) (by omega)) rfl ?_
   refine WL.x (X.mv (jt4 rfl (s2))) rfl ?_
   refine WL.x (X.mv (jt4 rfl (lt rfl (s9)))) rfl ?_
   refine WL.call4 ce89 (jt4 rfl (lt rfl (lh))) (jt2 rfl (lh)) (lt rfl (lh)) (lh) (swapr_ok H (p ++ A) Xa Xb Y1 (B ++ q) w2 (by have h9 := hSi; rw [hX1] at h9; simpa only [List.append_assoc] using h9) hXa _ _ _ (by rw [List.length_append]; omega) (by rw [List.length_append]; omega) (by omega)) rfl ?_
   rintro _ w3 ⟨hs9, cw⟩
   obtain ⟨hbx, hcl⟩ := H.step hSi hlt hbx hcl cw
   refine WL.e4 Nx.thn 2 4 8 9 (jt4 rfl (jt2 rfl (lt rfl (s2)))) (jt4 rfl (jt2 rfl (lt rfl (s4)))) (jt4 rfl (jt2 rfl (lt rfl (s8)))) (jt4 rfl (jt2 rfl (lt rfl (s9)))) ?_
   intro σ7 s2 s4 s8 s9
   refine W.region ?_
   refine WL.x (X.mv (s8)) rfl ?_
   refine WL.x (X.mv (lt rfl (s9))) rfl ?_
   refine WL.x (X.subN (lt rfl (lh)) (lh) (by omega) (by omega)) rfl ?_
   refine WL.x (X.asg (lh)) rfl ?_
   refine WL.e4 (Nx.blk Nx.thn) 2 4 8 9 (jt4 rfl (s2)) (jt4 rfl (s4)) (lh) (jt4 rfl (s9)) ?_
   intro σ8 s2 s4 s8 s9
   refine ⟨(A ++ Y1, Xb, Xa, B), by (try dsimp only); omega, ⟨s2.trans qo1.symm, s4.trans qo2.symm, trivial⟩, s8.trans (by congr 2; omega), s9.trans (by congr 2; omega), by omega, by omega, (by simpa only [List.append_assoc] using hs9), (by rw [← heq, hX1]; simp only [List.append_assoc]), (by rw [List.length_append]; omega), (by rw [List.length_append]; omega), hbx, hcl⟩
  ·
   obtain ⟨Ya, Yb, hY1, hYa⟩ := cut_at (l := Y1) (b := Y1.length - X1.length) (by omega)
   have hYl : Y1.length = Ya.length + Yb.length := by rw [hY1, List.length_append]
   refine W.seq ?_
   refine W.region ?_
   refine WL.x (X.loadBox ag120 (s4) (by assumption) rfl) rfl ?_
   refine WL.x (X.mv (lt rfl (s2))) rfl ?_
   refine WL.x (X.mv (jt2 rfl (s8))) rfl ?_
   refine WL.x (X.subN (lt rfl (lh)) (lh) (by omega) (by omega)) rfl ?_
   refine WL.x (X.mv (jt4 rfl (s2))) rfl ?_
   refine WL.x (X.mv (jt4 rfl (lt rfl (s9)))) rfl ?_
   refine WL.x (X.addN (lt rfl (lh)) (lh) (by omega)) rfl ?_
   refine WL.x (X.mv (jt4 rfl (jt2 rfl (lt rfl (s8))))) rfl ?_
   refine WL.x (X.subN (lt rfl (lh)) (lh) (by omega) (by omega)) rfl ?_
   refine WL.x (X.mv (jt8 rfl (lt rfl (s8)))) rfl ?_
   refine WL.call4 ce89 (jt8 rfl (lt rfl (lh))) (jt4 rfl (jt2 rfl (lh))) (lt rfl (lh)) (lh) (swapr_ok H (p ++ A) X1 Ya Yb (B ++ q) w2 (by have h9 := hSi; rw [hY1] at h9; simpa only [List.append_assoc] using h9) (by omega) _ _ _ (by rw [List.length_append]; omega) (by rw [List.length_append]; omega) (by omega)) rfl ?_
   rintro _ w4 ⟨hs9, cw⟩
   obtain ⟨hbx, hcl⟩ := H.step hSi hlt hbx hcl cw
   refine WL.e4 Nx.thn 2 4 8 9 (jt8 rfl (jt2 rfl (lt rfl (s2)))) (jt8 rfl (jt2 rfl (lt rfl (s4)))) (jt8 rfl (jt2 rfl (lt rfl (s8)))) (jt8 rfl (jt2 rfl (lt rfl (s9)))) ?_
   intro σ9 s2 s4 s8 s9
   refine W.region ?_
   refine WL.x (X.mv (s9)) rfl ?_
   refine WL.x (X.mv (lt rfl (s8))) rfl ?_
   refine WL.x (X.subN (lt rfl (lh)) (lh) (by omega) (by omega)) rfl ?_
   refine WL.x (X.asg (lh)) rfl ?_
   refine WL.e4 (Nx.blk Nx.thn) 2 4 8 9 (jt4 rfl (s2)) (jt4 rfl (s4)) (jt4 rfl (s8)) (lh) ?_
   intro σ10 s2 s4 s8 s9
   refine ⟨(A, Yb, Ya, X1 ++ B), by (try dsimp only); omega, ⟨s2.trans qo1.symm, s4.trans qo2.symm, trivial⟩, s8.trans (by congr 2; omega), s9.trans (by congr 2; omega), by omega, by omega, (by simpa only [List.append_assoc] using hs9), (by rw [← heq, hY1]; simp only [List.append_assoc]), by omega, (by rw [List.length_append]; omega), hbx, hcl⟩
 ·
  refine W.exit (Nx.xthn (Nx.xthn (Nx.xblk Nx.thn))) ?_
  refine W.region ?_
  refine WL.x (X.loadBox ag120 (s4) (by assumption) rfl) rfl ?_
  refine WL.x (X.mv (lt rfl (s2))) rfl ?_
  refine WL.x (X.mv (jt2 rfl (s8))) rfl ?_
  refine WL.x (X.subN (lt rfl (lh)) (lh) (by omega) (by omega)) rfl ?_
  refine WL.x (X.mv (jt4 rfl (s2))) rfl ?_
  refine WL.x (X.mv (jt4 rfl (lt rfl (s8)))) rfl ?_
  refine WL.call4 ce89 (jt4 rfl (lt rfl (lh))) (jt2 rfl (lh)) (lt rfl (lh)) (lh) (swapr_ok H (p ++ A) X1 [] Y1 (B ++ q) w2 (by simpa only [List.append_assoc, List.nil_append] using hSi) (by omega) _ _ _ (by rw [List.length_append]; omega) (by rw [List.length_append]; simp only [List.length_nil]; omega) (by omega)) rfl ?_
  rintro _ w5 ⟨hs9, cw⟩
  obtain ⟨hbx, hcl⟩ := H.step hSi hlt hbx hcl cw
  refine WL.e0 Nx.n0  ?_
  intro σ11 
  refine ⟨?_, hcl⟩
  have h9 : p ++ A ++ Y1 ++ [] ++ X1 ++ (B ++ q) = p ++ V ++ U ++ q := by
    have := congrArg (fun z => p ++ z ++ q) heq
    simpa only [List.append_assoc, List.nil_append] using this
  rw [← h9]
  exact hs9
set_option maxHeartbeats 800000 in
theorem insert_ok {α : Type} {c : α → Bool} {m blk lf sf : Nat} {lb sb : List Value} {S : List α → World → Prop} (H : Srts Tryd.prog c m blk lf lb sf sb S) (p U q : List α) (w : World) (hS : S (p ++ U ++ q) w) (a b : Nat) (ha : a = p.length) (hb : b = p.length + U.length) :
  Sg.Ret Tryd.prog 85 #[.agg #[.func (.func lf) #[] lb.toArray, .func (.func sf) #[] sb.toArray], .int .i64 ((a : Nat) : Int), .int .i64 ((b : Nat) : Int)] w fun v w' => S (p ++ stb c U ++ q) w' ∧ Ch (fun k => k = blk) w w' := by
 have hlt := H.lt _ _ hS
 have hsm := H.small
 have hm := H.len _ _ hS
 simp only [List.length_append] at hm
 refine enter0 (n := 35) (l := [.agg #[.func (.func lf) #[] lb.toArray, .func (.func sf) #[] sb.toArray], .int .i64 ((a : Nat) : Int), .int .i64 ((b : Nat) : Int)]) Tryd.func85 rfl rfl rfl rfl ?_
 refine W.g3 0 1 2 (v1 := .agg #[.func (.func lf) #[] lb.toArray, .func (.func sf) #[] sb.toArray]) (v2 := .int .i64 ((a : Nat) : Int)) (v3 := .int .i64 ((b : Nat) : Int)) rfl rfl rfl ?_; intro σ s0 s1 s2
 refine W.seq ?_
 refine W.region ?_
 refine WL.box (s0) rfl ?_
 intro w1 u0_0; have hu0_0 := u0_0.at_; have cu0_0 := u0_0.ch; have zu0_0 := u0_0.size
 refine WL.e3 Nx.thn 1 2 3 (lt rfl (s1)) (lt rfl (s2)) (lh) ?_
 intro σ1 s1 s2 s3
 refine W.seq ?_
 refine W.region ?_
 refine WL.x (X.mv (s1)) rfl ?_
 refine WL.x (X.addN (b := 1) (lh) lc (by omega)) rfl ?_
 refine WL.x (X.asg (lh)) rfl ?_
 refine WL.e4 Nx.thn 1 2 3 6 (jt2 rfl (lt rfl (s1))) (jt2 rfl (lt rfl (s2))) (jt2 rfl (lt rfl (s3))) (lh) ?_
 intro σ2 s1 s2 s3 s6
 refine W.block ?_
 have qo1 := s1
 have qo2 := s2
 have qo3 := s3
 -- loop 0: kept [1, 2, 3], varied [6]
 refine W.loop (G := Nat) (fun k σ' w' => (σ' 1 = σ2 1 ∧ σ' 2 = σ2 2 ∧ σ' 3 = σ2 3 ∧ True) ∧ (σ' 6 = .int .i64 ((p.length + k : Nat) : Int) ∧ 1 ≤ k ∧ k ≤ U.length + 1 ∧ S (p ++ stb c (U.take k) ++ U.drop k ++ q) w' ∧ (w').heap[w.heap.size]? = some (.cells #[.func (.func lf) #[] lb.toArray, .func (.func sf) #[] sb.toArray] 120 (0, 0)) ∧ Ch (fun j => j = blk) w w')) (fun k => U.length + 1 - k) (1) ⟨⟨rfl, rfl, rfl, trivial⟩, s6.trans (by rw [ha]), by omega, by omega, (by rw [stb_take1]; have h9 := H.ch _ _ _ hS cu0_0; rw [List.append_assoc p, List.take_append_drop]; exact h9), hu0_0, Ch.weak cu0_0⟩ ?_
 rintro k σ3 w2 ⟨⟨f1, f2, f3, _⟩, s6, hk1, hk2, hSi, hbx, hcl⟩
 have s1 := f1.trans qo1
 have s2 := f2.trans qo2
 have s3 := f3.trans qo3
 refine W.seq ?_
 refine W.seq ?_
 refine W.region ?_
 refine WL.x (X.mv (s6)) rfl ?_
 refine WL.x (X.mv (lt rfl (s2))) rfl ?_
 refine WL.x (X.lss (lt rfl (lh)) (lh)) rfl ?_
 refine WL.e5 Nx.thn 1 2 3 6 12 (jt2 rfl (lt rfl (s1))) (jt2 rfl (lt rfl (s2))) (jt2 rfl (lt rfl (s3))) (jt2 rfl (lt rfl (s6))) (lh) ?_
 intro σ4 s1 s2 s3 s6 s12
 refine W.cndp s12 (fun hlt2 => ?_) (fun hlt2 => ?_)
 ·
  have hkX : k < U.length := by omega
  obtain ⟨x, hx⟩ : ∃ x, U[k] = x := ⟨_, rfl⟩
  have hdX : U.drop k = x :: U.drop (k + 1) := by rw [← hx]; exact List.drop_eq_getElem_cons hkX
  have htX : U.take (k + 1) = U.take k ++ [x] := by rw [← hx]; exact List.take_succ_eq_append_getElem hkX
  obtain ⟨Z, hZ⟩ : ∃ Z, Z = zs c (U.take k) := ⟨_, rfl⟩
  obtain ⟨O, hOO⟩ : ∃ O, O = os c (U.take k) := ⟨_, rfl⟩
  have hZO : Z.length + O.length = k := by
    have h9 := stb_len (c := c) (U.take k)
    unfold stb at h9
    rw [← hZ, ← hOO, List.length_append, List.length_take] at h9
    omega
  have hSk : S (p ++ Z ++ O ++ x :: ([] ++ (U.drop (k + 1) ++ q))) w2 := by
    have h9 := hSi
    rw [hdX] at h9
    unfold stb at h9
    rw [← hZ, ← hOO] at h9
    simpa only [List.append_assoc, List.cons_append, List.nil_append] using h9
  refine W.skip Nx.thn ?_
  refine W.seq ?_
  refine W.block ?_
  refine W.seq ?_
  refine W.region ?_
  refine WL.x (X.mv (s6)) rfl ?_
  refine WL.x (X.asg (lh)) rfl ?_
  refine WL.e5 Nx.thn 1 2 3 6 7 (jt2 rfl (s1)) (jt2 rfl (s2)) (jt2 rfl (s3)) (jt2 rfl (s6)) (lh) ?_
  intro σ5 s1 s2 s3 s6 s7
  refine W.block ?_
  have qo4 := s1
  have qo5 := s2
  have qo6 := s3
  have qo7 := s6
  -- loop 1: kept [1, 2, 3, 6], varied [7]
  refine W.loop (G := List α × List α) (fun (O1, O2) σ' w' => (σ' 1 = σ5 1 ∧ σ' 2 = σ5 2 ∧ σ' 3 = σ5 3 ∧ σ' 6 = σ5 6 ∧ True) ∧ (σ' 7 = .int .i64 ((p.length + Z.length + O1.length : Nat) : Int) ∧ O1 ++ O2 = O ∧ (c x = true → O2 = []) ∧ O1.length + O2.length = O.length ∧ S (p ++ Z ++ O1 ++ x :: (O2 ++ (U.drop (k + 1) ++ q))) w' ∧ (w').heap[w.heap.size]? = some (.cells #[.func (.func lf) #[] lb.toArray, .func (.func sf) #[] sb.toArray] 120 (0, 0)) ∧ Ch (fun j => j = blk) w w')) (fun (O1, O2) => O1.length) ((O, [])) ⟨⟨rfl, rfl, rfl, rfl, trivial⟩, s7.trans (by congr 2; omega), List.append_nil _, (fun _ => rfl), (by simp only [List.length_nil]; omega), hSk, hbx, hcl⟩ ?_
  rintro ⟨O1, O2⟩ σ6 w3 ⟨⟨f1, f2, f3, f6, _⟩, s7, hO12, hx2, hO12l, hSj, hbx, hcl⟩
  have s1 := f1.trans qo4
  have s2 := f2.trans qo5
  have s3 := f3.trans qo6
  have s6 := f6.trans qo7
  refine W.seq ?_
  refine W.seq ?_
  refine W.region ?_
  refine WL.x (X.mv (s7)) rfl ?_
  refine WL.x (X.mv (lt rfl (s1))) rfl ?_
  refine WL.x (X.gtr (lt rfl (lh)) (lh)) rfl ?_
  refine WL.x (X.mv (lh)) rfl ?_
  refine WL.splitp (lh) (fun hja => ?_) (fun hja => ?_)
  ·
   refine WL.yes rfl rfl (lh) (decide_eq_true hja) ?_
   refine WL.x (X.fieldAddr fd120_0 (jt4 rfl (s3))) rfl ?_
   refine WL.yes rfl rfl (lt rfl (lh)) (decide_eq_true hja) ?_
   refine WL.x (X.load pl87 (lh) (by assumption) (by rfl)) rfl ?_
   refine WL.yes rfl rfl (jt2 rfl (lh)) (decide_eq_true hja) ?_
   refine WL.x (X.mv (jt4 rfl (jt2 rfl (s7)))) rfl ?_
   refine WL.yes rfl rfl (jt2 rfl (lt rfl (lh))) (decide_eq_true hja) ?_
   refine WL.x (X.mv (jt4 rfl (jt2 rfl (lt rfl (s7))))) rfl ?_
   refine WL.yes rfl rfl (jt4 rfl (lh)) (decide_eq_true hja) ?_
   refine WL.x (X.subN (b := 1) (lh) lc (by omega) (by omega)) rfl ?_
   refine WL.yes rfl rfl (jt4 rfl (lt rfl (lh))) (decide_eq_true hja) ?_
   have hzf : ∀ y ∈ Z, c y = false := fun y hy => by rw [hZ] at hy; exact zs_mem hy
   have hof : ∀ y ∈ O1, c y = true := fun y hy => by
     have h9 : y ∈ O := by rw [← hO12]; exact List.mem_append_left _ hy
     rw [hOO] at h9; exact os_mem h9
   have hDl := H.len _ _ hSj
   have hd1 := ins_at (p := p) (Z := Z) (O1 := O1) (TL := (O2 ++ (U.drop (k + 1) ++ q))) (x := x) (by simp only [List.length_append, List.length_cons]; omega)
   have hd2 := ins_prev (p := p) (x := x) (TL := (O2 ++ (U.drop (k + 1) ++ q))) hzf hof (by omega) (by simp only [List.length_append, List.length_cons]; omega)
   refine WL.callv2 H.cal (jt2 rfl (lt rfl (lh))) (jt2 rfl (lh)) (lh) (H.less _ w3 (p.length + Z.length + O1.length) (p.length + Z.length + O1.length - 1) (by simp only [List.length_append, List.length_cons]; omega) (by simp only [List.length_append, List.length_cons]; omega) hSj) rfl ?_
   rintro _ w4 ⟨rfl, cl⟩
   rw [hd1, hd2]
   obtain ⟨hSj, hbx, hcl⟩ := H.same hSj hbx hcl cl
   refine WL.x (X.pickT (jt4 rfl (jt2 rfl (lh))) (decide_eq_true hja) (lh)) rfl ?_
   refine WL.e6 Nx.thn 1 2 3 6 7 26 (jt8 rfl (jt2 rfl (lt rfl (s1)))) (jt8 rfl (jt2 rfl (lt rfl (s2)))) (jt8 rfl (jt2 rfl (lt rfl (s3)))) (jt8 rfl (jt2 rfl (lt rfl (s6)))) (jt8 rfl (jt2 rfl (lt rfl (s7)))) (lh) ?_
   intro σ7 s1 s2 s3 s6 s7 s26
   refine W.cnd s26 (fun hls => ?_) (fun hls => ?_)
   ·
    rw [Bool.and_eq_true] at hls
    obtain ⟨hcx, hO1⟩ := hls
    have hcx : c x = false := by simpa using hcx
    have hO1 := of_decide_eq_true hO1
    obtain ⟨Oa, y, hOy⟩ := last_of hO1
    have hOl : O1.length = Oa.length + 1 := by rw [hOy, List.length_append]; rfl
    refine W.skip Nx.thn ?_
    refine W.seq ?_
    refine W.block ?_
    refine W.region ?_
    refine WL.x (X.fieldAddr fd120_1 (s3)) rfl ?_
    refine WL.x (X.load pl116 (lh) (by assumption) (by rfl)) rfl ?_
    refine WL.x (X.mv (jt2 rfl (s7))) rfl ?_
    refine WL.x (X.mv (jt2 rfl (lt rfl (s7)))) rfl ?_
    refine WL.x (X.subN (b := 1) (lh) lc (by omega) (by omega)) rfl ?_
    rw [hOy] at hSj
    have hSj : S ((p ++ Z ++ Oa) ++ y :: x :: (O2 ++ (U.drop (k + 1) ++ q))) w4 := by simpa only [List.append_assoc, List.cons_append, List.nil_append] using hSj
    have hDl2 := H.len _ _ hSj
    simp only [List.length_append, List.length_cons] at hDl2
    obtain ⟨v9, w5, hr9, hs9, ck⟩ := H.swap _ w4 (p.length + Z.length + O1.length) (p.length + Z.length + O1.length - 1) (by omega) (by omega) hSj
    rw [show p.length + Z.length + O1.length = (p ++ Z ++ Oa).length + 1 by simp only [List.length_append]; omega, Nat.add_sub_cancel, swp_back] at hs9
    obtain ⟨hbx2, hcl2⟩ := H.step hSj hlt hbx hcl ck
    refine WL.extv2 (jt2 rfl (lt rfl (lh))) (jt2 rfl (lh)) (lh) hr9 rfl ?_
    refine WL.e5 (Nx.blk Nx.thn) 1 2 3 6 7 (jt4 rfl (jt2 rfl (s1))) (jt4 rfl (jt2 rfl (s2))) (jt4 rfl (jt2 rfl (s3))) (jt4 rfl (jt2 rfl (s6))) (jt4 rfl (jt2 rfl (s7))) ?_
    intro σ8 s1 s2 s3 s6 s7
    refine W.region ?_
    refine WL.x (X.mv (s7)) rfl ?_
    refine WL.x (X.subN (b := 1) (lh) lc (by omega) (by omega)) rfl ?_
    refine WL.x (X.asg (lh)) rfl ?_
    refine WL.e5 Nx.thn 1 2 3 6 7 (jt2 rfl (lt rfl (s1))) (jt2 rfl (lt rfl (s2))) (jt2 rfl (lt rfl (s3))) (jt2 rfl (lt rfl (s6))) (lh) ?_
    intro σ9 s1 s2 s3 s6 s7
    refine ⟨(Oa, y :: O2), by (try dsimp only); omega, ⟨s1.trans qo4.symm, s2.trans qo5.symm, s3.trans qo6.symm, s6.trans qo7.symm, trivial⟩, s7.trans (by congr 2; omega), (by rw [← hO12, hOy]; simp), (fun h9 => by rw [hcx] at h9; cases h9), (by simp only [List.length_cons]; omega), hs9, hbx2, hcl2⟩
   ·
    refine W.exit (Nx.xthn (Nx.xthn (Nx.xblk (Nx.blk Nx.thn)))) ?_
    refine W.region ?_
    refine WL.x (X.mv (s6)) rfl ?_
    refine WL.x (X.addN (b := 1) (lh) lc (by omega)) rfl ?_
    refine WL.x (X.asg (lh)) rfl ?_
    refine WL.e4 Nx.thn 1 2 3 6 (jt2 rfl (lt rfl (s1))) (jt2 rfl (lt rfl (s2))) (jt2 rfl (lt rfl (s3))) (lh) ?_
    intro σ10 s1 s2 s3 s6
    have hfin : S (p ++ stb c (U.take (k + 1)) ++ U.drop (k + 1) ++ q) w4 := by
      rw [htX, ← ins_done (x := x) (hO12.trans hOO) hx2 (by exact (by cases hcx : c x <;> simp_all)), ← hZ]
      simpa only [List.append_assoc, List.cons_append, List.nil_append] using hSj
    refine ⟨k + 1, by omega, ⟨s1.trans qo1.symm, s2.trans qo2.symm, s3.trans qo3.symm, trivial⟩, s6, by omega, by omega, hfin, hbx, hcl⟩
  ·
   refine WL.no rfl rfl (lh) (decide_eq_false hja) rfl ?_
   refine WL.no rfl rfl (lt rfl (lh)) (decide_eq_false hja) rfl ?_
   refine WL.no rfl rfl (jt2 rfl (lh)) (decide_eq_false hja) rfl ?_
   refine WL.no rfl rfl (jt2 rfl (lt rfl (lh))) (decide_eq_false hja) rfl ?_
   refine WL.no rfl rfl (jt4 rfl (lh)) (decide_eq_false hja) rfl ?_
   refine WL.no rfl rfl (jt4 rfl (lt rfl (lh))) (decide_eq_false hja) rfl ?_
   refine WL.x (X.pickF (jt4 rfl (jt2 rfl (lh))) (decide_eq_false hja) lc) rfl ?_
   refine WL.e6 Nx.thn 1 2 3 6 7 26 (jt8 rfl (jt2 rfl (lt rfl (s1)))) (jt8 rfl (jt2 rfl (lt rfl (s2)))) (jt8 rfl (jt2 rfl (lt rfl (s3)))) (jt8 rfl (jt2 rfl (lt rfl (s6)))) (jt8 rfl (jt2 rfl (lt rfl (s7)))) (lh) ?_
   intro σ11 s1 s2 s3 s6 s7 s26
   refine W.cndF s26 ?_
   refine W.exit (Nx.xthn (Nx.xthn (Nx.xblk (Nx.blk Nx.thn)))) ?_
   refine W.region ?_
   refine WL.x (X.mv (s6)) rfl ?_
   refine WL.x (X.addN (b := 1) (lh) lc (by omega)) rfl ?_
   refine WL.x (X.asg (lh)) rfl ?_
   refine WL.e4 Nx.thn 1 2 3 6 (jt2 rfl (lt rfl (s1))) (jt2 rfl (lt rfl (s2))) (jt2 rfl (lt rfl (s3))) (lh) ?_
   intro σ12 s1 s2 s3 s6
   have hfin : S (p ++ stb c (U.take (k + 1)) ++ U.drop (k + 1) ++ q) w3 := by
     rw [htX, ← ins_done (x := x) (hO12.trans hOO) hx2 (by exact .inr (List.eq_nil_of_length_eq_zero (by omega))), ← hZ]
     simpa only [List.append_assoc, List.cons_append, List.nil_append] using hSj
   refine ⟨k + 1, by omega, ⟨s1.trans qo1.symm, s2.trans qo2.symm, s3.trans qo3.symm, trivial⟩, s6, by omega, by omega, hfin, hbx, hcl⟩
 ·
  refine W.exit (Nx.xthn (Nx.xthn (Nx.xblk Nx.n0))) ?_
  have e1 : U.take k = U := List.take_of_length_le (by omega)
  have e2 : U.drop k = [] := List.drop_eq_nil_of_le (by omega)
  rw [e1, e2, List.append_nil] at hSi
  exact ⟨hSi, hcl⟩
end Go.Proofs.YtnfkblboimkcjaaDoor
end

section
set_option linter.unusedVariables false
set_option linter.unusedSimpArgs false
set_option maxRecDepth 100000
namespace Go.Proofs.YtnfkblboimkcjaaDoor
open Go Go.RowKit Sg
set_option maxHeartbeats 1600000 in
theorem sym_step {α : Type} {c : α → Bool} {m blk lf sf : Nat} {lb sb : List Value} {S : List α → World → Prop} (H : Srts Tryd.prog c m blk lf lb sf sb S) (Nn : Nat) (ih : ∀ (p L R q : List α) (w : World), L.length + R.length < Nn → S (p ++ L ++ R ++ q) w → 0 < L.length → 0 < R.length → Srt c L → Srt c R → ∀ a mm b : Nat, a = p.length → mm = p.length + L.length → b = p.length + L.length + R.length → Sg.Ret Tryd.prog 86 #[.agg #[.func (.func lf) #[] lb.toArray, .func (.func sf) #[] sb.toArray], .int .i64 ((a : Nat) : Int), .int .i64 ((mm : Nat) : Int), .int .i64 ((b : Nat) : Int)] w fun v w' => S (p ++ mg c L R ++ q) w' ∧ Ch (fun k => k = blk) w w') (p L R q : List α) (w : World) (hN : L.length + R.length = Nn) (hS : S (p ++ L ++ R ++ q) w) (hL0 : 0 < L.length) (hR0 : 0 < R.length) (hL : Srt c L) (hR : Srt c R) (a mm b : Nat) (ha : a = p.length) (hmm : mm = p.length + L.length) (hb : b = p.length + L.length + R.length) :
  Sg.Ret Tryd.prog 86 #[.agg #[.func (.func lf) #[] lb.toArray, .func (.func sf) #[] sb.toArray], .int .i64 ((a : Nat) : Int), .int .i64 ((mm : Nat) : Int), .int .i64 ((b : Nat) : Int)] w fun v w' => S (p ++ mg c L R ++ q) w' ∧ Ch (fun k => k = blk) w w' := by
 have hlt := H.lt _ _ hS
 have hsm := H.small
 have hm := H.len _ _ hS
 simp only [List.length_append] at hm
 refine enter0 (n := 177) (l := [.agg #[.func (.func lf) #[] lb.toArray, .func (.func sf) #[] sb.toArray], .int .i64 ((a : Nat) : Int), .int .i64 ((mm : Nat) : Int), .int .i64 ((b : Nat) : Int)]) Tryd.func86 rfl rfl rfl rfl ?_
 refine W.g4 0 1 2 3 (v1 := .agg #[.func (.func lf) #[] lb.toArray, .func (.func sf) #[] sb.toArray]) (v2 := .int .i64 ((a : Nat) : Int)) (v3 := .int .i64 ((mm : Nat) : Int)) (v4 := .int .i64 ((b : Nat) : Int)) rfl rfl rfl rfl ?_; intro σ s0 s1 s2 s3
 refine W.seq ?_
 refine W.region ?_
 refine WL.box (s0) rfl ?_
 intro w1 u0_0; have hu0_0 := u0_0.at_; have cu0_0 := u0_0.ch; have zu0_0 := u0_0.size
 refine WL.e4 Nx.thn 1 2 3 4 (lt rfl (s1)) (lt rfl (s2)) (lt rfl (s3)) (lh) ?_
 intro σ1 s1 s2 s3 s4
 refine W.seq ?_
 refine W.seq ?_
 refine W.region ?_
 refine WL.x (X.mv (s2)) rfl ?_
 refine WL.x (X.mv (lt rfl (s1))) rfl ?_
 refine WL.x (X.subN (lt rfl (lh)) (lh) (by omega) (by omega)) rfl ?_
 refine WL.x (X.eql (lh) lc) rfl ?_
 refine WL.e5 Nx.thn 1 2 3 4 26 (jt4 rfl (s1)) (jt4 rfl (s2)) (jt4 rfl (s3)) (jt4 rfl (s4)) (lh) ?_
 intro σ2 s1 s2 s3 s4 s26
 refine W.cndp s26 (fun h1 => ?_) (fun h1 => ?_)
 ·
  have hL1 : L.length = 1 := by omega
  obtain ⟨x, rfl⟩ := List.length_eq_one_iff.1 hL1
  obtain ⟨t, htt⟩ : ∃ t, t = t1 c x R := ⟨_, rfl⟩
  have ht1 := t1_le (c := c) x R
  rw [← htt] at ht1
  simp only [List.length_cons, List.length_nil] at hmm hb hm hN
  refine W.seq ?_
  refine W.region ?_
  refine WL.x (X.mv (s2)) rfl ?_
  refine WL.x (X.asg (lh)) rfl ?_
  refine WL.e4 Nx.thn 1 3 4 8 (jt2 rfl (s1)) (jt2 rfl (s3)) (jt2 rfl (s4)) (lh) ?_
  intro σ3 s1 s3 s4 s8
  refine W.seq ?_
  refine W.region ?_
  refine WL.x (X.mv (s3)) rfl ?_
  refine WL.x (X.asg (lh)) rfl ?_
  refine WL.e4 Nx.thn 1 4 8 9 (jt2 rfl (s1)) (jt2 rfl (s4)) (jt2 rfl (s8)) (lh) ?_
  intro σ4 s1 s4 s8 s9
  refine W.seq ?_
  refine W.block ?_
  have qo1 := s1
  have qo2 := s4
  -- loop 0: kept [1, 4], varied [8, 9]
  refine W.loop (G := Nat × Nat) (fun (i, j) σ' w' => (σ' 1 = σ4 1 ∧ σ' 4 = σ4 4 ∧ True) ∧ (σ' 8 = .int .i64 ((i : Nat) : Int) ∧ σ' 9 = .int .i64 ((j : Nat) : Int) ∧ mm ≤ i ∧ i ≤ mm + t ∧ mm + t ≤ j ∧ j ≤ b ∧ S (p ++ [x] ++ R ++ q) w' ∧ (w').heap[w.heap.size]? = some (.cells #[.func (.func lf) #[] lb.toArray, .func (.func sf) #[] sb.toArray] 120 (0, 0)) ∧ Ch (fun j => j = blk) w w')) (fun (i, j) => j - i) ((mm, b)) ⟨⟨rfl, rfl, trivial⟩, s8, s9, by omega, by omega, by omega, by omega, H.ch _ _ _ hS cu0_0, hu0_0, Ch.weak cu0_0⟩ ?_
  rintro ⟨i, j⟩ σ5 w2 ⟨⟨f1, f4, _⟩, s8, s9, hi1, hi2, hj1, hj2, hSi, hbx, hcl⟩
  have s1 := f1.trans qo1
  have s4 := f4.trans qo2
  refine W.seq ?_
  refine W.seq ?_
  refine W.region ?_
  refine WL.x (X.mv (s8)) rfl ?_
  refine WL.x (X.mv (lt rfl (s9))) rfl ?_
  refine WL.x (X.lss (lt rfl (lh)) (lh)) rfl ?_
  refine WL.e5 Nx.thn 1 4 8 9 31 (jt2 rfl (lt rfl (s1))) (jt2 rfl (lt rfl (s4))) (jt2 rfl (lt rfl (s8))) (jt2 rfl (lt rfl (s9))) (lh) ?_
  intro σ6 s1 s4 s8 s9 s31
  refine W.cndp s31 (fun hlt2 => ?_) (fun hlt2 => ?_)
  ·
   refine W.skip Nx.thn ?_
   refine W.block ?_
   refine W.seq ?_
   refine W.region ?_
   refine WL.x (X.mv (s8)) rfl ?_
   refine WL.x (X.mv (lt rfl (s9))) rfl ?_
   refine WL.x (X.addN (lt rfl (lh)) (lh) (by omega)) rfl ?_
   refine WL.x (X.convi Tryd.underlying3 Tryd.underlying39 (lh) (wrap_u64_in (by omega) (by omega))) rfl ?_
   refine WL.x (X.shrN (lh)) rfl ?_
   refine WL.x (X.convi Tryd.underlying39 Tryd.underlying3 (lh) (wrap_i64 (by omega) (by omega))) rfl ?_
   refine WL.x (X.asg (lh)) rfl ?_
   refine WL.e5 Nx.thn 1 4 8 9 10 (jt4 rfl (jt2 rfl (lt rfl (s1)))) (jt4 rfl (jt2 rfl (lt rfl (s4)))) (jt4 rfl (jt2 rfl (lt rfl (s8)))) (jt4 rfl (jt2 rfl (lt rfl (s9)))) (lh) ?_
   intro σ7 s1 s4 s8 s9 s10
   refine W.seq ?_
   refine W.region ?_
   refine WL.x (X.fieldAddr fd120_0 (s4)) rfl ?_
   refine WL.x (X.load pl87 (lh) (by assumption) (by rfl)) rfl ?_
   refine WL.x (X.mv (jt2 rfl (s10))) rfl ?_
   refine WL.x (X.mv (jt2 rfl (lt rfl (s1)))) rfl ?_
   have hhR : (i + j) / 2 - mm < R.length := by omega
   have hDl : (p ++ [x] ++ R ++ q).length = p.length + 1 + R.length + q.length := by simp only [List.length_append, List.length_cons, List.length_nil]
   have hd1 := snd_at (A := p) (B := [x]) (C := R) (D := q) (k := (i + j) / 2) hhR (by simp only [List.length_cons, List.length_nil]; omega) (by omega)
   have hd2 := fst_at (A := p) (B := [x]) (C := R) (D := q) (e := 0) (k := a) (by simp) (by omega) (by omega)
   refine WL.callv2 H.cal (jt2 rfl (lh)) (lt rfl (lh)) (lh) (H.less _ w2 ((i + j) / 2) a (by omega) (by omega) hSi) rfl ?_
   rintro _ w3 ⟨rfl, cl⟩
   rw [hd1, hd2, List.getElem_cons_zero, less_one hR hhR, ← htt]
   obtain ⟨hSi, hbx, hcl⟩ := H.same hSi hbx hcl cl
   refine WL.e6 Nx.thn 1 4 8 9 10 42 (jt4 rfl (lt rfl (s1))) (jt4 rfl (lt rfl (s4))) (jt4 rfl (lt rfl (s8))) (jt4 rfl (lt rfl (s9))) (jt4 rfl (lt rfl (s10))) (lh) ?_
   intro σ8 s1 s4 s8 s9 s10 s42
   refine W.cndp s42 (fun hle => ?_) (fun hle => ?_)
   ·
    refine W.region ?_
    refine WL.x (X.mv (s10)) rfl ?_
    refine WL.x (X.addN (b := 1) (lh) lc (by omega)) rfl ?_
    refine WL.x (X.asg (lh)) rfl ?_
    refine WL.e4 (Nx.blk Nx.thn) 1 4 8 9 (jt2 rfl (lt rfl (s1))) (jt2 rfl (lt rfl (s4))) (lh) (jt2 rfl (lt rfl (s9))) ?_
    intro σ9 s1 s4 s8 s9
    refine ⟨((i + j) / 2 + 1, j), by (try dsimp only); omega, ⟨s1.trans qo1.symm, s4.trans qo2.symm, trivial⟩, s8, s9, by omega, by omega, by omega, by omega, hSi, hbx, hcl⟩
   ·
    refine W.region ?_
    refine WL.x (X.mv (s10)) rfl ?_
    refine WL.x (X.asg (lh)) rfl ?_
    refine WL.e4 (Nx.blk Nx.thn) 1 4 8 9 (jt2 rfl (s1)) (jt2 rfl (s4)) (jt2 rfl (s8)) (lh) ?_
    intro σ10 s1 s4 s8 s9
    refine ⟨(i, (i + j) / 2), by (try dsimp only); omega, ⟨s1.trans qo1.symm, s4.trans qo2.symm, trivial⟩, s8, s9, by omega, by omega, by omega, by omega, hSi, hbx, hcl⟩
  ·
   refine W.exit (Nx.xthn (Nx.xthn (Nx.xblk Nx.thn))) ?_
   refine W.seq ?_
   refine W.seq ?_
   refine W.region ?_
   refine WL.x (X.mv (s1)) rfl ?_
   refine WL.x (X.asg (lh)) rfl ?_
   refine WL.e3 Nx.thn 4 8 11 (jt2 rfl (s4)) (jt2 rfl (s8)) (lh) ?_
   intro σ11 s4 s8 s11
   refine W.block ?_
   have qo3 := s4
   have qo4 := s8
   -- loop 1: kept [4, 8], varied [11]
   refine W.loop (G := Nat) (fun e σ' w' => (σ' 4 = σ11 4 ∧ σ' 8 = σ11 8 ∧ True) ∧ (σ' 11 = .int .i64 ((a + e : Nat) : Int) ∧ e ≤ t ∧ S (p ++ R.take e ++ x :: (R.drop e ++ q)) w' ∧ (w').heap[w.heap.size]? = some (.cells #[.func (.func lf) #[] lb.toArray, .func (.func sf) #[] sb.toArray] 120 (0, 0)) ∧ Ch (fun j => j = blk) w w')) (fun e => t - e) (0) ⟨⟨rfl, rfl, trivial⟩, s11, by omega, (by simpa only [List.append_assoc, List.cons_append, List.nil_append, List.take_zero, List.drop_zero] using hSi), hbx, hcl⟩ ?_
   rintro e σ12 w4 ⟨⟨f4, f8, _⟩, s11, he, hSj, hbx, hcl⟩
   have s4 := f4.trans qo3
   have s8 := f8.trans qo4
   refine W.seq ?_
   refine W.seq ?_
   refine W.region ?_
   refine WL.x (X.mv (s11)) rfl ?_
   refine WL.x (X.mv (lt rfl (s8))) rfl ?_
   refine WL.x (X.subN (b := 1) (lh) lc (by omega) (by omega)) rfl ?_
   refine WL.x (X.lss (jt2 rfl (lh)) (lh)) rfl ?_
   refine WL.e4 Nx.thn 4 8 11 50 (jt4 rfl (s4)) (jt4 rfl (s8)) (jt4 rfl (s11)) (lh) ?_
   intro σ13 s4 s8 s11 s50
   refine W.cndp s50 (fun hk2 => ?_) (fun hk2 => ?_)
   ·
    have hee : e < R.length := by omega
    have hdr : R.drop e = R[e] :: R.drop (e + 1) := List.drop_eq_getElem_cons hee
    have htr : R.take (e + 1) = R.take e ++ [R[e]] := List.take_succ_eq_append_getElem hee
    have hpl : (p ++ R.take e).length = a + e := by rw [List.length_append, List.length_take]; omega
    rw [hdr] at hSj
    have hSj : S ((p ++ R.take e) ++ x :: R[e] :: (R.drop (e + 1) ++ q)) w4 := by simpa only [List.append_assoc, List.cons_append] using hSj
    refine W.skip Nx.thn ?_
    refine W.seq ?_
    refine W.block ?_
    refine W.region ?_
    refine WL.x (X.fieldAddr fd120_1 (s4)) rfl ?_
    refine WL.x (X.load pl116 (lh) (by assumption) (by rfl)) rfl ?_
    refine WL.x (X.mv (jt2 rfl (s11))) rfl ?_
    refine WL.x (X.mv (jt2 rfl (lt rfl (s11)))) rfl ?_
    refine WL.x (X.addN (b := 1) (lh) lc (by omega)) rfl ?_
    obtain ⟨v9, w5, hr9, hs9, ck⟩ := H.swap _ w4 (a + e) (a + e + 1) (by omega) (by omega) hSj
    rw [← hpl, swp_on] at hs9
    obtain ⟨hbx2, hcl2⟩ := H.step hSj hlt hbx hcl ck
    refine WL.extv2 (jt2 rfl (lt rfl (lh))) (jt2 rfl (lh)) (lh) hr9 rfl ?_
    refine WL.e3 (Nx.blk Nx.thn) 4 8 11 (jt4 rfl (jt2 rfl (s4))) (jt4 rfl (jt2 rfl (s8))) (jt4 rfl (jt2 rfl (s11))) ?_
    intro σ14 s4 s8 s11
    refine W.region ?_
    refine WL.x (X.mv (s11)) rfl ?_
    refine WL.x (X.addN (b := 1) (lh) lc (by omega)) rfl ?_
    refine WL.x (X.asg (lh)) rfl ?_
    refine WL.e3 Nx.thn 4 8 11 (jt2 rfl (lt rfl (s4))) (jt2 rfl (lt rfl (s8))) (lh) ?_
    intro σ15 s4 s8 s11
    refine ⟨e + 1, by omega, ⟨s4.trans qo3.symm, s8.trans qo4.symm, trivial⟩, s11, by omega, (by rw [htr]; simpa only [List.append_assoc, List.cons_append, List.nil_append] using hs9), hbx2, hcl2⟩
   ·
    refine W.exit (Nx.xthn (Nx.xthn (Nx.xblk Nx.thn))) ?_
    refine W.ret0 (Nx.rthn Nx.f0)  ?_
    have he9 : e = t := by omega
    subst he9
    refine ⟨?_, hcl⟩
    rw [mg_one_l hR, ← htt]
    simpa only [List.append_assoc, List.cons_append, List.nil_append] using hSj
 ·
  refine W.skip Nx.thn ?_
  refine W.seq ?_
  refine W.seq ?_
  refine W.region ?_
  refine WL.x (X.mv (s3)) rfl ?_
  refine WL.x (X.mv (lt rfl (s2))) rfl ?_
  refine WL.x (X.subN (lt rfl (lh)) (lh) (by omega) (by omega)) rfl ?_
  refine WL.x (X.eql (lh) lc) rfl ?_
  refine WL.e5 Nx.thn 1 2 3 4 62 (jt4 rfl (s1)) (jt4 rfl (s2)) (jt4 rfl (s3)) (jt4 rfl (s4)) (lh) ?_
  intro σ16 s1 s2 s3 s4 s62
  refine W.cndp s62 (fun h2 => ?_) (fun h2 => ?_)
  ·
   have hR1 : R.length = 1 := by omega
   obtain ⟨y, rfl⟩ := List.length_eq_one_iff.1 hR1
   obtain ⟨t, htt⟩ : ∃ t, t = t2 c L y := ⟨_, rfl⟩
   have ht1 := t2_le (c := c) L y
   rw [← htt] at ht1
   simp only [List.length_cons, List.length_nil] at hb hm hN
   refine W.seq ?_
   refine W.region ?_
   refine WL.x (X.mv (s1)) rfl ?_
   refine WL.x (X.asg (lh)) rfl ?_
   refine WL.e3 Nx.thn 2 4 12 (jt2 rfl (s2)) (jt2 rfl (s4)) (lh) ?_
   intro σ17 s2 s4 s12
   refine W.seq ?_
   refine W.region ?_
   refine WL.x (X.mv (s2)) rfl ?_
   refine WL.x (X.asg (lh)) rfl ?_
   refine WL.e4 Nx.thn 2 4 12 13 (jt2 rfl (s2)) (jt2 rfl (s4)) (jt2 rfl (s12)) (lh) ?_
   intro σ18 s2 s4 s12 s13
   refine W.seq ?_
   refine W.block ?_
   have qo5 := s2
   have qo6 := s4
   -- loop 2: kept [2, 4], varied [12, 13]
   refine W.loop (G := Nat × Nat) (fun (i, j) σ' w' => (σ' 2 = σ18 2 ∧ σ' 4 = σ18 4 ∧ True) ∧ (σ' 12 = .int .i64 ((i : Nat) : Int) ∧ σ' 13 = .int .i64 ((j : Nat) : Int) ∧ a ≤ i ∧ i ≤ a + t ∧ a + t ≤ j ∧ j ≤ mm ∧ S (p ++ L ++ [y] ++ q) w' ∧ (w').heap[w.heap.size]? = some (.cells #[.func (.func lf) #[] lb.toArray, .func (.func sf) #[] sb.toArray] 120 (0, 0)) ∧ Ch (fun j => j = blk) w w')) (fun (i, j) => j - i) ((a, mm)) ⟨⟨rfl, rfl, trivial⟩, s12, s13, by omega, by omega, by omega, by omega, H.ch _ _ _ hS cu0_0, hu0_0, Ch.weak cu0_0⟩ ?_
   rintro ⟨i, j⟩ σ19 w6 ⟨⟨f2, f4, _⟩, s12, s13, hi1, hi2, hj1, hj2, hSi, hbx, hcl⟩
   have s2 := f2.trans qo5
   have s4 := f4.trans qo6
   refine W.seq ?_
   refine W.seq ?_
   refine W.region ?_
   refine WL.x (X.mv (s12)) rfl ?_
   refine WL.x (X.mv (lt rfl (s13))) rfl ?_
   refine WL.x (X.lss (lt rfl (lh)) (lh)) rfl ?_
   refine WL.e5 Nx.thn 2 4 12 13 67 (jt2 rfl (lt rfl (s2))) (jt2 rfl (lt rfl (s4))) (jt2 rfl (lt rfl (s12))) (jt2 rfl (lt rfl (s13))) (lh) ?_
   intro σ20 s2 s4 s12 s13 s67
   refine W.cndp s67 (fun hlt2 => ?_) (fun hlt2 => ?_)
   ·
    refine W.skip Nx.thn ?_
    refine W.block ?_
    refine W.seq ?_
    refine W.region ?_
    refine WL.x (X.mv (s12)) rfl ?_
    refine WL.x (X.mv (lt rfl (s13))) rfl ?_
    refine WL.x (X.addN (lt rfl (lh)) (lh) (by omega)) rfl ?_
    refine WL.x (X.convi Tryd.underlying3 Tryd.underlying39 (lh) (wrap_u64_in (by omega) (by omega))) rfl ?_
    refine WL.x (X.shrN (lh)) rfl ?_
    refine WL.x (X.convi Tryd.underlying39 Tryd.underlying3 (lh) (wrap_i64 (by omega) (by omega))) rfl ?_
    refine WL.x (X.asg (lh)) rfl ?_
    refine WL.e5 Nx.thn 2 4 12 13 14 (jt4 rfl (jt2 rfl (lt rfl (s2)))) (jt4 rfl (jt2 rfl (lt rfl (s4)))) (jt4 rfl (jt2 rfl (lt rfl (s12)))) (jt4 rfl (jt2 rfl (lt rfl (s13)))) (lh) ?_
    intro σ21 s2 s4 s12 s13 s14
    refine W.seq ?_
    refine W.region ?_
    refine WL.x (X.fieldAddr fd120_0 (s4)) rfl ?_
    refine WL.x (X.load pl87 (lh) (by assumption) (by rfl)) rfl ?_
    refine WL.x (X.mv (jt2 rfl (s2))) rfl ?_
    refine WL.x (X.mv (jt2 rfl (lt rfl (s14)))) rfl ?_
    have hhL : (i + j) / 2 - a < L.length := by omega
    have hDl : (p ++ L ++ [y] ++ q).length = p.length + L.length + 1 + q.length := by simp only [List.length_append, List.length_cons, List.length_nil]
    have hd1 := snd_at (A := p) (B := L) (C := [y]) (D := q) (e := 0) (k := mm) (by simp) (by omega) (by omega)
    have hd2 := fst_at (A := p) (B := L) (C := [y]) (D := q) (k := (i + j) / 2) hhL (by omega) (by omega)
    refine WL.callv2 H.cal (jt2 rfl (lh)) (lt rfl (lh)) (lh) (H.less _ w6 mm ((i + j) / 2) (by omega) (by omega) hSi) rfl ?_
    rintro _ w7 ⟨rfl, cl⟩
    rw [hd1, hd2, List.getElem_cons_zero]
    obtain ⟨hSi, hbx, hcl⟩ := H.same hSi hbx hcl cl
    refine WL.x (v := .bool (decide ((i + j) / 2 - a < t))) (by rw [htt, ← less_oner hL hhL]; exact X.not (lh)) rfl ?_
    refine WL.e6 Nx.thn 2 4 12 13 14 79 (jt4 rfl (jt2 rfl (s2))) (jt4 rfl (jt2 rfl (s4))) (jt4 rfl (jt2 rfl (s12))) (jt4 rfl (jt2 rfl (s13))) (jt4 rfl (jt2 rfl (s14))) (lh) ?_
    intro σ22 s2 s4 s12 s13 s14 s79
    refine W.cndp s79 (fun hle => ?_) (fun hle => ?_)
    ·
     refine W.region ?_
     refine WL.x (X.mv (s14)) rfl ?_
     refine WL.x (X.addN (b := 1) (lh) lc (by omega)) rfl ?_
     refine WL.x (X.asg (lh)) rfl ?_
     refine WL.e4 (Nx.blk Nx.thn) 2 4 12 13 (jt2 rfl (lt rfl (s2))) (jt2 rfl (lt rfl (s4))) (lh) (jt2 rfl (lt rfl (s13))) ?_
     intro σ23 s2 s4 s12 s13
     refine ⟨((i + j) / 2 + 1, j), by (try dsimp only); omega, ⟨s2.trans qo5.symm, s4.trans qo6.symm, trivial⟩, s12, s13, by omega, by omega, by omega, by omega, hSi, hbx, hcl⟩
    ·
     refine W.region ?_
     refine WL.x (X.mv (s14)) rfl ?_
     refine WL.x (X.asg (lh)) rfl ?_
     refine WL.e4 (Nx.blk Nx.thn) 2 4 12 13 (jt2 rfl (s2)) (jt2 rfl (s4)) (jt2 rfl (s12)) (lh) ?_
     intro σ24 s2 s4 s12 s13
     refine ⟨(i, (i + j) / 2), by (try dsimp only); omega, ⟨s2.trans qo5.symm, s4.trans qo6.symm, trivial⟩, s12, s13, by omega, by omega, by omega, by omega, hSi, hbx, hcl⟩
   ·
    refine W.exit (Nx.xthn (Nx.xthn (Nx.xblk Nx.thn))) ?_
    refine W.seq ?_
    refine W.seq ?_
    refine W.region ?_
    refine WL.x (X.mv (s2)) rfl ?_
    refine WL.x (X.asg (lh)) rfl ?_
    refine WL.e3 Nx.thn 4 12 15 (jt2 rfl (s4)) (jt2 rfl (s12)) (lh) ?_
    intro σ25 s4 s12 s15
    refine W.block ?_
    have qo7 := s4
    have qo8 := s12
    -- loop 3: kept [4, 12], varied [15]
    refine W.loop (G := Nat) (fun k σ' w' => (σ' 4 = σ25 4 ∧ σ' 12 = σ25 12 ∧ True) ∧ (σ' 15 = .int .i64 ((k : Nat) : Int) ∧ a + t ≤ k ∧ k ≤ mm ∧ S (p ++ L.take (k - a) ++ y :: (L.drop (k - a) ++ q)) w' ∧ (w').heap[w.heap.size]? = some (.cells #[.func (.func lf) #[] lb.toArray, .func (.func sf) #[] sb.toArray] 120 (0, 0)) ∧ Ch (fun j => j = blk) w w')) (fun k => k) (mm) ⟨⟨rfl, rfl, trivial⟩, s15, by omega, by omega, (by rw [List.take_of_length_le (by omega), List.drop_eq_nil_of_le (by omega)]; simpa only [List.append_assoc, List.cons_append, List.nil_append] using hSi), hbx, hcl⟩ ?_
    rintro k σ26 w8 ⟨⟨f4, f12, _⟩, s15, hk3, hk4, hSj, hbx, hcl⟩
    have s4 := f4.trans qo7
    have s12 := f12.trans qo8
    refine W.seq ?_
    refine W.seq ?_
    refine W.region ?_
    refine WL.x (X.mv (s15)) rfl ?_
    refine WL.x (X.mv (lt rfl (s12))) rfl ?_
    refine WL.x (X.gtr (lt rfl (lh)) (lh)) rfl ?_
    refine WL.e4 Nx.thn 4 12 15 86 (jt2 rfl (lt rfl (s4))) (jt2 rfl (lt rfl (s12))) (jt2 rfl (lt rfl (s15))) (lh) ?_
    intro σ27 s4 s12 s15 s86
    refine W.cndp s86 (fun hk2 => ?_) (fun hk2 => ?_)
    ·
     obtain ⟨u, hu⟩ : ∃ u, k = a + u + 1 := ⟨k - a - 1, by omega⟩
     have huL : u < L.length := by omega
     have hdr : L.drop u = L[u] :: L.drop (u + 1) := List.drop_eq_getElem_cons huL
     have htr : L.take (u + 1) = L.take u ++ [L[u]] := List.take_succ_eq_append_getElem huL
     have hpl : (p ++ L.take u).length = a + u := by rw [List.length_append, List.length_take]; omega
     rw [show k - a = u + 1 by omega, htr] at hSj
     have hSj : S ((p ++ L.take u) ++ L[u] :: y :: (L.drop (u + 1) ++ q)) w8 := by simpa only [List.append_assoc, List.cons_append, List.nil_append] using hSj
     refine W.skip Nx.thn ?_
     refine W.seq ?_
     refine W.block ?_
     refine W.region ?_
     refine WL.x (X.fieldAddr fd120_1 (s4)) rfl ?_
     refine WL.x (X.load pl116 (lh) (by assumption) (by rfl)) rfl ?_
     refine WL.x (X.mv (jt2 rfl (s15))) rfl ?_
     refine WL.x (X.mv (jt2 rfl (lt rfl (s15)))) rfl ?_
     refine WL.x (X.subN (b := 1) (lh) lc (by omega) (by omega)) rfl ?_
     obtain ⟨v9, w9, hr9, hs9, ck⟩ := H.swap _ w8 k (k - 1) (by omega) (by omega) hSj
     rw [show k - 1 = (p ++ L.take u).length by omega, show k = (p ++ L.take u).length + 1 by omega, swp_back] at hs9
     obtain ⟨hbx2, hcl2⟩ := H.step hSj hlt hbx hcl ck
     refine WL.extv2 (jt2 rfl (lt rfl (lh))) (jt2 rfl (lh)) (lh) hr9 rfl ?_
     refine WL.e3 (Nx.blk Nx.thn) 4 12 15 (jt4 rfl (jt2 rfl (s4))) (jt4 rfl (jt2 rfl (s12))) (jt4 rfl (jt2 rfl (s15))) ?_
     intro σ28 s4 s12 s15
     refine W.region ?_
     refine WL.x (X.mv (s15)) rfl ?_
     refine WL.x (X.subN (b := 1) (lh) lc (by omega) (by omega)) rfl ?_
     refine WL.x (X.asg (lh)) rfl ?_
     refine WL.e3 Nx.thn 4 12 15 (jt2 rfl (lt rfl (s4))) (jt2 rfl (lt rfl (s12))) (lh) ?_
     intro σ29 s4 s12 s15
     refine ⟨k - 1, by omega, ⟨s4.trans qo7.symm, s12.trans qo8.symm, trivial⟩, s15, by omega, by omega, (by rw [show k - 1 - a = u by omega, hdr]; simpa only [List.append_assoc, List.cons_append, List.nil_append] using hs9), hbx2, hcl2⟩
    ·
     refine W.exit (Nx.xthn (Nx.xthn (Nx.xblk Nx.thn))) ?_
     refine W.ret0 (Nx.rthn Nx.f0)  ?_
     have hk9 : k - a = t := by omega
     rw [hk9] at hSj
     refine ⟨?_, hcl⟩
     rw [mg_one_r hL, ← htt]
     simpa only [List.append_assoc, List.cons_append, List.nil_append] using hSj
  ·
   obtain ⟨mid, hmid⟩ : ∃ mid, mid = (a + b) / 2 := ⟨_, rfl⟩
   refine W.skip Nx.thn ?_
   refine W.seq ?_
   refine W.region ?_
   refine WL.x (X.mv (s1)) rfl ?_
   refine WL.x (X.mv (lt rfl (s3))) rfl ?_
   refine WL.x (X.addN (lt rfl (lh)) (lh) (by omega)) rfl ?_
   refine WL.x (X.convi Tryd.underlying3 Tryd.underlying39 (lh) (wrap_u64_in (by omega) (by omega))) rfl ?_
   refine WL.x (X.shrN (lh)) rfl ?_
   refine WL.x (v := .int .i64 ((mid : Nat) : Int)) (by rw [hmid]; exact X.convi Tryd.underlying39 Tryd.underlying3 (lh) (wrap_i64 (by omega) (by omega))) rfl ?_
   refine WL.x (X.asg (lh)) rfl ?_
   refine WL.e5 Nx.thn 1 2 3 4 16 (jt4 rfl (jt2 rfl (lt rfl (s1)))) (jt4 rfl (jt2 rfl (lt rfl (s2)))) (jt4 rfl (jt2 rfl (lt rfl (s3)))) (jt4 rfl (jt2 rfl (lt rfl (s4)))) (lh) ?_
   intro σ30 s1 s2 s3 s4 s16
   refine W.seq ?_
   refine W.region ?_
   refine WL.x (X.mv (s16)) rfl ?_
   refine WL.x (X.mv (lt rfl (s2))) rfl ?_
   refine WL.x (X.addN (lt rfl (lh)) (lh) (by omega)) rfl ?_
   refine WL.x (X.asg (lh)) rfl ?_
   refine WL.e6 Nx.thn 1 2 3 4 16 17 (jt4 rfl (s1)) (jt4 rfl (s2)) (jt4 rfl (s3)) (jt4 rfl (s4)) (jt4 rfl (s16)) (lh) ?_
   intro σ31 s1 s2 s3 s4 s16 s17
   refine W.seq ?_
   refine W.region ?_
   refine WL.x (X.asg lc) rfl ?_
   refine WL.x (X.asg lc) rfl ?_
   refine WL.e6 Nx.thn 1 2 3 4 16 17 (jt2 rfl (s1)) (jt2 rfl (s2)) (jt2 rfl (s3)) (jt2 rfl (s4)) (jt2 rfl (s16)) (jt2 rfl (s17)) ?_
   intro σ32 s1 s2 s3 s4 s16 s17
   have qo9 := s1
   have qo10 := s2
   have qo11 := s3
   have qo12 := s4
   have qo13 := s16
   have qo14 := s17
   refine W.seqJ (fun σ' w' => (σ' 1 = σ32 1 ∧ σ' 2 = σ32 2 ∧ σ' 3 = σ32 3 ∧ σ' 4 = σ32 4 ∧ σ' 16 = σ32 16 ∧ σ' 17 = σ32 17 ∧ True) ∧ ∃ lo hi : Nat, σ' 18 = .int .i64 ((lo : Nat) : Int) ∧ σ' 19 = .int .i64 ((hi : Nat) : Int) ∧ lo ≤ hi ∧ a ≤ lo ∧ hi ≤ mm ∧ hi ≤ mid ∧ mid + mm ≤ lo + b ∧ (hi = mid ∨ hi = mm) ∧ (lo = a ∨ lo + b = mid + mm) ∧ w1 = w') ?_ ?_
   ·
    refine W.seq ?_
    refine W.region ?_
    refine WL.x (X.mv (s2)) rfl ?_
    refine WL.x (X.mv (lt rfl (s16))) rfl ?_
    refine WL.x (X.gtr (lt rfl (lh)) (lh)) rfl ?_
    refine WL.e7 Nx.thn 1 2 3 4 16 17 106 (jt2 rfl (lt rfl (s1))) (jt2 rfl (lt rfl (s2))) (jt2 rfl (lt rfl (s3))) (jt2 rfl (lt rfl (s4))) (jt2 rfl (lt rfl (s16))) (jt2 rfl (lt rfl (s17))) (lh) ?_
    intro σ33 s1 s2 s3 s4 s16 s17 s106
    refine W.cndp s106 (fun hmd => ?_) (fun hmd => ?_)
    ·
     refine W.seq ?_
     refine W.region ?_
     refine WL.x (X.mv (s17)) rfl ?_
     refine WL.x (X.mv (lt rfl (s3))) rfl ?_
     refine WL.x (X.subN (lt rfl (lh)) (lh) (by omega) (by omega)) rfl ?_
     refine WL.x (X.asg (lh)) rfl ?_
     refine WL.e7 Nx.thn 1 2 3 4 16 17 18 (jt4 rfl (s1)) (jt4 rfl (s2)) (jt4 rfl (s3)) (jt4 rfl (s4)) (jt4 rfl (s16)) (jt4 rfl (s17)) (lh) ?_
     intro σ34 s1 s2 s3 s4 s16 s17 s18
     refine W.region ?_
     refine WL.x (X.mv (s16)) rfl ?_
     refine WL.x (X.asg (lh)) rfl ?_
     refine WL.e8 Nx.thn 1 2 3 4 16 17 18 19 (jt2 rfl (s1)) (jt2 rfl (s2)) (jt2 rfl (s3)) (jt2 rfl (s4)) (jt2 rfl (s16)) (jt2 rfl (s17)) (jt2 rfl (s18)) (lh) ?_
     intro σ35 s1 s2 s3 s4 s16 s17 s18 s19
     refine ⟨⟨s1.trans qo9.symm, s2.trans qo10.symm, s3.trans qo11.symm, s4.trans qo12.symm, s16.trans qo13.symm, s17.trans qo14.symm, trivial⟩, mid + mm - b, mid, s18, s19, by omega, by omega, by omega, by omega, by omega, .inl rfl, .inr (by omega), rfl⟩
    ·
     refine W.seq ?_
     refine W.region ?_
     refine WL.x (X.mv (s1)) rfl ?_
     refine WL.x (X.asg (lh)) rfl ?_
     refine WL.e7 Nx.thn 1 2 3 4 16 17 18 (jt2 rfl (s1)) (jt2 rfl (s2)) (jt2 rfl (s3)) (jt2 rfl (s4)) (jt2 rfl (s16)) (jt2 rfl (s17)) (lh) ?_
     intro σ36 s1 s2 s3 s4 s16 s17 s18
     refine W.region ?_
     refine WL.x (X.mv (s2)) rfl ?_
     refine WL.x (X.asg (lh)) rfl ?_
     refine WL.e8 Nx.thn 1 2 3 4 16 17 18 19 (jt2 rfl (s1)) (jt2 rfl (s2)) (jt2 rfl (s3)) (jt2 rfl (s4)) (jt2 rfl (s16)) (jt2 rfl (s17)) (jt2 rfl (s18)) (lh) ?_
     intro σ37 s1 s2 s3 s4 s16 s17 s18 s19
     refine ⟨⟨s1.trans qo9.symm, s2.trans qo10.symm, s3.trans qo11.symm, s4.trans qo12.symm, s16.trans qo13.symm, s17.trans qo14.symm, trivial⟩, a, mm, s18, s19, by omega, by omega, by omega, by omega, by omega, .inr rfl, .inl rfl, rfl⟩
   ·
    rintro σ38 w10 ⟨⟨f1, f2, f3, f4, f16, f17, _⟩, lo, hi, s18, s19, j1, j2, j3, j4, j5, j6, j7, rfl⟩
    have s1 := f1.trans qo9
    have s2 := f2.trans qo10
    have s3 := f3.trans qo11
    have s4 := f4.trans qo12
    have s16 := f16.trans qo13
    have s17 := f17.trans qo14
    refine W.seq ?_
    refine W.region ?_
    refine WL.x (X.mv (s17)) rfl ?_
    refine WL.x (X.subN (b := 1) (lh) lc (by omega) (by omega)) rfl ?_
    refine WL.x (X.asg (lh)) rfl ?_
    refine WL.e9 Nx.thn 1 2 3 4 16 17 18 19 20 (jt2 rfl (lt rfl (s1))) (jt2 rfl (lt rfl (s2))) (jt2 rfl (lt rfl (s3))) (jt2 rfl (lt rfl (s4))) (jt2 rfl (lt rfl (s16))) (jt2 rfl (lt rfl (s17))) (jt2 rfl (lt rfl (s18))) (jt2 rfl (lt rfl (s19))) (lh) ?_
    intro σ39 s1 s2 s3 s4 s16 s17 s18 s19 s20
    refine W.seq ?_
    refine W.block ?_
    have qo15 := s1
    have qo16 := s2
    have qo17 := s3
    have qo18 := s4
    have qo19 := s16
    have qo20 := s17
    have qo21 := s20
    -- loop 4: kept [1, 2, 3, 4, 16, 17, 20], varied [18, 19]
    refine W.loop (G := Nat × Nat) (fun (s, r) σ' w' => (σ' 1 = σ39 1 ∧ σ' 2 = σ39 2 ∧ σ' 3 = σ39 3 ∧ σ' 4 = σ39 4 ∧ σ' 16 = σ39 16 ∧ σ' 17 = σ39 17 ∧ σ' 20 = σ39 20 ∧ True) ∧ (σ' 18 = .int .i64 ((s : Nat) : Int) ∧ σ' 19 = .int .i64 ((r : Nat) : Int) ∧ lo ≤ s ∧ s ≤ r ∧ r ≤ hi ∧ (r < hi → bt c R (mid - 1 - r) = false ∧ bt c L (r - a) = true) ∧ (lo < s → bt c R (mid - s) = true ∨ bt c L (s - 1 - a) = false) ∧ S (p ++ L ++ R ++ q) w' ∧ (w').heap[w.heap.size]? = some (.cells #[.func (.func lf) #[] lb.toArray, .func (.func sf) #[] sb.toArray] 120 (0, 0)) ∧ Ch (fun j => j = blk) w w')) (fun (s, r) => r - s) ((lo, hi)) ⟨⟨rfl, rfl, rfl, rfl, rfl, rfl, rfl, trivial⟩, s18, s19, by omega, by omega, by omega, (fun h => absurd h (by omega)), (fun h => absurd h (by omega)), H.ch _ _ _ hS cu0_0, hu0_0, Ch.weak cu0_0⟩ ?_
    rintro ⟨s, r⟩ σ40 w11 ⟨⟨f1, f2, f3, f4, f16, f17, f20, _⟩, s18, s19, k1, k2, k3, hPr, hPs, hSi, hbx, hcl⟩
    have s1 := f1.trans qo15
    have s2 := f2.trans qo16
    have s3 := f3.trans qo17
    have s4 := f4.trans qo18
    have s16 := f16.trans qo19
    have s17 := f17.trans qo20
    have s20 := f20.trans qo21
    refine W.seq ?_
    refine W.seq ?_
    refine W.region ?_
    refine WL.x (X.mv (s18)) rfl ?_
    refine WL.x (X.mv (lt rfl (s19))) rfl ?_
    refine WL.x (X.lss (lt rfl (lh)) (lh)) rfl ?_
    refine WL.e10 Nx.thn 1 2 3 4 16 17 18 19 20 117 (jt2 rfl (lt rfl (s1))) (jt2 rfl (lt rfl (s2))) (jt2 rfl (lt rfl (s3))) (jt2 rfl (lt rfl (s4))) (jt2 rfl (lt rfl (s16))) (jt2 rfl (lt rfl (s17))) (jt2 rfl (lt rfl (s18))) (jt2 rfl (lt rfl (s19))) (jt2 rfl (lt rfl (s20))) (lh) ?_
    intro σ41 s1 s2 s3 s4 s16 s17 s18 s19 s20 s117
    refine W.cndp s117 (fun hlt2 => ?_) (fun hlt2 => ?_)
    ·
     refine W.skip Nx.thn ?_
     refine W.block ?_
     refine W.seq ?_
     refine W.region ?_
     refine WL.x (X.mv (s18)) rfl ?_
     refine WL.x (X.mv (lt rfl (s19))) rfl ?_
     refine WL.x (X.addN (lt rfl (lh)) (lh) (by omega)) rfl ?_
     refine WL.x (X.convi Tryd.underlying3 Tryd.underlying39 (lh) (wrap_u64_in (by omega) (by omega))) rfl ?_
     refine WL.x (X.shrN (lh)) rfl ?_
     refine WL.x (X.convi Tryd.underlying39 Tryd.underlying3 (lh) (wrap_i64 (by omega) (by omega))) rfl ?_
     refine WL.x (X.asg (lh)) rfl ?_
     refine WL.e10 Nx.thn 1 2 3 4 16 17 18 19 20 21 (jt4 rfl (jt2 rfl (lt rfl (s1)))) (jt4 rfl (jt2 rfl (lt rfl (s2)))) (jt4 rfl (jt2 rfl (lt rfl (s3)))) (jt4 rfl (jt2 rfl (lt rfl (s4)))) (jt4 rfl (jt2 rfl (lt rfl (s16)))) (jt4 rfl (jt2 rfl (lt rfl (s17)))) (jt4 rfl (jt2 rfl (lt rfl (s18)))) (jt4 rfl (jt2 rfl (lt rfl (s19)))) (jt4 rfl (jt2 rfl (lt rfl (s20)))) (lh) ?_
     intro σ42 s1 s2 s3 s4 s16 s17 s18 s19 s20 s21
     refine W.seq ?_
     refine W.region ?_
     refine WL.x (X.fieldAddr fd120_0 (s4)) rfl ?_
     refine WL.x (X.load pl87 (lh) (by assumption) (by rfl)) rfl ?_
     refine WL.x (X.mv (jt2 rfl (s20))) rfl ?_
     refine WL.x (X.mv (jt2 rfl (lt rfl (s21)))) rfl ?_
     refine WL.x (X.subN (lt rfl (lh)) (lh) (by omega) (by omega)) rfl ?_
     refine WL.x (X.mv (jt4 rfl (lt rfl (s21)))) rfl ?_
     have hhL : (s + r) / 2 - a < L.length := by omega
     have hhR : mid - 1 - (s + r) / 2 < R.length := by omega
     have hDl : (p ++ L ++ R ++ q).length = p.length + L.length + R.length + q.length := by simp only [List.length_append]
     have hd1 := snd_at (A := p) (B := L) (C := R) (D := q) (k := mid + mm - 1 - (s + r) / 2) hhR (by omega) (by omega)
     have hd2 := fst_at (A := p) (B := L) (C := R) (D := q) (k := (s + r) / 2) hhL (by omega) (by omega)
     refine WL.callv2 H.cal (jt4 rfl (lh)) (lt rfl (lh)) (lh) (H.less _ w11 (mid + mm - 1 - (s + r) / 2) ((s + r) / 2) (by omega) (by omega) hSi) rfl ?_
     rintro _ w12 ⟨rfl, cl⟩
     rw [hd1, hd2, ← bt_at (c := c) hhR, ← bt_at (c := c) hhL]
     obtain ⟨hSi, hbx, hcl⟩ := H.same hSi hbx hcl cl
     refine WL.x (X.not (lh)) rfl ?_
     refine WL.e11 Nx.thn 1 2 3 4 16 17 18 19 20 21 131 (jt8 rfl (s1)) (jt8 rfl (s2)) (jt8 rfl (s3)) (jt8 rfl (s4)) (jt8 rfl (s16)) (jt8 rfl (s17)) (jt8 rfl (s18)) (jt8 rfl (s19)) (jt8 rfl (s20)) (jt8 rfl (s21)) (lh) ?_
     intro σ43 s1 s2 s3 s4 s16 s17 s18 s19 s20 s21 s131
     refine W.cnd s131 (fun hnl => ?_) (fun hnl => ?_)
     ·
      refine W.region ?_
      refine WL.x (X.mv (s21)) rfl ?_
      refine WL.x (X.addN (b := 1) (lh) lc (by omega)) rfl ?_
      refine WL.x (X.asg (lh)) rfl ?_
      refine WL.e9 (Nx.blk Nx.thn) 1 2 3 4 16 17 18 19 20 (jt2 rfl (lt rfl (s1))) (jt2 rfl (lt rfl (s2))) (jt2 rfl (lt rfl (s3))) (jt2 rfl (lt rfl (s4))) (jt2 rfl (lt rfl (s16))) (jt2 rfl (lt rfl (s17))) (lh) (jt2 rfl (lt rfl (s19))) (jt2 rfl (lt rfl (s20))) ?_
      intro σ44 s1 s2 s3 s4 s16 s17 s18 s19 s20
      refine ⟨((s + r) / 2 + 1, r), by (try dsimp only); omega, ⟨s1.trans qo15.symm, s2.trans qo16.symm, s3.trans qo17.symm, s4.trans qo18.symm, s16.trans qo19.symm, s17.trans qo20.symm, s20.trans qo21.symm, trivial⟩, s18, s19, by omega, by omega, by omega, hPr, (fun _ => by rw [show mid - ((s + r) / 2 + 1) = mid - 1 - (s + r) / 2 by omega, Nat.add_sub_cancel]; revert hnl; cases bt c R (mid - 1 - (s + r) / 2) <;> cases bt c L ((s + r) / 2 - a) <;> simp), hSi, hbx, hcl⟩
     ·
      refine W.region ?_
      refine WL.x (X.mv (s21)) rfl ?_
      refine WL.x (X.asg (lh)) rfl ?_
      refine WL.e9 (Nx.blk Nx.thn) 1 2 3 4 16 17 18 19 20 (jt2 rfl (s1)) (jt2 rfl (s2)) (jt2 rfl (s3)) (jt2 rfl (s4)) (jt2 rfl (s16)) (jt2 rfl (s17)) (jt2 rfl (s18)) (lh) (jt2 rfl (s20)) ?_
      intro σ45 s1 s2 s3 s4 s16 s17 s18 s19 s20
      refine ⟨(s, (s + r) / 2), by (try dsimp only); omega, ⟨s1.trans qo15.symm, s2.trans qo16.symm, s3.trans qo17.symm, s4.trans qo18.symm, s16.trans qo19.symm, s17.trans qo20.symm, s20.trans qo21.symm, trivial⟩, s18, s19, by omega, by omega, by omega, (fun _ => by revert hnl; cases bt c R (mid - 1 - (s + r) / 2) <;> cases bt c L ((s + r) / 2 - a) <;> simp), hPs, hSi, hbx, hcl⟩
    ·
     have hsr : r = s := by omega
     subst hsr
     obtain ⟨L1, L2, hL12, hL1⟩ := cut_at (l := L) (b := r - a) (by omega)
     obtain ⟨R1, R2, hR12, hR1⟩ := cut_at (l := R) (b := mid - r) (by omega)
     have hLl : L.length = L1.length + L2.length := by rw [hL12, List.length_append]
     have hRl : R.length = R1.length + R2.length := by rw [hR12, List.length_append]
     have hsp := sym_split hL hR (u := r - a) (v := mid - r) (by omega) (by omega) (by by_cases e9 : r < hi; (· right; right; have h9 := hPr e9; rw [show mid - r - 1 = mid - 1 - r by omega]; exact h9); (· rcases j6 with j6 | j6; (· left; omega); (· right; left; omega)))
       (by by_cases e9 : lo < r; (· have h9 := hPs e9; rw [show r - a - 1 = r - 1 - a by omega]; exact .inr (.inr h9)); (· rcases j7 with j7 | j7; (· right; left; omega); (· left; omega)))
     rw [show L.take (r - a) = L1 by rw [hL12, List.take_left' hL1], show L.drop (r - a) = L2 by rw [hL12, List.drop_left' hL1], show R.take (mid - r) = R1 by rw [hR12, List.take_left' hR1], show R.drop (mid - r) = R2 by rw [hR12, List.drop_left' hR1]] at hsp
     obtain ⟨hsL1, hsL2, -⟩ := Srt.app (hL12 ▸ hL)
     obtain ⟨hsR1, hsR2, -⟩ := Srt.app (hR12 ▸ hR)
     have hSi : S (p ++ L1 ++ L2 ++ R1 ++ R2 ++ q) w11 := by have h9 := hSi; rw [hL12, hR12] at h9; simpa only [List.append_assoc] using h9
     refine W.exit (Nx.xthn (Nx.xthn (Nx.xblk Nx.thn))) ?_
     refine W.seq ?_
     refine W.region ?_
     refine WL.x (X.mv (s17)) rfl ?_
     refine WL.x (X.mv (lt rfl (s18))) rfl ?_
     refine WL.x (X.subN (lt rfl (lh)) (lh) (by omega) (by omega)) rfl ?_
     refine WL.x (X.asg (lh)) rfl ?_
     refine WL.e7 Nx.thn 1 2 3 4 16 18 22 (jt4 rfl (s1)) (jt4 rfl (s2)) (jt4 rfl (s3)) (jt4 rfl (s4)) (jt4 rfl (s16)) (jt4 rfl (s18)) (lh) ?_
     intro σ46 s1 s2 s3 s4 s16 s18 s22
     have qo22 := s1
     have qo23 := s3
     have qo24 := s4
     have qo25 := s16
     have qo26 := s18
     have qo27 := s22
     refine W.seqJ (fun σ' w' => (σ' 1 = σ46 1 ∧ σ' 3 = σ46 3 ∧ σ' 4 = σ46 4 ∧ σ' 16 = σ46 16 ∧ σ' 18 = σ46 18 ∧ σ' 22 = σ46 22 ∧ True) ∧ S (p ++ L1 ++ R1 ++ L2 ++ R2 ++ q) w' ∧ (w').heap[w.heap.size]? = some (.cells #[.func (.func lf) #[] lb.toArray, .func (.func sf) #[] sb.toArray] 120 (0, 0)) ∧ Ch (fun j => j = blk) w w') ?_ ?_
     ·
      refine W.seq ?_
      refine W.region ?_
      refine WL.x (X.mv (s18)) rfl ?_
      refine WL.x (X.mv (lt rfl (s2))) rfl ?_
      refine WL.x (X.lss (lt rfl (lh)) (lh)) rfl ?_
      refine WL.x (X.mv (lh)) rfl ?_
      refine WL.splitp (lh) (fun g1 => ?_) (fun g1 => ?_)
      ·
       refine WL.yes rfl rfl (lh) (decide_eq_true g1) ?_
       refine WL.x (X.mv (jt4 rfl (s2))) rfl ?_
       refine WL.yes rfl rfl (lt rfl (lh)) (decide_eq_true g1) ?_
       refine WL.x (X.mv (jt4 rfl (lt rfl (s22)))) rfl ?_
       refine WL.yes rfl rfl (jt2 rfl (lh)) (decide_eq_true g1) ?_
       refine WL.x (X.lss (lt rfl (lh)) (lh)) rfl ?_
       refine WL.x (X.pickT (jt2 rfl (lt rfl (lh))) (decide_eq_true g1) (lh)) rfl ?_
       refine WL.e8 Nx.thn 1 2 3 4 16 18 22 145 (jt8 rfl (s1)) (jt8 rfl (s2)) (jt8 rfl (s3)) (jt8 rfl (s4)) (jt8 rfl (s16)) (jt8 rfl (s18)) (jt8 rfl (s22)) (lh) ?_
       intro σ47 s1 s2 s3 s4 s16 s18 s22 s145
       refine W.cndp s145 (fun g2 => ?_) (fun g2 => ?_)
       ·
        refine W.region ?_
        refine WL.x (X.loadBox ag120 (s4) (by assumption) rfl) rfl ?_
        refine WL.x (X.mv (lt rfl (s18))) rfl ?_
        refine WL.x (X.mv (jt2 rfl (s2))) rfl ?_
        refine WL.x (X.mv (jt2 rfl (lt rfl (s22)))) rfl ?_
        refine WL.call4 ce88 (jt2 rfl (lt rfl (lh))) (jt2 rfl (lh)) (lt rfl (lh)) (lh) (rotate_ok H (p ++ L1) L2 R1 (R2 ++ q) w11 (by simpa only [List.append_assoc] using hSi) (by omega) (by omega) r mm (mid + mm - r) (by rw [List.length_append]; omega) (by rw [List.length_append]; omega) (by rw [List.length_append]; omega)) rfl ?_
        rintro _ w13 ⟨hs9, cw⟩
        obtain ⟨hbx, hcl⟩ := H.step hSi hlt hbx hcl cw
        refine WL.e6 Nx.thn 1 3 4 16 18 22 (jt4 rfl (lt rfl (s1))) (jt4 rfl (lt rfl (s3))) (jt4 rfl (lt rfl (s4))) (jt4 rfl (lt rfl (s16))) (jt4 rfl (lt rfl (s18))) (jt4 rfl (lt rfl (s22))) ?_
        intro σ48 s1 s3 s4 s16 s18 s22
        refine ⟨⟨s1.trans qo22.symm, s3.trans qo23.symm, s4.trans qo24.symm, s16.trans qo25.symm, s18.trans qo26.symm, s22.trans qo27.symm, trivial⟩, (by simpa only [List.append_assoc] using hs9), hbx, hcl⟩
       ·
        refine W.skip Nx.thn ?_
        refine ⟨⟨s1.trans qo22.symm, s3.trans qo23.symm, s4.trans qo24.symm, s16.trans qo25.symm, s18.trans qo26.symm, s22.trans qo27.symm, trivial⟩, (by obtain rfl : R1 = [] := List.eq_nil_of_length_eq_zero (by omega); simpa only [List.append_assoc, List.nil_append] using hSi), hbx, hcl⟩
      ·
       refine WL.no rfl rfl (lh) (decide_eq_false g1) rfl ?_
       refine WL.no rfl rfl (lt rfl (lh)) (decide_eq_false g1) rfl ?_
       refine WL.no rfl rfl (jt2 rfl (lh)) (decide_eq_false g1) rfl ?_
       refine WL.x (X.pickF (jt2 rfl (lt rfl (lh))) (decide_eq_false g1) lc) rfl ?_
       refine WL.e8 Nx.thn 1 2 3 4 16 18 22 145 (jt8 rfl (s1)) (jt8 rfl (s2)) (jt8 rfl (s3)) (jt8 rfl (s4)) (jt8 rfl (s16)) (jt8 rfl (s18)) (jt8 rfl (s22)) (lh) ?_
       intro σ49 s1 s2 s3 s4 s16 s18 s22 s145
       refine W.cndF s145 ?_
       refine W.skip Nx.thn ?_
       refine ⟨⟨s1.trans qo22.symm, s3.trans qo23.symm, s4.trans qo24.symm, s16.trans qo25.symm, s18.trans qo26.symm, s22.trans qo27.symm, trivial⟩, (by obtain rfl : L2 = [] := List.eq_nil_of_length_eq_zero (by omega); simpa only [List.append_assoc, List.nil_append] using hSi), hbx, hcl⟩
     ·
      rintro σ50 w14 ⟨⟨f1, f3, f4, f16, f18, f22, _⟩, hSi, hbx, hcl⟩
      have s1 := f1.trans qo22
      have s3 := f3.trans qo23
      have s4 := f4.trans qo24
      have s16 := f16.trans qo25
      have s18 := f18.trans qo26
      have s22 := f22.trans qo27
      have qo28 := s3
      have qo29 := s4
      have qo30 := s16
      have qo31 := s22
      refine W.seqJ (fun σ' w' => (σ' 3 = σ50 3 ∧ σ' 4 = σ50 4 ∧ σ' 16 = σ50 16 ∧ σ' 22 = σ50 22 ∧ True) ∧ S (p ++ mg c L1 R1 ++ L2 ++ R2 ++ q) w' ∧ (w').heap[w.heap.size]? = some (.cells #[.func (.func lf) #[] lb.toArray, .func (.func sf) #[] sb.toArray] 120 (0, 0)) ∧ Ch (fun j => j = blk) w w') ?_ ?_
      ·
       refine W.seq ?_
       refine W.region ?_
       refine WL.x (X.mv (s1)) rfl ?_
       refine WL.x (X.mv (lt rfl (s18))) rfl ?_
       refine WL.x (X.lss (lt rfl (lh)) (lh)) rfl ?_
       refine WL.x (X.mv (lh)) rfl ?_
       refine WL.splitp (lh) (fun g1 => ?_) (fun g1 => ?_)
       ·
        refine WL.yes rfl rfl (lh) (decide_eq_true g1) ?_
        refine WL.x (X.mv (jt4 rfl (s18))) rfl ?_
        refine WL.yes rfl rfl (lt rfl (lh)) (decide_eq_true g1) ?_
        refine WL.x (X.mv (jt4 rfl (lt rfl (s16)))) rfl ?_
        refine WL.yes rfl rfl (jt2 rfl (lh)) (decide_eq_true g1) ?_
        refine WL.x (X.lss (lt rfl (lh)) (lh)) rfl ?_
        refine WL.x (X.pickT (jt2 rfl (lt rfl (lh))) (decide_eq_true g1) (lh)) rfl ?_
        refine WL.e7 Nx.thn 1 3 4 16 18 22 158 (jt8 rfl (s1)) (jt8 rfl (s3)) (jt8 rfl (s4)) (jt8 rfl (s16)) (jt8 rfl (s18)) (jt8 rfl (s22)) (lh) ?_
        intro σ51 s1 s3 s4 s16 s18 s22 s158
        refine W.cndp s158 (fun g2 => ?_) (fun g2 => ?_)
        ·
         refine W.region ?_
         refine WL.x (X.loadBox ag120 (s4) (by assumption) rfl) rfl ?_
         refine WL.x (X.mv (lt rfl (s1))) rfl ?_
         refine WL.x (X.mv (jt2 rfl (s18))) rfl ?_
         refine WL.x (X.mv (jt2 rfl (lt rfl (s16)))) rfl ?_
         refine WL.call4 ce86 (jt2 rfl (lt rfl (lh))) (jt2 rfl (lh)) (lt rfl (lh)) (lh) (ih p L1 R1 (L2 ++ R2 ++ q) w14 (by omega) (by simpa only [List.append_assoc] using hSi) (by omega) (by omega) hsL1 hsR1 a r mid ha (by omega) (by omega)) rfl ?_
         rintro _ w15 ⟨hs9, cw⟩
         obtain ⟨hbx, hcl⟩ := H.step hSi hlt hbx hcl cw
         refine WL.e4 Nx.thn 3 4 16 22 (jt4 rfl (lt rfl (s3))) (jt4 rfl (lt rfl (s4))) (jt4 rfl (lt rfl (s16))) (jt4 rfl (lt rfl (s22))) ?_
         intro σ52 s3 s4 s16 s22
         refine ⟨⟨s3.trans qo28.symm, s4.trans qo29.symm, s16.trans qo30.symm, s22.trans qo31.symm, trivial⟩, (by simpa only [List.append_assoc] using hs9), hbx, hcl⟩
        ·
         refine W.skip Nx.thn ?_
         refine ⟨⟨s3.trans qo28.symm, s4.trans qo29.symm, s16.trans qo30.symm, s22.trans qo31.symm, trivial⟩, (by obtain rfl : R1 = [] := List.eq_nil_of_length_eq_zero (by omega); rw [mg_nil_r hsL1]; simpa only [List.append_assoc, List.nil_append] using hSi), hbx, hcl⟩
       ·
        refine WL.no rfl rfl (lh) (decide_eq_false g1) rfl ?_
        refine WL.no rfl rfl (lt rfl (lh)) (decide_eq_false g1) rfl ?_
        refine WL.no rfl rfl (jt2 rfl (lh)) (decide_eq_false g1) rfl ?_
        refine WL.x (X.pickF (jt2 rfl (lt rfl (lh))) (decide_eq_false g1) lc) rfl ?_
        refine WL.e7 Nx.thn 1 3 4 16 18 22 158 (jt8 rfl (s1)) (jt8 rfl (s3)) (jt8 rfl (s4)) (jt8 rfl (s16)) (jt8 rfl (s18)) (jt8 rfl (s22)) (lh) ?_
        intro σ53 s1 s3 s4 s16 s18 s22 s158
        refine W.cndF s158 ?_
        refine W.skip Nx.thn ?_
        refine ⟨⟨s3.trans qo28.symm, s4.trans qo29.symm, s16.trans qo30.symm, s22.trans qo31.symm, trivial⟩, (by obtain rfl : L1 = [] := List.eq_nil_of_length_eq_zero (by omega); rw [mg_nil_l hsR1]; simpa only [List.append_assoc, List.nil_append] using hSi), hbx, hcl⟩
      ·
       rintro σ54 w16 ⟨⟨f3, f4, f16, f22, _⟩, hSi, hbx, hcl⟩
       have s3 := f3.trans qo28
       have s4 := f4.trans qo29
       have s16 := f16.trans qo30
       have s22 := f22.trans qo31
       refine W.seq ?_
       refine W.region ?_
       refine WL.x (X.mv (s16)) rfl ?_
       refine WL.x (X.mv (lt rfl (s22))) rfl ?_
       refine WL.x (X.lss (lt rfl (lh)) (lh)) rfl ?_
       refine WL.x (X.mv (lh)) rfl ?_
       refine WL.splitp (lh) (fun g1 => ?_) (fun g1 => ?_)
       ·
        refine WL.yes rfl rfl (lh) (decide_eq_true g1) ?_
        refine WL.x (X.mv (jt4 rfl (s22))) rfl ?_
        refine WL.yes rfl rfl (lt rfl (lh)) (decide_eq_true g1) ?_
        refine WL.x (X.mv (jt4 rfl (lt rfl (s3)))) rfl ?_
        refine WL.yes rfl rfl (jt2 rfl (lh)) (decide_eq_true g1) ?_
        refine WL.x (X.lss (lt rfl (lh)) (lh)) rfl ?_
        refine WL.x (X.pickT (jt2 rfl (lt rfl (lh))) (decide_eq_true g1) (lh)) rfl ?_
        refine WL.e5 Nx.thn 3 4 16 22 171 (jt8 rfl (s3)) (jt8 rfl (s4)) (jt8 rfl (s16)) (jt8 rfl (s22)) (lh) ?_
        intro σ55 s3 s4 s16 s22 s171
        refine W.cndp s171 (fun g2 => ?_) (fun g2 => ?_)
        ·
         refine W.region ?_
         refine WL.x (X.loadBox ag120 (s4) (by assumption) rfl) rfl ?_
         refine WL.x (X.mv (lt rfl (s16))) rfl ?_
         refine WL.x (X.mv (jt2 rfl (s22))) rfl ?_
         refine WL.x (X.mv (jt2 rfl (lt rfl (s3)))) rfl ?_
         refine WL.call4 ce86 (jt2 rfl (lt rfl (lh))) (jt2 rfl (lh)) (lt rfl (lh)) (lh) (ih (p ++ mg c L1 R1) L2 R2 q w16 (by omega) hSi (by omega) (by omega) hsL2 hsR2 mid (mid + mm - r) b (by rw [List.length_append, mg_len]; omega) (by rw [List.length_append, mg_len]; omega) (by rw [List.length_append, mg_len]; omega)) rfl ?_
         rintro _ w17 ⟨hs9, cw⟩
         obtain ⟨hbx, hcl⟩ := H.step hSi hlt hbx hcl cw
         refine WL.e0 Nx.n0  ?_
         intro σ56 
         refine ⟨?_, hcl⟩
         rw [hsp]
         simpa only [List.append_assoc] using hs9
        ·
         refine W.skip Nx.n0 ?_
         obtain rfl : R2 = [] := List.eq_nil_of_length_eq_zero (by omega)
         refine ⟨?_, hcl⟩
         rw [hsp, mg_nil_r hsL2]
         simpa only [List.append_assoc, List.nil_append] using hSi
       ·
        refine WL.no rfl rfl (lh) (decide_eq_false g1) rfl ?_
        refine WL.no rfl rfl (lt rfl (lh)) (decide_eq_false g1) rfl ?_
        refine WL.no rfl rfl (jt2 rfl (lh)) (decide_eq_false g1) rfl ?_
        refine WL.x (X.pickF (jt2 rfl (lt rfl (lh))) (decide_eq_false g1) lc) rfl ?_
        refine WL.e5 Nx.thn 3 4 16 22 171 (jt8 rfl (s3)) (jt8 rfl (s4)) (jt8 rfl (s16)) (jt8 rfl (s22)) (lh) ?_
        intro σ57 s3 s4 s16 s22 s171
        refine W.cndF s171 ?_
        refine W.skip Nx.n0 ?_
        obtain rfl : L2 = [] := List.eq_nil_of_length_eq_zero (by omega)
        refine ⟨?_, hcl⟩
        rw [hsp, mg_nil_l hsR2]
        simpa only [List.append_assoc, List.nil_append] using hSi
theorem sym_ok {α : Type} {c : α → Bool} {m blk lf sf : Nat} {lb sb : List Value} {S : List α → World → Prop} (H : Srts Tryd.prog c m blk lf lb sf sb S) : ∀ (Nn : Nat) (p L R q : List α) (w : World), L.length + R.length = Nn → S (p ++ L ++ R ++ q) w → 0 < L.length → 0 < R.length → Srt c L → Srt c R → ∀ a mm b : Nat, a = p.length → mm = p.length + L.length → b = p.length + L.length + R.length → Sg.Ret Tryd.prog 86 #[.agg #[.func (.func lf) #[] lb.toArray, .func (.func sf) #[] sb.toArray], .int .i64 ((a : Nat) : Int), .int .i64 ((mm : Nat) : Int), .int .i64 ((b : Nat) : Int)] w fun v w' => S (p ++ mg c L R ++ q) w' ∧ Ch (fun k => k = blk) w w' := by
  intro Nn
  induction Nn using Nat.strongRecOn with
  | _ Nn ih => exact fun p L R q w hN => sym_step H Nn (fun p L R q w hlt hS => ih _ hlt p L R q w rfl hS) p L R q w hN

end Go.Proofs.YtnfkblboimkcjaaDoor
end

section
set_option linter.unusedVariables false
set_option linter.unusedSimpArgs false
set_option maxRecDepth 100000
namespace Go.Proofs.YtnfkblboimkcjaaDoor
open Go Go.RowKit Sg
set_option maxHeartbeats 800000 in
theorem stable_ok {α : Type} {c : α → Bool} {m blk lf sf : Nat} {lb sb : List Value} {S : List α → World → Prop} (H : Srts Tryd.prog c m blk lf lb sf sb S) (U : List α) (w : World) (hS : S U w) (n : Nat) (hn : n = U.length) :
  Sg.Ret Tryd.prog 68 #[.agg #[.func (.func lf) #[] lb.toArray, .func (.func sf) #[] sb.toArray], .int .i64 ((n : Nat) : Int)] w fun v w' => v = .tuple #[] ∧ S (stb c U) w' ∧ Ch (fun k => k = blk) w w' := by
 have hlt := H.lt _ _ hS
 have hsm := H.small
 have hm := H.len _ _ hS
 try simp only [List.length_append] at hm
 refine enter0 (n := 57) (l := [.agg #[.func (.func lf) #[] lb.toArray, .func (.func sf) #[] sb.toArray], .int .i64 ((n : Nat) : Int)]) Tryd.func68 rfl rfl rfl rfl ?_
 refine W.g2 0 1 (v1 := .agg #[.func (.func lf) #[] lb.toArray, .func (.func sf) #[] sb.toArray]) (v2 := .int .i64 ((n : Nat) : Int)) rfl rfl ?_; intro σ s0 s1
 refine W.seq ?_
 refine W.region ?_
 refine WL.box (s0) rfl ?_
 intro w1 u0_0; have hu0_0 := u0_0.at_; have cu0_0 := u0_0.ch; have zu0_0 := u0_0.size
 refine WL.e2 Nx.thn 1 2 (lt rfl (s1)) (lh) ?_
 intro σ1 s1 s2
 refine W.seq ?_
 refine W.region ?_
 refine WL.x (X.asg lc) rfl ?_
 refine WL.e3 Nx.thn 1 2 4 (lt rfl (s1)) (lt rfl (s2)) (lh) ?_
 intro σ2 s1 s2 s4
 refine W.seq ?_
 refine W.region ?_
 refine WL.x (X.mv (s4)) rfl ?_
 refine WL.x (X.asg lc) rfl ?_
 refine WL.x (X.asg (lt rfl (lh))) rfl ?_
 refine WL.e5 Nx.thn 1 2 4 5 6 (jt2 rfl (lt rfl (s1))) (jt2 rfl (lt rfl (s2))) (jt2 rfl (lt rfl (s4))) (lt rfl (lh)) (lh) ?_
 intro σ3 s1 s2 s4 s5 s6
 refine W.seq ?_
 refine W.block ?_
 have qo1 := s1
 have qo2 := s2
 have qo3 := s4
 -- loop 0: kept [1, 2, 4], varied [5, 6]
 refine W.loop (G := List α × List α) (fun (A1, B1) σ' w' => (σ' 1 = σ3 1 ∧ σ' 2 = σ3 2 ∧ σ' 4 = σ3 4 ∧ True) ∧ (σ' 5 = .int .i64 ((A1.length : Nat) : Int) ∧ σ' 6 = .int .i64 ((A1.length + 20 : Nat) : Int) ∧ A1 ++ chk c 20 B1 = chk c 20 U ∧ A1.length + B1.length = U.length ∧ S (A1 ++ B1) w' ∧ (w').heap[w.heap.size]? = some (.cells #[.func (.func lf) #[] lb.toArray, .func (.func sf) #[] sb.toArray] 120 (0, 0)) ∧ Ch (fun j => j = blk) w w')) (fun (A1, B1) => B1.length) (([], U)) ⟨⟨rfl, rfl, rfl, trivial⟩, s5, s6, List.nil_append _, by simp, H.ch _ _ _ hS cu0_0, hu0_0, Ch.weak cu0_0⟩ ?_
 rintro ⟨A1, B1⟩ σ4 w2 ⟨⟨f1, f2, f4, _⟩, s5, s6, heq, hlen, hSi, hbx, hcl⟩
 have s1 := f1.trans qo1
 have s2 := f2.trans qo2
 have s4 := f4.trans qo3
 refine W.seq ?_
 refine W.seq ?_
 refine W.region ?_
 refine WL.x (X.mv (s6)) rfl ?_
 refine WL.x (X.mv (lt rfl (s1))) rfl ?_
 refine WL.x (X.leq (lt rfl (lh)) (lh)) rfl ?_
 refine WL.e6 Nx.thn 1 2 4 5 6 11 (jt2 rfl (lt rfl (s1))) (jt2 rfl (lt rfl (s2))) (jt2 rfl (lt rfl (s4))) (jt2 rfl (lt rfl (s5))) (jt2 rfl (lt rfl (s6))) (lh) ?_
 intro σ5 s1 s2 s4 s5 s6 s11
 refine W.cndp s11 (fun hb1 => ?_) (fun hb1 => ?_)
 ·
  obtain ⟨C1, C2, hC12, hC1⟩ := cut_at (l := B1) (b := 20) (by omega)
  have hBl : B1.length = C1.length + C2.length := by rw [hC12, List.length_append]
  refine W.skip Nx.thn ?_
  refine W.block ?_
  refine W.seq ?_
  refine W.region ?_
  refine WL.x (X.loadBox ag120 (s2) (by assumption) rfl) rfl ?_
  refine WL.x (X.mv (lt rfl (s5))) rfl ?_
  refine WL.x (X.mv (jt2 rfl (s6))) rfl ?_
  refine WL.call3 ce85 (jt2 rfl (lh)) (lt rfl (lh)) (lh) (insert_ok H A1 C1 C2 w2 (by have h9 := hSi; rw [hC12] at h9; simpa only [List.append_assoc] using h9) _ _ rfl (by omega)) rfl ?_
  rintro _ w3 ⟨hs9, cw⟩
  obtain ⟨hbx, hcl⟩ := H.step hSi hlt hbx hcl cw
  refine WL.e4 Nx.thn 1 2 4 6 (jt4 rfl (s1)) (jt4 rfl (s2)) (jt4 rfl (s4)) (jt4 rfl (s6)) ?_
  intro σ6 s1 s2 s4 s6
  refine W.seq ?_
  refine W.region ?_
  refine WL.x (X.mv (s6)) rfl ?_
  refine WL.x (X.asg (lh)) rfl ?_
  refine WL.e5 Nx.thn 1 2 4 5 6 (jt2 rfl (s1)) (jt2 rfl (s2)) (jt2 rfl (s4)) (lh) (jt2 rfl (s6)) ?_
  intro σ7 s1 s2 s4 s5 s6
  refine W.region ?_
  refine WL.x (X.mv (s6)) rfl ?_
  refine WL.x (X.mv (lt rfl (s4))) rfl ?_
  refine WL.x (X.add (lt rfl (lh)) (lh) (by omega) (by omega)) rfl ?_
  refine WL.x (X.asg (lh)) rfl ?_
  refine WL.e5 (Nx.blk Nx.thn) 1 2 4 5 6 (jt4 rfl (s1)) (jt4 rfl (s2)) (jt4 rfl (s4)) (jt4 rfl (s5)) (lh) ?_
  intro σ8 s1 s2 s4 s5 s6
  refine ⟨(A1 ++ stb c C1, C2), by (try dsimp only); omega, ⟨s1.trans qo1.symm, s2.trans qo2.symm, s4.trans qo3.symm, trivial⟩, s5.trans (by rw [List.length_append, stb_len, hC1]), s6.trans (by rw [List.length_append, stb_len, hC1]; rfl), (by rw [List.append_assoc, ← chk_cut hC1 (by omega), ← hC12]; exact heq), (by rw [List.length_append, stb_len]; omega), hs9, hbx, hcl⟩
 ·
  refine W.exit (Nx.xthn (Nx.xthn (Nx.xblk Nx.thn))) ?_
  refine W.seq ?_
  refine W.region ?_
  refine WL.x (X.loadBox ag120 (s2) (by assumption) rfl) rfl ?_
  refine WL.x (X.mv (lt rfl (s5))) rfl ?_
  refine WL.x (X.mv (jt2 rfl (s1))) rfl ?_
  refine WL.call3 ce85 (jt2 rfl (lh)) (lt rfl (lh)) (lh) (insert_ok H A1 B1 [] w2 (by rw [List.append_nil]; exact hSi) _ _ rfl (by omega)) rfl ?_
  rintro _ w4 ⟨hs9, cw⟩
  obtain ⟨hbx, hcl⟩ := H.step hSi hlt hbx hcl cw
  have hSc : S (chk c 20 U) w4 := by rw [← heq, chk_small (l := B1) (by omega)]; simpa only [List.append_nil] using hs9
  refine WL.e3 Nx.thn 1 2 4 (jt4 rfl (s1)) (jt4 rfl (s2)) (jt4 rfl (s4)) ?_
  intro σ9 s1 s2 s4
  refine W.block ?_
  have qo4 := s1
  have qo5 := s2
  -- loop 1: kept [1, 2], varied [4]
  refine W.loop (G := Nat) (fun bs σ' w' => (σ' 1 = σ9 1 ∧ σ' 2 = σ9 2 ∧ True) ∧ (σ' 4 = .int .i64 ((bs : Nat) : Int) ∧ 20 ≤ bs ∧ bs ≤ 2000000000 ∧ S (chk c bs U) w' ∧ (w').heap[w.heap.size]? = some (.cells #[.func (.func lf) #[] lb.toArray, .func (.func sf) #[] sb.toArray] 120 (0, 0)) ∧ Ch (fun j => j = blk) w w')) (fun bs => U.length - bs) (20) ⟨⟨rfl, rfl, trivial⟩, s4, by omega, by omega, hSc, hbx, hcl⟩ ?_
  rintro bs σ10 w5 ⟨⟨f1, f2, _⟩, s4, hbs1, hbs2, hSc0, hbx, hcl⟩
  have s1 := f1.trans qo4
  have s2 := f2.trans qo5
  refine W.seq ?_
  refine W.seq ?_
  refine W.region ?_
  refine WL.x (X.mv (s4)) rfl ?_
  refine WL.x (X.mv (lt rfl (s1))) rfl ?_
  refine WL.x (X.lss (lt rfl (lh)) (lh)) rfl ?_
  refine WL.e4 Nx.thn 1 2 4 26 (jt2 rfl (lt rfl (s1))) (jt2 rfl (lt rfl (s2))) (jt2 rfl (lt rfl (s4))) (lh) ?_
  intro σ11 s1 s2 s4 s26
  refine W.cndp s26 (fun hb2 => ?_) (fun hb2 => ?_)
  ·
   refine W.skip Nx.thn ?_
   refine W.block ?_
   refine W.seq ?_
   refine W.region ?_
   refine WL.x (X.mv (s4)) rfl ?_
   refine WL.x (X.mulN (a := 2) lc (lh) (by omega)) rfl ?_
   refine WL.x (X.asg lc) rfl ?_
   refine WL.x (X.asg (lt rfl (lh))) rfl ?_
   refine WL.e5 Nx.thn 1 2 4 5 6 (jt4 rfl (s1)) (jt4 rfl (s2)) (jt4 rfl (s4)) (lt rfl (lh)) (lh) ?_
   intro σ12 s1 s2 s4 s5 s6
   refine W.seq ?_
   refine W.block ?_
   have qo6 := s1
   have qo7 := s2
   have qo8 := s4
   -- loop 2: kept [1, 2, 4], varied [5, 6]
   refine W.loop (G := List α × List α) (fun (A1, B1) σ' w' => (σ' 1 = σ12 1 ∧ σ' 2 = σ12 2 ∧ σ' 4 = σ12 4 ∧ True) ∧ (σ' 5 = .int .i64 ((A1.length : Nat) : Int) ∧ σ' 6 = .int .i64 ((A1.length + 2 * bs : Nat) : Int) ∧ A1 ++ chk c (2 * bs) B1 = chk c (2 * bs) U ∧ A1.length + B1.length = U.length ∧ S (A1 ++ chk c bs B1) w' ∧ (w').heap[w.heap.size]? = some (.cells #[.func (.func lf) #[] lb.toArray, .func (.func sf) #[] sb.toArray] 120 (0, 0)) ∧ Ch (fun j => j = blk) w w')) (fun (A1, B1) => B1.length) (([], U)) ⟨⟨rfl, rfl, rfl, trivial⟩, s5, s6.trans (by simp), List.nil_append _, by simp, hSc0, hbx, hcl⟩ ?_
   rintro ⟨A1, B1⟩ σ13 w6 ⟨⟨f1, f2, f4, _⟩, s5, s6, heq, hlen, hSi, hbx, hcl⟩
   have s1 := f1.trans qo6
   have s2 := f2.trans qo7
   have s4 := f4.trans qo8
   refine W.seq ?_
   refine W.seq ?_
   refine W.region ?_
   refine WL.x (X.mv (s6)) rfl ?_
   refine WL.x (X.mv (lt rfl (s1))) rfl ?_
   refine WL.x (X.leq (lt rfl (lh)) (lh)) rfl ?_
   refine WL.e6 Nx.thn 1 2 4 5 6 31 (jt2 rfl (lt rfl (s1))) (jt2 rfl (lt rfl (s2))) (jt2 rfl (lt rfl (s4))) (jt2 rfl (lt rfl (s5))) (jt2 rfl (lt rfl (s6))) (lh) ?_
   intro σ14 s1 s2 s4 s5 s6 s31
   refine W.cndp s31 (fun hb3 => ?_) (fun hb3 => ?_)
   ·
    obtain ⟨C, C3, hC3, hCl⟩ := cut_at (l := B1) (b := 2 * bs) (by omega)
    obtain ⟨C1, C2, hC12, hC1⟩ := cut_at (l := C) (b := bs) (by omega)
    have hBl : B1.length = C.length + C3.length := by rw [hC3, List.length_append]
    have hC2 : C2.length = bs := by have h9 := hCl; rw [hC12, List.length_append] at h9; omega
    have hSj : S (A1 ++ stb c C1 ++ stb c C2 ++ chk c bs C3) w6 := by
      have h9 := hSi
      rw [hC3, hC12, List.append_assoc, chk_cut hC1 (by omega), chk_cut hC2 (by omega)] at h9
      simpa only [List.append_assoc] using h9
    refine W.skip Nx.thn ?_
    refine W.block ?_
    refine W.seq ?_
    refine W.region ?_
    refine WL.x (X.loadBox ag120 (s2) (by assumption) rfl) rfl ?_
    refine WL.x (X.mv (lt rfl (s5))) rfl ?_
    refine WL.x (X.mv (jt2 rfl (s5))) rfl ?_
    refine WL.x (X.mv (jt2 rfl (lt rfl (s4)))) rfl ?_
    refine WL.x (X.addN (lt rfl (lh)) (lh) (by omega)) rfl ?_
    refine WL.x (X.mv (jt4 rfl (lt rfl (s6)))) rfl ?_
    refine WL.call4 ce86 (jt4 rfl (lt rfl (lh))) (jt4 rfl (lh)) (lt rfl (lh)) (lh) (sym_ok H _ A1 (stb c C1) (stb c C2) (chk c bs C3) w6 rfl hSj (by rw [stb_len]; omega) (by rw [stb_len]; omega) (srt_stb _) (srt_stb _) _ _ _ rfl (by rw [stb_len]; omega) (by rw [stb_len, stb_len]; omega)) rfl ?_
    rintro _ w7 ⟨hs9, cw⟩
    obtain ⟨hbx, hcl⟩ := H.step hSi hlt hbx hcl cw
    rw [mg_stb, ← hC12] at hs9
    refine WL.e4 Nx.thn 1 2 4 6 (jt4 rfl (jt2 rfl (lt rfl (s1)))) (jt4 rfl (jt2 rfl (lt rfl (s2)))) (jt4 rfl (jt2 rfl (lt rfl (s4)))) (jt4 rfl (jt2 rfl (lt rfl (s6)))) ?_
    intro σ15 s1 s2 s4 s6
    refine W.seq ?_
    refine W.region ?_
    refine WL.x (X.mv (s6)) rfl ?_
    refine WL.x (X.asg (lh)) rfl ?_
    refine WL.e5 Nx.thn 1 2 4 5 6 (jt2 rfl (s1)) (jt2 rfl (s2)) (jt2 rfl (s4)) (lh) (jt2 rfl (s6)) ?_
    intro σ16 s1 s2 s4 s5 s6
    refine W.region ?_
    refine WL.x (X.mv (s6)) rfl ?_
    refine WL.x (X.mv (lt rfl (s4))) rfl ?_
    refine WL.x (X.mulN (a := 2) lc (lh) (by omega)) rfl ?_
    refine WL.x (X.addN (jt2 rfl (lh)) (lh) (by omega)) rfl ?_
    refine WL.x (X.asg (lh)) rfl ?_
    refine WL.e5 (Nx.blk Nx.thn) 1 2 4 5 6 (jt4 rfl (lt rfl (s1))) (jt4 rfl (lt rfl (s2))) (jt4 rfl (lt rfl (s4))) (jt4 rfl (lt rfl (s5))) (lh) ?_
    intro σ17 s1 s2 s4 s5 s6
    refine ⟨(A1 ++ stb c C, C3), by (try dsimp only); omega, ⟨s1.trans qo6.symm, s2.trans qo7.symm, s4.trans qo8.symm, trivial⟩, s5.trans (by rw [List.length_append, stb_len, hCl]), s6.trans (by rw [List.length_append, stb_len, hCl]), (by rw [List.append_assoc, ← chk_cut hCl (by omega), ← hC3]; exact heq), (by rw [List.length_append, stb_len]; omega), hs9, hbx, hcl⟩
   ·
    refine W.exit (Nx.xthn (Nx.xthn (Nx.xblk Nx.thn))) ?_
    refine W.seq ?_
    refine W.seq ?_
    refine W.region ?_
    refine WL.x (X.mv (s5)) rfl ?_
    refine WL.x (X.mv (lt rfl (s4))) rfl ?_
    refine WL.x (X.addN (lt rfl (lh)) (lh) (by omega)) rfl ?_
    refine WL.x (X.asg (lh)) rfl ?_
    refine WL.e5 Nx.thn 1 2 4 5 7 (jt4 rfl (s1)) (jt4 rfl (s2)) (jt4 rfl (s4)) (jt4 rfl (s5)) (lh) ?_
    intro σ18 s1 s2 s4 s5 s7
    refine W.seq ?_
    refine W.region ?_
    refine WL.x (X.mv (s7)) rfl ?_
    refine WL.x (X.mv (lt rfl (s1))) rfl ?_
    refine WL.x (X.lss (lt rfl (lh)) (lh)) rfl ?_
    refine WL.e6 Nx.thn 1 2 4 5 7 49 (jt2 rfl (lt rfl (s1))) (jt2 rfl (lt rfl (s2))) (jt2 rfl (lt rfl (s4))) (jt2 rfl (lt rfl (s5))) (jt2 rfl (lt rfl (s7))) (lh) ?_
    intro σ19 s1 s2 s4 s5 s7 s49
    refine W.cndp s49 (fun hb4 => ?_) (fun hb4 => ?_)
    ·
     obtain ⟨C1, C2, hC12, hC1⟩ := cut_at (l := B1) (b := bs) (by omega)
     have hBl : B1.length = C1.length + C2.length := by rw [hC12, List.length_append]
     have hSj : S (A1 ++ stb c C1 ++ stb c C2 ++ []) w6 := by
       have h9 := hSi
       rw [hC12, chk_cut hC1 (by omega), chk_small (l := C2) (by omega)] at h9
       simpa only [List.append_assoc, List.append_nil] using h9
     refine W.region ?_
     refine WL.x (X.loadBox ag120 (s2) (by assumption) rfl) rfl ?_
     refine WL.x (X.mv (lt rfl (s5))) rfl ?_
     refine WL.x (X.mv (jt2 rfl (s7))) rfl ?_
     refine WL.x (X.mv (jt2 rfl (lt rfl (s1)))) rfl ?_
     refine WL.call4 ce86 (jt2 rfl (lt rfl (lh))) (jt2 rfl (lh)) (lt rfl (lh)) (lh) (sym_ok H _ A1 (stb c C1) (stb c C2) [] w6 rfl hSj (by rw [stb_len]; omega) (by rw [stb_len]; omega) (srt_stb _) (srt_stb _) _ _ _ rfl (by rw [stb_len]; omega) (by rw [stb_len, stb_len]; omega)) rfl ?_
     rintro _ w8 ⟨hs9, cw⟩
     obtain ⟨hbx, hcl⟩ := H.step hSi hlt hbx hcl cw
     rw [mg_stb, ← hC12, List.append_nil] at hs9
     have hSc : S (chk c (2 * bs) U) w8 := by rw [← heq, chk_small (l := B1) (by omega)]; exact hs9
     refine WL.e3 Nx.thn 1 2 4 (jt4 rfl (lt rfl (s1))) (jt4 rfl (lt rfl (s2))) (jt4 rfl (lt rfl (s4))) ?_
     intro σ20 s1 s2 s4
     refine W.region ?_
     refine WL.x (X.mv (s4)) rfl ?_
     refine WL.x (X.mulN (b := 2) (lh) lc (by omega)) rfl ?_
     refine WL.x (X.asg (lh)) rfl ?_
     refine WL.e3 (Nx.blk Nx.thn) 1 2 4 (jt2 rfl (lt rfl (s1))) (jt2 rfl (lt rfl (s2))) (lh) ?_
     intro σ21 s1 s2 s4
     refine ⟨bs * 2, by omega, ⟨s1.trans qo4.symm, s2.trans qo5.symm, trivial⟩, s4, by omega, by omega, (by rw [Nat.mul_comm]; exact hSc), hbx, hcl⟩
    ·
     have hSc : S (chk c (2 * bs) U) w6 := by
       have h9 := hSi
       rw [chk_small (by omega)] at h9
       rw [← heq, chk_small (l := B1) (by omega)]
       exact h9
     refine W.skip Nx.thn ?_
     refine W.region ?_
     refine WL.x (X.mv (s4)) rfl ?_
     refine WL.x (X.mulN (b := 2) (lh) lc (by omega)) rfl ?_
     refine WL.x (X.asg (lh)) rfl ?_
     refine WL.e3 (Nx.blk Nx.thn) 1 2 4 (jt2 rfl (lt rfl (s1))) (jt2 rfl (lt rfl (s2))) (lh) ?_
     intro σ22 s1 s2 s4
     refine ⟨bs * 2, by omega, ⟨s1.trans qo4.symm, s2.trans qo5.symm, trivial⟩, s4, by omega, by omega, (by rw [Nat.mul_comm]; exact hSc), hbx, hcl⟩
  ·
   refine W.exit (Nx.xthn (Nx.xthn (Nx.xblk Nx.n0))) ?_
   rw [chk_small (by omega)] at hSc0
   exact ⟨rfl, hSc0, hcl⟩
end Go.Proofs.YtnfkblboimkcjaaDoor
end

section
namespace Go.Proofs
open Go.Shelf
def Tryd.laysGt8_ren : Go.Shelf.Ren := ⟨fun | 8 => 49 | 13 => 66 | 14 => 67 | 16 => 69 | 15 => 68 | 29 => 85 | 30 => 86 | 42 => 88 | 49 => 89 | n => n, fun | 20 => 20 | 26 => 87 | 36 => 114 | 0 => 0 | 38 => 116 | 42 => 120 | 3 => 3 | 4 => 4 | 47 => 39 | 17 => 17 | 33 => 111 | 34 => 112 | 89 => 148 | 12 => 12 | 56 => 95 | 82 => 141 | 5 => 5 | 83 => 142 | 84 => 143 | 85 => 144 | 86 => 145 | 87 => 146 | n => n, fun | n => n⟩
theorem Tryd.laysGt8 : Go.Proofs.LaysGt.n8 Tryd.prog Tryd.laysGt8_ren := {
  mixed := by kernel_rfl
  f8 := Tryd.func49.trans (congrArg some (by kernel_rfl))
  f13 := Tryd.func66.trans (congrArg some (by kernel_rfl))
  f14 := Tryd.func67.trans (congrArg some (by kernel_rfl))
  f15 := Tryd.func68.trans (congrArg some (by kernel_rfl))
  f16 := Tryd.func69.trans (congrArg some (by kernel_rfl))
  f29 := Tryd.func85.trans (congrArg some (by kernel_rfl))
  f30 := Tryd.func86.trans (congrArg some (by kernel_rfl))
  f42 := Tryd.func88.trans (congrArg some (by kernel_rfl))
  f49 := Tryd.func89.trans (congrArg some (by kernel_rfl))
  t0 := Tryd.underlying0
  a0 := Tryd.isAgg0
  z0 := Tryd.sizeOf0
  v0 := Tryd.zeroValue0
  i0 := by kernel_rfl
  t3 := Tryd.underlying3
  a3 := Tryd.isAgg3
  z3 := Tryd.sizeOf3
  v3 := Tryd.zeroValue3
  i3 := by kernel_rfl
  t4 := Tryd.underlying4
  a4 := Tryd.isAgg4
  z4 := Tryd.sizeOf4
  v4 := Tryd.zeroValue4
  i4 := by kernel_rfl
  t5 := Tryd.underlying5
  a5 := Tryd.isAgg5
  z5 := Tryd.sizeOf5
  v5 := Tryd.zeroValue5
  i5 := by kernel_rfl
  t12 := Tryd.underlying12
  a12 := Tryd.isAgg12
  z12 := Tryd.sizeOf12
  v12 := Tryd.zeroValue12
  i12 := by kernel_rfl
  t17 := Tryd.underlying17
  a17 := Tryd.isAgg17
  z17 := Tryd.sizeOf17
  v17 := Tryd.zeroValue17
  i17 := by kernel_rfl
  t20 := Tryd.underlying20
  a20 := Tryd.isAgg20
  z20 := Tryd.sizeOf20
  v20 := Tryd.zeroValue20
  i20 := by kernel_rfl
  t26 := Tryd.underlying87
  a26 := Tryd.isAgg87
  z26 := Tryd.sizeOf87
  v26 := Tryd.zeroValue87
  i26 := by kernel_rfl
  t33 := Tryd.underlying111
  a33 := Tryd.isAgg111
  z33 := Tryd.sizeOf111
  v33 := Tryd.zeroValue111
  i33 := by kernel_rfl
  t34 := Tryd.underlying112
  a34 := Tryd.isAgg112
  z34 := Tryd.sizeOf112
  v34 := Tryd.zeroValue112
  i34 := by kernel_rfl
  t36 := Tryd.underlying114
  a36 := Tryd.isAgg114
  z36 := Tryd.sizeOf114
  v36 := Tryd.zeroValue114
  i36 := by kernel_rfl
  t38 := Tryd.underlying116
  a38 := Tryd.isAgg116
  z38 := Tryd.sizeOf116
  v38 := Tryd.zeroValue116
  i38 := by kernel_rfl
  t42 := Tryd.underlying120
  a42 := Tryd.isAgg120
  z42 := Tryd.sizeOf120
  v42 := Tryd.zeroValue120
  i42 := by kernel_rfl
  t47 := Tryd.underlying39
  a47 := Tryd.isAgg39
  z47 := Tryd.sizeOf39
  v47 := Tryd.zeroValue39
  i47 := by kernel_rfl
  t56 := Tryd.underlying95
  a56 := Tryd.isAgg95
  z56 := Tryd.sizeOf95
  v56 := Tryd.zeroValue95
  i56 := by kernel_rfl
  t82 := Tryd.underlying141
  a82 := Tryd.isAgg141
  z82 := Tryd.sizeOf141
  v82 := Tryd.zeroValue141
  i82 := by kernel_rfl
  t83 := Tryd.underlying142
  a83 := Tryd.isAgg142
  z83 := Tryd.sizeOf142
  v83 := Tryd.zeroValue142
  i83 := by kernel_rfl
  t84 := Tryd.underlying143
  a84 := Tryd.isAgg143
  z84 := Tryd.sizeOf143
  v84 := Tryd.zeroValue143
  i84 := by kernel_rfl
  t85 := Tryd.underlying144
  a85 := Tryd.isAgg144
  z85 := Tryd.sizeOf144
  v85 := Tryd.zeroValue144
  i85 := by kernel_rfl
  t86 := Tryd.underlying145
  a86 := Tryd.isAgg145
  z86 := Tryd.sizeOf145
  v86 := Tryd.zeroValue145
  i86 := by kernel_rfl
  t87 := Tryd.underlying146
  a87 := Tryd.isAgg146
  z87 := Tryd.sizeOf146
  v87 := Tryd.zeroValue146
  i87 := by kernel_rfl
  t89 := Tryd.underlying148
  a89 := Tryd.isAgg148
  z89 := Tryd.sizeOf148
  v89 := Tryd.zeroValue148
  i89 := by kernel_rfl }
end Go.Proofs
end

section
set_option linter.unusedVariables false
set_option linter.unusedSimpArgs false
set_option maxRecDepth 100000
namespace Go.Proofs.YtnfkblboimkcjaaDoor
open Go Go.RowKit Sg

instance wd6 : DecidableEq (Bool × Bool) := inferInstance
instance wd5 : DecidableEq (Int × Bool × Bool) := inferInstance
instance wd4 : DecidableEq (Int × Int × Bool × Bool) := inferInstance
instance wd3 : DecidableEq (ByteArray × Int × Int × Bool × Bool) := inferInstance
instance wd2 : DecidableEq (Int × ByteArray × Int × Int × Bool × Bool) := inferInstance
instance wd1 : DecidableEq (Int × Int × ByteArray × Int × Int × Bool × Bool) := inferInstance
instance wd0 : DecidableEq (Int × Int × Int × ByteArray × Int × Int × Bool × Bool) := inferInstance


abbrev Gwy := Int × Int × Int × ByteArray × Int × Int × Bool × Bool
def fwy (x : Gwy) : List Value := [.int .i64 (x.1), .int .i64 (x.2.1), .int .i64 (x.2.2.1), .string (x.2.2.2.1), .int .i64 (x.2.2.2.2.1), .int .i64 (x.2.2.2.2.2.1), .bool (x.2.2.2.2.2.2.1), .bool (x.2.2.2.2.2.2.2)]
theorem fwy_len : ∀ x, (fwy x).length = 8 := fun _ => rfl
theorem fwy_one : ∀ x, ∀ u ∈ fwy x, u.oneCell' = true := fun x u hu => by
  unfold fwy at hu
  simp only [List.mem_cons, List.not_mem_nil, or_false] at hu
  rcases hu with rfl | rfl | rfl | rfl | rfl | rfl | rfl | rfl <;> rfl
theorem cmp_wy (x y : Gwy) : ∃ fs, Tryd.prog.underlying 27 = some (.struct fs) ∧ CmpAll Tryd.prog #[.int .i64 (x.1), .int .i64 (x.2.1), .int .i64 (x.2.2.1), .string (x.2.2.2.1), .int .i64 (x.2.2.2.2.1), .int .i64 (x.2.2.2.2.2.1), .bool (x.2.2.2.2.2.2.1), .bool (x.2.2.2.2.2.2.2)] #[.int .i64 (y.1), .int .i64 (y.2.1), .int .i64 (y.2.2.1), .string (y.2.2.2.1), .int .i64 (y.2.2.2.2.1), .int .i64 (y.2.2.2.2.2.1), .bool (y.2.2.2.2.2.2.1), .bool (y.2.2.2.2.2.2.2)] fs.toList [decide (x.1 = y.1), decide (x.2.1 = y.2.1), decide (x.2.2.1 = y.2.2.1), decide (x.2.2.2.1 = y.2.2.2.1), decide (x.2.2.2.2.1 = y.2.2.2.2.1), decide (x.2.2.2.2.2.1 = y.2.2.2.2.2.1), decide (x.2.2.2.2.2.2.1 = y.2.2.2.2.2.2.1), decide (x.2.2.2.2.2.2.2 = y.2.2.2.2.2.2.2)] := ⟨_, Tryd.underlying27, ⟨by decide, ⟨_, _, rfl, rfl, .inl ⟨_, _, _, Tryd.underlying3, rfl, rfl, rfl⟩⟩, ⟨by decide, ⟨_, _, rfl, rfl, .inl ⟨_, _, _, Tryd.underlying3, rfl, rfl, rfl⟩⟩, ⟨by decide, ⟨_, _, rfl, rfl, .inl ⟨_, _, _, Tryd.underlying3, rfl, rfl, rfl⟩⟩, ⟨by decide, ⟨_, _, rfl, rfl, .inr (.inr ⟨_, _, Tryd.underlying9, rfl, rfl, rfl⟩)⟩, ⟨by decide, ⟨_, _, rfl, rfl, .inl ⟨_, _, _, Tryd.underlying3, rfl, rfl, rfl⟩⟩, ⟨by decide, ⟨_, _, rfl, rfl, .inl ⟨_, _, _, Tryd.underlying3, rfl, rfl, rfl⟩⟩, ⟨by decide, ⟨_, _, rfl, rfl, .inr (.inl ⟨_, _, Tryd.underlying4, rfl, rfl, rfl⟩)⟩, ⟨by decide, ⟨_, _, rfl, rfl, .inr (.inl ⟨_, _, Tryd.underlying4, rfl, rfl, rfl⟩)⟩, trivial⟩⟩⟩⟩⟩⟩⟩⟩⟩
theorem cmpv_wy (x y : Gwy) : (!(([decide (x.1 = y.1), decide (x.2.1 = y.2.1), decide (x.2.2.1 = y.2.2.1), decide (x.2.2.2.1 = y.2.2.2.1), decide (x.2.2.2.2.1 = y.2.2.2.2.1), decide (x.2.2.2.2.2.1 = y.2.2.2.2.2.1), decide (x.2.2.2.2.2.2.1 = y.2.2.2.2.2.2.1), decide (x.2.2.2.2.2.2.2 = y.2.2.2.2.2.2.2)] : List Bool).all id)) = decide (x ≠ y) := by
  rw [Bool.eq_iff_iff]
  simp [Prod.ext_iff]
theorem hp_wy : Tryd.prog.stoodInHeld 27 = false := by kernel_rfl
theorem hg_wy : Tryd.prog.eqGuardType Tryd.prog.depth 27 = false := by kernel_rfl


def cnd (x : Gwy) : Bool := x.2.2.2.2.2.2.2
noncomputable def ieW : TypeInfo := (Tryd.prog.info? 27).get (by kernel_rfl)
noncomputable def isW : TypeInfo := (Tryd.prog.info? 22).get (by kernel_rfl)
theorem swK {n : Nat} (h2 : 2 ≤ n) : Lib.swapperK n ieW 25 = 9 := by
  have a : ieW.hasPointers = true := by kernel_rfl
  have b : ieW.bytes = 64 := by kernel_rfl
  have c : (n == 0) = false := by simp; omega
  have d : (n == 1) = false := by simp; omega
  simp [Lib.swapperK, a, b, c, d]
theorem stb_tiny {α : Type} {c : α → Bool} {l : List α} (h : l.length ≤ 1) : stb c l = l := by
  have := stb_take1 (c := c) l
  rwa [List.take_of_length_le h] at this
/-- What is sorted, and what the comparison reads. -/
def SW (base g cap B m : Nat) (D : List Gwy) (w : World) : Prop := OwnF 8 fwy w base 27 (.slice (some ⟨g, 0, none⟩) D.length cap) D ∧ D.length = m ∧ w.heap[B]? = some (.cells #[.slice (some ⟨g, 0, none⟩) m cap] 22 (0, 0))
theorem lesswy_ok (base g cap B : Nat) (l : List Gwy) (w : World) (hO : OwnF 8 fwy w base 27 (.slice (some ⟨g, 0, none⟩) l.length cap) l) (hB : w.heap[B]? = some (.cells #[.slice (some ⟨g, 0, none⟩) l.length cap] 22 (0, 0))) (i j : Nat) (hi : i < l.length) (hj : j < l.length) :
  Sg.Ret Tryd.prog 50 #[.int .i64 (i : Int), .int .i64 (j : Int), .pointer (some ⟨B, 0, none⟩)] w fun v w' => v = .bool (!cnd l[i] && cnd l[j]) ∧ w = w' := by
 obtain ⟨g2, cap2, cur, hv, -, hg, -, -, -, hcel⟩ := OwnF.form fwy_len hO (fun e => by rw [e] at hi; exact absurd hi (by simp))
 simp only [Value.slice.injEq, Option.some.injEq, Addr.mk.injEq, and_true, true_and] at hv
 obtain ⟨rfl, rfl⟩ := hv
 have hci : cur[0 + (i : Int).toNat * 8 + 7]? = some (.bool (cnd l[i])) := by rw [show 0 + (i : Int).toNat * 8 + 7 = i * 8 + 7 by omega, hcel i hi 7 (by omega)]; rfl
 have hcj : cur[0 + (j : Int).toNat * 8 + 7]? = some (.bool (cnd l[j])) := by rw [show 0 + (j : Int).toNat * 8 + 7 = j * 8 + 7 by omega, hcel j hj 7 (by omega)]; rfl
 refine enter1 (n := 19) (l := [.int .i64 (i : Int), .int .i64 (j : Int), .pointer (some ⟨B, 0, none⟩)]) Tryd.func50 rfl rfl rfl rfl ?_
 refine W.g3 0 1 2 (v1 := .int .i64 (i : Int)) (v2 := .int .i64 (j : Int)) (v3 := .pointer (some ⟨B, 0, none⟩)) rfl rfl rfl ?_; intro σ s0 s1 s2
 refine W.seq ?_
 refine W.region ?_
 refine WL.x (X.asg lc) rfl ?_
 refine WL.e3 Nx.thn 0 1 2 (lt rfl (s0)) (lt rfl (s1)) (lt rfl (s2)) ?_
 intro σ1 s0 s1 s2
 refine W.seq ?_
 refine W.region ?_
 refine WL.x (X.load pl22 (s2) (by assumption) (by rfl)) rfl ?_
 refine WL.x (X.mv (lt rfl (s0))) rfl ?_
 refine WL.x (X.indexAddr Tryd.underlying22 el27 (lt rfl (lh)) (lh) (by omega) (by omega)) rfl ?_
 refine WL.x (X.fieldAddr fd27_7 (lh)) rfl ?_
 refine WL.x (X.load pl4 (lh) hg (v := .bool (cnd l[i])) hci) rfl ?_
 refine WL.x (X.not (lh)) rfl ?_
 refine WL.x (X.mv (lh)) rfl ?_
 refine WL.split (lh) (fun hc => ?_) (fun hc => ?_)
 ·
  refine WL.yes rfl rfl (lh) (hc) ?_
  refine WL.x (X.load pl22 (jt4 rfl (jt2 rfl (lt rfl (s2)))) (by assumption) (by rfl)) rfl ?_
  refine WL.yes rfl rfl (lt rfl (lh)) (hc) ?_
  refine WL.x (X.mv (jt8 rfl (s1))) rfl ?_
  refine WL.yes rfl rfl (jt2 rfl (lh)) (hc) ?_
  refine WL.x (X.indexAddr Tryd.underlying22 el27 (lt rfl (lh)) (lh) (by omega) (by omega)) rfl ?_
  refine WL.yes rfl rfl (jt2 rfl (lt rfl (lh))) (hc) ?_
  refine WL.x (X.fieldAddr fd27_7 (lh)) rfl ?_
  refine WL.yes rfl rfl (jt4 rfl (lh)) (hc) ?_
  refine WL.x (X.load pl4 (lh) hg (v := .bool (cnd l[j])) hcj) rfl ?_
  refine WL.x (X.pickT (jt4 rfl (lt rfl (lh))) (hc) (lh)) rfl ?_
  refine WL.x (X.asg (lh)) rfl ?_
  refine WL.e1 Nx.thn 5 (lh) ?_
  intro σ2 s5
  refine W.ret1 Nx.f1 s5 ?_
  exact ⟨by rw [hc, Bool.true_and], rfl⟩
 ·
  refine WL.no rfl rfl (lh) (hc) rfl ?_
  refine WL.no rfl rfl (lt rfl (lh)) (hc) rfl ?_
  refine WL.no rfl rfl (jt2 rfl (lh)) (hc) rfl ?_
  refine WL.no rfl rfl (jt2 rfl (lt rfl (lh))) (hc) rfl ?_
  refine WL.no rfl rfl (jt4 rfl (lh)) (hc) rfl ?_
  refine WL.x (X.pickF (jt4 rfl (lt rfl (lh))) (hc) lc) rfl ?_
  refine WL.x (X.asg (lh)) rfl ?_
  refine WL.e1 Nx.thn 5 (lh) ?_
  intro σ3 s5
  refine W.ret1 Nx.f1 s5 ?_
  exact ⟨by rw [hc, Bool.false_and], rfl⟩
theorem sw_srts (base g cap B m : Nat) (hm : m ≤ 1000000000) (h0 : 2 ≤ m) : Srts Tryd.prog cnd m g 50 [.pointer (some ⟨B, 0, none⟩)] 84 [.slice (some ⟨g, 0, none⟩) m cap, typeHandle Tryd.prog 27] (SW base g cap B m) := by
  refine ⟨ce50, hm, fun D w h => h.2.1, fun D w h => ?_, fun D w w' h c => ⟨h.1.ch0 c, h.2.1, c.at0 h.2.2⟩, fun D w i j hi hj h => ?_, fun D w i j hi hj h => ?_⟩
  · exact (h.1.lt (k := g) rfl).2
  · obtain ⟨h1, h2, h3⟩ := h
    rw [← h2] at h3
    exact Ret.mono (lesswy_ok base g cap B D w h1 h3 i j hi hj) fun v w' hh => ⟨hh.1, by rw [hh.2]; exact Ch.refl _ _⟩
  · obtain ⟨h1, h2, h3⟩ := h
    have hi' : i < D.length := by omega
    have hj' : j < D.length := by omega
    obtain ⟨g1, cur, e1, hg, hsi, hci, hpi⟩ := OwnF.put fwy_len h1 hi'
    obtain rfl : g = g1 := by simpa using e1
    obtain ⟨g2, cur2, e2, hg2, hsj, hcj, -⟩ := OwnF.put fwy_len h1 hj'
    obtain rfl : g = g2 := by simpa using e2
    obtain rfl : cur = cur2 := (Obj.cells.inj (Option.some.inj (hg.symm.trans hg2))).1
    have hs : ieW.size = 8 := by kernel_rfl
    have hcell : ∀ (q : Nat) (hq : q < D.length), (∀ r, r < 8 → cur[q * 8 + r]? = (fwy D[q])[r]?) → ∀ k v, (fwy D[q])[k]? = some v → w.cell? ⟨g, 0 + q * ieW.size + k, none⟩ = some v := fun q hq hc k v hk => by
      have hk8 : k < 8 := by have := (List.getElem?_eq_some_iff.1 hk).1; rw [fwy_len] at this; exact this
      rw [hs, Nat.zero_add]
      exact cell_of hg ((hc k hk8).trans hk)
    have hrun := Lib.run_swap_cells (P := Tryd.prog) false 27 ieW (by kernel_rfl) (fun _ => by kernel_rfl) g 0 m cap i j hi hj (fwy D[i]) (fwy D[j]) (by rw [fwy_len, hs]) (by rw [fwy_len, hs]) (fwy_one _) (fwy_one _) w (hcell i hi' hci) (hcell j hj' hcj) (fun _ _ => frozen_of hg) (fun _ _ => frozen_of hg)
    rw [hs, Nat.zero_add, Nat.zero_add] at hrun
    have s1 := setCells_st (fwy D[j]) (o := i * 8) hg (by rw [fwy_len]; omega)
    have o1 := hpi _ D[j] s1
    rw [← @List.length_set _ D i D[j]] at o1
    obtain ⟨g3, cur3, e3, hg3, hs3, -, hp3⟩ := OwnF.put fwy_len o1 (i := j) (by rw [List.length_set]; exact hj')
    obtain rfl : g = g3 := by simpa using e3
    have s2 := setCells_st (fwy D[i]) (o := j * 8) hg3 (by rw [fwy_len]; omega)
    have o2 := hp3 _ D[i] s2
    have hsw : swp D i j = (D.set i D[j]).set j D[i] := by unfold swp; rw [List.getElem?_eq_getElem hi', List.getElem?_eq_getElem hj']
    have hgB : B ≠ g := fun e => by
      rw [e, hg] at h3
      exact absurd (Obj.cells.inj (Option.some.inj h3)).2.1 (by decide)
    have hch : Ch (fun k => k = g) w ((w.setCells g (i * 8) (fwy D[j])).setCells g (j * 8) (fwy D[i])) := s1.ch.trans s2.ch (fun _ _ e => e) (fun _ _ e => e)
    refine ⟨.tuple #[], _, ?_, ⟨?_, ?_, hch.at h3 hgB⟩, hch⟩
    · rw [run_callFunc_extern Tryd.func84 (by kernel_rfl) (by kernel_rfl) (by kernel_rfl) (e := Extern.ReflectliteSwapper.swap false) (by kernel_rfl)]
      rw [show (Value.int .i64 (i : Int) :: .int .i64 (j : Int) :: [.slice (some ⟨g, 0, none⟩) m cap, typeHandle Tryd.prog 27]).toArray = #[.int .i64 i, .int .i64 j, .slice (some ⟨g, 0, none⟩) m cap, typeHandle Tryd.prog 27] from rfl, hrun]
      rfl
    · rw [hsw, List.length_set]; exact o2
    · rw [hsw, List.length_set, List.length_set]; exact h2
theorem slst_ok (base B : Nat) (v : Value) (l : List Gwy) (w : World) (hO : OwnF 8 fwy w base 27 v l) (hB : w.heap[B]? = some (.cells #[v] 22 (0, 0))) (hm : l.length ≤ 1000000) :
    Sg.Ret Tryd.prog 49 #[.iface 22 v, .func (.func 50) #[] #[.pointer (some ⟨B, 0, none⟩)]] w fun _ w' => OwnF 8 fwy w' base 27 v (stb cnd l) ∧ Ch (slBlk v) w w' := by
  by_cases h2 : 2 ≤ l.length
  · obtain ⟨g, cap, cur, rfl, -, -, -, -, -, -⟩ := OwnF.form fwy_len hO (fun e => by rw [e] at h2; exact absurd h2 (by simp))
    refine Calls.mono (Any.sort_SliceStable_of_stable Tryd.laysGt8 22 27 isW ieW (by kernel_rfl) (by kernel_rfl) (by kernel_rfl) (by kernel_rfl) 25 (fun _ => by kernel_rfl) (some ⟨g, 0, none⟩) l.length cap (by omega) 84 (by rw [swK h2]; kernel_rfl) (.func 50) #[] #[.pointer (some ⟨B, 0, none⟩)] w
      (fun w' => SW base g cap B l.length (stb cnd l) w' ∧ Ch (fun k => k = g) w w') ?_) ?_
    · have hB2 : sliceBound Tryd.prog 27 ieW 25 (some ⟨g, 0, none⟩) l.length cap = #[.slice (some ⟨g, 0, none⟩) l.length cap, typeHandle Tryd.prog 27] := by
        unfold sliceBound; rw [if_neg (swapperK_gt _ _ _ h2)]
      rw [hB2]
      have c0 : Ch0 w (stableWorld Tryd.prog Tryd.laysGt8_ren 22 (some ⟨g, 0, none⟩) l.length cap w) := by
        unfold stableWorld
        exact (nw_alloc _ _).ch.trans0 (nw_alloc _ _).ch
      have hS : SW base g cap B l.length l (stableWorld Tryd.prog Tryd.laysGt8_ren 22 (some ⟨g, 0, none⟩) l.length cap w) := ⟨hO.ch0 c0, rfl, c0.at0 hB⟩
      have hr := stable_ok (sw_srts base g cap B l.length (by omega) h2) l _ hS l.length rfl
      refine Calls.mono hr ?_
      rintro e w' ⟨v, rfl, rfl, hs, hc⟩
      exact ⟨rfl, hs, c0.trans hc (fun _ _ e => e.elim) (fun _ _ e => e)⟩
    · rintro e w' ⟨rfl, hs, hc⟩
      refine ⟨_, rfl, ?_, hc⟩
      have h9 := hs.1
      rw [hs.2.1] at h9
      exact h9
  · have h1 : l.length ≤ 1 := by omega
    obtain ⟨p, c, rfl⟩ := hO.len
    have hf : ∃ f, Tryd.prog.funcs.findIdx? (·.name == "internal/reflectlite" ++ ".Swapper$" ++ toString (Lib.swapperK l.length ieW 25)) = some f := by
      rcases (show l.length = 0 ∨ l.length = 1 by omega) with e | e <;> rw [e]
      · exact ⟨76, by kernel_rfl⟩
      · exact ⟨77, by kernel_rfl⟩
    obtain ⟨f, hf⟩ := hf
    refine Calls.mono (Any.sort_SliceStable_tiny Tryd.laysGt8 22 27 isW ieW (by kernel_rfl) (by kernel_rfl) (by kernel_rfl) (by kernel_rfl) 25 (fun _ => by kernel_rfl) p l.length c h1 f hf (.func 50) #[] #[.pointer (some ⟨B, 0, none⟩)] w) ?_
    rintro e w' ⟨rfl, os, rfl⟩
    have c0 : Ch0 w (Sort.grow w os) := ⟨rfl, rfl, rfl, by simp [Sort.grow], fun k hk _ => by simp [Sort.grow, Array.getElem?_append, hk]⟩
    refine ⟨_, rfl, ?_, Ch.weak c0⟩
    rw [stb_tiny h1]
    exact hO.ch0 c0

end Go.Proofs.YtnfkblboimkcjaaDoor
end
