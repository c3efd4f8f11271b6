/-
  A part of the walk of the program.
-/
import Derived.Test.YtjnkpjehpdlcbaaDoorU
set_option linter.unusedVariables false
set_option linter.unusedSimpArgs false
set_option maxRecDepth 100000
namespace Go.Proofs.YtjnkpjehpdlcbaaDoor
open Go Go.RowKit Sg

theorem mid_l2 {x : GOp} (hn : x.2.2.2.2.2 = false) (h : x.1 = 2) (h2 : x.2.2.2.2.1 = true) : midT x = [32, 40] ++ x.2.2.2.1.flatMap valT ++ [32, 41] := by
  unfold midT; rw [if_neg (by rw [hn]; simp), if_pos ⟨h, h2⟩]
theorem mid_v2 {x : GOp} (hn : x.2.2.2.2.2 = false) (h : x.1 ≠ 2) (h4 : x.1 ≠ 4 ∨ x.2.2.2.2.1 = true) : midT x = valT x.2.2.1 := by
  unfold midT; rw [if_neg (by rw [hn]; simp), if_neg (fun e => h e.1), if_pos ⟨h, h4⟩]
theorem mid_02 {x : GOp} (hn : x.2.2.2.2.2 = false) (h2 : x.2.2.2.2.1 = false) (h : x.1 = 2 ∨ x.1 = 4) : midT x = [] := by
  unfold midT; rw [if_neg (by rw [hn]; simp), if_neg (fun e => by rw [h2] at e; cases e.2), if_neg (fun e => by rcases e.2 with e2 | e2; (· exact e2 (h.resolve_left e.1)); (· rw [h2] at e2; cases e2))]
def opH (x : GOp) : Bs := [32, 91, 32] ++ wordO x.1 ++ [32] ++ sb x.2.1
theorem opH_eq (x : GOp) : opH x ++ midT x ++ [32, 93] = opT x := rfl
theorem opH_len {x : GOp} (h : okT x) : (opH x).length ≤ 20 := by
  have h2 := wordO_len x.1
  have h3 := h.1
  have h4 := sb_len x.2.1
  unfold opH
  simp only [List.length_append, List.length_cons, List.length_nil]; omega
theorem vals_next {li : List Int} {j : Nat} (h : j < li.length) : (li.take (j + 1)).flatMap valT = (li.take j).flatMap valT ++ valT li[j] := fm_take h
set_option maxHeartbeats 6400000 in
theorem print_walk (A : Nat → Prop) (a : Option Addr) (c : Nat) (l : List GEv) (w : World) (h : RSl 3 REv A w (.slice a l.length c) l) (hl : l.length ≤ 140737488355328) (hTab : Tab w) :
  Sg.Ret Tryd.prog 10 #[.slice a l.length c] w fun v w' => v = .string (bs (prT l)) ∧ Ch0 w w' := by
 refine enter1 (n := 114) (l := [.slice a l.length c]) Tryd.func10 rfl rfl rfl rfl ?_
 refine W.g1 0 (v1 := .slice a l.length c) rfl ?_; intro σ s0
 refine W.seq ?_
 refine W.region ?_
 refine WL.x (X.asg lc) rfl ?_
 refine WL.e1 Nx.thn 0 (lt rfl (s0)) ?_
 intro σ1 s0
 refine W.seq ?_
 refine W.seq ?_
 refine W.region ?_
 refine WL.x (X.mv (s0)) rfl ?_
 refine WL.call1 ce8 (lh) (can_ok A _ l w h hl) rfl ?_
 rintro _ w1 ⟨rfl, c0⟩
 refine WL.x (X.not (lh)) rfl ?_
 refine WL.e2 Nx.thn 0 15 (jt2 rfl (lt rfl (s0))) (lh) ?_
 intro σ2 s0 s15
 refine W.cnd s15 (fun hc0 => ?_) (fun hc0 => ?_)
 ·
  refine W.seq ?_
  refine W.region ?_
  refine WL.x (X.asg lc) rfl ?_
  refine WL.e1 Nx.thn 2 (lh) ?_
  intro σ3 s2
  refine W.ret1 (Nx.rthn Nx.f1) s2 ?_
  first | exact ⟨by unfold prT; rw [if_neg (by simpa using hc0)]; rfl, c0⟩ | exact ⟨by unfold prT; rw [if_pos hcan, show k = l.length by omega, List.take_length], hcl.trans cs (H := fun _ => False) (fun _ _ e => e) (fun q hq e => by (try dsimp only at e); omega)⟩
 ·
  have hcan : canB l = true := by simpa using hc0
  obtain ⟨hln, hev⟩ := hist_ok h hcan
  obtain ⟨-, hev2⟩ := canB_all hcan
  have hcl := c0
  have hzw := c0.size
  refine W.skip Nx.thn ?_
  refine W.seq ?_
  refine W.region ?_
  refine WL.alloc el56 rfl ?_
  intro w2 u0
  have cu3_0 := u0.ch
  have hb : IsB w1.heap.size w1.heap.size [] w2 := bld_fresh u0.at_ (Nat.le_refl _)
  refine WL.e2 Nx.thn 0 3 (lt rfl (s0)) (lh) ?_
  intro σ4 s0 s3
  refine W.seq ?_
  refine W.region ?_
  refine WL.call0 ce26  (words_ok w2) rfl ?_
  rintro _ w3 ⟨rfl, c2⟩
  have hb := bld_ch0 hb c2
  have hcl := (hcl.trans0 cu3_0).trans0 c2
  refine WL.x (X.mv (lh)) rfl ?_
  refine WL.x (X.ex2_0 (lh)) rfl ?_
  refine WL.x (X.ex2_1 (lt rfl (lh))) rfl ?_
  refine WL.alloc el57 rfl ?_
  intro w4 u4_4; have hu4_4 := u4_4.at_; have cu4_4 := u4_4.ch; have zu4_4 := u4_4.size
  refine WL.alloc el57 rfl ?_
  intro w5 u4_5; have hu4_5 := u4_5.at_; have cu4_5 := u4_5.ch; have zu4_5 := u4_5.size
  refine WL.storeS (vs := [.string ⟨#[]⟩, .string ⟨#[105, 110, 118, 111, 107, 101]⟩, .string ⟨#[111, 107]⟩, .string ⟨#[102, 97, 105, 108]⟩, .string ⟨#[105, 110, 102, 111]⟩]) ag57 (lt rfl (lh)) (jt2 rfl (lt rfl (lh))) rfl rfl (cu4_5.at0 hu4_4) (by decide) ?_
  intro w6 us
  have hev5 : w6.heap[w3.heap.size]? = some (.cells #[.string ⟨#[]⟩, .string ⟨#[105, 110, 118, 111, 107, 101]⟩, .string ⟨#[111, 107]⟩, .string ⟨#[102, 97, 105, 108]⟩, .string ⟨#[105, 110, 102, 111]⟩] 57 (0, 0)) := us.at_
  have cw0 := us.ch
  have hz2 := lt_of_blk hu4_4
  have hz1 := bld_lt hb
  have hop6 := cw0.at hu4_5 (fun e => by (try dsimp only at e); omega)
  refine WL.storeS (vs := [.string ⟨#[]⟩, .string ⟨#[97, 112, 112, 101, 110, 100]⟩, .string ⟨#[114, 101, 97, 100]⟩, .string ⟨#[119, 114, 105, 116, 101]⟩, .string ⟨#[103, 101, 116]⟩]) ag57 (lh) (jt2 rfl (lh)) rfl rfl hop6 (by decide) ?_
  intro w7 us
  have hop5 : w7.heap[w4.heap.size]? = some (.cells #[.string ⟨#[]⟩, .string ⟨#[97, 112, 112, 101, 110, 100]⟩, .string ⟨#[114, 101, 97, 100]⟩, .string ⟨#[119, 114, 105, 116, 101]⟩, .string ⟨#[103, 101, 116]⟩] 57 (0, 0)) := us.at_
  have cw1 := us.ch
  have hev5 := cw1.at hev5 (fun e => by (try dsimp only at e); omega)
  have hc47 := ((cu4_4.trans0 cu4_5).trans cw0 (H := fun _ => False) (fun _ _ e => e) (fun q hq e => by (try dsimp only at e); omega)).trans cw1 (H := fun _ => False) (fun _ _ e => e) (fun q hq e => by (try dsimp only at e); omega)
  have hb := bld_ch0 hb hc47
  have hcl := hcl.trans0 hc47
  refine WL.e4 Nx.thn 0 3 4 5 (jt4 rfl (jt2 rfl (s0))) (jt4 rfl (jt2 rfl (s3))) (lt rfl (lh)) (lh) ?_
  intro σ5 s0 s3 s4 s5
  refine W.seq ?_
  refine W.region ?_
  refine WL.x (X.mkfn mnil (mcons (s3) mnil)) rfl ?_
  refine WL.x (X.asg (lh)) rfl ?_
  refine WL.e5 Nx.thn 0 3 4 5 6 (jt2 rfl (s0)) (jt2 rfl (s3)) (jt2 rfl (s4)) (jt2 rfl (s5)) (lh) ?_
  intro σ6 s0 s3 s4 s5 s6
  refine W.seq ?_
  refine W.seq ?_
  refine W.region ?_
  refine WL.x (X.mv (s0)) rfl ?_
  refine WL.x (X.lenSl Tryd.underlying22 (lh)) rfl ?_
  refine WL.x (X.mv lc) rfl ?_
  refine WL.e7 Nx.thn 3 4 5 6 21 22 23 (jt2 rfl (lt rfl (s3))) (jt2 rfl (lt rfl (s4))) (jt2 rfl (lt rfl (s5))) (jt2 rfl (lt rfl (s6))) (jt2 rfl (lh)) (lt rfl (lh)) (lh) ?_
  intro σ7 s3 s4 s5 s6 s21 s22 s23
  refine W.block ?_
  have qo1 := s3
  have qo2 := s4
  have qo3 := s5
  have qo4 := s6
  have qo5 := s21
  have qo6 := s22
  -- loop 0: kept [3, 4, 5, 6, 21, 22], varied [23]
  refine W.loop (G := Nat) (fun k σ' w' => (σ' 3 = σ7 3 ∧ σ' 4 = σ7 4 ∧ σ' 5 = σ7 5 ∧ σ' 6 = σ7 6 ∧ σ' 21 = σ7 21 ∧ σ' 22 = σ7 22 ∧ True) ∧ (σ' 23 = .int .i64 (k : Int) ∧ IsB w1.heap.size w1.heap.size ((l.take k).flatMap evT) w' ∧ w'.heap[w3.heap.size]? = some (.cells #[.string ⟨#[]⟩, .string ⟨#[105, 110, 118, 111, 107, 101]⟩, .string ⟨#[111, 107]⟩, .string ⟨#[102, 97, 105, 108]⟩, .string ⟨#[105, 110, 102, 111]⟩] 57 (0, 0)) ∧ w'.heap[w4.heap.size]? = some (.cells #[.string ⟨#[]⟩, .string ⟨#[97, 112, 112, 101, 110, 100]⟩, .string ⟨#[114, 101, 97, 100]⟩, .string ⟨#[119, 114, 105, 116, 101]⟩, .string ⟨#[103, 101, 116]⟩] 57 (0, 0)) ∧ k ≤ l.length ∧ Ch0 w w')) (fun k => l.length - k) (0) ⟨⟨rfl, rfl, rfl, rfl, rfl, rfl, trivial⟩, s23, hb, hev5, hop5, by omega, hcl⟩ ?_
  rintro k σ8 w8 ⟨⟨f3, f4, f5, f6, f21, f22, _⟩, s23, hb, hev5, hop5, hk, hcl⟩
  have s3 := f3.trans qo1
  have s4 := f4.trans qo2
  have s5 := f5.trans qo3
  have s6 := f6.trans qo4
  have s21 := f21.trans qo5
  have s22 := f22.trans qo6
  refine W.seq ?_
  refine W.region ?_
  refine WL.x (X.lss (s23) (s22)) rfl ?_
  refine WL.e8 Nx.thn 3 4 5 6 21 22 23 24 (lt rfl (s3)) (lt rfl (s4)) (lt rfl (s5)) (lt rfl (s6)) (lt rfl (s21)) (lt rfl (s22)) (lt rfl (s23)) (lh) ?_
  intro σ9 s3 s4 s5 s6 s21 s22 s23 s24
  refine W.seq ?_
  refine W.cndp s24 (fun hlt => ?_) (fun hlt => ?_)
  ·
   obtain ⟨b1, o1, cs1, T1, fr1, es1, rfl, hml1, hes1, hgl1, v1, rfl, hs1, hb1⟩ := h.at (k := k) (by omega)
   obtain ⟨va1, vc1, rfl⟩ := hs1.len
   have hkl : k < l.length := by omega
   have hoe := hev l[k] (List.getElem_mem hkl)
   obtain ⟨hek, hmo⟩ := evB_all (hev2 l[k] (List.getElem_mem hkl))
   have hA0 := prT_len hln hev k
   have hhd := hdT_len hoe
   refine W.skip Nx.thn ?_
   refine W.seq ?_
   refine W.block ?_
   refine W.seq ?_
   refine W.region ?_
   refine WL.x (X.indexAddr Tryd.underlying22 el44 (s21) (s23) (by omega) (by omega)) rfl ?_
   refine WL.x (X.loadS ag44 (lh) (hcl.at0 hml1) hes1 hgl1) rfl ?_
   refine WL.alloc el44 rfl ?_
   intro w9 u8_2; have hu8_2 := u8_2.at_; have cu8_2 := u8_2.ch; have zu8_2 := u8_2.size
   have hez := bld_lt hb
   refine WL.storeS ag44 (lh) (lt rfl (lh)) rfl hes1 hu8_2 (by decide) ?_
   intro w10 us; have he := us.at_; have cu8_3 := us.ch
   rw [show (Value.agg #[.int .i64 0, .int .i64 0, .slice none 0 0]).cells = (#[.int .i64 0, .int .i64 0, .slice none 0 0] : Array Value) from rfl, blit_all (by rfl)] at he
   have hc8 := cu8_2.trans cu8_3 (H := fun _ => False) (fun _ _ e => e) (fun q hq e => by (try dsimp only at e); omega)
   have hb := bld_ch0 hb hc8
   have hcl := hcl.trans0 hc8
   have hev5 := hc8.at0 hev5
   have hop5 := hc8.at0 hop5
   refine WL.e8 Nx.thn 3 4 5 6 8 21 22 23 (jt2 rfl (lt rfl (s3))) (jt2 rfl (lt rfl (s4))) (jt2 rfl (lt rfl (s5))) (jt2 rfl (lt rfl (s6))) (lh) (jt2 rfl (lt rfl (s21))) (jt2 rfl (lt rfl (s22))) (jt2 rfl (lt rfl (s23))) ?_
   intro σ10 s3 s4 s5 s6 s8 s21 s22 s23
   refine W.seq ?_
   refine W.held (fun w' => Ch (fun j => w1.heap.size ≤ j) w10 w' ∧ w'.heap[w8.heap.size]? = some (.cells #[.int .i64 l[k].1, .int .i64 l[k].2.1, .slice va1 l[k].2.2.length vc1] 44 (0, 0)) ∧ w'.heap[w3.heap.size]? = some (.cells #[.string ⟨#[]⟩, .string ⟨#[105, 110, 118, 111, 107, 101]⟩, .string ⟨#[111, 107]⟩, .string ⟨#[102, 97, 105, 108]⟩, .string ⟨#[105, 110, 102, 111]⟩] 57 (0, 0)) ∧ w'.heap[w4.heap.size]? = some (.cells #[.string ⟨#[]⟩, .string ⟨#[97, 112, 112, 101, 110, 100]⟩, .string ⟨#[114, 101, 97, 100]⟩, .string ⟨#[119, 114, 105, 116, 101]⟩, .string ⟨#[103, 101, 116]⟩] 57 (0, 0))) mo ?_
   intro w11 qhh7 qc8
   have hS : Ch (fun j => w1.heap.size ≤ j) w10 w11 := Ch.weak qc8
   have hzqc8 := qc8.size
   have cdh9 := qc8
   have hb := bld_ch0 hb cdh9
   have hcl := hcl.trans0 cdh9
   have hev5 := cdh9.at0 hev5
   have hop5 := cdh9.at0 hop5
   have he := cdh9.at0 he
   have hE := And.intro he (And.intro hev5 hop5)
   refine WH.take 0 rfl (by kernel_rfl) (by kernel_rfl) (by kernel_rfl) (fun _ _ _ h => h) Gd.none rfl (fun w' ⟨hS', hE'⟩ => X.mv (s6)) ⟨hS, hE⟩ ?_
   refine WH.take 1 rfl (by kernel_rfl) (by kernel_rfl) (by kernel_rfl) (fun _ _ _ h => h) Gd.none rfl (fun w' ⟨hS', hE'⟩ => X.fieldAddr fd44_0 (lt rfl (s8))) ⟨hS, hE⟩ ?_
   refine WH.take 2 rfl (by kernel_rfl) (by kernel_rfl) (by kernel_rfl) (fun _ _ _ h => h) Gd.none rfl (fun w' ⟨hS', hE'⟩ => by obtain ⟨e1, e2, e3⟩ := hE'; exact X.load pl3 (lh) e1 (b := w8.heap.size) (o := 0 + 0) (v := .int .i64 l[k].1) (by rfl)) ⟨hS, hE⟩ ?_
   refine WH.take 3 rfl (by kernel_rfl) (by kernel_rfl) (by kernel_rfl) (fun _ _ _ h => h) Gd.none rfl (fun w' ⟨hS', hE'⟩ => X.indexAddrA Tryd.underlying57 el9 (jt2 rfl (lt rfl (s4))) (lh) (by omega) (by omega)) ⟨hS, hE⟩ ?_
   refine WH.take 4 rfl (by kernel_rfl) (by kernel_rfl) (by kernel_rfl) (fun _ _ _ h => h) Gd.none rfl (fun w' ⟨hS', hE'⟩ => by obtain ⟨e1, e2, e3⟩ := hE'; exact X.load pl9 (lh) e2 (v := .string (bs (wordE l[k].1))) (by exact ew5 hek.1 hek.2.1)) ⟨hS, hE⟩ ?_
   refine WH.take 5 rfl (by kernel_rfl) (by kernel_rfl) (by kernel_rfl) (fun _ _ _ h => h) Gd.none rfl (fun w' ⟨hS', hE'⟩ => X.fieldAddr fd44_1 (jt4 rfl (lt rfl (s8)))) ⟨hS, hE⟩ ?_
   refine WH.take 6 rfl (by kernel_rfl) (by kernel_rfl) (by kernel_rfl) (fun _ _ _ h => h) Gd.none rfl (fun w' ⟨hS', hE'⟩ => by obtain ⟨e1, e2, e3⟩ := hE'; exact X.load pl3 (lh) e1 (b := w8.heap.size) (o := 0 + 1) (v := .int .i64 l[k].2.1) (by rfl)) ⟨hS, hE⟩ ?_
   refine WH.one 7 rfl (by kernel_rfl) (fun _ _ h => h) ?_
   refine WL.call1 ce29 (lh) (itoa_ok l[k].2.1 w11 (by omega) (by omega) (tab_ch0 hTab hcl)) rfl ?_
   rintro _ w12 ⟨rfl, ci⟩
   have hb := bld_ch0 hb ci
   have hcl := hcl.trans0 ci
   have hev5 := ci.at0 hev5
   have hop5 := ci.at0 hop5
   have he := ci.at0 he
   have hE := And.intro he (And.intro hev5 hop5)
   have hS := hS.trans ci (fun _ _ => id) (by intro i hi hg; first | exact hg | exact False.elim hg | omega | ((try dsimp only at hg ⊢); omega))
   refine WL.nil Nx.thn ⟨⟨hS, hE⟩, ?_⟩
   refine WH.one 8 rfl (by kernel_rfl) (fun _ _ h => h) ?_
   have hgb := bld_lt hb
   refine WL.bslice Tryd.underlying36 el9 rfl (pcons (jt2 rfl (lt rfl (lh))) (pcons lc (pcons (lh) pnil))) rfl (rfl : _ = [_, _, _]) rfl ?_
   intro w13 us; have hsl := us.at_; have cus := us.ch
   have hb := bld_ch0 hb cus
   have hcl := hcl.trans0 cus
   have hev5 := cus.at0 hev5
   have hop5 := cus.at0 hop5
   have he := cus.at0 he
   have hE := And.intro he (And.intro hev5 hop5)
   have hS := hS.trans cus (fun _ _ => id) (by intro i hi hg; first | exact hg | exact False.elim hg | omega | ((try dsimp only at hg ⊢); omega))
   refine WL.nil Nx.thn ⟨⟨hS, hE⟩, ?_⟩
   refine WH.one 9 rfl (by kernel_rfl) (fun _ _ h => h) ?_
   have hfl : ([bs (wordE l[k].1), ⟨#[32]⟩, bs (Lib.itoa l[k].2.1)] : List ByteArray).flatMap sb = hdT l[k] := by unfold hdT; simp [sb_mk, sb_bs]
   have hgb2 := bld_lt hb
   refine WL.callv1 (caps := [.pointer (some ⟨w1.heap.size, 0, none⟩)]) ce27 (jt8 rfl (lh)) (lh) (put_walk w1.heap.size w1.heap.size _ 3 3 [bs (wordE l[k].1), ⟨#[32]⟩, bs (Lib.itoa l[k].2.1)] ((l.take k).flatMap evT) w13 rfl hsl (Nat.ne_of_gt hgb) hb (Nat.le_of_lt hgb2) (by rw [hfl]; (try simp only [List.length_append, List.length_cons, List.length_nil]); omega) (by show 3 ≤ 100; omega)) rfl ?_
   rintro v5 w14 ⟨hb, hbk⟩
   have cpk := hbk.1
   rw [hfl] at hb
   have hcl := hcl.trans cpk (H := fun _ => False) (fun _ _ e => e) (fun q hq e => by (try dsimp only at e); omega)
   have hev5 := hbk.2 _ _ _ _ hev5 (by decide) (by omega)
   have hop5 := hbk.2 _ _ _ _ hop5 (by decide) (by omega)
   have he := hbk.2 _ _ _ _ he (by decide) (by omega)
   have hE := And.intro he (And.intro hev5 hop5)
   have hS := hS.trans cpk (fun _ _ => id) (by intro i hi hg; first | exact hg | exact False.elim hg | omega | ((try dsimp only at hg ⊢); omega))
   refine WL.nil Nx.thn ⟨⟨hS, hE⟩, ?_⟩
   refine WH.done (by kernel_rfl) ?_
   refine WL.e8 Nx.thn 3 4 5 6 8 21 22 23 (jt8 rfl (jt2 rfl (s3))) (jt8 rfl (jt2 rfl (s4))) (jt8 rfl (jt2 rfl (s5))) (jt8 rfl (jt2 rfl (s6))) (jt8 rfl (jt2 rfl (s8))) (jt8 rfl (jt2 rfl (s21))) (jt8 rfl (jt2 rfl (s22))) (jt8 rfl (jt2 rfl (s23))) ?_
   intro σ11 s3 s4 s5 s6 s8 s21 s22 s23
   refine W.seq ?_
   refine W.seq ?_
   refine W.region ?_
   refine WL.x (X.fieldAddr fd44_2 (s8)) rfl ?_
   refine WL.x (v := .slice va1 l[k].2.2.length vc1) (X.load pl42 (lh) he rfl) rfl ?_
   refine WL.x (X.lenSl Tryd.underlying42 (lh)) rfl ?_
   refine WL.x (X.mv lc) rfl ?_
   refine WL.e10 Nx.thn 3 4 5 6 21 22 23 38 39 40 (jt4 rfl (s3)) (jt4 rfl (s4)) (jt4 rfl (s5)) (jt4 rfl (s6)) (jt4 rfl (s21)) (jt4 rfl (s22)) (jt4 rfl (s23)) (jt2 rfl (lh)) (lt rfl (lh)) (lh) ?_
   intro σ12 s3 s4 s5 s6 s21 s22 s23 s38 s39 s40
   refine W.block ?_
   have qo9 := s3
   have qo10 := s4
   have qo11 := s5
   have qo12 := s6
   have qo13 := s21
   have qo14 := s22
   have qo15 := s23
   have qo16 := s38
   have qo17 := s39
   -- loop 1: kept [3, 4, 5, 6, 21, 22, 23, 38, 39], varied [40]
   refine W.loop (G := Nat) (fun q σ' w' => (σ' 3 = σ12 3 ∧ σ' 4 = σ12 4 ∧ σ' 5 = σ12 5 ∧ σ' 6 = σ12 6 ∧ σ' 21 = σ12 21 ∧ σ' 22 = σ12 22 ∧ σ' 23 = σ12 23 ∧ σ' 38 = σ12 38 ∧ σ' 39 = σ12 39 ∧ True) ∧ (σ' 40 = .int .i64 (q : Int) ∧ IsB w1.heap.size w1.heap.size ((l.take k).flatMap evT ++ hdT l[k] ++ (l[k].2.2.take q).flatMap opT) w' ∧ w'.heap[w3.heap.size]? = some (.cells #[.string ⟨#[]⟩, .string ⟨#[105, 110, 118, 111, 107, 101]⟩, .string ⟨#[111, 107]⟩, .string ⟨#[102, 97, 105, 108]⟩, .string ⟨#[105, 110, 102, 111]⟩] 57 (0, 0)) ∧ w'.heap[w4.heap.size]? = some (.cells #[.string ⟨#[]⟩, .string ⟨#[97, 112, 112, 101, 110, 100]⟩, .string ⟨#[114, 101, 97, 100]⟩, .string ⟨#[119, 114, 105, 116, 101]⟩, .string ⟨#[103, 101, 116]⟩] 57 (0, 0)) ∧ q ≤ l[k].2.2.length ∧ Ch0 w w')) (fun q => l[k].2.2.length - q) (0) ⟨⟨rfl, rfl, rfl, rfl, rfl, rfl, rfl, rfl, rfl, trivial⟩, s40, (by simpa using hb), hev5, hop5, by omega, hcl⟩ ?_
   rintro q σ13 w15 ⟨⟨f3, f4, f5, f6, f21, f22, f23, f38, f39, _⟩, s40, hb, hev5, hop5, hqk, hcl⟩
   have s3 := f3.trans qo9
   have s4 := f4.trans qo10
   have s5 := f5.trans qo11
   have s6 := f6.trans qo12
   have s21 := f21.trans qo13
   have s22 := f22.trans qo14
   have s23 := f23.trans qo15
   have s38 := f38.trans qo16
   have s39 := f39.trans qo17
   refine W.seq ?_
   refine W.region ?_
   refine WL.x (X.lss (s40) (s39)) rfl ?_
   refine WL.e11 Nx.thn 3 4 5 6 21 22 23 38 39 40 41 (lt rfl (s3)) (lt rfl (s4)) (lt rfl (s5)) (lt rfl (s6)) (lt rfl (s21)) (lt rfl (s22)) (lt rfl (s23)) (lt rfl (s38)) (lt rfl (s39)) (lt rfl (s40)) (lh) ?_
   intro σ14 s3 s4 s5 s6 s21 s22 s23 s38 s39 s40 s41
   refine W.seq ?_
   refine W.cndp s41 (fun hq => ?_) (fun hq => ?_)
   ·
    have hql : q < l[k].2.2.length := by omega
    obtain ⟨b2, o2, cs2, T2, fr2, es2, rfl, hml2, hes2, hgl2, hr2⟩ := hs1.at (k := q) hql
    have hxo := hoe.2.2.2 _ (List.getElem_mem hql)
    have hxm := hmo _ (List.getElem_mem hql)
    have hnx := fm_take (f := opT) hql
    obtain ⟨x, hx⟩ : ∃ x, x = l[k].2.2[q] := ⟨_, rfl⟩
    rw [← hx] at hr2 hxo hxm hnx
    obtain ⟨v2, rfl, hs2, hb2⟩ := hr2
    obtain ⟨va2, vc2, hv2⟩ := hs2.1.len
    rw [List.length_map] at hv2
    subst hv2
    have hxk := mayB_kind hxm
    have hA1 := ops_len hoe q
    have hoh := opH_len hxo
    have hmx := midT_len hxo
    refine W.skip Nx.thn ?_
    refine W.seq ?_
    refine W.block ?_
    refine W.seq ?_
    refine W.region ?_
    refine WL.x (X.indexAddr Tryd.underlying42 el48 (s38) (s40) (by omega) (by omega)) rfl ?_
    refine WL.x (X.loadS ag48 (lh) (hcl.at0 hml2) hes2 hgl2) rfl ?_
    refine WL.alloc el48 rfl ?_
    intro w16 u12_2; have hu12_2 := u12_2.at_; have cu12_2 := u12_2.ch; have zu12_2 := u12_2.size
    have hoz := bld_lt hb
    refine WL.storeS ag48 (lh) (lt rfl (lh)) rfl hes2 hu12_2 (by decide) ?_
    intro w17 us; have ho := us.at_; have cu12_3 := us.ch
    rw [show (Value.agg #[.int .i64 0, .string ⟨#[]⟩, .int .i64 0, .slice none 0 0, .bool false, .bool false]).cells = (#[.int .i64 0, .string ⟨#[]⟩, .int .i64 0, .slice none 0 0, .bool false, .bool false] : Array Value) from rfl, blit_all (by rfl)] at ho
    have hc12 := cu12_2.trans cu12_3 (H := fun _ => False) (fun _ _ e => e) (fun q hq e => by (try dsimp only at e); omega)
    have hb := bld_ch0 hb hc12
    have hcl := hcl.trans0 hc12
    have hev5 := hc12.at0 hev5
    have hop5 := hc12.at0 hop5
    refine WL.e11 Nx.thn 3 4 5 6 10 21 22 23 38 39 40 (jt2 rfl (lt rfl (s3))) (jt2 rfl (lt rfl (s4))) (jt2 rfl (lt rfl (s5))) (jt2 rfl (lt rfl (s6))) (lh) (jt2 rfl (lt rfl (s21))) (jt2 rfl (lt rfl (s22))) (jt2 rfl (lt rfl (s23))) (jt2 rfl (lt rfl (s38))) (jt2 rfl (lt rfl (s39))) (jt2 rfl (lt rfl (s40))) ?_
    intro σ15 s3 s4 s5 s6 s10 s21 s22 s23 s38 s39 s40
    refine W.seq ?_
    refine W.held (fun w' => Ch (fun j => w1.heap.size ≤ j) w17 w' ∧ w'.heap[w15.heap.size]? = some (.cells #[.int .i64 x.1, .string x.2.1, .int .i64 x.2.2.1, .slice va2 x.2.2.2.1.length vc2, .bool x.2.2.2.2.1, .bool x.2.2.2.2.2] 48 (0, 0)) ∧ w'.heap[w3.heap.size]? = some (.cells #[.string ⟨#[]⟩, .string ⟨#[105, 110, 118, 111, 107, 101]⟩, .string ⟨#[111, 107]⟩, .string ⟨#[102, 97, 105, 108]⟩, .string ⟨#[105, 110, 102, 111]⟩] 57 (0, 0)) ∧ w'.heap[w4.heap.size]? = some (.cells #[.string ⟨#[]⟩, .string ⟨#[97, 112, 112, 101, 110, 100]⟩, .string ⟨#[114, 101, 97, 100]⟩, .string ⟨#[119, 114, 105, 116, 101]⟩, .string ⟨#[103, 101, 116]⟩] 57 (0, 0))) mo ?_
    intro w18 qhh18 qc19
    have hS : Ch (fun j => w1.heap.size ≤ j) w17 w18 := Ch.weak qc19
    have hzqc19 := qc19.size
    have cdh13 := qc19
    have hb := bld_ch0 hb cdh13
    have hcl := hcl.trans0 cdh13
    have hev5 := cdh13.at0 hev5
    have hop5 := cdh13.at0 hop5
    have ho := cdh13.at0 ho
    have hE := And.intro ho (And.intro hev5 hop5)
    refine WH.take 0 rfl (by kernel_rfl) (by kernel_rfl) (by kernel_rfl) (fun _ _ _ h => h) Gd.none rfl (fun w' ⟨hS', hE'⟩ => X.mv (s6)) ⟨hS, hE⟩ ?_
    refine WH.take 1 rfl (by kernel_rfl) (by kernel_rfl) (by kernel_rfl) (fun _ _ _ h => h) Gd.none rfl (fun w' ⟨hS', hE'⟩ => X.fieldAddr fd48_0 (lt rfl (s10))) ⟨hS, hE⟩ ?_
    refine WH.take 2 rfl (by kernel_rfl) (by kernel_rfl) (by kernel_rfl) (fun _ _ _ h => h) Gd.none rfl (fun w' ⟨hS', hE'⟩ => by obtain ⟨e1, e2, e3⟩ := hE'; exact X.load pl3 (lh) e1 (v := .int .i64 x.1) (by rfl)) ⟨hS, hE⟩ ?_
    refine WH.take 3 rfl (by kernel_rfl) (by kernel_rfl) (by kernel_rfl) (fun _ _ _ h => h) Gd.none rfl (fun w' ⟨hS', hE'⟩ => X.indexAddrA Tryd.underlying57 el9 (jt2 rfl (lt rfl (s5))) (lh) (by omega) (by omega)) ⟨hS, hE⟩ ?_
    refine WH.take 4 rfl (by kernel_rfl) (by kernel_rfl) (by kernel_rfl) (fun _ _ _ h => h) Gd.none rfl (fun w' ⟨hS', hE'⟩ => by obtain ⟨e1, e2, e3⟩ := hE'; exact X.load pl9 (lh) e3 (v := .string (bs (wordO x.1))) (by exact ow5 hxk.1 hxk.2)) ⟨hS, hE⟩ ?_
    refine WH.take 5 rfl (by kernel_rfl) (by kernel_rfl) (by kernel_rfl) (fun _ _ _ h => h) Gd.none rfl (fun w' ⟨hS', hE'⟩ => X.fieldAddr fd48_1 (jt4 rfl (lt rfl (s10)))) ⟨hS, hE⟩ ?_
    refine WH.take 6 rfl (by kernel_rfl) (by kernel_rfl) (by kernel_rfl) (fun _ _ _ h => h) Gd.none rfl (fun w' ⟨hS', hE'⟩ => by obtain ⟨e1, e2, e3⟩ := hE'; exact X.load pl9 (lh) e1 (v := .string x.2.1) (by rfl)) ⟨hS, hE⟩ ?_
    refine WH.one 7 rfl (by kernel_rfl) (fun _ _ h => h) ?_
    have hgb := bld_lt hb
    refine WL.bslice Tryd.underlying36 el9 rfl (pcons lc (pcons (jt2 rfl (lh)) (pcons lc (pcons (lh) pnil)))) rfl (rfl : _ = [_, _, _, _]) rfl ?_
    intro w19 us; have hsl := us.at_; have cus := us.ch
    have hb := bld_ch0 hb cus
    have hcl := hcl.trans0 cus
    have hev5 := cus.at0 hev5
    have hop5 := cus.at0 hop5
    have ho := cus.at0 ho
    have hE := And.intro ho (And.intro hev5 hop5)
    have hS := hS.trans cus (fun _ _ => id) (by intro i hi hg; first | exact hg | exact False.elim hg | omega | ((try dsimp only at hg ⊢); omega))
    refine WL.nil Nx.thn ⟨⟨hS, hE⟩, ?_⟩
    refine WH.one 8 rfl (by kernel_rfl) (fun _ _ h => h) ?_
    have hfl : ([⟨#[32, 91, 32]⟩, bs (wordO x.1), ⟨#[32]⟩, x.2.1] : List ByteArray).flatMap sb = opH x := by unfold opH; simp [sb_mk, sb_bs]
    have hgb2 := bld_lt hb
    refine WL.callv1 (caps := [.pointer (some ⟨w1.heap.size, 0, none⟩)]) ce27 (jt4 rfl (jt2 rfl (lt rfl (lh)))) (lh) (put_walk w1.heap.size w1.heap.size _ 4 4 [⟨#[32, 91, 32]⟩, bs (wordO x.1), ⟨#[32]⟩, x.2.1] (((l.take k).flatMap evT ++ hdT l[k] ++ (l[k].2.2.take q).flatMap opT)) w19 rfl hsl (Nat.ne_of_gt hgb) hb (Nat.le_of_lt hgb2) (by rw [hfl]; (try simp only [List.length_append, List.length_cons, List.length_nil]); omega) (by show 4 ≤ 100; omega)) rfl ?_
    rintro v5 w20 ⟨hb, hbk⟩
    have cpk := hbk.1
    rw [hfl] at hb
    have hcl := hcl.trans cpk (H := fun _ => False) (fun _ _ e => e) (fun q hq e => by (try dsimp only at e); omega)
    have hev5 := hbk.2 _ _ _ _ hev5 (by decide) (by omega)
    have hop5 := hbk.2 _ _ _ _ hop5 (by decide) (by omega)
    have ho := hbk.2 _ _ _ _ ho (by decide) (by omega)
    have hE := And.intro ho (And.intro hev5 hop5)
    have hS := hS.trans cpk (fun _ _ => id) (by intro i hi hg; first | exact hg | exact False.elim hg | omega | ((try dsimp only at hg ⊢); omega))
    refine WL.nil Nx.thn ⟨⟨hS, hE⟩, ?_⟩
    refine WH.done (by kernel_rfl) ?_
    refine WL.e11 Nx.thn 3 4 5 6 10 21 22 23 38 39 40 (jt8 rfl (lt rfl (s3))) (jt8 rfl (lt rfl (s4))) (jt8 rfl (lt rfl (s5))) (jt8 rfl (lt rfl (s6))) (jt8 rfl (lt rfl (s10))) (jt8 rfl (lt rfl (s21))) (jt8 rfl (lt rfl (s22))) (jt8 rfl (lt rfl (s23))) (jt8 rfl (lt rfl (s38))) (jt8 rfl (lt rfl (s39))) (jt8 rfl (lt rfl (s40))) ?_
    intro σ16 s3 s4 s5 s6 s10 s21 s22 s23 s38 s39 s40
    refine W.seq ?_
    refine W.block ?_
    refine W.seq ?_
    refine W.region ?_
    refine WL.x (X.fieldAddr fd48_5 (s10)) rfl ?_
    refine WL.x (X.load pl4 (lh) (by first | assumption | exact hS.at (by assumption) (by intro hne; first | exact hne | ((try dsimp only at hne); omega)) | exact hS.at (cu12_3.at (by assumption) (by intro hne; first | exact hne | ((try dsimp only at hne); omega))) (by intro hne; first | exact hne | ((try dsimp only at hne); omega))) (by first | rfl | assumption)) rfl ?_
    refine WL.x (X.asg (lh)) rfl ?_
    refine WL.e12 Nx.thn 3 4 5 6 10 21 22 23 38 39 40 53 (jt2 rfl (lt rfl (s3))) (jt2 rfl (lt rfl (s4))) (jt2 rfl (lt rfl (s5))) (jt2 rfl (lt rfl (s6))) (jt2 rfl (lt rfl (s10))) (jt2 rfl (lt rfl (s21))) (jt2 rfl (lt rfl (s22))) (jt2 rfl (lt rfl (s23))) (jt2 rfl (lt rfl (s38))) (jt2 rfl (lt rfl (s39))) (jt2 rfl (lt rfl (s40))) (lh) ?_
    intro σ17 s3 s4 s5 s6 s10 s21 s22 s23 s38 s39 s40 s53
    refine W.cnd s53 (fun qn => ?_) (fun qn => ?_)
    ·
     refine W.region ?_
     refine WL.x (X.mv (s6)) rfl ?_
     have hgb := bld_lt hb
     refine WL.bslice Tryd.underlying36 el9 rfl (pcons lc pnil) rfl (rfl : _ = [_]) rfl ?_
     intro w21 us; have hsl := us.at_; have cus := us.ch
     have hb := bld_ch0 hb cus
     have hcl := hcl.trans0 cus
     have hev5 := cus.at0 hev5
     have hop5 := cus.at0 hop5
     have hfl : ([⟨#[32, 110, 105, 108]⟩] : List ByteArray).flatMap sb = [32, 110, 105, 108] := by rfl
     have hgb2 := bld_lt hb
     refine WL.callv1 (caps := [.pointer (some ⟨w1.heap.size, 0, none⟩)]) ce27 (lt rfl (lh)) (lh) (put_walk w1.heap.size w1.heap.size _ 1 1 [⟨#[32, 110, 105, 108]⟩] ((((l.take k).flatMap evT ++ hdT l[k] ++ (l[k].2.2.take q).flatMap opT) ++ opH x)) w21 rfl hsl (Nat.ne_of_gt hgb) hb (Nat.le_of_lt hgb2) (by rw [hfl]; (try simp only [List.length_append, List.length_cons, List.length_nil]); omega) (by show 1 ≤ 100; omega)) rfl ?_
     rintro v5 w22 ⟨hb, hbk⟩
     have cpk := hbk.1
     rw [hfl] at hb
     have hcl := hcl.trans cpk (H := fun _ => False) (fun _ _ e => e) (fun q hq e => by (try dsimp only at e); omega)
     have hev5 := hbk.2 _ _ _ _ hev5 (by decide) (by omega)
     have hop5 := hbk.2 _ _ _ _ hop5 (by decide) (by omega)
     have hb : IsB w1.heap.size w1.heap.size ((((l.take k).flatMap evT ++ hdT l[k] ++ (l[k].2.2.take q).flatMap opT) ++ opH x) ++ midT x) w22 := by rw [mid_nil qn]; exact hb
     refine WL.e10 (Nx.blk Nx.thn) 3 4 5 6 21 22 23 38 39 40 (jt2 rfl (lt rfl (s3))) (jt2 rfl (lt rfl (s4))) (jt2 rfl (lt rfl (s5))) (jt2 rfl (lt rfl (s6))) (jt2 rfl (lt rfl (s21))) (jt2 rfl (lt rfl (s22))) (jt2 rfl (lt rfl (s23))) (jt2 rfl (lt rfl (s38))) (jt2 rfl (lt rfl (s39))) (jt2 rfl (lt rfl (s40))) ?_
     intro σ18 s3 s4 s5 s6 s21 s22 s23 s38 s39 s40
     refine W.region ?_
     refine WL.x (X.mv (s6)) rfl ?_
     have hb : IsB w1.heap.size w1.heap.size ((((l.take k).flatMap evT ++ hdT l[k] ++ (l[k].2.2.take q).flatMap opT) ++ opH x) ++ midT x) w22 := by first | exact hb | (rw [mid_02 (x := x) (by simpa using qn) (by first | assumption | (simp_all; done)) (by first | exact .inl (Classical.not_not.1 k2) | exact .inr (Classical.not_not.1 k4) | (simp_all; done)), List.append_nil]; exact hb)
     have hgb := bld_lt hb
     refine WL.bslice Tryd.underlying36 el9 rfl (pcons lc pnil) rfl (rfl : _ = [_]) rfl ?_
     intro w23 us; have hsl := us.at_; have cus := us.ch
     have hb := bld_ch0 hb cus
     have hcl := hcl.trans0 cus
     have hev5 := cus.at0 hev5
     have hop5 := cus.at0 hop5
     have hfl : ([⟨#[32, 93]⟩] : List ByteArray).flatMap sb = [32, 93] := by rfl
     have hgb2 := bld_lt hb
     refine WL.callv1 (caps := [.pointer (some ⟨w1.heap.size, 0, none⟩)]) ce27 (lt rfl (lh)) (lh) (put_walk w1.heap.size w1.heap.size _ 1 1 [⟨#[32, 93]⟩] ((((l.take k).flatMap evT ++ hdT l[k] ++ (l[k].2.2.take q).flatMap opT) ++ opH x) ++ midT x) w23 rfl hsl (Nat.ne_of_gt hgb) hb (Nat.le_of_lt hgb2) (by rw [hfl]; (try simp only [List.length_append, List.length_cons, List.length_nil]); omega) (by show 1 ≤ 100; omega)) rfl ?_
     rintro v5 w24 ⟨hb, hbk⟩
     have cpk := hbk.1
     rw [hfl] at hb
     have hcl := hcl.trans cpk (H := fun _ => False) (fun _ _ e => e) (fun q hq e => by (try dsimp only at e); omega)
     have hev5 := hbk.2 _ _ _ _ hev5 (by decide) (by omega)
     have hop5 := hbk.2 _ _ _ _ hop5 (by decide) (by omega)
     refine WL.e10 (Nx.blk Nx.thn) 3 4 5 6 21 22 23 38 39 40 (jt2 rfl (lt rfl (s3))) (jt2 rfl (lt rfl (s4))) (jt2 rfl (lt rfl (s5))) (jt2 rfl (lt rfl (s6))) (jt2 rfl (lt rfl (s21))) (jt2 rfl (lt rfl (s22))) (jt2 rfl (lt rfl (s23))) (jt2 rfl (lt rfl (s38))) (jt2 rfl (lt rfl (s39))) (jt2 rfl (lt rfl (s40))) ?_
     intro σ19 s3 s4 s5 s6 s21 s22 s23 s38 s39 s40
     refine W.region ?_
     first | refine WL.x (X.add (s40) lc (by omega) (by omega)) rfl ?_ | refine WL.x (X.addw (s40) lc) rfl ?_
     refine WL.x (X.mv (lh)) rfl ?_
     refine WL.e10 Nx.thn 3 4 5 6 21 22 23 38 39 40 (jt2 rfl (s3)) (jt2 rfl (s4)) (jt2 rfl (s5)) (jt2 rfl (s6)) (jt2 rfl (s21)) (jt2 rfl (s22)) (jt2 rfl (s23)) (jt2 rfl (s38)) (jt2 rfl (s39)) (lh) ?_
     intro σ20 s3 s4 s5 s6 s21 s22 s23 s38 s39 s40
     refine ⟨q + 1, by omega, ⟨s3.trans qo9.symm, s4.trans qo10.symm, s5.trans qo11.symm, s6.trans qo12.symm, s21.trans qo13.symm, s22.trans qo14.symm, s23.trans qo15.symm, s38.trans qo16.symm, s39.trans qo17.symm, trivial⟩, s40, (by rw [hnx, ← opH_eq]; simpa only [List.append_assoc] using hb), hev5, hop5, by omega, hcl⟩
    ·
     refine W.seq ?_
     refine W.region ?_
     refine WL.x (X.fieldAddr fd48_0 (s10)) rfl ?_
     refine WL.x (X.load pl3 (lh) (by first | assumption | exact hS.at (by assumption) (by intro hne; first | exact hne | ((try dsimp only at hne); omega)) | exact hS.at (cu12_3.at (by assumption) (by intro hne; first | exact hne | ((try dsimp only at hne); omega))) (by intro hne; first | exact hne | ((try dsimp only at hne); omega))) (by first | rfl | assumption)) rfl ?_
     refine WL.x (X.eql (lh) lc) rfl ?_
     refine WL.x (X.mv (lh)) rfl ?_
     refine WL.splitp (lh) (fun q2 => ?_) (fun q2 => ?_)
     ·
      refine WL.yes rfl rfl (lh) (decide_eq_true q2) ?_
      refine WL.x (X.fieldAddr fd48_4 (jt4 rfl (s10))) rfl ?_
      refine WL.yes rfl rfl (lt rfl (lh)) (decide_eq_true q2) ?_
      refine WL.x (X.load pl4 (lh) (by first | assumption | exact hS.at (by assumption) (by intro hne; first | exact hne | ((try dsimp only at hne); omega)) | exact hS.at (cu12_3.at (by assumption) (by intro hne; first | exact hne | ((try dsimp only at hne); omega))) (by intro hne; first | exact hne | ((try dsimp only at hne); omega))) (by first | rfl | assumption)) rfl ?_
      refine WL.x (X.pickT (jt2 rfl (lh)) (decide_eq_true q2) (lh)) rfl ?_
      refine WL.x (X.asg (lh)) rfl ?_
      refine WL.e12 Nx.thn 3 4 5 6 10 21 22 23 38 39 40 59 (jt8 rfl (s3)) (jt8 rfl (s4)) (jt8 rfl (s5)) (jt8 rfl (s6)) (jt8 rfl (s10)) (jt8 rfl (s21)) (jt8 rfl (s22)) (jt8 rfl (s23)) (jt8 rfl (s38)) (jt8 rfl (s39)) (jt8 rfl (s40)) (lh) ?_
      intro σ21 s3 s4 s5 s6 s10 s21 s22 s23 s38 s39 s40 s59
      refine W.cnd s59 (fun qh => ?_) (fun qh => ?_)
      ·
       refine W.seq ?_
       refine W.region ?_
       refine WL.x (X.mv (s6)) rfl ?_
       have hgb := bld_lt hb
       refine WL.bslice Tryd.underlying36 el9 rfl (pcons lc pnil) rfl (rfl : _ = [_]) rfl ?_
       intro w25 us; have hsl := us.at_; have cus := us.ch
       have hb := bld_ch0 hb cus
       have hcl := hcl.trans0 cus
       have hev5 := cus.at0 hev5
       have hop5 := cus.at0 hop5
       have ho := cus.at0 ho
       have hfl : ([⟨#[32, 40]⟩] : List ByteArray).flatMap sb = [32, 40] := by rfl
       have hgb2 := bld_lt hb
       refine WL.callv1 (caps := [.pointer (some ⟨w1.heap.size, 0, none⟩)]) ce27 (lt rfl (lh)) (lh) (put_walk w1.heap.size w1.heap.size _ 1 1 [⟨#[32, 40]⟩] ((((l.take k).flatMap evT ++ hdT l[k] ++ (l[k].2.2.take q).flatMap opT) ++ opH x)) w25 rfl hsl (Nat.ne_of_gt hgb) hb (Nat.le_of_lt hgb2) (by rw [hfl]; (try simp only [List.length_append, List.length_cons, List.length_nil]); omega) (by show 1 ≤ 100; omega)) rfl ?_
       rintro v5 w26 ⟨hb, hbk⟩
       have cpk := hbk.1
       rw [hfl] at hb
       have hcl := hcl.trans cpk (H := fun _ => False) (fun _ _ e => e) (fun q hq e => by (try dsimp only at e); omega)
       have hev5 := hbk.2 _ _ _ _ hev5 (by decide) (by omega)
       have hop5 := hbk.2 _ _ _ _ hop5 (by decide) (by omega)
       have ho := hbk.2 _ _ _ _ ho (by decide) (by omega)
       refine WL.e11 Nx.thn 3 4 5 6 10 21 22 23 38 39 40 (jt2 rfl (lt rfl (s3))) (jt2 rfl (lt rfl (s4))) (jt2 rfl (lt rfl (s5))) (jt2 rfl (lt rfl (s6))) (jt2 rfl (lt rfl (s10))) (jt2 rfl (lt rfl (s21))) (jt2 rfl (lt rfl (s22))) (jt2 rfl (lt rfl (s23))) (jt2 rfl (lt rfl (s38))) (jt2 rfl (lt rfl (s39))) (jt2 rfl (lt rfl (s40))) ?_
       intro σ22 s3 s4 s5 s6 s10 s21 s22 s23 s38 s39 s40
       refine W.seq ?_
       refine W.seq ?_
       refine W.region ?_
       refine WL.x (X.fieldAddr fd48_3 (s10)) rfl ?_
       refine WL.x (v := .slice va2 x.2.2.2.1.length vc2) (X.load pl46 (lh) ho rfl) rfl ?_
       refine WL.x (X.lenSl Tryd.underlying46 (lh)) rfl ?_
       refine WL.x (X.mv lc) rfl ?_
       refine WL.e13 Nx.thn 3 4 5 6 21 22 23 38 39 40 71 72 73 (jt4 rfl (s3)) (jt4 rfl (s4)) (jt4 rfl (s5)) (jt4 rfl (s6)) (jt4 rfl (s21)) (jt4 rfl (s22)) (jt4 rfl (s23)) (jt4 rfl (s38)) (jt4 rfl (s39)) (jt4 rfl (s40)) (jt2 rfl (lh)) (lt rfl (lh)) (lh) ?_
       intro σ23 s3 s4 s5 s6 s21 s22 s23 s38 s39 s40 s71 s72 s73
       refine W.block ?_
       have qo20 := s3
       have qo21 := s4
       have qo22 := s5
       have qo23 := s6
       have qo24 := s21
       have qo25 := s22
       have qo26 := s23
       have qo27 := s38
       have qo28 := s39
       have qo29 := s40
       have qo30 := s71
       have qo31 := s72
       -- loop 2: kept [3, 4, 5, 6, 21, 22, 23, 38, 39, 40, 71, 72], varied [73]
       refine W.loop (G := Nat) (fun j σ' w' => (σ' 3 = σ23 3 ∧ σ' 4 = σ23 4 ∧ σ' 5 = σ23 5 ∧ σ' 6 = σ23 6 ∧ σ' 21 = σ23 21 ∧ σ' 22 = σ23 22 ∧ σ' 23 = σ23 23 ∧ σ' 38 = σ23 38 ∧ σ' 39 = σ23 39 ∧ σ' 40 = σ23 40 ∧ σ' 71 = σ23 71 ∧ σ' 72 = σ23 72 ∧ True) ∧ (σ' 73 = .int .i64 (j : Int) ∧ IsB w1.heap.size w1.heap.size ((((l.take k).flatMap evT ++ hdT l[k] ++ (l[k].2.2.take q).flatMap opT) ++ opH x) ++ [32, 40] ++ (x.2.2.2.1.take j).flatMap valT) w' ∧ w'.heap[w3.heap.size]? = some (.cells #[.string ⟨#[]⟩, .string ⟨#[105, 110, 118, 111, 107, 101]⟩, .string ⟨#[111, 107]⟩, .string ⟨#[102, 97, 105, 108]⟩, .string ⟨#[105, 110, 102, 111]⟩] 57 (0, 0)) ∧ w'.heap[w4.heap.size]? = some (.cells #[.string ⟨#[]⟩, .string ⟨#[97, 112, 112, 101, 110, 100]⟩, .string ⟨#[114, 101, 97, 100]⟩, .string ⟨#[119, 114, 105, 116, 101]⟩, .string ⟨#[103, 101, 116]⟩] 57 (0, 0)) ∧ j ≤ x.2.2.2.1.length ∧ Ch0 w w')) (fun j => x.2.2.2.1.length - j) (0) ⟨⟨rfl, rfl, rfl, rfl, rfl, rfl, rfl, rfl, rfl, rfl, rfl, rfl, trivial⟩, s73, (by simpa using hb), hev5, hop5, by omega, hcl⟩ ?_
       rintro j σ24 w27 ⟨⟨f3, f4, f5, f6, f21, f22, f23, f38, f39, f40, f71, f72, _⟩, s73, hb, hev5, hop5, hjk, hcl⟩
       have s3 := f3.trans qo20
       have s4 := f4.trans qo21
       have s5 := f5.trans qo22
       have s6 := f6.trans qo23
       have s21 := f21.trans qo24
       have s22 := f22.trans qo25
       have s23 := f23.trans qo26
       have s38 := f38.trans qo27
       have s39 := f39.trans qo28
       have s40 := f40.trans qo29
       have s71 := f71.trans qo30
       have s72 := f72.trans qo31
       refine W.seq ?_
       refine W.region ?_
       refine WL.x (X.lss (s73) (s72)) rfl ?_
       refine WL.e14 Nx.thn 3 4 5 6 21 22 23 38 39 40 71 72 73 74 (lt rfl (s3)) (lt rfl (s4)) (lt rfl (s5)) (lt rfl (s6)) (lt rfl (s21)) (lt rfl (s22)) (lt rfl (s23)) (lt rfl (s38)) (lt rfl (s39)) (lt rfl (s40)) (lt rfl (s71)) (lt rfl (s72)) (lt rfl (s73)) (lh) ?_
       intro σ25 s3 s4 s5 s6 s21 s22 s23 s38 s39 s40 s71 s72 s73 s74
       refine W.seq ?_
       refine W.cndp s74 (fun hj => ?_) (fun hj => ?_)
       ·
        have hjl : j < x.2.2.2.1.length := by omega
        obtain ⟨gb, og, csg, Tg, frg, rfl, hg1, hg2⟩ := hs2.1.at (k := j) (by rw [List.length_map]; omega)
        have hzj := hxo.2.2.2 x.2.2.2.1[j] (List.getElem_mem hjl)
        have hvl := vals_len hxo j
        have hvj := valT_len hzj
        refine W.skip Nx.thn ?_
        refine W.seq ?_
        refine W.block ?_
        refine W.seq ?_
        refine W.region ?_
        refine WL.x (X.indexAddr Tryd.underlying46 el3 (s71) (s73) (by omega) (by omega)) rfl ?_
        refine WL.x (X.load pl3 (lh) (hcl.at0 hg1) (v := .int .i64 x.2.2.2.1[j]) (by rw [show og + (j : Int).toNat * 1 = og + j by omega, hg2 j (by rw [List.length_map]; omega), List.getElem?_map, List.getElem?_eq_getElem (by omega)]; rfl)) rfl ?_
        refine WL.x (X.asg (lh)) rfl ?_
        refine WL.e14 Nx.thn 3 4 5 6 12 21 22 23 38 39 40 71 72 73 (jt2 rfl (lt rfl (s3))) (jt2 rfl (lt rfl (s4))) (jt2 rfl (lt rfl (s5))) (jt2 rfl (lt rfl (s6))) (lh) (jt2 rfl (lt rfl (s21))) (jt2 rfl (lt rfl (s22))) (jt2 rfl (lt rfl (s23))) (jt2 rfl (lt rfl (s38))) (jt2 rfl (lt rfl (s39))) (jt2 rfl (lt rfl (s40))) (jt2 rfl (lt rfl (s71))) (jt2 rfl (lt rfl (s72))) (jt2 rfl (lt rfl (s73))) ?_
        intro σ26 s3 s4 s5 s6 s12 s21 s22 s23 s38 s39 s40 s71 s72 s73
        refine W.region ?_
        refine WL.x (X.mv (s6)) rfl ?_
        refine WL.x (X.mv (lt rfl (s12))) rfl ?_
        refine WL.call1 ce29 (lh) (itoa_ok x.2.2.2.1[j] w27 hzj.1 hzj.2 (tab_ch0 hTab hcl)) rfl ?_
        rintro _ w28 ⟨rfl, ci⟩
        have hb := bld_ch0 hb ci
        have hcl := hcl.trans0 ci
        have hev5 := ci.at0 hev5
        have hop5 := ci.at0 hop5
        have hgb := bld_lt hb
        refine WL.bslice Tryd.underlying36 el9 rfl (pcons lc (pcons (lh) pnil)) rfl (rfl : _ = [_, _]) rfl ?_
        intro w29 us; have hsl := us.at_; have cus := us.ch
        have hb := bld_ch0 hb cus
        have hcl := hcl.trans0 cus
        have hev5 := cus.at0 hev5
        have hop5 := cus.at0 hop5
        have hfl : ([⟨#[32]⟩, bs (Lib.itoa x.2.2.2.1[j])] : List ByteArray).flatMap sb = valT x.2.2.2.1[j] := by unfold valT; simp [sb_mk, sb_bs]
        have hgb2 := bld_lt hb
        refine WL.callv1 (caps := [.pointer (some ⟨w1.heap.size, 0, none⟩)]) ce27 (jt2 rfl (lt rfl (lh))) (lh) (put_walk w1.heap.size w1.heap.size _ 2 2 [⟨#[32]⟩, bs (Lib.itoa x.2.2.2.1[j])] ((((l.take k).flatMap evT ++ hdT l[k] ++ (l[k].2.2.take q).flatMap opT) ++ opH x) ++ [32, 40] ++ (x.2.2.2.1.take j).flatMap valT) w29 rfl hsl (Nat.ne_of_gt hgb) hb (Nat.le_of_lt hgb2) (by rw [hfl]; (try simp only [List.length_append, List.length_cons, List.length_nil]); omega) (by show 2 ≤ 100; omega)) rfl ?_
        rintro v5 w30 ⟨hb, hbk⟩
        have cpk := hbk.1
        rw [hfl] at hb
        have hcl := hcl.trans cpk (H := fun _ => False) (fun _ _ e => e) (fun q hq e => by (try dsimp only at e); omega)
        have hev5 := hbk.2 _ _ _ _ hev5 (by decide) (by omega)
        have hop5 := hbk.2 _ _ _ _ hop5 (by decide) (by omega)
        refine WL.e13 (Nx.blk Nx.thn) 3 4 5 6 21 22 23 38 39 40 71 72 73 (jt4 rfl (lt rfl (s3))) (jt4 rfl (lt rfl (s4))) (jt4 rfl (lt rfl (s5))) (jt4 rfl (lt rfl (s6))) (jt4 rfl (lt rfl (s21))) (jt4 rfl (lt rfl (s22))) (jt4 rfl (lt rfl (s23))) (jt4 rfl (lt rfl (s38))) (jt4 rfl (lt rfl (s39))) (jt4 rfl (lt rfl (s40))) (jt4 rfl (lt rfl (s71))) (jt4 rfl (lt rfl (s72))) (jt4 rfl (lt rfl (s73))) ?_
        intro σ27 s3 s4 s5 s6 s21 s22 s23 s38 s39 s40 s71 s72 s73
        refine W.region ?_
        first | refine WL.x (X.add (s73) lc (by omega) (by omega)) rfl ?_ | refine WL.x (X.addw (s73) lc) rfl ?_
        refine WL.x (X.mv (lh)) rfl ?_
        refine WL.e13 Nx.thn 3 4 5 6 21 22 23 38 39 40 71 72 73 (jt2 rfl (s3)) (jt2 rfl (s4)) (jt2 rfl (s5)) (jt2 rfl (s6)) (jt2 rfl (s21)) (jt2 rfl (s22)) (jt2 rfl (s23)) (jt2 rfl (s38)) (jt2 rfl (s39)) (jt2 rfl (s40)) (jt2 rfl (s71)) (jt2 rfl (s72)) (lh) ?_
        intro σ28 s3 s4 s5 s6 s21 s22 s23 s38 s39 s40 s71 s72 s73
        refine ⟨j + 1, by omega, ⟨s3.trans qo20.symm, s4.trans qo21.symm, s5.trans qo22.symm, s6.trans qo23.symm, s21.trans qo24.symm, s22.trans qo25.symm, s23.trans qo26.symm, s38.trans qo27.symm, s39.trans qo28.symm, s40.trans qo29.symm, s71.trans qo30.symm, s72.trans qo31.symm, trivial⟩, s73, (by rw [vals_next hjl]; simpa only [List.append_assoc] using hb), hev5, hop5, by omega, hcl⟩
       ·
        have hvl := vals_len hxo j
        refine W.exit (Nx.xthn (Nx.xthn (Nx.xblk Nx.thn))) ?_
        refine W.region ?_
        refine WL.x (X.mv (s6)) rfl ?_
        have hgb := bld_lt hb
        refine WL.bslice Tryd.underlying36 el9 rfl (pcons lc pnil) rfl (rfl : _ = [_]) rfl ?_
        intro w31 us; have hsl := us.at_; have cus := us.ch
        have hb := bld_ch0 hb cus
        have hcl := hcl.trans0 cus
        have hev5 := cus.at0 hev5
        have hop5 := cus.at0 hop5
        have hfl : ([⟨#[32, 41]⟩] : List ByteArray).flatMap sb = [32, 41] := by rfl
        have hgb2 := bld_lt hb
        refine WL.callv1 (caps := [.pointer (some ⟨w1.heap.size, 0, none⟩)]) ce27 (lt rfl (lh)) (lh) (put_walk w1.heap.size w1.heap.size _ 1 1 [⟨#[32, 41]⟩] ((((l.take k).flatMap evT ++ hdT l[k] ++ (l[k].2.2.take q).flatMap opT) ++ opH x) ++ [32, 40] ++ (x.2.2.2.1.take j).flatMap valT) w31 rfl hsl (Nat.ne_of_gt hgb) hb (Nat.le_of_lt hgb2) (by rw [hfl]; (try simp only [List.length_append, List.length_cons, List.length_nil]); omega) (by show 1 ≤ 100; omega)) rfl ?_
        rintro v5 w32 ⟨hb, hbk⟩
        have cpk := hbk.1
        rw [hfl] at hb
        have hcl := hcl.trans cpk (H := fun _ => False) (fun _ _ e => e) (fun q hq e => by (try dsimp only at e); omega)
        have hev5 := hbk.2 _ _ _ _ hev5 (by decide) (by omega)
        have hop5 := hbk.2 _ _ _ _ hop5 (by decide) (by omega)
        have hb : IsB w1.heap.size w1.heap.size ((((l.take k).flatMap evT ++ hdT l[k] ++ (l[k].2.2.take q).flatMap opT) ++ opH x) ++ midT x) w32 := by rw [mid_l2 (by simpa using qn) q2 qh]; rw [show j = x.2.2.2.1.length by omega, List.take_length] at hb; simpa only [List.append_assoc] using hb
        refine WL.e10 (Nx.blk Nx.thn) 3 4 5 6 21 22 23 38 39 40 (jt2 rfl (lt rfl (s3))) (jt2 rfl (lt rfl (s4))) (jt2 rfl (lt rfl (s5))) (jt2 rfl (lt rfl (s6))) (jt2 rfl (lt rfl (s21))) (jt2 rfl (lt rfl (s22))) (jt2 rfl (lt rfl (s23))) (jt2 rfl (lt rfl (s38))) (jt2 rfl (lt rfl (s39))) (jt2 rfl (lt rfl (s40))) ?_
        intro σ29 s3 s4 s5 s6 s21 s22 s23 s38 s39 s40
        refine W.region ?_
        refine WL.x (X.mv (s6)) rfl ?_
        have hb : IsB w1.heap.size w1.heap.size ((((l.take k).flatMap evT ++ hdT l[k] ++ (l[k].2.2.take q).flatMap opT) ++ opH x) ++ midT x) w32 := by first | exact hb | (rw [mid_02 (x := x) (by simpa using qn) (by first | assumption | (simp_all; done)) (by first | exact .inl (Classical.not_not.1 k2) | exact .inr (Classical.not_not.1 k4) | (simp_all; done)), List.append_nil]; exact hb)
        have hgb := bld_lt hb
        refine WL.bslice Tryd.underlying36 el9 rfl (pcons lc pnil) rfl (rfl : _ = [_]) rfl ?_
        intro w33 us; have hsl := us.at_; have cus := us.ch
        have hb := bld_ch0 hb cus
        have hcl := hcl.trans0 cus
        have hev5 := cus.at0 hev5
        have hop5 := cus.at0 hop5
        have hfl : ([⟨#[32, 93]⟩] : List ByteArray).flatMap sb = [32, 93] := by rfl
        have hgb2 := bld_lt hb
        refine WL.callv1 (caps := [.pointer (some ⟨w1.heap.size, 0, none⟩)]) ce27 (lt rfl (lh)) (lh) (put_walk w1.heap.size w1.heap.size _ 1 1 [⟨#[32, 93]⟩] ((((l.take k).flatMap evT ++ hdT l[k] ++ (l[k].2.2.take q).flatMap opT) ++ opH x) ++ midT x) w33 rfl hsl (Nat.ne_of_gt hgb) hb (Nat.le_of_lt hgb2) (by rw [hfl]; (try simp only [List.length_append, List.length_cons, List.length_nil]); omega) (by show 1 ≤ 100; omega)) rfl ?_
        rintro v5 w34 ⟨hb, hbk⟩
        have cpk := hbk.1
        rw [hfl] at hb
        have hcl := hcl.trans cpk (H := fun _ => False) (fun _ _ e => e) (fun q hq e => by (try dsimp only at e); omega)
        have hev5 := hbk.2 _ _ _ _ hev5 (by decide) (by omega)
        have hop5 := hbk.2 _ _ _ _ hop5 (by decide) (by omega)
        refine WL.e10 (Nx.blk Nx.thn) 3 4 5 6 21 22 23 38 39 40 (jt2 rfl (lt rfl (s3))) (jt2 rfl (lt rfl (s4))) (jt2 rfl (lt rfl (s5))) (jt2 rfl (lt rfl (s6))) (jt2 rfl (lt rfl (s21))) (jt2 rfl (lt rfl (s22))) (jt2 rfl (lt rfl (s23))) (jt2 rfl (lt rfl (s38))) (jt2 rfl (lt rfl (s39))) (jt2 rfl (lt rfl (s40))) ?_
        intro σ30 s3 s4 s5 s6 s21 s22 s23 s38 s39 s40
        refine W.region ?_
        first | refine WL.x (X.add (s40) lc (by omega) (by omega)) rfl ?_ | refine WL.x (X.addw (s40) lc) rfl ?_
        refine WL.x (X.mv (lh)) rfl ?_
        refine WL.e10 Nx.thn 3 4 5 6 21 22 23 38 39 40 (jt2 rfl (s3)) (jt2 rfl (s4)) (jt2 rfl (s5)) (jt2 rfl (s6)) (jt2 rfl (s21)) (jt2 rfl (s22)) (jt2 rfl (s23)) (jt2 rfl (s38)) (jt2 rfl (s39)) (lh) ?_
        intro σ31 s3 s4 s5 s6 s21 s22 s23 s38 s39 s40
        refine ⟨q + 1, by omega, ⟨s3.trans qo9.symm, s4.trans qo10.symm, s5.trans qo11.symm, s6.trans qo12.symm, s21.trans qo13.symm, s22.trans qo14.symm, s23.trans qo15.symm, s38.trans qo16.symm, s39.trans qo17.symm, trivial⟩, s40, (by rw [hnx, ← opH_eq]; simpa only [List.append_assoc] using hb), hev5, hop5, by omega, hcl⟩
      ·
       refine W.seq ?_
       refine W.region ?_
       refine WL.x (X.fieldAddr fd48_0 (s10)) rfl ?_
       refine WL.x (X.load pl3 (lh) (by first | assumption | exact hS.at (by assumption) (by intro hne; first | exact hne | ((try dsimp only at hne); omega)) | exact hS.at (cu12_3.at (by assumption) (by intro hne; first | exact hne | ((try dsimp only at hne); omega))) (by intro hne; first | exact hne | ((try dsimp only at hne); omega))) (by first | rfl | assumption)) rfl ?_
       refine WL.x (X.neq (lh) lc) rfl ?_
       refine WL.x (X.mv (lh)) rfl ?_
       refine WL.splitp (lh) (fun k2 => ?_) (fun k2 => ?_)
       ·
        refine WL.yes rfl rfl (lh) (decide_eq_true k2) ?_
        refine WL.x (X.fieldAddr fd48_0 (jt4 rfl (s10))) rfl ?_
        refine WL.yes rfl rfl (lt rfl (lh)) (decide_eq_true k2) ?_
        refine WL.x (X.load pl3 (lh) (by first | assumption | exact hS.at (by assumption) (by intro hne; first | exact hne | ((try dsimp only at hne); omega)) | exact hS.at (cu12_3.at (by assumption) (by intro hne; first | exact hne | ((try dsimp only at hne); omega))) (by intro hne; first | exact hne | ((try dsimp only at hne); omega))) (by first | rfl | assumption)) rfl ?_
        refine WL.yes rfl rfl (jt2 rfl (lh)) (decide_eq_true k2) ?_
        refine WL.x (X.neq (lh) lc) rfl ?_
        refine WL.yes rfl rfl (jt2 rfl (lt rfl (lh))) (decide_eq_true k2) ?_
        refine WL.x (X.mv (lh)) rfl ?_
        refine WL.splitp (lh) (fun k4 => ?_) (fun k4 => ?_)
        ·
         refine WL.no rfl rfl (lh) (decide_eq_true k4) rfl ?_
         refine WL.no rfl rfl (lt rfl (lh)) (decide_eq_true k4) rfl ?_
         refine WL.yes rfl rfl (jt4 rfl (jt2 rfl (lh))) (decide_eq_true k2) ?_
         refine WL.x (X.pickT (jt2 rfl (lh)) (decide_eq_true k4) lc) rfl ?_
         refine WL.x (X.pickT (jt4 rfl (jt2 rfl (lt rfl (lh)))) (decide_eq_true k2) (lh)) rfl ?_
         refine WL.x (X.asg (lh)) rfl ?_
         refine WL.e12 Nx.thn 3 4 5 6 10 21 22 23 38 39 40 86 (jt8 rfl (jt4 rfl (lt rfl (s3)))) (jt8 rfl (jt4 rfl (lt rfl (s4)))) (jt8 rfl (jt4 rfl (lt rfl (s5)))) (jt8 rfl (jt4 rfl (lt rfl (s6)))) (jt8 rfl (jt4 rfl (lt rfl (s10)))) (jt8 rfl (jt4 rfl (lt rfl (s21)))) (jt8 rfl (jt4 rfl (lt rfl (s22)))) (jt8 rfl (jt4 rfl (lt rfl (s23)))) (jt8 rfl (jt4 rfl (lt rfl (s38)))) (jt8 rfl (jt4 rfl (lt rfl (s39)))) (jt8 rfl (jt4 rfl (lt rfl (s40)))) (lh) ?_
         intro σ32 s3 s4 s5 s6 s10 s21 s22 s23 s38 s39 s40 s86
         refine W.cndT s86 ?_
         refine W.region ?_
         refine WL.x (X.mv (s6)) rfl ?_
         refine WL.x (X.fieldAddr fd48_2 (lt rfl (s10))) rfl ?_
         refine WL.x (X.load pl3 (lh) (by first | assumption | exact hS.at (by assumption) (by intro hne; first | exact hne | ((try dsimp only at hne); omega)) | exact hS.at (cu12_3.at (by assumption) (by intro hne; first | exact hne | ((try dsimp only at hne); omega))) (by intro hne; first | exact hne | ((try dsimp only at hne); omega))) (by first | rfl | assumption)) rfl ?_
         refine WL.call1 ce29 (lh) (itoa_ok x.2.2.1 w20 hxo.2.2.1.1 hxo.2.2.1.2 (tab_ch0 hTab hcl)) rfl ?_
         rintro _ w35 ⟨rfl, ci⟩
         have hb := bld_ch0 hb ci
         have hcl := hcl.trans0 ci
         have hev5 := ci.at0 hev5
         have hop5 := ci.at0 hop5
         have hmv := mid_v2 (x := x) (by simpa using qn) (by first | exact k2 | simp_all) (by first | exact .inl k4 | (simp_all; done))
         have hvv := valT_len hxo.2.2.1
         have hgb := bld_lt hb
         refine WL.bslice Tryd.underlying36 el9 rfl (pcons lc (pcons (lh) pnil)) rfl (rfl : _ = [_, _]) rfl ?_
         intro w36 us; have hsl := us.at_; have cus := us.ch
         have hb := bld_ch0 hb cus
         have hcl := hcl.trans0 cus
         have hev5 := cus.at0 hev5
         have hop5 := cus.at0 hop5
         have hfl : ([⟨#[32]⟩, bs (Lib.itoa x.2.2.1)] : List ByteArray).flatMap sb = valT x.2.2.1 := by unfold valT; simp [sb_mk, sb_bs]
         have hgb2 := bld_lt hb
         refine WL.callv1 (caps := [.pointer (some ⟨w1.heap.size, 0, none⟩)]) ce27 (jt4 rfl (lh)) (lh) (put_walk w1.heap.size w1.heap.size _ 2 2 [⟨#[32]⟩, bs (Lib.itoa x.2.2.1)] ((((l.take k).flatMap evT ++ hdT l[k] ++ (l[k].2.2.take q).flatMap opT) ++ opH x)) w36 rfl hsl (Nat.ne_of_gt hgb) hb (Nat.le_of_lt hgb2) (by rw [hfl]; (try simp only [List.length_append, List.length_cons, List.length_nil]); omega) (by show 2 ≤ 100; omega)) rfl ?_
         rintro v5 w37 ⟨hb, hbk⟩
         have cpk := hbk.1
         rw [hfl] at hb
         have hcl := hcl.trans cpk (H := fun _ => False) (fun _ _ e => e) (fun q hq e => by (try dsimp only at e); omega)
         have hev5 := hbk.2 _ _ _ _ hev5 (by decide) (by omega)
         have hop5 := hbk.2 _ _ _ _ hop5 (by decide) (by omega)
         have hb : IsB w1.heap.size w1.heap.size ((((l.take k).flatMap evT ++ hdT l[k] ++ (l[k].2.2.take q).flatMap opT) ++ opH x) ++ midT x) w37 := by rw [hmv]; exact hb
         refine WL.e10 (Nx.blk Nx.thn) 3 4 5 6 21 22 23 38 39 40 (jt4 rfl (jt2 rfl (s3))) (jt4 rfl (jt2 rfl (s4))) (jt4 rfl (jt2 rfl (s5))) (jt4 rfl (jt2 rfl (s6))) (jt4 rfl (jt2 rfl (s21))) (jt4 rfl (jt2 rfl (s22))) (jt4 rfl (jt2 rfl (s23))) (jt4 rfl (jt2 rfl (s38))) (jt4 rfl (jt2 rfl (s39))) (jt4 rfl (jt2 rfl (s40))) ?_
         intro σ33 s3 s4 s5 s6 s21 s22 s23 s38 s39 s40
         refine W.region ?_
         refine WL.x (X.mv (s6)) rfl ?_
         have hb : IsB w1.heap.size w1.heap.size ((((l.take k).flatMap evT ++ hdT l[k] ++ (l[k].2.2.take q).flatMap opT) ++ opH x) ++ midT x) w37 := by first | exact hb | (rw [mid_02 (x := x) (by simpa using qn) (by first | assumption | (simp_all; done)) (by first | exact .inl (Classical.not_not.1 k2) | exact .inr (Classical.not_not.1 k4) | (simp_all; done)), List.append_nil]; exact hb)
         have hgb := bld_lt hb
         refine WL.bslice Tryd.underlying36 el9 rfl (pcons lc pnil) rfl (rfl : _ = [_]) rfl ?_
         intro w38 us; have hsl := us.at_; have cus := us.ch
         have hb := bld_ch0 hb cus
         have hcl := hcl.trans0 cus
         have hev5 := cus.at0 hev5
         have hop5 := cus.at0 hop5
         have hfl : ([⟨#[32, 93]⟩] : List ByteArray).flatMap sb = [32, 93] := by rfl
         have hgb2 := bld_lt hb
         refine WL.callv1 (caps := [.pointer (some ⟨w1.heap.size, 0, none⟩)]) ce27 (lt rfl (lh)) (lh) (put_walk w1.heap.size w1.heap.size _ 1 1 [⟨#[32, 93]⟩] ((((l.take k).flatMap evT ++ hdT l[k] ++ (l[k].2.2.take q).flatMap opT) ++ opH x) ++ midT x) w38 rfl hsl (Nat.ne_of_gt hgb) hb (Nat.le_of_lt hgb2) (by rw [hfl]; (try simp only [List.length_append, List.length_cons, List.length_nil]); omega) (by show 1 ≤ 100; omega)) rfl ?_
         rintro v5 w39 ⟨hb, hbk⟩
         have cpk := hbk.1
         rw [hfl] at hb
         have hcl := hcl.trans cpk (H := fun _ => False) (fun _ _ e => e) (fun q hq e => by (try dsimp only at e); omega)
         have hev5 := hbk.2 _ _ _ _ hev5 (by decide) (by omega)
         have hop5 := hbk.2 _ _ _ _ hop5 (by decide) (by omega)
         refine WL.e10 (Nx.blk Nx.thn) 3 4 5 6 21 22 23 38 39 40 (jt2 rfl (lt rfl (s3))) (jt2 rfl (lt rfl (s4))) (jt2 rfl (lt rfl (s5))) (jt2 rfl (lt rfl (s6))) (jt2 rfl (lt rfl (s21))) (jt2 rfl (lt rfl (s22))) (jt2 rfl (lt rfl (s23))) (jt2 rfl (lt rfl (s38))) (jt2 rfl (lt rfl (s39))) (jt2 rfl (lt rfl (s40))) ?_
         intro σ34 s3 s4 s5 s6 s21 s22 s23 s38 s39 s40
         refine W.region ?_
         first | refine WL.x (X.add (s40) lc (by omega) (by omega)) rfl ?_ | refine WL.x (X.addw (s40) lc) rfl ?_
         refine WL.x (X.mv (lh)) rfl ?_
         refine WL.e10 Nx.thn 3 4 5 6 21 22 23 38 39 40 (jt2 rfl (s3)) (jt2 rfl (s4)) (jt2 rfl (s5)) (jt2 rfl (s6)) (jt2 rfl (s21)) (jt2 rfl (s22)) (jt2 rfl (s23)) (jt2 rfl (s38)) (jt2 rfl (s39)) (lh) ?_
         intro σ35 s3 s4 s5 s6 s21 s22 s23 s38 s39 s40
         refine ⟨q + 1, by omega, ⟨s3.trans qo9.symm, s4.trans qo10.symm, s5.trans qo11.symm, s6.trans qo12.symm, s21.trans qo13.symm, s22.trans qo14.symm, s23.trans qo15.symm, s38.trans qo16.symm, s39.trans qo17.symm, trivial⟩, s40, (by rw [hnx, ← opH_eq]; simpa only [List.append_assoc] using hb), hev5, hop5, by omega, hcl⟩
        ·
         refine WL.yes rfl rfl (lh) (decide_eq_false k4) ?_
         refine WL.x (X.fieldAddr fd48_4 (jt8 rfl (s10))) rfl ?_
         refine WL.yes rfl rfl (lt rfl (lh)) (decide_eq_false k4) ?_
         refine WL.x (X.load pl4 (lh) (by first | assumption | exact hS.at (by assumption) (by intro hne; first | exact hne | ((try dsimp only at hne); omega)) | exact hS.at (cu12_3.at (by assumption) (by intro hne; first | exact hne | ((try dsimp only at hne); omega))) (by intro hne; first | exact hne | ((try dsimp only at hne); omega))) (by first | rfl | assumption)) rfl ?_
         refine WL.yes rfl rfl (jt4 rfl (jt2 rfl (lh))) (decide_eq_true k2) ?_
         refine WL.x (X.pickF (jt2 rfl (lh)) (decide_eq_false k4) (lh)) rfl ?_
         refine WL.x (X.pickT (jt4 rfl (jt2 rfl (lt rfl (lh)))) (decide_eq_true k2) (lh)) rfl ?_
         refine WL.x (X.asg (lh)) rfl ?_
         refine WL.e12 Nx.thn 3 4 5 6 10 21 22 23 38 39 40 86 (jt8 rfl (jt4 rfl (lt rfl (s3)))) (jt8 rfl (jt4 rfl (lt rfl (s4)))) (jt8 rfl (jt4 rfl (lt rfl (s5)))) (jt8 rfl (jt4 rfl (lt rfl (s6)))) (jt8 rfl (jt4 rfl (lt rfl (s10)))) (jt8 rfl (jt4 rfl (lt rfl (s21)))) (jt8 rfl (jt4 rfl (lt rfl (s22)))) (jt8 rfl (jt4 rfl (lt rfl (s23)))) (jt8 rfl (jt4 rfl (lt rfl (s38)))) (jt8 rfl (jt4 rfl (lt rfl (s39)))) (jt8 rfl (jt4 rfl (lt rfl (s40)))) (lh) ?_
         intro σ36 s3 s4 s5 s6 s10 s21 s22 s23 s38 s39 s40 s86
         refine W.cnd s86 (fun kh => ?_) (fun kh => ?_)
         ·
          refine W.region ?_
          refine WL.x (X.mv (s6)) rfl ?_
          refine WL.x (X.fieldAddr fd48_2 (lt rfl (s10))) rfl ?_
          refine WL.x (X.load pl3 (lh) (by first | assumption | exact hS.at (by assumption) (by intro hne; first | exact hne | ((try dsimp only at hne); omega)) | exact hS.at (cu12_3.at (by assumption) (by intro hne; first | exact hne | ((try dsimp only at hne); omega))) (by intro hne; first | exact hne | ((try dsimp only at hne); omega))) (by first | rfl | assumption)) rfl ?_
          refine WL.call1 ce29 (lh) (itoa_ok x.2.2.1 w20 hxo.2.2.1.1 hxo.2.2.1.2 (tab_ch0 hTab hcl)) rfl ?_
          rintro _ w40 ⟨rfl, ci⟩
          have hb := bld_ch0 hb ci
          have hcl := hcl.trans0 ci
          have hev5 := ci.at0 hev5
          have hop5 := ci.at0 hop5
          have hmv := mid_v2 (x := x) (by simpa using qn) (by first | exact k2 | simp_all) (by first | exact .inl k4 | (simp_all; done))
          have hvv := valT_len hxo.2.2.1
          have hgb := bld_lt hb
          refine WL.bslice Tryd.underlying36 el9 rfl (pcons lc (pcons (lh) pnil)) rfl (rfl : _ = [_, _]) rfl ?_
          intro w41 us; have hsl := us.at_; have cus := us.ch
          have hb := bld_ch0 hb cus
          have hcl := hcl.trans0 cus
          have hev5 := cus.at0 hev5
          have hop5 := cus.at0 hop5
          have hfl : ([⟨#[32]⟩, bs (Lib.itoa x.2.2.1)] : List ByteArray).flatMap sb = valT x.2.2.1 := by unfold valT; simp [sb_mk, sb_bs]
          have hgb2 := bld_lt hb
          refine WL.callv1 (caps := [.pointer (some ⟨w1.heap.size, 0, none⟩)]) ce27 (jt4 rfl (lh)) (lh) (put_walk w1.heap.size w1.heap.size _ 2 2 [⟨#[32]⟩, bs (Lib.itoa x.2.2.1)] ((((l.take k).flatMap evT ++ hdT l[k] ++ (l[k].2.2.take q).flatMap opT) ++ opH x)) w41 rfl hsl (Nat.ne_of_gt hgb) hb (Nat.le_of_lt hgb2) (by rw [hfl]; (try simp only [List.length_append, List.length_cons, List.length_nil]); omega) (by show 2 ≤ 100; omega)) rfl ?_
          rintro v5 w42 ⟨hb, hbk⟩
          have cpk := hbk.1
          rw [hfl] at hb
          have hcl := hcl.trans cpk (H := fun _ => False) (fun _ _ e => e) (fun q hq e => by (try dsimp only at e); omega)
          have hev5 := hbk.2 _ _ _ _ hev5 (by decide) (by omega)
          have hop5 := hbk.2 _ _ _ _ hop5 (by decide) (by omega)
          have hb : IsB w1.heap.size w1.heap.size ((((l.take k).flatMap evT ++ hdT l[k] ++ (l[k].2.2.take q).flatMap opT) ++ opH x) ++ midT x) w42 := by rw [hmv]; exact hb
          refine WL.e10 (Nx.blk Nx.thn) 3 4 5 6 21 22 23 38 39 40 (jt4 rfl (jt2 rfl (s3))) (jt4 rfl (jt2 rfl (s4))) (jt4 rfl (jt2 rfl (s5))) (jt4 rfl (jt2 rfl (s6))) (jt4 rfl (jt2 rfl (s21))) (jt4 rfl (jt2 rfl (s22))) (jt4 rfl (jt2 rfl (s23))) (jt4 rfl (jt2 rfl (s38))) (jt4 rfl (jt2 rfl (s39))) (jt4 rfl (jt2 rfl (s40))) ?_
          intro σ37 s3 s4 s5 s6 s21 s22 s23 s38 s39 s40
          refine W.region ?_
          refine WL.x (X.mv (s6)) rfl ?_
          have hb : IsB w1.heap.size w1.heap.size ((((l.take k).flatMap evT ++ hdT l[k] ++ (l[k].2.2.take q).flatMap opT) ++ opH x) ++ midT x) w42 := by first | exact hb | (rw [mid_02 (x := x) (by simpa using qn) (by first | assumption | (simp_all; done)) (by first | exact .inl (Classical.not_not.1 k2) | exact .inr (Classical.not_not.1 k4) | (simp_all; done)), List.append_nil]; exact hb)
          have hgb := bld_lt hb
          refine WL.bslice Tryd.underlying36 el9 rfl (pcons lc pnil) rfl (rfl : _ = [_]) rfl ?_
          intro w43 us; have hsl := us.at_; have cus := us.ch
          have hb := bld_ch0 hb cus
          have hcl := hcl.trans0 cus
          have hev5 := cus.at0 hev5
          have hop5 := cus.at0 hop5
          have hfl : ([⟨#[32, 93]⟩] : List ByteArray).flatMap sb = [32, 93] := by rfl
          have hgb2 := bld_lt hb
          refine WL.callv1 (caps := [.pointer (some ⟨w1.heap.size, 0, none⟩)]) ce27 (lt rfl (lh)) (lh) (put_walk w1.heap.size w1.heap.size _ 1 1 [⟨#[32, 93]⟩] ((((l.take k).flatMap evT ++ hdT l[k] ++ (l[k].2.2.take q).flatMap opT) ++ opH x) ++ midT x) w43 rfl hsl (Nat.ne_of_gt hgb) hb (Nat.le_of_lt hgb2) (by rw [hfl]; (try simp only [List.length_append, List.length_cons, List.length_nil]); omega) (by show 1 ≤ 100; omega)) rfl ?_
          rintro v5 w44 ⟨hb, hbk⟩
          have cpk := hbk.1
          rw [hfl] at hb
          have hcl := hcl.trans cpk (H := fun _ => False) (fun _ _ e => e) (fun q hq e => by (try dsimp only at e); omega)
          have hev5 := hbk.2 _ _ _ _ hev5 (by decide) (by omega)
          have hop5 := hbk.2 _ _ _ _ hop5 (by decide) (by omega)
          refine WL.e10 (Nx.blk Nx.thn) 3 4 5 6 21 22 23 38 39 40 (jt2 rfl (lt rfl (s3))) (jt2 rfl (lt rfl (s4))) (jt2 rfl (lt rfl (s5))) (jt2 rfl (lt rfl (s6))) (jt2 rfl (lt rfl (s21))) (jt2 rfl (lt rfl (s22))) (jt2 rfl (lt rfl (s23))) (jt2 rfl (lt rfl (s38))) (jt2 rfl (lt rfl (s39))) (jt2 rfl (lt rfl (s40))) ?_
          intro σ38 s3 s4 s5 s6 s21 s22 s23 s38 s39 s40
          refine W.region ?_
          first | refine WL.x (X.add (s40) lc (by omega) (by omega)) rfl ?_ | refine WL.x (X.addw (s40) lc) rfl ?_
          refine WL.x (X.mv (lh)) rfl ?_
          refine WL.e10 Nx.thn 3 4 5 6 21 22 23 38 39 40 (jt2 rfl (s3)) (jt2 rfl (s4)) (jt2 rfl (s5)) (jt2 rfl (s6)) (jt2 rfl (s21)) (jt2 rfl (s22)) (jt2 rfl (s23)) (jt2 rfl (s38)) (jt2 rfl (s39)) (lh) ?_
          intro σ39 s3 s4 s5 s6 s21 s22 s23 s38 s39 s40
          refine ⟨q + 1, by omega, ⟨s3.trans qo9.symm, s4.trans qo10.symm, s5.trans qo11.symm, s6.trans qo12.symm, s21.trans qo13.symm, s22.trans qo14.symm, s23.trans qo15.symm, s38.trans qo16.symm, s39.trans qo17.symm, trivial⟩, s40, (by rw [hnx, ← opH_eq]; simpa only [List.append_assoc] using hb), hev5, hop5, by omega, hcl⟩
         ·
          refine W.skip (Nx.blk Nx.thn) ?_
          refine W.region ?_
          refine WL.x (X.mv (s6)) rfl ?_
          have hb : IsB w1.heap.size w1.heap.size ((((l.take k).flatMap evT ++ hdT l[k] ++ (l[k].2.2.take q).flatMap opT) ++ opH x) ++ midT x) w20 := by first | exact hb | (rw [mid_02 (x := x) (by simpa using qn) (by first | assumption | (simp_all; done)) (by first | exact .inl (Classical.not_not.1 k2) | exact .inr (Classical.not_not.1 k4) | (simp_all; done)), List.append_nil]; exact hb)
          have hgb := bld_lt hb
          refine WL.bslice Tryd.underlying36 el9 rfl (pcons lc pnil) rfl (rfl : _ = [_]) rfl ?_
          intro w45 us; have hsl := us.at_; have cus := us.ch
          have hb := bld_ch0 hb cus
          have hcl := hcl.trans0 cus
          have hev5 := cus.at0 hev5
          have hop5 := cus.at0 hop5
          have hfl : ([⟨#[32, 93]⟩] : List ByteArray).flatMap sb = [32, 93] := by rfl
          have hgb2 := bld_lt hb
          refine WL.callv1 (caps := [.pointer (some ⟨w1.heap.size, 0, none⟩)]) ce27 (lt rfl (lh)) (lh) (put_walk w1.heap.size w1.heap.size _ 1 1 [⟨#[32, 93]⟩] ((((l.take k).flatMap evT ++ hdT l[k] ++ (l[k].2.2.take q).flatMap opT) ++ opH x) ++ midT x) w45 rfl hsl (Nat.ne_of_gt hgb) hb (Nat.le_of_lt hgb2) (by rw [hfl]; (try simp only [List.length_append, List.length_cons, List.length_nil]); omega) (by show 1 ≤ 100; omega)) rfl ?_
          rintro v5 w46 ⟨hb, hbk⟩
          have cpk := hbk.1
          rw [hfl] at hb
          have hcl := hcl.trans cpk (H := fun _ => False) (fun _ _ e => e) (fun q hq e => by (try dsimp only at e); omega)
          have hev5 := hbk.2 _ _ _ _ hev5 (by decide) (by omega)
          have hop5 := hbk.2 _ _ _ _ hop5 (by decide) (by omega)
          refine WL.e10 (Nx.blk Nx.thn) 3 4 5 6 21 22 23 38 39 40 (jt2 rfl (lt rfl (s3))) (jt2 rfl (lt rfl (s4))) (jt2 rfl (lt rfl (s5))) (jt2 rfl (lt rfl (s6))) (jt2 rfl (lt rfl (s21))) (jt2 rfl (lt rfl (s22))) (jt2 rfl (lt rfl (s23))) (jt2 rfl (lt rfl (s38))) (jt2 rfl (lt rfl (s39))) (jt2 rfl (lt rfl (s40))) ?_
          intro σ40 s3 s4 s5 s6 s21 s22 s23 s38 s39 s40
          refine W.region ?_
          first | refine WL.x (X.add (s40) lc (by omega) (by omega)) rfl ?_ | refine WL.x (X.addw (s40) lc) rfl ?_
          refine WL.x (X.mv (lh)) rfl ?_
          refine WL.e10 Nx.thn 3 4 5 6 21 22 23 38 39 40 (jt2 rfl (s3)) (jt2 rfl (s4)) (jt2 rfl (s5)) (jt2 rfl (s6)) (jt2 rfl (s21)) (jt2 rfl (s22)) (jt2 rfl (s23)) (jt2 rfl (s38)) (jt2 rfl (s39)) (lh) ?_
          intro σ41 s3 s4 s5 s6 s21 s22 s23 s38 s39 s40
          refine ⟨q + 1, by omega, ⟨s3.trans qo9.symm, s4.trans qo10.symm, s5.trans qo11.symm, s6.trans qo12.symm, s21.trans qo13.symm, s22.trans qo14.symm, s23.trans qo15.symm, s38.trans qo16.symm, s39.trans qo17.symm, trivial⟩, s40, (by rw [hnx, ← opH_eq]; simpa only [List.append_assoc] using hb), hev5, hop5, by omega, hcl⟩
       ·
        refine WL.no rfl rfl (lh) (decide_eq_false k2) rfl ?_
        refine WL.no rfl rfl (lt rfl (lh)) (decide_eq_false k2) rfl ?_
        refine WL.no rfl rfl (jt2 rfl (lh)) (decide_eq_false k2) rfl ?_
        refine WL.no rfl rfl (jt2 rfl (lt rfl (lh))) (decide_eq_false k2) rfl ?_
        refine WL.nou rfl (lh) rfl ?_
        refine WL.nou rfl (lt rfl (lh)) rfl ?_
        refine WL.no rfl rfl (jt4 rfl (jt2 rfl (lh))) (decide_eq_false k2) rfl ?_
        refine WL.x (X.pickF (jt4 rfl (jt2 rfl (lt rfl (lh)))) (decide_eq_false k2) lc) rfl ?_
        refine WL.x (X.asg (lh)) rfl ?_
        refine WL.e12 Nx.thn 3 4 5 6 10 21 22 23 38 39 40 86 (jt8 rfl (jt4 rfl (lt rfl (s3)))) (jt8 rfl (jt4 rfl (lt rfl (s4)))) (jt8 rfl (jt4 rfl (lt rfl (s5)))) (jt8 rfl (jt4 rfl (lt rfl (s6)))) (jt8 rfl (jt4 rfl (lt rfl (s10)))) (jt8 rfl (jt4 rfl (lt rfl (s21)))) (jt8 rfl (jt4 rfl (lt rfl (s22)))) (jt8 rfl (jt4 rfl (lt rfl (s23)))) (jt8 rfl (jt4 rfl (lt rfl (s38)))) (jt8 rfl (jt4 rfl (lt rfl (s39)))) (jt8 rfl (jt4 rfl (lt rfl (s40)))) (lh) ?_
        intro σ42 s3 s4 s5 s6 s10 s21 s22 s23 s38 s39 s40 s86
        refine W.cndF s86 ?_
        refine W.skip (Nx.blk Nx.thn) ?_
        refine W.region ?_
        refine WL.x (X.mv (s6)) rfl ?_
        have hb : IsB w1.heap.size w1.heap.size ((((l.take k).flatMap evT ++ hdT l[k] ++ (l[k].2.2.take q).flatMap opT) ++ opH x) ++ midT x) w20 := by first | exact hb | (rw [mid_02 (x := x) (by simpa using qn) (by first | assumption | (simp_all; done)) (by first | exact .inl (Classical.not_not.1 k2) | exact .inr (Classical.not_not.1 k4) | (simp_all; done)), List.append_nil]; exact hb)
        have hgb := bld_lt hb
        refine WL.bslice Tryd.underlying36 el9 rfl (pcons lc pnil) rfl (rfl : _ = [_]) rfl ?_
        intro w47 us; have hsl := us.at_; have cus := us.ch
        have hb := bld_ch0 hb cus
        have hcl := hcl.trans0 cus
        have hev5 := cus.at0 hev5
        have hop5 := cus.at0 hop5
        have hfl : ([⟨#[32, 93]⟩] : List ByteArray).flatMap sb = [32, 93] := by rfl
        have hgb2 := bld_lt hb
        refine WL.callv1 (caps := [.pointer (some ⟨w1.heap.size, 0, none⟩)]) ce27 (lt rfl (lh)) (lh) (put_walk w1.heap.size w1.heap.size _ 1 1 [⟨#[32, 93]⟩] ((((l.take k).flatMap evT ++ hdT l[k] ++ (l[k].2.2.take q).flatMap opT) ++ opH x) ++ midT x) w47 rfl hsl (Nat.ne_of_gt hgb) hb (Nat.le_of_lt hgb2) (by rw [hfl]; (try simp only [List.length_append, List.length_cons, List.length_nil]); omega) (by show 1 ≤ 100; omega)) rfl ?_
        rintro v5 w48 ⟨hb, hbk⟩
        have cpk := hbk.1
        rw [hfl] at hb
        have hcl := hcl.trans cpk (H := fun _ => False) (fun _ _ e => e) (fun q hq e => by (try dsimp only at e); omega)
        have hev5 := hbk.2 _ _ _ _ hev5 (by decide) (by omega)
        have hop5 := hbk.2 _ _ _ _ hop5 (by decide) (by omega)
        refine WL.e10 (Nx.blk Nx.thn) 3 4 5 6 21 22 23 38 39 40 (jt2 rfl (lt rfl (s3))) (jt2 rfl (lt rfl (s4))) (jt2 rfl (lt rfl (s5))) (jt2 rfl (lt rfl (s6))) (jt2 rfl (lt rfl (s21))) (jt2 rfl (lt rfl (s22))) (jt2 rfl (lt rfl (s23))) (jt2 rfl (lt rfl (s38))) (jt2 rfl (lt rfl (s39))) (jt2 rfl (lt rfl (s40))) ?_
        intro σ43 s3 s4 s5 s6 s21 s22 s23 s38 s39 s40
        refine W.region ?_
        first | refine WL.x (X.add (s40) lc (by omega) (by omega)) rfl ?_ | refine WL.x (X.addw (s40) lc) rfl ?_
        refine WL.x (X.mv (lh)) rfl ?_
        refine WL.e10 Nx.thn 3 4 5 6 21 22 23 38 39 40 (jt2 rfl (s3)) (jt2 rfl (s4)) (jt2 rfl (s5)) (jt2 rfl (s6)) (jt2 rfl (s21)) (jt2 rfl (s22)) (jt2 rfl (s23)) (jt2 rfl (s38)) (jt2 rfl (s39)) (lh) ?_
        intro σ44 s3 s4 s5 s6 s21 s22 s23 s38 s39 s40
        refine ⟨q + 1, by omega, ⟨s3.trans qo9.symm, s4.trans qo10.symm, s5.trans qo11.symm, s6.trans qo12.symm, s21.trans qo13.symm, s22.trans qo14.symm, s23.trans qo15.symm, s38.trans qo16.symm, s39.trans qo17.symm, trivial⟩, s40, (by rw [hnx, ← opH_eq]; simpa only [List.append_assoc] using hb), hev5, hop5, by omega, hcl⟩
     ·
      refine WL.no rfl rfl (lh) (decide_eq_false q2) rfl ?_
      refine WL.no rfl rfl (lt rfl (lh)) (decide_eq_false q2) rfl ?_
      refine WL.x (X.pickF (jt2 rfl (lh)) (decide_eq_false q2) lc) rfl ?_
      refine WL.x (X.asg (lh)) rfl ?_
      refine WL.e12 Nx.thn 3 4 5 6 10 21 22 23 38 39 40 59 (jt8 rfl (s3)) (jt8 rfl (s4)) (jt8 rfl (s5)) (jt8 rfl (s6)) (jt8 rfl (s10)) (jt8 rfl (s21)) (jt8 rfl (s22)) (jt8 rfl (s23)) (jt8 rfl (s38)) (jt8 rfl (s39)) (jt8 rfl (s40)) (lh) ?_
      intro σ45 s3 s4 s5 s6 s10 s21 s22 s23 s38 s39 s40 s59
      refine W.cndF s59 ?_
      refine W.seq ?_
      refine W.region ?_
      refine WL.x (X.fieldAddr fd48_0 (s10)) rfl ?_
      refine WL.x (X.load pl3 (lh) (by first | assumption | exact hS.at (by assumption) (by intro hne; first | exact hne | ((try dsimp only at hne); omega)) | exact hS.at (cu12_3.at (by assumption) (by intro hne; first | exact hne | ((try dsimp only at hne); omega))) (by intro hne; first | exact hne | ((try dsimp only at hne); omega))) (by first | rfl | assumption)) rfl ?_
      refine WL.x (X.neq (lh) lc) rfl ?_
      refine WL.x (X.mv (lh)) rfl ?_
      refine WL.splitp (lh) (fun k2 => ?_) (fun k2 => ?_)
      ·
       refine WL.yes rfl rfl (lh) (decide_eq_true k2) ?_
       refine WL.x (X.fieldAddr fd48_0 (jt4 rfl (s10))) rfl ?_
       refine WL.yes rfl rfl (lt rfl (lh)) (decide_eq_true k2) ?_
       refine WL.x (X.load pl3 (lh) (by first | assumption | exact hS.at (by assumption) (by intro hne; first | exact hne | ((try dsimp only at hne); omega)) | exact hS.at (cu12_3.at (by assumption) (by intro hne; first | exact hne | ((try dsimp only at hne); omega))) (by intro hne; first | exact hne | ((try dsimp only at hne); omega))) (by first | rfl | assumption)) rfl ?_
       refine WL.yes rfl rfl (jt2 rfl (lh)) (decide_eq_true k2) ?_
       refine WL.x (X.neq (lh) lc) rfl ?_
       refine WL.yes rfl rfl (jt2 rfl (lt rfl (lh))) (decide_eq_true k2) ?_
       refine WL.x (X.mv (lh)) rfl ?_
       refine WL.splitp (lh) (fun k4 => ?_) (fun k4 => ?_)
       ·
        refine WL.no rfl rfl (lh) (decide_eq_true k4) rfl ?_
        refine WL.no rfl rfl (lt rfl (lh)) (decide_eq_true k4) rfl ?_
        refine WL.yes rfl rfl (jt4 rfl (jt2 rfl (lh))) (decide_eq_true k2) ?_
        refine WL.x (X.pickT (jt2 rfl (lh)) (decide_eq_true k4) lc) rfl ?_
        refine WL.x (X.pickT (jt4 rfl (jt2 rfl (lt rfl (lh)))) (decide_eq_true k2) (lh)) rfl ?_
        refine WL.x (X.asg (lh)) rfl ?_
        refine WL.e12 Nx.thn 3 4 5 6 10 21 22 23 38 39 40 86 (jt8 rfl (jt4 rfl (lt rfl (s3)))) (jt8 rfl (jt4 rfl (lt rfl (s4)))) (jt8 rfl (jt4 rfl (lt rfl (s5)))) (jt8 rfl (jt4 rfl (lt rfl (s6)))) (jt8 rfl (jt4 rfl (lt rfl (s10)))) (jt8 rfl (jt4 rfl (lt rfl (s21)))) (jt8 rfl (jt4 rfl (lt rfl (s22)))) (jt8 rfl (jt4 rfl (lt rfl (s23)))) (jt8 rfl (jt4 rfl (lt rfl (s38)))) (jt8 rfl (jt4 rfl (lt rfl (s39)))) (jt8 rfl (jt4 rfl (lt rfl (s40)))) (lh) ?_
        intro σ46 s3 s4 s5 s6 s10 s21 s22 s23 s38 s39 s40 s86
        refine W.cndT s86 ?_
        refine W.region ?_
        refine WL.x (X.mv (s6)) rfl ?_
        refine WL.x (X.fieldAddr fd48_2 (lt rfl (s10))) rfl ?_
        refine WL.x (X.load pl3 (lh) (by first | assumption | exact hS.at (by assumption) (by intro hne; first | exact hne | ((try dsimp only at hne); omega)) | exact hS.at (cu12_3.at (by assumption) (by intro hne; first | exact hne | ((try dsimp only at hne); omega))) (by intro hne; first | exact hne | ((try dsimp only at hne); omega))) (by first | rfl | assumption)) rfl ?_
        refine WL.call1 ce29 (lh) (itoa_ok x.2.2.1 w20 hxo.2.2.1.1 hxo.2.2.1.2 (tab_ch0 hTab hcl)) rfl ?_
        rintro _ w49 ⟨rfl, ci⟩
        have hb := bld_ch0 hb ci
        have hcl := hcl.trans0 ci
        have hev5 := ci.at0 hev5
        have hop5 := ci.at0 hop5
        have hmv := mid_v2 (x := x) (by simpa using qn) (by first | exact k2 | simp_all) (by first | exact .inl k4 | (simp_all; done))
        have hvv := valT_len hxo.2.2.1
        have hgb := bld_lt hb
        refine WL.bslice Tryd.underlying36 el9 rfl (pcons lc (pcons (lh) pnil)) rfl (rfl : _ = [_, _]) rfl ?_
        intro w50 us; have hsl := us.at_; have cus := us.ch
        have hb := bld_ch0 hb cus
        have hcl := hcl.trans0 cus
        have hev5 := cus.at0 hev5
        have hop5 := cus.at0 hop5
        have hfl : ([⟨#[32]⟩, bs (Lib.itoa x.2.2.1)] : List ByteArray).flatMap sb = valT x.2.2.1 := by unfold valT; simp [sb_mk, sb_bs]
        have hgb2 := bld_lt hb
        refine WL.callv1 (caps := [.pointer (some ⟨w1.heap.size, 0, none⟩)]) ce27 (jt4 rfl (lh)) (lh) (put_walk w1.heap.size w1.heap.size _ 2 2 [⟨#[32]⟩, bs (Lib.itoa x.2.2.1)] ((((l.take k).flatMap evT ++ hdT l[k] ++ (l[k].2.2.take q).flatMap opT) ++ opH x)) w50 rfl hsl (Nat.ne_of_gt hgb) hb (Nat.le_of_lt hgb2) (by rw [hfl]; (try simp only [List.length_append, List.length_cons, List.length_nil]); omega) (by show 2 ≤ 100; omega)) rfl ?_
        rintro v5 w51 ⟨hb, hbk⟩
        have cpk := hbk.1
        rw [hfl] at hb
        have hcl := hcl.trans cpk (H := fun _ => False) (fun _ _ e => e) (fun q hq e => by (try dsimp only at e); omega)
        have hev5 := hbk.2 _ _ _ _ hev5 (by decide) (by omega)
        have hop5 := hbk.2 _ _ _ _ hop5 (by decide) (by omega)
        have hb : IsB w1.heap.size w1.heap.size ((((l.take k).flatMap evT ++ hdT l[k] ++ (l[k].2.2.take q).flatMap opT) ++ opH x) ++ midT x) w51 := by rw [hmv]; exact hb
        refine WL.e10 (Nx.blk Nx.thn) 3 4 5 6 21 22 23 38 39 40 (jt4 rfl (jt2 rfl (s3))) (jt4 rfl (jt2 rfl (s4))) (jt4 rfl (jt2 rfl (s5))) (jt4 rfl (jt2 rfl (s6))) (jt4 rfl (jt2 rfl (s21))) (jt4 rfl (jt2 rfl (s22))) (jt4 rfl (jt2 rfl (s23))) (jt4 rfl (jt2 rfl (s38))) (jt4 rfl (jt2 rfl (s39))) (jt4 rfl (jt2 rfl (s40))) ?_
        intro σ47 s3 s4 s5 s6 s21 s22 s23 s38 s39 s40
        refine W.region ?_
        refine WL.x (X.mv (s6)) rfl ?_
        have hb : IsB w1.heap.size w1.heap.size ((((l.take k).flatMap evT ++ hdT l[k] ++ (l[k].2.2.take q).flatMap opT) ++ opH x) ++ midT x) w51 := by first | exact hb | (rw [mid_02 (x := x) (by simpa using qn) (by first | assumption | (simp_all; done)) (by first | exact .inl (Classical.not_not.1 k2) | exact .inr (Classical.not_not.1 k4) | (simp_all; done)), List.append_nil]; exact hb)
        have hgb := bld_lt hb
        refine WL.bslice Tryd.underlying36 el9 rfl (pcons lc pnil) rfl (rfl : _ = [_]) rfl ?_
        intro w52 us; have hsl := us.at_; have cus := us.ch
        have hb := bld_ch0 hb cus
        have hcl := hcl.trans0 cus
        have hev5 := cus.at0 hev5
        have hop5 := cus.at0 hop5
        have hfl : ([⟨#[32, 93]⟩] : List ByteArray).flatMap sb = [32, 93] := by rfl
        have hgb2 := bld_lt hb
        refine WL.callv1 (caps := [.pointer (some ⟨w1.heap.size, 0, none⟩)]) ce27 (lt rfl (lh)) (lh) (put_walk w1.heap.size w1.heap.size _ 1 1 [⟨#[32, 93]⟩] ((((l.take k).flatMap evT ++ hdT l[k] ++ (l[k].2.2.take q).flatMap opT) ++ opH x) ++ midT x) w52 rfl hsl (Nat.ne_of_gt hgb) hb (Nat.le_of_lt hgb2) (by rw [hfl]; (try simp only [List.length_append, List.length_cons, List.length_nil]); omega) (by show 1 ≤ 100; omega)) rfl ?_
        rintro v5 w53 ⟨hb, hbk⟩
        have cpk := hbk.1
        rw [hfl] at hb
        have hcl := hcl.trans cpk (H := fun _ => False) (fun _ _ e => e) (fun q hq e => by (try dsimp only at e); omega)
        have hev5 := hbk.2 _ _ _ _ hev5 (by decide) (by omega)
        have hop5 := hbk.2 _ _ _ _ hop5 (by decide) (by omega)
        refine WL.e10 (Nx.blk Nx.thn) 3 4 5 6 21 22 23 38 39 40 (jt2 rfl (lt rfl (s3))) (jt2 rfl (lt rfl (s4))) (jt2 rfl (lt rfl (s5))) (jt2 rfl (lt rfl (s6))) (jt2 rfl (lt rfl (s21))) (jt2 rfl (lt rfl (s22))) (jt2 rfl (lt rfl (s23))) (jt2 rfl (lt rfl (s38))) (jt2 rfl (lt rfl (s39))) (jt2 rfl (lt rfl (s40))) ?_
        intro σ48 s3 s4 s5 s6 s21 s22 s23 s38 s39 s40
        refine W.region ?_
        first | refine WL.x (X.add (s40) lc (by omega) (by omega)) rfl ?_ | refine WL.x (X.addw (s40) lc) rfl ?_
        refine WL.x (X.mv (lh)) rfl ?_
        refine WL.e10 Nx.thn 3 4 5 6 21 22 23 38 39 40 (jt2 rfl (s3)) (jt2 rfl (s4)) (jt2 rfl (s5)) (jt2 rfl (s6)) (jt2 rfl (s21)) (jt2 rfl (s22)) (jt2 rfl (s23)) (jt2 rfl (s38)) (jt2 rfl (s39)) (lh) ?_
        intro σ49 s3 s4 s5 s6 s21 s22 s23 s38 s39 s40
        refine ⟨q + 1, by omega, ⟨s3.trans qo9.symm, s4.trans qo10.symm, s5.trans qo11.symm, s6.trans qo12.symm, s21.trans qo13.symm, s22.trans qo14.symm, s23.trans qo15.symm, s38.trans qo16.symm, s39.trans qo17.symm, trivial⟩, s40, (by rw [hnx, ← opH_eq]; simpa only [List.append_assoc] using hb), hev5, hop5, by omega, hcl⟩
       ·
        refine WL.yes rfl rfl (lh) (decide_eq_false k4) ?_
        refine WL.x (X.fieldAddr fd48_4 (jt8 rfl (s10))) rfl ?_
        refine WL.yes rfl rfl (lt rfl (lh)) (decide_eq_false k4) ?_
        refine WL.x (X.load pl4 (lh) (by first | assumption | exact hS.at (by assumption) (by intro hne; first | exact hne | ((try dsimp only at hne); omega)) | exact hS.at (cu12_3.at (by assumption) (by intro hne; first | exact hne | ((try dsimp only at hne); omega))) (by intro hne; first | exact hne | ((try dsimp only at hne); omega))) (by first | rfl | assumption)) rfl ?_
        refine WL.yes rfl rfl (jt4 rfl (jt2 rfl (lh))) (decide_eq_true k2) ?_
        refine WL.x (X.pickF (jt2 rfl (lh)) (decide_eq_false k4) (lh)) rfl ?_
        refine WL.x (X.pickT (jt4 rfl (jt2 rfl (lt rfl (lh)))) (decide_eq_true k2) (lh)) rfl ?_
        refine WL.x (X.asg (lh)) rfl ?_
        refine WL.e12 Nx.thn 3 4 5 6 10 21 22 23 38 39 40 86 (jt8 rfl (jt4 rfl (lt rfl (s3)))) (jt8 rfl (jt4 rfl (lt rfl (s4)))) (jt8 rfl (jt4 rfl (lt rfl (s5)))) (jt8 rfl (jt4 rfl (lt rfl (s6)))) (jt8 rfl (jt4 rfl (lt rfl (s10)))) (jt8 rfl (jt4 rfl (lt rfl (s21)))) (jt8 rfl (jt4 rfl (lt rfl (s22)))) (jt8 rfl (jt4 rfl (lt rfl (s23)))) (jt8 rfl (jt4 rfl (lt rfl (s38)))) (jt8 rfl (jt4 rfl (lt rfl (s39)))) (jt8 rfl (jt4 rfl (lt rfl (s40)))) (lh) ?_
        intro σ50 s3 s4 s5 s6 s10 s21 s22 s23 s38 s39 s40 s86
        refine W.cnd s86 (fun kh => ?_) (fun kh => ?_)
        ·
         refine W.region ?_
         refine WL.x (X.mv (s6)) rfl ?_
         refine WL.x (X.fieldAddr fd48_2 (lt rfl (s10))) rfl ?_
         refine WL.x (X.load pl3 (lh) (by first | assumption | exact hS.at (by assumption) (by intro hne; first | exact hne | ((try dsimp only at hne); omega)) | exact hS.at (cu12_3.at (by assumption) (by intro hne; first | exact hne | ((try dsimp only at hne); omega))) (by intro hne; first | exact hne | ((try dsimp only at hne); omega))) (by first | rfl | assumption)) rfl ?_
         refine WL.call1 ce29 (lh) (itoa_ok x.2.2.1 w20 hxo.2.2.1.1 hxo.2.2.1.2 (tab_ch0 hTab hcl)) rfl ?_
         rintro _ w54 ⟨rfl, ci⟩
         have hb := bld_ch0 hb ci
         have hcl := hcl.trans0 ci
         have hev5 := ci.at0 hev5
         have hop5 := ci.at0 hop5
         have hmv := mid_v2 (x := x) (by simpa using qn) (by first | exact k2 | simp_all) (by first | exact .inl k4 | (simp_all; done))
         have hvv := valT_len hxo.2.2.1
         have hgb := bld_lt hb
         refine WL.bslice Tryd.underlying36 el9 rfl (pcons lc (pcons (lh) pnil)) rfl (rfl : _ = [_, _]) rfl ?_
         intro w55 us; have hsl := us.at_; have cus := us.ch
         have hb := bld_ch0 hb cus
         have hcl := hcl.trans0 cus
         have hev5 := cus.at0 hev5
         have hop5 := cus.at0 hop5
         have hfl : ([⟨#[32]⟩, bs (Lib.itoa x.2.2.1)] : List ByteArray).flatMap sb = valT x.2.2.1 := by unfold valT; simp [sb_mk, sb_bs]
         have hgb2 := bld_lt hb
         refine WL.callv1 (caps := [.pointer (some ⟨w1.heap.size, 0, none⟩)]) ce27 (jt4 rfl (lh)) (lh) (put_walk w1.heap.size w1.heap.size _ 2 2 [⟨#[32]⟩, bs (Lib.itoa x.2.2.1)] ((((l.take k).flatMap evT ++ hdT l[k] ++ (l[k].2.2.take q).flatMap opT) ++ opH x)) w55 rfl hsl (Nat.ne_of_gt hgb) hb (Nat.le_of_lt hgb2) (by rw [hfl]; (try simp only [List.length_append, List.length_cons, List.length_nil]); omega) (by show 2 ≤ 100; omega)) rfl ?_
         rintro v5 w56 ⟨hb, hbk⟩
         have cpk := hbk.1
         rw [hfl] at hb
         have hcl := hcl.trans cpk (H := fun _ => False) (fun _ _ e => e) (fun q hq e => by (try dsimp only at e); omega)
         have hev5 := hbk.2 _ _ _ _ hev5 (by decide) (by omega)
         have hop5 := hbk.2 _ _ _ _ hop5 (by decide) (by omega)
         have hb : IsB w1.heap.size w1.heap.size ((((l.take k).flatMap evT ++ hdT l[k] ++ (l[k].2.2.take q).flatMap opT) ++ opH x) ++ midT x) w56 := by rw [hmv]; exact hb
         refine WL.e10 (Nx.blk Nx.thn) 3 4 5 6 21 22 23 38 39 40 (jt4 rfl (jt2 rfl (s3))) (jt4 rfl (jt2 rfl (s4))) (jt4 rfl (jt2 rfl (s5))) (jt4 rfl (jt2 rfl (s6))) (jt4 rfl (jt2 rfl (s21))) (jt4 rfl (jt2 rfl (s22))) (jt4 rfl (jt2 rfl (s23))) (jt4 rfl (jt2 rfl (s38))) (jt4 rfl (jt2 rfl (s39))) (jt4 rfl (jt2 rfl (s40))) ?_
         intro σ51 s3 s4 s5 s6 s21 s22 s23 s38 s39 s40
         refine W.region ?_
         refine WL.x (X.mv (s6)) rfl ?_
         have hb : IsB w1.heap.size w1.heap.size ((((l.take k).flatMap evT ++ hdT l[k] ++ (l[k].2.2.take q).flatMap opT) ++ opH x) ++ midT x) w56 := by first | exact hb | (rw [mid_02 (x := x) (by simpa using qn) (by first | assumption | (simp_all; done)) (by first | exact .inl (Classical.not_not.1 k2) | exact .inr (Classical.not_not.1 k4) | (simp_all; done)), List.append_nil]; exact hb)
         have hgb := bld_lt hb
         refine WL.bslice Tryd.underlying36 el9 rfl (pcons lc pnil) rfl (rfl : _ = [_]) rfl ?_
         intro w57 us; have hsl := us.at_; have cus := us.ch
         have hb := bld_ch0 hb cus
         have hcl := hcl.trans0 cus
         have hev5 := cus.at0 hev5
         have hop5 := cus.at0 hop5
         have hfl : ([⟨#[32, 93]⟩] : List ByteArray).flatMap sb = [32, 93] := by rfl
         have hgb2 := bld_lt hb
         refine WL.callv1 (caps := [.pointer (some ⟨w1.heap.size, 0, none⟩)]) ce27 (lt rfl (lh)) (lh) (put_walk w1.heap.size w1.heap.size _ 1 1 [⟨#[32, 93]⟩] ((((l.take k).flatMap evT ++ hdT l[k] ++ (l[k].2.2.take q).flatMap opT) ++ opH x) ++ midT x) w57 rfl hsl (Nat.ne_of_gt hgb) hb (Nat.le_of_lt hgb2) (by rw [hfl]; (try simp only [List.length_append, List.length_cons, List.length_nil]); omega) (by show 1 ≤ 100; omega)) rfl ?_
         rintro v5 w58 ⟨hb, hbk⟩
         have cpk := hbk.1
         rw [hfl] at hb
         have hcl := hcl.trans cpk (H := fun _ => False) (fun _ _ e => e) (fun q hq e => by (try dsimp only at e); omega)
         have hev5 := hbk.2 _ _ _ _ hev5 (by decide) (by omega)
         have hop5 := hbk.2 _ _ _ _ hop5 (by decide) (by omega)
         refine WL.e10 (Nx.blk Nx.thn) 3 4 5 6 21 22 23 38 39 40 (jt2 rfl (lt rfl (s3))) (jt2 rfl (lt rfl (s4))) (jt2 rfl (lt rfl (s5))) (jt2 rfl (lt rfl (s6))) (jt2 rfl (lt rfl (s21))) (jt2 rfl (lt rfl (s22))) (jt2 rfl (lt rfl (s23))) (jt2 rfl (lt rfl (s38))) (jt2 rfl (lt rfl (s39))) (jt2 rfl (lt rfl (s40))) ?_
         intro σ52 s3 s4 s5 s6 s21 s22 s23 s38 s39 s40
         refine W.region ?_
         first | refine WL.x (X.add (s40) lc (by omega) (by omega)) rfl ?_ | refine WL.x (X.addw (s40) lc) rfl ?_
         refine WL.x (X.mv (lh)) rfl ?_
         refine WL.e10 Nx.thn 3 4 5 6 21 22 23 38 39 40 (jt2 rfl (s3)) (jt2 rfl (s4)) (jt2 rfl (s5)) (jt2 rfl (s6)) (jt2 rfl (s21)) (jt2 rfl (s22)) (jt2 rfl (s23)) (jt2 rfl (s38)) (jt2 rfl (s39)) (lh) ?_
         intro σ53 s3 s4 s5 s6 s21 s22 s23 s38 s39 s40
         refine ⟨q + 1, by omega, ⟨s3.trans qo9.symm, s4.trans qo10.symm, s5.trans qo11.symm, s6.trans qo12.symm, s21.trans qo13.symm, s22.trans qo14.symm, s23.trans qo15.symm, s38.trans qo16.symm, s39.trans qo17.symm, trivial⟩, s40, (by rw [hnx, ← opH_eq]; simpa only [List.append_assoc] using hb), hev5, hop5, by omega, hcl⟩
        ·
         refine W.skip (Nx.blk Nx.thn) ?_
         refine W.region ?_
         refine WL.x (X.mv (s6)) rfl ?_
         have hb : IsB w1.heap.size w1.heap.size ((((l.take k).flatMap evT ++ hdT l[k] ++ (l[k].2.2.take q).flatMap opT) ++ opH x) ++ midT x) w20 := by first | exact hb | (rw [mid_02 (x := x) (by simpa using qn) (by first | assumption | (simp_all; done)) (by first | exact .inl (Classical.not_not.1 k2) | exact .inr (Classical.not_not.1 k4) | (simp_all; done)), List.append_nil]; exact hb)
         have hgb := bld_lt hb
         refine WL.bslice Tryd.underlying36 el9 rfl (pcons lc pnil) rfl (rfl : _ = [_]) rfl ?_
         intro w59 us; have hsl := us.at_; have cus := us.ch
         have hb := bld_ch0 hb cus
         have hcl := hcl.trans0 cus
         have hev5 := cus.at0 hev5
         have hop5 := cus.at0 hop5
         have hfl : ([⟨#[32, 93]⟩] : List ByteArray).flatMap sb = [32, 93] := by rfl
         have hgb2 := bld_lt hb
         refine WL.callv1 (caps := [.pointer (some ⟨w1.heap.size, 0, none⟩)]) ce27 (lt rfl (lh)) (lh) (put_walk w1.heap.size w1.heap.size _ 1 1 [⟨#[32, 93]⟩] ((((l.take k).flatMap evT ++ hdT l[k] ++ (l[k].2.2.take q).flatMap opT) ++ opH x) ++ midT x) w59 rfl hsl (Nat.ne_of_gt hgb) hb (Nat.le_of_lt hgb2) (by rw [hfl]; (try simp only [List.length_append, List.length_cons, List.length_nil]); omega) (by show 1 ≤ 100; omega)) rfl ?_
         rintro v5 w60 ⟨hb, hbk⟩
         have cpk := hbk.1
         rw [hfl] at hb
         have hcl := hcl.trans cpk (H := fun _ => False) (fun _ _ e => e) (fun q hq e => by (try dsimp only at e); omega)
         have hev5 := hbk.2 _ _ _ _ hev5 (by decide) (by omega)
         have hop5 := hbk.2 _ _ _ _ hop5 (by decide) (by omega)
         refine WL.e10 (Nx.blk Nx.thn) 3 4 5 6 21 22 23 38 39 40 (jt2 rfl (lt rfl (s3))) (jt2 rfl (lt rfl (s4))) (jt2 rfl (lt rfl (s5))) (jt2 rfl (lt rfl (s6))) (jt2 rfl (lt rfl (s21))) (jt2 rfl (lt rfl (s22))) (jt2 rfl (lt rfl (s23))) (jt2 rfl (lt rfl (s38))) (jt2 rfl (lt rfl (s39))) (jt2 rfl (lt rfl (s40))) ?_
         intro σ54 s3 s4 s5 s6 s21 s22 s23 s38 s39 s40
         refine W.region ?_
         first | refine WL.x (X.add (s40) lc (by omega) (by omega)) rfl ?_ | refine WL.x (X.addw (s40) lc) rfl ?_
         refine WL.x (X.mv (lh)) rfl ?_
         refine WL.e10 Nx.thn 3 4 5 6 21 22 23 38 39 40 (jt2 rfl (s3)) (jt2 rfl (s4)) (jt2 rfl (s5)) (jt2 rfl (s6)) (jt2 rfl (s21)) (jt2 rfl (s22)) (jt2 rfl (s23)) (jt2 rfl (s38)) (jt2 rfl (s39)) (lh) ?_
         intro σ55 s3 s4 s5 s6 s21 s22 s23 s38 s39 s40
         refine ⟨q + 1, by omega, ⟨s3.trans qo9.symm, s4.trans qo10.symm, s5.trans qo11.symm, s6.trans qo12.symm, s21.trans qo13.symm, s22.trans qo14.symm, s23.trans qo15.symm, s38.trans qo16.symm, s39.trans qo17.symm, trivial⟩, s40, (by rw [hnx, ← opH_eq]; simpa only [List.append_assoc] using hb), hev5, hop5, by omega, hcl⟩
      ·
       refine WL.no rfl rfl (lh) (decide_eq_false k2) rfl ?_
       refine WL.no rfl rfl (lt rfl (lh)) (decide_eq_false k2) rfl ?_
       refine WL.no rfl rfl (jt2 rfl (lh)) (decide_eq_false k2) rfl ?_
       refine WL.no rfl rfl (jt2 rfl (lt rfl (lh))) (decide_eq_false k2) rfl ?_
       refine WL.nou rfl (lh) rfl ?_
       refine WL.nou rfl (lt rfl (lh)) rfl ?_
       refine WL.no rfl rfl (jt4 rfl (jt2 rfl (lh))) (decide_eq_false k2) rfl ?_
       refine WL.x (X.pickF (jt4 rfl (jt2 rfl (lt rfl (lh)))) (decide_eq_false k2) lc) rfl ?_
       refine WL.x (X.asg (lh)) rfl ?_
       refine WL.e12 Nx.thn 3 4 5 6 10 21 22 23 38 39 40 86 (jt8 rfl (jt4 rfl (lt rfl (s3)))) (jt8 rfl (jt4 rfl (lt rfl (s4)))) (jt8 rfl (jt4 rfl (lt rfl (s5)))) (jt8 rfl (jt4 rfl (lt rfl (s6)))) (jt8 rfl (jt4 rfl (lt rfl (s10)))) (jt8 rfl (jt4 rfl (lt rfl (s21)))) (jt8 rfl (jt4 rfl (lt rfl (s22)))) (jt8 rfl (jt4 rfl (lt rfl (s23)))) (jt8 rfl (jt4 rfl (lt rfl (s38)))) (jt8 rfl (jt4 rfl (lt rfl (s39)))) (jt8 rfl (jt4 rfl (lt rfl (s40)))) (lh) ?_
       intro σ56 s3 s4 s5 s6 s10 s21 s22 s23 s38 s39 s40 s86
       refine W.cndF s86 ?_
       refine W.skip (Nx.blk Nx.thn) ?_
       refine W.region ?_
       refine WL.x (X.mv (s6)) rfl ?_
       have hb : IsB w1.heap.size w1.heap.size ((((l.take k).flatMap evT ++ hdT l[k] ++ (l[k].2.2.take q).flatMap opT) ++ opH x) ++ midT x) w20 := by first | exact hb | (rw [mid_02 (x := x) (by simpa using qn) (by first | assumption | (simp_all; done)) (by first | exact .inl (Classical.not_not.1 k2) | exact .inr (Classical.not_not.1 k4) | (simp_all; done)), List.append_nil]; exact hb)
       have hgb := bld_lt hb
       refine WL.bslice Tryd.underlying36 el9 rfl (pcons lc pnil) rfl (rfl : _ = [_]) rfl ?_
       intro w61 us; have hsl := us.at_; have cus := us.ch
       have hb := bld_ch0 hb cus
       have hcl := hcl.trans0 cus
       have hev5 := cus.at0 hev5
       have hop5 := cus.at0 hop5
       have hfl : ([⟨#[32, 93]⟩] : List ByteArray).flatMap sb = [32, 93] := by rfl
       have hgb2 := bld_lt hb
       refine WL.callv1 (caps := [.pointer (some ⟨w1.heap.size, 0, none⟩)]) ce27 (lt rfl (lh)) (lh) (put_walk w1.heap.size w1.heap.size _ 1 1 [⟨#[32, 93]⟩] ((((l.take k).flatMap evT ++ hdT l[k] ++ (l[k].2.2.take q).flatMap opT) ++ opH x) ++ midT x) w61 rfl hsl (Nat.ne_of_gt hgb) hb (Nat.le_of_lt hgb2) (by rw [hfl]; (try simp only [List.length_append, List.length_cons, List.length_nil]); omega) (by show 1 ≤ 100; omega)) rfl ?_
       rintro v5 w62 ⟨hb, hbk⟩
       have cpk := hbk.1
       rw [hfl] at hb
       have hcl := hcl.trans cpk (H := fun _ => False) (fun _ _ e => e) (fun q hq e => by (try dsimp only at e); omega)
       have hev5 := hbk.2 _ _ _ _ hev5 (by decide) (by omega)
       have hop5 := hbk.2 _ _ _ _ hop5 (by decide) (by omega)
       refine WL.e10 (Nx.blk Nx.thn) 3 4 5 6 21 22 23 38 39 40 (jt2 rfl (lt rfl (s3))) (jt2 rfl (lt rfl (s4))) (jt2 rfl (lt rfl (s5))) (jt2 rfl (lt rfl (s6))) (jt2 rfl (lt rfl (s21))) (jt2 rfl (lt rfl (s22))) (jt2 rfl (lt rfl (s23))) (jt2 rfl (lt rfl (s38))) (jt2 rfl (lt rfl (s39))) (jt2 rfl (lt rfl (s40))) ?_
       intro σ57 s3 s4 s5 s6 s21 s22 s23 s38 s39 s40
       refine W.region ?_
       first | refine WL.x (X.add (s40) lc (by omega) (by omega)) rfl ?_ | refine WL.x (X.addw (s40) lc) rfl ?_
       refine WL.x (X.mv (lh)) rfl ?_
       refine WL.e10 Nx.thn 3 4 5 6 21 22 23 38 39 40 (jt2 rfl (s3)) (jt2 rfl (s4)) (jt2 rfl (s5)) (jt2 rfl (s6)) (jt2 rfl (s21)) (jt2 rfl (s22)) (jt2 rfl (s23)) (jt2 rfl (s38)) (jt2 rfl (s39)) (lh) ?_
       intro σ58 s3 s4 s5 s6 s21 s22 s23 s38 s39 s40
       refine ⟨q + 1, by omega, ⟨s3.trans qo9.symm, s4.trans qo10.symm, s5.trans qo11.symm, s6.trans qo12.symm, s21.trans qo13.symm, s22.trans qo14.symm, s23.trans qo15.symm, s38.trans qo16.symm, s39.trans qo17.symm, trivial⟩, s40, (by rw [hnx, ← opH_eq]; simpa only [List.append_assoc] using hb), hev5, hop5, by omega, hcl⟩
   ·
    have hA1 := ops_len hoe q
    refine W.exit (Nx.xthn (Nx.xthn (Nx.xblk Nx.thn))) ?_
    refine W.region ?_
    refine WL.x (X.mv (s6)) rfl ?_
    have hgb := bld_lt hb
    refine WL.bslice Tryd.underlying36 el9 rfl (pcons lc pnil) rfl (rfl : _ = [_]) rfl ?_
    intro w63 us; have hsl := us.at_; have cus := us.ch
    have hb := bld_ch0 hb cus
    have hcl := hcl.trans0 cus
    have hev5 := cus.at0 hev5
    have hop5 := cus.at0 hop5
    have hfl : ([⟨#[10]⟩] : List ByteArray).flatMap sb = [10] := by rfl
    have hgb2 := bld_lt hb
    refine WL.callv1 (caps := [.pointer (some ⟨w1.heap.size, 0, none⟩)]) ce27 (lt rfl (lh)) (lh) (put_walk w1.heap.size w1.heap.size _ 1 1 [⟨#[10]⟩] (((l.take k).flatMap evT ++ hdT l[k] ++ (l[k].2.2.take q).flatMap opT)) w63 rfl hsl (Nat.ne_of_gt hgb) hb (Nat.le_of_lt hgb2) (by rw [hfl]; (try simp only [List.length_append, List.length_cons, List.length_nil]); omega) (by show 1 ≤ 100; omega)) rfl ?_
    rintro v5 w64 ⟨hb, hbk⟩
    have cpk := hbk.1
    rw [hfl] at hb
    have hcl := hcl.trans cpk (H := fun _ => False) (fun _ _ e => e) (fun q hq e => by (try dsimp only at e); omega)
    have hev5 := hbk.2 _ _ _ _ hev5 (by decide) (by omega)
    have hop5 := hbk.2 _ _ _ _ hop5 (by decide) (by omega)
    refine WL.e7 (Nx.blk Nx.thn) 3 4 5 6 21 22 23 (jt2 rfl (lt rfl (s3))) (jt2 rfl (lt rfl (s4))) (jt2 rfl (lt rfl (s5))) (jt2 rfl (lt rfl (s6))) (jt2 rfl (lt rfl (s21))) (jt2 rfl (lt rfl (s22))) (jt2 rfl (lt rfl (s23))) ?_
    intro σ59 s3 s4 s5 s6 s21 s22 s23
    refine W.region ?_
    first | refine WL.x (X.add (s23) lc (by omega) (by omega)) rfl ?_ | refine WL.x (X.addw (s23) lc) rfl ?_
    refine WL.x (X.mv (lh)) rfl ?_
    refine WL.e7 Nx.thn 3 4 5 6 21 22 23 (jt2 rfl (s3)) (jt2 rfl (s4)) (jt2 rfl (s5)) (jt2 rfl (s6)) (jt2 rfl (s21)) (jt2 rfl (s22)) (lh) ?_
    intro σ60 s3 s4 s5 s6 s21 s22 s23
    refine ⟨k + 1, by omega, ⟨s3.trans qo1.symm, s4.trans qo2.symm, s5.trans qo3.symm, s6.trans qo4.symm, s21.trans qo5.symm, s22.trans qo6.symm, trivial⟩, s23, (by rw [fm_take hkl, show evT l[k] = hdT l[k] ++ l[k].2.2.flatMap opT ++ [10] from rfl]; rw [show q = l[k].2.2.length by omega, List.take_length] at hb; simpa only [List.append_assoc] using hb), hev5, hop5, by omega, hcl⟩
  ·
   refine W.exit (Nx.xthn (Nx.xthn (Nx.xblk Nx.thn))) ?_
   refine W.seq ?_
   refine W.region ?_
   refine WL.call1 ce30 (s3) (bst_ok w1.heap.size w1.heap.size ((l.take k).flatMap evT) w8 hb (Nat.le_of_lt (bld_lt hb))) rfl ?_
   rintro _ w65 ⟨rfl, cs⟩
   refine WL.x (X.asg (lh)) rfl ?_
   refine WL.e1 Nx.thn 2 (lh) ?_
   intro σ61 s2
   refine W.ret1 Nx.f1 s2 ?_
   first | exact ⟨by unfold prT; rw [if_neg (by simpa using hc0)]; rfl, c0⟩ | exact ⟨by unfold prT; rw [if_pos hcan, show k = l.length by omega, List.take_length], hcl.trans cs (H := fun _ => False) (fun _ _ e => e) (fun q hq e => by (try dsimp only at e); omega)⟩
end Go.Proofs.YtjnkpjehpdlcbaaDoor
