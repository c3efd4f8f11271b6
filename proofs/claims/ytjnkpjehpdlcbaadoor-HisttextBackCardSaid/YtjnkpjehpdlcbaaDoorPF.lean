/-
  A part of the walk of the program.
-/
import Derived.Test.YtjnkpjehpdlcbaaDoorPA
import Derived.Test.YtjnkpjehpdlcbaaDoorHistQ
import Derived.Test.YtjnkpjehpdlcbaaDoorOVar
import Derived.Test.YtjnkpjehpdlcbaaDoorK
import Derived.Test.YtjnkpjehpdlcbaaDoorA
set_option linter.unusedVariables false
set_option linter.unusedSimpArgs false
set_option maxRecDepth 100000
namespace Go.Proofs.YtjnkpjehpdlcbaaDoor
open Go Go.RowKit Sg
theorem el4 : Sg.Elem Tryd.prog 4 1 (.bool false) 1 := ⟨_, rfl, rfl, rfl, rfl⟩
theorem ce70 : Sg.Callee Tryd.prog 70 := ⟨_, Tryd.func70, by decide, rfl⟩
theorem bd48 : Sg.Bld Tryd.prog 48 [0, 1, 2, 3, 4, 5] [.int .i64 0, .string ⟨#[]⟩, .int .i64 0, .slice none 0 0, .bool false, .bool false] := ⟨_, rfl, rfl, .inl ⟨_, rfl, Sg.allIn rfl, Sg.allAt (n := 6) rfl⟩⟩
theorem fv80_2 : ∃ fs fd, Tryd.prog.underlying 80 = some (.struct fs) ∧ fs[2]? = some fd ∧ fd.offset = 2 ∧ Sg.Plain Tryd.prog fd.type := ⟨_, _, rfl, rfl, rfl, _, rfl, trivial⟩
theorem ce40 : Sg.Callee Tryd.prog 40 := ⟨_, Tryd.func40, by decide, rfl⟩
theorem fv80_3 : ∃ fs fd, Tryd.prog.underlying 80 = some (.struct fs) ∧ fs[3]? = some fd ∧ fd.offset = 3 ∧ Sg.Plain Tryd.prog fd.type := ⟨_, _, rfl, rfl, rfl, _, rfl, trivial⟩
theorem fd80_3 : Sg.Fld Tryd.prog 80 3 3 := ⟨_, _, _, rfl, rfl, rfl, rfl, by decide⟩

theorem keyB_size {s : ByteArray} (h : keyB s = true) : s.size ≤ 6 := by
  unfold keyB at h
  rw [Bool.and_eq_true] at h
  exact of_decide_eq_true h.2
theorem r64_0 : r64 0 := ⟨by decide, by decide⟩
theorem rop_of {R : Int → Prop} {A : Nat → Prop} {w : World} {v : Value} {key : ByteArray → Bool} {ts r : List Tok} {k : Int} {kt : ByteArray} {m : Int × List Int × Bool × Bool} (hk : ∀ s, key s = true → s.size ≤ 6) (hop : OpG r64 key ts r (k, kt, m)) (hsl : SlA A w v (ints m.2.1)) :
    ROp A w [.int .i64 k, .string kt, .int .i64 m.1, v, .bool m.2.2.1, .bool m.2.2.2] (k, kt, m) := by
  obtain ⟨b, c, hM⟩ := hop.mid
  have h1 := hM.len
  have h2 := hk _ hop.key_
  dsimp only at h1 h2
  exact ⟨v, rfl, hsl, by dsimp only; omega, by dsimp only; omega, hM.val, hM.list⟩
theorem slA_mine {ts : List TypeId} {base : Nat} {F : Nat → Prop} {w w' : World} {v : Value} {l : List Value} (h : SlA (Mine ts base w) w v l) (c : Ch F w w') (hF : ∀ j, Mine ts base w j → ¬ F j) : SlA (Mine ts base w') w' v l := h.ch c hF (fun j hj => hj.ch c (hF j hj))
set_option maxHeartbeats 3200000 in
theorem op_ok (B p : Nat) (e : Int) (ts : List Tok) (w : World) (h : PS B p e ts w) (hg : TokG r64 ts) :
    Sg.RetP Tryd.prog 71 #[.pointer (some ⟨p, 0, none⟩), .agg #[.string ⟨#[]⟩, .string ⟨#[97, 112, 112, 101, 110, 100]⟩, .string ⟨#[114, 101, 97, 100]⟩, .string ⟨#[119, 114, 105, 116, 101]⟩, .string ⟨#[103, 101, 116]⟩]] w (fun v w' => ∃ o r es, opP keyB e ts = .ok (o, r) ∧ v = .agg es.toArray ∧ es.length = 6 ∧ ROp (Mine [3] w.heap.size w') w' es o ∧ PS B p e r w' ∧ Ch (fun j => j = p) w w') (fun v w' => ∃ x : Er, opP keyB e ts = .error x ∧ v = flt x.1 x.2 ∧ Ch (fun j => j = p) w w') := by
  have hBw := h.2.1
  have hpB := h.1
  refine enterPG (n := 92) (l := [.pointer (some ⟨p, 0, none⟩), .agg #[.string ⟨#[]⟩, .string ⟨#[97, 112, 112, 101, 110, 100]⟩, .string ⟨#[114, 101, 97, 100]⟩, .string ⟨#[119, 114, 105, 116, 101]⟩, .string ⟨#[103, 101, 116]⟩]]) Tryd.func71 rfl rfl rfl rfl ?_
  refine W.g2 0 1 (v1 := .pointer (some ⟨p, 0, none⟩)) (v2 := .agg #[.string ⟨#[]⟩, .string ⟨#[97, 112, 112, 101, 110, 100]⟩, .string ⟨#[114, 101, 97, 100]⟩, .string ⟨#[119, 114, 105, 116, 101]⟩, .string ⟨#[103, 101, 116]⟩]) rfl rfl ?_; intro σ s0 s1
  refine W.seq ?_
  refine W.region ?_
  refine WL.box (s1) rfl ?_
  intro w1 u0_0; have hu0_0 := u0_0.at_; have cu0_0 := u0_0.ch; have zu0_0 := u0_0.size
  refine WL.alloc el48 rfl ?_
  intro w2 u0_1; have hu0_1 := u0_1.at_; have cu0_1 := u0_1.ch; have zu0_1 := u0_1.size
  refine WL.e3 Nx.thn 0 3 4 (jt2 rfl (s0)) (lt rfl (lh)) (lh) ?_
  intro σ1 s0 s3 s4
  refine W.seq ?_
  refine W.region ?_
  refine WL.x (X.mv (s0)) rfl ?_
  refine WL.x (X.loadBox (vs := [.string ⟨#[]⟩, .string ⟨#[97, 112, 112, 101, 110, 100]⟩, .string ⟨#[114, 101, 97, 100]⟩, .string ⟨#[119, 114, 105, 116, 101]⟩, .string ⟨#[103, 101, 116]⟩]) ag57 (lt rfl (s3)) (cu0_1.at0 hu0_0) rfl) rfl ?_
  refine WL.callP2 ce70 (lt rfl (lh)) (lh) (word_ok B p e ts ⟨#[]⟩ ⟨#[97, 112, 112, 101, 110, 100]⟩ ⟨#[114, 101, 97, 100]⟩ ⟨#[119, 114, 105, 116, 101]⟩ ⟨#[103, 101, 116]⟩ w2 (h.ch0 (cu0_0.trans0 cu0_1))) rfl (by rintro v w' ⟨hn, rfl, cx⟩; exact ⟨_, rfl, (atP e ts, 20), opP_none hn, rfl, (cu0_0.trans0 cu0_1).trans cx (H := fun j => j = p) (fun _ _ e => e.elim) (fun _ _ e => e)⟩) ?_
  rintro _ w3 ⟨⟨j, hwi, hj4, rfl⟩, hps, cw⟩
  refine WL.x (X.build bd48 (pcons (lh) pnil) rfl (rfl : _ = [_, _, _, _, _, _])) rfl ?_
  refine WL.alloc el48 rfl ?_
  intro w4 u1_4; have hu1_4 := u1_4.at_; have cu1_4 := u1_4.ch; have zu1_4 := u1_4.size
  refine WL.storeS (vs := [.int .i64 ((j : Int) + 1), .string ⟨#[]⟩, .int .i64 0, .slice none 0 0, .bool false, .bool false]) ag48 (lh) (lt rfl (lh)) rfl rfl hu1_4 (by decide) ?_
  intro w5 us
  have cus := us.ch
  obtain ⟨ob, hob⟩ : ∃ ob, ob = w3.heap.size := ⟨_, rfl⟩
  obtain ⟨rb, hrb⟩ : ∃ rb, rb = w1.heap.size := ⟨_, rfl⟩
  have zw0 := cu0_0.size
  have zw1 := lt_of_blk hu0_1
  have zcw := cw.size
  have hrbz := cus.at (cu1_4.at0 (cw.at hu0_1 (fun e => by (try dsimp only at e); omega))) (fun e => by (try dsimp only at e); omega)
  rw [← hrb] at hrbz
  have hov : OV p 48 ob rb w w5 #[.int .i64 ((j : Int) + 1), .string ⟨#[]⟩, .int .i64 0, .slice none 0 0, .bool false, .bool false] := ⟨by rw [hob]; exact us.at_, ⟨_, hrbz, rfl⟩, (((cu0_0.trans0 cu0_1).trans cw (H := fun j => j = p) (fun _ _ e => e.elim) (fun _ _ e => e)).trans cu1_4 (H := fun j => j = p) (fun _ _ e => e) (fun _ _ e => e.elim)).trans cus (H := fun j => j = p) (fun _ _ e => e) (fun j hj e => by (try dsimp only at e); omega), by omega, by omega, by omega, by omega⟩
  replace hps := (hps.ch0 cu1_4).own cus (fun j hj e => by (try dsimp only at e); omega)
  rw [← hob]
  rw [← hrb] at s4
  obtain ⟨a, ha⟩ : ∃ a, a = ts.tail := ⟨_, rfl⟩
  rw [← ha] at hps
  refine WL.e3 Nx.thn 0 4 5 (jt4 rfl (lt rfl (s0))) (jt4 rfl (lt rfl (s4))) (lh) ?_
  intro σ2 s0 s4 s5
  refine W.seq ?_
  refine W.seq ?_
  refine W.region ?_
  refine WL.x (X.mv (s0)) rfl ?_
  refine WL.call3 ce38 (lh) lc lc (sees_ok B p e a 1 no w5 hps) rfl ?_
  rintro _ _ ⟨rfl, rfl⟩
  refine WL.x (X.mv (lh)) rfl ?_
  refine WL.split (lh) (fun hs => ?_) (fun hs => ?_)
  · refine WL.yes rfl rfl (lh) (hs) ?_
    obtain ⟨tk, b, hatk⟩ := sees_cons_ hs
    have hq9 := hps
    obtain ⟨-, -, v9, hp9, hr9⟩ := hq9
    rw [hatk] at hr9
    obtain ⟨a9, c9, rfl⟩ := hr9.len
    obtain ⟨b1, o1, cs1, T1, fr1, rfl, hm1, he1, hbp, hk1⟩ := hr9.get (k := 0) (by simp)
    have hlen9 : 0 < (tk :: b).length := by simp
    refine WL.x (X.mv (jt2 rfl (lt rfl (s0)))) rfl ?_
    refine WL.yes rfl rfl (lt rfl (lh)) (hs) ?_
    refine WL.x (X.nilck (lh)) rfl ?_
    refine WL.yes rfl rfl (jt2 rfl (lh)) (hs) ?_
    refine WL.x (X.fieldAddr fd77_0 (lh)) rfl ?_
    refine WL.yes rfl rfl (jt2 rfl (lt rfl (lh))) (hs) ?_
    refine WL.x (X.load pl69 (lh) (by first | assumption | exact cus.at (by assumption) (by intro hne; first | exact hne | ((try dsimp only at hne); omega)) | exact cus.at (cu1_4.at0 (by assumption)) (by intro hne; first | exact hne | ((try dsimp only at hne); omega))) (by first | rfl | assumption)) rfl ?_
    refine WL.yes rfl rfl (jt4 rfl (lh)) (hs) ?_
    refine WL.x (X.indexAddr Tryd.underlying69 el80 (lh) lc (by omega) (by omega)) rfl ?_
    refine WL.yes rfl rfl (jt4 rfl (lt rfl (lh))) (hs) ?_
    refine WL.x (X.fieldAddr fd80_2 (lh)) rfl ?_
    refine WL.yes rfl rfl (jt4 rfl (jt2 rfl (lh))) (hs) ?_
    refine WL.x (X.load pl9 (lh) hm1 (v := .string tk.2.2.1) (hk1 2 (by decide))) rfl ?_
    refine WL.yes rfl rfl (jt4 rfl (jt2 rfl (lt rfl (lh)))) (hs) ?_
    refine WL.call1 ce51 (lh) (iskey_ok tk.2.2.1 w5) rfl ?_
    rintro _ w6 ⟨rfl, ck⟩
    replace hov := hov.ch0 ck
    replace hps := hps.ch0 ck
    refine WL.yes rfl rfl (jt8 rfl (lh)) (hs) ?_
    refine WL.x (X.not (lh)) rfl ?_
    refine WL.x (X.pickT (jt8 rfl (lt rfl (lh))) (hs) (lh)) rfl ?_
    refine WL.e4 Nx.thn 0 4 5 24 (jt8 rfl (jt4 rfl (lt rfl (s0)))) (jt8 rfl (jt4 rfl (lt rfl (s4)))) (jt8 rfl (jt4 rfl (lt rfl (s5)))) (lh) ?_
    intro σ3 s0 s4 s5 s24
    refine W.cnd s24 (fun hk => ?_) (fun hk => ?_)
    · refine W.region ?_
      refine WL.x (X.mv (s0)) rfl ?_
      refine WL.callP2 ce69 (lh) lc (fail_ok B p e a 20 w6 hps) rfl (by rintro v w' ⟨rfl, rfl⟩; exact ⟨_, rfl, (atP e a, 20), by rw [ha]; exact opP_bad hwi (by rw [← ha]; exact hs) (by rw [← ha, hatk]; show keyB tk.2.2.1 = false; simpa using hk), rfl, hov.2.2.1⟩) ?_
      rintro _ _ ⟨⟩
    · refine W.skip Nx.thn ?_
      refine W.seq ?_
      refine W.region ?_
      refine WL.x (X.mv (s0)) rfl ?_
      refine WL.callP3 ce39 (lh) lc lc (take_ok B p e a 1 no w6 hps) rfl (by rintro v w' ⟨hnb, -, -⟩; rw [hs] at hnb; cases hnb) ?_
      rintro _ w7 ⟨tk2, b2, hab, -, rfl, hps, kc⟩
      obtain ⟨rfl, rfl⟩ := List.cons.inj (hatk.symm.trans hab)
      replace hov := hov.call kc
      have hgo : opP keyB e ts = restP e ((j : Int) + 1) tk.2.2.1 b := by
        have h9 := opP_go (e := e) (key := keyB) hwi (by rw [← ha]; exact hs) (by rw [← ha, hatk]; show keyB tk.2.2.1 = true; simpa using hk)
        rw [← ha, hatk] at h9
        exact h9
      first | refine WL.x (X.field fv80_2 (lh) (by rfl)) rfl ?_ | refine WL.x (X.field fv80_2 (lh) (by assumption)) rfl ?_
      refine WL.x (X.fieldAddr fd48_1 (jt2 rfl (lt rfl (s5)))) rfl ?_
      refine WL.store el9 (lh) (lt rfl (lh)) rfl hov.1 (show 0 + 1 < 6 by decide) ?_
      intro w8 us
      have hob9 := hov.lt
      have hlo9 := hov.2.2.2.1
      have hov9 := hov
      replace hov : OV p 48 ob rb w w8 #[.int .i64 ((j : Int) + 1), .string tk.2.2.1, .int .i64 0, .slice none 0 0, .bool false, .bool false] := hov.put us.at_ us.ch rfl
      replace hps := hps.own us.ch (fun j hj e => by (try dsimp only at e); omega)
      have cus := us.ch
      
      refine WL.e3 Nx.thn 0 4 5 (jt4 rfl (s0)) (jt4 rfl (s4)) (jt4 rfl (s5)) ?_
      intro σ4 s0 s4 s5
      have qo1 := s0
      have qo2 := s4
      have qo3 := s5
      refine W.seqJ (fun σ' w' => (σ' 0 = σ4 0 ∧ σ' 4 = σ4 4 ∧ σ' 5 = σ4 5 ∧ True) ∧ ∃ (m : Int × List Int × Bool × Bool) (c : List Tok) (lv : Value), midP e ((j : Int) + 1) b = .ok (m, c) ∧ OV p 48 ob rb w w' #[.int .i64 ((j : Int) + 1), .string tk.2.2.1, .int .i64 m.1, lv, .bool m.2.2.1, .bool m.2.2.2] ∧ PS B p e c w' ∧ SlA (Mine [3] w.heap.size w') w' lv (ints m.2.1)) ?_ ?_
      · refine W.seq ?_
        refine W.region ?_
        refine WL.x (X.fieldAddr fd48_0 (s5)) rfl ?_
        refine WL.x (X.load pl3 (lh) hov.1 (v := .int .i64 ((j : Int) + 1)) rfl) rfl ?_
        refine WL.e4 Nx.thn 0 4 5 32 (jt2 rfl (s0)) (jt2 rfl (s4)) (jt2 rfl (s5)) (lh) ?_
        intro σ5 s0 s4 s5 s32
        refine W.block ?_
        refine W.seq ?_
        refine W.region ?_
        refine WL.x (X.eql (s32) lc) rfl ?_
        refine WL.x (X.asg (lh)) rfl ?_
        refine WL.e5 Nx.thn 0 4 5 32 37 (jt2 rfl (s0)) (jt2 rfl (s4)) (jt2 rfl (s5)) (jt2 rfl (s32)) (lh) ?_
        intro σ6 s0 s4 s5 s32 s37
        refine W.cndp s37 (fun hk2 => ?_) (fun hk2 => ?_)
        · refine W.seq ?_
          refine W.region ?_
          refine WL.x (X.mv (s0)) rfl ?_
          refine WL.call3 ce85 (lh) lc lc (pmay_ok B p e b 3 (mk1 40) w8 hps) rfl ?_
          rintro _ w9 ⟨rfl, hps, km⟩
          replace hov := hov.call km
          refine WL.x (X.mv (lh)) rfl ?_
          refine WL.x (X.ex2_0 (lh)) rfl ?_
          refine WL.x (X.ex2_1 (lt rfl (lh))) rfl ?_
          refine WL.x (X.fieldAddr fd48_4 (jt4 rfl (lt rfl (s5)))) rfl ?_
          refine WL.store el4 (lh) (lt rfl (lh)) rfl hov.1 (show 0 + 4 < 6 by decide) ?_
          intro w10 us
          have hob9 := hov.lt
          have hlo9 := hov.2.2.2.1
          have hov9 := hov
          replace hov : OV p 48 ob rb w w10 #[.int .i64 ((j : Int) + 1), .string tk.2.2.1, .int .i64 0, .slice none 0 0, .bool (seesB b 3 (mk1 40)), .bool false] := hov.put us.at_ us.ch rfl
          replace hps := hps.own us.ch (fun j hj e => by (try dsimp only at e); omega)
          have cus := us.ch
          obtain ⟨wl, hwl0⟩ : ∃ wl, wl = w10.heap.size := ⟨_, rfl⟩
          have hobz := hov.lt
          have hobl : ob < wl ∧ rb < wl := by omega
          have hloz := hov.2.2.2.1
          refine WL.e3 Nx.thn 0 4 5 (jt4 rfl (jt2 rfl (s0))) (jt4 rfl (jt2 rfl (s4))) (jt4 rfl (jt2 rfl (s5))) ?_
          intro σ7 s0 s4 s5
          have qo4 := s0
          have qo5 := s4
          have qo6 := s5
          refine W.seqJ (fun σ' w' => (σ' 0 = σ7 0 ∧ σ' 4 = σ7 4 ∧ σ' 5 = σ7 5 ∧ True) ∧ ∃ acc rr lv, OV p 48 ob rb w w' #[.int .i64 ((j : Int) + 1), .string tk.2.2.1, .int .i64 0, lv, .bool (seesB b 3 (mk1 40)), .bool false] ∧ PS B p e rr w' ∧ w'.ownsRow wl 3 1 lv acc.length (ints acc) ∧ (seesB b 3 (mk1 40) = true → listP e b.tail [] = listP e rr acc ∧ seesB rr 2 no = false) ∧ (seesB b 3 (mk1 40) = false → acc = [] ∧ rr = b ∧ lv = .slice none 0 0)) ?_ ?_
          · refine W.block ?_
            have qo7 := s0
            have qo8 := s4
            have qo9 := s5
            -- loop 0: kept [0, 4, 5], varied []
            refine W.loop (G := List Tok) (fun rr σ' w' => (σ' 0 = σ7 0 ∧ σ' 4 = σ7 4 ∧ σ' 5 = σ7 5 ∧ True) ∧ (∃ acc lv, OV p 48 ob rb w w' #[.int .i64 ((j : Int) + 1), .string tk.2.2.1, .int .i64 0, lv, .bool (seesB b 3 (mk1 40)), .bool false] ∧ PS B p e rr w' ∧ w'.ownsRow wl 3 1 lv acc.length (ints acc) ∧ (seesB b 3 (mk1 40) = true → listP e b.tail [] = listP e rr acc) ∧ (seesB b 3 (mk1 40) = false → acc = [] ∧ rr = b ∧ lv = .slice none 0 0) ∧ acc.length ≤ 40 ∧ wl ≤ w'.heap.size)) (fun rr => rr.length) (mayL b (seesB b 3 (mk1 40))) ⟨⟨rfl, rfl, rfl, trivial⟩, [], .slice none 0 0, hov, hps, World.ownsRow_nil _ _ _ _, (fun h9 => by rw [h9]; rfl), (fun h9 => ⟨rfl, by rw [h9]; rfl, rfl⟩), by simp, by omega⟩ ?_
            rintro rr σ8 w11 ⟨⟨f0, f4, f5, _⟩, acc, lv, hov, hps, hown, hlt, hlf, h40, hwl⟩
            have s0 := f0.trans qo7
            have s4 := f4.trans qo8
            have s5 := f5.trans qo9
            refine W.seq ?_
            refine W.seq ?_
            refine W.region ?_
            refine WL.x (X.fieldAddr fd48_4 (s5)) rfl ?_
            refine WL.x (X.load pl4 (lh) hov.1 (v := .bool (seesB b 3 (mk1 40))) rfl) rfl ?_
            refine WL.x (X.mv (lh)) rfl ?_
            refine WL.split (lh) (fun hhh => ?_) (fun hhh => ?_)
            · refine WL.yes rfl rfl (lh) (hhh) ?_
              refine WL.x (X.mv (jt2 rfl (lt rfl (s0)))) rfl ?_
              refine WL.yes rfl rfl (lt rfl (lh)) (hhh) ?_
              refine WL.call3 ce38 (lh) lc lc (sees_ok B p e rr 2 no w11 hps) rfl ?_
              rintro _ _ ⟨rfl, rfl⟩
              refine WL.x (X.pickT (jt2 rfl (lh)) (hhh) (lh)) rfl ?_
              refine WL.e4 Nx.thn 0 4 5 50 (jt4 rfl (jt2 rfl (s0))) (jt4 rfl (jt2 rfl (s4))) (jt4 rfl (jt2 rfl (s5))) (lh) ?_
              intro σ9 s0 s4 s5 s50
              refine W.cnd s50 (fun hs2 => ?_) (fun hs2 => ?_)
              · refine W.skip Nx.thn ?_
                refine W.block ?_
                refine W.seq ?_
                refine W.region ?_
                refine WL.x (X.mv (s0)) rfl ?_
                refine WL.x (X.fieldAddr fd48_3 (lt rfl (s5))) rfl ?_
                obtain ⟨la, lcp, rfl⟩ : ∃ la lcp, lv = .slice la acc.length lcp := by
                  obtain ⟨la, lcp, e⟩ := (Sl.own hown).len
                  exact ⟨la, lcp, by rw [e, List.length_map]⟩
                refine WL.x (X.load pl46 (lh) hov.1 (v := .slice la acc.length lcp) rfl) rfl ?_
                refine WL.x (X.lenSl Tryd.underlying46 (lh)) rfl ?_
                refine WL.callP3 ce40 (jt2 rfl (lt rfl (lh))) (lh) lc (room_ok B p e rr (acc.length : Int) 40 w11 hps) rfl (by rintro v w' ⟨h9, rfl, rfl⟩; exact ⟨_, rfl, (atP e rr, 4), hgo.trans (restP_mid (by rw [hk2]; exact midP_listE hhh ((hlt hhh).trans (listP_full hs2 (by omega))))), rfl, hov.2.2.1⟩) ?_
                rintro _ _ ⟨hroom, rfl⟩
                refine WL.e3 Nx.thn 0 4 5 (jt4 rfl (lt rfl (s0))) (jt4 rfl (lt rfl (s4))) (jt4 rfl (lt rfl (s5))) ?_
                intro σ10 s0 s4 s5
                refine W.held (fun w' => Ch (fun j => j = p ∨ slBlk (.slice la acc.length lcp) j ∨ j = ob) w11 w') mo ?_
                intro w12 qhh10 qc11
                have hS : Ch (fun j => j = p ∨ slBlk (.slice la acc.length lcp) j ∨ j = ob) w11 w12 := Ch.weak qc11
                have hzqc11 := qc11.size
                have cdh11 := qc11
                replace hov := hov.ch0 cdh11
                replace hps := hps.ch0 cdh11
                replace hown := own_ch hown cdh11 (fun _ _ => id)
                have zcd := cdh11.size
                refine WH.takeP 0 rfl (by kernel_rfl) (by kernel_rfl) (by kernel_rfl) (fun _ _ _ _ _ h => h) Gd.none rfl (fun w' hS' => X.fieldAddr fd48_3 (s5)) hS ?_
                refine WH.takeP 2 rfl (by kernel_rfl) (by kernel_rfl) (by kernel_rfl) (fun _ _ _ _ _ h => h) Gd.none rfl (fun w' hS' => X.mv (lt rfl (s0))) hS ?_
                refine WH.two 1 3 rfl rfl (by kernel_rfl) (fun _ _ h => h) ?_ ?_
                · first | refine WL.x (X.load pl46 (lt rfl (lh)) hov.1 (v := .slice la acc.length lcp) rfl) rfl ?_ | refine WL.x (X.load pl46 (lt rfl (lh)) (hov.ch0 cu11_5).1 (v := .slice la acc.length lcp) rfl) rfl ?_
                  refine WL.nil Nx.thn ⟨hS, ?_⟩
                  refine WH.one 3 rfl (by kernel_rfl) (fun _ _ h => h) ?_
                  refine WL.callP3 ce39 (lt rfl (lh)) lc lc (take_ok B p e rr 2 no w12 hps) rfl (by rintro v w' ⟨hnb, -, -⟩; rw [hs2] at hnb; cases hnb) ?_
                  rintro _ w13 ⟨t2, r2, hrr, -, rfl, hps, lc3⟩
                  have hlo8 := hov.2.2.2.1
                  replace hov := hov.call lc3
                  replace hown := own_ch hown lc3 (fun k hk e => by have := (own_lt hown hk).1; (try dsimp only at e); omega)
                  have hS := hS.trans lc3 (fun _ _ e => e) (fun _ _ e => .inl e)
                  refine WL.nil Nx.thn ⟨hS, ?_⟩
                  first | refine WH.takeP 4 rfl (by kernel_rfl) (by kernel_rfl) (by kernel_rfl) (fun _ _ _ _ _ h => h) Gd.none rfl (fun w' hS' => X.field fv80_3 (lh) (by rfl)) hS ?_ | refine WH.takeP 4 rfl (by kernel_rfl) (by kernel_rfl) (by kernel_rfl) (fun _ _ _ _ _ h => h) Gd.none rfl (fun w' hS' => X.field fv80_3 (lh) (by assumption)) hS ?_
                  refine WH.one 5 rfl (by kernel_rfl) (fun _ _ h => h) ?_
                  refine WL.bslice Tryd.underlying46 el3 rfl (pcons (lh) pnil) rfl (rfl : _ = [_]) rfl ?_
                  intro w14 u11_5; have hu11_5 := u11_5.at_; have cu11_5 := u11_5.ch; have zu11_5 := u11_5.size
                  have hS := hS.trans cu11_5 (fun _ _ => id) (by intro i hi hg; first | exact hg | exact False.elim hg | omega | ((try dsimp only at hg ⊢); omega))
                  refine WL.nil Nx.thn ⟨hS, ?_⟩
                  refine WH.one 6 rfl (by kernel_rfl) (fun _ _ h => h) ?_
                  replace hov := hov.ch0 cu11_5
                  replace hps := hps.ch0 cu11_5
                  replace hown := own_ch hown cu11_5 (fun _ _ => id)
                  have zl3 := lc3.size
                  have zl5 := cu11_5.size
                  refine WL.append Tryd.underlying46 el3 rfl (by decide) (jt2 rfl (lt rfl (lh))) (lh) (hown) (by first | assumption | exact hS.at (by assumption) (by intro hne; first | exact hne | ((try dsimp only at hne); omega)) | exact hS.at (cus.at (by assumption) (by intro hne; first | exact hne | ((try dsimp only at hne); omega))) (by intro hne; first | exact hne | ((try dsimp only at hne); omega))) rfl (by exact ones_of rfl) (by unfold maxLen; omega) (by omega) (by omega) rfl ?_
                  intro va11_6 w15 ho11_6 ca11_6
                  replace hov := hov.step ca11_6 (fun j hj => by have := (own_lt hown hj).1; exact ⟨by omega, by omega, .inr (by omega)⟩)
                  replace hps := hps.own ca11_6 (fun j hj e => by have := (own_lt hown e).1; omega)
                  obtain ⟨la2, lc2, rfl⟩ : ∃ la2 lc2, va11_6 = .slice la2 (acc.length + 1) lc2 := by
                    obtain ⟨la2, lc2, e9⟩ := (Sl.own ho11_6).len
                    exact ⟨la2, lc2, by rw [e9]; simp⟩
                  have hS := hS.trans ca11_6 (fun _ _ e => e) (fun _ _ e => .inr (.inl e))
                  refine WL.nil Nx.thn ⟨hS, ?_⟩
                  refine WH.takeP 7 rfl (by kernel_rfl) (by kernel_rfl) (by kernel_rfl) (fun _ _ _ _ _ h => h) Gd.none rfl (fun w' hS' => X.fieldAddr fd48_3 (jt4 rfl (jt2 rfl (lt rfl (s5))))) hS ?_
                  refine WH.one 8 rfl (by kernel_rfl) (fun _ _ h => h) ?_
                  refine WL.store el46 (lh) (lt rfl (lh)) rfl hov.1 (show 0 + 3 < 6 by decide) ?_
                  intro w16 us
                  have hob9 := hov.lt
                  have hlo9 := hov.2.2.2.1
                  have hov9 := hov
                  replace hov : OV p 48 ob rb w w16 #[.int .i64 ((j : Int) + 1), .string tk.2.2.1, .int .i64 0, .slice la2 (acc.length + 1) lc2, .bool (seesB b 3 (mk1 40)), .bool false] := hov.put us.at_ us.ch rfl
                  replace hps := hps.own us.ch (fun j hj e => by (try dsimp only at e); omega)
                  have cus := us.ch
                  replace hown := own_ch ho11_6 us.ch (fun k hk e => by have := (own_lt ho11_6 hk).1; (try dsimp only at e); omega)
                  have hS := hS.trans cus (fun _ _ e => e) (fun _ _ e => .inr (.inr e))
                  refine WL.nil Nx.thn ⟨hS, ?_⟩
                  refine WH.done (by kernel_rfl) ?_
                  refine WL.e3 (Nx.blk Nx.thn) 0 4 5 (jt8 rfl (s0)) (jt8 rfl (s4)) (jt8 rfl (s5)) ?_
                  intro σ11 s0 s4 s5
                  have hszz := hov.lt
                  refine ⟨r2, by rw [hrr]; simp, ⟨s0.trans qo7.symm, s4.trans qo8.symm, s5.trans qo9.symm, trivial⟩, acc ++ [t2.2.2.2], .slice la2 (acc.length + 1) lc2, hov, (by exact hps), (by rw [List.length_append, show ints (acc ++ [t2.2.2.2]) = ints acc ++ [.int .i64 t2.2.2.2] from List.map_append ..]; exact hown), (fun h9 => (hlt h9).trans (by rw [listP_num hs2 (by omega), hrr]; rfl)), (fun h9 => absurd hhh (by rw [h9]; simp)), (by rw [List.length_append]; show acc.length + 1 ≤ 40; omega), (by have := cus.size; have := ca11_6.size; omega)⟩
                · refine WL.callP3 ce39 (lh) lc lc (take_ok B p e rr 2 no w12 hps) rfl (by rintro v w' ⟨hnb, -, -⟩; rw [hs2] at hnb; cases hnb) ?_
                  rintro _ w17 ⟨t2, r2, hrr, -, rfl, hps, lc3⟩
                  have hlo8 := hov.2.2.2.1
                  replace hov := hov.call lc3
                  replace hown := own_ch hown lc3 (fun k hk e => by have := (own_lt hown hk).1; (try dsimp only at e); omega)
                  have hS := hS.trans lc3 (fun _ _ e => e) (fun _ _ e => .inl e)
                  refine WL.nil Nx.thn ⟨hS, ?_⟩
                  first | refine WH.takeP 4 rfl (by kernel_rfl) (by kernel_rfl) (by kernel_rfl) (fun _ _ _ _ _ h => h) Gd.none rfl (fun w' hS' => X.field fv80_3 (lh) (by rfl)) hS ?_ | refine WH.takeP 4 rfl (by kernel_rfl) (by kernel_rfl) (by kernel_rfl) (fun _ _ _ _ _ h => h) Gd.none rfl (fun w' hS' => X.field fv80_3 (lh) (by assumption)) hS ?_
                  refine WH.two 1 5 rfl rfl (by kernel_rfl) (fun _ _ h => h) ?_ ?_
                  · first | refine WL.x (X.load pl46 (jt2 rfl (lt rfl (lh))) hov.1 (v := .slice la acc.length lcp) rfl) rfl ?_ | refine WL.x (X.load pl46 (jt2 rfl (lt rfl (lh))) (hov.ch0 cu11_5).1 (v := .slice la acc.length lcp) rfl) rfl ?_
                    refine WL.nil Nx.thn ⟨hS, ?_⟩
                    refine WH.one 5 rfl (by kernel_rfl) (fun _ _ h => h) ?_
                    refine WL.bslice Tryd.underlying46 el3 rfl (pcons (lt rfl (lh)) pnil) rfl (rfl : _ = [_]) rfl ?_
                    intro w18 u11_5; have hu11_5 := u11_5.at_; have cu11_5 := u11_5.ch; have zu11_5 := u11_5.size
                    have hS := hS.trans cu11_5 (fun _ _ => id) (by intro i hi hg; first | exact hg | exact False.elim hg | omega | ((try dsimp only at hg ⊢); omega))
                    refine WL.nil Nx.thn ⟨hS, ?_⟩
                    refine WH.one 6 rfl (by kernel_rfl) (fun _ _ h => h) ?_
                    replace hov := hov.ch0 cu11_5
                    replace hps := hps.ch0 cu11_5
                    replace hown := own_ch hown cu11_5 (fun _ _ => id)
                    have zl3 := lc3.size
                    have zl5 := cu11_5.size
                    refine WL.append Tryd.underlying46 el3 rfl (by decide) (lt rfl (lh)) (lh) (hown) (by first | assumption | exact hS.at (by assumption) (by intro hne; first | exact hne | ((try dsimp only at hne); omega)) | exact hS.at (cus.at (by assumption) (by intro hne; first | exact hne | ((try dsimp only at hne); omega))) (by intro hne; first | exact hne | ((try dsimp only at hne); omega))) rfl (by exact ones_of rfl) (by unfold maxLen; omega) (by omega) (by omega) rfl ?_
                    intro va11_6 w19 ho11_6 ca11_6
                    replace hov := hov.step ca11_6 (fun j hj => by have := (own_lt hown hj).1; exact ⟨by omega, by omega, .inr (by omega)⟩)
                    replace hps := hps.own ca11_6 (fun j hj e => by have := (own_lt hown e).1; omega)
                    obtain ⟨la2, lc2, rfl⟩ : ∃ la2 lc2, va11_6 = .slice la2 (acc.length + 1) lc2 := by
                      obtain ⟨la2, lc2, e9⟩ := (Sl.own ho11_6).len
                      exact ⟨la2, lc2, by rw [e9]; simp⟩
                    have hS := hS.trans ca11_6 (fun _ _ e => e) (fun _ _ e => .inr (.inl e))
                    refine WL.nil Nx.thn ⟨hS, ?_⟩
                    refine WH.takeP 7 rfl (by kernel_rfl) (by kernel_rfl) (by kernel_rfl) (fun _ _ _ _ _ h => h) Gd.none rfl (fun w' hS' => X.fieldAddr fd48_3 (jt4 rfl (jt2 rfl (lt rfl (s5))))) hS ?_
                    refine WH.one 8 rfl (by kernel_rfl) (fun _ _ h => h) ?_
                    refine WL.store el46 (lh) (lt rfl (lh)) rfl hov.1 (show 0 + 3 < 6 by decide) ?_
                    intro w20 us
                    have hob9 := hov.lt
                    have hlo9 := hov.2.2.2.1
                    have hov9 := hov
                    replace hov : OV p 48 ob rb w w20 #[.int .i64 ((j : Int) + 1), .string tk.2.2.1, .int .i64 0, .slice la2 (acc.length + 1) lc2, .bool (seesB b 3 (mk1 40)), .bool false] := hov.put us.at_ us.ch rfl
                    replace hps := hps.own us.ch (fun j hj e => by (try dsimp only at e); omega)
                    have cus := us.ch
                    replace hown := own_ch ho11_6 us.ch (fun k hk e => by have := (own_lt ho11_6 hk).1; (try dsimp only at e); omega)
                    have hS := hS.trans cus (fun _ _ e => e) (fun _ _ e => .inr (.inr e))
                    refine WL.nil Nx.thn ⟨hS, ?_⟩
                    refine WH.done (by kernel_rfl) ?_
                    refine WL.e3 (Nx.blk Nx.thn) 0 4 5 (jt8 rfl (s0)) (jt8 rfl (s4)) (jt8 rfl (s5)) ?_
                    intro σ12 s0 s4 s5
                    have hszz := hov.lt
                    refine ⟨r2, by rw [hrr]; simp, ⟨s0.trans qo7.symm, s4.trans qo8.symm, s5.trans qo9.symm, trivial⟩, acc ++ [t2.2.2.2], .slice la2 (acc.length + 1) lc2, hov, (by exact hps), (by rw [List.length_append, show ints (acc ++ [t2.2.2.2]) = ints acc ++ [.int .i64 t2.2.2.2] from List.map_append ..]; exact hown), (fun h9 => (hlt h9).trans (by rw [listP_num hs2 (by omega), hrr]; rfl)), (fun h9 => absurd hhh (by rw [h9]; simp)), (by rw [List.length_append]; show acc.length + 1 ≤ 40; omega), (by have := cus.size; have := ca11_6.size; omega)⟩
                  · refine WL.bslice Tryd.underlying46 el3 rfl (pcons (lh) pnil) rfl (rfl : _ = [_]) rfl ?_
                    intro w21 u11_5; have hu11_5 := u11_5.at_; have cu11_5 := u11_5.ch; have zu11_5 := u11_5.size
                    have hS := hS.trans cu11_5 (fun _ _ => id) (by intro i hi hg; first | exact hg | exact False.elim hg | omega | ((try dsimp only at hg ⊢); omega))
                    refine WL.nil Nx.thn ⟨hS, ?_⟩
                    refine WH.one 1 rfl (by kernel_rfl) (fun _ _ h => h) ?_
                    first | refine WL.x (X.load pl46 (jt4 rfl (lh)) hov.1 (v := .slice la acc.length lcp) rfl) rfl ?_ | refine WL.x (X.load pl46 (jt4 rfl (lh)) (hov.ch0 cu11_5).1 (v := .slice la acc.length lcp) rfl) rfl ?_
                    refine WL.nil Nx.thn ⟨hS, ?_⟩
                    refine WH.one 6 rfl (by kernel_rfl) (fun _ _ h => h) ?_
                    replace hov := hov.ch0 cu11_5
                    replace hps := hps.ch0 cu11_5
                    replace hown := own_ch hown cu11_5 (fun _ _ => id)
                    have zl3 := lc3.size
                    have zl5 := cu11_5.size
                    refine WL.append Tryd.underlying46 el3 rfl (by decide) (lh) (lt rfl (lh)) (hown) (by first | assumption | exact hS.at (by assumption) (by intro hne; first | exact hne | ((try dsimp only at hne); omega)) | exact hS.at (cus.at (by assumption) (by intro hne; first | exact hne | ((try dsimp only at hne); omega))) (by intro hne; first | exact hne | ((try dsimp only at hne); omega))) rfl (by exact ones_of rfl) (by unfold maxLen; omega) (by omega) (by omega) rfl ?_
                    intro va11_6 w22 ho11_6 ca11_6
                    replace hov := hov.step ca11_6 (fun j hj => by have := (own_lt hown hj).1; exact ⟨by omega, by omega, .inr (by omega)⟩)
                    replace hps := hps.own ca11_6 (fun j hj e => by have := (own_lt hown e).1; omega)
                    obtain ⟨la2, lc2, rfl⟩ : ∃ la2 lc2, va11_6 = .slice la2 (acc.length + 1) lc2 := by
                      obtain ⟨la2, lc2, e9⟩ := (Sl.own ho11_6).len
                      exact ⟨la2, lc2, by rw [e9]; simp⟩
                    have hS := hS.trans ca11_6 (fun _ _ e => e) (fun _ _ e => .inr (.inl e))
                    refine WL.nil Nx.thn ⟨hS, ?_⟩
                    refine WH.takeP 7 rfl (by kernel_rfl) (by kernel_rfl) (by kernel_rfl) (fun _ _ _ _ _ h => h) Gd.none rfl (fun w' hS' => X.fieldAddr fd48_3 (jt4 rfl (jt2 rfl (lt rfl (s5))))) hS ?_
                    refine WH.one 8 rfl (by kernel_rfl) (fun _ _ h => h) ?_
                    refine WL.store el46 (lh) (lt rfl (lh)) rfl hov.1 (show 0 + 3 < 6 by decide) ?_
                    intro w23 us
                    have hob9 := hov.lt
                    have hlo9 := hov.2.2.2.1
                    have hov9 := hov
                    replace hov : OV p 48 ob rb w w23 #[.int .i64 ((j : Int) + 1), .string tk.2.2.1, .int .i64 0, .slice la2 (acc.length + 1) lc2, .bool (seesB b 3 (mk1 40)), .bool false] := hov.put us.at_ us.ch rfl
                    replace hps := hps.own us.ch (fun j hj e => by (try dsimp only at e); omega)
                    have cus := us.ch
                    replace hown := own_ch ho11_6 us.ch (fun k hk e => by have := (own_lt ho11_6 hk).1; (try dsimp only at e); omega)
                    have hS := hS.trans cus (fun _ _ e => e) (fun _ _ e => .inr (.inr e))
                    refine WL.nil Nx.thn ⟨hS, ?_⟩
                    refine WH.done (by kernel_rfl) ?_
                    refine WL.e3 (Nx.blk Nx.thn) 0 4 5 (jt8 rfl (s0)) (jt8 rfl (s4)) (jt8 rfl (s5)) ?_
                    intro σ13 s0 s4 s5
                    have hszz := hov.lt
                    refine ⟨r2, by rw [hrr]; simp, ⟨s0.trans qo7.symm, s4.trans qo8.symm, s5.trans qo9.symm, trivial⟩, acc ++ [t2.2.2.2], .slice la2 (acc.length + 1) lc2, hov, (by exact hps), (by rw [List.length_append, show ints (acc ++ [t2.2.2.2]) = ints acc ++ [.int .i64 t2.2.2.2] from List.map_append ..]; exact hown), (fun h9 => (hlt h9).trans (by rw [listP_num hs2 (by omega), hrr]; rfl)), (fun h9 => absurd hhh (by rw [h9]; simp)), (by rw [List.length_append]; show acc.length + 1 ≤ 40; omega), (by have := cus.size; have := ca11_6.size; omega)⟩
              · refine W.exit (Nx.xthn (Nx.xthn (Nx.xblk Nx.thn))) ?_
                refine ⟨⟨s0.trans qo4.symm, s4.trans qo5.symm, s5.trans qo6.symm, trivial⟩, acc, rr, lv, hov, hps, hown, (fun _ => ⟨hlt hhh, hs2⟩), (fun h9 => absurd hhh (by rw [h9]; simp))⟩
            · refine WL.no rfl rfl (lh) (hhh) rfl ?_
              refine WL.no rfl rfl (lt rfl (lh)) (hhh) rfl ?_
              refine WL.x (X.pickF (jt2 rfl (lh)) (hhh) lc) rfl ?_
              refine WL.e4 Nx.thn 0 4 5 50 (jt4 rfl (jt2 rfl (s0))) (jt4 rfl (jt2 rfl (s4))) (jt4 rfl (jt2 rfl (s5))) (lh) ?_
              intro σ14 s0 s4 s5 s50
              refine W.cndF s50 ?_
              refine W.exit (Nx.xthn (Nx.xthn (Nx.xblk Nx.thn))) ?_
              refine ⟨⟨s0.trans qo4.symm, s4.trans qo5.symm, s5.trans qo6.symm, trivial⟩, acc, rr, lv, hov, hps, hown, (fun h9 => absurd h9 (by rw [hhh]; simp)), hlf⟩
          · rintro σ15 w24 ⟨⟨f0, f4, f5, _⟩, acc, rr, lv, hov, hps, hown, hl12, hl12f⟩
            have s0 := f0.trans qo4
            have s4 := f4.trans qo5
            have s5 := f5.trans qo6
            refine W.seq ?_
            refine W.region ?_
            refine WL.x (X.fieldAddr fd48_4 (s5)) rfl ?_
            refine WL.x (X.load pl4 (lh) hov.1 (v := .bool (seesB b 3 (mk1 40))) rfl) rfl ?_
            refine WL.e4 Nx.thn 0 4 5 65 (jt2 rfl (s0)) (jt2 rfl (s4)) (jt2 rfl (s5)) (lh) ?_
            intro σ16 s0 s4 s5 s65
            refine W.cnd s65 (fun hh65 => ?_) (fun hh65 => ?_)
            · refine W.region ?_
              refine WL.x (X.mv (s0)) rfl ?_
              refine WL.callP3 ce39 (lh) lc lc (take_ok B p e rr 3 (mk1 41) w24 hps) rfl (by rintro v w' ⟨hnb, rfl, cx⟩; exact ⟨_, rfl, (atP e rr, 20), hgo.trans (restP_mid (by rw [hk2]; exact midP_listE hh65 ((hl12 hh65).1.trans (listP_bad (hl12 hh65).2 hnb)))), rfl, (hov.ch0 cx).2.2.1⟩) ?_
              rintro _ w25 ⟨t3, r3, hr3, hs3, rfl, hps, c13⟩
              have hlo8 := hov.2.2.2.1
              replace hov := hov.call c13
              replace hown := own_ch hown c13 (fun k hk e => by have := (own_lt hown hk).1; (try dsimp only at e); omega)
              refine WL.e3 (Nx.blk Nx.thn) 0 4 5 (jt2 rfl (s0)) (jt2 rfl (s4)) (jt2 rfl (s5)) ?_
              intro σ17 s0 s4 s5
              refine ⟨⟨s0.trans qo1.symm, s4.trans qo2.symm, s5.trans qo3.symm, trivial⟩, (0, acc, true, false), rr.tail, lv, (by rw [hk2]; exact midP_list hh65 ((hl12 hh65).1.trans (listP_end (hl12 hh65).2 hs3))), (by rw [hh65] at hov; exact hov), (by rw [hr3]; exact hps), ⟨Sl.own hown, own_mine hown (by decide) (by omega)⟩⟩
            · refine W.skip (Nx.blk Nx.thn) ?_
              refine ⟨⟨s0.trans qo1.symm, s4.trans qo2.symm, s5.trans qo3.symm, trivial⟩, (0, [], false, false), b, .slice none 0 0, (by rw [hk2]; exact midP_bare hh65), (by obtain ⟨-, -, h8⟩ := hl12f hh65; rw [hh65, h8] at hov; exact hov), (by obtain ⟨-, h8, -⟩ := hl12f hh65; rw [h8] at hps; exact hps), ⟨.inl ⟨rfl, none, 0, rfl⟩, fun _ h => (show False from h).elim⟩⟩
        · refine W.seq ?_
          refine W.region ?_
          refine WL.x (X.eql (s32) lc) rfl ?_
          refine WL.x (X.asg (lh)) rfl ?_
          refine WL.e4 Nx.thn 0 4 5 68 (jt2 rfl (s0)) (jt2 rfl (s4)) (jt2 rfl (s5)) (lh) ?_
          intro σ18 s0 s4 s5 s68
          refine W.cndp s68 (fun hk4 => ?_) (fun hk4 => ?_)
          · refine W.seq ?_
            refine W.region ?_
            refine WL.x (X.mv (s0)) rfl ?_
            refine WL.call3 ce85 (lh) lc lc (pmay_ok B p e b 1 ⟨#[110, 105, 108]⟩ w8 hps) rfl ?_
            rintro _ w26 ⟨rfl, hps, km⟩
            replace hov := hov.call km
            refine WL.x (X.mv (lh)) rfl ?_
            refine WL.x (X.ex2_0 (lh)) rfl ?_
            refine WL.x (X.ex2_1 (lt rfl (lh))) rfl ?_
            refine WL.x (X.fieldAddr fd48_5 (jt4 rfl (lt rfl (s5)))) rfl ?_
            refine WL.store el4 (lh) (lt rfl (lh)) rfl hov.1 (show 0 + 5 < 6 by decide) ?_
            intro w27 us
            have hob9 := hov.lt
            have hlo9 := hov.2.2.2.1
            have hov9 := hov
            replace hov : OV p 48 ob rb w w27 #[.int .i64 ((j : Int) + 1), .string tk.2.2.1, .int .i64 0, .slice none 0 0, .bool false, .bool (seesB b 1 ⟨#[110, 105, 108]⟩)] := hov.put us.at_ us.ch rfl
            replace hps := hps.own us.ch (fun j hj e => by (try dsimp only at e); omega)
            have cus := us.ch
            
            refine WL.e3 Nx.thn 0 4 5 (jt4 rfl (jt2 rfl (s0))) (jt4 rfl (jt2 rfl (s4))) (jt4 rfl (jt2 rfl (s5))) ?_
            intro σ19 s0 s4 s5
            refine W.seq ?_
            refine W.region ?_
            refine WL.x (X.fieldAddr fd48_5 (s5)) rfl ?_
            refine WL.x (X.load pl4 (lh) hov.1 (v := .bool (seesB b 1 ⟨#[110, 105, 108]⟩)) rfl) rfl ?_
            refine WL.e4 Nx.thn 0 4 5 77 (jt2 rfl (s0)) (jt2 rfl (s4)) (jt2 rfl (s5)) (lh) ?_
            intro σ20 s0 s4 s5 s77
            refine W.cnd s77 (fun hnil => ?_) (fun hnil => ?_)
            · refine W.region ?_
              refine WL.x (X.fieldAddr fd48_4 (s5)) rfl ?_
              refine WL.store el4 (lh) lc rfl hov.1 (show 0 + 4 < 6 by decide) ?_
              intro w28 us
              have hob9 := hov.lt
              have hlo9 := hov.2.2.2.1
              have hov9 := hov
              replace hov : OV p 48 ob rb w w28 #[.int .i64 ((j : Int) + 1), .string tk.2.2.1, .int .i64 0, .slice none 0 0, .bool true, .bool (seesB b 1 ⟨#[110, 105, 108]⟩)] := hov.put us.at_ us.ch rfl
              replace hps := hps.own us.ch (fun j hj e => by (try dsimp only at e); omega)
              have cus := us.ch
              
              refine WL.e3 (Nx.blk Nx.thn) 0 4 5 (lt rfl (s0)) (lt rfl (s4)) (lt rfl (s5)) ?_
              intro σ21 s0 s4 s5
              refine ⟨⟨s0.trans qo1.symm, s4.trans qo2.symm, s5.trans qo3.symm, trivial⟩, (0, [], true, true), b.tail, _, (by rw [hk4]; exact midP_nil hnil), (by rw [hnil] at hov; exact hov), (by rw [hnil] at hps; exact hps), ⟨.inl ⟨rfl, none, 0, rfl⟩, fun _ h => (show False from h).elim⟩⟩
            · rw [hnil] at hps hov
              replace hps : PS B p e b w27 := hps
              refine W.seq ?_
              refine W.region ?_
              refine WL.x (X.mv (s0)) rfl ?_
              refine WL.call3 ce85 (lh) lc lc (pmay_ok B p e b 2 no w27 hps) rfl ?_
              rintro _ w29 ⟨rfl, hps, km⟩
              replace hov := hov.call km
              have hov8 := hov
              refine WL.x (X.mv (lh)) rfl ?_
              refine WL.x (X.ex2_0 (lh)) rfl ?_
              refine WL.x (X.ex2_1 (lt rfl (lh))) rfl ?_
              refine WL.alloc el80 rfl ?_
              intro w30 u18_5; have hu18_5 := u18_5.at_; have cu18_5 := u18_5.ch; have zu18_5 := u18_5.size
              refine WL.storeS (vs := ftk (mayT b (seesB b 2 no))) ag80 (lh) (jt2 rfl (lh)) (List.all_eq_true.2 (ftk_one _)) rfl hu18_5 (by first | decide | (simp; done)) ?_
              intro w31 us
              have htk : w31.heap[_]? = some (Obj.cells (ftk (mayT b (seesB b 2 no))).toArray 80 (0, 0)) := us.at_
              have cst := us.ch
              replace hov := hov.ch0 cu18_5
              have hob9 := hov.lt
              have hlo9 := hov.2.2.2.1
              have hob8 := hov8.lt
              replace hps := (hps.ch0 cu18_5).own cst (fun j hj e => by (try dsimp only at e); omega)
              replace hov := hov.step cst (fun j e => by (try dsimp only at e); exact ⟨by omega, by omega, .inr (by omega)⟩)
              have htb : ∃ tb, tb = (w30.heap.size - 1) := ⟨_, rfl⟩
              refine WL.x (X.asg (lt rfl (lh))) rfl ?_
              refine WL.e5 Nx.thn 0 4 5 6 7 (jt4 rfl (jt2 rfl (lt rfl (s0)))) (jt4 rfl (jt2 rfl (lt rfl (s4)))) (jt4 rfl (jt2 rfl (lt rfl (s5)))) (lt rfl (lh)) (lh) ?_
              intro σ22 s0 s4 s5 s6 s7
              refine W.seq ?_
              refine W.region ?_
              refine WL.x (X.mv (s7)) rfl ?_
              refine WL.e5 Nx.thn 0 4 5 6 84 (lt rfl (s0)) (lt rfl (s4)) (lt rfl (s5)) (lt rfl (s6)) (lh) ?_
              intro σ23 s0 s4 s5 s6 s84
              refine W.cnd s84 (fun hnum => ?_) (fun hnum => ?_)
              · refine W.held (fun w' => Ch (fun j => j = ob) w31 w') mo ?_
                intro w32 qhh12 qc13
                have hS : Ch (fun j => j = ob) w31 w32 := Ch.weak qc13
                have hzqc13 := qc13.size
                have cdh20 := qc13
                replace hov := hov.ch0 cdh20
                replace hps := hps.ch0 cdh20
                refine WH.takeP 0 rfl (by kernel_rfl) (by kernel_rfl) (by kernel_rfl) (fun _ _ _ _ _ h => h) Gd.none rfl (fun w' hS' => X.fieldAddr fd80_3 (s6)) hS ?_
                refine WH.takeP 1 rfl (by kernel_rfl) (by kernel_rfl) (by kernel_rfl) (fun _ _ _ _ _ h => h) Gd.none rfl (fun w' hS' => X.load pl3 (lh) (hS'.at htk (fun e => by (try dsimp only at e); omega)) (v := .int .i64 (mayT b (seesB b 2 no)).2.2.2) rfl) hS ?_
                refine WH.takeP 2 rfl (by kernel_rfl) (by kernel_rfl) (by kernel_rfl) (fun _ _ _ _ _ h => h) Gd.none rfl (fun w' hS' => X.fieldAddr fd48_4 (jt2 rfl (s5))) hS ?_
                refine WH.one 3 rfl (by kernel_rfl) (fun _ _ h => h) ?_
                refine WL.store el4 (lh) lc rfl hov.1 (show 0 + 4 < 6 by decide) ?_
                intro w33 us
                have hob9 := hov.lt
                have hlo9 := hov.2.2.2.1
                have hov9 := hov
                replace hov : OV p 48 ob rb w w33 #[.int .i64 ((j : Int) + 1), .string tk.2.2.1, .int .i64 0, .slice none 0 0, .bool true, .bool false] := hov.put us.at_ us.ch rfl
                replace hps := hps.own us.ch (fun j hj e => by (try dsimp only at e); omega)
                have cus := us.ch
                
                have hS := hS.trans cus (fun _ _ => id) (by intro i hi hg; first | exact hg | exact False.elim hg | omega | ((try dsimp only at hg ⊢); omega))
                refine WL.nil Nx.thn ⟨hS, ?_⟩
                refine WH.takeP 4 rfl (by kernel_rfl) (by kernel_rfl) (by kernel_rfl) (fun _ _ _ _ _ h => h) Gd.none rfl (fun w' hS' => X.fieldAddr fd48_2 (jt2 rfl (lt rfl (s5)))) hS ?_
                refine WH.one 5 rfl (by kernel_rfl) (fun _ _ h => h) ?_
                refine WL.store el3 (lh) (jt2 rfl (lh)) rfl hov.1 (show 0 + 2 < 6 by decide) ?_
                intro w34 us
                have hob9 := hov.lt
                have hlo9 := hov.2.2.2.1
                have hov9 := hov
                replace hov : OV p 48 ob rb w w34 #[.int .i64 ((j : Int) + 1), .string tk.2.2.1, .int .i64 (mayT b (seesB b 2 no)).2.2.2, .slice none 0 0, .bool true, .bool false] := hov.put us.at_ us.ch rfl
                replace hps := hps.own us.ch (fun j hj e => by (try dsimp only at e); omega)
                have cus := us.ch
                
                have hS := hS.trans cus (fun _ _ => id) (by intro i hi hg; first | exact hg | exact False.elim hg | omega | ((try dsimp only at hg ⊢); omega))
                refine WL.nil Nx.thn ⟨hS, ?_⟩
                refine WH.done (by kernel_rfl) ?_
                refine WL.e3 (Nx.blk Nx.thn) 0 4 5 (jt4 rfl (s0)) (jt4 rfl (s4)) (jt4 rfl (s5)) ?_
                intro σ24 s0 s4 s5
                refine ⟨⟨s0.trans qo1.symm, s4.trans qo2.symm, s5.trans qo3.symm, trivial⟩, (hdN b, [], true, false), b.tail, _, (by rw [hk4]; exact midP_get hnil hnum), (by rw [hnum] at hov; obtain ⟨t8, r8, rfl⟩ := sees_cons_ hnum; exact hov), (by rw [hnum] at hps; exact hps), ⟨.inl ⟨rfl, none, 0, rfl⟩, fun _ h => (show False from h).elim⟩⟩
              · refine W.skip (Nx.blk Nx.thn) ?_
                refine ⟨⟨s0.trans qo1.symm, s4.trans qo2.symm, s5.trans qo3.symm, trivial⟩, (0, [], false, false), b, _, (by rw [hk4]; exact midP_no hnil hnum), hov, (by rw [hnum] at hps; exact hps), ⟨.inl ⟨rfl, none, 0, rfl⟩, fun _ h => (show False from h).elim⟩⟩
          · refine W.region ?_
            refine WL.x (X.mv (s0)) rfl ?_
            refine WL.callP3 ce39 (lh) lc lc (take_ok B p e b 2 no w8 hps) rfl (by rintro v w' ⟨hnb, rfl, cx⟩; exact ⟨_, rfl, (atP e b, 20), hgo.trans (restP_mid (midP_valE hk2 hk4 hnb)), rfl, (hov.ch0 cx).2.2.1⟩) ?_
            rintro _ w35 ⟨t5, r5, hr5, hs5, rfl, hps, c6⟩
            replace hov := hov.call c6
            first | refine WL.x (X.field fv80_3 (lh) (by rfl)) rfl ?_ | refine WL.x (X.field fv80_3 (lh) (by assumption)) rfl ?_
            refine WL.x (X.fieldAddr fd48_2 (jt2 rfl (lt rfl (s5)))) rfl ?_
            refine WL.store el3 (lh) (lt rfl (lh)) rfl hov.1 (show 0 + 2 < 6 by decide) ?_
            intro w36 us
            have hob9 := hov.lt
            have hlo9 := hov.2.2.2.1
            have hov9 := hov
            replace hov : OV p 48 ob rb w w36 #[.int .i64 ((j : Int) + 1), .string tk.2.2.1, .int .i64 t5.2.2.2, .slice none 0 0, .bool false, .bool false] := hov.put us.at_ us.ch rfl
            replace hps := hps.own us.ch (fun j hj e => by (try dsimp only at e); omega)
            have cus := us.ch
            
            refine WL.e3 (Nx.blk Nx.thn) 0 4 5 (jt4 rfl (s0)) (jt4 rfl (s4)) (jt4 rfl (s5)) ?_
            intro σ25 s0 s4 s5
            refine ⟨⟨s0.trans qo1.symm, s4.trans qo2.symm, s5.trans qo3.symm, trivial⟩, (hdN b, [], false, false), b.tail, _, midP_val hk2 hk4 hs5, (by rw [hr5]; exact hov), (by rw [hr5]; exact hps), ⟨.inl ⟨rfl, none, 0, rfl⟩, fun _ h => (show False from h).elim⟩⟩
      · rintro σ26 w37 ⟨⟨f0, f4, f5, _⟩, m, c, lv, hmid, hov, hps, hsl⟩
        have s0 := f0.trans qo1
        have s4 := f4.trans qo2
        have s5 := f5.trans qo3
        refine W.seq ?_
        refine W.region ?_
        refine WL.x (X.mv (s0)) rfl ?_
        refine WL.callP3 ce39 (lh) lc lc (take_ok B p e c 3 (mk1 93) w37 hps) rfl (by rintro v w' ⟨hnb, rfl, cx⟩; exact ⟨_, rfl, (atP e c, 20), hgo.trans (restP_end hmid hnb), rfl, (hov.ch0 cx).2.2.1⟩) ?_
        rintro _ w38 ⟨t7, r7, hr7, hs7, rfl, hps, c21⟩
        replace hov := hov.call c21
        replace hsl := slA_mine hsl c21 (fun j hj e => by have := hj.1; (try dsimp only at e); omega)
        refine WL.e2 Nx.thn 4 5 (jt2 rfl (s4)) (jt2 rfl (s5)) ?_
        intro σ27 s4 s5
        refine W.seq ?_
        refine W.region ?_
        obtain ⟨la9, lc9, rfl⟩ := hsl.1.len
        refine WL.x (X.loadBox (vs := [.int .i64 ((j : Int) + 1), .string tk.2.2.1, .int .i64 m.1, .slice la9 (ints m.2.1).length lc9, .bool m.2.2.1, .bool m.2.2.2]) ag48 (s5) hov.1 rfl) rfl ?_
        obtain ⟨z9, hz9, hzs9⟩ := hov.2.1
        have hne9 := hov.2.2.2.2.2.1
        have hrb9 := hov.2.2.2.2.1
        have hob9 := hov.lt
        refine WL.storeS (vs := [.int .i64 ((j : Int) + 1), .string tk.2.2.1, .int .i64 m.1, .slice la9 (ints m.2.1).length lc9, .bool m.2.2.1, .bool m.2.2.2]) ag48 (lt rfl (s4)) (lh) rfl rfl hz9 (by rw [hzs9]; exact Nat.le_of_ble_eq_true rfl) ?_
        intro w39 us
        have hfin := us.at_
        rw [blit_all (by rw [hzs9]; rfl)] at hfin
        have cfin := us.ch
        refine WL.e1 Nx.thn 4 (lt rfl (s4)) ?_
        intro σ28 s4
        refine W.retG (Nx.panR Nx.fG) ⟨[_], (.cell s4 (by first | assumption | exact cfin.at (by assumption) (by intro hne; first | exact hne | ((try dsimp only at hne); omega)) | exact cfin.at (c21.at (by assumption) (by intro hne; first | exact hne | ((try dsimp only at hne); omega))) (by intro hne; first | exact hne | ((try dsimp only at hne); omega))) (by exact ag48) .nil), ?_⟩
        have hop := hgo.trans (restP_ok hmid hs7)
        have hsl2 := slA_mine hsl cfin (fun j hj e => by have h8 : j = rb := e; subst h8; obtain ⟨-, cs8, T8, hT8, h9⟩ := hj; rw [hz9] at h9; have := (Obj.cells.inj (Option.some.inj h9)).2.1; subst this; simp at hT8)
        exact ⟨_, _, [.int .i64 ((j : Int) + 1), .string tk.2.2.1, .int .i64 m.1, .slice la9 (ints m.2.1).length lc9, .bool m.2.2.1, .bool m.2.2.2], hop, rfl, rfl, rop_of (R := r64) (fun s => keyB_size) (opP_good hop hg r64_0) hsl2, by rw [hr7]; exact hps.own cfin (fun j hj e => by (try dsimp only at e); omega), (hov.2.2.1).trans cfin (H := fun j => j = p) (fun _ _ e => e) (fun j hj e => by (try dsimp only at e); omega)⟩
  · refine WL.no rfl rfl (lh) (hs) rfl ?_
    refine WL.no rfl rfl (lt rfl (lh)) (hs) rfl ?_
    refine WL.no rfl rfl (jt2 rfl (lh)) (hs) rfl ?_
    refine WL.no rfl rfl (jt2 rfl (lt rfl (lh))) (hs) rfl ?_
    refine WL.no rfl rfl (jt4 rfl (lh)) (hs) rfl ?_
    refine WL.no rfl rfl (jt4 rfl (lt rfl (lh))) (hs) rfl ?_
    refine WL.no rfl rfl (jt4 rfl (jt2 rfl (lh))) (hs) rfl ?_
    refine WL.no rfl rfl (jt4 rfl (jt2 rfl (lt rfl (lh)))) (hs) rfl ?_
    refine WL.no rfl rfl (jt8 rfl (lh)) (hs) rfl ?_
    refine WL.x (X.pickF (jt8 rfl (lt rfl (lh))) (hs) lc) rfl ?_
    refine WL.e4 Nx.thn 0 4 5 24 (jt8 rfl (jt4 rfl (lt rfl (s0)))) (jt8 rfl (jt4 rfl (lt rfl (s4)))) (jt8 rfl (jt4 rfl (lt rfl (s5)))) (lh) ?_
    intro σ29 s0 s4 s5 s24
    refine W.cndF s24 ?_
    refine W.skip Nx.thn ?_
    refine W.seq ?_
    refine W.region ?_
    refine WL.x (X.mv (s0)) rfl ?_
    refine WL.callP3 ce39 (lh) lc lc ((take_ok B p e a 1 no w5 hps).mono (R' := fun _ _ => False) (fun v w' ⟨_, _, _, h9, _⟩ => by rw [hs] at h9; cases h9) (fun _ _ e => e)) rfl (by rintro v w' ⟨hnb, rfl, cx⟩; exact ⟨_, rfl, (atP e a, 20), by rw [ha]; exact opP_take hwi (by rw [← ha]; exact hs), rfl, (hov.ch0 cx).2.2.1⟩) ?_
    rintro _ _ ⟨⟩
end Go.Proofs.YtjnkpjehpdlcbaaDoor
