/-
  A part of the walk of the program.
-/
import Derived.Test.YtjnkpjehpdlcbaaDoorPA
import Derived.Test.YtjnkpjehpdlcbaaDoorHistQ
import Derived.Test.YtjnkpjehpdlcbaaDoorOVar
import Derived.Test.YtjnkpjehpdlcbaaDoorK
import Derived.Test.YtjnkpjehpdlcbaaDoorA
set_option linter.unusedVariables false
set_option linter.unusedSimpArgs false
set_option maxRecDepth 100000
namespace Go.Proofs.YtjnkpjehpdlcbaaDoor
open Go Go.RowKit Sg
theorem el4 : Sg.Elem Tryd.prog 4 1 (.bool false) 1 := ⟨_, rfl, rfl, rfl, rfl⟩
theorem ce70 : Sg.Callee Tryd.prog 70 := ⟨_, Tryd.func70, by decide, rfl⟩
theorem bd48 : Sg.Bld Tryd.prog 48 [0, 1, 2, 3, 4, 5] [.int .i64 0, .string ⟨#[]⟩, .int .i64 0, .slice none 0 0, .bool false, .bool false] := ⟨_, rfl, rfl, .inl ⟨_, rfl, Sg.allIn rfl, Sg.allAt (n := 6) rfl⟩⟩
theorem fv80_2 : ∃ fs fd, Tryd.prog.underlying 80 = some (.struct fs) ∧ fs[2]? = some fd ∧ fd.offset = 2 ∧ Sg.Plain Tryd.prog fd.type := ⟨_, _, rfl, rfl, rfl, _, rfl, trivial⟩
theorem ce40 : Sg.Callee Tryd.prog 40 := ⟨_, Tryd.func40, by decide, rfl⟩
theorem fv80_3 : ∃ fs fd, Tryd.prog.underlying 80 = some (.struct fs) ∧ fs[3]? = some fd ∧ fd.offset = 3 ∧ Sg.Plain Tryd.prog fd.type := ⟨_, _, rfl, rfl, rfl, _, rfl, trivial⟩
theorem fd80_3 : Sg.Fld Tryd.prog 80 3 3 := ⟨_, _, _, rfl, rfl, rfl, rfl, by decide⟩
theorem el42 : Sg.Elem Tryd.prog 42 1 (.slice none 0 0) 24 := ⟨_, rfl, rfl, rfl, rfl⟩
theorem ce71 : Sg.Callee Tryd.prog 71 := ⟨_, Tryd.func71, by decide, rfl⟩

theorem keyB_size {s : ByteArray} (h : keyB s = true) : s.size ≤ 6 := by
  unfold keyB at h
  rw [Bool.and_eq_true] at h
  exact of_decide_eq_true h.2
theorem r64_0 : r64 0 := ⟨by decide, by decide⟩
theorem rop_of {R : Int → Prop} {A : Nat → Prop} {w : World} {v : Value} {key : ByteArray → Bool} {ts r : List Tok} {k : Int} {kt : ByteArray} {m : Int × List Int × Bool × Bool} (hk : ∀ s, key s = true → s.size ≤ 6) (hop : OpG r64 key ts r (k, kt, m)) (hsl : SlA A w v (ints m.2.1)) :
    ROp A w [.int .i64 k, .string kt, .int .i64 m.1, v, .bool m.2.2.1, .bool m.2.2.2] (k, kt, m) := by
  obtain ⟨b, c, hM⟩ := hop.mid
  have h1 := hM.len
  have h2 := hk _ hop.key_
  dsimp only at h1 h2
  exact ⟨v, rfl, hsl, by dsimp only; omega, by dsimp only; omega, hM.val, hM.list⟩
theorem slA_mine {ts : List TypeId} {base : Nat} {F : Nat → Prop} {w w' : World} {v : Value} {l : List Value} (h : SlA (Mine ts base w) w v l) (c : Ch F w w') (hF : ∀ j, Mine ts base w j → ¬ F j) : SlA (Mine ts base w') w' v l := h.ch c hF (fun j hj => hj.ch c (hF j hj))
set_option maxHeartbeats 3200000 in
theorem op_ok (B p : Nat) (e : Int) (ts : List Tok) (w : World) (h : PS B p e ts w) (hg : TokG r64 ts) :
  Sg.RetP Tryd.prog 71 #[.pointer (some ⟨p, 0, none⟩), .agg #[.string ⟨#[]⟩, .string ⟨#[97, 112, 112, 101, 110, 100]⟩, .string ⟨#[114, 101, 97, 100]⟩, .string ⟨#[119, 114, 105, 116, 101]⟩, .string ⟨#[103, 101, 116]⟩]] w (fun v w' => ∃ o r es, opP keyB e ts = .ok (o, r) ∧ v = .agg es.toArray ∧ es.length = 6 ∧ ROp (Mine [3] w.heap.size w') w' es o ∧ PS B p e r w' ∧ Ch (fun j => j = p) w w') (fun v w' => ∃ x : Er, opP keyB e ts = .error x ∧ v = flt x.1 x.2 ∧ Ch (fun j => j = p) w w') := by
 have hBw := h.2.1
 have hpB := h.1
 refine enterPG (n := 92) (l := [.pointer (some ⟨p, 0, none⟩), .agg #[.string ⟨#[]⟩, .string ⟨#[97, 112, 112, 101, 110, 100]⟩, .string ⟨#[114, 101, 97, 100]⟩, .string ⟨#[119, 114, 105, 116, 101]⟩, .string ⟨#[103, 101, 116]⟩]]) Tryd.func71 rfl rfl rfl rfl ?_
 refine W.g2 0 1 (v1 := .pointer (some ⟨p, 0, none⟩)) (v2 := .agg #[.string ⟨#[]⟩, .string ⟨#[97, 112, 112, 101, 110, 100]⟩, .string ⟨#[114, 101, 97, 100]⟩, .string ⟨#[119, 114, 105, 116, 101]⟩, .string ⟨#[103, 101, 116]⟩]) rfl rfl ?_; intro σ s0 s1
 refine W.seq ?_
 refine W.region ?_
 refine WL.box (s1) rfl ?_
 intro w1 u0_0; have hu0_0 := u0_0.at_; have cu0_0 := u0_0.ch; have zu0_0 := u0_0.size
 refine WL.alloc el48 rfl ?_
 intro w2 u0_1; have hu0_1 := u0_1.at_; have cu0_1 := u0_1.ch; have zu0_1 := u0_1.size
 refine WL.e3 Nx.thn 0 3 4 (jt2 rfl (s0)) (lt rfl (lh)) (lh) ?_
 intro σ1 s0 s3 s4
 refine W.seq ?_
 refine W.region ?_
 refine WL.x (X.mv (s0)) rfl ?_
 refine WL.x (X.loadBox (vs := [.string ⟨#[]⟩, .string ⟨#[97, 112, 112, 101, 110, 100]⟩, .string ⟨#[114, 101, 97, 100]⟩, .string ⟨#[119, 114, 105, 116, 101]⟩, .string ⟨#[103, 101, 116]⟩]) ag57 (lt rfl (s3)) (cu0_1.at0 hu0_0) rfl) rfl ?_
 refine WL.callP2 ce70 (lt rfl (lh)) (lh) (word_ok B p e ts ⟨#[]⟩ ⟨#[97, 112, 112, 101, 110, 100]⟩ ⟨#[114, 101, 97, 100]⟩ ⟨#[119, 114, 105, 116, 101]⟩ ⟨#[103, 101, 116]⟩ w2 (h.ch0 (cu0_0.trans0 cu0_1))) rfl (by rintro v w' ⟨hn, rfl, cx⟩; exact ⟨_, rfl, (atP e ts, 20), opP_none hn, rfl, (cu0_0.trans0 cu0_1).trans cx (H := fun j => j = p) (fun _ _ e => e.elim) (fun _ _ e => e)⟩) ?_
 rintro _ w3 ⟨⟨j, hwi, hj4, rfl⟩, hps, cw⟩
 refine WL.x (X.build bd48 (pcons (lh) pnil) rfl (rfl : _ = [_, _, _, _, _, _])) rfl ?_
 refine WL.alloc el48 rfl ?_
 intro w4 u1_4; have hu1_4 := u1_4.at_; have cu1_4 := u1_4.ch; have zu1_4 := u1_4.size
 refine WL.storeS (vs := [.int .i64 ((j : Int) + 1), .string ⟨#[]⟩, .int .i64 0, .slice none 0 0, .bool false, .bool false]) ag48 (lh) (lt rfl (lh)) rfl rfl hu1_4 (by decide) ?_
 intro w5 us
 have cus := us.ch
 obtain ⟨ob, hob⟩ : ∃ ob, ob = w3.heap.size := ⟨_, rfl⟩
 obtain ⟨rb, hrb⟩ : ∃ rb, rb = w1.heap.size := ⟨_, rfl⟩
 have zw0 := cu0_0.size
 have zw1 := lt_of_blk hu0_1
 have zcw := cw.size
 have hrbz := cus.at (cu1_4.at0 (cw.at hu0_1 (fun e => by (try dsimp only at e); omega))) (fun e => by (try dsimp only at e); omega)
 rw [← hrb] at hrbz
 have hov : OV p 48 ob rb w w5 #[.int .i64 ((j : Int) + 1), .string ⟨#[]⟩, .int .i64 0, .slice none 0 0, .bool false, .bool false] := ⟨by rw [hob]; exact us.at_, ⟨_, hrbz, rfl⟩, (((cu0_0.trans0 cu0_1).trans cw (H := fun j => j = p) (fun _ _ e => e.elim) (fun _ _ e => e)).trans cu1_4 (H := fun j => j = p) (fun _ _ e => e) (fun _ _ e => e.elim)).trans cus (H := fun j => j = p) (fun _ _ e => e) (fun j hj e => by (try dsimp only at e); omega), by omega, by omega, by omega, by omega⟩
 replace hps := (hps.ch0 cu1_4).own cus (fun j hj e => by (try dsimp only at e); omega)
 rw [← hob]
 rw [← hrb] at s4
 obtain ⟨a, ha⟩ : ∃ a, a = ts.tail := ⟨_, rfl⟩
 rw [← ha] at hps
 refine WL.e3 Nx.thn 0 4 5 (jt4 rfl (lt rfl (s0))) (jt4 rfl (lt rfl (s4))) (lh) ?_
 intro σ2 s0 s4 s5
 refine W.seq ?_
 refine W.seq ?_
 refine W.region ?_
 refine WL.x (X.mv (s0)) rfl ?_
 refine WL.call3 ce38 (lh) lc lc (sees_ok B p e a 1 no w5 hps) rfl ?_
 rintro _ _ ⟨rfl, rfl⟩
 refine WL.x (X.mv (lh)) rfl ?_
 refine WL.split (lh) (fun hs => ?_) (fun hs => ?_)
 ·
  refine WL.yes rfl rfl (lh) (hs) ?_
  obtain ⟨tk, b, hatk⟩ := sees_cons_ hs
  have hq9 := hps
  obtain ⟨-, -, v9, hp9, hr9⟩ := hq9
  rw [hatk] at hr9
  obtain ⟨a9, c9, rfl⟩ := hr9.len
  obtain ⟨b1, o1, cs1, T1, fr1, rfl, hm1, he1, hbp, hk1⟩ := hr9.get (k := 0) (by simp)
  have hlen9 : 0 < (tk :: b).length := by simp
  refine WL.x (X.mv (jt2 rfl (lt rfl (s0)))) rfl ?_
  refine WL.yes rfl rfl (lt rfl (lh)) (hs) ?_
  refine WL.x (X.nilck (lh)) rfl ?_
  refine WL.yes rfl rfl (jt2 rfl (lh)) (hs) ?_
  refine WL.x (X.fieldAddr fd77_0 (lh)) rfl ?_
  refine WL.yes rfl rfl (jt2 rfl (lt rfl (lh))) (hs) ?_
  refine WL.x (X.load pl69 (lh) (by first | assumption | exact cus.at (by assumption) (by intro hne; first | exact hne | ((try dsimp only at hne); omega)) | exact cus.at (cu1_4.at0 (by assumption)) (by intro hne; first | exact hne | ((try dsimp only at hne); omega))) (by first | rfl | assumption)) rfl ?_
  refine WL.yes rfl rfl (jt4 rfl (lh)) (hs) ?_
  refine WL.x (X.indexAddr Tryd.underlying69 el80 (lh) lc (by omega) (by omega)) rfl ?_
  refine WL.yes rfl rfl (jt4 rfl (lt rfl (lh))) (hs) ?_
  refine WL.x (X.fieldAddr fd80_2 (lh)) rfl ?_
  refine WL.yes rfl rfl (jt4 rfl (jt2 rfl (lh))) (hs) ?_
  refine WL.x (X.load pl9 (lh) hm1 (v := .string tk.2.2.1) (hk1 2 (by decide))) rfl ?_
  refine WL.yes rfl rfl (jt4 rfl (jt2 rfl (lt rfl (lh)))) (hs) ?_
  refine WL.call1 ce51 (lh) (iskey_ok tk.2.2.1 w5) rfl ?_
  rintro _ w6 ⟨rfl, ck⟩
  replace hov := hov.ch0 ck
  replace hps := hps.ch0 ck
  refine WL.yes rfl rfl (jt8 rfl (lh)) (hs) ?_
  refine WL.x (X.not (lh)) rfl ?_
  refine WL.x (X.pickT (jt8 rfl (lt rfl (lh))) (hs) (lh)) rfl ?_
  refine WL.e4 Nx.thn 0 4 5 24 (jt8 rfl (jt4 rfl (lt rfl (s0)))) (jt8 rfl (jt4 rfl (lt rfl (s4)))) (jt8 rfl (jt4 rfl (lt rfl (s5)))) (lh) ?_
  intro σ3 s0 s4 s5 s24
  refine W.cnd s24 (fun hk => ?_) (fun hk => ?_)
  ·
   refine W.region ?_
   refine WL.x (X.mv (s0)) rfl ?_
   refine WL.callP2 ce69 (lh) lc (fail_ok B p e a 20 w6 hps) rfl (by rintro v w' ⟨rfl, rfl⟩; exact ⟨_, rfl, (atP e a, 20), by rw [ha]; exact opP_bad hwi (by rw [← ha]; exact hs) (by rw [← ha, hatk]; show keyB tk.2.2.1 = false; simpa using hk), rfl, hov.2.2.1⟩) ?_
   rintro _ _ ⟨⟩
  ·
   refine W.skip Nx.thn ?_
   refine W.seq ?_
   refine W.region ?_
   refine WL.x (X.mv (s0)) rfl ?_
   refine WL.callP3 ce39 (lh) lc lc (take_ok B p e a 1 no w6 hps) rfl (by rintro v w' ⟨hnb, -, -⟩; rw [hs] at hnb; cases hnb) ?_
   rintro _ w7 ⟨tk2, b2, hab, -, rfl, hps, kc⟩
   obtain ⟨rfl, rfl⟩ := List.cons.inj (hatk.symm.trans hab)
   replace hov := hov.call kc
   have hgo : opP keyB e ts = restP e ((j : Int) + 1) tk.2.2.1 b := by
     have h9 := opP_go (e := e) (key := keyB) hwi (by rw [← ha]; exact hs) (by rw [← ha, hatk]; show keyB tk.2.2.1 = true; simpa using hk)
     rw [← ha, hatk] at h9
     exact h9
   first | refine WL.x (X.field fv80_2 (lh) (by rfl)) rfl ?_ | refine WL.x (X.field fv80_2 (lh) (by assumption)) rfl ?_
   refine WL.x (X.fieldAddr fd48_1 (jt2 rfl (lt rfl (s5)))) rfl ?_
   refine WL.store el9 (lh) (lt rfl (lh)) rfl hov.1 (show 0 + 1 < 6 by decide) ?_
   intro w8 us
   have hob9 := hov.lt
   have hlo9 := hov.2.2.2.1
   have hov9 := hov
   replace hov : OV p 48 ob rb w w8 #[.int .i64 ((j : Int) + 1), .string tk.2.2.1, .int .i64 0, .slice none 0 0, .bool false, .bool false] := hov.put us.at_ us.ch rfl
   replace hps := hps.own us.ch (fun j hj e => by (try dsimp only at e); omega)
   have cus := us.ch
   
   refine WL.e3 Nx.thn 0 4 5 (jt4 rfl (s0)) (jt4 rfl (s4)) (jt4 rfl (s5)) ?_
   intro σ4 s0 s4 s5
   have qo1 := s0
   have qo2 := s4
   have qo3 := s5
   refine W.seqJ (fun σ' w' => (σ' 0 = σ4 0 ∧ σ' 4 = σ4 4 ∧ σ' 5 = σ4 5 ∧ True) ∧ ∃ (m : Int × List Int × Bool × Bool) (c : List Tok) (lv : Value), midP e ((j : Int) + 1) b = .ok (m, c) ∧ OV p 48 ob rb w w' #[.int .i64 ((j : Int) + 1), .string tk.2.2.1, .int .i64 m.1, lv, .bool m.2.2.1, .bool m.2.2.2] ∧ PS B p e c w' ∧ SlA (Mine [3] w.heap.size w') w' lv (ints m.2.1)) ?_ ?_
   ·
    refine W.seq ?_
    refine W.region ?_
    refine WL.x (X.fieldAddr fd48_0 (s5)) rfl ?_
    refine WL.x (X.load pl3 (lh) hov.1 (v := .int .i64 ((j : Int) + 1)) rfl) rfl ?_
    refine WL.e4 Nx.thn 0 4 5 32 (jt2 rfl (s0)) (jt2 rfl (s4)) (jt2 rfl (s5)) (lh) ?_
    intro σ5 s0 s4 s5 s32
    refine W.block ?_
    refine W.seq ?_
    refine W.region ?_
    refine WL.x (X.eql (s32) lc) rfl ?_
    refine WL.x (X.asg (lh)) rfl ?_
    refine WL.e5 Nx.thn 0 4 5 32 37 (jt2 rfl (s0)) (jt2 rfl (s4)) (jt2 rfl (s5)) (jt2 rfl (s32)) (lh) ?_
    intro σ6 s0 s4 s5 s32 s37
    refine W.cndp s37 (fun hk2 => ?_) (fun hk2 => ?_)
    ·
     refine W.seq ?_
     refine W.region ?_
     refine WL.x (X.mv (s0)) rfl ?_
     refine WL.call3 ce85 (lh) lc lc (pmay_ok B p e b 3 (mk1 40) w8 hps) rfl ?_
     rintro _ w9 ⟨rfl, hps, km⟩
     replace hov := hov.call km
     refine WL.x (X.mv (lh)) rfl ?_
     refine WL.x (X.ex2_0 (lh)) rfl ?_
     refine WL.x (X.ex2_1 (lt rfl (lh))) rfl ?_
     refine WL.x (X.fieldAddr fd48_4 (jt4 rfl (lt rfl (s5)))) rfl ?_
     refine WL.store el4 (lh) (lt rfl (lh)) rfl hov.1 (show 0 + 4 < 6 by decide) ?_
     intro w10 us
     have hob9 := hov.lt
     have hlo9 := hov.2.2.2.1
     have hov9 := hov
     replace hov : OV p 48 ob rb w w10 #[.int .i64 ((j : Int) + 1), .string tk.2.2.1, .int .i64 0, .slice none 0 0, .bool (seesB b 3 (mk1 40)), .bool false] := hov.put us.at_ us.ch rfl
     replace hps := hps.own us.ch (fun j hj e => by (try dsimp only at e); omega)
     have cus := us.ch
     obtain ⟨wl, hwl0⟩ : ∃ wl, wl = w10.heap.size := ⟨_, rfl⟩
     have hobz := hov.lt
     have hobl : ob < wl ∧ rb < wl := by omega
     have hloz := hov.2.2.2.1
     refine WL.e3 Nx.thn 0 4 5 (jt4 rfl (jt2 rfl (s0))) (jt4 rfl (jt2 rfl (s4))) (jt4 rfl (jt2 rfl (s5))) ?_
     intro σ7 s0 s4 s5
     have qo4 := s0
     have qo5 := s4
     have qo6 := s5
     refine W.seqJ (fun σ' w' => (σ' 0 = σ7 0 ∧ σ' 4 = σ7 4 ∧ σ' 5 = σ7 5 ∧ True) ∧ ∃ acc rr lv, OV p 48 ob rb w w' #[.int .i64 ((j : Int) + 1), .string tk.2.2.1, .int .i64 0, lv, .bool (seesB b 3 (mk1 40)), .bool false] ∧ PS B p e rr w' ∧ w'.ownsRow wl 3 1 lv acc.length (ints acc) ∧ (seesB b 3 (mk1 40) = true → listP e b.tail [] = listP e rr acc ∧ seesB rr 2 no = false) ∧ (seesB b 3 (mk1 40) = false → acc = [] ∧ rr = b ∧ lv = .slice none 0 0)) ?_ ?_
     ·
      refine W.block ?_
      have qo7 := s0
      have qo8 := s4
      have qo9 := s5
      -- loop 0: kept [0, 4, 5], varied []
      refine W.loop (G := List Tok) (fun rr σ' w' => (σ' 0 = σ7 0 ∧ σ' 4 = σ7 4 ∧ σ' 5 = σ7 5 ∧ True) ∧ (∃ acc lv, OV p 48 ob rb w w' #[.int .i64 ((j : Int) + 1), .string tk.2.2.1, .int .i64 0, lv, .bool (seesB b 3 (mk1 40)), .bool false] ∧ PS B p e rr w' ∧ w'.ownsRow wl 3 1 lv acc.length (ints acc) ∧ (seesB b 3 (mk1 40) = true → listP e b.tail [] = listP e rr acc) ∧ (seesB b 3 (mk1 40) = false → acc = [] ∧ rr = b ∧ lv = .slice none 0 0) ∧ acc.length ≤ 40 ∧ wl ≤ w'.heap.size)) (fun rr => rr.length) (mayL b (seesB b 3 (mk1 40))) ⟨⟨rfl, rfl, rfl, trivial⟩, [], .slice none 0 0, hov, hps, World.ownsRow_nil _ _ _ _, (fun h9 => by rw [h9]; rfl), (fun h9 => ⟨rfl, by rw [h9]; rfl, rfl⟩), by simp, by omega⟩ ?_
      rintro rr σ8 w11 ⟨⟨f0, f4, f5, _⟩, acc, lv, hov, hps, hown, hlt, hlf, h40, hwl⟩
      have s0 := f0.trans qo7
      have s4 := f4.trans qo8
      have s5 := f5.trans qo9
      refine W.seq ?_
      refine W.seq ?_
      refine W.region ?_
      refine WL.x (X.fieldAddr fd48_4 (s5)) rfl ?_
      refine WL.x (X.load pl4 (lh) hov.1 (v := .bool (seesB b 3 (mk1 40))) rfl) rfl ?_
      refine WL.x (X.mv (lh)) rfl ?_
      refine WL.split (lh) (fun hhh => ?_) (fun hhh => ?_)
      ·
       refine WL.yes rfl rfl (lh) (hhh) ?_
       refine WL.x (X.mv (jt2 rfl (lt rfl (s0)))) rfl ?_
       refine WL.yes rfl rfl (lt rfl (lh)) (hhh) ?_
       refine WL.call3 ce38 (lh) lc lc (sees_ok B p e rr 2 no w11 hps) rfl ?_
       rintro _ _ ⟨rfl, rfl⟩
       refine WL.x (X.pickT (jt2 rfl (lh)) (hhh) (lh)) rfl ?_
       refine WL.e4 Nx.thn 0 4 5 50 (jt4 rfl (jt2 rfl (s0))) (jt4 rfl (jt2 rfl (s4))) (jt4 rfl (jt2 rfl (s5))) (lh) ?_
       intro σ9 s0 s4 s5 s50
       refine W.cnd s50 (fun hs2 => ?_) (fun hs2 => ?_)
       ·
        refine W.skip Nx.thn ?_
        refine W.block ?_
        refine W.seq ?_
        refine W.region ?_
        refine WL.x (X.mv (s0)) rfl ?_
        refine WL.x (X.fieldAddr fd48_3 (lt rfl (s5))) rfl ?_
        obtain ⟨la, lcp, rfl⟩ : ∃ la lcp, lv = .slice la acc.length lcp := by
          obtain ⟨la, lcp, e⟩ := (Sl.own hown).len
          exact ⟨la, lcp, by rw [e, List.length_map]⟩
        refine WL.x (X.load pl46 (lh) hov.1 (v := .slice la acc.length lcp) rfl) rfl ?_
        refine WL.x (X.lenSl Tryd.underlying46 (lh)) rfl ?_
        refine WL.callP3 ce40 (jt2 rfl (lt rfl (lh))) (lh) lc (room_ok B p e rr (acc.length : Int) 40 w11 hps) rfl (by rintro v w' ⟨h9, rfl, rfl⟩; exact ⟨_, rfl, (atP e rr, 4), hgo.trans (restP_mid (by rw [hk2]; exact midP_listE hhh ((hlt hhh).trans (listP_full hs2 (by omega))))), rfl, hov.2.2.1⟩) ?_
        rintro _ _ ⟨hroom, rfl⟩
        refine WL.e3 Nx.thn 0 4 5 (jt4 rfl (lt rfl (s0))) (jt4 rfl (lt rfl (s4))) (jt4 rfl (lt rfl (s5))) ?_
        intro σ10 s0 s4 s5
        refine W.held (fun w' => Ch (fun j => j = p ∨ slBlk (.slice la acc.length lcp) j ∨ j = ob) w11 w') mo ?_
        intro w12 qhh10 qc11
        have hS : Ch (fun j => j = p ∨ slBlk (.slice la acc.length lcp) j ∨ j = ob) w11 w12 := Ch.weak qc11
        have hzqc11 := qc11.size
        have cdh11 := qc11
        replace hov := hov.ch0 cdh11
        replace hps := hps.ch0 cdh11
        replace hown := own_ch hown cdh11 (fun _ _ => id)
        have zcd := cdh11.size
        refine WH.takeP 0 rfl (by kernel_rfl) (by kernel_rfl) (by kernel_rfl) (fun _ _ _ _ _ h => h) Gd.none rfl (fun w' hS' => X.fieldAddr fd48_3 (s5)) hS ?_
        refine WH.takeP 2 rfl (by kernel_rfl) (by kernel_rfl) (by kernel_rfl) (fun _ _ _ _ _ h => h) Gd.none rfl (fun w' hS' => X.mv (lt rfl (s0))) hS ?_
        refine WH.two 1 3 rfl rfl (by kernel_rfl) (fun _ _ h => h) ?_ ?_
        ·
         first | refine WL.x (X.load pl46 (lt rfl (lh)) hov.1 (v := .slice la acc.length lcp) rfl) rfl ?_ | refine WL.x (X.load pl46 (lt rfl (lh)) (hov.ch0 cu11_5).1 (v := .slice la acc.length lcp) rfl) rfl ?_
         refine WL.nil Nx.thn ⟨hS, ?_⟩
         refine WH.one 3 rfl (by kernel_rfl) (fun _ _ h => h) ?_
         refine WL.callP3 ce39 (lt rfl (lh)) lc lc (take_ok B p e rr 2 no w12 hps) rfl (by rintro v w' ⟨hnb, -, -⟩; rw [hs2] at hnb; cases hnb) ?_
         rintro _ w13 ⟨t2, r2, hrr, -, rfl, hps, lc3⟩
         have hlo8 := hov.2.2.2.1
         replace hov := hov.call lc3
         replace hown := own_ch hown lc3 (fun k hk e => by have := (own_lt hown hk).1; (try dsimp only at e); omega)
         have hS := hS.trans lc3 (fun _ _ e => e) (fun _ _ e => .inl e)
         refine WL.nil Nx.thn ⟨hS, ?_⟩
         first | refine WH.takeP 4 rfl (by kernel_rfl) (by kernel_rfl) (by kernel_rfl) (fun _ _ _ _ _ h => h) Gd.none rfl (fun w' hS' => X.field fv80_3 (lh) (by rfl)) hS ?_ | refine WH.takeP 4 rfl (by kernel_rfl) (by kernel_rfl) (by kernel_rfl) (fun _ _ _ _ _ h => h) Gd.none rfl (fun w' hS' => X.field fv80_3 (lh) (by assumption)) hS ?_
         refine WH.one 5 rfl (by kernel_rfl) (fun _ _ h => h) ?_
         refine WL.bslice Tryd.underlying46 el3 rfl (pcons (lh) pnil) rfl (rfl : _ = [_]) rfl ?_
         intro w14 u11_5; have hu11_5 := u11_5.at_; have cu11_5 := u11_5.ch; have zu11_5 := u11_5.size
         have hS := hS.trans cu11_5 (fun _ _ => id) (by intro i hi hg; first | exact hg | exact False.elim hg | omega | ((try dsimp only at hg ⊢); omega))
         refine WL.nil Nx.thn ⟨hS, ?_⟩
         refine WH.one 6 rfl (by kernel_rfl) (fun _ _ h => h) ?_
         replace hov := hov.ch0 cu11_5
         replace hps := hps.ch0 cu11_5
         replace hown := own_ch hown cu11_5 (fun _ _ => id)
         have zl3 := lc3.size
         have zl5 := cu11_5.size
         refine WL.append Tryd.underlying46 el3 rfl (by decide) (jt2 rfl (lt rfl (lh))) (lh) (hown) (by first | assumption | exact hS.at (by assumption) (by intro hne; first | exact hne | ((try dsimp only at hne); omega)) | exact hS.at (cus.at (by assumption) (by intro hne; first | exact hne | ((try dsimp only at hne); omega))) (by intro hne; first | exact hne | ((try dsimp only at hne); omega))) rfl (by exact ones_of rfl) (by unfold maxLen; omega) (by omega) (by omega) rfl ?_
         intro va11_6 w15 ho11_6 ca11_6
         replace hov := hov.step ca11_6 (fun j hj => by have := (own_lt hown hj).1; exact ⟨by omega, by omega, .inr (by omega)⟩)
         replace hps := hps.own ca11_6 (fun j hj e => by have := (own_lt hown e).1; omega)
         obtain ⟨la2, lc2, rfl⟩ : ∃ la2 lc2, va11_6 = .slice la2 (acc.length + 1) lc2 := by
           obtain ⟨la2, lc2, e9⟩ := (Sl.own ho11_6).len
           exact ⟨la2, lc2, by rw [e9]; simp⟩
         have hS := hS.trans ca11_6 (fun _ _ e => e) (fun _ _ e => .inr (.inl e))
         refine WL.nil Nx.thn ⟨hS, ?_⟩
         refine WH.takeP 7 rfl (by kernel_rfl) (by kernel_rfl) (by kernel_rfl) (fun _ _ _ _ _ h => h) Gd.none rfl (fun w' hS' => X.fieldAddr fd48_3 (jt4 rfl (jt2 rfl (lt rfl (s5))))) hS ?_
         refine WH.one 8 rfl (by kernel_rfl) (fun _ _ h => h) ?_
         refine WL.store el46 (lh) (lt rfl (lh)) rfl hov.1 (show 0 + 3 < 6 by decide) ?_
         intro w16 us
         have hob9 := hov.lt
         have hlo9 := hov.2.2.2.1
         have hov9 := hov
         replace hov : OV p 48 ob rb w w16 #[.int .i64 ((j : Int) + 1), .string tk.2.2.1, .int .i64 0, .slice la2 (acc.length + 1) lc2, .bool (seesB b 3 (mk1 40)), .bool false] := hov.put us.at_ us.ch rfl
         replace hps := hps.own us.ch (fun j hj e => by (try dsimp only at e); omega)
         have cus := us.ch
         replace hown := own_ch ho11_6 us.ch (fun k hk e => by have := (own_lt ho11_6 hk).1; (try dsimp only at e); omega)
         have hS := hS.trans cus (fun _ _ e => e) (fun _ _ e => .inr (.inr e))
         refine WL.nil Nx.thn ⟨hS, ?_⟩
         refine WH.done (by kernel_rfl) ?_
         refine WL.e3 (Nx.blk Nx.thn) 0 4 5 (jt8 rfl (s0)) (jt8 rfl (s4)) (jt8 rfl (s5)) ?_
         intro σ11 s0 s4 s5
         have hszz := hov.lt
         refine ⟨r2, by rw [hrr]; simp, ⟨s0.trans qo7.symm, s4.trans qo8.symm, s5.trans qo9.symm, trivial⟩, acc ++ [t2.2.2.2], .slice la2 (acc.length + 1) lc2, hov, (by exact hps), (by rw [List.length_append, show ints (acc ++ [t2.2.2.2]) = ints acc ++ [.int .i64 t2.2.2.2] from List.map_append ..]; exact hown), (fun h9 => (hlt h9).trans (by rw [listP_num hs2 (by omega), hrr]; rfl)), (fun h9 => absurd hhh (by rw [h9]; simp)), (by rw [List.length_append]; show acc.length + 1 ≤ 40; omega), (by have := cus.size; have := ca11_6.size; omega)⟩
        ·
         refine WL.callP3 ce39 (lh) lc lc (take_ok B p e rr 2 no w12 hps) rfl (by rintro v w' ⟨hnb, -, -⟩; rw [hs2] at hnb; cases hnb) ?_
         rintro _ w17 ⟨t2, r2, hrr, -, rfl, hps, lc3⟩
         have hlo8 := hov.2.2.2.1
         replace hov := hov.call lc3
         replace hown := own_ch hown lc3 (fun k hk e => by have := (own_lt hown hk).1; (try dsimp only at e); omega)
         have hS := hS.trans lc3 (fun _ _ e => e) (fun _ _ e => .inl e)
         refine WL.nil Nx.thn ⟨hS, ?_⟩
         first | refine WH.takeP 4 rfl (by kernel_rfl) (by kernel_rfl) (by kernel_rfl) (fun _ _ _ _ _ h => h) Gd.none rfl (fun w' hS' => X.field fv80_3 (lh) (by rfl)) hS ?_ | refine WH.takeP 4 rfl (by kernel_rfl) (by kernel_rfl) (by kernel_rfl) (fun _ _ _ _ _ h => h) Gd.none rfl (fun w' hS' => X.field fv80_3 (lh) (by assumption)) hS ?_
         refine WH.two 1 5 rfl rfl (by kernel_rfl) (fun _ _ h => h) ?_ ?_
         ·
          first | refine WL.x (X.load pl46 (jt2 rfl (lt rfl (lh))) hov.1 (v := .slice la acc.length lcp) rfl) rfl ?_ | refine WL.x (X.load pl46 (jt2 rfl (lt rfl (lh))) (hov.ch0 cu11_5).1 (v := .slice la acc.length lcp) rfl) rfl ?_
          refine WL.nil Nx.thn ⟨hS, ?_⟩
          refine WH.one 5 rfl (by kernel_rfl) (fun _ _ h => h) ?_
          refine WL.bslice Tryd.underlying46 el3 rfl (pcons (lt rfl (lh)) pnil) rfl (rfl : _ = [_]) rfl ?_
          intro w18 u11_5; have hu11_5 := u11_5.at_; have cu11_5 := u11_5.ch; have zu11_5 := u11_5.size
          have hS := hS.trans cu11_5 (fun _ _ => id) (by intro i hi hg; first | exact hg | exact False.elim hg | omega | ((try dsimp only at hg ⊢); omega))
          refine WL.nil Nx.thn ⟨hS, ?_⟩
          refine WH.one 6 rfl (by kernel_rfl) (fun _ _ h => h) ?_
          replace hov := hov.ch0 cu11_5
          replace hps := hps.ch0 cu11_5
          replace hown := own_ch hown cu11_5 (fun _ _ => id)
          have zl3 := lc3.size
          have zl5 := cu11_5.size
          refine WL.append Tryd.underlying46 el3 rfl (by decide) (lt rfl (lh)) (lh) (hown) (by first | assumption | exact hS.at (by assumption) (by intro hne; first | exact hne | ((try dsimp only at hne); omega)) | exact hS.at (cus.at (by assumption) (by intro hne; first | exact hne | ((try dsimp only at hne); omega))) (by intro hne; first | exact hne | ((try dsimp only at hne); omega))) rfl (by exact ones_of rfl) (by unfold maxLen; omega) (by omega) (by omega) rfl ?_
          intro va11_6 w19 ho11_6 ca11_6
          replace hov := hov.step ca11_6 (fun j hj => by have := (own_lt hown hj).1; exact ⟨by omega, by omega, .inr (by omega)⟩)
          replace hps := hps.own ca11_6 (fun j hj e => by have := (own_lt hown e).1; omega)
          obtain ⟨la2, lc2, rfl⟩ : ∃ la2 lc2, va11_6 = .slice la2 (acc.length + 1) lc2 := by
            obtain ⟨la2, lc2, e9⟩ := (Sl.own ho11_6).len
            exact ⟨la2, lc2, by rw [e9]; simp⟩
          have hS := hS.trans ca11_6 (fun _ _ e => e) (fun _ _ e => .inr (.inl e))
          refine WL.nil Nx.thn ⟨hS, ?_⟩
          refine WH.takeP 7 rfl (by kernel_rfl) (by kernel_rfl) (by kernel_rfl) (fun _ _ _ _ _ h => h) Gd.none rfl (fun w' hS' => X.fieldAddr fd48_3 (jt4 rfl (jt2 rfl (lt rfl (s5))))) hS ?_
          refine WH.one 8 rfl (by kernel_rfl) (fun _ _ h => h) ?_
          refine WL.store el46 (lh) (lt rfl (lh)) rfl hov.1 (show 0 + 3 < 6 by decide) ?_
          intro w20 us
          have hob9 := hov.lt
          have hlo9 := hov.2.2.2.1
          have hov9 := hov
          replace hov : OV p 48 ob rb w w20 #[.int .i64 ((j : Int) + 1), .string tk.2.2.1, .int .i64 0, .slice la2 (acc.length + 1) lc2, .bool (seesB b 3 (mk1 40)), .bool false] := hov.put us.at_ us.ch rfl
          replace hps := hps.own us.ch (fun j hj e => by (try dsimp only at e); omega)
          have cus := us.ch
          replace hown := own_ch ho11_6 us.ch (fun k hk e => by have := (own_lt ho11_6 hk).1; (try dsimp only at e); omega)
          have hS := hS.trans cus (fun _ _ e => e) (fun _ _ e => .inr (.inr e))
          refine WL.nil Nx.thn ⟨hS, ?_⟩
          refine WH.done (by kernel_rfl) ?_
          refine WL.e3 (Nx.blk Nx.thn) 0 4 5 (jt8 rfl (s0)) (jt8 rfl (s4)) (jt8 rfl (s5)) ?_
          intro σ12 s0 s4 s5
          have hszz := hov.lt
          refine ⟨r2, by rw [hrr]; simp, ⟨s0.trans qo7.symm, s4.trans qo8.symm, s5.trans qo9.symm, trivial⟩, acc ++ [t2.2.2.2], .slice la2 (acc.length + 1) lc2, hov, (by exact hps), (by rw [List.length_append, show ints (acc ++ [t2.2.2.2]) = ints acc ++ [.int .i64 t2.2.2.2] from List.map_append ..]; exact hown), (fun h9 => (hlt h9).trans (by rw [listP_num hs2 (by omega), hrr]; rfl)), (fun h9 => absurd hhh (by rw [h9]; simp)), (by rw [List.length_append]; show acc.length + 1 ≤ 40; omega), (by have := cus.size; have := ca11_6.size; omega)⟩
         ·
          refine WL.bslice Tryd.underlying46 el3 rfl (pcons (lh) pnil) rfl (rfl : _ = [_]) rfl ?_
          intro w21 u11_5; have hu11_5 := u11_5.at_; have cu11_5 := u11_5.ch; have zu11_5 := u11_5.size
          have hS := hS.trans cu11_5 (fun _ _ => id) (by intro i hi hg; first | exact hg | exact False.elim hg | omega | ((try dsimp only at hg ⊢); omega))
          refine WL.nil Nx.thn ⟨hS, ?_⟩
          refine WH.one 1 rfl (by kernel_rfl) (fun _ _ h => h) ?_
          first | refine WL.x (X.load pl46 (jt4 rfl (lh)) hov.1 (v := .slice la acc.length lcp) rfl) rfl ?_ | refine WL.x (X.load pl46 (jt4 rfl (lh)) (hov.ch0 cu11_5).1 (v := .slice la acc.length lcp) rfl) rfl ?_
          refine WL.nil Nx.thn ⟨hS, ?_⟩
          refine WH.one 6 rfl (by kernel_rfl) (fun _ _ h => h) ?_
          replace hov := hov.ch0 cu11_5
          replace hps := hps.ch0 cu11_5
          replace hown := own_ch hown cu11_5 (fun _ _ => id)
          have zl3 := lc3.size
          have zl5 := cu11_5.size
          refine WL.append Tryd.underlying46 el3 rfl (by decide) (lh) (lt rfl (lh)) (hown) (by first | assumption | exact hS.at (by assumption) (by intro hne; first | exact hne | ((try dsimp only at hne); omega)) | exact hS.at (cus.at (by assumption) (by intro hne; first | exact hne | ((try dsimp only at hne); omega))) (by intro hne; first | exact hne | ((try dsimp only at hne); omega))) rfl (by exact ones_of rfl) (by unfold maxLen; omega) (by omega) (by omega) rfl ?_
          intro va11_6 w22 ho11_6 ca11_6
          replace hov := hov.step ca11_6 (fun j hj => by have := (own_lt hown hj).1; exact ⟨by omega, by omega, .inr (by omega)⟩)
          replace hps := hps.own ca11_6 (fun j hj e => by have := (own_lt hown e).1; omega)
          obtain ⟨la2, lc2, rfl⟩ : ∃ la2 lc2, va11_6 = .slice la2 (acc.length + 1) lc2 := by
            obtain ⟨la2, lc2, e9⟩ := (Sl.own ho11_6).len
            exact ⟨la2, lc2, by rw [e9]; simp⟩
          have hS := hS.trans ca11_6 (fun _ _ e => e) (fun _ _ e => .inr (.inl e))
          refine WL.nil Nx.thn ⟨hS, ?_⟩
          refine WH.takeP 7 rfl (by kernel_rfl) (by kernel_rfl) (by kernel_rfl) (fun _ _ _ _ _ h => h) Gd.none rfl (fun w' hS' => X.fieldAddr fd48_3 (jt4 rfl (jt2 rfl (lt rfl (s5))))) hS ?_
          refine WH.one 8 rfl (by kernel_rfl) (fun _ _ h => h) ?_
          refine WL.store el46 (lh) (lt rfl (lh)) rfl hov.1 (show 0 + 3 < 6 by decide) ?_
          intro w23 us
          have hob9 := hov.lt
          have hlo9 := hov.2.2.2.1
          have hov9 := hov
          replace hov : OV p 48 ob rb w w23 #[.int .i64 ((j : Int) + 1), .string tk.2.2.1, .int .i64 0, .slice la2 (acc.length + 1) lc2, .bool (seesB b 3 (mk1 40)), .bool false] := hov.put us.at_ us.ch rfl
          replace hps := hps.own us.ch (fun j hj e => by (try dsimp only at e); omega)
          have cus := us.ch
          replace hown := own_ch ho11_6 us.ch (fun k hk e => by have := (own_lt ho11_6 hk).1; (try dsimp only at e); omega)
          have hS := hS.trans cus (fun _ _ e => e) (fun _ _ e => .inr (.inr e))
          refine WL.nil Nx.thn ⟨hS, ?_⟩
          refine WH.done (by kernel_rfl) ?_
          refine WL.e3 (Nx.blk Nx.thn) 0 4 5 (jt8 rfl (s0)) (jt8 rfl (s4)) (jt8 rfl (s5)) ?_
          intro σ13 s0 s4 s5
          have hszz := hov.lt
          refine ⟨r2, by rw [hrr]; simp, ⟨s0.trans qo7.symm, s4.trans qo8.symm, s5.trans qo9.symm, trivial⟩, acc ++ [t2.2.2.2], .slice la2 (acc.length + 1) lc2, hov, (by exact hps), (by rw [List.length_append, show ints (acc ++ [t2.2.2.2]) = ints acc ++ [.int .i64 t2.2.2.2] from List.map_append ..]; exact hown), (fun h9 => (hlt h9).trans (by rw [listP_num hs2 (by omega), hrr]; rfl)), (fun h9 => absurd hhh (by rw [h9]; simp)), (by rw [List.length_append]; show acc.length + 1 ≤ 40; omega), (by have := cus.size; have := ca11_6.size; omega)⟩
       ·
        refine W.exit (Nx.xthn (Nx.xthn (Nx.xblk Nx.thn))) ?_
        refine ⟨⟨s0.trans qo4.symm, s4.trans qo5.symm, s5.trans qo6.symm, trivial⟩, acc, rr, lv, hov, hps, hown, (fun _ => ⟨hlt hhh, hs2⟩), (fun h9 => absurd hhh (by rw [h9]; simp))⟩
      ·
       refine WL.no rfl rfl (lh) (hhh) rfl ?_
       refine WL.no rfl rfl (lt rfl (lh)) (hhh) rfl ?_
       refine WL.x (X.pickF (jt2 rfl (lh)) (hhh) lc) rfl ?_
       refine WL.e4 Nx.thn 0 4 5 50 (jt4 rfl (jt2 rfl (s0))) (jt4 rfl (jt2 rfl (s4))) (jt4 rfl (jt2 rfl (s5))) (lh) ?_
       intro σ14 s0 s4 s5 s50
       refine W.cndF s50 ?_
       refine W.exit (Nx.xthn (Nx.xthn (Nx.xblk Nx.thn))) ?_
       refine ⟨⟨s0.trans qo4.symm, s4.trans qo5.symm, s5.trans qo6.symm, trivial⟩, acc, rr, lv, hov, hps, hown, (fun h9 => absurd h9 (by rw [hhh]; simp)), hlf⟩
     ·
      rintro σ15 w24 ⟨⟨f0, f4, f5, _⟩, acc, rr, lv, hov, hps, hown, hl12, hl12f⟩
      have s0 := f0.trans qo4
      have s4 := f4.trans qo5
      have s5 := f5.trans qo6
      refine W.seq ?_
      refine W.region ?_
      refine WL.x (X.fieldAddr fd48_4 (s5)) rfl ?_
      refine WL.x (X.load pl4 (lh) hov.1 (v := .bool (seesB b 3 (mk1 40))) rfl) rfl ?_
      refine WL.e4 Nx.thn 0 4 5 65 (jt2 rfl (s0)) (jt2 rfl (s4)) (jt2 rfl (s5)) (lh) ?_
      intro σ16 s0 s4 s5 s65
      refine W.cnd s65 (fun hh65 => ?_) (fun hh65 => ?_)
      ·
       refine W.region ?_
       refine WL.x (X.mv (s0)) rfl ?_
       refine WL.callP3 ce39 (lh) lc lc (take_ok B p e rr 3 (mk1 41) w24 hps) rfl (by rintro v w' ⟨hnb, rfl, cx⟩; exact ⟨_, rfl, (atP e rr, 20), hgo.trans (restP_mid (by rw [hk2]; exact midP_listE hh65 ((hl12 hh65).1.trans (listP_bad (hl12 hh65).2 hnb)))), rfl, (hov.ch0 cx).2.2.1⟩) ?_
       rintro _ w25 ⟨t3, r3, hr3, hs3, rfl, hps, c13⟩
       have hlo8 := hov.2.2.2.1
       replace hov := hov.call c13
       replace hown := own_ch hown c13 (fun k hk e => by have := (own_lt hown hk).1; (try dsimp only at e); omega)
       refine WL.e3 (Nx.blk Nx.thn) 0 4 5 (jt2 rfl (s0)) (jt2 rfl (s4)) (jt2 rfl (s5)) ?_
       intro σ17 s0 s4 s5
       refine ⟨⟨s0.trans qo1.symm, s4.trans qo2.symm, s5.trans qo3.symm, trivial⟩, (0, acc, true, false), rr.tail, lv, (by rw [hk2]; exact midP_list hh65 ((hl12 hh65).1.trans (listP_end (hl12 hh65).2 hs3))), (by rw [hh65] at hov; exact hov), (by rw [hr3]; exact hps), ⟨Sl.own hown, own_mine hown (by decide) (by omega)⟩⟩
      ·
       refine W.skip (Nx.blk Nx.thn) ?_
       refine ⟨⟨s0.trans qo1.symm, s4.trans qo2.symm, s5.trans qo3.symm, trivial⟩, (0, [], false, false), b, .slice none 0 0, (by rw [hk2]; exact midP_bare hh65), (by obtain ⟨-, -, h8⟩ := hl12f hh65; rw [hh65, h8] at hov; exact hov), (by obtain ⟨-, h8, -⟩ := hl12f hh65; rw [h8] at hps; exact hps), ⟨.inl ⟨rfl, none, 0, rfl⟩, fun _ h => (show False from h).elim⟩⟩
    ·
     refine W.seq ?_
     refine W.region ?_
     refine WL.x (X.eql (s32) lc) rfl ?_
     refine WL.x (X.asg (lh)) rfl ?_
     refine WL.e4 Nx.thn 0 4 5 68 (jt2 rfl (s0)) (jt2 rfl (s4)) (jt2 rfl (s5)) (lh) ?_
     intro σ18 s0 s4 s5 s68
     refine W.cndp s68 (fun hk4 => ?_) (fun hk4 => ?_)
     ·
      refine W.seq ?_
      refine W.region ?_
      refine WL.x (X.mv (s0)) rfl ?_
      refine WL.call3 ce85 (lh) lc lc (pmay_ok B p e b 1 ⟨#[110, 105, 108]⟩ w8 hps) rfl ?_
      rintro _ w26 ⟨rfl, hps, km⟩
      replace hov := hov.call km
      refine WL.x (X.mv (lh)) rfl ?_
      refine WL.x (X.ex2_0 (lh)) rfl ?_
      refine WL.x (X.ex2_1 (lt rfl (lh))) rfl ?_
      refine WL.x (X.fieldAddr fd48_5 (jt4 rfl (lt rfl (s5)))) rfl ?_
      refine WL.store el4 (lh) (lt rfl (lh)) rfl hov.1 (show 0 + 5 < 6 by decide) ?_
      intro w27 us
      have hob9 := hov.lt
      have hlo9 := hov.2.2.2.1
      have hov9 := hov
      replace hov : OV p 48 ob rb w w27 #[.int .i64 ((j : Int) + 1), .string tk.2.2.1, .int .i64 0, .slice none 0 0, .bool false, .bool (seesB b 1 ⟨#[110, 105, 108]⟩)] := hov.put us.at_ us.ch rfl
      replace hps := hps.own us.ch (fun j hj e => by (try dsimp only at e); omega)
      have cus := us.ch
      
      refine WL.e3 Nx.thn 0 4 5 (jt4 rfl (jt2 rfl (s0))) (jt4 rfl (jt2 rfl (s4))) (jt4 rfl (jt2 rfl (s5))) ?_
      intro σ19 s0 s4 s5
      refine W.seq ?_
      refine W.region ?_
      refine WL.x (X.fieldAddr fd48_5 (s5)) rfl ?_
      refine WL.x (X.load pl4 (lh) hov.1 (v := .bool (seesB b 1 ⟨#[110, 105, 108]⟩)) rfl) rfl ?_
      refine WL.e4 Nx.thn 0 4 5 77 (jt2 rfl (s0)) (jt2 rfl (s4)) (jt2 rfl (s5)) (lh) ?_
      intro σ20 s0 s4 s5 s77
      refine W.cnd s77 (fun hnil => ?_) (fun hnil => ?_)
      ·
       refine W.region ?_
       refine WL.x (X.fieldAddr fd48_4 (s5)) rfl ?_
       refine WL.store el4 (lh) lc rfl hov.1 (show 0 + 4 < 6 by decide) ?_
       intro w28 us
       have hob9 := hov.lt
       have hlo9 := hov.2.2.2.1
       have hov9 := hov
       replace hov : OV p 48 ob rb w w28 #[.int .i64 ((j : Int) + 1), .string tk.2.2.1, .int .i64 0, .slice none 0 0, .bool true, .bool (seesB b 1 ⟨#[110, 105, 108]⟩)] := hov.put us.at_ us.ch rfl
       replace hps := hps.own us.ch (fun j hj e => by (try dsimp only at e); omega)
       have cus := us.ch
       
       refine WL.e3 (Nx.blk Nx.thn) 0 4 5 (lt rfl (s0)) (lt rfl (s4)) (lt rfl (s5)) ?_
       intro σ21 s0 s4 s5
       refine ⟨⟨s0.trans qo1.symm, s4.trans qo2.symm, s5.trans qo3.symm, trivial⟩, (0, [], true, true), b.tail, _, (by rw [hk4]; exact midP_nil hnil), (by rw [hnil] at hov; exact hov), (by rw [hnil] at hps; exact hps), ⟨.inl ⟨rfl, none, 0, rfl⟩, fun _ h => (show False from h).elim⟩⟩
      ·
       rw [hnil] at hps hov
       replace hps : PS B p e b w27 := hps
       refine W.seq ?_
       refine W.region ?_
       refine WL.x (X.mv (s0)) rfl ?_
       refine WL.call3 ce85 (lh) lc lc (pmay_ok B p e b 2 no w27 hps) rfl ?_
       rintro _ w29 ⟨rfl, hps, km⟩
       replace hov := hov.call km
       have hov8 := hov
       refine WL.x (X.mv (lh)) rfl ?_
       refine WL.x (X.ex2_0 (lh)) rfl ?_
       refine WL.x (X.ex2_1 (lt rfl (lh))) rfl ?_
       refine WL.alloc el80 rfl ?_
       intro w30 u18_5; have hu18_5 := u18_5.at_; have cu18_5 := u18_5.ch; have zu18_5 := u18_5.size
       refine WL.storeS (vs := ftk (mayT b (seesB b 2 no))) ag80 (lh) (jt2 rfl (lh)) (List.all_eq_true.2 (ftk_one _)) rfl hu18_5 (by first | decide | (simp; done)) ?_
       intro w31 us
       have htk : w31.heap[_]? = some (Obj.cells (ftk (mayT b (seesB b 2 no))).toArray 80 (0, 0)) := us.at_
       have cst := us.ch
       replace hov := hov.ch0 cu18_5
       have hob9 := hov.lt
       have hlo9 := hov.2.2.2.1
       have hob8 := hov8.lt
       replace hps := (hps.ch0 cu18_5).own cst (fun j hj e => by (try dsimp only at e); omega)
       replace hov := hov.step cst (fun j e => by (try dsimp only at e); exact ⟨by omega, by omega, .inr (by omega)⟩)
       have htb : ∃ tb, tb = (w30.heap.size - 1) := ⟨_, rfl⟩
       refine WL.x (X.asg (lt rfl (lh))) rfl ?_
       refine WL.e5 Nx.thn 0 4 5 6 7 (jt4 rfl (jt2 rfl (lt rfl (s0)))) (jt4 rfl (jt2 rfl (lt rfl (s4)))) (jt4 rfl (jt2 rfl (lt rfl (s5)))) (lt rfl (lh)) (lh) ?_
       intro σ22 s0 s4 s5 s6 s7
       refine W.seq ?_
       refine W.region ?_
       refine WL.x (X.mv (s7)) rfl ?_
       refine WL.e5 Nx.thn 0 4 5 6 84 (lt rfl (s0)) (lt rfl (s4)) (lt rfl (s5)) (lt rfl (s6)) (lh) ?_
       intro σ23 s0 s4 s5 s6 s84
       refine W.cnd s84 (fun hnum => ?_) (fun hnum => ?_)
       ·
        refine W.held (fun w' => Ch (fun j => j = ob) w31 w') mo ?_
        intro w32 qhh12 qc13
        have hS : Ch (fun j => j = ob) w31 w32 := Ch.weak qc13
        have hzqc13 := qc13.size
        have cdh20 := qc13
        replace hov := hov.ch0 cdh20
        replace hps := hps.ch0 cdh20
        refine WH.takeP 0 rfl (by kernel_rfl) (by kernel_rfl) (by kernel_rfl) (fun _ _ _ _ _ h => h) Gd.none rfl (fun w' hS' => X.fieldAddr fd80_3 (s6)) hS ?_
        refine WH.takeP 1 rfl (by kernel_rfl) (by kernel_rfl) (by kernel_rfl) (fun _ _ _ _ _ h => h) Gd.none rfl (fun w' hS' => X.load pl3 (lh) (hS'.at htk (fun e => by (try dsimp only at e); omega)) (v := .int .i64 (mayT b (seesB b 2 no)).2.2.2) rfl) hS ?_
        refine WH.takeP 2 rfl (by kernel_rfl) (by kernel_rfl) (by kernel_rfl) (fun _ _ _ _ _ h => h) Gd.none rfl (fun w' hS' => X.fieldAddr fd48_4 (jt2 rfl (s5))) hS ?_
        refine WH.one 3 rfl (by kernel_rfl) (fun _ _ h => h) ?_
        refine WL.store el4 (lh) lc rfl hov.1 (show 0 + 4 < 6 by decide) ?_
        intro w33 us
        have hob9 := hov.lt
        have hlo9 := hov.2.2.2.1
        have hov9 := hov
        replace hov : OV p 48 ob rb w w33 #[.int .i64 ((j : Int) + 1), .string tk.2.2.1, .int .i64 0, .slice none 0 0, .bool true, .bool false] := hov.put us.at_ us.ch rfl
        replace hps := hps.own us.ch (fun j hj e => by (try dsimp only at e); omega)
        have cus := us.ch
        
        have hS := hS.trans cus (fun _ _ => id) (by intro i hi hg; first | exact hg | exact False.elim hg | omega | ((try dsimp only at hg ⊢); omega))
        refine WL.nil Nx.thn ⟨hS, ?_⟩
        refine WH.takeP 4 rfl (by kernel_rfl) (by kernel_rfl) (by kernel_rfl) (fun _ _ _ _ _ h => h) Gd.none rfl (fun w' hS' => X.fieldAddr fd48_2 (jt2 rfl (lt rfl (s5)))) hS ?_
        refine WH.one 5 rfl (by kernel_rfl) (fun _ _ h => h) ?_
        refine WL.store el3 (lh) (jt2 rfl (lh)) rfl hov.1 (show 0 + 2 < 6 by decide) ?_
        intro w34 us
        have hob9 := hov.lt
        have hlo9 := hov.2.2.2.1
        have hov9 := hov
        replace hov : OV p 48 ob rb w w34 #[.int .i64 ((j : Int) + 1), .string tk.2.2.1, .int .i64 (mayT b (seesB b 2 no)).2.2.2, .slice none 0 0, .bool true, .bool false] := hov.put us.at_ us.ch rfl
        replace hps := hps.own us.ch (fun j hj e => by (try dsimp only at e); omega)
        have cus := us.ch
        
        have hS := hS.trans cus (fun _ _ => id) (by intro i hi hg; first | exact hg | exact False.elim hg | omega | ((try dsimp only at hg ⊢); omega))
        refine WL.nil Nx.thn ⟨hS, ?_⟩
        refine WH.done (by kernel_rfl) ?_
        refine WL.e3 (Nx.blk Nx.thn) 0 4 5 (jt4 rfl (s0)) (jt4 rfl (s4)) (jt4 rfl (s5)) ?_
        intro σ24 s0 s4 s5
        refine ⟨⟨s0.trans qo1.symm, s4.trans qo2.symm, s5.trans qo3.symm, trivial⟩, (hdN b, [], true, false), b.tail, _, (by rw [hk4]; exact midP_get hnil hnum), (by rw [hnum] at hov; obtain ⟨t8, r8, rfl⟩ := sees_cons_ hnum; exact hov), (by rw [hnum] at hps; exact hps), ⟨.inl ⟨rfl, none, 0, rfl⟩, fun _ h => (show False from h).elim⟩⟩
       ·
        refine W.skip (Nx.blk Nx.thn) ?_
        refine ⟨⟨s0.trans qo1.symm, s4.trans qo2.symm, s5.trans qo3.symm, trivial⟩, (0, [], false, false), b, _, (by rw [hk4]; exact midP_no hnil hnum), hov, (by rw [hnum] at hps; exact hps), ⟨.inl ⟨rfl, none, 0, rfl⟩, fun _ h => (show False from h).elim⟩⟩
     ·
      refine W.region ?_
      refine WL.x (X.mv (s0)) rfl ?_
      refine WL.callP3 ce39 (lh) lc lc (take_ok B p e b 2 no w8 hps) rfl (by rintro v w' ⟨hnb, rfl, cx⟩; exact ⟨_, rfl, (atP e b, 20), hgo.trans (restP_mid (midP_valE hk2 hk4 hnb)), rfl, (hov.ch0 cx).2.2.1⟩) ?_
      rintro _ w35 ⟨t5, r5, hr5, hs5, rfl, hps, c6⟩
      replace hov := hov.call c6
      first | refine WL.x (X.field fv80_3 (lh) (by rfl)) rfl ?_ | refine WL.x (X.field fv80_3 (lh) (by assumption)) rfl ?_
      refine WL.x (X.fieldAddr fd48_2 (jt2 rfl (lt rfl (s5)))) rfl ?_
      refine WL.store el3 (lh) (lt rfl (lh)) rfl hov.1 (show 0 + 2 < 6 by decide) ?_
      intro w36 us
      have hob9 := hov.lt
      have hlo9 := hov.2.2.2.1
      have hov9 := hov
      replace hov : OV p 48 ob rb w w36 #[.int .i64 ((j : Int) + 1), .string tk.2.2.1, .int .i64 t5.2.2.2, .slice none 0 0, .bool false, .bool false] := hov.put us.at_ us.ch rfl
      replace hps := hps.own us.ch (fun j hj e => by (try dsimp only at e); omega)
      have cus := us.ch
      
      refine WL.e3 (Nx.blk Nx.thn) 0 4 5 (jt4 rfl (s0)) (jt4 rfl (s4)) (jt4 rfl (s5)) ?_
      intro σ25 s0 s4 s5
      refine ⟨⟨s0.trans qo1.symm, s4.trans qo2.symm, s5.trans qo3.symm, trivial⟩, (hdN b, [], false, false), b.tail, _, midP_val hk2 hk4 hs5, (by rw [hr5]; exact hov), (by rw [hr5]; exact hps), ⟨.inl ⟨rfl, none, 0, rfl⟩, fun _ h => (show False from h).elim⟩⟩
   ·
    rintro σ26 w37 ⟨⟨f0, f4, f5, _⟩, m, c, lv, hmid, hov, hps, hsl⟩
    have s0 := f0.trans qo1
    have s4 := f4.trans qo2
    have s5 := f5.trans qo3
    refine W.seq ?_
    refine W.region ?_
    refine WL.x (X.mv (s0)) rfl ?_
    refine WL.callP3 ce39 (lh) lc lc (take_ok B p e c 3 (mk1 93) w37 hps) rfl (by rintro v w' ⟨hnb, rfl, cx⟩; exact ⟨_, rfl, (atP e c, 20), hgo.trans (restP_end hmid hnb), rfl, (hov.ch0 cx).2.2.1⟩) ?_
    rintro _ w38 ⟨t7, r7, hr7, hs7, rfl, hps, c21⟩
    replace hov := hov.call c21
    replace hsl := slA_mine hsl c21 (fun j hj e => by have := hj.1; (try dsimp only at e); omega)
    refine WL.e2 Nx.thn 4 5 (jt2 rfl (s4)) (jt2 rfl (s5)) ?_
    intro σ27 s4 s5
    refine W.seq ?_
    refine W.region ?_
    obtain ⟨la9, lc9, rfl⟩ := hsl.1.len
    refine WL.x (X.loadBox (vs := [.int .i64 ((j : Int) + 1), .string tk.2.2.1, .int .i64 m.1, .slice la9 (ints m.2.1).length lc9, .bool m.2.2.1, .bool m.2.2.2]) ag48 (s5) hov.1 rfl) rfl ?_
    obtain ⟨z9, hz9, hzs9⟩ := hov.2.1
    have hne9 := hov.2.2.2.2.2.1
    have hrb9 := hov.2.2.2.2.1
    have hob9 := hov.lt
    refine WL.storeS (vs := [.int .i64 ((j : Int) + 1), .string tk.2.2.1, .int .i64 m.1, .slice la9 (ints m.2.1).length lc9, .bool m.2.2.1, .bool m.2.2.2]) ag48 (lt rfl (s4)) (lh) rfl rfl hz9 (by rw [hzs9]; exact Nat.le_of_ble_eq_true rfl) ?_
    intro w39 us
    have hfin := us.at_
    rw [blit_all (by rw [hzs9]; rfl)] at hfin
    have cfin := us.ch
    refine WL.e1 Nx.thn 4 (lt rfl (s4)) ?_
    intro σ28 s4
    refine W.retG (Nx.panR Nx.fG) ⟨[_], (.cell s4 (by first | assumption | exact cfin.at (by assumption) (by intro hne; first | exact hne | ((try dsimp only at hne); omega)) | exact cfin.at (c21.at (by assumption) (by intro hne; first | exact hne | ((try dsimp only at hne); omega))) (by intro hne; first | exact hne | ((try dsimp only at hne); omega))) (by exact ag48) .nil), ?_⟩
    have hop := hgo.trans (restP_ok hmid hs7)
    have hsl2 := slA_mine hsl cfin (fun j hj e => by have h8 : j = rb := e; subst h8; obtain ⟨-, cs8, T8, hT8, h9⟩ := hj; rw [hz9] at h9; have := (Obj.cells.inj (Option.some.inj h9)).2.1; subst this; simp at hT8)
    exact ⟨_, _, [.int .i64 ((j : Int) + 1), .string tk.2.2.1, .int .i64 m.1, .slice la9 (ints m.2.1).length lc9, .bool m.2.2.1, .bool m.2.2.2], hop, rfl, rfl, rop_of (R := r64) (fun s => keyB_size) (opP_good hop hg r64_0) hsl2, by rw [hr7]; exact hps.own cfin (fun j hj e => by (try dsimp only at e); omega), (hov.2.2.1).trans cfin (H := fun j => j = p) (fun _ _ e => e) (fun j hj e => by (try dsimp only at e); omega)⟩
 ·
  refine WL.no rfl rfl (lh) (hs) rfl ?_
  refine WL.no rfl rfl (lt rfl (lh)) (hs) rfl ?_
  refine WL.no rfl rfl (jt2 rfl (lh)) (hs) rfl ?_
  refine WL.no rfl rfl (jt2 rfl (lt rfl (lh))) (hs) rfl ?_
  refine WL.no rfl rfl (jt4 rfl (lh)) (hs) rfl ?_
  refine WL.no rfl rfl (jt4 rfl (lt rfl (lh))) (hs) rfl ?_
  refine WL.no rfl rfl (jt4 rfl (jt2 rfl (lh))) (hs) rfl ?_
  refine WL.no rfl rfl (jt4 rfl (jt2 rfl (lt rfl (lh)))) (hs) rfl ?_
  refine WL.no rfl rfl (jt8 rfl (lh)) (hs) rfl ?_
  refine WL.x (X.pickF (jt8 rfl (lt rfl (lh))) (hs) lc) rfl ?_
  refine WL.e4 Nx.thn 0 4 5 24 (jt8 rfl (jt4 rfl (lt rfl (s0)))) (jt8 rfl (jt4 rfl (lt rfl (s4)))) (jt8 rfl (jt4 rfl (lt rfl (s5)))) (lh) ?_
  intro σ29 s0 s4 s5 s24
  refine W.cndF s24 ?_
  refine W.skip Nx.thn ?_
  refine W.seq ?_
  refine W.region ?_
  refine WL.x (X.mv (s0)) rfl ?_
  refine WL.callP3 ce39 (lh) lc lc ((take_ok B p e a 1 no w5 hps).mono (R' := fun _ _ => False) (fun v w' ⟨_, _, _, h9, _⟩ => by rw [hs] at h9; cases h9) (fun _ _ e => e)) rfl (by rintro v w' ⟨hnb, rfl, cx⟩; exact ⟨_, rfl, (atP e a, 20), by rw [ha]; exact opP_take hwi (by rw [← ha]; exact hs), rfl, (hov.ch0 cx).2.2.1⟩) ?_
  rintro _ _ ⟨⟩

theorem own_form {w : World} {base e size m : Nat} {v : Value} {xs : List Value} (h : w.ownsRow base e size v m xs) : ∃ a c, v = .slice a m c := by
  rcases h.2 with ⟨rfl, h0⟩ | ⟨g, cap, cur, rfl, _⟩
  · exact ⟨none, 0, by rw [h0]⟩
  · exact ⟨_, cap, rfl⟩
theorem orow_form {α : Type} {size : Nat} {R : Rd α} {A : Nat → Prop} {w : World} {base e : Nat} {v : Value} {l : List α} (h : ORow size R A w base e v l) : ∃ a c, v = .slice a l.length c := by
  obtain ⟨ess, _, _, h3, _⟩ := h
  exact own_form h3
theorem orow_mine {α : Type} {size : Nat} {R : Rd α} {ts : List TypeId} {b0 : Nat} {F : Nat → Prop} {w w' : World} {base e : Nat} {v : Value} {l : List α} (hR : Mon R) (h : ORow size R (Mine ts b0 w) w base e v l) (c : Ch F w w') (hF : ∀ j, Mine ts b0 w j → ¬ F j) (hv : ∀ k, slBlk v k → ¬ F k) : ORow size R (Mine ts b0 w') w' base e v l := by
  obtain ⟨ess, e1, e2, e3, e4⟩ := h
  exact ⟨ess, e1, e2, own_ch e3 c hv, fun j hj => hR _ _ _ _ _ _ _ c hF (fun k hk => hk.ch c (hF k hk)) (e4 j hj)⟩
theorem mine_ne {ts : List TypeId} {b0 ob T : Nat} {w : World} {cs : Array Value} {fr : Nat × Nat} (h : w.heap[ob]? = some (.cells cs T fr)) (hT : T ∉ ts) : ∀ j, Mine ts b0 w j → ¬ j = ob := by
  rintro j ⟨_, cs2, T2, hT2, h2⟩ rfl
  rw [h] at h2
  exact hT ((Obj.cells.inj (Option.some.inj h2)).2.1 ▸ hT2)
theorem rd_mine {α : Type} {R : Rd α} {ts : List TypeId} {b0 : Nat} {F : Nat → Prop} {w w' : World} {es : List Value} {x : α} (hR : Mon R) (h : R (Mine ts b0 w) w es x) (c : Ch F w w') (hF : ∀ j, Mine ts b0 w j → ¬ F j) : R (Mine ts b0 w') w' es x := hR _ _ _ _ _ _ _ c hF (fun k hk => hk.ch c (hF k hk)) h
theorem rd_mono {α : Type} {R : Rd α} {ts : List TypeId} {b0 b1 : Nat} {w : World} {es : List Value} {x : α} (hR : Mon R) (h : R (Mine ts b0 w) w es x) (hb : b1 ≤ b0) : R (Mine ts b1 w) w es x := hR _ _ _ _ _ _ _ (Ch.refl (fun _ => False) w) (fun _ _ => id) (fun k hk => hk.mono (fun _ h => h) hb) h
set_option maxHeartbeats 3200000 in
theorem event_ok (B p : Nat) (e : Int) (ts : List Tok) (w : World) (h : PS B p e ts w) (hg : TokG r64 ts) :
  Sg.RetP Tryd.prog 41 #[.pointer (some ⟨p, 0, none⟩)] w (fun v w' => ∃ x r es, eventP keyB e ts = .ok (x, r) ∧ v = .agg es.toArray ∧ es.length = 3 ∧ REv (Mine [3, 48] w.heap.size w') w' es x ∧ PS B p e r w' ∧ Ch (fun j => j = p) w w') (fun v w' => ∃ x : Er, eventP keyB e ts = .error x ∧ v = flt x.1 x.2 ∧ Ch (fun j => j = p) w w') := by
 have hBw := h.2.1
 have hpB := h.1
 refine enterPG (n := 73) (l := [.pointer (some ⟨p, 0, none⟩)]) Tryd.func41 rfl rfl rfl rfl ?_
 refine W.g1 0 (v1 := .pointer (some ⟨p, 0, none⟩)) rfl ?_; intro σ s0
 refine W.seq ?_
 refine W.region ?_
 refine WL.alloc el44 rfl ?_
 intro w1 u0_0; have hu0_0 := u0_0.at_; have cu0_0 := u0_0.ch; have zu0_0 := u0_0.size
 refine WL.e2 Nx.thn 0 2 (lt rfl (s0)) (lh) ?_
 intro σ1 s0 s2
 refine W.seq ?_
 refine W.region ?_
 refine WL.call0 ce26  (words_ok w1) rfl ?_
 rintro _ w2 ⟨rfl, cw0⟩
 refine WL.x (X.mv (lh)) rfl ?_
 refine WL.x (X.ex2_0 (lh)) rfl ?_
 refine WL.x (X.ex2_1 (lt rfl (lh))) rfl ?_
 refine WL.alloc el57 rfl ?_
 intro w3 u1_4; have hu1_4 := u1_4.at_; have cu1_4 := u1_4.ch; have zu1_4 := u1_4.size
 refine WL.alloc el57 rfl ?_
 intro w4 u1_5; have hu1_5 := u1_5.at_; have cu1_5 := u1_5.ch; have zu1_5 := u1_5.size
 refine WL.storeS (vs := [.string ⟨#[]⟩, .string ⟨#[105, 110, 118, 111, 107, 101]⟩, .string ⟨#[111, 107]⟩, .string ⟨#[102, 97, 105, 108]⟩, .string ⟨#[105, 110, 102, 111]⟩]) ag57 (lt rfl (lh)) (jt2 rfl (lt rfl (lh))) rfl rfl (cu1_5.at0 hu1_4) (by decide) ?_
 intro w5 us
 have hev1 : w5.heap[_]? = some (Obj.cells #[.string ⟨#[]⟩, .string ⟨#[105, 110, 118, 111, 107, 101]⟩, .string ⟨#[111, 107]⟩, .string ⟨#[102, 97, 105, 108]⟩, .string ⟨#[105, 110, 102, 111]⟩] 57 (0, 0)) := us.at_
 have cs6 := us.ch
 refine WL.storeS (vs := [.string ⟨#[]⟩, .string ⟨#[97, 112, 112, 101, 110, 100]⟩, .string ⟨#[114, 101, 97, 100]⟩, .string ⟨#[119, 114, 105, 116, 101]⟩, .string ⟨#[103, 101, 116]⟩]) ag57 (lh) (jt2 rfl (lh)) rfl rfl (cs6.at hu1_5 (fun e => by (try dsimp only at e); omega)) (by decide) ?_
 intro w6 us
 have cs7 := us.ch
 have hopc : w6.heap[_]? = some (Obj.cells #[.string ⟨#[]⟩, .string ⟨#[97, 112, 112, 101, 110, 100]⟩, .string ⟨#[114, 101, 97, 100]⟩, .string ⟨#[119, 114, 105, 116, 101]⟩, .string ⟨#[103, 101, 116]⟩] 57 (0, 0)) := us.at_
 have hev2 := cs7.at hev1 (fun e => by (try dsimp only at e); omega)
 have zcw := cw0.size
 have hc1 : Ch0 w1 w6 := (((cw0.trans0 cu1_4).trans0 cu1_5).trans cs6 (H := fun _ => False) (fun _ _ e => e) (fun q hq e => by (try dsimp only at e); omega)).trans cs7 (H := fun _ => False) (fun _ _ e => e) (fun q hq e => by (try dsimp only at e); omega)
 have hcl0 : Ch0 w w6 := cu0_0.trans0 hc1
 have hps := h.ch0 hcl0
 have hrbz := hc1.at0 hu0_0
 obtain ⟨opb, hopb⟩ : ∃ opb, opb = w3.heap.size := ⟨_, rfl⟩
 rw [← hopb] at hopc ⊢
 refine WL.e4 Nx.thn 0 2 3 4 (jt4 rfl (jt2 rfl (s0))) (jt4 rfl (jt2 rfl (s2))) (lt rfl (lh)) (lh) ?_
 intro σ2 s0 s2 s3 s4
 refine W.seq ?_
 refine W.region ?_
 refine WL.x (X.mv (s0)) rfl ?_
 refine WL.x (X.loadBox (vs := [.string ⟨#[]⟩, .string ⟨#[105, 110, 118, 111, 107, 101]⟩, .string ⟨#[111, 107]⟩, .string ⟨#[102, 97, 105, 108]⟩, .string ⟨#[105, 110, 102, 111]⟩]) ag57 (lt rfl (s3)) hev2 rfl) rfl ?_
 refine WL.callP2 ce70 (lt rfl (lh)) (lh) (word_ok B p e ts ⟨#[]⟩ ⟨#[105, 110, 118, 111, 107, 101]⟩ ⟨#[111, 107]⟩ ⟨#[102, 97, 105, 108]⟩ ⟨#[105, 110, 102, 111]⟩ w6 hps) rfl (by rintro v w' ⟨hn, rfl, cx⟩; exact ⟨_, rfl, (atP e ts, 20), eventP_none hn, rfl, hcl0.trans cx (H := fun j => j = p) (fun _ _ e => e.elim) (fun _ _ e => e)⟩) ?_
 rintro _ w7 ⟨⟨j, hwi, hj4, rfl⟩, hps, cw2⟩
 refine WL.x (X.build bd44 (pcons (lh) pnil) rfl (rfl : _ = [_, _, _])) rfl ?_
 refine WL.alloc el44 rfl ?_
 intro w8 u2_4; have hu2_4 := u2_4.at_; have cu2_4 := u2_4.ch; have zu2_4 := u2_4.size
 refine WL.storeS (vs := [.int .i64 ((j : Int) + 1), .int .i64 0, .slice none 0 0]) ag44 (lh) (lt rfl (lh)) rfl rfl hu2_4 (by decide) ?_
 intro w9 us
 have cus := us.ch
 obtain ⟨ob, hob⟩ : ∃ ob, ob = w7.heap.size := ⟨_, rfl⟩
 obtain ⟨rb, hrb⟩ : ∃ rb, rb = w.heap.size := ⟨_, rfl⟩
 have zcw2 := cw2.size
 have zc0 := hcl0.size
 have hlp := lt_of_blk hopc
 have hlr := lt_of_blk hrbz
 have hrbz := cus.at (cu2_4.at0 (cw2.at hrbz (fun e => by (try dsimp only at e); omega))) (fun e => by (try dsimp only at e); omega)
 have hopc := cus.at (cu2_4.at0 (cw2.at hopc (fun e => by (try dsimp only at e); omega))) (fun e => by (try dsimp only at e); omega)
 rw [← hrb] at hrbz
 have hov : OV p 44 ob rb w w9 #[.int .i64 ((j : Int) + 1), .int .i64 0, .slice none 0 0] := ⟨by rw [hob]; exact us.at_, ⟨_, hrbz, rfl⟩, ((hcl0.trans cw2 (H := fun j => j = p) (fun _ _ e => e.elim) (fun _ _ e => e)).trans cu2_4 (H := fun j => j = p) (fun _ _ e => e) (fun _ _ e => e.elim)).trans cus (H := fun j => j = p) (fun _ _ e => e) (fun j hj e => by (try dsimp only at e); omega), by omega, by omega, by omega, by omega⟩
 replace hps := (hps.ch0 cu2_4).own cus (fun j hj e => by (try dsimp only at e); omega)
 rw [← hob]
 rw [← hrb] at s2
 obtain ⟨a, ha⟩ : ∃ a, a = ts.tail := ⟨_, rfl⟩
 rw [← ha] at hps
 refine WL.e4 Nx.thn 0 2 4 5 (jt4 rfl (lt rfl (s0))) (jt4 rfl (lt rfl (s2))) (jt4 rfl (lt rfl (s4))) (lh) ?_
 intro σ3 s0 s2 s4 s5
 refine W.seq ?_
 refine W.seq ?_
 refine W.region ?_
 refine WL.x (X.mv (s0)) rfl ?_
 refine WL.call3 ce38 (lh) lc lc (sees_ok B p e a 2 no w9 hps) rfl ?_
 rintro _ _ ⟨rfl, rfl⟩
 refine WL.x (X.mv (lh)) rfl ?_
 refine WL.split (lh) (fun hs => ?_) (fun hs => ?_)
 ·
  refine WL.yes rfl rfl (lh) (hs) ?_
  obtain ⟨tk, b, hatk⟩ := sees_cons_ hs
  have hq9 := hps
  obtain ⟨-, -, v9, hp9, hr9⟩ := hq9
  rw [hatk] at hr9
  obtain ⟨a9, c9, rfl⟩ := hr9.len
  obtain ⟨b1, o1, cs1, T1, fr1, rfl, hm1, he1, hbp, hk1⟩ := hr9.get (k := 0) (by simp)
  have hlen9 : 0 < (tk :: b).length := by simp
  refine WL.x (X.mv (jt2 rfl (lt rfl (s0)))) rfl ?_
  refine WL.yes rfl rfl (lt rfl (lh)) (hs) ?_
  refine WL.x (X.nilck (lh)) rfl ?_
  refine WL.yes rfl rfl (jt2 rfl (lh)) (hs) ?_
  refine WL.x (X.fieldAddr fd77_0 (lh)) rfl ?_
  refine WL.yes rfl rfl (jt2 rfl (lt rfl (lh))) (hs) ?_
  refine WL.x (X.load pl69 (lh) (by first | assumption | exact cus.at (by assumption) (by intro hne; first | exact hne | ((try dsimp only at hne); omega)) | exact cus.at (cu2_4.at0 (by assumption)) (by intro hne; first | exact hne | ((try dsimp only at hne); omega))) (by first | rfl | assumption)) rfl ?_
  refine WL.yes rfl rfl (jt4 rfl (lh)) (hs) ?_
  refine WL.x (X.indexAddr Tryd.underlying69 el80 (lh) lc (by omega) (by omega)) rfl ?_
  refine WL.yes rfl rfl (jt4 rfl (lt rfl (lh))) (hs) ?_
  refine WL.x (X.fieldAddr fd80_3 (lh)) rfl ?_
  refine WL.yes rfl rfl (jt4 rfl (jt2 rfl (lh))) (hs) ?_
  refine WL.x (X.load pl3 (lh) hm1 (v := .int .i64 tk.2.2.2) (hk1 3 (by decide))) rfl ?_
  refine WL.yes rfl rfl (jt4 rfl (jt2 rfl (lt rfl (lh)))) (hs) ?_
  refine WL.x (X.lss (lh) lc) rfl ?_
  refine WL.yes rfl rfl (jt8 rfl (lh)) (hs) ?_
  refine WL.x (X.mv (lh)) rfl ?_
  refine WL.splitp (lh) (fun hneg => ?_) (fun hneg => ?_)
  ·
   refine WL.no rfl rfl (lh) (decide_eq_true hneg) rfl ?_
   refine WL.no rfl rfl (lt rfl (lh)) (decide_eq_true hneg) rfl ?_
   refine WL.no rfl rfl (jt2 rfl (lh)) (decide_eq_true hneg) rfl ?_
   refine WL.no rfl rfl (jt2 rfl (lt rfl (lh))) (decide_eq_true hneg) rfl ?_
   refine WL.no rfl rfl (jt4 rfl (lh)) (decide_eq_true hneg) rfl ?_
   refine WL.no rfl rfl (jt4 rfl (lt rfl (lh))) (decide_eq_true hneg) rfl ?_
   refine WL.no rfl rfl (jt4 rfl (jt2 rfl (lh))) (decide_eq_true hneg) rfl ?_
   refine WL.no rfl rfl (jt4 rfl (jt2 rfl (lt rfl (lh)))) (decide_eq_true hneg) rfl ?_
   refine WL.yes rfl rfl (jt8 rfl (jt8 rfl (lt rfl (lh)))) (hs) ?_
   refine WL.x (X.pickT (jt8 rfl (lh)) (decide_eq_true hneg) lc) rfl ?_
   refine WL.x (X.pickT (jt8 rfl (jt8 rfl (jt2 rfl (lh)))) (hs) (lh)) rfl ?_
   refine WL.e5 Nx.thn 0 2 4 5 35 (jt8 rfl (jt8 rfl (jt4 rfl (jt2 rfl (s0))))) (jt8 rfl (jt8 rfl (jt4 rfl (jt2 rfl (s2))))) (jt8 rfl (jt8 rfl (jt4 rfl (jt2 rfl (s4))))) (jt8 rfl (jt8 rfl (jt4 rfl (jt2 rfl (s5))))) (lh) ?_
   intro σ4 s0 s2 s4 s5 s35
   refine W.cndT s35 ?_
   refine W.region ?_
   refine WL.x (X.mv (s0)) rfl ?_
   refine WL.callP2 ce69 (lh) lc (fail_ok B p e a 20 w9 hps) rfl (by rintro v w' ⟨rfl, rfl⟩; exact ⟨_, rfl, (atP e a, 20), by rw [ha]; exact eventP_bad hwi (by rw [← ha]; exact hs) (by rw [← ha, hatk]; first | exact .inl hneg | exact .inr hbig), rfl, hov.2.2.1⟩) ?_
   rintro _ _ ⟨⟩
  ·
   refine WL.yes rfl rfl (lh) (decide_eq_false hneg) ?_
   refine WL.x (X.mv (jt8 rfl (jt4 rfl (s0)))) rfl ?_
   refine WL.yes rfl rfl (lt rfl (lh)) (decide_eq_false hneg) ?_
   refine WL.x (X.nilck (lh)) rfl ?_
   refine WL.yes rfl rfl (jt2 rfl (lh)) (decide_eq_false hneg) ?_
   refine WL.x (X.fieldAddr fd77_0 (lh)) rfl ?_
   refine WL.yes rfl rfl (jt2 rfl (lt rfl (lh))) (decide_eq_false hneg) ?_
   refine WL.x (X.load pl69 (lh) (by first | assumption | exact cus.at (by assumption) (by intro hne; first | exact hne | ((try dsimp only at hne); omega)) | exact cus.at (cu2_4.at0 (by assumption)) (by intro hne; first | exact hne | ((try dsimp only at hne); omega))) (by first | rfl | assumption)) rfl ?_
   refine WL.yes rfl rfl (jt4 rfl (lh)) (decide_eq_false hneg) ?_
   refine WL.x (X.indexAddr Tryd.underlying69 el80 (lh) lc (by omega) (by omega)) rfl ?_
   refine WL.yes rfl rfl (jt4 rfl (lt rfl (lh))) (decide_eq_false hneg) ?_
   refine WL.x (X.fieldAddr fd80_3 (lh)) rfl ?_
   refine WL.yes rfl rfl (jt4 rfl (jt2 rfl (lh))) (decide_eq_false hneg) ?_
   refine WL.x (X.load pl3 (lh) hm1 (v := .int .i64 tk.2.2.2) (hk1 3 (by decide))) rfl ?_
   refine WL.yes rfl rfl (jt4 rfl (jt2 rfl (lt rfl (lh)))) (decide_eq_false hneg) ?_
   refine WL.x (X.gtr (lh) lc) rfl ?_
   refine WL.yes rfl rfl (jt8 rfl (jt8 rfl (lt rfl (lh)))) (hs) ?_
   refine WL.x (X.pickF (jt8 rfl (lh)) (decide_eq_false hneg) (lh)) rfl ?_
   refine WL.x (X.pickT (jt8 rfl (jt8 rfl (jt2 rfl (lh)))) (hs) (lh)) rfl ?_
   refine WL.e5 Nx.thn 0 2 4 5 35 (jt8 rfl (jt8 rfl (jt4 rfl (jt2 rfl (s0))))) (jt8 rfl (jt8 rfl (jt4 rfl (jt2 rfl (s2))))) (jt8 rfl (jt8 rfl (jt4 rfl (jt2 rfl (s4))))) (jt8 rfl (jt8 rfl (jt4 rfl (jt2 rfl (s5))))) (lh) ?_
   intro σ5 s0 s2 s4 s5 s35
   refine W.cndp s35 (fun hbig => ?_) (fun hbig => ?_)
   ·
    refine W.region ?_
    refine WL.x (X.mv (s0)) rfl ?_
    refine WL.callP2 ce69 (lh) lc (fail_ok B p e a 20 w9 hps) rfl (by rintro v w' ⟨rfl, rfl⟩; exact ⟨_, rfl, (atP e a, 20), by rw [ha]; exact eventP_bad hwi (by rw [← ha]; exact hs) (by rw [← ha, hatk]; first | exact .inl hneg | exact .inr hbig), rfl, hov.2.2.1⟩) ?_
    rintro _ _ ⟨⟩
   ·
    refine W.skip Nx.thn ?_
    refine W.seq ?_
    refine W.region ?_
    refine WL.x (X.mv (s0)) rfl ?_
    refine WL.callP3 ce39 (lh) lc lc (take_ok B p e a 2 no w9 hps) rfl (by rintro v w' ⟨hnb, -, -⟩; rw [hs] at hnb; cases hnb) ?_
    rintro _ w10 ⟨tk2, b2, hab, -, rfl, hps, kc⟩
    obtain ⟨rfl, rfl⟩ := List.cons.inj (hatk.symm.trans hab)
    have hlo8 := hov.2.2.2.1
    replace hov := hov.call kc
    replace hopc := kc.at hopc (fun e => by (try dsimp only at e); omega)
    have hgb : TokG r64 b := (hg.suf (tail_suf _)).suf (by rw [← ha, hatk]; exact List.suffix_cons _ _)
    have hgo : eventP keyB e ts = evR keyB e ((j : Int) + 1) tk.2.2.2 b := by
      have h9 := eventP_go (e := e) (key := keyB) hwi (by rw [← ha]; exact hs) (by rw [← ha, hatk]; show 0 ≤ tk.2.2.2; omega) (by rw [← ha, hatk]; show tk.2.2.2 ≤ 99; omega)
      rw [← ha, hatk] at h9
      exact h9
    first | refine WL.x (X.field fv80_3 (lh) (by rfl)) rfl ?_ | refine WL.x (X.field fv80_3 (lh) (by assumption)) rfl ?_
    refine WL.x (X.fieldAddr fd44_1 (jt2 rfl (lt rfl (s5)))) rfl ?_
    refine WL.store el3 (lh) (lt rfl (lh)) rfl hov.1 (show 0 + 1 < 3 by decide) ?_
    intro w11 us
    have hob9 := hov.lt
    have hlo9 := hov.2.2.2.1
    have hov9 := hov
    replace hov : OV p 44 ob rb w w11 #[.int .i64 ((j : Int) + 1), .int .i64 tk.2.2.2, .slice none 0 0] := hov.put us.at_ us.ch rfl
    replace hps := hps.own us.ch (fun j hj e => by (try dsimp only at e); omega)
    have cus := us.ch
    replace hopc := cus.at hopc (fun e => by (try dsimp only at e); omega)
    refine WL.e4 Nx.thn 0 2 4 5 (jt4 rfl (s0)) (jt4 rfl (s2)) (jt4 rfl (s4)) (jt4 rfl (s5)) ?_
    intro σ6 s0 s2 s4 s5
    refine W.seq ?_
    refine W.seq ?_
    refine W.region ?_
    refine WL.x (X.mv (s0)) rfl ?_
    refine WL.call3 ce38 (lh) lc lc (sees_ok B p e b 3 (mk1 91) w11 hps) rfl ?_
    rintro _ _ ⟨rfl, rfl⟩
    refine WL.x (X.not (lh)) rfl ?_
    refine WL.e5 Nx.thn 0 2 4 5 44 (jt2 rfl (lt rfl (s0))) (jt2 rfl (lt rfl (s2))) (jt2 rfl (lt rfl (s4))) (jt2 rfl (lt rfl (s5))) (lh) ?_
    intro σ7 s0 s2 s4 s5 s44
    refine W.cnd s44 (fun hbo => ?_) (fun hbo => ?_)
    ·
     refine W.region ?_
     refine WL.x (X.mv (s0)) rfl ?_
     refine WL.callP2 ce69 (lh) lc (fail_ok B p e b 20 w11 hps) rfl (by rintro v w' ⟨rfl, rfl⟩; exact ⟨_, rfl, (atP e b, 20), hgo.trans (evR_open (by simpa using hbo)), rfl, hov.2.2.1⟩) ?_
     rintro _ _ ⟨⟩
    ·
     have hbo2 : seesB b 3 (mk1 91) = true := by simpa using hbo
     obtain ⟨wl, hwl0⟩ : ∃ wl, wl = w11.heap.size := ⟨_, rfl⟩
     have hobz := hov.lt
     have hobl : ob < wl ∧ rb < wl ∧ opb < wl := by have := lt_of_blk hopc; omega
     have hloz := hov.2.2.2.1
     refine W.skip Nx.thn ?_
     refine W.seq ?_
     refine W.block ?_
     have qo1 := s0
     have qo2 := s2
     have qo3 := s4
     have qo4 := s5
     -- loop 0: kept [0, 2, 4, 5], varied []
     refine W.loop (G := List Tok) (fun rr σ' w' => (σ' 0 = σ7 0 ∧ σ' 2 = σ7 2 ∧ σ' 4 = σ7 4 ∧ σ' 5 = σ7 5 ∧ True) ∧ (∃ acc f lv, OV p 44 ob rb w w' #[.int .i64 ((j : Int) + 1), .int .i64 tk.2.2.2, lv] ∧ PS B p e rr w' ∧ ORow 6 ROp (Mine [3] w.heap.size w') w' wl 48 lv acc ∧ opsP keyB e b.length b [] = opsP keyB e f rr acc ∧ rr.length ≤ f ∧ acc.length ≤ 8 ∧ TokG r64 rr ∧ w'.heap[opb]? = some (.cells #[.string ⟨#[]⟩, .string ⟨#[97, 112, 112, 101, 110, 100]⟩, .string ⟨#[114, 101, 97, 100]⟩, .string ⟨#[119, 114, 105, 116, 101]⟩, .string ⟨#[103, 101, 116]⟩] 57 (0, 0)) ∧ wl ≤ w'.heap.size)) (fun rr => rr.length) (b) ⟨⟨rfl, rfl, rfl, rfl, trivial⟩, [], b.length, .slice none 0 0, hov, hps, ORow.nil, rfl, Nat.le_refl _, by simp, hgb, hopc, by omega⟩ ?_
     rintro rr σ8 w12 ⟨⟨f0, f2, f4, f5, _⟩, acc, f, lv, hov, hps, hrow, heq, hf, h8, hgr, hopc, hwl⟩
     have s0 := f0.trans qo1
     have s2 := f2.trans qo2
     have s4 := f4.trans qo3
     have s5 := f5.trans qo4
     refine W.seq ?_
     refine W.seq ?_
     refine W.region ?_
     refine WL.x (X.mv (s0)) rfl ?_
     refine WL.call3 ce38 (lh) lc lc (sees_ok B p e rr 3 (mk1 91) w12 hps) rfl ?_
     rintro _ _ ⟨rfl, rfl⟩
     refine WL.e5 Nx.thn 0 2 4 5 48 (jt2 rfl (s0)) (jt2 rfl (s2)) (jt2 rfl (s4)) (jt2 rfl (s5)) (lh) ?_
     intro σ9 s0 s2 s4 s5 s48
     refine W.cnd s48 (fun hs2 => ?_) (fun hs2 => ?_)
     ·
      obtain ⟨f', rfl⟩ : ∃ f', f = f' + 1 := ⟨f - 1, by have := sees_len hs2; omega⟩
      obtain ⟨la, lcp, rfl⟩ := orow_form hrow
      refine W.skip Nx.thn ?_
      refine W.block ?_
      refine W.seq ?_
      refine W.region ?_
      refine WL.x (X.mv (s0)) rfl ?_
      refine WL.x (X.fieldAddr fd44_2 (lt rfl (s5))) rfl ?_
      refine WL.x (X.load pl42 (lh) hov.1 (v := .slice la acc.length lcp) rfl) rfl ?_
      refine WL.x (X.lenSl Tryd.underlying42 (lh)) rfl ?_
      refine WL.callP3 ce40 (jt2 rfl (lt rfl (lh))) (lh) lc (room_ok B p e rr (acc.length : Int) 8 w12 hps) rfl (by rintro v w' ⟨h9, rfl, rfl⟩; exact ⟨_, rfl, (atP e rr, 4), hgo.trans (evR_err hbo2 (heq.trans (opsP_full hs2 (by omega)))), rfl, hov.2.2.1⟩) ?_
      rintro _ _ ⟨hroom, rfl⟩
      refine WL.e4 Nx.thn 0 2 4 5 (jt4 rfl (lt rfl (s0))) (jt4 rfl (lt rfl (s2))) (jt4 rfl (lt rfl (s4))) (jt4 rfl (lt rfl (s5))) ?_
      intro σ10 s0 s2 s4 s5
      refine W.seq ?_
      refine W.region ?_
      refine WL.x (X.mv (s0)) rfl ?_
      refine WL.callP3 ce39 (lh) lc lc (take_ok B p e rr 3 (mk1 91) w12 hps) rfl (by rintro v w' ⟨hnb, -, -⟩; rw [hs2] at hnb; cases hnb) ?_
      rintro _ w13 ⟨t2, r2, hrr, -, rfl, hps, c10⟩
      have hlo8 := hov.2.2.2.1
      have hob8 := hov.lt
      replace hov := hov.call c10
      replace hrow := orow_mine monOp hrow c10 (fun j hj e => by have := hj.1; (try dsimp only at e); omega) (fun j hj e => by have := (ORow.lt hrow j hj).1; (try dsimp only at e); omega)
      replace hopc := c10.at hopc (fun e => by (try dsimp only at e); omega)
      have zc10 := c10.size
      have hg2 : TokG r64 r2 := hgr.suf (by rw [hrr]; exact List.suffix_cons _ _)
      refine WL.e4 Nx.thn 0 2 4 5 (jt2 rfl (s0)) (jt2 rfl (s2)) (jt2 rfl (s4)) (jt2 rfl (s5)) ?_
      intro σ11 s0 s2 s4 s5
      refine W.held (fun w' => Ch (fun j => j = p ∨ slBlk (.slice la acc.length lcp) j ∨ j = ob) w13 w') mo ?_
      intro w14 qhh5 qc6
      have hS : Ch (fun j => j = p ∨ slBlk (.slice la acc.length lcp) j ∨ j = ob) w13 w14 := Ch.weak qc6
      have hzqc6 := qc6.size
      have cdh11 := qc6
      have hopc0 := hopc
      replace hov := hov.ch0 cdh11
      replace hps := hps.ch0 cdh11
      replace hrow := orow_mine monOp hrow cdh11 (fun _ _ e => e) (fun _ _ e => e)
      replace hopc := cdh11.at0 hopc
      have zcd := cdh11.size
      refine WH.takeP 0 rfl (by kernel_rfl) (by kernel_rfl) (by kernel_rfl) (fun _ _ _ _ _ h => h) Gd.none rfl (fun w' hS' => X.fieldAddr fd44_2 (s5)) hS ?_
      refine WH.takeP 2 rfl (by kernel_rfl) (by kernel_rfl) (by kernel_rfl) (fun _ _ _ _ _ h => h) Gd.none rfl (fun w' hS' => X.mv (lt rfl (s0))) hS ?_
      refine WH.takeP 3 rfl (by kernel_rfl) (by kernel_rfl) (by kernel_rfl) (fun _ _ _ _ _ h => h) Gd.none rfl (fun w' hS' => X.loadBox (vs := [.string ⟨#[]⟩, .string ⟨#[97, 112, 112, 101, 110, 100]⟩, .string ⟨#[114, 101, 97, 100]⟩, .string ⟨#[119, 114, 105, 116, 101]⟩, .string ⟨#[103, 101, 116]⟩]) ag57 (jt2 rfl (s4)) (hS'.at hopc0 (fun e => by rcases e with e | e | e; (· omega); (· have := (ORow.lt hrow _ e).1; omega); (· omega))) rfl) hS ?_
      refine WH.two 1 4 rfl rfl (by kernel_rfl) (fun _ _ h => h) ?_ ?_
      ·
       first | refine WL.x (X.load pl42 (jt2 rfl (lh)) hov.1 (v := .slice la acc.length lcp) rfl) rfl ?_ | refine WL.x (X.load pl42 (jt2 rfl (lh)) (hov.ch0 cu11_5).1 (v := .slice la acc.length lcp) rfl) rfl ?_
       refine WL.nil Nx.thn ⟨hS, ?_⟩
       refine WH.one 4 rfl (by kernel_rfl) (fun _ _ h => h) ?_
       refine WL.callP2 ce71 (jt2 rfl (lh)) (lt rfl (lh)) (op_ok B p e r2 w14 hps hg2) rfl (by rintro v w' ⟨x, hx, rfl, cx⟩; exact ⟨_, rfl, x, hgo.trans (evR_err hbo2 (heq.trans (opsP_err hs2 (by omega) (by rw [hrr]; exact hx)))), rfl, (hov.call cx).2.2.1⟩) ?_
       rintro _ w15 ⟨o2, r3, es2, hop, rfl, hes6, hx, hps, c11⟩
       have hlo8 := hov.2.2.2.1
       have hob8 := hov.lt
       replace hov := hov.call c11
       replace hrow := orow_mine monOp hrow c11 (fun j hj e => by have := hj.1; (try dsimp only at e); omega) (fun j hj e => by have := (ORow.lt hrow j hj).1; (try dsimp only at e); omega)
       replace hopc := c11.at hopc (fun e => by (try dsimp only at e); omega)
       replace hx := rd_mono monOp hx (show w.heap.size ≤ _ by omega)
       have hG := opP_good hop hg2 r64_0
       obtain ⟨lv3, rfl, hx1⟩ := id hx
       obtain ⟨la3, lc3, rfl⟩ := hx1.1.1.len
       have hS := hS.trans c11 (fun _ _ e => e) (fun _ _ e => .inl e)
       refine WL.nil Nx.thn ⟨hS, ?_⟩
       refine WH.one 5 rfl (by kernel_rfl) (fun _ _ h => h) ?_
       refine WL.bsliceR (vs := [_]) Tryd.underlying42 el48 (by decide) (pcons (lh) pnil) rfl (fun u hu => by rw [List.mem_singleton.1 hu]; rfl) (show 1 * 6 ≤ 16777216 by decide) rfl ?_
       intro w17 u11_5; have hu11_5 := u11_5.at_; have cu11_5 := u11_5.ch; have zu11_5 := u11_5.size
       have hS := hS.trans cu11_5 (fun _ _ => id) (by intro i hi hg; first | exact hg | exact False.elim hg | omega | ((try dsimp only at hg ⊢); omega))
       refine WL.nil Nx.thn ⟨hS, ?_⟩
       refine WH.one 6 rfl (by kernel_rfl) (fun _ _ h => h) ?_
       replace hov := hov.ch0 cu11_5
       replace hps := hps.ch0 cu11_5
       replace hrow := orow_mine monOp hrow cu11_5 (fun _ _ e => e) (fun _ _ e => e)
       replace hopc := cu11_5.at0 hopc
       replace hx := rd_mine monOp hx cu11_5 (fun _ _ e => e)
       have zl4 := c11.size
       have zl5 := cu11_5.size
       have hrow9 := hrow
       obtain ⟨ess, he1, he2, hown, he4⟩ := hrow
       refine WL.append Tryd.underlying42 el48 rfl (by decide) (jt2 rfl (lh)) (lh) (hown) (by first | assumption | exact hS.at (by assumption) (by intro hne; first | exact hne | ((try dsimp only at hne); omega)) | exact hS.at (c10.at (by assumption) (by intro hne; first | exact hne | ((try dsimp only at hne); omega))) (by intro hne; first | exact hne | ((try dsimp only at hne); omega))) rfl (by exact ones_of rfl) (by unfold maxLen; omega) (by omega) (by omega) rfl ?_
       intro va11_6 w18 ho11_6 ca11_6
       replace hov := hov.step ca11_6 (fun j hj => by have := (own_lt hown hj).1; exact ⟨by omega, by omega, .inr (by omega)⟩)
       replace hps := hps.own ca11_6 (fun j hj e => by have := (own_lt hown e).1; omega)
       replace hopc := ca11_6.at hopc (fun e => by have := (own_lt hown e).1; omega)
       have hmf : ∀ j, Mine [3] w.heap.size _ j → ¬ slBlk (.slice la acc.length lcp) j := own_not hown (by decide)
       replace hx := rd_mine monOp hx ca11_6 hmf
       have hrow := ORow.push monOp he1 he2 he4 rfl hx ca11_6 hmf (fun j hj => hj.ch ca11_6 (hmf j hj)) ho11_6
       obtain ⟨la2, lc2, rfl⟩ : ∃ la2 lc2, va11_6 = .slice la2 (acc.length + 1) lc2 := own_form ho11_6
       have hS := hS.trans ca11_6 (fun _ _ e => e) (fun _ _ e => .inr (.inl e))
       refine WL.nil Nx.thn ⟨hS, ?_⟩
       refine WH.takeP 7 rfl (by kernel_rfl) (by kernel_rfl) (by kernel_rfl) (fun _ _ _ _ _ h => h) Gd.none rfl (fun w' hS' => X.fieldAddr fd44_2 (jt4 rfl (jt2 rfl (lt rfl (s5))))) hS ?_
       refine WH.one 8 rfl (by kernel_rfl) (fun _ _ h => h) ?_
       refine WL.store el42 (lh) (lt rfl (lh)) rfl hov.1 (show 0 + 2 < 3 by decide) ?_
       intro w19 us
       have hob9 := hov.lt
       have hlo9 := hov.2.2.2.1
       have hov9 := hov
       replace hov : OV p 44 ob rb w w19 #[.int .i64 ((j : Int) + 1), .int .i64 tk.2.2.2, .slice la2 (acc.length + 1) lc2] := hov.put us.at_ us.ch rfl
       replace hps := hps.own us.ch (fun j hj e => by (try dsimp only at e); omega)
       have cus := us.ch
       replace hrow := orow_mine monOp hrow cus (mine_ne hov9.1 (by decide)) (fun j hj e => by have := (ORow.lt hrow j hj).1; (try dsimp only at e); omega)
       replace hopc := cus.at hopc (fun e => by (try dsimp only at e); omega)
       have hS := hS.trans cus (fun _ _ e => e) (fun _ _ e => .inr (.inr e))
       refine WL.nil Nx.thn ⟨hS, ?_⟩
       refine WH.done (by kernel_rfl) ?_
       refine WL.e4 (Nx.blk Nx.thn) 0 2 4 5 (jt8 rfl (s0)) (jt8 rfl (s2)) (jt8 rfl (s4)) (jt8 rfl (s5)) ?_
       intro σ12 s0 s2 s4 s5
       have hszz := hov.lt
       refine ⟨r3, by have := hG.less; rw [hrr, List.length_cons]; omega, ⟨s0.trans qo1.symm, s2.trans qo2.symm, s4.trans qo3.symm, s5.trans qo4.symm, trivial⟩, acc ++ [o2], f', .slice la2 (acc.length + 1) lc2, hov, hps, hrow, heq.trans (opsP_go hs2 (by omega) (by rw [hrr]; exact hop)), (by have := hG.less; rw [hrr, List.length_cons] at hf; omega), (by rw [List.length_append]; show acc.length + 1 ≤ 8; omega), hg2.suf hG.suf, hopc, (by have := cus.size; have := ca11_6.size; omega)⟩
      ·
       refine WL.callP2 ce71 (lt rfl (lh)) (lh) (op_ok B p e r2 w14 hps hg2) rfl (by rintro v w' ⟨x, hx, rfl, cx⟩; exact ⟨_, rfl, x, hgo.trans (evR_err hbo2 (heq.trans (opsP_err hs2 (by omega) (by rw [hrr]; exact hx)))), rfl, (hov.call cx).2.2.1⟩) ?_
       rintro _ w20 ⟨o2, r3, es2, hop, rfl, hes6, hx, hps, c11⟩
       have hlo8 := hov.2.2.2.1
       have hob8 := hov.lt
       replace hov := hov.call c11
       replace hrow := orow_mine monOp hrow c11 (fun j hj e => by have := hj.1; (try dsimp only at e); omega) (fun j hj e => by have := (ORow.lt hrow j hj).1; (try dsimp only at e); omega)
       replace hopc := c11.at hopc (fun e => by (try dsimp only at e); omega)
       replace hx := rd_mono monOp hx (show w.heap.size ≤ _ by omega)
       have hG := opP_good hop hg2 r64_0
       obtain ⟨lv3, rfl, hx1⟩ := id hx
       obtain ⟨la3, lc3, rfl⟩ := hx1.1.1.len
       have hS := hS.trans c11 (fun _ _ e => e) (fun _ _ e => .inl e)
       refine WL.nil Nx.thn ⟨hS, ?_⟩
       refine WH.two 1 5 rfl rfl (by kernel_rfl) (fun _ _ h => h) ?_ ?_
       ·
        first | refine WL.x (X.load pl42 (jt2 rfl (lt rfl (lh))) hov.1 (v := .slice la acc.length lcp) rfl) rfl ?_ | refine WL.x (X.load pl42 (jt2 rfl (lt rfl (lh))) (hov.ch0 cu11_5).1 (v := .slice la acc.length lcp) rfl) rfl ?_
        refine WL.nil Nx.thn ⟨hS, ?_⟩
        refine WH.one 5 rfl (by kernel_rfl) (fun _ _ h => h) ?_
        refine WL.bsliceR (vs := [_]) Tryd.underlying42 el48 (by decide) (pcons (lt rfl (lh)) pnil) rfl (fun u hu => by rw [List.mem_singleton.1 hu]; rfl) (show 1 * 6 ≤ 16777216 by decide) rfl ?_
        intro w22 u11_5; have hu11_5 := u11_5.at_; have cu11_5 := u11_5.ch; have zu11_5 := u11_5.size
        have hS := hS.trans cu11_5 (fun _ _ => id) (by intro i hi hg; first | exact hg | exact False.elim hg | omega | ((try dsimp only at hg ⊢); omega))
        refine WL.nil Nx.thn ⟨hS, ?_⟩
        refine WH.one 6 rfl (by kernel_rfl) (fun _ _ h => h) ?_
        replace hov := hov.ch0 cu11_5
        replace hps := hps.ch0 cu11_5
        replace hrow := orow_mine monOp hrow cu11_5 (fun _ _ e => e) (fun _ _ e => e)
        replace hopc := cu11_5.at0 hopc
        replace hx := rd_mine monOp hx cu11_5 (fun _ _ e => e)
        have zl4 := c11.size
        have zl5 := cu11_5.size
        have hrow9 := hrow
        obtain ⟨ess, he1, he2, hown, he4⟩ := hrow
        refine WL.append Tryd.underlying42 el48 rfl (by decide) (lt rfl (lh)) (lh) (hown) (by first | assumption | exact hS.at (by assumption) (by intro hne; first | exact hne | ((try dsimp only at hne); omega)) | exact hS.at (c10.at (by assumption) (by intro hne; first | exact hne | ((try dsimp only at hne); omega))) (by intro hne; first | exact hne | ((try dsimp only at hne); omega))) rfl (by exact ones_of rfl) (by unfold maxLen; omega) (by omega) (by omega) rfl ?_
        intro va11_6 w23 ho11_6 ca11_6
        replace hov := hov.step ca11_6 (fun j hj => by have := (own_lt hown hj).1; exact ⟨by omega, by omega, .inr (by omega)⟩)
        replace hps := hps.own ca11_6 (fun j hj e => by have := (own_lt hown e).1; omega)
        replace hopc := ca11_6.at hopc (fun e => by have := (own_lt hown e).1; omega)
        have hmf : ∀ j, Mine [3] w.heap.size _ j → ¬ slBlk (.slice la acc.length lcp) j := own_not hown (by decide)
        replace hx := rd_mine monOp hx ca11_6 hmf
        have hrow := ORow.push monOp he1 he2 he4 rfl hx ca11_6 hmf (fun j hj => hj.ch ca11_6 (hmf j hj)) ho11_6
        obtain ⟨la2, lc2, rfl⟩ : ∃ la2 lc2, va11_6 = .slice la2 (acc.length + 1) lc2 := own_form ho11_6
        have hS := hS.trans ca11_6 (fun _ _ e => e) (fun _ _ e => .inr (.inl e))
        refine WL.nil Nx.thn ⟨hS, ?_⟩
        refine WH.takeP 7 rfl (by kernel_rfl) (by kernel_rfl) (by kernel_rfl) (fun _ _ _ _ _ h => h) Gd.none rfl (fun w' hS' => X.fieldAddr fd44_2 (jt4 rfl (jt2 rfl (lt rfl (s5))))) hS ?_
        refine WH.one 8 rfl (by kernel_rfl) (fun _ _ h => h) ?_
        refine WL.store el42 (lh) (lt rfl (lh)) rfl hov.1 (show 0 + 2 < 3 by decide) ?_
        intro w24 us
        have hob9 := hov.lt
        have hlo9 := hov.2.2.2.1
        have hov9 := hov
        replace hov : OV p 44 ob rb w w24 #[.int .i64 ((j : Int) + 1), .int .i64 tk.2.2.2, .slice la2 (acc.length + 1) lc2] := hov.put us.at_ us.ch rfl
        replace hps := hps.own us.ch (fun j hj e => by (try dsimp only at e); omega)
        have cus := us.ch
        replace hrow := orow_mine monOp hrow cus (mine_ne hov9.1 (by decide)) (fun j hj e => by have := (ORow.lt hrow j hj).1; (try dsimp only at e); omega)
        replace hopc := cus.at hopc (fun e => by (try dsimp only at e); omega)
        have hS := hS.trans cus (fun _ _ e => e) (fun _ _ e => .inr (.inr e))
        refine WL.nil Nx.thn ⟨hS, ?_⟩
        refine WH.done (by kernel_rfl) ?_
        refine WL.e4 (Nx.blk Nx.thn) 0 2 4 5 (jt8 rfl (s0)) (jt8 rfl (s2)) (jt8 rfl (s4)) (jt8 rfl (s5)) ?_
        intro σ13 s0 s2 s4 s5
        have hszz := hov.lt
        refine ⟨r3, by have := hG.less; rw [hrr, List.length_cons]; omega, ⟨s0.trans qo1.symm, s2.trans qo2.symm, s4.trans qo3.symm, s5.trans qo4.symm, trivial⟩, acc ++ [o2], f', .slice la2 (acc.length + 1) lc2, hov, hps, hrow, heq.trans (opsP_go hs2 (by omega) (by rw [hrr]; exact hop)), (by have := hG.less; rw [hrr, List.length_cons] at hf; omega), (by rw [List.length_append]; show acc.length + 1 ≤ 8; omega), hg2.suf hG.suf, hopc, (by have := cus.size; have := ca11_6.size; omega)⟩
       ·
        refine WL.bsliceR (vs := [_]) Tryd.underlying42 el48 (by decide) (pcons (lh) pnil) rfl (fun u hu => by rw [List.mem_singleton.1 hu]; rfl) (show 1 * 6 ≤ 16777216 by decide) rfl ?_
        intro w26 u11_5; have hu11_5 := u11_5.at_; have cu11_5 := u11_5.ch; have zu11_5 := u11_5.size
        have hS := hS.trans cu11_5 (fun _ _ => id) (by intro i hi hg; first | exact hg | exact False.elim hg | omega | ((try dsimp only at hg ⊢); omega))
        refine WL.nil Nx.thn ⟨hS, ?_⟩
        refine WH.one 1 rfl (by kernel_rfl) (fun _ _ h => h) ?_
        first | refine WL.x (X.load pl42 (jt4 rfl (lh)) hov.1 (v := .slice la acc.length lcp) rfl) rfl ?_ | refine WL.x (X.load pl42 (jt4 rfl (lh)) (hov.ch0 cu11_5).1 (v := .slice la acc.length lcp) rfl) rfl ?_
        refine WL.nil Nx.thn ⟨hS, ?_⟩
        refine WH.one 6 rfl (by kernel_rfl) (fun _ _ h => h) ?_
        replace hov := hov.ch0 cu11_5
        replace hps := hps.ch0 cu11_5
        replace hrow := orow_mine monOp hrow cu11_5 (fun _ _ e => e) (fun _ _ e => e)
        replace hopc := cu11_5.at0 hopc
        replace hx := rd_mine monOp hx cu11_5 (fun _ _ e => e)
        have zl4 := c11.size
        have zl5 := cu11_5.size
        have hrow9 := hrow
        obtain ⟨ess, he1, he2, hown, he4⟩ := hrow
        refine WL.append Tryd.underlying42 el48 rfl (by decide) (lh) (lt rfl (lh)) (hown) (by first | assumption | exact hS.at (by assumption) (by intro hne; first | exact hne | ((try dsimp only at hne); omega)) | exact hS.at (c10.at (by assumption) (by intro hne; first | exact hne | ((try dsimp only at hne); omega))) (by intro hne; first | exact hne | ((try dsimp only at hne); omega))) rfl (by exact ones_of rfl) (by unfold maxLen; omega) (by omega) (by omega) rfl ?_
        intro va11_6 w27 ho11_6 ca11_6
        replace hov := hov.step ca11_6 (fun j hj => by have := (own_lt hown hj).1; exact ⟨by omega, by omega, .inr (by omega)⟩)
        replace hps := hps.own ca11_6 (fun j hj e => by have := (own_lt hown e).1; omega)
        replace hopc := ca11_6.at hopc (fun e => by have := (own_lt hown e).1; omega)
        have hmf : ∀ j, Mine [3] w.heap.size _ j → ¬ slBlk (.slice la acc.length lcp) j := own_not hown (by decide)
        replace hx := rd_mine monOp hx ca11_6 hmf
        have hrow := ORow.push monOp he1 he2 he4 rfl hx ca11_6 hmf (fun j hj => hj.ch ca11_6 (hmf j hj)) ho11_6
        obtain ⟨la2, lc2, rfl⟩ : ∃ la2 lc2, va11_6 = .slice la2 (acc.length + 1) lc2 := own_form ho11_6
        have hS := hS.trans ca11_6 (fun _ _ e => e) (fun _ _ e => .inr (.inl e))
        refine WL.nil Nx.thn ⟨hS, ?_⟩
        refine WH.takeP 7 rfl (by kernel_rfl) (by kernel_rfl) (by kernel_rfl) (fun _ _ _ _ _ h => h) Gd.none rfl (fun w' hS' => X.fieldAddr fd44_2 (jt4 rfl (jt2 rfl (lt rfl (s5))))) hS ?_
        refine WH.one 8 rfl (by kernel_rfl) (fun _ _ h => h) ?_
        refine WL.store el42 (lh) (lt rfl (lh)) rfl hov.1 (show 0 + 2 < 3 by decide) ?_
        intro w28 us
        have hob9 := hov.lt
        have hlo9 := hov.2.2.2.1
        have hov9 := hov
        replace hov : OV p 44 ob rb w w28 #[.int .i64 ((j : Int) + 1), .int .i64 tk.2.2.2, .slice la2 (acc.length + 1) lc2] := hov.put us.at_ us.ch rfl
        replace hps := hps.own us.ch (fun j hj e => by (try dsimp only at e); omega)
        have cus := us.ch
        replace hrow := orow_mine monOp hrow cus (mine_ne hov9.1 (by decide)) (fun j hj e => by have := (ORow.lt hrow j hj).1; (try dsimp only at e); omega)
        replace hopc := cus.at hopc (fun e => by (try dsimp only at e); omega)
        have hS := hS.trans cus (fun _ _ e => e) (fun _ _ e => .inr (.inr e))
        refine WL.nil Nx.thn ⟨hS, ?_⟩
        refine WH.done (by kernel_rfl) ?_
        refine WL.e4 (Nx.blk Nx.thn) 0 2 4 5 (jt8 rfl (s0)) (jt8 rfl (s2)) (jt8 rfl (s4)) (jt8 rfl (s5)) ?_
        intro σ14 s0 s2 s4 s5
        have hszz := hov.lt
        refine ⟨r3, by have := hG.less; rw [hrr, List.length_cons]; omega, ⟨s0.trans qo1.symm, s2.trans qo2.symm, s4.trans qo3.symm, s5.trans qo4.symm, trivial⟩, acc ++ [o2], f', .slice la2 (acc.length + 1) lc2, hov, hps, hrow, heq.trans (opsP_go hs2 (by omega) (by rw [hrr]; exact hop)), (by have := hG.less; rw [hrr, List.length_cons] at hf; omega), (by rw [List.length_append]; show acc.length + 1 ≤ 8; omega), hg2.suf hG.suf, hopc, (by have := cus.size; have := ca11_6.size; omega)⟩
     ·
      refine W.exit (Nx.xthn (Nx.xthn (Nx.xblk Nx.thn))) ?_
      have qo7 := s2
      have qo8 := s5
      refine W.seqJ (fun σ' w' => (σ' 2 = σ9 2 ∧ σ' 5 = σ9 5 ∧ True) ∧ ∃ r lv, eventP keyB e ts = .ok (((j : Int) + 1, tk.2.2.2, acc), r) ∧ OV p 44 ob rb w w' #[.int .i64 ((j : Int) + 1), .int .i64 tk.2.2.2, lv] ∧ PS B p e r w' ∧ ORow 6 ROp (Mine [3] w.heap.size w') w' wl 48 lv acc) ?_ ?_
      ·
       refine W.seq ?_
       refine W.region ?_
       have hq9 := hps
       obtain ⟨-, -, v9, hp9, hr9⟩ := hq9
       obtain ⟨a9, c9, rfl⟩ := hr9.len
       refine WL.x (X.mv (s0)) rfl ?_
       refine WL.x (X.nilck (lh)) rfl ?_
       refine WL.x (X.fieldAddr fd77_0 (lh)) rfl ?_
       refine WL.x (X.load pl69 (lh) (by first | assumption | exact cus.at (by assumption) (by intro hne; first | exact hne | ((try dsimp only at hne); omega)) | exact cus.at (kc.at (by assumption) (by intro hne; first | exact hne | ((try dsimp only at hne); omega))) (by intro hne; first | exact hne | ((try dsimp only at hne); omega))) (by first | rfl | assumption)) rfl ?_
       refine WL.x (X.lenSl Tryd.underlying69 (lh)) rfl ?_
       refine WL.x (X.gtr (lh) lc) rfl ?_
       refine WL.e4 Nx.thn 0 2 5 69 (jt4 rfl (jt2 rfl (s0))) (jt4 rfl (jt2 rfl (s2))) (jt4 rfl (jt2 rfl (s5))) (lh) ?_
       intro σ15 s0 s2 s5 s69
       refine W.cndp s69 (fun hne => ?_) (fun hne => ?_)
       ·
        refine W.region ?_
        refine WL.x (X.mv (s0)) rfl ?_
        refine WL.callP3 ce39 (lh) lc lc (take_ok B p e rr 4 no w12 hps) rfl (by rintro v w' ⟨hnb, rfl, cx⟩; exact ⟨_, rfl, (atP e rr, 20), hgo.trans (evR_bad hbo2 (heq.trans (opsP_stop hs2)) (fun h0 => by rw [h0] at hne; simp at hne) hnb), rfl, (hov.ch0 cx).2.2.1⟩) ?_
        rintro _ w29 ⟨t3, r3, hr3, hs3, rfl, hps, c13⟩
        have hlo8 := hov.2.2.2.1
        have hob8 := hov.lt
        replace hov := hov.call c13
        replace hrow := orow_mine monOp hrow c13 (fun j hj e => by have := hj.1; (try dsimp only at e); omega) (fun j hj e => by have := (ORow.lt hrow j hj).1; (try dsimp only at e); omega)
        replace hopc := c13.at hopc (fun e => by (try dsimp only at e); omega)
        refine WL.e2 Nx.thn 2 5 (jt2 rfl (s2)) (jt2 rfl (s5)) ?_
        intro σ16 s2 s5
        refine ⟨⟨s2.trans qo7.symm, s5.trans qo8.symm, trivial⟩, r3, lv, hgo.trans (by have h9 := evR_line (k := (j : Int) + 1) (n := tk.2.2.2) hbo2 (heq.trans (opsP_stop hs2)) (fun h0 => by rw [h0] at hne; simp at hne) hs3; rw [hr3] at h9; exact h9), hov, hps, hrow⟩
       ·
        refine W.skip Nx.thn ?_
        refine ⟨⟨s2.trans qo7.symm, s5.trans qo8.symm, trivial⟩, rr, lv, hgo.trans (by have h0 : rr = [] := List.eq_nil_of_length_eq_zero (by omega); have h9 := evR_end (k := (j : Int) + 1) (n := tk.2.2.2) hbo2 (by rw [← h0]; exact heq.trans (opsP_stop hs2)); rw [h0]; exact h9), hov, hps, hrow⟩
      ·
       rintro σ17 w30 ⟨⟨f2, f5, _⟩, r, lv, hfe, hov, hps, hrow⟩
       have s2 := f2.trans qo7
       have s5 := f5.trans qo8
       refine W.seq ?_
       refine W.region ?_
       obtain ⟨la9, lc9, rfl⟩ := orow_form hrow
       refine WL.x (X.loadBox (vs := [.int .i64 ((j : Int) + 1), .int .i64 tk.2.2.2, .slice la9 acc.length lc9]) ag44 (s5) hov.1 rfl) rfl ?_
       obtain ⟨z9, hz9, hzs9⟩ := hov.2.1
       have hne9 := hov.2.2.2.2.2.1
       have hrb9 := hov.2.2.2.2.1
       have hob9 := hov.lt
       refine WL.storeS (vs := [.int .i64 ((j : Int) + 1), .int .i64 tk.2.2.2, .slice la9 acc.length lc9]) ag44 (lt rfl (s2)) (lh) rfl rfl hz9 (by rw [hzs9]; exact Nat.le_of_ble_eq_true rfl) ?_
       intro w31 us
       have hfin := us.at_
       rw [blit_all (by rw [hzs9]; rfl)] at hfin
       have cfin := us.ch
       refine WL.e1 Nx.thn 2 (lt rfl (s2)) ?_
       intro σ18 s2
       refine W.retG (Nx.panR Nx.fG) ⟨[_], (.cell s2 (by first | assumption | exact cfin.at (by assumption) (by intro hne; first | exact hne | ((try dsimp only at hne); omega)) | exact cfin.at (cus.at (by assumption) (by intro hne; first | exact hne | ((try dsimp only at hne); omega))) (by intro hne; first | exact hne | ((try dsimp only at hne); omega))) (by exact ag44) .nil), ?_⟩
       have hmr := mine_ne (ts := [3]) (b0 := w.heap.size) hz9 (by decide)
       have hrow2 := orow_mine monOp hrow cfin hmr (fun j hj e => by have := (ORow.lt hrow j hj).1; (try dsimp only at e); omega)
       exact ⟨_, _, [.int .i64 ((j : Int) + 1), .int .i64 tk.2.2.2, .slice la9 acc.length lc9], hfe, rfl, rfl, ⟨_, rfl, ORow.rsl' monOp hrow2 (fun j hj => hj.mono (by decide) (Nat.le_refl _)) (hrow2.mine (by decide) (by omega)), by dsimp only; omega⟩, hps.own cfin (fun j hj e => by (try dsimp only at e); omega), (hov.2.2.1).trans cfin (H := fun j => j = p) (fun _ _ e => e) (fun j hj e => by (try dsimp only at e); omega)⟩
 ·
  refine WL.no rfl rfl (lh) (hs) rfl ?_
  refine WL.no rfl rfl (lt rfl (lh)) (hs) rfl ?_
  refine WL.no rfl rfl (jt2 rfl (lh)) (hs) rfl ?_
  refine WL.no rfl rfl (jt2 rfl (lt rfl (lh))) (hs) rfl ?_
  refine WL.no rfl rfl (jt4 rfl (lh)) (hs) rfl ?_
  refine WL.no rfl rfl (jt4 rfl (lt rfl (lh))) (hs) rfl ?_
  refine WL.no rfl rfl (jt4 rfl (jt2 rfl (lh))) (hs) rfl ?_
  refine WL.no rfl rfl (jt4 rfl (jt2 rfl (lt rfl (lh)))) (hs) rfl ?_
  refine WL.no rfl rfl (jt8 rfl (lh)) (hs) rfl ?_
  refine WL.nou rfl (lh) rfl ?_
  refine WL.nou rfl (lt rfl (lh)) rfl ?_
  refine WL.nou rfl (jt2 rfl (lh)) rfl ?_
  refine WL.nou rfl (jt2 rfl (lt rfl (lh))) rfl ?_
  refine WL.nou rfl (jt4 rfl (lh)) rfl ?_
  refine WL.nou rfl (jt4 rfl (lt rfl (lh))) rfl ?_
  refine WL.nou rfl (jt4 rfl (jt2 rfl (lh))) rfl ?_
  refine WL.nou rfl (jt4 rfl (jt2 rfl (lt rfl (lh)))) rfl ?_
  refine WL.no rfl rfl (jt8 rfl (jt8 rfl (lt rfl (lh)))) (hs) rfl ?_
  refine WL.x (X.pickF (jt8 rfl (jt8 rfl (jt2 rfl (lh)))) (hs) lc) rfl ?_
  refine WL.e5 Nx.thn 0 2 4 5 35 (jt8 rfl (jt8 rfl (jt4 rfl (jt2 rfl (s0))))) (jt8 rfl (jt8 rfl (jt4 rfl (jt2 rfl (s2))))) (jt8 rfl (jt8 rfl (jt4 rfl (jt2 rfl (s4))))) (jt8 rfl (jt8 rfl (jt4 rfl (jt2 rfl (s5))))) (lh) ?_
  intro σ19 s0 s2 s4 s5 s35
  refine W.cndF s35 ?_
  refine W.skip Nx.thn ?_
  refine W.seq ?_
  refine W.region ?_
  refine WL.x (X.mv (s0)) rfl ?_
  refine WL.callP3 ce39 (lh) lc lc ((take_ok B p e a 2 no w9 hps).mono (R' := fun _ _ => False) (fun v w' ⟨_, _, _, h9, _⟩ => by rw [hs] at h9; cases h9) (fun _ _ e => e)) rfl (by rintro v w' ⟨hnb, rfl, cx⟩; exact ⟨_, rfl, (atP e a, 20), by rw [ha]; exact eventP_take hwi (by rw [← ha]; exact hs), rfl, (hov.ch0 cx).2.2.1⟩) ?_
  rintro _ _ ⟨⟩
end Go.Proofs.YtjnkpjehpdlcbaaDoor
