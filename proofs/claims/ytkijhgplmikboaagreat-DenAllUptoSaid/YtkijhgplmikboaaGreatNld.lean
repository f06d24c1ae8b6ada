import Derived.Test.YtkijhgplmikboaaGreatNlc
set_option linter.all false
set_option maxHeartbeats 4000000
namespace Go.Abs.M
open Go Go.Abs Go.Proofs
variable [Mode]
set_option maxRecDepth 20000
theorem sym_two (l0 : List Bd) (k a m0 b : Nat) (ham : a + 1 < m0) (hmb : m0 + 1 = b) (hb : b ≤ l0.length) (hn : l0.length < 2147483648) :
    ACalls Tryz.prog 187 [.gl k, .c (.int .i64 a), .c (.int .i64 m0), .c (.int .i64 b), .fn (.func 141) [] []] (hpB k l0) (hpS k l0) := by
  refine ACalls.intro Tryz.call187 Tryz.func187 rfl Tryz.ntmps187 Tryz.results187 (by simp) ?_
  have hw1 : IntKind.i64.wrap ((m0 : Int) - a) = ((m0 - a : Nat) : Int) := by rw [wrap_small _ (by omega) (by omega)]; omega
  have hw2 : IntKind.i64.wrap ((b : Int) - m0) = 1 := by rw [wrap_small _ (by omega) (by omega)]; omega
  have h1 : (((m0 - a : Nat) : Int) == 1) = false := by simp; omega
  refine AW.seq_k fun K1 h1 => ?_
  refine AW.sr (J2 hw1 h1) ?_
  refine AW.cond (b := false) (by simp [ev]; try omega) (fun hc => by cases hc) (fun hc => AW.skip ?_)
  all_goals simp only [zs, simprocAttr]
  all_goals apply_assumption
  refine AW.seq_k fun K3 h3 => ?_
  all_goals refine AW.sr hw2 ?_
  refine AW.cd true (fun hc => ?_) (fun hc => by cases hc)
  all_goals refine AW.sr trivial ?_
  all_goals refine AW.sr trivial ?_
  refine AW.seq_j (fun s σ => ∃ i l', a ≤ i ∧ i ≤ m0 ∧ s.t 0 = .gl k ∧ s.t 2 = .c (.int .i64 m0) ∧ s.t 14 = .c (.int .i64 (i : Nat)) ∧ σ = hpB k l' ∧ Sub l0 l') ?_ ?_
  · refine AW.block ?_   -- 0
    refine AW.loop (fun m s σ => ∃ i j, m = j - i ∧ a ≤ i ∧ i ≤ j ∧ j ≤ m0 ∧ s.t 0 = .gl k ∧ s.t 2 = .c (.int .i64 m0) ∧ s.t 4 = .fn (.func 141) [] [] ∧ s.t 14 = .c (.int .i64 (i : Nat)) ∧ s.t 15 = .c (.int .i64 (j : Nat)) ∧ σ = hpB k l0) (m0 - a) ?_ ?_
    · refine ⟨a, m0, rfl, by omega, by omega, by omega, ?_⟩
      simp only [zs, simprocAttr]
    rintro m s σ ⟨i, j, hm, hi, hij, hj, e0, e2, e4, e10, e11, rfl⟩
    refine AW.seq_k fun K7 h7 => ?_
    all_goals refine AW.sr (J2 e10 e11) ?_
    refine AW.cd (decide (i < j)) (fun hc => ?_) (fun hc => ?_)
    · refine AW.skip ?_
      simp only [zs, simprocAttr]
      all_goals apply_assumption
      have hc := of_decide_eq_true hc
      have hw2 : IntKind.i64.wrap ((i : Int) + j) = ((i + j : Nat) : Int) := by rw [wrap_small _ (by omega) (by omega)]; rfl
      have hu := half_u (i + j) (by omega)
      have hs := half_s (i + j)
      have hw3 : IntKind.i64.wrap (((i + j) / 2 : Nat) : Int) = (((i + j) / 2 : Nat) : Int) := wrap_small _ (by omega) (by omega)
      have hh1 : i ≤ (i + j) / 2 := by omega
      have hh2 : (i + j) / 2 < j := by omega
      generalize (i + j) / 2 = h at *
      refine AW.block ?_   -- 1
      refine AW.seq_k fun K9 h9 => ?_
      refine AW.reg0 ?_
      iterate 7 (refine S.g rfl rfl fun Y Z => ?_; simp only [zz, reduceIte, Nat.reduceEqDiff, Nat.reduceAdd, tt, e10, e11, hw2, hu, hs, hw3, Int.reduceLE]; refine Z _ _ ?_; clear Z Y)
      all_goals (refine S.nil ?_; simp only [ze, reduceIte, Nat.reduceEqDiff, Nat.reduceLT, Nat.reduceLeDiff, Nat.reduceAdd, reduceCtorEq, Nat.reduceMul, e10, e11, hw2, hu, hs, hw3, Int.reduceLE]; apply_assumption)
      have hpb : (hpB k l0).gr k = some ((50, 6), l0.map encBd) := by simp [hpB]
      have hj1 : m0 < l0.length := by omega
      have hj2 : h < l0.length := by omega
      obtain ⟨x, hx, hg1⟩ := get_bd hj1
      obtain ⟨y, hy, hg2⟩ := get_bd hj2
      have hw4 : IntKind.i64.wrap ((h : Int) + 1) = ((h + 1 : Nat) : Int) := by rw [wrap_small _ (by omega) (by omega)]; rfl
      generalize hsg : hpB k l0 = σ0 at hpb ⊢
      refine AW.seq_j (fun s' σ' => σ' = σ0 ∧ s'.t 0 = .gl k ∧ s'.t 2 = .c (.int .i64 m0) ∧ s'.t 4 = .fn (.func 141) [] [] ∧ s'.t 14 = .c (.int .i64 (i : Nat)) ∧ s'.t 15 = .c (.int .i64 (j : Nat)) ∧ s'.t 16 = .c (.int .i64 (h : Nat)) ∧ ∃ b, s'.t 103 = .c (.bool b)) ?_ ?_
      · skip
        refine AW.draw2 (T := { sd := fun _ => false }) (fun _ _ h => by cases h) mixedO [(0, 0), (1, 0), (2, 0), (3, 0), (5, 0), (6, 0), (7, 0)] 4 8 [(9, 2), (10, 0), (11, 0)] #[true, true, true, true, false, true, true, true, false, false, false, false] rfl (by kernel_rfl) (by kernel_rfl) (by kernel_rfl) (by kernel_rfl) (by kernel_rfl) ?_
        all_goals iterate 7 (refine D.g rfl trivial rfl rfl fun Y Z => ?_; simp only [zz, reduceIte, Nat.reduceEqDiff, Nat.reduceLT, Nat.reduceLeDiff, Nat.reduceAdd, reduceCtorEq, Nat.reduceMul, tt, e0, e2, e4, hpb, hj1, hj2, hg1, hg2, encBd]; refine Z _ _ ?_; clear Z Y)
        all_goals refine D.nil ⟨?_, ?_⟩
        all_goals iterate 2 (refine D.g rfl trivial rfl rfl fun Y Z => ?_; simp only [zz, reduceIte, Nat.reduceEqDiff, Nat.reduceLT, Nat.reduceLeDiff, Nat.reduceAdd, reduceCtorEq, Nat.reduceMul, tt, e0, e2, e4, hpb, hj1, hj2, hg1, hg2, encBd]; refine Z _ _ ?_; clear Z Y)
        all_goals have q1q := J9 e0 e2 e4 hpb hj1 hj2 hg1 hg2 @encBd.eq_1
        all_goals refine D.cl q1q (less_spec x y) ?_
        all_goals iterate 2 refine D.one q1q ?_
        all_goals refine D.nil ?_
        all_goals simp only [ze, simprocAttr, q1q]
        all_goals exact ⟨e10, e11, _, rfl⟩
      rintro s3 σ3 ⟨rfl, g0, g2, g4, g10, g11, g12, b2, g50⟩
      refine AW.cond (b := b2) g50 (fun hd => ?_) (fun hd => ?_)
      · skip
        refine AW.reg0 (S.rn (J2 g12 hw4) ?_)
        simp only [ze, simprocAttr, g12, hw4]
        exact ⟨j - (h + 1), by omega, h + 1, j, rfl, by omega, by omega, hj, g0, g2, g4, rfl, g11⟩
      · skip
        refine AW.reg0 (S.rn g12 ?_)
        simp only [ze, simprocAttr, g12]
        exact ⟨h - i, by omega, i, h, rfl, by omega, by omega, by omega, g0, g2, g4, g10, rfl⟩
    · refine AW.exit ?_
      simp only [zs, simprocAttr]
      have hc := of_decide_eq_false hc
      exact ⟨i, l0, hi, by omega, e0, e2, e10, rfl, Sub.refl _⟩
  rintro s1 σ1 ⟨i, l1, hi, hib, f0, f2, f10, rfl, hs1⟩
  refine AW.seq_k fun K10 h10 => ?_
  all_goals refine AW.sr f2 ?_
  refine AW.block ?_   -- 2
  refine AW.loop (fun m s σ => ∃ q l', m = q ∧ i ≤ q ∧ q ≤ m0 ∧ s.t 0 = .gl k ∧ s.t 14 = .c (.int .i64 (i : Nat)) ∧ s.t 17 = .c (.int .i64 (q : Nat)) ∧ σ = hpB k l' ∧ Sub l0 l') m0 ?_ ?_
  · refine ⟨m0, l1, rfl, by omega, by omega, ?_⟩
    simp only [zs, simprocAttr]
    exact ⟨f0, f10, hs1⟩
  rintro m s σ ⟨q, l', rfl, hq1, hq2, e0, e10, e13, rfl, hs⟩
  refine AW.seq_k fun K12 h12 => ?_
  all_goals refine AW.sr (J2 e10 e13) ?_
  refine AW.cd (decide ((m : Int) > i)) (fun hc => ?_) (fun hc => ?_)
  · refine AW.skip ?_
    simp only [zs, simprocAttr]
    all_goals apply_assumption
    have hc := of_decide_eq_true hc
    have hw : IntKind.i64.wrap ((m : Int) - 1) = ((m - 1 : Nat) : Int) := by rw [wrap_small _ (by omega) (by omega)]; omega
    have hl1 := hs.1
    have hj1 : m < l'.length := by omega
    have hj2 : m - 1 < l'.length := by omega
    obtain ⟨x, hx, hg1⟩ := get_bd hj1
    obtain ⟨y, hy, hg2⟩ := get_bd hj2
    have hsub := hs.swap hx hy
    have hgs : ∀ v, ((l'.map encBd).set m v).getD (m - 1) [] = encBd y := fun v => by
      rw [← hg2]; simp [List.getD, List.getElem?_set, show m ≠ m - 1 by omega]
    have hpb : hpB k l' = Hp.empty.setGr k (some ((50, 6), l'.map encBd)) := rfl
    rw [hpb]
    refine AW.seq_k fun K14 h14 => ?_
    refine AW.block ?_   -- 3
    refine AW.mono (Q := thenS (fun s' σ' => σ' = hpB k ((l'.set m y).set (m - 1) x) ∧ s'.t 0 = .gl k ∧ s'.t 14 = .c (.int .i64 (i : Nat)) ∧ s'.t 17 = .c (.int .i64 (m : Nat))) (fun _ _ _ => False)) ?_ ?_
    · skip
      refine AW.draw2 (T := { sd := fun _ => false }) (fun _ _ h => by cases h) mixedO [(0, 0), (1, 0), (2, 0), (3, 0), (4, 0), (5, 0), (6, 0), (7, 0), (8, 0), (10, 0), (11, 0), (12, 0)] 9 13 [(14, 0), (15, 2), (16, 0), (17, 2)] #[true, true, true, true, true, true, true, true, true, false, true, true, true, false, false, false, false, false] rfl (by kernel_rfl) (by kernel_rfl) (by kernel_rfl) (by kernel_rfl) (by kernel_rfl) ?_
      all_goals have q2q := J11 e0 e10 e13 hj1 hj2 hg1 hg2 hgs hw @encBd.eq_1 @List.length_set.{0}
      all_goals iterate 12 refine D.one q2q ?_
      all_goals refine D.nil ⟨?_, ?_⟩
      all_goals iterate 6 refine D.one q2q ?_
      all_goals refine D.nil ?_
      all_goals simp only [ze, simprocAttr, q2q]
      all_goals simp [hpB, encBd, List.map_set]
    rintro e s4 σ4 hq
    cases e with
    | normal =>
      obtain ⟨rfl, q0, q10, q13⟩ := hq
      simp only [zs, simprocAttr]
      all_goals apply_assumption
      refine AW.reg0 (S.rn (J2 q13 hw) ?_)
      simp only [ze, simprocAttr, q13, hw]
      exact ⟨m - 1, by omega, m - 1, _, rfl, by omega, by omega, q0, q10, rfl, rfl, hsub⟩
    | _ => exact hq.elim
  · refine AW.exit ?_
    simp only [zs, simprocAttr]
    all_goals apply_assumption
    refine AW.ret ?_
    simp only [zs, simprocAttr]
    exact ⟨rfl, l', hs, rfl⟩
theorem sym_weak (k : Nat) : ∀ (d : Nat) (l0 : List Bd) (a m0 b : Nat), b - a ≤ d → a < m0 → m0 < b → b ≤ l0.length → l0.length < 2147483648 →
  ACalls Tryz.prog 187 [.gl k, .c (.int .i64 a), .c (.int .i64 m0), .c (.int .i64 b), .fn (.func 141) [] []] (hpB k l0) (hpS k l0) := by
 intro d
 induction d with
 | zero => intro l0 a m0 b hd h1 h2; omega
 | succ d ih =>
 intro l0 a m0 b hd ham hmb hb hn
 by_cases hA : a + 1 = m0
 ·exact sym_one l0 k a m0 b hA hmb hb hn
 by_cases hB : m0 + 1 = b
 ·exact sym_two l0 k a m0 b (by omega) hB hb hn
 refine ACalls.intro Tryz.call187 Tryz.func187 rfl Tryz.ntmps187 Tryz.results187 (by simp) ?_
 have hw1 : IntKind.i64.wrap ((m0 : Int) - a) = ((m0 - a : Nat) : Int) := by rw [wrap_small _ (by omega) (by omega)]; omega
 have hw2 : IntKind.i64.wrap ((b : Int) - m0) = ((b - m0 : Nat) : Int) := by rw [wrap_small _ (by omega) (by omega)]; omega
 have h1 : (((m0 - a : Nat) : Int) == 1) = false := by simp; omega
 have h2 : (((b - m0 : Nat) : Int) == 1) = false := by simp; omega
 have hw4 : IntKind.i64.wrap ((a : Int) + b) = ((a + b : Nat) : Int) := by rw [wrap_small _ (by omega) (by omega)]; rfl
 have hu := half_u (a + b) (by omega)
 have hs := half_s (a + b)
 have hw5 : IntKind.i64.wrap (((a + b) / 2 : Nat) : Int) = (((a + b) / 2 : Nat) : Int) := wrap_small _ (by omega) (by omega)
 have hm1 : a + b ≤ 2 * ((a + b) / 2) + 1 := by omega
 have hm2 : 2 * ((a + b) / 2) ≤ a + b := by omega
 generalize (a + b) / 2 = mid at *
 have hw6 : IntKind.i64.wrap ((mid : Int) + m0) = ((mid + m0 : Nat) : Int) := by rw [wrap_small _ (by omega) (by omega)]; rfl
 obtain ⟨n, hnn⟩ : ∃ n, n = mid + m0 := ⟨_, rfl⟩
 rw [← hnn] at hw6
 have hw7 : IntKind.i64.wrap ((n : Int) - 1) = ((n - 1 : Nat) : Int) := by rw [wrap_small _ (by omega) (by omega)]; omega
 refine AW.seq_k fun K1 h1 => ?_
 all_goals refine AW.sr (J2 hw1 h1) ?_
 refine AW.cond (b := false) (by simp [ev]; try omega) (fun hc => by cases hc) (fun hc => AW.skip ?_)
 all_goals simp only [zs, simprocAttr]
 all_goals apply_assumption
 refine AW.seq_k fun K3 h3 => ?_
 all_goals refine AW.sr (J2 hw2 h2) ?_
 refine AW.cd false (fun hc => by cases hc) (fun hc => AW.skip ?_)
 all_goals simp only [zs, simprocAttr]
 all_goals apply_assumption
 refine AW.seq_k fun K5 h5 => ?_
 all_goals refine AW.reg0 ?_
 all_goals iterate 7 (refine S.g rfl rfl fun Y Z => ?_; simp only [zz, reduceIte, Nat.reduceEqDiff, Nat.reduceAdd, tt, hw4, hu, hs, hw5, Int.reduceLE]; refine Z _ _ ?_; clear Z Y)
 all_goals (refine S.nil ?_; simp only [ze, reduceIte, Nat.reduceEqDiff, Nat.reduceLT, Nat.reduceLeDiff, Nat.reduceAdd, reduceCtorEq, Nat.reduceMul, hw4, hu, hs, hw5, Int.reduceLE]; apply_assumption)
 all_goals refine AW.sq hw6 ?_
 all_goals refine AW.sr trivial ?_
 refine AW.seq_j (fun s σ => ∃ st r, a ≤ st ∧ st ≤ r ∧ r ≤ mid ∧ r ≤ m0 ∧ n ≤ b + st ∧ s.t 0 = .gl k ∧ s.t 1 = .c (.int .i64 a) ∧ s.t 2 = .c (.int .i64 m0) ∧ s.t 3 = .c (.int .i64 b) ∧ s.t 4 = .fn (.func 141) [] [] ∧ s.t 18 = .c (.int .i64 mid) ∧ s.t 19 = .c (.int .i64 n) ∧
  s.t 20 = .c (.int .i64 (st : Nat)) ∧ s.t 21 = .c (.int .i64 (r : Nat)) ∧ σ = hpB k l0) ?_ ?_
 ·refine AW.sq trivial ?_
  refine AW.cd (decide ((m0 : Int) > mid)) (fun hc => ?_) (fun hc => ?_)
  ·have hc := of_decide_eq_true hc
   have hw8 : IntKind.i64.wrap ((n : Int) - b) = ((n - b : Nat) : Int) := by rw [wrap_small _ (by omega) (by omega)]; omega
   refine AW.sq hw8 ?_
   all_goals refine AW.reg0 (S.rn trivial ?_)
   all_goals simp only [ze, simprocAttr]
   exact ⟨n - b, mid, by omega, by omega, by omega, by omega, by omega, rfl, rfl⟩
  ·have hc := of_decide_eq_false hc
   refine AW.sr trivial ?_
   refine AW.reg0 (S.rn trivial ?_)
   simp only [ze, simprocAttr]
   exact ⟨a, m0, by omega, by omega, by omega, by omega, by omega, rfl, rfl⟩
 rintro s0 σ0 ⟨st0, r0, hg1, hg2, hg3, hg4, hg5, g0, g1, g2, g3, g4, g18, g19, g20, g21, rfl⟩
 all_goals refine AW.sr (J2 g19 hw7) ?_
 refine AW.seq_j (fun s σ => ∃ st l', a ≤ st ∧ st ≤ mid ∧ st ≤ m0 ∧ n ≤ b + st ∧ s.t 0 = .gl k ∧ s.t 1 = .c (.int .i64 a) ∧ s.t 2 = .c (.int .i64 m0) ∧ s.t 3 = .c (.int .i64 b) ∧ s.t 4 = .fn (.func 141) [] [] ∧ s.t 18 = .c (.int .i64 mid) ∧ s.t 19 = .c (.int .i64 n) ∧
  s.t 20 = .c (.int .i64 (st : Nat)) ∧ σ = hpB k l' ∧ Sub l0 l') ?_ ?_
 ·refine AW.block ?_   -- 8
  refine AW.loop (fun m s σ => ∃ st r, m = r - st ∧ a ≤ st ∧ st ≤ r ∧ r ≤ mid ∧ r ≤ m0 ∧ n ≤ b + st ∧ s.t 0 = .gl k ∧ s.t 1 = .c (.int .i64 a) ∧ s.t 2 = .c (.int .i64 m0) ∧ s.t 3 = .c (.int .i64 b) ∧ s.t 4 = .fn (.func 141) [] [] ∧ s.t 18 = .c (.int .i64 mid) ∧ s.t 19 = .c (.int .i64 n) ∧
   s.t 20 = .c (.int .i64 (st : Nat)) ∧ s.t 21 = .c (.int .i64 (r : Nat)) ∧ s.t 22 = .c (.int .i64 ((n - 1 : Nat) : Int)) ∧ σ = hpB k l0) (r0 - st0) ?_ ?_
  ·refine ⟨st0, r0, rfl, hg1, hg2, hg3, hg4, hg5, ?_⟩
   simp only [zs, simprocAttr]
   exact ⟨g0, g1, g2, g3, g4, g18, g19, g20, g21⟩
  rintro m s σ ⟨i, j, hm, hi, hij, hj, hj', hnb, e0, e1, e2, e3, e4, e18, e19, e10, e11, e22, rfl⟩
  refine AW.seq_k fun K12 h12 => ?_
  refine AW.sr (J2 e10 e11) ?_
  refine AW.cd (decide (i < j)) (fun hc => ?_) (fun hc => ?_)
  ·refine AW.skip ?_
   simp only [zs, simprocAttr]
   all_goals apply_assumption
   have hc := of_decide_eq_true hc
   have hw2 : IntKind.i64.wrap ((i : Int) + j) = ((i + j : Nat) : Int) := by rw [wrap_small _ (by omega) (by omega)]; rfl
   have hu := half_u (i + j) (by omega)
   have hs := half_s (i + j)
   have hw3 : IntKind.i64.wrap (((i + j) / 2 : Nat) : Int) = (((i + j) / 2 : Nat) : Int) := wrap_small _ (by omega) (by omega)
   have hh1 : i ≤ (i + j) / 2 := by omega
   have hh2 : (i + j) / 2 < j := by omega
   generalize (i + j) / 2 = h at *
   refine AW.block ?_   -- 1
   refine AW.seq_k fun K14 h14 => ?_
   refine AW.reg0 ?_
   iterate 7 (refine S.g rfl rfl fun Y Z => ?_; simp only [zz, reduceIte, Nat.reduceEqDiff, Nat.reduceAdd, tt, e10, e11, hw2, hu, hs, hw3, Int.reduceLE]; refine Z _ _ ?_; clear Z Y)
   all_goals (refine S.nil ?_; simp only [ze, reduceIte, Nat.reduceEqDiff, Nat.reduceLT, Nat.reduceLeDiff, Nat.reduceAdd, reduceCtorEq, Nat.reduceMul, e10, e11, hw2, hu, hs, hw3, Int.reduceLE]; apply_assumption)
   have hpb : (hpB k l0).gr k = some ((50, 6), l0.map encBd) := by simp [hpB]
   have hw8 : IntKind.i64.wrap (((n - 1 : Nat) : Int) - h) = ((n - 1 - h : Nat) : Int) := by rw [wrap_small _ (by omega) (by omega)]; omega
   have hj1 : n - 1 - h < l0.length := by omega
   have hj2 : h < l0.length := by omega
   obtain ⟨x, hx, hg1⟩ := get_bd hj1
   obtain ⟨y, hy, hg2⟩ := get_bd hj2
   have hw4 : IntKind.i64.wrap ((h : Int) + 1) = ((h + 1 : Nat) : Int) := by rw [wrap_small _ (by omega) (by omega)]; rfl
   generalize hsg : hpB k l0 = σ0 at hpb ⊢
   refine AW.seq_j (fun s' σ' => σ' = σ0 ∧ s'.t 0 = .gl k ∧ s'.t 1 = .c (.int .i64 a) ∧ s'.t 2 = .c (.int .i64 m0) ∧ s'.t 3 = .c (.int .i64 b) ∧ s'.t 4 = .fn (.func 141) [] [] ∧ s'.t 18 = .c (.int .i64 mid) ∧ s'.t 19 = .c (.int .i64 n) ∧ s'.t 20 = .c (.int .i64 (i : Nat)) ∧ s'.t 21 = .c (.int .i64 (j : Nat)) ∧ s'.t 22 = .c (.int .i64 ((n - 1 : Nat) : Int)) ∧ s'.t 23 = .c (.int .i64 (h : Nat)) ∧ ∃ b, s'.t 171 = .c (.bool b)) ?_ ?_
   ·skip
    refine AW.draw2 (T := { sd := fun _ => false }) (fun _ _ h => by cases h) mixedO [(0, 0), (1, 0), (2, 0), (3, 0), (4, 0), (5, 0), (7, 0), (8, 0), (9, 0)] 6 10 [(11, 2), (12, 0), (13, 0)] #[true, true, true, true, true, true, false, true, true, true, false, false, false, false] rfl (by kernel_rfl) (by kernel_rfl) (by kernel_rfl) (by kernel_rfl) (by kernel_rfl) ?_
    all_goals iterate 9 (refine D.g rfl trivial rfl rfl fun Y Z => ?_; simp only [zz, reduceIte, Nat.reduceEqDiff, Nat.reduceLT, Nat.reduceLeDiff, Nat.reduceAdd, reduceCtorEq, Nat.reduceMul, tt, e0, e22, e4, hpb, hj1, hj2, hg1, hg2, hw8, encBd]; refine Z _ _ ?_; clear Z Y)
    all_goals refine D.nil ⟨?_, ?_⟩
    all_goals iterate 2 (refine D.g rfl trivial rfl rfl fun Y Z => ?_; simp only [zz, reduceIte, Nat.reduceEqDiff, Nat.reduceLT, Nat.reduceLeDiff, Nat.reduceAdd, reduceCtorEq, Nat.reduceMul, tt, e0, e22, e4, hpb, hj1, hj2, hg1, hg2, hw8, encBd]; refine Z _ _ ?_; clear Z Y)
    all_goals have q1q := J10 e0 e22 e4 hpb hj1 hj2 hg1 hg2 hw8 @encBd.eq_1
    all_goals refine D.cl q1q (less_spec x y) ?_
    all_goals iterate 2 refine D.one q1q ?_
    all_goals refine D.nil ?_
    all_goals simp only [ze, simprocAttr, q1q]
    all_goals exact ⟨e1, e2, e3, e18, e19, e10, e11, _, rfl⟩
   rintro s3 σ3 ⟨rfl, g0, g1, g2, g3, g4, g18, g19, g10, g11, g22, g12, b2, g50⟩
   refine AW.cond (b := b2) g50 (fun hd => ?_) (fun hd => ?_)
   ·skip
    refine AW.reg0 (S.rn (J2 g12 hw4) ?_)
    simp only [ze, simprocAttr, g12, hw4]
    exact ⟨j - (h + 1), by omega, h + 1, j, rfl, by omega, by omega, hj, hj', by omega, g0, g1, g2, g3, g4, g18, g19, rfl, g11, g22⟩
   ·skip
    refine AW.reg0 (S.rn g12 ?_)
    simp only [ze, simprocAttr, g12]
    exact ⟨h - i, by omega, i, h, rfl, by omega, by omega, by omega, by omega, by omega, g0, g1, g2, g3, g4, g18, g19, g10, rfl, g22⟩
  ·refine AW.exit ?_
   simp only [zs, simprocAttr]
   have hc := of_decide_eq_false hc
   exact ⟨i, l0, hi, by omega, by omega, hnb, e0, e1, e2, e3, e4, e18, e19, e10, rfl, Sub.refl _⟩
 rintro s1 σ1 ⟨st, l1, hi1, hi2, hi3, hi4, f0, f1, f2, f3, f4, f18, f19, f20, rfl, hs1⟩
 have hw8 : IntKind.i64.wrap ((n : Int) - st) = ((n - st : Nat) : Int) := by rw [wrap_small _ (by omega) (by omega)]; omega
 all_goals refine AW.sr (J3 f19 f20 hw8) ?_
 refine AW.seq_j (fun s σ => ∃ l', s.t 0 = .gl k ∧ s.t 1 = .c (.int .i64 a) ∧ s.t 3 = .c (.int .i64 b) ∧ s.t 4 = .fn (.func 141) [] [] ∧ s.t 18 = .c (.int .i64 mid) ∧ s.t 20 = .c (.int .i64 (st : Nat)) ∧ s.t 24 = .c (.int .i64 ((n - st : Nat) : Int)) ∧ σ = hpB k l' ∧ Sub l0 l') ?_ ?_
 ·by_cases hc1 : st < m0
  ·by_cases hc2 : m0 < n - st
   ·refine AW.seq_k fun K16 h16 => ?_
    refine AW.reg0 ?_
    have q2q := J7 f0 f1 f2 f3 f4 f18 f20
    iterate 2 refine S.one q2q ?_
    (refine S.sp q2q fun b a180 => ?_; cases b <;> (try exact nope a180))
    all_goals iterate 5 refine S.one q2q ?_
    all_goals (refine S.nil ?_; simp only [ze, simprocAttr, q2q]; apply_assumption)
    refine AW.cond (b := true) (by simp [ev]; try omega) (fun hc => ?_) (fun hc => by cases hc)
    all_goals refine AW.reg0 ?_
    all_goals iterate 5 refine S.one q2q ?_
    all_goals have q3q := J7 f0 f1 f2 f3 f4 f18 f20
    all_goals (refine S.g rfl rfl fun Y Z => ?_; simp only [zz, simprocAttr, -Int.reduceNatCast', q3q]; refine (rotate_weak l1 k st m0 (n - st) (by omega) (by omega) (by rw [hs1.1]; omega) (by rw [hs1.1]; omega)).to fun v σ1 hv => ?_; obtain ⟨rfl, l2, hl2, rfl⟩ := hv <;> (refine Z _ _ ?_; clear Z Y))
    all_goals refine S.nil ?_
    all_goals simp only [ze, simprocAttr, q3q]
    refine ⟨l2, ?_⟩; have hfin := hs1.trans hl2; (repeat' apply And.intro) <;> first | rfl | assumption | exact hfin.1 | exact hfin.2
   ·refine AW.seq_k fun K17 h17 => ?_
    refine AW.reg0 ?_
    have q4q := J7 f0 f1 f2 f3 f4 f18 f20
    iterate 2 refine S.one q4q ?_
    (refine S.sp q4q fun b a180 => ?_; cases b <;> (try exact nope a180))
    all_goals iterate 5 refine S.one q4q ?_
    all_goals (refine S.nil ?_; simp only [ze, simprocAttr, q4q]; apply_assumption)
    refine AW.cond (b := false) (by simp [ev]; try omega) (fun hc => by cases hc) (fun hc => AW.skip ?_)
    all_goals simp only [zs, simprocAttr]
    refine ⟨l1, ?_⟩; have hfin := hs1; (repeat' apply And.intro) <;> first | rfl | assumption | exact hfin.1 | exact hfin.2
  ·refine AW.seq_k fun K18 h18 => ?_
   refine AW.reg0 ?_
   have q5q := J7 f0 f1 f2 f3 f4 f18 f20
   iterate 2 refine S.one q5q ?_
   (refine S.sp q5q fun b a180 => ?_; cases b <;> (try exact nope a180))
   all_goals iterate 5 refine S.one q5q ?_
   all_goals (refine S.nil ?_; simp only [ze, simprocAttr, q5q]; apply_assumption)
   refine AW.cd false (fun hc => by cases hc) (fun hc => AW.skip ?_)
   all_goals simp only [zs, simprocAttr]
   refine ⟨l1, ?_⟩; have hfin := hs1; (repeat' apply And.intro) <;> first | rfl | assumption | exact hfin.1 | exact hfin.2
 clear f0 f1 f2 f3 f4 f18 f19 f20 hs1
 rintro s2 σ2 ⟨l2, f0, f1, f3, f4, f18, f20, f24, rfl, hs2⟩
 refine AW.seq_j (fun s σ => ∃ l', s.t 0 = .gl k ∧ s.t 3 = .c (.int .i64 b) ∧ s.t 4 = .fn (.func 141) [] [] ∧ s.t 18 = .c (.int .i64 mid) ∧ s.t 24 = .c (.int .i64 ((n - st : Nat) : Int)) ∧ σ = hpB k l' ∧ Sub l0 l') ?_ ?_
 ·by_cases hc1 : a < st
  ·by_cases hc2 : st < mid
   ·refine AW.seq_k fun K19 h19 => ?_
    refine AW.reg0 ?_
    have q6q := J7 f0 f1 f3 f4 f18 f20 f24
    iterate 2 refine S.one q6q ?_
    (refine S.sp q6q fun b a194 => ?_; cases b <;> (try exact nope a194))
    all_goals iterate 5 refine S.one q6q ?_
    all_goals (refine S.nil ?_; simp only [ze, simprocAttr, q6q]; apply_assumption)
    refine AW.cond (b := true) (by simp [ev]; try omega) (fun hc => ?_) (fun hc => by cases hc)
    all_goals refine AW.reg0 ?_
    all_goals iterate 5 refine S.one (J6 f0 f1 f3 f4 f18 f20) ?_
    all_goals have q7q := J6 f0 f1 f3 f4 f18 f20
    all_goals (refine S.g rfl rfl fun Y Z => ?_; simp only [zz, simprocAttr, -Int.reduceNatCast', q7q]; refine (ih l2 a st mid (by omega) (by omega) (by omega) (by rw [hs2.1]; omega) (by rw [hs2.1]; omega)).to fun v σ1 hv => ?_; obtain ⟨rfl, l3, hl3, rfl⟩ := hv <;> (refine Z _ _ ?_; clear Z Y))
    all_goals refine S.nil ?_
    all_goals simp only [ze, simprocAttr, q7q]
    refine ⟨l3, ?_⟩; have hfin := hs2.trans hl3; (repeat' apply And.intro) <;> first | rfl | assumption | exact hfin.1 | exact hfin.2
   ·refine AW.seq_k fun K20 h20 => ?_
    refine AW.reg0 ?_
    have q8q := J7 f0 f1 f3 f4 f18 f20 f24
    iterate 2 refine S.one q8q ?_
    (refine S.sp q8q fun b a194 => ?_; cases b <;> (try exact nope a194))
    all_goals iterate 5 refine S.one q8q ?_
    all_goals (refine S.nil ?_; simp only [ze, simprocAttr, q8q]; apply_assumption)
    refine AW.cond (b := false) (by simp [ev]; try omega) (fun hc => by cases hc) (fun hc => AW.skip ?_)
    all_goals simp only [zs, simprocAttr]
    refine ⟨l2, ?_⟩; have hfin := hs2; (repeat' apply And.intro) <;> first | rfl | assumption | exact hfin.1 | exact hfin.2
  ·refine AW.seq_k fun K21 h21 => ?_
   refine AW.reg0 ?_
   have q9q := J7 f0 f1 f3 f4 f18 f20 f24
   iterate 2 refine S.one q9q ?_
   (refine S.sp q9q fun b a194 => ?_; cases b <;> (try exact nope a194))
   all_goals iterate 5 refine S.one q9q ?_
   all_goals (refine S.nil ?_; simp only [ze, simprocAttr, q9q]; apply_assumption)
   refine AW.cd false (fun hc => by cases hc) (fun hc => AW.skip ?_)
   all_goals simp only [zs, simprocAttr]
   refine ⟨l2, ?_⟩; have hfin := hs2; (repeat' apply And.intro) <;> first | rfl | assumption | exact hfin.1 | exact hfin.2
 clear f0 f1 f3 f4 f18 f20 f24 hs2
 rintro s3 σ3 ⟨l3, f0, f3, f4, f18, f24, rfl, hs3⟩
 by_cases hc1 : mid < n - st
 ·by_cases hc2 : n - st < b
  ·refine AW.seq_k fun K22 h22 => ?_
   refine AW.reg0 ?_
   have q10q := J5 f0 f3 f4 f18 f24
   iterate 2 refine S.one q10q ?_
   (refine S.sp q10q fun b a208 => ?_; cases b <;> (try exact nope a208))
   all_goals iterate 5 refine S.one q10q ?_
   all_goals (refine S.nil ?_; simp only [ze, simprocAttr, q10q]; apply_assumption)
   refine AW.cond (b := true) (by simp [ev]; try omega) (fun hc => ?_) (fun hc => by cases hc)
   all_goals refine AW.reg0 ?_
   all_goals iterate 5 refine S.one q10q ?_
   all_goals have q11q := J5 f0 f3 f4 f18 f24
   all_goals (refine S.g rfl rfl fun Y Z => ?_; simp only [zz, simprocAttr, -Int.reduceNatCast', q11q]; refine (ih l3 mid (n - st) b (by omega) (by omega) (by omega) (by rw [hs3.1]; omega) (by rw [hs3.1]; omega)).to fun v σ1 hv => ?_; obtain ⟨rfl, l4, hl4, rfl⟩ := hv <;> (refine Z _ _ ?_; clear Z Y))
   all_goals refine S.nil ?_
   all_goals simp only [ze, simprocAttr, q11q]
   exact ⟨rfl, l4, hs3.trans hl4, rfl⟩
  ·refine AW.seq_k fun K23 h23 => ?_
   refine AW.reg0 ?_
   have q12q := J5 f0 f3 f4 f18 f24
   iterate 2 refine S.one q12q ?_
   (refine S.sp q12q fun b a208 => ?_; cases b <;> (try exact nope a208))
   all_goals iterate 5 refine S.one q12q ?_
   all_goals (refine S.nil ?_; simp only [ze, simprocAttr, q12q]; apply_assumption)
   refine AW.cond (b := false) (by simp [ev]; try omega) (fun hc => by cases hc) (fun hc => AW.skip ?_)
   all_goals simp only [zs, simprocAttr]
   exact ⟨rfl, l3, hs3, rfl⟩
 ·refine AW.seq_k fun K24 h24 => ?_
  refine AW.reg0 ?_
  have q13q := J5 f0 f3 f4 f18 f24
  iterate 2 refine S.one q13q ?_
  (refine S.sp q13q fun b a208 => ?_; cases b <;> (try exact nope a208))
  all_goals iterate 5 refine S.one q13q ?_
  all_goals (refine S.nil ?_; simp only [ze, simprocAttr, q13q]; apply_assumption)
  refine AW.cd false (fun hc => by cases hc) (fun hc => AW.skip ?_)
  all_goals simp only [zs, simprocAttr]
  exact ⟨rfl, l3, hs3, rfl⟩
theorem sink_sub (lo : Nat) : ∀ (j : Nat) (l0 l : List Bd), Sub l0 l → Sub l0 (sink lo j l) := by
  intro j
  induction j with
  | zero => exact fun _ _ h => h
  | succ j ih =>
    intro l0 l h
    simp only [sink]
    split
    · rename_i x y hx hy
      split
      · exact ih l0 _ (h.swap hx hy)
      · exact h
    · exact h
theorem insFrom_sub (lo : Nat) : ∀ (m i : Nat) (l0 l : List Bd), Sub l0 l → Sub l0 (insFrom lo l i m) := by
  intro m
  induction m with
  | zero => exact fun _ _ _ h => h
  | succ m ih =>
    intro i l0 l h
    simp only [insFrom, List.range'_succ, List.foldl_cons]
    exact ih (i + 1) l0 _ (sink_sub lo i l0 l h)
theorem insort_sub (lo hi : Nat) (l : List Bd) : Sub l (insort lo hi l) := insFrom_sub lo _ _ l l (Sub.refl l)
theorem stable_weak (l0 : List Bd) (k : Nat) (hn : l0.length < 2147483648) :
  ACalls Tryz.prog 171 [.gl k, .c (.int .i64 l0.length), .fn (.func 141) [] []] (hpB k l0) (hpS k l0) := by
 refine ACalls.intro Tryz.call171 Tryz.func171 rfl Tryz.ntmps171 Tryz.results171 (by simp) ?_
 refine AW.sr trivial ?_
 refine AW.sr trivial ?_
 refine AW.seq_j (fun s σ => ∃ a l', a ≤ l0.length ∧ s.t 0 = .gl k ∧ s.t 1 = .c (.int .i64 l0.length) ∧ s.t 2 = .fn (.func 141) [] [] ∧ s.t 6 = .c (.int .i64 ((20 : Nat) : Int)) ∧ s.t 7 = .c (.int .i64 (a : Nat)) ∧ σ = hpB k l' ∧ Sub l0 l') ?_ ?_
 ·refine AW.block ?_   -- 0
  refine AW.loop (fun m s σ => ∃ a b l', m + a = l0.length ∧ b = a + 20 ∧ s.t 0 = .gl k ∧ s.t 1 = .c (.int .i64 l0.length) ∧ s.t 2 = .fn (.func 141) [] [] ∧ s.t 6 = .c (.int .i64 ((20 : Nat) : Int)) ∧ s.t 7 = .c (.int .i64 (a : Nat)) ∧ s.t 8 = .c (.int .i64 (b : Nat)) ∧ σ = hpB k l' ∧ Sub l0 l') l0.length ?_ ?_
  ·refine ⟨0, 20, l0, rfl, rfl, ?_⟩
   simp only [zs, simprocAttr, -Int.reduceNatCast', -Int.reduceToNat]
   exact ⟨rfl, rfl, rfl, rfl, fun _ h => h⟩
  rintro m s σ ⟨a, b, l', hm, hab, e0, e1, e2, e6, e7, e8, rfl, hs⟩
  refine AW.seq_k fun K3 h3 => ?_
  all_goals refine AW.sr (J2 e1 e8) ?_
  refine AW.cd (decide (b ≤ l0.length)) (fun hc => ?_) (fun hc => ?_)
  ·have hc := of_decide_eq_true hc
   refine AW.skip ?_
   simp only [zs, simprocAttr]
   all_goals apply_assumption
   have hw : IntKind.i64.wrap ((b : Int) + (20 : Nat)) = ((b + 20 : Nat) : Int) := by rw [wrap_small _ (by omega) (by omega)]; rfl
   refine AW.block ?_   -- 1
   refine AW.seq_k fun K5 h5 => ?_
   refine AW.reg0 ?_
   iterate 4 refine S.one (J4 e0 e2 e7 e8) ?_
   have q1q := J4 e0 e2 e7 e8
   (refine S.g rfl rfl fun Y Z => ?_; simp only [zz, simprocAttr, -Int.reduceNatCast', -Int.reduceToNat, q1q]; refine (insort_spec l' k a b (by omega) (by rw [hs.1]; omega) (by rw [hs.1]; omega)).to fun v σ1 hv => ?_; obtain ⟨rfl, rfl⟩ := hv <;> (refine Z _ _ ?_; clear Z Y))
   all_goals (refine S.nil ?_; simp only [ze, simprocAttr, q1q]; apply_assumption)
   all_goals refine AW.sr e8 ?_
   all_goals refine AW.reg0 (S.rn (J3 e8 e6 hw) ?_)
   all_goals simp only [ze, simprocAttr, e8, e6, hw]
   exact ⟨m - 20, by omega, b, b + 20, _, by omega, rfl, e0, e1, e2, rfl, rfl, rfl, hs.trans (insort_sub a b l')⟩
  ·have hc := of_decide_eq_false hc
   refine AW.exit ?_
   simp only [zs, simprocAttr]
   exact ⟨a, l', by omega, e0, e1, e2, e6, e7, rfl, hs⟩
 rintro s0 σ0 ⟨a, l', ha, e0, e1, e2, e6, e7, rfl, hs⟩
 refine AW.seq_k fun K7 h7 => ?_
 all_goals refine AW.reg0 ?_
 all_goals iterate 4 refine S.one (J4 e0 e1 e2 e7) ?_
 all_goals have q2q := J4 e0 e1 e2 e7
 all_goals (refine S.g rfl rfl fun Y Z => ?_; simp only [zz, simprocAttr, -Int.reduceNatCast', -Int.reduceToNat, q2q]; refine (insort_spec l' k a l0.length (by omega) (by rw [hs.1]; omega) (by rw [hs.1]; omega)).to fun v σ1 hv => ?_; obtain ⟨rfl, rfl⟩ := hv <;> (refine Z _ _ ?_; clear Z Y))
 all_goals (refine S.nil ?_; simp only [ze, simprocAttr, q2q]; apply_assumption)
 have hs2 := hs.trans (insort_sub a l0.length l')
 generalize insort a l0.length l' = l1 at hs2 ⊢
 clear hs
 refine AW.block ?_   -- 2
 refine AW.loop (fun m s σ => ∃ c l', m = l0.length - c ∧ 20 ≤ c ∧ c < 4294967296 ∧ s.t 0 = .gl k ∧ s.t 1 = .c (.int .i64 l0.length) ∧ s.t 2 = .fn (.func 141) [] [] ∧ s.t 6 = .c (.int .i64 (c : Nat)) ∧ σ = hpB k l' ∧ Sub l0 l') (l0.length - 20) ?_ ?_
 ·refine ⟨20, l1, rfl, by omega, by omega, ?_⟩
  simp only [zs, simprocAttr]
  exact ⟨e0, e1, e2, e6, hs2⟩
 clear e0 e1 e2 e6 e7 hs2 ha
 rintro m s σ ⟨c, l', hm, hc1, hc2, e0, e1, e2, e6, rfl, hs⟩
 refine AW.seq_k fun K8 h8 => ?_
 all_goals refine AW.sr (J2 e1 e6) ?_
 refine AW.cd (decide (c < l0.length)) (fun hc => ?_) (fun hc => ?_)
 ·have hc := of_decide_eq_true hc
  refine AW.skip ?_
  simp only [zs, simprocAttr]
  all_goals apply_assumption
  have hw : IntKind.i64.wrap (2 * (c : Int)) = ((2 * c : Nat) : Int) := by rw [wrap_small _ (by omega) (by omega)]; rfl
  have hw' : IntKind.i64.wrap ((c : Int) * 2) = ((2 * c : Nat) : Int) := by rw [wrap_small _ (by omega) (by omega)]; omega
  refine AW.block ?_   -- 3
  refine AW.sr (J2 e6 hw) ?_
  refine AW.seq_j (fun s σ => ∃ a l', a ≤ l0.length ∧ s.t 0 = .gl k ∧ s.t 1 = .c (.int .i64 l0.length) ∧ s.t 2 = .fn (.func 141) [] [] ∧ s.t 6 = .c (.int .i64 (c : Nat)) ∧ s.t 7 = .c (.int .i64 (a : Nat)) ∧ σ = hpB k l' ∧ Sub l0 l') ?_ ?_
  ·refine AW.block ?_   -- 4
   refine AW.loop (fun m s σ => ∃ a b l', m + a = l0.length ∧ b = a + 2 * c ∧ s.t 0 = .gl k ∧ s.t 1 = .c (.int .i64 l0.length) ∧ s.t 2 = .fn (.func 141) [] [] ∧ s.t 6 = .c (.int .i64 (c : Nat)) ∧ s.t 7 = .c (.int .i64 (a : Nat)) ∧ s.t 8 = .c (.int .i64 (b : Nat)) ∧ σ = hpB k l' ∧ Sub l0 l') l0.length ?_ ?_
   ·refine ⟨0, 2 * c, l', rfl, by omega, ?_⟩
    simp only [zs, simprocAttr, -Int.reduceNatCast', -Int.reduceToNat]
    exact ⟨e0, e1, e2, e6, rfl, hs⟩
   clear hs e0 e1 e2 e6
   rintro m s σ ⟨a, b, l', hm, hab, e0, e1, e2, e6, e7, e8, rfl, hs⟩
   refine AW.seq_k fun K11 h11 => ?_
   all_goals refine AW.sr (J2 e1 e8) ?_
   refine AW.cd (decide (b ≤ l0.length)) (fun hc => ?_) (fun hc => ?_)
   ·have hc := of_decide_eq_true hc
    refine AW.skip ?_
    simp only [zs, simprocAttr]
    all_goals apply_assumption
    have hw3 : IntKind.i64.wrap ((a : Int) + c) = ((a + c : Nat) : Int) := by rw [wrap_small _ (by omega) (by omega)]; rfl
    have hw4 : IntKind.i64.wrap ((b : Int) + (2 * c : Nat)) = ((b + 2 * c : Nat) : Int) := by rw [wrap_small _ (by omega) (by omega)]; rfl
    refine AW.block ?_   -- 5
    refine AW.seq_k fun K13 h13 => ?_
    refine AW.reg0 ?_
    iterate 7 refine S.one (J6 e0 e2 e6 e7 e8 hw3) ?_
    have q3q := J6 e0 e2 e6 e7 e8 hw3
    (refine S.g rfl rfl fun Y Z => ?_; simp only [zz, simprocAttr, -Int.reduceNatCast', -Int.reduceToNat, q3q]; refine (sym_weak k (b - a) l' a (a + c) b (by omega) (by omega) (by omega) (by rw [hs.1]; omega) (by rw [hs.1]; omega)).to fun v σ1 hv => ?_; obtain ⟨rfl, l3, hl3, rfl⟩ := hv <;> (refine Z _ _ ?_; clear Z Y))
    all_goals (refine S.nil ?_; simp only [ze, simprocAttr, q3q]; apply_assumption)
    all_goals refine AW.sr e8 ?_
    all_goals have q4q := J4 e8 e6 hw hw4
    all_goals refine AW.reg0 (S.rn q4q ?_)
    all_goals simp only [ze, simprocAttr, q4q]
    exact ⟨m - 2 * c, by omega, b, b + 2 * c, _, by omega, rfl, e0, e1, e2, rfl, rfl, rfl, hs.trans hl3⟩
   ·have hc := of_decide_eq_false hc
    refine AW.exit ?_
    simp only [zs, simprocAttr]
    exact ⟨a, l', by omega, e0, e1, e2, e6, e7, rfl, hs⟩
  clear hs e0 e1 e2 e6
  rintro s0 σ0 ⟨a, l', ha, e0, e1, e2, e6, e7, rfl, hs⟩
  have hw3 : IntKind.i64.wrap ((a : Int) + c) = ((a + c : Nat) : Int) := by rw [wrap_small _ (by omega) (by omega)]; rfl
  refine AW.seq_k fun K15 h15 => ?_
  all_goals refine AW.sr (J3 e6 e7 hw3) ?_
  all_goals refine AW.sr e1 ?_
  refine AW.cd (decide (a + c < l0.length)) (fun hd => ?_) (fun hd => ?_)
  ·have hd := of_decide_eq_true hd
   refine AW.reg0 ?_
   iterate 5 refine S.one (J4 e0 e1 e2 e7) ?_
   have q5q := J4 e0 e1 e2 e7
   (refine S.g rfl rfl fun Y Z => ?_; simp only [zz, simprocAttr, -Int.reduceNatCast', -Int.reduceToNat, q5q]; refine (sym_weak k (l0.length - a) l' a (a + c) l0.length (by omega) (by omega) (by omega) (by rw [hs.1]; omega) (by rw [hs.1]; omega)).to fun v σ1 hv => ?_; obtain ⟨rfl, l3, hl3, rfl⟩ := hv <;> (refine Z _ _ ?_; clear Z Y))
   all_goals (refine S.nil ?_; simp only [ze, simprocAttr, q5q]; apply_assumption)
   all_goals refine AW.reg0 (S.rn (J2 e6 hw') ?_)
   all_goals simp only [ze, simprocAttr, e6, hw']
   exact ⟨m - c, by omega, 2 * c, _, by omega, by omega, by omega, e0, e1, e2, rfl, rfl, hs.trans hl3⟩
  ·refine AW.skip ?_
   simp only [zs, simprocAttr]
   all_goals apply_assumption
   refine AW.reg0 (S.rn (J2 e6 hw') ?_)
   simp only [ze, simprocAttr, e6, hw']
   exact ⟨m - c, by omega, 2 * c, _, by omega, by omega, by omega, e0, e1, e2, rfl, rfl, hs⟩
 ·refine AW.exit ?_
  simp only [zs, simprocAttr]
  exact ⟨rfl, l', hs, rfl⟩
theorem sort_weak (l : List Bd) (k : Nat) (hn : l.length < 2147483648) :
    ACalls Tryz.prog 140 [.gl k, .fn (.func 141) [] []] (hpB k l) (hpS k l) := by
  refine ACalls.intro Tryz.call140 Tryz.func140 rfl Tryz.ntmps140 Tryz.results140 (by simp) ?_
  have hpb : (hpB k l).gr k = some ((50, 6), l.map encBd) := by simp [hpB]
  refine AW.mono (Q := thenS (fun s' σ' => ∃ l', Sub l l' ∧ σ' = hpB k l') (fun _ _ _ => False)) ?_ ?_
  · clear hpb; unfold hpB
    refine AW.reg0 ?_
    iterate 4 refine S.one trivial ?_
    (refine S.g rfl rfl fun Y Z => ?_; simp only [zz, simprocAttr, -Int.reduceNatCast', -Int.reduceToNat]; refine (stable_weak l k (by omega)).to fun v σ1 hv => ?_; obtain ⟨rfl, l2, hl2, rfl⟩ := hv <;> (refine Z _ _ ?_; clear Z Y))
    all_goals refine S.nil ?_
    all_goals simp only [ze, simprocAttr]
    exact ⟨l2, hl2, rfl⟩
  rintro e s σ hq
  cases e with
  | normal =>
    obtain ⟨l2, hl2, rfl⟩ : ∃ l', Sub l l' ∧ σ = hpB k l' := hq
    simp only [zs, simprocAttr]
    exact ⟨rfl, l2, hl2, rfl⟩
  | _ => exact hq.elim
def mrg : List Bd → List Bd → List Bd
  | [], b => b
  | x :: a, [] => x :: a
  | x :: a, y :: b => if leS x.var y.var = true then x :: mrg a (y :: b) else y :: mrg (x :: a) b
termination_by a b => a.length + b.length
theorem mrg_nil (a : List Bd) : mrg a [] = a := by
 cases a <;> simp [mrg]
theorem mrg_len (a b : List Bd) : (mrg a b).length = a.length + b.length := by
 fun_induction mrg a b <;> simp_all <;> omega
theorem mrg_mem (a b : List Bd) : ∀ x ∈ mrg a b, x ∈ a ++ b := by
 fun_induction mrg a b
 ·intro x hx; simpa using hx
 ·intro x hx; simpa using hx
 ·rename_i ih
  intro z hz
  rcases List.mem_cons.1 hz with rfl | hz
  ·simp
  ·have := ih z hz; simp at this ⊢; rcases this with h | h | h <;> simp_all
 ·rename_i ih
  intro z hz
  rcases List.mem_cons.1 hz with rfl | hz
  ·simp
  ·have := ih z hz; simp at this ⊢; rcases this with h | h | h <;> simp [h]
def own (s : St) (σ : Hp) (t : Nat) (l : List Bd) : Prop := (l = [] ∧ s.t t = .c (.slice none 0 0) ∧ σ = Hp.empty) ∨ ∃ g, s.t t = .gl g ∧ σ = hpB g l
def rmergeV (a b : List Bd) : V := mergeV a b (mrg a b)
theorem rmerge_spec (a b : List Bd) (ha : okP a) (hb : okP b) (hat : ∀ x ∈ a ++ b, x.ev.attrs.length * 48 ≤ 140737488355328) :
  PCalls Tryz.prog 112 [.agg [.sl (a.map encBd)], .agg [.sl (b.map encBd)]] (fun v => v = rmergeV a b) := by
 refine PCalls.intro Tryz.call112 Tryz.func112 rfl Tryz.ntmps112 Tryz.results112 (by simp) ?_
 refine AW.sr trivial ?_
 refine AW.seq_j (fun s' σ' => σ' = Hp.empty ∧ s'.t 2 = .lp 2 0 ∧ s'.l 2 = some [.sl (a.map encBd)] ∧ s'.t 3 = .lp 3 0 ∧ s'.l 3 = some [.sl (b.map encBd)] ∧ s'.t 4 = .lp 4 0 ∧ s'.l 4 = some [.c (.slice none 0 0)] ∧ partErr a = 0 ∧ partErr b = 0) ?_ ?_
 ·refine AW.seq_j (fun s' σ' => σ' = Hp.empty ∧ s'.t 2 = .lp 2 0 ∧ s'.l 2 = some [.sl (a.map encBd)] ∧ s'.t 3 = .lp 3 0 ∧ s'.l 3 = some [.sl (b.map encBd)] ∧ s'.t 4 = .lp 4 0 ∧ s'.l 4 = some [.c (.slice none 0 0)] ∧ s'.t 17 = .c (.bool (decide (partErr a ≠ 0 ∨ partErr b ≠ 0)))) ?_ ?_
  ·skip
   refine AW.reg0 ?_
   refine S.one trivial ?_
   (refine S.g rfl rfl fun Y Z => ?_; simp only [zz, simprocAttr, -Int.reduceNatCast', -Int.reduceToNat]; refine PCalls.eqto (rcheck_part _ (by assumption)) ?_ <;> (refine Z _ _ ?_; clear Z Y))
   all_goals (refine S.sp trivial fun b a12 => ?_; cases b <;> (try exact nope a12))
   all_goals iterate 2 refine S.one trivial ?_
   all_goals (first | (refine S.y rfl rfl rfl rfl fun Y Z => ?_; simp only [zz, simprocAttr, -Int.reduceNatCast', -Int.reduceToNat]; refine PCalls.eqto (rcheck_part _ (by assumption)) ?_ <;> (refine Z _ _ ?_; clear Z Y)) | ((first | refine S.x rfl rfl rfl rfl fun Y Z => ?_ | refine S.u rfl rfl rfl rfl fun Y Z => ?_); simp only [ze, simprocAttr, -Int.reduceNatCast', -Int.reduceToNat]; refine Z _ _ ?_; clear Z Y))
   all_goals iterate 2 refine S.one trivial ?_
   all_goals refine S.nil ?_
   all_goals simp only [ze, simprocAttr]
   all_goals simp_all
   by_cases h0 : partErr b = 0 <;> simp [h0]
  rintro s σ ⟨rfl, e2, l2, e3, l3, e4, l4, e14⟩
  refine AW.cond (b := _) e14 (fun hc => ?_) (fun hc => ?_)
  ·have hx := of_decide_eq_true hc
   refine AW.sr (J2 e4 l4) ?_
   refine AW.ret ?_
   simp only [zs, simprocAttr, qLoad, tt, cut, List.drop_zero, List.take_succ_cons, List.take_zero, List.map, e4]
   rw [rmergeV, mergeV, if_pos hx]; rfl
  ·have hx := of_decide_eq_false hc
   refine AW.skip ?_
   simp only [zs, simprocAttr]
   exact ⟨e2, l2, e3, l3, e4, l4, Decidable.not_not.1 fun h => hx (.inl h), Decidable.not_not.1 fun h => hx (.inr h)⟩
 rintro s σ ⟨rfl, e2, l2, e3, l3, e4, l4, hpa, hpb⟩
 have hx : ¬ (partErr a ≠ 0 ∨ partErr b ≠ 0) := by simp [hpa, hpb]
 have hla : a.length ≤ 12 := by
  by_cases h : 12 < a.length
  ·simp [partErr, h] at hpa
  ·omega
 have hlb : b.length ≤ 12 := by
  by_cases h : 12 < b.length
  ·simp [partErr, h] at hpb
  ·omega
 all_goals refine AW.sr trivial ?_
 all_goals refine AW.sr trivial ?_
 all_goals refine AW.sr trivial ?_
 refine AW.seq_j (fun s σ => s.t 4 = .lp 4 0 ∧ s.l 4 = some [.c (.slice none 0 0)] ∧ own s σ 6 (mrg a b)) ?_ ?_
 ·refine AW.block ?_   -- 0
  refine AW.loop (fun m s σ => ∃ (i k : Nat) (out : List Bd), m = (a.length - i) + (b.length - k) ∧ i ≤ a.length ∧ k ≤ b.length ∧ out.length = i + k ∧ s.t 2 = .lp 2 0 ∧ s.l 2 = some [.sl (a.map encBd)] ∧ s.t 3 = .lp 3 0 ∧ s.l 3 = some [.sl (b.map encBd)] ∧ s.t 4 = .lp 4 0 ∧ s.l 4 = some [.c (.slice none 0 0)] ∧
   s.t 7 = .c (.int .i64 i) ∧ s.t 8 = .c (.int .i64 k) ∧ own s σ 6 out ∧ mrg a b = out ++ mrg (a.drop i) (b.drop k)) (a.length + b.length) ?_ ?_
  ·refine ⟨0, 0, [], rfl, by omega, by omega, rfl, ?_⟩
   simp only [zs, simprocAttr, own]
   simp [e2, l2, e3, l3, e4, l4]
  clear e2 l2 e3 l3 e4 l4
  rintro m s σ ⟨i, k, out, hm, hia, hkb, hol, e2, l2, e3, l3, e4, l4, e7, e8, hown, hp⟩
  refine AW.seq_k fun K6 h6 => ?_
  refine AW.seq_j (fun s' σ' => σ' = σ ∧ s'.t 2 = .lp 2 0 ∧ s'.l 2 = some [.sl (a.map encBd)] ∧ s'.t 3 = .lp 3 0 ∧ s'.l 3 = some [.sl (b.map encBd)] ∧ s'.t 4 = .lp 4 0 ∧ s'.l 4 = some [.c (.slice none 0 0)] ∧ s'.t 6 = s.t 6 ∧ s'.t 7 = .c (.int .i64 i) ∧ s'.t 8 = .c (.int .i64 k) ∧ s'.t 30 = .c (.bool (decide (i < a.length ∨ k < b.length)))) ?_ ?_
  ·clear hp hown
   refine AW.reg0 ?_
   have q1q := J6 e2 l2 e3 l3 e7 e8
   iterate 4 refine S.one q1q ?_
   (refine S.sp q1q fun b a23 => ?_; cases b <;> (try exact nope a23))
   all_goals iterate 7 refine S.one q1q ?_
   all_goals refine S.nil ?_
   all_goals simp only [ze, simprocAttr, q1q]
   all_goals refine ⟨e4, l4, ?_⟩
   all_goals (simp only [decide_eq_true_eq, decide_eq_false_iff_not] at a23; simp; omega)
  rintro s1 σ1 ⟨rfl, f2, k2, f3, k3, f4, k4, f6, f7, f8, f30⟩
  refine AW.cond (b := _) f30 (fun hc => ?_) (fun hc => ?_)
  ·have hc := of_decide_eq_true hc
   refine AW.skip ?_
   simp only [zs, simprocAttr]
   all_goals apply_assumption
   refine AW.block ?_   -- 1
   refine AW.seq_j (fun s' σ' => σ' = σ1 ∧ s'.t 2 = .lp 2 0 ∧ s'.l 2 = some [.sl (a.map encBd)] ∧ s'.t 3 = .lp 3 0 ∧ s'.l 3 = some [.sl (b.map encBd)] ∧ s'.t 4 = .lp 4 0 ∧ s'.l 4 = some [.c (.slice none 0 0)] ∧ s'.t 6 = s.t 6 ∧ s'.t 7 = .c (.int .i64 i) ∧ s'.t 8 = .c (.int .i64 k) ∧ ∃ q, s'.t 57 = .c (.bool q) ∧
    (q = true → ∃ x, a[i]? = some x ∧ mrg (a.drop i) (b.drop k) = x :: mrg (a.drop (i + 1)) (b.drop k)) ∧ (q = false → ∃ y, b[k]? = some y ∧ mrg (a.drop i) (b.drop k) = y :: mrg (a.drop i) (b.drop (k + 1)))) ?_ ?_
   ·clear hp
    by_cases hk : k < b.length
    ·obtain ⟨y, hy, hgy⟩ := get_bd hk
     have hdy : b.drop k = y :: b.drop (k + 1) := by rw [List.drop_eq_getElem_cons hk, (List.getElem?_eq_some_iff.1 hy).2]
     have hkne : ((k : Int) == b.length) = false := by simp; omega
     by_cases hi : i < a.length
     ·obtain ⟨x, hx, hgx⟩ := get_bd hi
      have hdx : a.drop i = x :: a.drop (i + 1) := by rw [List.drop_eq_getElem_cons hi, (List.getElem?_eq_some_iff.1 hx).2]
      refine AW.dv { sd := fun d => d == 2 || d == 3 } [(0,0),(1,0),(2,1),(3,0),(4,0),(5,0),(6,0),(7,0),(8,1),(9,0),(10,0),(11,0),(12,0),(14,0),(18,0),(20,0),(13,1),(15,0),(16,0),(17,1),(19,1),(21,0),(22,0),(23,1),(24,0),(25,0),(26,0)] ?_
      have q2q := J12 f2 k2 f3 k3 f7 f8 hk hi hgx hgy @encBd.eq_1 hkne
      iterate 2 refine D.one q2q ?_
      refine D.one q2q ?_
      refine D.one q2q ?_
      (refine D.sp q2q fun b a35 => ?_; cases b <;> (try exact nope a35))
      all_goals iterate 3 refine D.one q2q ?_
      all_goals refine D.one q2q ?_
      all_goals refine D.one q2q ?_
      all_goals (first | (refine D.sp q2q fun b a41 => ?_; cases b <;> (try exact nope a41)) | refine D.one trivial ?_)
      all_goals iterate 5 refine D.one q2q ?_
      all_goals refine D.one q2q ?_
      all_goals iterate 2 refine D.one q2q ?_
      all_goals iterate 2 refine D.one q2q ?_
      all_goals iterate 2 refine D.one q2q ?_
      all_goals refine D.one q2q ?_
      all_goals iterate 3 refine D.one q2q ?_
      all_goals refine D.nil ?_
      all_goals simp only [ze, simprocAttr, q2q]
      all_goals refine ⟨f4, k4, f6, leS x.var y.var, rfl, fun h => ⟨x, hx, ?_⟩, fun h => ⟨y, hy, ?_⟩⟩
      ·rw [hdx, hdy, mrg, if_pos h]
      ·rw [hdx, hdy, mrg, if_neg (by rw [h]; simp)]
     ·skip
      refine AW.dv { sd := fun d => d == 2 || d == 3 } [(0,0),(1,0),(2,1),(3,0),(4,0),(5,0),(6,0),(7,0),(8,1),(9,0),(10,0),(11,0),(12,0),(14,0),(18,0),(20,0),(13,1),(15,0),(16,0),(17,1),(19,1),(21,0),(22,0),(23,1),(24,0),(25,0),(26,0)] ?_
      have q3q := J10 f2 k2 f3 k3 f7 f8 hk hgy @encBd.eq_1 hkne
      iterate 2 refine D.one q3q ?_
      refine D.one q3q ?_
      refine D.one q3q ?_
      (refine D.sp q3q fun b a35 => ?_; cases b <;> (try exact nope a35))
      all_goals iterate 3 refine D.one q3q ?_
      all_goals refine D.one q3q ?_
      all_goals refine D.one q3q ?_
      all_goals (first | (refine D.sp q3q fun b a41 => ?_; cases b <;> (try exact nope a41)) | refine D.one trivial ?_)
      all_goals iterate 5 refine D.one q3q ?_
      all_goals refine D.one q3q ?_
      all_goals iterate 2 refine D.one q3q ?_
      all_goals iterate 2 refine D.one q3q ?_
      all_goals iterate 2 refine D.one q3q ?_
      all_goals refine D.one q3q ?_
      all_goals iterate 3 refine D.one q3q ?_
      all_goals refine D.nil ?_
      all_goals simp only [ze, simprocAttr, q3q]
      all_goals refine ⟨f4, k4, f6, false, rfl, (fun h => by cases h), fun h => ⟨y, hy, ?_⟩⟩
      rw [List.drop_of_length_le (by omega), hdy, mrg, mrg]
    ·have hi : i < a.length := by omega
     have hkne : ((k : Int) == b.length) = true := by simp; omega
     obtain ⟨x, hx, hgx⟩ := get_bd hi
     have hdx : a.drop i = x :: a.drop (i + 1) := by rw [List.drop_eq_getElem_cons hi, (List.getElem?_eq_some_iff.1 hx).2]
     refine AW.dv { sd := fun d => d == 2 || d == 3 } [(0,0),(1,0),(2,1),(3,0),(4,0),(5,0),(6,0),(7,0),(8,1),(9,0),(10,0),(11,0),(12,0),(14,0),(18,0),(20,0),(13,1),(15,0),(16,0),(17,1),(19,1),(21,0),(22,0),(23,1),(24,0),(25,0),(26,0)] ?_
     have q4q := J7 f2 k2 f3 k3 f7 f8 hkne
     iterate 2 refine D.one q4q ?_
     refine D.one q4q ?_
     refine D.one q4q ?_
     (refine D.sp q4q fun b a35 => ?_; cases b <;> (try exact nope a35))
     all_goals iterate 3 refine D.one q4q ?_
     all_goals refine D.one q4q ?_
     all_goals refine D.one q4q ?_
     all_goals (first | (refine D.sp q4q fun b a41 => ?_; cases b <;> (try exact nope a41)) | refine D.one trivial ?_)
     all_goals iterate 5 refine D.one q4q ?_
     all_goals refine D.one q4q ?_
     all_goals iterate 2 refine D.one q4q ?_
     all_goals iterate 2 refine D.one q4q ?_
     all_goals iterate 2 refine D.one q4q ?_
     all_goals refine D.one q4q ?_
     all_goals iterate 3 refine D.one q4q ?_
     all_goals refine D.nil ?_
     all_goals simp only [ze, simprocAttr, q4q]
     all_goals refine ⟨f4, k4, f6, true, rfl, fun h => ⟨x, hx, ?_⟩, (fun h => by cases h)⟩
     rw [hdx, List.drop_of_length_le (show b.length ≤ k by omega), mrg_nil, mrg_nil]
   rintro s2 σ2 ⟨rfl, g2, j2, g3, j3, g4, j4, g6, g7, g8, q, g57, hqt, hqf⟩
   refine AW.cond (b := q) g57 (fun hd => ?_) (fun hd => ?_)
   ·obtain ⟨x, hx, hmx⟩ := hqt hd
    have hi : i < a.length := (List.getElem?_eq_some_iff.1 hx).1
    have hgx : (a.map encBd).getD i [] = encBd x := by rw [getD_map hi, (List.getElem?_eq_some_iff.1 hx).2]
    have hw : IntKind.i64.wrap ((i : Int) + 1) = ((i + 1 : Nat) : Int) := by rw [wrap_small _ (by omega) (by omega)]; rfl
    rw [hmx] at hp
    rcases hown with ⟨rfl, e6, rfl⟩ | ⟨g, e6, rfl⟩
    ·rw [e6] at g6
     refine AW.seq_k fun K7 h7 => ?_
     refine AW.reg0 ?_
     iterate 7 (refine S.g rfl rfl fun Y Z => ?_; simp only [zb, simprocAttr, -Int.reduceNatCast', -Int.reduceToNat, tt, g2, j2, g6, g7, hi, hgx, encBd]; refine Z _ _ ?_; clear Z Y)
     all_goals have q5q := J7 g2 j2 g6 g7 hi hgx @encBd.eq_1
     all_goals (refine S.g rfl rfl fun Y Z => ?_; simp only [zz, simprocAttr, -Int.reduceNatCast', -Int.reduceToNat, tt, q5q]; refine ⟨len_bd [x], by unfold maxLen; omega, by unfold reach; omega, fun k2 hk2 => ?_⟩ <;> (refine Z _ _ ?_; clear Z Y))
     all_goals refine S.one q5q ?_
     all_goals (refine S.nil ?_; simp only [ze, simprocAttr, q5q]; apply_assumption)
     all_goals refine AW.reg0 (S.rn (J2 g7 hw) ?_)
     all_goals simp only [ze, simprocAttr, g7, hw]
     exact ⟨m - 1, by omega, i + 1, k, [x], by omega, by omega, by omega, by simp at hol ⊢; omega, g2, j2, g3, j3, g4, j4, rfl, g8, .inr ⟨k2, rfl, rfl⟩, hp⟩
    ·rw [e6] at g6
     refine AW.seq_k fun K8 h8 => ?_
     refine AW.reg0 ?_
     iterate 7 (refine S.g rfl rfl fun Y Z => ?_; simp only [zb, simprocAttr, -Int.reduceNatCast', -Int.reduceToNat, tt, g2, j2, g6, g7, hi, hgx, encBd, hpB, hol]; refine Z _ _ ?_; clear Z Y)
     all_goals have q6q := J9 g2 j2 g6 g7 hi hgx @encBd.eq_1 @hpB.eq_1 hol
     all_goals (refine S.g rfl rfl fun Y Z => ?_; simp only [zz, simprocAttr, -Int.reduceNatCast', -Int.reduceToNat, tt, q6q]; refine ⟨len_bd [x], by unfold maxLen; omega, by unfold reach; omega, fun k2 hk2 => ?_⟩ <;> (refine Z _ _ ?_; clear Z Y))
     all_goals refine S.one q6q ?_
     all_goals (refine S.nil ?_; simp only [ze, simprocAttr, q6q]; apply_assumption)
     all_goals refine AW.reg0 (S.rn (J2 g7 hw) ?_)
     all_goals simp only [ze, simprocAttr, g7, hw]
     refine ⟨m - 1, by omega, i + 1, k, out ++ [x], by omega, by omega, by omega, by simp [hol]; omega, g2, j2, g3, j3, g4, j4, rfl, g8, .inr ⟨k2, rfl, ?_⟩, by rw [hp]; simp⟩
     simp [hpB, encBd]
   ·obtain ⟨y, hy, hmx⟩ := hqf hd
    have hi : k < b.length := (List.getElem?_eq_some_iff.1 hy).1
    have hgx : (b.map encBd).getD k [] = encBd y := by rw [getD_map hi, (List.getElem?_eq_some_iff.1 hy).2]
    have hw : IntKind.i64.wrap ((k : Int) + 1) = ((k + 1 : Nat) : Int) := by rw [wrap_small _ (by omega) (by omega)]; rfl
    rw [hmx] at hp
    rcases hown with ⟨rfl, e6, rfl⟩ | ⟨g, e6, rfl⟩
    ·rw [e6] at g6
     refine AW.seq_k fun K9 h9 => ?_
     refine AW.reg0 ?_
     iterate 7 (refine S.g rfl rfl fun Y Z => ?_; simp only [zb, simprocAttr, -Int.reduceNatCast', -Int.reduceToNat, tt, g3, j3, g6, g8, hi, hgx, encBd]; refine Z _ _ ?_; clear Z Y)
     all_goals have q7q := J7 g3 j3 g6 g8 hi hgx @encBd.eq_1
     all_goals (refine S.g rfl rfl fun Y Z => ?_; simp only [zz, simprocAttr, -Int.reduceNatCast', -Int.reduceToNat, tt, q7q]; refine ⟨len_bd [y], by unfold maxLen; omega, by unfold reach; omega, fun k2 hk2 => ?_⟩ <;> (refine Z _ _ ?_; clear Z Y))
     all_goals refine S.one q7q ?_
     all_goals (refine S.nil ?_; simp only [ze, simprocAttr, q7q]; apply_assumption)
     all_goals refine AW.reg0 (S.rn (J2 g8 hw) ?_)
     all_goals simp only [ze, simprocAttr, g8, hw]
     exact ⟨m - 1, by omega, i, k + 1, [y], by omega, by omega, by omega, by simp at hol ⊢; omega, g2, j2, g3, j3, g4, j4, g7, rfl, .inr ⟨k2, rfl, rfl⟩, hp⟩
    ·rw [e6] at g6
     refine AW.seq_k fun K10 h10 => ?_
     refine AW.reg0 ?_
     iterate 7 (refine S.g rfl rfl fun Y Z => ?_; simp only [zb, simprocAttr, -Int.reduceNatCast', -Int.reduceToNat, tt, g3, j3, g6, g8, hi, hgx, encBd, hpB, hol]; refine Z _ _ ?_; clear Z Y)
     all_goals have q8q := J9 g3 j3 g6 g8 hi hgx @encBd.eq_1 @hpB.eq_1 hol
     all_goals (refine S.g rfl rfl fun Y Z => ?_; simp only [zz, simprocAttr, -Int.reduceNatCast', -Int.reduceToNat, tt, q8q]; refine ⟨len_bd [y], by unfold maxLen; omega, by unfold reach; omega, fun k2 hk2 => ?_⟩ <;> (refine Z _ _ ?_; clear Z Y))
     all_goals refine S.one q8q ?_
     all_goals (refine S.nil ?_; simp only [ze, simprocAttr, q8q]; apply_assumption)
     all_goals refine AW.reg0 (S.rn (J2 g8 hw) ?_)
     all_goals simp only [ze, simprocAttr, g8, hw]
     refine ⟨m - 1, by omega, i, k + 1, out ++ [y], by omega, by omega, by omega, by simp [hol]; omega, g2, j2, g3, j3, g4, j4, g7, rfl, .inr ⟨k2, rfl, ?_⟩, by rw [hp]; simp⟩
     simp [hpB, encBd]
  ·have hc := of_decide_eq_false hc
   refine AW.exit ?_
   simp only [zs, simprocAttr]
   refine ⟨f4, k4, ?_⟩
   rw [hp, List.drop_of_length_le (by omega), List.drop_of_length_le (by omega)]
   simp only [mrg, List.append_nil, own, f6]
   exact hown
 clear e2 l2 e3 l3 e4 l4
 rintro s0 σ0 ⟨e4, l4, hown⟩
 have hml := mrg_len a b
 have hmm := mrg_mem a b
 have hpo : okP (mrg a b) := fun x hx => by
  rcases List.mem_append.1 (hmm x hx) with h | h
  ·exact ha x h
  ·exact hb x h
 have hcl : ∀ x ∈ mrg a b, x.ev.attrs.length * 48 ≤ 140737488355328 := fun x hx => hat x (hmm x hx)
 have hlen : (mrg a b).length * 80 ≤ 140737488355328 := by omega
 rw [rmergeV, mergeV, if_neg hx]
 generalize mrg a b = p at hown hpo hcl hlen ⊢
 refine AW.seq_j (fun s σ => σ = Hp.empty ∧ s.t 4 = .lp 4 0 ∧ s.l 4 = some [.c (.slice none 0 0)] ∧ s.t 9 = .lp 9 0 ∧ s.l 9 = some [.sl (p.map encBd)]) ?_ ?_
 ·rcases hown with ⟨rfl, e6, rfl⟩ | ⟨g, e6, rfl⟩
  ·skip
   refine AW.reg0 ?_
   iterate 2 refine S.one (J3 e6 e4 l4) ?_
   refine S.cl (J3 e6 e4 l4) (rclone_part _ hcl hlen) ?_
   all_goals iterate 2 refine S.one (J3 e6 e4 l4) ?_
   all_goals refine S.nil ?_
   all_goals simp only [ze, simprocAttr, e6, e4, l4]
   rfl
  ·refine AW.freeze (k := g) (T := (50, 6)) (es := p.map encBd) (by simp [hpB]) ?_
   have hem : (hpB g p).setGr g none = Hp.empty := by simp [hpB]
   rw [hem]
   refine AW.reg0 ?_
   iterate 2 refine S.one (J8 e6 @St.fz_t @St.fz_l @fzV.eq_1 @fzV.eq_2 @fz1.eq_1 @fz1.eq_2 @Option.map_some.{0,0}) ?_
   have q9q := J8 e6 @St.fz_t @St.fz_l @fzV.eq_1 @fzV.eq_2 @fz1.eq_1 @fz1.eq_2 @Option.map_some.{0,0}
   refine S.cl q9q (rclone_part _ hcl hlen) ?_
   all_goals iterate 2 refine S.one q9q ?_
   all_goals refine S.nil ?_
   all_goals simp only [ze, simprocAttr, q9q]
   simp [e4, l4, fzV, fz1, kill]
 clear e4 l4 hown hml hmm hat
 rintro s σ ⟨rfl, e4, l4, e9, l9⟩
 refine AW.seq_k fun K11 h11 => ?_
 refine AW.seq_k fun K12 h12 => ?_
 all_goals refine AW.reg0 ?_
 all_goals refine S.one (J2 e9 l9) ?_
 all_goals refine S.cl (J2 e9 l9) (rcheck_part _ (by assumption)) ?_
 all_goals refine S.one (J2 e9 l9) ?_
 all_goals (refine S.nil ?_; simp only [ze, simprocAttr, e9, l9]; apply_assumption)
 refine AW.cd (partErr p != 0) (fun hc => ?_) (fun hc => ?_)
 ·have hc : partErr p ≠ 0 := by simpa using hc
  refine AW.sr (J2 e4 l4) ?_
  refine AW.ret ?_
  simp only [zs, simprocAttr, qLoad, tt, cut, List.drop_zero, List.take_succ_cons, List.take_zero, List.map, e4]
  rw [if_pos hc]; rfl
 ·have hc : partErr p = 0 := by simpa using hc
  refine AW.skip ?_
  simp only [zs, simprocAttr]
  all_goals apply_assumption
  refine AW.sr (J4 e9 l9 e4 l4) ?_
  refine AW.ret ?_
  simp only [zs, simprocAttr, qLoad, tt, cut, List.drop_zero, List.take_succ_cons, List.take_zero, List.map, e4]
  rw [if_neg (by rw [hc]; simp)]
theorem insort_nil : PCalls Tryz.prog 186 [.c (.slice none 0 0), .c (.int .i64 0), .c (.int .i64 0), .fn (.func 141) [] []] (fun v => v = .tup []) := by
 refine PCalls.intro Tryz.call186 Tryz.func186 rfl Tryz.ntmps186 Tryz.results186 (by simp) ?_
 have hw1 : IntKind.i64.wrap ((0 : Int) + 1) = 1 := by rw [wrap_small _ (by omega) (by omega)]; rfl
 refine AW.sr hw1 ?_
 refine AW.block ?_   -- 0
 refine AW.loop (fun m s σ => s.t 2 = .c (.int .i64 0) ∧ s.t 8 = .c (.int .i64 1) ∧ σ = Hp.empty) 0 ?_ ?_
 ·simp only [zs, simprocAttr]
 rintro m s σ ⟨e2, e8, rfl⟩
 refine AW.seq_k fun K2 h2 => ?_
 all_goals refine AW.sr (J2 e2 e8) ?_
 refine AW.cd false (fun hc => by cases hc) (fun hc => AW.exit ?_)
 all_goals simp only [zs, simprocAttr]
 rfl
theorem stable_nil : PCalls Tryz.prog 171 [.c (.slice none 0 0), .c (.int .i64 0), .fn (.func 141) [] []] (fun v => v = .tup []) := by
 refine PCalls.intro Tryz.call171 Tryz.func171 rfl Tryz.ntmps171 Tryz.results171 (by simp) ?_
 refine AW.sr trivial ?_
 refine AW.sr trivial ?_
 refine AW.seq_k fun K3 h3 => ?_
 refine AW.block ?_   -- 0
 refine AW.loop (fun m s σ => σ = Hp.empty ∧ s.t 0 = .c (.slice none 0 0) ∧ s.t 1 = .c (.int .i64 0) ∧ s.t 2 = .fn (.func 141) [] [] ∧ s.t 6 = .c (.int .i64 20) ∧ s.t 7 = .c (.int .i64 0) ∧ s.t 8 = .c (.int .i64 20)) 0 ?_ ?_
 ·simp only [zs, simprocAttr]
 rintro m s σ ⟨rfl, e0, e1, e2, e6, e7, e8⟩
 refine AW.seq_k fun K4 h4 => ?_
 all_goals refine AW.sr (J2 e1 e8) ?_
 refine AW.cd false (fun hc => by cases hc) (fun hc => AW.exit ?_)
 all_goals simp only [zs, simprocAttr]
 all_goals apply_assumption
 refine AW.seq_k fun K6 h6 => ?_
 all_goals refine AW.region (T := { raw := fun d => d == 186 }) (fun _ _ h => by cases h) rfl ?_
 all_goals iterate 4 refine S.one (J4 e0 e1 e2 e7) ?_
 all_goals have q1q := J4 e0 e1 e2 e7
 all_goals refine S.cl q1q insort_nil ?_
 all_goals (refine S.nil ?_; simp only [ze, simprocAttr, q1q]; apply_assumption)
 refine AW.block ?_   -- 2
 refine AW.loop (fun m s σ => σ = Hp.empty ∧ s.t 1 = .c (.int .i64 0) ∧ s.t 6 = .c (.int .i64 20)) 0 ?_ ?_
 ·simp only [zs, simprocAttr]
  exact ⟨e1, e6⟩
 rintro m2 s2 σ2 ⟨rfl, f1, f6⟩
 refine AW.seq_k fun K7 h7 => ?_
 all_goals refine AW.sr (J2 f1 f6) ?_
 refine AW.cd false (fun hc => by cases hc) (fun hc => AW.exit ?_)
 all_goals simp only [zs, simprocAttr]
 rfl
theorem sort_nil : PCalls Tryz.prog 140 [.c (.slice none 0 0), .fn (.func 141) [] []] (fun v => v = .tup []) := by
  refine PCalls.intro Tryz.call140 Tryz.func140 rfl Tryz.ntmps140 Tryz.results140 (by simp) ?_
  refine AW.mono (Q := thenS (fun s' σ' => σ' = Hp.empty) (fun _ _ _ => False)) ?_ ?_
  · skip
    refine AW.region (T := { raw := fun d => d == 171 }) (fun _ _ h => by cases h) rfl ?_
    all_goals iterate 4 refine S.one trivial ?_
    all_goals refine S.cl trivial stable_nil ?_
    all_goals refine S.nil ?_
    all_goals simp only [ze, simprocAttr]
  rintro e s σ hq
  cases e with
  | normal =>
    obtain rfl : σ = Hp.empty := hq
    simp only [zs, simprocAttr]
    rfl
  | _ => exact hq.elim
theorem merge_nil : PCalls Tryz.prog 106 [.agg [.sl []], .agg [.sl []]] (fun v => v = .tup [.agg [.sl []], .c (.bool true)]) := by
 have hok : okP [] := fun _ h => by cases h
 have hpe : partErr [] = 0 := rfl
 refine PCalls.intro Tryz.call106 Tryz.func106 rfl Tryz.ntmps106 Tryz.results106 (by simp) ?_
 all_goals refine AW.sr trivial ?_
 refine AW.seq_k fun K2 h2 => ?_
 refine AW.seq_k fun K3 h3 => ?_
 all_goals refine AW.reg0 ?_
 all_goals refine S.one hpe ?_
 all_goals refine S.cl hpe (check_part [] hok) ?_
 all_goals (refine S.sp hpe fun b a9 => ?_; cases b <;> (try exact nope a9))
 all_goals iterate 2 refine S.one hpe ?_
 all_goals (first | (refine S.cl hpe (check_part [] hok) ?_) | refine S.one trivial ?_)
 all_goals iterate 2 refine S.one hpe ?_
 all_goals (refine S.nil ?_; simp only [ze, simprocAttr, hpe]; apply_assumption)
 refine AW.cd false (fun hc => by cases hc) (fun hc => AW.skip ?_)
 all_goals simp only [zs, simprocAttr]
 all_goals apply_assumption
 have htot : tot [[], []] * 80 ≤ 140737488355328 := by simp [tot]
 refine AW.seq_k fun K4 h4 => ?_
 all_goals refine AW.reg0 ?_
 all_goals have q1q := J4 @List.flatten_cons.{0} @List.flatten_nil.{0} @List.nil_append.{0} @List.map_nil.{0,0}
 all_goals iterate 4 refine S.one q1q ?_
 all_goals (refine S.g rfl rfl fun Y Z => ?_; simp only [zb, simprocAttr, -Int.reduceNatCast', -Int.reduceToNat, tt, List.flatten_cons, List.flatten_nil, List.nil_append, List.map_nil]; refine ⟨rfl, (by simp), ?_⟩ <;> (refine Z _ _ ?_; clear Z Y))
 all_goals refine S.cl q1q (concat_frozen [[], []] (by simp) (by simp) htot) ?_
 all_goals refine S.one q1q ?_
 all_goals (refine S.g rfl rfl fun Y Z => ?_; simp only [zz, simprocAttr, -Int.reduceNatCast', -Int.reduceToNat, q1q]; refine ((clone_grow [] (by simp) (by simp)).to fun v σ1 hv => ?_); replace hv := hv.resolve_right (fun h => by obtain ⟨_, h, _⟩ := h; exact h rfl); obtain ⟨_, rfl, rfl⟩ := hv <;> (refine Z _ _ ?_; clear Z Y))
 all_goals iterate 2 refine S.one q1q ?_
 all_goals (refine S.nil ?_; simp only [ze, simprocAttr, q1q]; apply_assumption)
 refine AW.seq_k fun K5 h5 => ?_
 all_goals refine AW.region (T := { raw := fun d => d == 140 }) (fun _ _ h => by cases h) rfl ?_
 all_goals iterate 2 refine S.one trivial ?_
 all_goals refine S.cl trivial sort_nil ?_
 all_goals (refine S.nil ?_; simp only [ze, simprocAttr]; apply_assumption)
 refine AW.seq_k fun K6 h6 => ?_
 refine AW.seq_k fun K7 h7 => ?_
 all_goals refine AW.reg0 ?_
 all_goals refine S.one hpe ?_
 all_goals refine S.cl hpe (check_part [] hok) ?_
 all_goals refine S.one hpe ?_
 all_goals (refine S.nil ?_; simp only [ze, simprocAttr, hpe]; apply_assumption)
 refine AW.cd false (fun hc => by cases hc) (fun hc => AW.skip ?_)
 all_goals simp only [zs, simprocAttr]
 all_goals apply_assumption
 all_goals refine AW.sr trivial ?_
 refine AW.ret ?_
 all_goals simp only [zs, simprocAttr, qLoad, tt, cut, List.drop_zero, List.take_succ_cons, List.take_zero, List.map]
theorem bytesLess_eq' : ∀ (x y : List UInt8), Op.bytesLess x y = decide (x < y)
  | [], [] => by simp [Op.bytesLess]
  | _ :: _, [] => by simp [Op.bytesLess]
  | [], _ :: _ => by simp [Op.bytesLess]
  | a :: x, b :: y => by
    rw [Op.bytesLess, bytesLess_eq' x y]
    simp only [List.cons_lt_cons_iff]
    by_cases h1 : a < b <;> by_cases h2 : a = b <;> by_cases h3 : x < y <;> simp [h1, h2, h3]
theorem leS_iff (a b : ByteArray) : leS a b = true ↔ ¬ b.toList < a.toList := by
 simp only [leS, bytesLess_eq', Bool.or_eq_true, decide_eq_true_eq, beq_iff_eq]
 constructor
 ·rintro (h | h)
  ·exact List.lt_asymm h
  ·rw [h]; exact List.lt_irrefl _
 ·intro h
  have h : a.toList ≤ b.toList := h
  by_cases e : a.toList = b.toList
  ·exact .inr e
  ·rcases List.le_iff_lt_or_eq.1 h with h | h
   ·exact .inl h
   ·exact absurd h e
theorem leS_false (a b : ByteArray) : leS a b = false ↔ b.toList < a.toList := by
 rw [← Bool.not_eq_true, leS_iff, Decidable.not_not]
theorem leS_trans {a b c : ByteArray} (h : leS a b = true) (k : leS b c = true) : leS a c = true := by
 rw [leS_iff] at *
 exact List.le_trans (show a.toList ≤ b.toList from h) (show b.toList ≤ c.toList from k)
theorem leS_total {a b : ByteArray} (h : leS a b = false) : leS b a = true := by
 rw [leS_false] at h; rw [leS_iff]; exact List.lt_asymm h
theorem cmpS_neg (a b : ByteArray) : cmpS a b < 0 ↔ leS b a = false := by
 rw [leS_false]
 unfold cmpS
 rw [bytesLess_eq']
 by_cases h : a.toList < b.toList
 ·simp [h]
 ·simp only [h, decide_false, Bool.false_eq_true, if_false, Bool.false_or, iff_false]
  split <;> omega
def insL : List Bd → Bd → List Bd
  | [], y => [y]
  | x :: p, y => if leS x.var y.var = true then x :: insL p y else y :: x :: p
def Srt : List Bd → Prop
  | [] => True
  | x :: p => (∀ y ∈ p, leS x.var y.var = true) ∧ Srt p
theorem Srt.append {p q : List Bd} (h : Srt (p ++ q)) : Srt p ∧ Srt q ∧ ∀ x ∈ p, ∀ y ∈ q, leS x.var y.var = true := by
  induction p with
  | nil => exact ⟨trivial, h, fun x hx => by cases hx⟩
  | cons x p ih =>
    obtain ⟨h1, h2⟩ := h
    obtain ⟨a, b, c⟩ := ih h2
    refine ⟨⟨fun y hy => h1 y (List.mem_append_left _ hy), a⟩, b, fun z hz y hy => ?_⟩
    rcases List.mem_cons.1 hz with rfl | hz
    · exact h1 y (List.mem_append_right _ hy)
    · exact c z hz y hy
theorem insL_end {p : List Bd} {y : Bd} (h : ∀ x ∈ p, leS x.var y.var = true) : insL p y = p ++ [y] := by
 induction p with
 | nil => rfl
 | cons x p ih => simp only [insL]; rw [if_pos (h x List.mem_cons_self), ih (fun z hz => h z (List.mem_cons_of_mem _ hz))]; rfl
theorem insL_last {q : List Bd} {z y : Bd} (h : leS z.var y.var = false) : insL (q ++ [z]) y = insL q y ++ [z] := by
  induction q with
  | nil => simp [insL, h]
  | cons x q ih =>
    simp only [List.cons_append, insL]
    split
    · rw [ih]; rfl
    · rfl
theorem insL_mem {p : List Bd} {y z : Bd} : z ∈ insL p y ↔ z = y ∨ z ∈ p := by
  induction p with
  | nil => simp [insL]
  | cons x p ih =>
    simp only [insL]
    split
    · simp only [List.mem_cons, ih]
      constructor
      · rintro (h | h | h) <;> simp [h]
      · rintro (h | h | h) <;> simp [h]
    · simp only [List.mem_cons]
theorem insL_len (p : List Bd) (y : Bd) : (insL p y).length = p.length + 1 := by
 induction p with
 | nil => rfl
 | cons x p ih => simp only [insL]; split <;> simp [ih]
theorem insL_srt {p : List Bd} {y : Bd} (h : Srt p) : Srt (insL p y) := by
  induction p with
  | nil => exact ⟨(fun _ h => by cases h), trivial⟩
  | cons x p ih =>
    simp only [insL]
    split
    · rename_i hxy
      refine ⟨fun z hz => ?_, ih h.2⟩
      rcases insL_mem.1 hz with rfl | hz
      · exact hxy
      · exact h.1 z hz
    · rename_i hxy
      have hyx := leS_total (by simpa using hxy)
      refine ⟨fun z hz => ?_, h⟩
      rcases List.mem_cons.1 hz with rfl | hz
      · exact hyx
      · exact leS_trans hyx (h.1 z hz)
theorem sink_ins : ∀ (n : Nat) (p : List Bd) (y : Bd) (r : List Bd), p.length = n → Srt p → sink 0 n (p ++ y :: r) = insL p y ++ r := by
  intro n
  induction n with
  | zero => intro p y r hp _; rw [List.eq_nil_of_length_eq_zero hp]; rfl
  | succ n ih =>
    intro p y r hp hs
    obtain ⟨q, z, rfl⟩ : ∃ q z, p = q ++ [z] := by
      refine ⟨p.dropLast, p.getLast (by intro e; simp [e] at hp), ?_⟩
      exact (List.dropLast_concat_getLast _).symm
    have hq : q.length = n := by simpa using hp
    have g1 : (q ++ [z] ++ y :: r)[n + 1]? = some y := by simp [hq]
    have g2 : (q ++ [z] ++ y :: r)[n]? = some z := by simp [hq]
    simp only [sink, g1, g2]
    obtain ⟨hs1, hs2, hs3⟩ := hs.append
    by_cases hlt : cmpS y.var z.var < 0
    · rw [if_pos ⟨by omega, hlt⟩]
      have e : ((q ++ [z] ++ y :: r).set (n + 1) z).set n y = q ++ y :: (z :: r) := by
        subst hq
        simp
      rw [e, ih q y (z :: r) hq hs1, insL_last ((cmpS_neg _ _).1 hlt)]
      simp
    · rw [if_neg (fun h => hlt h.2)]
      have hzy : leS z.var y.var = true := by
        cases h : leS z.var y.var
        · exact absurd ((cmpS_neg _ _).2 h) hlt
        · rfl
      rw [insL_end (fun x hx => ?_)]
      · simp
      · rcases List.mem_append.1 hx with h | h
        · exact leS_trans (hs3 x h z (by simp)) hzy
        · simp at h; rw [h]; exact hzy
theorem insFrom_ins : ∀ (bs p r : List Bd), Srt p → insFrom 0 (p ++ (bs ++ r)) p.length bs.length = bs.foldl insL p ++ r := by
  intro bs
  induction bs with
  | nil => intro p r _; rfl
  | cons y bs ih =>
    intro p r hs
    have h := ih (insL p y) r (insL_srt hs)
    rw [insL_len] at h
    simp only [List.length_cons, insFrom, List.range'_succ, List.foldl_cons] at h ⊢
    rw [List.cons_append, sink_ins p.length p y (bs ++ r) rfl hs]
    exact h
theorem insort_eq (l : List Bd) : insort 0 l.length l = l.foldl insL [] := by
  cases l with
  | nil => rfl
  | cons x l =>
    have h := insFrom_ins l [x] [] ⟨(fun _ h => by cases h), trivial⟩
    simpa [insort, insL] using h
theorem foldl_skip {x : Bd} : ∀ {b a : List Bd}, (∀ y ∈ b, leS x.var y.var = true) → b.foldl insL (x :: a) = x :: b.foldl insL a := by
  intro b
  induction b with
  | nil => intro a _; rfl
  | cons y b ih =>
    intro a h
    simp only [List.foldl_cons, insL]
    rw [if_pos (h y List.mem_cons_self), ih (fun z hz => h z (List.mem_cons_of_mem _ hz))]
theorem foldl_srt : ∀ {b : List Bd}, Srt b → b.foldl insL [] = b := by
  intro b
  induction b with
  | nil => intro _; rfl
  | cons y b ih =>
    intro h
    simp only [List.foldl_cons, insL]
    rw [foldl_skip h.1, ih h.2]
theorem foldl_mrg (a b : List Bd) : Srt a → Srt b → b.foldl insL a = mrg a b := by
 fun_induction mrg a b
 ·intro _ hb; exact foldl_srt hb
 ·intro _ _; rfl
 ·rename_i x a y b hxy ih
  intro ha hb
  rw [foldl_skip, ih ha.2 hb]
  intro z hz
  rcases List.mem_cons.1 hz with rfl | hz
  ·exact hxy
  ·exact leS_trans hxy (hb.1 z hz)
 ·rename_i x a y b hxy ih
  intro ha hb
  rw [List.foldl_cons, insL, if_neg hxy, foldl_skip hb.1, ih ha hb.2]
theorem insort_mrg (a b : List Bd) (ha : Srt a) (hb : Srt b) : insort 0 (a ++ b).length (a ++ b) = mrg a b := by
 rw [insort_eq, List.foldl_append, foldl_srt ha, foldl_mrg a b ha hb]
theorem partFrom_srt (n : Nat) : ∀ (l : List Bd) (p : Option ByteArray) (sn : List (Int × Int)), partFrom n p sn l = 0 → Srt l ∧ ∀ q, p = some q → ∀ x ∈ l, leS q x.var = true := by
  intro l
  induction l with
  | nil => intro p sn _; exact ⟨trivial, fun _ _ _ h => by cases h⟩
  | cons x l ih =>
    intro p sn h
    simp only [partFrom] at h
    split at h
    · cases h
    · rename_i hx
      split at h
      · rename_i h1; exact absurd h h1
      · obtain ⟨h1, h2⟩ := ih _ _ h
        refine ⟨⟨fun y hy => h2 _ rfl y hy, h1⟩, fun q hq y hy => ?_⟩
        subst hq
        have hqx : leS q x.var = true := by
          cases e : leS x.var q
          · exact leS_total e
          · exact absurd (.inr (.inl (by simpa using e))) hx
        rcases List.mem_cons.1 hy with rfl | hy
        · exact hqx
        · exact leS_trans hqx (h2 _ rfl y hy)
theorem part_srt {l : List Bd} (h : partErr l = 0) : Srt l := by
 unfold partErr at h
 split at h
 ·cases h
 ·exact (partFrom_srt _ l none [] h).1
theorem merge_spec (a b : List Bd) (ha : okP a) (hb : okP b) (hat : ∀ x ∈ a ++ b, x.ev.attrs.length * 48 ≤ 140737488355328) :
  PCalls Tryz.prog 106 [.agg [.sl (a.map encBd)], .agg [.sl (b.map encBd)]] (fun v => v = mergeV a b (mrg a b)) := by
 have hab : okP (a ++ b) := fun x hx => by
  rcases List.mem_append.1 hx with h | h
  ·exact ha x h
  ·exact hb x h
 by_cases h0 : a ++ b = []
 ·obtain ⟨rfl, rfl⟩ := List.append_eq_nil_iff.1 h0
  exact merge_nil.mono fun v h => by rw [h]; rw [mergeV, if_neg (by decide), mrg, if_neg (by decide)]; rfl
 by_cases hl : (a ++ b).length < 20
 ·refine (merge_gen a b ha hb hat (fun p => p = mrg a b) ⟨_, rfl⟩ h0 fun hx k => (sort_small (a ++ b) k hl).mono fun v σ' h => ⟨h.1, _, ?_, ?_, h.2⟩).mono fun v h => ?_
  ·intro x hx
   exact hab x ((insort_sub _ _ _).2 x hx)
  ·exact insort_mrg a b (part_srt (Decidable.not_not.1 fun h => hx (.inl h))) (part_srt (Decidable.not_not.1 fun h => hx (.inr h)))
  ·obtain ⟨p, rfl, rfl⟩ := h; rfl
 ·refine (merge_gen a b ha hb hat (fun p => 12 < p.length) ⟨a ++ b, by omega⟩ h0 fun hx k => ?_).mono fun v h => ?_
  ·have h1 : a.length ≤ 12 := by
    by_cases h : 12 < a.length
    ·exact absurd (.inl (by simp [partErr, h])) hx
    ·omega
   have h2 : b.length ≤ 12 := by
    by_cases h : 12 < b.length
    ·exact absurd (.inr (by simp [partErr, h])) hx
    ·omega
   refine (sort_weak (a ++ b) k (by rw [List.length_append]; omega)).mono fun v σ' h => ?_
   obtain ⟨h3, p, hp, h4⟩ := h
   exact ⟨h3, p, fun x hx => hab x (hp.2 x hx), by rw [hp.1]; omega, h4⟩
  ·obtain ⟨p, hp, rfl⟩ := h
   have h1 : partErr p ≠ 0 := by simp [partErr, hp]
   have hm := mrg_len a b
   rw [List.length_append] at hl
   have h2 : partErr (mrg a b) ≠ 0 := by simp [partErr, show 12 < (mrg a b).length by omega]
   rw [mergeV, mergeV, if_pos h1, if_pos h2]
theorem ba_list (x : UInt8) : (ByteArray.mk #[x]).toList = [x] := by simp
theorem leS_one (x y : UInt8) : leS ⟨#[x]⟩ ⟨#[y]⟩ = (decide (x < y) || x == y) := by
 simp only [leS, ba_list, Op.bytesLess]
 by_cases h : x < y <;> by_cases k : x = y <;> simp [h, k]
theorem allEq_refl {α : Type} {f : α → α → Bool} (h : ∀ x, f x x = true) : ∀ l : List α, allEq f l l = true
 | [] => rfl
 | x :: l => by simp [allEq, h, allEq_refl h l]
theorem eqAttr_refl (a : Attr) : eqAttr a a = true := by simp [eqAttr]
theorem eqEv_refl (a : Ev) : eqEv a a = true := by simp [eqEv, allEq_refl eqAttr_refl]
theorem eqBd_refl (a : Bd) : eqBd a a = true := by simp [eqBd, eqEv_refl]
structure okI (l : List Bd) : Prop where
  ok : okP l
  attrs : ∀ x ∈ l, x.ev.attrs.length * 48 ≤ 140737488355328
  len : l.length * 80 ≤ 140737488355328
def Aft (x y : Bd) : Prop := leS y.var x.var = false ∧ idOf x ≠ idOf y
theorem partFrom_iff (n : Nat) : ∀ (l : List Bd) (p : Option ByteArray) (sn : List (Int × Int)), partFrom n p sn l = 0 ↔
    (∀ b ∈ l, named n b = true ∧ evErr b.ev = 0 ∧ idOf b ∉ sn) ∧ l.Pairwise Aft ∧ (∀ q, p = some q → ∀ b ∈ l, leS b.var q = false) := by
  intro l
  induction l with
  | nil => intro p sn; simp [partFrom]
  | cons b l ih =>
    intro p sn
    have hid : idOf b = (b.ev.src, b.ev.seq) := rfl
    constructor
    · intro h
      simp only [partFrom] at h
      split at h
      · cases h
      · rename_i hx
        split at h
        · rename_i h1; exact absurd h h1
        · rename_i he
          have he : evErr b.ev = 0 := Decidable.not_not.1 he
          obtain ⟨h1, h2, h3⟩ := (ih _ _).1 h
          have hnm : named n b = true := by
            cases e : named n b
            · exact absurd (.inl e) hx
            · rfl
          have hsn : idOf b ∉ sn := fun e => hx (.inr (.inr (by rw [← hid]; exact e)))
          have hq : ∀ q, p = some q → leS b.var q = false := fun q hq => by
            subst hq
            cases e : leS b.var q
            · rfl
            · exact absurd (.inr (.inl (by simpa using e))) hx
          refine ⟨fun y hy => ?_, List.pairwise_cons.2 ⟨fun y hy => ⟨h3 _ rfl y hy, fun e => ?_⟩, h2⟩, fun q hpq y hy => ?_⟩
          · rcases List.mem_cons.1 hy with rfl | hy
            · exact ⟨hnm, he, hsn⟩
            · obtain ⟨a1, a2, a3⟩ := h1 y hy
              exact ⟨a1, a2, fun e => a3 (List.mem_append_left _ e)⟩
          · exact (h1 y hy).2.2 (by rw [← e, hid]; simp)
          · rcases List.mem_cons.1 hy with rfl | hy
            · exact hq q hpq
            · cases e : leS y.var q
              · rfl
              · have := leS_trans e (leS_total (hq q hpq))
                rw [h3 _ rfl y hy] at this; cases this
    · rintro ⟨h1, h2, h3⟩
      obtain ⟨a1, a2, a3⟩ := h1 b List.mem_cons_self
      obtain ⟨b1, b2⟩ := List.pairwise_cons.1 h2
      simp only [partFrom]
      rw [if_neg, if_neg (by rw [a2]; simp)]
      · refine (ih _ _).2 ⟨fun y hy => ?_, b2, fun q hq y hy => ?_⟩
        · obtain ⟨c1, c2, c3⟩ := h1 y (List.mem_cons_of_mem _ hy)
          refine ⟨c1, c2, fun e => ?_⟩
          rcases List.mem_append.1 e with e | e
          · exact c3 e
          · exact (b1 y hy).2 (by rw [hid]; simpa using (List.mem_singleton.1 e).symm)
        · cases hq; exact (b1 y hy).1
      · rintro (e | e | e)
        · rw [a1] at e; cases e
        · cases p with
          | none => simp at e
          | some q => simp at e; rw [h3 q rfl b List.mem_cons_self] at e; cases e
        · exact a3 (by rw [hid]; exact e)
theorem part_iff (l : List Bd) : partErr l = 0 ↔ l.length ≤ 12 ∧ (∀ b ∈ l, named l.length b = true ∧ evErr b.ev = 0) ∧ l.Pairwise Aft := by
 unfold partErr
 split
 ·simp; omega
 ·rw [partFrom_iff]
  simp
  omega
theorem mrg_perm (a b : List Bd) : (mrg a b).Perm (a ++ b) := by
 fun_induction mrg a b
 ·exact .refl _
 ·simp
 ·rename_i ih; exact .cons _ ih
 ·rename_i x a y b _ ih
  exact (List.Perm.cons y ih).trans List.perm_middle.symm
def mg (a b : List Bd) : Option (List Bd) := if partErr a = 0 ∧ partErr b = 0 ∧ partErr (mrg a b) = 0 then some (mrg a b) else none
def optV : Option (List Bd) → V
  | none => noPart
  | some p => .tup [.agg [.sl (p.map encBd)], .c (.bool true)]
theorem mergeV_eq (a b : List Bd) : mergeV a b (mrg a b) = optV (mg a b) := by
 unfold mergeV mg
 by_cases h1 : partErr a = 0 <;> by_cases h2 : partErr b = 0 <;> by_cases h3 : partErr (mrg a b) = 0 <;> simp [h1, h2, h3, optV]
theorem part_sub {p q : List Bd} (hp : partErr p = 0) (hs : Srt q) (hq : ∃ r, p.Perm (q ++ r)) : partErr q = 0 := by
  obtain ⟨r, hr⟩ := hq
  obtain ⟨h1, h2, h3⟩ := (part_iff p).1 hp
  have hl : p.length = q.length + r.length := by rw [hr.length_eq, List.length_append]
  refine (part_iff q).2 ⟨by omega, fun b hb => ?_, ?_⟩
  · obtain ⟨k1, k2⟩ := h2 b (hr.symm.subset (List.mem_append_left _ hb))
    refine ⟨?_, k2⟩
    unfold named at k1 ⊢
    simp only [Bool.or_eq_true, decide_eq_true_eq] at k1 ⊢
    rcases k1 with k | ⟨k, kn⟩
    · exact .inl k
    · have : 0 < q.length := List.length_pos_of_mem hb
      exact .inr ⟨k, by omega⟩
  · have h4 : p.Pairwise (fun x y => (leS x.var y.var = false ∨ leS y.var x.var = false) ∧ idOf x ≠ idOf y) := h3.imp fun k => ⟨.inr k.1, k.2⟩
    have h5 := (hr.pairwise_iff (fun {x y} k => ⟨k.1.symm, fun e => k.2 e.symm⟩)).1 h4
    have h6 := (List.pairwise_append.1 h5).1
    clear h5 h4 h3 hr h2 h1 hl hp
    induction q with
    | nil => exact .nil
    | cons x q ih =>
      obtain ⟨a1, a2⟩ := List.pairwise_cons.1 h6
      refine List.pairwise_cons.2 ⟨fun y hy => ?_, ih hs.2 a2⟩
      obtain ⟨b1, b2⟩ := a1 y hy
      refine ⟨?_, b2⟩
      rcases b1 with b | b
      · rw [hs.1 y hy] at b; cases b
      · exact b
theorem mg_some {a b p : List Bd} (h : mg a b = some p) : partErr a = 0 ∧ partErr b = 0 ∧ partErr p = 0 ∧ p = mrg a b := by
 unfold mg at h
 split at h
 ·rename_i hc; cases h; exact ⟨hc.1, hc.2.1, hc.2.2, rfl⟩
 ·cases h
def optL : Option (List Bd) → List Bd
  | none => []
  | some p => p
def optB : Option (List Bd) → Bool
  | none => false
  | some _ => true
theorem optV_eq (o : Option (List Bd)) : optV o = .tup [.agg [.sl ((optL o).map encBd)], .c (.bool (optB o))] := by cases o <;> rfl
structure okM (l : List Bd) : Prop where
  ok : okP l
  attrs : ∀ x ∈ l, x.ev.attrs.length * 48 ≤ 140737488355328
theorem okI.m {l : List Bd} (h : okI l) : okM l := ⟨h.ok, h.attrs⟩
theorem okM.mrg {a b : List Bd} (ha : okM a) (hb : okM b) : okM (mrg a b) := by
 refine ⟨fun x hx => ?_, fun x hx => ?_⟩ <;> rcases List.mem_append.1 (mrg_mem a b x hx) with h | h
 ·exact ha.ok x h
 ·exact hb.ok x h
 ·exact ha.attrs x h
 ·exact hb.attrs x h
theorem okM.mg {a b : List Bd} (ha : okM a) (hb : okM b) : okM (optL (mg a b)) := by
 cases h : Abs.M.mg a b with
 | none => exact ⟨(fun _ h => by cases h), (fun _ h => by cases h)⟩
 | some p => obtain ⟨_, _, _, rfl⟩ := mg_some h; exact ha.mrg hb
theorem mergeC {a b : List Bd} (ha : okM a) (hb : okM b) : PCalls Tryz.prog 106 [.agg [.sl (a.map encBd)], .agg [.sl (b.map encBd)]] (fun v => v = .tup [.agg [.sl ((optL (mg a b)).map encBd)], .c (.bool (optB (mg a b)))]) :=
 (merge_spec a b ha.ok hb.ok (fun x hx => by
  rcases List.mem_append.1 hx with h | h
  ·exact ha.attrs x h
  ·exact hb.attrs x h)).mono fun v h => by rw [h, mergeV_eq, optV_eq]
def cmpI (a b : Int) : Int := if a < b then -1 else if b < a then 1 else 0
theorem isnan_int (a : Int) : PCalls Tryz.prog 184 [.c (.int .i64 a)] (fun v => v = .c (.bool false)) := by
 refine PCalls.intro Tryz.call184 Tryz.func184 rfl Tryz.ntmps184 Tryz.results184 (by simp) ?_
 refine AW.sr trivial ?_
 refine AW.sr trivial ?_
 refine AW.ret ?_
 simp only [zs, simprocAttr]
 simp
theorem compare_int (a b : Int) : PCalls Tryz.prog 168 [.c (.int .i64 a), .c (.int .i64 b)] (fun v => v = .c (.int .i64 (cmpI a b))) := by
 refine PCalls.intro Tryz.call168 Tryz.func168 rfl Tryz.ntmps168 Tryz.results168 (by simp) ?_
 refine AW.sr trivial ?_
 refine AW.seq_k fun K2 h2 => ?_
 refine AW.reg0 ?_
 refine S.one trivial ?_
 refine S.cl trivial (isnan_int _) ?_
 all_goals refine S.one trivial ?_
 all_goals (refine S.nil ?_; simp only [ze, simprocAttr]; apply_assumption)
 refine AW.seq_k fun K3 h3 => ?_
 all_goals refine AW.reg0 ?_
 all_goals refine S.one trivial ?_
 all_goals refine S.cl trivial (isnan_int _) ?_
 all_goals refine S.one trivial ?_
 all_goals (refine S.nil ?_; simp only [ze, simprocAttr]; apply_assumption)
 refine AW.seq_k fun K4 h4 => ?_
 all_goals refine AW.sr trivial ?_
 refine AW.cd false (fun hc => by cases hc) (fun hc => AW.skip ?_)
 all_goals simp only [zs, simprocAttr]
 all_goals apply_assumption
 refine AW.seq_k fun K6 h6 => ?_
 all_goals refine AW.sr trivial ?_
 refine AW.cd false (fun hc => by cases hc) (fun hc => AW.skip ?_)
 all_goals simp only [zs, simprocAttr]
 all_goals apply_assumption
 refine AW.seq_k fun K8 h8 => ?_
 all_goals refine AW.sr trivial ?_
 refine AW.cd (decide (a < b)) (fun hc => ?_) (fun hc => ?_)
 ·have hc := of_decide_eq_true hc
  refine AW.sr trivial ?_
  refine AW.ret ?_
  simp only [zs, simprocAttr]
  simp [cmpI, hc]
 ·have hc := of_decide_eq_false hc
  refine AW.skip ?_
  simp only [zs, simprocAttr]
  all_goals apply_assumption
  refine AW.seq_k fun K11 h11 => ?_
  refine AW.sr trivial ?_
  refine AW.cd (decide (a > b)) (fun hd => ?_) (fun hd => ?_)
  ·have hd := of_decide_eq_true hd
   refine AW.sr trivial ?_
   refine AW.ret ?_
   simp only [zs, simprocAttr]
   rw [cmpI, if_neg hc, if_pos hd]
  ·have hd := of_decide_eq_false hd
   refine AW.skip ?_
   simp only [zs, simprocAttr]
   all_goals apply_assumption
   refine AW.sr trivial ?_
   refine AW.ret ?_
   simp only [zs, simprocAttr]
   rw [cmpI, if_neg hc, if_neg hd]
theorem isnan_i64 (a : Int) : PCalls Tryz.prog 185 [.c (.int .i64 a)] (fun v => v = .c (.bool false)) := by
 refine PCalls.intro Tryz.call185 Tryz.func185 rfl Tryz.ntmps185 Tryz.results185 (by simp) ?_
 refine AW.sr trivial ?_
 refine AW.sr trivial ?_
 refine AW.ret ?_
 simp only [zs, simprocAttr]
 simp
theorem compare_i64 (a b : Int) : PCalls Tryz.prog 169 [.c (.int .i64 a), .c (.int .i64 b)] (fun v => v = .c (.int .i64 (cmpI a b))) := by
 refine PCalls.intro Tryz.call169 Tryz.func169 rfl Tryz.ntmps169 Tryz.results169 (by simp) ?_
 refine AW.sr trivial ?_
 refine AW.seq_k fun K2 h2 => ?_
 refine AW.reg0 ?_
 refine S.one trivial ?_
 refine S.cl trivial (isnan_i64 _) ?_
 all_goals refine S.one trivial ?_
 all_goals (refine S.nil ?_; simp only [ze, simprocAttr]; apply_assumption)
 refine AW.seq_k fun K3 h3 => ?_
 all_goals refine AW.reg0 ?_
 all_goals refine S.one trivial ?_
 all_goals refine S.cl trivial (isnan_i64 _) ?_
 all_goals refine S.one trivial ?_
 all_goals (refine S.nil ?_; simp only [ze, simprocAttr]; apply_assumption)
 refine AW.seq_k fun K4 h4 => ?_
 all_goals refine AW.sr trivial ?_
 refine AW.cd false (fun hc => by cases hc) (fun hc => AW.skip ?_)
 all_goals simp only [zs, simprocAttr]
 all_goals apply_assumption
 refine AW.seq_k fun K6 h6 => ?_
 all_goals refine AW.sr trivial ?_
 refine AW.cd false (fun hc => by cases hc) (fun hc => AW.skip ?_)
 all_goals simp only [zs, simprocAttr]
 all_goals apply_assumption
 refine AW.seq_k fun K8 h8 => ?_
 all_goals refine AW.sr trivial ?_
 refine AW.cd (decide (a < b)) (fun hc => ?_) (fun hc => ?_)
 ·have hc := of_decide_eq_true hc
  refine AW.sr trivial ?_
  refine AW.ret ?_
  simp only [zs, simprocAttr]
  simp [cmpI, hc]
 ·have hc := of_decide_eq_false hc
  refine AW.skip ?_
  simp only [zs, simprocAttr]
  all_goals apply_assumption
  refine AW.seq_k fun K11 h11 => ?_
  refine AW.sr trivial ?_
  refine AW.cd (decide (a > b)) (fun hd => ?_) (fun hd => ?_)
  ·have hd := of_decide_eq_true hd
   refine AW.sr trivial ?_
   refine AW.ret ?_
   simp only [zs, simprocAttr]
   rw [cmpI, if_neg hc, if_pos hd]
  ·have hd := of_decide_eq_false hd
   refine AW.skip ?_
   simp only [zs, simprocAttr]
   all_goals apply_assumption
   refine AW.sr trivial ?_
   refine AW.ret ?_
   simp only [zs, simprocAttr]
   rw [cmpI, if_neg hc, if_neg hd]
def orI : List Int → Int
  | [] => 0
  | a :: l => if a ≠ 0 then a else orI l
theorem or_spec (l : List Int) (hl : l.length < 4611686018427387904) : PCalls Tryz.prog 135 [.sl (l.map encI)] (fun v => v = .c (.int .i64 (orI l))) := by
 refine PCalls.intro Tryz.call135 Tryz.func135 rfl Tryz.ntmps135 Tryz.results135 (by simp) ?_
 refine AW.sr trivial ?_
 refine AW.sr trivial ?_
 refine AW.seq_k fun K3 h3 => ?_
 refine AW.sr trivial ?_
 refine AW.block ?_   -- 0
 refine AW.loop (fun m s σ => σ = Hp.empty ∧ ∃ i : Nat, m + i = l.length ∧ s.t 3 = .c (.int .i64 0) ∧ s.t 6 = .sl (l.map encI) ∧ s.t 7 = .c (.int .i64 l.length) ∧ s.t 8 = .c (.int .i64 i) ∧ orI l = orI (l.drop i)) l.length ?_ ?_
 ·refine ⟨rfl, 0, by simp, ?_⟩
  simp only [zs, simprocAttr]
  simp
 rintro m s σ ⟨rfl, i, hm, e3, e6, e7, e8, hp⟩
 all_goals refine AW.sr (J2 e7 e8) ?_
 refine AW.seq_k fun K6 h6 => ?_
 refine AW.cd (decide (i < l.length)) (fun hc => ?_) (fun hc => ?_)
 ·refine AW.skip ?_
  simp only [zs, simprocAttr]
  all_goals apply_assumption
  have hi : i < l.length := by simpa using hc
  have hg := getD_map (f := encI) hi
  have hd : l.drop i = l[i] :: l.drop (i + 1) := List.drop_eq_getElem_cons hi
  generalize ha : l[i] = a at hg hd
  have hw : IntKind.i64.wrap ((i : Int) + 1) = ((i + 1 : Nat) : Int) := by rw [wrap_small _ (by omega) (by omega)]; rfl
  rw [hd, orI] at hp
  refine AW.seq_k fun K7 h7 => ?_
  refine AW.block ?_   -- 1
  refine AW.sr (J5 e6 e8 hi hg @encI.eq_1) ?_
  refine AW.sr e3 ?_
  refine AW.cd (a != 0) (fun hx => ?_) (fun hx => ?_)
  ·have hx : a ≠ 0 := by simpa using hx
   refine AW.sr trivial ?_
   refine AW.ret ?_
   simp only [zs, simprocAttr]
   rw [hp, if_pos hx]
  ·have hx : ¬ a ≠ 0 := by simpa using hx
   rw [if_neg hx] at hp
   refine AW.skip ?_
   simp only [zs, simprocAttr]
   all_goals apply_assumption
   refine AW.reg0 (S.rn (J2 e8 hw) ?_)
   simp only [ze, simprocAttr, e8, hw]
   exact ⟨m - 1, by omega, i + 1, by omega, e3, e6, e7, rfl, hp⟩
 ·refine AW.exit ?_
  simp only [zs, simprocAttr]
  all_goals apply_assumption
  have hi : l.length ≤ i := by simpa using hc
  refine AW.sr e3 ?_
  refine AW.ret ?_
  simp only [zs, simprocAttr]
  rw [hp, List.drop_of_length_le hi]; rfl
def encId (p : Int × Int) : List V := [.c (.int .i64 p.1), .c (.int .i64 p.2)]
def cmpId (a b : Int × Int) : Int := orI [cmpI a.1 b.1, cmpI a.2 b.2]
theorem compare_id (a b : Int × Int) : PCalls Tryz.prog 137 [.agg (encId a), .agg (encId b)] (fun v => v = .c (.int .i64 (cmpId a b))) := by
 refine PCalls.intro Tryz.call137 Tryz.func137 rfl Tryz.ntmps137 Tryz.results137 (by simp) ?_
 refine AW.sr @encId.eq_1 ?_
 refine AW.seq_k fun K2 h2 => ?_
 refine AW.dv { sd := fun d => d == 2 || d == 3 } [(0,0),(2,0),(5,0),(7,0),(1,1),(3,1),(6,1),(8,1),(4,2),(9,2),(10,2),(11,2),(12,0)] ?_
 iterate 4 refine D.one trivial ?_
 iterate 4 refine D.one trivial ?_
 refine D.cl trivial (compare_int _ _) ?_
 all_goals refine D.cl trivial (compare_i64 _ _) ?_
 all_goals (refine D.g rfl trivial rfl rfl fun Y Z => ?_; simp only [zb, simprocAttr, -Int.reduceNatCast', -Int.reduceToNat, tt]; refine ⟨rfl, (by simp), ?_⟩ <;> (refine Z _ _ ?_; clear Z Y))
 all_goals refine D.cl trivial (or_spec [cmpI a.1 b.1, cmpI a.2 b.2] (by simp)) ?_
 all_goals refine D.one trivial ?_
 all_goals (refine D.nil ?_; apply_assumption)
 refine AW.ret ?_
 all_goals simp only [zs, simprocAttr]
 all_goals rfl
theorem cmpId_eq (a b : Int × Int) : (if a.1 < b.1 ∨ a.1 = b.1 ∧ a.2 < b.2 then -1 else if a = b then 0 else 1) = cmpId a b := by
 obtain ⟨a1, a2⟩ := a
 obtain ⟨b1, b2⟩ := b
 simp only [cmpId, orI, cmpI, Prod.mk.injEq]
 by_cases h1 : a1 < b1
 ·simp [h1]
 ·by_cases h2 : b1 < a1
  ·have : a1 ≠ b1 := by omega
   simp [h1, h2, this]
  ·have : a1 = b1 := by omega
   subst this
   by_cases h3 : a2 < b2
   ·simp [h3]
   ·by_cases h4 : b2 < a2
    ·have : a2 ≠ b2 := by omega
     simp [h3, h4, this]
    ·have : a2 = b2 := by omega
     subst this; simp
theorem rcompare_id (a b : Int × Int) : PCalls Tryz.prog 143 [.agg (encId a), .agg (encId b)] (fun v => v = .c (.int .i64 (cmpId a b))) := by
 refine PCalls.intro Tryz.call143 Tryz.func143 rfl Tryz.ntmps143 Tryz.results143 (by simp) ?_
 refine AW.sr @encId.eq_1 ?_
 refine AW.seq_k fun K2 h2 => ?_
 refine AW.block ?_   -- 0
 refine AW.seq_j (fun s' σ' => σ' = Hp.empty ∧ s'.t 2 = .lp 2 0 ∧ s'.l 2 = some [.c (.int .i64 a.1), .c (.int .i64 a.2)] ∧ s'.t 3 = .lp 3 0 ∧ s'.l 3 = some [.c (.int .i64 b.1), .c (.int .i64 b.2)] ∧ s'.t 5 = .c (.bool (decide (a.1 < b.1 ∨ a.1 = b.1 ∧ a.2 < b.2)))) ?_ ?_
 ·skip
  refine AW.reg0 ?_
  iterate 4 refine S.one trivial ?_
  (refine S.sp trivial fun b a10 => ?_; cases b <;> (try exact nope a10))
  all_goals iterate 5 refine S.one trivial ?_
  all_goals (first | (refine S.sp trivial fun b a16 => ?_; cases b <;> (try exact nope a16)) | refine S.one trivial ?_)
  all_goals iterate 9 refine S.one trivial ?_
  all_goals refine S.nil ?_
  all_goals simp only [ze, simprocAttr]
  all_goals (try simp only [bl] at *)
  all_goals (try simp only [V.c.injEq, Value.bool.injEq, Value.int.injEq, true_and])
  all_goals exact shut
 rintro s σ ⟨rfl, e2, l2, e3, l3, e5⟩
 refine AW.cond (b := _) e5 (fun hc => ?_) (fun hc => ?_)
 ·have hc := of_decide_eq_true hc
  refine AW.sr trivial ?_
  refine AW.ret ?_
  simp only [zs, simprocAttr]
  rw [← cmpId_eq, if_pos hc]
 ·have hc := of_decide_eq_false hc
  refine AW.seq_k fun K4 h4 => ?_
  refine AW.region (T := { eqk := eqTab }) (eqTab_ok) rfl ?_
  iterate 4 refine S.one (J12 @eqk45 @fitsAll.eq_1 @fitsAll.eq_2 @fitsAll.eq_3 @SK.fits.eq_1 @SK.fits.eq_2 @SK.fits.eq_3 @SK.fits.eq_4 @cellsEq.eq_1 @cellsEq.eq_2 @cellsEq.eq_3 (J8 @cellEq.eq_1 @cellEq.eq_2 @cellEq.eq_3 @cellEq.eq_4 e2 l2 e3 l3)) ?_
  (refine S.nil ?_; simp only [ze, simprocAttr, e2, l2, e3, l3]; apply_assumption)
  refine AW.cond (b := decide (a = b)) (by simp [ev, Prod.ext_iff]; rfl) (fun hd => ?_) (fun hd => ?_)
  ·have hd := of_decide_eq_true hd
   refine AW.sr trivial ?_
   refine AW.ret ?_
   simp only [zs, simprocAttr]
   rw [← cmpId_eq, if_neg hc, if_pos hd]
  ·have hd := of_decide_eq_false hd
   refine AW.skip ?_
   simp only [zs, simprocAttr]
   all_goals apply_assumption
   refine AW.sr trivial ?_
   refine AW.ret ?_
   simp only [zs, simprocAttr]
   rw [← cmpId_eq, if_neg hc, if_neg hd]
def cmpV (a b : Val) : Int × Bool := if a.kind = 1 ∧ b.kind = 1 then (cmpI a.n b.n, true) else if a.kind = 2 ∧ b.kind = 2 then (cmpS a.s b.s, true) else (0, false)
def someV (a : Val) : Bool := decide (a.kind = 1 ∨ a.kind = 2)
def relB (rel n : Int) : Bool := if rel = 1 then n == 0 else if rel = 2 then !(n == 0) else if rel = 3 then decide (n < 0) else if rel = 4 then decide (n ≤ 0) else if rel = 5 then decide (n > 0) else if rel = 6 then decide (n ≥ 0) else false
def holdsV (rel : Int) (a b : Val) : Bool := if (cmpV a b).2 then relB rel (cmpV a b).1 else decide (rel = 2) && someV a && someV b
theorem cmpV_11 {a b : Val} (h : a.kind = 1) (k : b.kind = 1) : cmpV a b = (cmpI a.n b.n, true) := by rw [cmpV, if_pos ⟨h, k⟩]
theorem cmpV_22 {a b : Val} (h : a.kind = 2) (k : b.kind = 2) : cmpV a b = (cmpS a.s b.s, true) := by rw [cmpV, if_neg (by omega), if_pos ⟨h, k⟩]
theorem cmpV_no {a b : Val} (h : ¬ (a.kind = 1 ∧ b.kind = 1)) (k : ¬ (a.kind = 2 ∧ b.kind = 2)) : cmpV a b = (0, false) := by rw [cmpV, if_neg h, if_neg k]
theorem some_spec (a : Val) : PCalls Tryz.prog 156 [.agg (encVal a)] (fun v => v = .c (.bool (someV a))) := by
 refine PCalls.intro Tryz.call156 Tryz.func156 rfl Tryz.ntmps156 Tryz.results156 (by simp) ?_
 refine AW.sr @encVal.eq_1 ?_
 refine AW.seq_j (fun s' σ' => σ' = Hp.empty ∧ s'.t 2 = .c (.bool (someV a))) ?_ ?_
 ·skip
  refine AW.reg0 ?_
  iterate 2 refine S.one trivial ?_
  (refine S.sp trivial fun b a5 => ?_; cases b <;> (try exact nope a5))
  all_goals iterate 6 refine S.one trivial ?_
  all_goals refine S.nil ?_
  all_goals simp only [ze, simprocAttr]
  all_goals (rw [V.c.injEq, Value.bool.injEq, Bool.eq_iff_iff]; simp_all [someV])
 rintro s σ ⟨rfl, e2⟩
 refine AW.ret ?_
 all_goals simp only [zs, simprocAttr, e2]
 all_goals exact fn1
theorem rsome_spec (a : Val) : PCalls Tryz.prog 148 [.agg (encVal a)] (fun v => v = .c (.bool (someV a))) := by
 refine PCalls.intro Tryz.call148 Tryz.func148 rfl Tryz.ntmps148 Tryz.results148 (by simp) ?_
 refine AW.sr @encVal.eq_1 ?_
 refine AW.seq_j (fun s' σ' => σ' = Hp.empty ∧ s'.t 2 = .c (.bool (someV a))) ?_ ?_
 ·skip
  refine AW.reg0 ?_
  iterate 2 refine S.one trivial ?_
  (refine S.sp trivial fun b a5 => ?_; cases b <;> (try exact nope a5))
  all_goals iterate 6 refine S.one trivial ?_
  all_goals refine S.nil ?_
  all_goals simp only [ze, simprocAttr]
  all_goals (rw [V.c.injEq, Value.bool.injEq, Bool.eq_iff_iff]; simp_all [someV])
 rintro s σ ⟨rfl, e2⟩
 refine AW.ret ?_
 all_goals simp only [zs, simprocAttr, e2]
 all_goals exact fn1
theorem Compare_spec (a b : Val) : PCalls Tryz.prog 155 [.agg (encVal a), .agg (encVal b)] (fun v => v = .tup [.c (.int .i64 (cmpV a b).1), .c (.bool (cmpV a b).2)]) := by
 refine PCalls.intro Tryz.call155 Tryz.func155 rfl Tryz.ntmps155 Tryz.results155 (by simp) ?_
 refine AW.sr @encVal.eq_1 ?_
 refine AW.seq_k fun K2 h2 => ?_
 refine AW.block ?_   -- 0
 refine AW.sr trivial ?_
 refine AW.cd (a.kind != b.kind) (fun hk => ?_) (fun hk => ?_)
 ·have hk : ¬ a.kind = b.kind := by simpa using hk
  refine AW.sr trivial ?_
  refine AW.ret ?_
  simp only [zs, simprocAttr]
  all_goals ((try and_intros) <;> first | rfl | assumption | (((rw [cmpV_no (by omega) (by omega)]) <;> rfl)))
 have hk : a.kind = b.kind := by simpa using hk
 refine AW.seq_j (fun s' σ' => σ' = Hp.empty ∧ s'.t 2 = .lp 2 0 ∧ s'.l 2 = some (encVal a) ∧ s'.t 3 = .lp 3 0 ∧ s'.l 3 = some (encVal b) ∧ s'.t 12 = .c (.bool (decide (a.kind = 1) && decide (a.n ≠ b.n)))) ?_ ?_
 ·skip
  refine AW.reg0 ?_
  iterate 2 refine S.one trivial ?_
  (refine S.sp trivial fun b a15 => ?_; cases b <;> (try exact nope a15))
  all_goals iterate 8 refine S.one trivial ?_
  all_goals refine S.nil ?_
  all_goals simp only [ze, simprocAttr]
  all_goals simp_all [encVal]
  all_goals (rw [Bool.eq_iff_iff]; simp)
 rintro s σ ⟨rfl, e2, l2, e3, l3, e12⟩
 refine AW.cond (b := decide (a.kind = 1) && decide (a.n ≠ b.n)) e12 (fun hc => ?_) (fun hc => ?_)
 ·have hc : a.kind = 1 ∧ ¬ a.n = b.n := by simpa using hc
  have hv := cmpV_11 hc.1 (hk ▸ hc.1)
  refine AW.seq_k fun K5 h5 => ?_
  refine AW.sr (J5 e2 l2 e3 l3 @encVal.eq_1) ?_
  refine AW.cd (decide (a.n < b.n)) (fun hd => ?_) (fun hd => ?_)
  ·have hd := of_decide_eq_true hd
   refine AW.sr trivial ?_
   refine AW.ret ?_
   simp only [zs, simprocAttr]
   all_goals ((try and_intros) <;> first | rfl | assumption | ((((rw [hv, cmpI, if_pos hd])) <;> rfl)))
  have hd := of_decide_eq_false hd
  refine AW.skip ?_
  all_goals simp only [zs, simprocAttr]
  all_goals apply_assumption
  all_goals refine AW.sr trivial ?_
  refine AW.ret ?_
  all_goals simp only [zs, simprocAttr]
  all_goals ((try and_intros) <;> first | rfl | assumption | ((((rw [hv, cmpI, if_neg hd, if_pos (by omega)])) <;> rfl)))
 have hc : a.kind = 1 → a.n = b.n := by simpa using hc
 all_goals refine AW.sr (J3 e2 l2 @encVal.eq_1) ?_
 refine AW.cd (a.kind == 2) (fun hd => ?_) (fun hd => ?_)
 ·have hd : a.kind = 2 := by simpa using hd
  have hv := cmpV_22 hd (hk ▸ hd)
  refine AW.seq_k fun K10 h10 => ?_
  refine AW.reg0 ?_
  iterate 4 refine S.one (J5 e2 l2 e3 l3 @encVal.eq_1) ?_
  have q1q := J5 e2 l2 e3 l3 @encVal.eq_1
  refine S.cl q1q (strcmp_spec _ _) ?_
  all_goals iterate 2 refine S.one q1q ?_
  all_goals (refine S.nil ?_; simp only [ze, simprocAttr, q1q]; apply_assumption)
  refine AW.ret ?_
  all_goals simp only [zs, simprocAttr]
  all_goals ((try and_intros) <;> first | rfl | assumption | (((rw [hv]) <;> rfl)))
 have hd : ¬ a.kind = 2 := by simpa using hd
 refine AW.skip ?_
 all_goals simp only [zs, simprocAttr]
 all_goals apply_assumption
 have hv : cmpV a b = (0, decide (a.kind = 1)) := by
  by_cases h1 : a.kind = 1
  ·rw [cmpV_11 h1 (hk ▸ h1), cmpI, if_neg (by have := hc h1; omega), if_neg (by have := hc h1; omega), decide_eq_true h1]
  ·rw [cmpV_no (fun h => h1 h.1) (fun h => hd h.1), decide_eq_false h1]
 refine AW.seq_k fun K11 h11 => ?_
 all_goals refine AW.dv { sd := fun d => d == 2 } [(0,0),(3,0),(1,1),(2,0),(4,0)] ?_
 all_goals have q2q := J3 e2 l2 @encVal.eq_1
 all_goals iterate 2 refine D.one q2q ?_
 all_goals refine D.one q2q ?_
 all_goals iterate 2 refine D.one q2q ?_
 all_goals (refine D.nil ?_; apply_assumption)
 refine AW.ret ?_
 all_goals simp only [zs, simprocAttr]
 all_goals ((try and_intros) <;> first | rfl | assumption | (((rw [hv]) <;> first | rfl | simp)))
theorem rCompare_spec (a b : Val) : PCalls Tryz.prog 147 [.agg (encVal a), .agg (encVal b)] (fun v => v = .tup [.c (.int .i64 (cmpV a b).1), .c (.bool (cmpV a b).2)]) := by
 refine PCalls.intro Tryz.call147 Tryz.func147 rfl Tryz.ntmps147 Tryz.results147 (by simp) ?_
 refine AW.sr @encVal.eq_1 ?_
 refine AW.seq_k fun K2 h2 => ?_
 refine AW.block ?_   -- 0
 refine AW.seq_j (fun s' σ' => σ' = Hp.empty ∧ s'.t 2 = .lp 2 0 ∧ s'.l 2 = some (encVal a) ∧ s'.t 3 = .lp 3 0 ∧ s'.l 3 = some (encVal b) ∧ s'.t 6 = .c (.bool (decide (a.kind = 1) && decide (b.kind = 1)))) ?_ ?_
 ·skip
  refine AW.reg0 ?_
  iterate 2 refine S.one trivial ?_
  (refine S.sp trivial fun b a9 => ?_; cases b <;> (try exact nope a9))
  all_goals iterate 6 refine S.one trivial ?_
  all_goals refine S.nil ?_
  all_goals simp only [ze, simprocAttr]
  all_goals simp_all [encVal]
  all_goals (rw [Bool.eq_iff_iff]; simp)
 rintro s σ ⟨rfl, e2, l2, e3, l3, e6⟩
 refine AW.cond (b := decide (a.kind = 1) && decide (b.kind = 1)) e6 (fun hc => ?_) (fun hc => ?_)
 ·have hc : a.kind = 1 ∧ b.kind = 1 := by simpa using hc
  have hv := cmpV_11 hc.1 hc.2
  refine AW.seq_k fun K3 h3 => ?_
  have q1q := J5 e2 l2 e3 l3 @encVal.eq_1
  refine AW.sr q1q ?_
  refine AW.cd (decide (a.n < b.n)) (fun hd => ?_) (fun hd => ?_)
  ·have hd := of_decide_eq_true hd
   refine AW.sr trivial ?_
   refine AW.ret ?_
   simp only [zs, simprocAttr]
   all_goals ((try and_intros) <;> first | rfl | assumption | ((((rw [hv, cmpI, if_pos hd])) <;> rfl)))
  have hd := of_decide_eq_false hd
  refine AW.skip ?_
  all_goals simp only [zs, simprocAttr]
  all_goals apply_assumption
  refine AW.seq_k fun K6 h6 => ?_
  all_goals refine AW.sr (J5 e2 l2 e3 l3 @encVal.eq_1) ?_
  refine AW.cd (decide (a.n > b.n)) (fun he => ?_) (fun he => ?_)
  ·have he := of_decide_eq_true he
   refine AW.sr trivial ?_
   refine AW.ret ?_
   simp only [zs, simprocAttr]
   all_goals ((try and_intros) <;> first | rfl | assumption | ((((rw [hv, cmpI, if_neg hd, if_pos he])) <;> rfl)))
  have he := of_decide_eq_false he
  refine AW.skip ?_
  all_goals simp only [zs, simprocAttr]
  all_goals apply_assumption
  all_goals refine AW.sr trivial ?_
  refine AW.ret ?_
  all_goals simp only [zs, simprocAttr]
  all_goals ((try and_intros) <;> first | rfl | assumption | ((((rw [hv, cmpI, if_neg hd, if_neg he])) <;> rfl)))
 have hc : ¬ (a.kind = 1 ∧ b.kind = 1) := by simpa using hc
 refine AW.seq_j (fun s' σ' => σ' = Hp.empty ∧ s'.t 2 = .lp 2 0 ∧ s'.l 2 = some (encVal a) ∧ s'.t 3 = .lp 3 0 ∧ s'.l 3 = some (encVal b) ∧ s'.t 25 = .c (.bool (decide (a.kind = 2) && decide (b.kind = 2)))) ?_ ?_
 ·clear hc
  refine AW.reg0 ?_
  have q2q := J5 e2 l2 e3 l3 @encVal.eq_1
  iterate 2 refine S.one q2q ?_
  (refine S.sp q2q fun b a28 => ?_; cases b <;> (try exact nope a28))
  all_goals iterate 6 refine S.one q2q ?_
  all_goals refine S.nil ?_
  all_goals simp only [ze, simprocAttr, q2q]
  all_goals simp_all [encVal]
  all_goals (rw [Bool.eq_iff_iff]; simp)
 rintro s σ ⟨rfl, e2, l2, e3, l3, e25⟩
 refine AW.cond (b := decide (a.kind = 2) && decide (b.kind = 2)) e25 (fun hk => ?_) (fun hk => ?_)
 ·have hk : a.kind = 2 ∧ b.kind = 2 := by simpa using hk
  have hv := cmpV_22 hk.1 hk.2
  refine AW.seq_k fun K10 h10 => ?_
  have q3q := J5 e2 l2 e3 l3 @encVal.eq_1
  refine AW.sr q3q ?_
  refine AW.cd (Op.bytesLess a.s.toList b.s.toList) (fun hd => ?_) (fun hd => ?_)
  ·have hvv : cmpS a.s b.s = -1 := by rw [cmpS, if_pos hd]
   refine AW.sr trivial ?_
   refine AW.ret ?_
   simp only [zs, simprocAttr]
   all_goals ((try and_intros) <;> first | rfl | assumption | ((((rw [hv, hvv])) <;> rfl)))
  refine AW.skip ?_
  all_goals simp only [zs, simprocAttr]
  all_goals apply_assumption
  refine AW.seq_k fun K13 h13 => ?_
  all_goals refine AW.sr (J5 e2 l2 e3 l3 @encVal.eq_1) ?_
  refine AW.cd (!(Op.bytesLess a.s.toList b.s.toList || a.s.toList == b.s.toList)) (fun he => ?_) (fun he => ?_)
  ·have hvv : cmpS a.s b.s = 1 := by rw [cmpS, if_neg (by rw [hd]; exact Bool.false_ne_true), if_neg (by simpa using he)]
   refine AW.sr trivial ?_
   refine AW.ret ?_
   simp only [zs, simprocAttr]
   all_goals ((try and_intros) <;> first | rfl | assumption | ((((rw [hv, hvv])) <;> rfl)))
  have hvv : cmpS a.s b.s = 0 := by rw [cmpS, if_neg (by rw [hd]; exact Bool.false_ne_true), if_pos (by rw [Bool.not_eq_false'] at he; exact he)]
  refine AW.skip ?_
  all_goals simp only [zs, simprocAttr]
  all_goals apply_assumption
  all_goals refine AW.sr trivial ?_
  refine AW.ret ?_
  all_goals simp only [zs, simprocAttr]
  all_goals ((try and_intros) <;> first | rfl | assumption | ((((rw [hv, hvv])) <;> rfl)))
 have hk : ¬ (a.kind = 2 ∧ b.kind = 2) := by simpa using hk
 have hv := cmpV_no hc hk
 refine AW.skip ?_
 all_goals simp only [zs, simprocAttr]
 all_goals apply_assumption
 all_goals refine AW.sr trivial ?_
 refine AW.ret ?_
 all_goals simp only [zs, simprocAttr]
 all_goals ((try and_intros) <;> first | rfl | assumption | (((rw [hv]) <;> rfl)))
theorem rHolds_spec (rel : Int) (a b : Val) : PCalls Tryz.prog 118 [.c (.int .i64 rel), .agg (encVal a), .agg (encVal b)] (fun v => v = .c (.bool (holdsV rel a b))) := by
 refine PCalls.intro Tryz.call118 Tryz.func118 rfl Tryz.ntmps118 Tryz.results118 (by simp) ?_
 refine AW.sr @encVal.eq_1 ?_
 refine AW.seq_k fun K2 h2 => ?_
 refine AW.reg0 ?_
 iterate 2 refine S.one @encVal.eq_1 ?_
 refine S.cl @encVal.eq_1 (rCompare_spec a b) ?_
 all_goals iterate 5 refine S.one @encVal.eq_1 ?_
 all_goals (refine S.nil ?_; simp only [ze, simprocAttr, encVal]; apply_assumption)
 refine AW.seq_k fun K3 h3 => ?_
 all_goals refine AW.sr trivial ?_
 refine AW.cd (!(cmpV a b).2) (fun hc => ?_) (fun hc => ?_)
 ·have hc : (cmpV a b).2 = false := by simpa using hc
  have hh : holdsV rel a b = (decide (rel = 2) && someV a && someV b) := by rw [holdsV, if_neg (by rw [hc]; exact Bool.false_ne_true)]
  refine AW.seq_j (fun s' σ' => σ' = Hp.empty ∧ s'.t 6 = .c (.bool (holdsV rel a b))) ?_ ?_
  ·clear hc
   refine AW.reg0 ?_
   refine S.one trivial ?_
   (refine S.sp trivial fun b a18 => ?_; cases b <;> (try exact nope a18))
   all_goals iterate 2 refine S.one trivial ?_
   all_goals (first | (refine S.y rfl rfl rfl rfl fun Y Z => ?_; simp only [zz, simprocAttr, -Int.reduceNatCast', -Int.reduceToNat]; (first | refine PCalls.eqto (rsome_spec a) ?_ | refine PCalls.eqto (rsome_spec b) ?_); refine S.bool fun b a21 => ?_; cases b <;> (try exact nope a21) <;> (refine Z _ _ ?_; clear Z Y)) | refine S.one trivial ?_)
   all_goals iterate 3 refine S.one trivial ?_
   all_goals (first | (refine S.y rfl rfl rfl rfl fun Y Z => ?_; simp only [zz, simprocAttr, -Int.reduceNatCast', -Int.reduceToNat]; (first | refine PCalls.eqto (rsome_spec a) ?_ | refine PCalls.eqto (rsome_spec b) ?_) <;> (refine Z _ _ ?_; clear Z Y)) | refine S.one trivial ?_)
   all_goals iterate 2 refine S.one trivial ?_
   all_goals refine S.nil ?_
   all_goals simp only [ze, simprocAttr]
   all_goals simp_all
  rintro s σ ⟨rfl, e6⟩
  refine AW.ret ?_
  all_goals simp only [zs, simprocAttr, e6]
  all_goals exact fn1
 have hc : (cmpV a b).2 = true := by simpa using hc
 have hh : holdsV rel a b = relB rel (cmpV a b).1 := by rw [holdsV, if_pos hc]
 refine AW.skip ?_
 all_goals simp only [zs, simprocAttr]
 all_goals apply_assumption
 refine AW.seq_k fun K5 h5 => ?_
 all_goals refine AW.sr trivial ?_
 refine AW.block ?_   -- 0
 all_goals refine AW.sr trivial ?_
 refine AW.cd (rel == 1) (fun h1 => ?_) (fun h1 => ?_)
 ·have h1 : rel = 1 := by simpa using h1
  refine AW.sr trivial ?_
  refine AW.ret ?_
  simp only [zs, simprocAttr]
  all_goals ((try and_intros) <;> first | rfl | assumption | (((rw [hh, h1]; simp [relB]) <;> rfl)))
 have h1 : ¬ rel = 1 := by simpa using h1
 all_goals refine AW.sr trivial ?_
 refine AW.cd (rel == 2) (fun h2 => ?_) (fun h2 => ?_)
 ·have h2 : rel = 2 := by simpa using h2
  refine AW.sr trivial ?_
  refine AW.ret ?_
  simp only [zs, simprocAttr]
  all_goals ((try and_intros) <;> first | rfl | assumption | (((rw [hh, h2]; simp [relB]) <;> rfl)))
 have h2 : ¬ rel = 2 := by simpa using h2
 all_goals refine AW.sr trivial ?_
 refine AW.cd (rel == 3) (fun h3 => ?_) (fun h3 => ?_)
 ·have h3 : rel = 3 := by simpa using h3
  refine AW.sr trivial ?_
  refine AW.ret ?_
  simp only [zs, simprocAttr]
  all_goals ((try and_intros) <;> first | rfl | assumption | (((rw [hh, h3]; simp [relB]) <;> rfl)))
 have h3 : ¬ rel = 3 := by simpa using h3
 all_goals refine AW.sr trivial ?_
 refine AW.cd (rel == 4) (fun h4 => ?_) (fun h4 => ?_)
 ·have h4 : rel = 4 := by simpa using h4
  refine AW.sr trivial ?_
  refine AW.ret ?_
  simp only [zs, simprocAttr]
  all_goals ((try and_intros) <;> first | rfl | assumption | (((rw [hh, h4]; simp [relB]) <;> rfl)))
 have h4 : ¬ rel = 4 := by simpa using h4
 all_goals refine AW.sr trivial ?_
 refine AW.cd (rel == 5) (fun h5 => ?_) (fun h5 => ?_)
 ·have h5 : rel = 5 := by simpa using h5
  refine AW.sr trivial ?_
  refine AW.ret ?_
  simp only [zs, simprocAttr]
  all_goals ((try and_intros) <;> first | rfl | assumption | (((rw [hh, h5]; simp [relB]) <;> rfl)))
 have h5 : ¬ rel = 5 := by simpa using h5
 all_goals refine AW.sr trivial ?_
 refine AW.cd (rel == 6) (fun h6 => ?_) (fun h6 => ?_)
 ·have h6 : rel = 6 := by simpa using h6
  refine AW.sr trivial ?_
  refine AW.ret ?_
  simp only [zs, simprocAttr]
  all_goals ((try and_intros) <;> first | rfl | assumption | (((rw [hh, h6]; simp [relB]) <;> rfl)))
 have h6 : ¬ rel = 6 := by simpa using h6
 refine AW.skip ?_
 all_goals simp only [zs, simprocAttr]
 all_goals apply_assumption
 all_goals refine AW.sr trivial ?_
 refine AW.ret ?_
 all_goals simp only [zs, simprocAttr]
 all_goals ((try and_intros) <;> first | rfl | assumption | ((rw [hh]; simp [relB, h1, h2, h3, h4, h5, h6])))
theorem Holds_spec (rel : Int) (a b : Val) : PCalls Tryz.prog 130 [.c (.int .i64 rel), .agg (encVal a), .agg (encVal b)] (fun v => v = .c (.bool (holdsV rel a b))) := by
 refine PCalls.intro Tryz.call130 Tryz.func130 rfl Tryz.ntmps130 Tryz.results130 (by simp) ?_
 refine AW.sr @encVal.eq_1 ?_
 refine AW.seq_k fun K2 h2 => ?_
 refine AW.reg0 ?_
 iterate 2 refine S.one @encVal.eq_1 ?_
 refine S.cl @encVal.eq_1 (Compare_spec a b) ?_
 all_goals iterate 5 refine S.one @encVal.eq_1 ?_
 all_goals (refine S.nil ?_; simp only [ze, simprocAttr, encVal]; apply_assumption)
 refine AW.seq_k fun K3 h3 => ?_
 all_goals refine AW.sr trivial ?_
 refine AW.cd (!(cmpV a b).2) (fun hc => ?_) (fun hc => ?_)
 ·have hc : (cmpV a b).2 = false := by simpa using hc
  have hh : holdsV rel a b = (decide (rel = 2) && someV a && someV b) := by rw [holdsV, if_neg (by rw [hc]; exact Bool.false_ne_true)]
  refine AW.sr trivial ?_
  refine AW.seq_j (fun s' σ' => σ' = Hp.empty ∧ s'.t 6 = .c (.bool (holdsV rel a b))) ?_ ?_
  ·clear hc
   refine AW.reg0 ?_
   refine S.one trivial ?_
   (refine S.sp trivial fun b a19 => ?_; cases b <;> (try exact nope a19))
   all_goals iterate 3 refine S.one trivial ?_
   all_goals (first | (refine S.cb trivial (some_spec a) fun b a23 => ?_; cases b <;> (try exact nope a23)) | refine S.one trivial ?_)
   all_goals iterate 4 refine S.one trivial ?_
   all_goals (first | (refine S.cl trivial (some_spec b) ?_) | refine S.one trivial ?_)
   all_goals iterate 2 refine S.one trivial ?_
   all_goals refine S.nil ?_
   all_goals simp only [ze, simprocAttr]
   all_goals simp_all
  rintro s σ ⟨rfl, e6⟩
  refine AW.ret ?_
  all_goals simp only [zs, simprocAttr, e6]
  all_goals exact fn1
 have hc : (cmpV a b).2 = true := by simpa using hc
 have hh : holdsV rel a b = relB rel (cmpV a b).1 := by rw [holdsV, if_pos hc]
 refine AW.skip ?_
 all_goals simp only [zs, simprocAttr]
 all_goals apply_assumption
 refine AW.seq_k fun K6 h6 => ?_
 all_goals refine AW.sr trivial ?_
 refine AW.block ?_   -- 0
 all_goals refine AW.sr trivial ?_
 refine AW.cd (rel == 1) (fun h1 => ?_) (fun h1 => ?_)
 ·have h1 : rel = 1 := by simpa using h1
  refine AW.sr trivial ?_
  refine AW.ret ?_
  simp only [zs, simprocAttr]
  all_goals ((try and_intros) <;> first | rfl | assumption | (((rw [hh, h1]; simp [relB]) <;> rfl)))
 have h1 : ¬ rel = 1 := by simpa using h1
 all_goals refine AW.sr trivial ?_
 refine AW.cd (rel == 2) (fun h2 => ?_) (fun h2 => ?_)
 ·have h2 : rel = 2 := by simpa using h2
  refine AW.sr trivial ?_
  refine AW.ret ?_
  simp only [zs, simprocAttr]
  all_goals ((try and_intros) <;> first | rfl | assumption | (((rw [hh, h2]; simp [relB]) <;> rfl)))
 have h2 : ¬ rel = 2 := by simpa using h2
 all_goals refine AW.sr trivial ?_
 refine AW.cd (rel == 3) (fun h3 => ?_) (fun h3 => ?_)
 ·have h3 : rel = 3 := by simpa using h3
  refine AW.sr trivial ?_
  refine AW.ret ?_
  simp only [zs, simprocAttr]
  all_goals ((try and_intros) <;> first | rfl | assumption | (((rw [hh, h3]; simp [relB]) <;> rfl)))
 have h3 : ¬ rel = 3 := by simpa using h3
 all_goals refine AW.sr trivial ?_
 refine AW.cd (rel == 4) (fun h4 => ?_) (fun h4 => ?_)
 ·have h4 : rel = 4 := by simpa using h4
  refine AW.sr trivial ?_
  refine AW.ret ?_
  simp only [zs, simprocAttr]
  all_goals ((try and_intros) <;> first | rfl | assumption | (((rw [hh, h4]; simp [relB]) <;> rfl)))
 have h4 : ¬ rel = 4 := by simpa using h4
 all_goals refine AW.sr trivial ?_
 refine AW.cd (rel == 5) (fun h5 => ?_) (fun h5 => ?_)
 ·have h5 : rel = 5 := by simpa using h5
  refine AW.sr trivial ?_
  refine AW.ret ?_
  simp only [zs, simprocAttr]
  all_goals ((try and_intros) <;> first | rfl | assumption | (((rw [hh, h5]; simp [relB]) <;> rfl)))
 have h5 : ¬ rel = 5 := by simpa using h5
 all_goals refine AW.sr trivial ?_
 refine AW.cd (rel == 6) (fun h6 => ?_) (fun h6 => ?_)
 ·have h6 : rel = 6 := by simpa using h6
  refine AW.sr trivial ?_
  refine AW.ret ?_
  simp only [zs, simprocAttr]
  all_goals ((try and_intros) <;> first | rfl | assumption | (((rw [hh, h6]; simp [relB]) <;> rfl)))
 have h6 : ¬ rel = 6 := by simpa using h6
 refine AW.skip ?_
 all_goals simp only [zs, simprocAttr]
 all_goals apply_assumption
 all_goals refine AW.sr trivial ?_
 refine AW.ret ?_
 all_goals simp only [zs, simprocAttr]
 all_goals ((try and_intros) <;> first | rfl | assumption | ((rw [hh]; simp [relB, h1, h2, h3, h4, h5, h6])))
def noVal : Val := ⟨0, 0, ⟨#[]⟩⟩
def getV (s : ByteArray) : List Attr → Val × Bool
  | [] => (noVal, false)
  | a :: l => if eqS a.name s then (a.v, true) else getV s l
def opVal (o : Opd) (e : Ev) : Val := if o.attr.size = 0 then o.v else (getV o.attr e.attrs).1
def testB (e : Ev) (c : Cnd) : Bool := holdsV c.rel (opVal c.l e) (opVal c.r e)
def termB (n : Nd) (e : Ev) : Bool := decide (n.kind = 1) && eqS e.type n.type && n.tests.all (testB e)
theorem attr_get {l : List Attr} {i : Nat} (h : i < l.length) : ∃ x, l[i]? = some x ∧ x ∈ l ∧ (l.map encAttr).getD i [] = encAttr x ∧ l.drop i = x :: l.drop (i + 1) := ⟨l[i], List.getElem?_eq_getElem h, List.getElem_mem h, getD_map h, List.drop_eq_getElem_cons h⟩
theorem rGet_spec (l : List Attr) (str : ByteArray) (hl : l.length < 4611686018427387904) : PCalls Tryz.prog 172 [.sl (l.map encAttr), .c (.string str)] (fun v => v = .tup [.agg (encVal (getV str l).1), .c (.bool (getV str l).2)]) := by
 refine PCalls.intro Tryz.call172 Tryz.func172 rfl Tryz.ntmps172 Tryz.results172 (by simp) ?_
 refine AW.sr trivial ?_
 refine AW.seq_k fun K2 h2 => ?_
 refine AW.sr trivial ?_
 refine AW.block ?_   -- 0
 refine AW.loop (fun m s σ => σ = Hp.empty ∧ ∃ i : Nat, m + i = l.length ∧ s.t 0 = .sl (l.map encAttr) ∧ s.t 1 = .c (.string str) ∧ s.t 6 = .c (.int .i64 (i : Nat)) ∧ s.t 4 = .lp 4 0 ∧ s.l 4 = some [.c (.int .i64 0), .c (.int .i64 0), .c (.string ⟨#[]⟩)] ∧ getV str l = getV str (l.drop i)) l.length ?_ ?_
 ·refine ⟨rfl, 0, by simp, ?_⟩
  simp only [zs, simprocAttr]
  all_goals exact fn1
 rintro m s σ ⟨rfl, i, hm, e0, e1, e6, e4, l4, hp⟩
 refine AW.seq_k fun K4 h4 => ?_
 all_goals refine AW.sr (J3 e0 e6 @List.length_map.{0,0}) ?_
 refine AW.cd (decide (i < l.length)) (fun hi => ?_) (fun hi => ?_)
 ·have hi := of_decide_eq_true hi
  obtain ⟨x, hx, hxm, hg, hd⟩ := attr_get hi
  have hw := wadd1 (a := i) (by omega)
  rw [hd, getV] at hp
  refine AW.skip ?_
  simp only [zs, simprocAttr]
  all_goals apply_assumption
  refine AW.seq_k fun K6 h6 => ?_
  refine AW.block ?_   -- 1
  refine AW.sr (J7 e0 e1 e6 hi hg @encAttr.eq_1 @List.length_map.{0,0}) ?_
  refine AW.cd (x.name.toList == str.toList) (fun hb => ?_) (fun hb => ?_)
  ·have hb : eqS x.name str = true := hb
   rw [if_pos hb] at hp
   refine AW.sr (J8 e0 e6 e4 l4 hi hg @encAttr.eq_1 @List.length_map.{0,0}) ?_
   refine AW.ret ?_
   simp only [zs, simprocAttr, zz, tt, e4, l4]
   all_goals ((try and_intros) <;> first | rfl | assumption | (((rw [hp]) <;> rfl)))
  ·have hb : eqS x.name str = false := hb
   rw [hb, if_neg Bool.false_ne_true] at hp
   refine AW.skip ?_
   simp only [zs, simprocAttr]
   all_goals apply_assumption
   have q1q := J6 e6 hw e0 e1 e4 l4
   refine AW.reg0 (S.rn q1q ?_)
   simp only [ze, simprocAttr, q1q]
   refine ⟨m - 1, by omega, i + 1, by omega, ?_⟩
   all_goals ((try and_intros) <;> first | rfl | assumption | (exact hp))
 ·have hi := of_decide_eq_false hi
  refine AW.exit ?_
  simp only [zs, simprocAttr]
  all_goals apply_assumption
  rw [List.drop_of_length_le (by omega), getV] at hp
  refine AW.sr (J2 e4 l4) ?_
  refine AW.ret ?_
  simp only [zs, simprocAttr, zz, tt, e4, l4]
  all_goals ((try and_intros) <;> first | rfl | assumption | (((rw [hp]) <;> rfl)))
theorem rof_spec (o : Opd) (e : Ev) (he : e.attrs.length < 4611686018427387904) : PCalls Tryz.prog 142 [.agg (encO o), .agg (encEv e)] (fun v => v = .agg (encVal (opVal o e))) := by
 refine PCalls.intro Tryz.call142 Tryz.func142 rfl Tryz.ntmps142 Tryz.results142 (by simp) ?_
 refine AW.sr (J2 @encO.eq_1 @encEv.eq_1) ?_
 refine AW.seq_k fun K2 h2 => ?_
 refine AW.sr trivial ?_
 refine AW.cd (decide (o.attr.size = 0)) (fun hb => ?_) (fun hb => ?_)
 ·have hb := of_decide_eq_true hb
  refine AW.sr trivial ?_
  refine AW.ret ?_
  simp only [zs, simprocAttr, zz, tt]
  all_goals ((try and_intros) <;> first | rfl | assumption | (((rw [opVal, if_pos hb]) <;> rfl)))
 ·have hb := of_decide_eq_false hb
  refine AW.skip ?_
  simp only [zs, simprocAttr]
  all_goals apply_assumption
  refine AW.seq_k fun K5 h5 => ?_
  refine AW.reg0 ?_
  iterate 4 refine S.one @encVal.eq_1 ?_
  refine S.cl @encVal.eq_1 (rGet_spec _ _ he) ?_
  all_goals iterate 6 refine S.one @encVal.eq_1 ?_
  all_goals (refine S.nil ?_; simp only [ze, simprocAttr, encVal]; apply_assumption)
  all_goals refine AW.sr trivial ?_
  refine AW.ret ?_
  all_goals simp only [zs, simprocAttr, zz, tt]
  all_goals ((try and_intros) <;> first | rfl | assumption | (((rw [opVal, if_neg hb]) <;> rfl)))
theorem rTest_spec (c : Cnd) (e : Ev) (he : e.attrs.length < 4611686018427387904) : PCalls Tryz.prog 110 [.agg (encC c), .agg (encEv e)] (fun v => v = .c (.bool (testB e c))) := by
 refine PCalls.intro Tryz.call110 Tryz.func110 rfl Tryz.ntmps110 Tryz.results110 (by simp) ?_
 refine AW.sr (J3 @encC.eq_1 @encO.eq_1 @encEv.eq_1) ?_
 refine AW.seq_k fun K2 h2 => ?_
 refine AW.dv { sd := fun d => d == 2 || d == 3 } [(0,0),(2,0),(6,0),(1,1),(3,1),(4,1),(7,1),(8,1),(5,2),(9,2),(10,2),(11,0)] ?_
 iterate 3 refine D.one trivial ?_
 iterate 5 refine D.one trivial ?_
 (refine D.g rfl trivial rfl rfl fun Y Z => ?_; simp only [zz, simprocAttr, -Int.reduceNatCast', -Int.reduceToNat]; (first | refine PCalls.eqto (rof_spec c.l e he) ?_ | refine PCalls.eqto (rof_spec c.r e he) ?_) <;> (refine Z _ _ ?_; clear Z Y))
 all_goals (refine D.g rfl trivial rfl rfl fun Y Z => ?_; simp only [zz, simprocAttr, -Int.reduceNatCast', -Int.reduceToNat]; (first | refine PCalls.eqto (rof_spec c.l e he) ?_ | refine PCalls.eqto (rof_spec c.r e he) ?_) <;> (refine Z _ _ ?_; clear Z Y))
 all_goals refine D.cl trivial (rHolds_spec _ _ _) ?_
 all_goals refine D.one trivial ?_
 all_goals (refine D.nil ?_; apply_assumption)
 refine AW.ret ?_
 all_goals simp only [zs, simprocAttr]
 all_goals exact fn1
theorem all_step {p : Cnd → Bool} {l : List Cnd} {i : Nat} {x : Cnd} (h : l.drop i = x :: l.drop (i + 1)) : (l.drop i).all p = (p x && (l.drop (i + 1)).all p) := by rw [h]; rfl
theorem rTerm_spec (n : Nd) (e : Ev) (he : e.attrs.length < 4611686018427387904) (ht : n.tests.length < 4611686018427387904) : PCalls Tryz.prog 78 [.agg (encNd n), .agg (encEv e)] (fun v => v = .c (.bool (termB n e))) := by
 rw [encNd_eq]
 refine PCalls.intro Tryz.call78 Tryz.func78 rfl Tryz.ntmps78 Tryz.results78 (by simp) ?_
 refine AW.sr @encEv.eq_1 ?_
 refine AW.seq_k fun K2 h2 => ?_
 refine AW.seq_j (fun s' σ' => σ' = Hp.empty ∧ s'.t 2 = .lp 2 0 ∧ s'.l 2 = some [.c (.int .i64 n.kind), .c (.string n.var), .c (.string n.type), .sl (n.tests.map encC), .sl (n.kids.map encNd)] ∧ s'.t 3 = .lp 3 0 ∧ s'.l 3 = some (encEv e) ∧ s'.t 15 = .c (.bool (!(decide (n.kind = 1) && (e.type.toList == n.type.toList))))) ?_ ?_
 ·skip
  refine AW.reg0 ?_
  iterate 2 refine S.one trivial ?_
  (refine S.sp trivial fun b a8 => ?_; cases b <;> (try exact nope a8))
  all_goals iterate 7 refine S.one trivial ?_
  all_goals refine S.nil ?_
  all_goals simp only [ze, simprocAttr]
  all_goals simp_all [encEv]
 rintro s σ ⟨rfl, e2, l2, e3, l3, e15⟩
 refine AW.cond (b := !(decide (n.kind = 1) && (e.type.toList == n.type.toList))) e15 (fun hb => ?_) (fun hb => ?_)
 ·have hb : (decide (n.kind = 1) && eqS e.type n.type) = false := by rw [Bool.not_eq_true'] at hb; exact hb
  refine AW.sr trivial ?_
  refine AW.ret ?_
  simp only [zs, simprocAttr]
  all_goals ((try and_intros) <;> first | rfl | assumption | (((rw [termB, hb]) <;> rfl)))
 have hb : (decide (n.kind = 1) && eqS e.type n.type) = true := by rw [Bool.not_eq_false'] at hb; exact hb
 have hq : termB n e = n.tests.all (testB e) := by rw [termB, hb, Bool.true_and]
 refine AW.skip ?_
 all_goals simp only [zs, simprocAttr]
 all_goals apply_assumption
 refine AW.seq_k fun K4 h4 => ?_
 all_goals have q1q := J4 e2 l2 e3 l3
 all_goals refine AW.sr q1q ?_
 refine AW.block ?_   -- 0
 refine AW.loop (fun m s σ => σ = Hp.empty ∧ ∃ i : Nat, m + i = n.tests.length ∧ s.t 2 = .lp 2 0 ∧ s.l 2 = some [.c (.int .i64 n.kind), .c (.string n.var), .c (.string n.type), .sl (n.tests.map encC), .sl (n.kids.map encNd)] ∧ s.t 3 = .lp 3 0 ∧ s.l 3 = some (encEv e) ∧ s.t 5 = .c (.int .i64 (i : Nat)) ∧ termB n e = (n.tests.drop i).all (testB e)) n.tests.length ?_ ?_
 ·refine ⟨rfl, 0, by simp, ?_⟩
  simp only [zs, simprocAttr, e2, l2, e3, l3]
  all_goals ((try and_intros) <;> first | rfl | assumption | (exact hq))
 rintro m s σ ⟨rfl, i, hm, e2, l2, e3, l3, e5, hp⟩
 refine AW.seq_k fun K6 h6 => ?_
 all_goals refine AW.sr (J4 e2 l2 e5 @List.length_map.{0,0}) ?_
 refine AW.cd (decide (i < n.tests.length)) (fun hi => ?_) (fun hi => ?_)
 ·have hi := of_decide_eq_true hi
  obtain ⟨c, hx, hcm, hg, hd⟩ := cnd_get hi
  have hw := wadd1 (a := i) (by omega)
  rw [all_step hd] at hp
  refine AW.skip ?_
  simp only [zs, simprocAttr]
  all_goals apply_assumption
  refine AW.seq_k fun K8 h8 => ?_
  refine AW.block ?_   -- 1
  refine AW.seq_k fun K9 h9 => ?_
  refine AW.dv { sd := fun d => d == 2 || d == 3 } [(0,0),(2,0),(1,1),(3,0),(4,1),(5,1),(6,2),(7,0)] ?_
  have q2q := J10 e2 l2 e3 l3 e5 hi hg @cd @encEv.eq_1 @List.length_map.{0,0}
  iterate 2 refine D.one q2q ?_
  refine D.one q2q ?_
  refine D.one q2q ?_
  iterate 2 refine D.one q2q ?_
  have q3q := J10 e2 l2 e3 l3 e5 hi hg @cd @encEv.eq_1 @List.length_map.{0,0}
  refine D.cl q3q (rTest_spec c e he) ?_
  all_goals refine D.one q3q ?_
  all_goals (refine D.nil ?_; apply_assumption)
  refine AW.cd (!testB e c) (fun hc => ?_) (fun hc => ?_)
  ·have hc : testB e c = false := by simpa using hc
   refine AW.sr trivial ?_
   refine AW.ret ?_
   simp only [zs, simprocAttr]
   all_goals ((try and_intros) <;> first | rfl | assumption | (((rw [hp, hc]) <;> rfl)))
  ·have hc : testB e c = true := by simpa using hc
   refine AW.skip ?_
   simp only [zs, simprocAttr]
   all_goals apply_assumption
   rw [hc, Bool.true_and] at hp
   have q4q := J6 e5 hw e2 l2 e3 l3
   refine AW.reg0 (S.rn q4q ?_)
   simp only [ze, simprocAttr, q4q]
   refine ⟨m - 1, by omega, i + 1, by omega, ?_⟩
   all_goals ((try and_intros) <;> first | rfl | assumption | (exact hp))
 ·have hi := of_decide_eq_false hi
  refine AW.exit ?_
  simp only [zs, simprocAttr]
  all_goals apply_assumption
  rw [List.drop_of_length_le (by omega)] at hp
  refine AW.sr trivial ?_
  refine AW.ret ?_
  simp only [zs, simprocAttr]
  all_goals ((try and_intros) <;> first | rfl | assumption | (((rw [hp]) <;> rfl)))
def bdVal (o : Opd) : List Bd → Val × Bool
  | [] => (noVal, false)
  | b :: l => if eqS b.var o.var then (opVal o b.ev, true) else bdVal o l
def pVal (o : Opd) (l : List Bd) : Val × Bool := if o.attr.size = 0 then (o.v, true) else bdVal o l
def condB (l : List Bd) (c : Cnd) : Bool := !(pVal c.l l).2 || !(pVal c.r l).2 || holdsV c.rel (pVal c.l l).1 (pVal c.r l).1
def lenB (l : List Bd) : Prop := ∀ b ∈ l, b.ev.attrs.length < 4611686018427387904
theorem bd_get {l : List Bd} {i : Nat} (h : i < l.length) : ∃ x, l[i]? = some x ∧ x ∈ l ∧ (l.map encBd).getD i [] = encBd x ∧ l.drop i = x :: l.drop (i + 1) := ⟨l[i], List.getElem?_eq_getElem h, List.getElem_mem h, getD_map h, List.drop_eq_getElem_cons h⟩
theorem rValue_spec (o : Opd) (l : List Bd) (hl : lenB l) (hll : l.length < 4611686018427387904) : PCalls Tryz.prog 117 [.agg (encO o), .agg [.sl (l.map encBd)]] (fun v => v = .tup [.agg (encVal (pVal o l).1), .c (.bool (pVal o l).2)]) := by
 refine PCalls.intro Tryz.call117 Tryz.func117 rfl Tryz.ntmps117 Tryz.results117 (by simp) ?_
 refine AW.sr @encO.eq_1 ?_
 refine AW.seq_k fun K2 h2 => ?_
 refine AW.sr trivial ?_
 refine AW.cd (decide (o.attr.size = 0)) (fun hb => ?_) (fun hb => ?_)
 ·have hb := of_decide_eq_true hb
  refine AW.sr trivial ?_
  refine AW.ret ?_
  simp only [zs, simprocAttr, zz, tt]
  all_goals ((try and_intros) <;> first | rfl | assumption | (((rw [pVal, if_pos hb]) <;> rfl)))
 have hb := of_decide_eq_false hb
 have hq : pVal o l = bdVal o l := by rw [pVal, if_neg hb]
 refine AW.skip ?_
 all_goals simp only [zs, simprocAttr]
 all_goals apply_assumption
 refine AW.seq_k fun K5 h5 => ?_
 all_goals refine AW.sr trivial ?_
 refine AW.block ?_   -- 0
 refine AW.loop (fun m s σ => σ = Hp.empty ∧ ∃ i : Nat, m + i = l.length ∧ s.t 2 = .lp 2 0 ∧ s.l 2 = some (encO o) ∧ s.t 3 = .lp 3 0 ∧ s.l 3 = some [.sl (l.map encBd)] ∧ s.t 4 = .lp 4 0 ∧ s.l 4 = some [.c (.int .i64 0), .c (.int .i64 0), .c (.string ⟨#[]⟩)] ∧ s.t 6 = .c (.int .i64 (i : Nat)) ∧ pVal o l = bdVal o (l.drop i)) l.length ?_ ?_
 ·refine ⟨rfl, 0, by simp, ?_⟩
  simp only [zs, simprocAttr]
  all_goals ((try and_intros) <;> first | rfl | assumption | (first | exact hq | rfl))
 rintro m s σ ⟨rfl, i, hm, e2, l2, e3, l3, e4, l4, e6, hp⟩
 refine AW.seq_k fun K7 h7 => ?_
 all_goals refine AW.sr (J4 e3 l3 e6 @List.length_map.{0,0}) ?_
 refine AW.cd (decide (i < l.length)) (fun hi => ?_) (fun hi => ?_)
 ·have hi := of_decide_eq_true hi
  obtain ⟨x, hx, hxm, hg, hd⟩ := bd_get hi
  have hw := wadd1 (a := i) (by omega)
  rw [hd, bdVal] at hp
  refine AW.skip ?_
  simp only [zs, simprocAttr]
  all_goals apply_assumption
  refine AW.seq_k fun K9 h9 => ?_
  refine AW.block ?_   -- 1
  refine AW.seq_k fun K10 h10 => ?_
  refine AW.dv { sd := fun d => d == 2 || d == 3 } [(0,0),(2,0),(6,0),(1,1),(3,0),(4,0),(5,1),(7,1),(8,0)] ?_
  have q1q := J10 e2 l2 e3 l3 e6 hi hg @encBd.eq_1 @encO.eq_1 @List.length_map.{0,0}
  iterate 3 refine D.one q1q ?_
  refine D.one q1q ?_
  iterate 2 refine D.one q1q ?_
  iterate 2 refine D.one q1q ?_
  refine D.one q1q ?_
  (refine D.nil ?_; apply_assumption)
  refine AW.cd (x.var.toList == o.var.toList) (fun hc => ?_) (fun hc => ?_)
  ·have hc : eqS x.var o.var = true := hc
   rw [if_pos hc] at hp
   refine AW.seq_k fun K11 h11 => ?_
   refine AW.dv { sd := fun d => d == 2 || d == 3 } [(1,0),(3,0),(0,1),(2,1),(4,0),(5,0),(6,1),(7,2),(8,2),(9,0)] ?_
   have q2q := J12 @Bool.or_self e2 l2 e3 l3 e4 l4 e6 hi hg @encBd.eq_1 (J3 @encO.eq_1 @encVal.eq_1 @List.length_map.{0,0})
   iterate 7 refine D.onf q2q ?_
   have q3q := J12 @Bool.or_self e2 l2 e3 l3 e4 l4 e6 hi hg @encBd.eq_1 (J3 @encO.eq_1 @encVal.eq_1 @List.length_map.{0,0})
   refine D.cl q3q (rof_spec o x.ev (hl x hxm)) ?_
   all_goals iterate 2 refine D.onf q3q ?_
   all_goals (refine D.nil ?_; apply_assumption)
   refine AW.ret ?_
   all_goals simp only [zs, simprocAttr, zz, tt, e4, l4]
   all_goals ((try and_intros) <;> first | rfl | assumption | (((rw [hp]) <;> rfl)))
  ·have hc : eqS x.var o.var = false := hc
   rw [hc, if_neg Bool.false_ne_true] at hp
   refine AW.skip ?_
   simp only [zs, simprocAttr]
   all_goals apply_assumption
   have q4q := J8 e6 hw e2 l2 e3 l3 e4 l4
   refine AW.reg0 (S.rn q4q ?_)
   simp only [ze, simprocAttr, q4q]
   refine ⟨m - 1, by omega, i + 1, by omega, ?_⟩
   all_goals ((try and_intros) <;> first | rfl | assumption | (exact hp))
 ·have hi := of_decide_eq_false hi
  refine AW.exit ?_
  simp only [zs, simprocAttr]
  all_goals apply_assumption
  rw [List.drop_of_length_le (by omega), bdVal] at hp
  refine AW.sr (J2 e4 l4) ?_
  refine AW.ret ?_
  simp only [zs, simprocAttr, zz, tt, e4, l4]
  all_goals ((try and_intros) <;> first | rfl | assumption | (((rw [hp]) <;> rfl)))
theorem rcond_spec (c : Cnd) (l : List Bd) (hl : lenB l) (hll : l.length < 4611686018427387904) : PCalls Tryz.prog 84 [.agg (encC c), .agg [.sl (l.map encBd)]] (fun v => v = .c (.bool (condB l c))) := by
 refine PCalls.intro Tryz.call84 Tryz.func84 rfl Tryz.ntmps84 Tryz.results84 (by simp) ?_
 refine AW.sr (J2 @encC.eq_1 @encO.eq_1) ?_
 refine AW.seq_k fun K2 h2 => ?_
 refine AW.reg0 ?_
 iterate 3 refine S.one @encVal.eq_1 ?_
 (refine S.g rfl rfl fun Y Z => ?_; simp only [zz, simprocAttr, -Int.reduceNatCast', -Int.reduceToNat, encVal]; (first | refine PCalls.eqto (rValue_spec c.l l hl hll) ?_ | refine PCalls.eqto (rValue_spec c.r l hl hll) ?_) <;> (refine Z _ _ ?_; clear Z Y))
 all_goals iterate 6 refine S.one @encVal.eq_1 ?_
 all_goals (refine S.nil ?_; simp only [ze, simprocAttr, encVal]; apply_assumption)
 refine AW.seq_k fun K3 h3 => ?_
 all_goals refine AW.reg0 ?_
 all_goals iterate 3 refine S.one @encVal.eq_1 ?_
 all_goals (refine S.g rfl rfl fun Y Z => ?_; simp only [zz, simprocAttr, -Int.reduceNatCast', -Int.reduceToNat, encVal]; (first | refine PCalls.eqto (rValue_spec c.l l hl hll) ?_ | refine PCalls.eqto (rValue_spec c.r l hl hll) ?_) <;> (refine Z _ _ ?_; clear Z Y))
 all_goals iterate 6 refine S.one @encVal.eq_1 ?_
 all_goals (refine S.nil ?_; simp only [ze, simprocAttr, encVal]; apply_assumption)
 refine AW.seq_j (fun s' σ' => σ' = Hp.empty ∧ s'.t 4 = .c (.bool (condB l c))) ?_ ?_
 ·cases h1 : (pVal c.l l).2 <;> cases h2 : (pVal c.r l).2
  all_goals refine AW.reg0 ?_
  all_goals iterate 11 refine S.one @encVal.eq_1 ?_
  all_goals (first | (refine S.cl @encVal.eq_1 (rHolds_spec _ _ _) ?_) | refine S.one trivial ?_)
  all_goals iterate 2 refine S.one @encVal.eq_1 ?_
  all_goals refine S.nil ?_
  all_goals simp only [ze, simprocAttr, encVal]
  all_goals simp_all [condB]
 rintro s σ ⟨rfl, e4⟩
 refine AW.ret ?_
 all_goals simp only [zs, simprocAttr, e4]
 all_goals exact fn1
theorem condAll_step {p : Cnd → Bool} {l : List Cnd} {i : Nat} {x : Cnd} (h : l.drop i = x :: l.drop (i + 1)) : (l.drop i).all p = (p x && (l.drop (i + 1)).all p) := by rw [h]; rfl
theorem rAll_spec (cs : List Cnd) (l : List Bd) (hl : lenB l) (hll : l.length < 4611686018427387904) (hcl : cs.length < 4611686018427387904) : PCalls Tryz.prog 46 [.sl (cs.map encC), .agg [.sl (l.map encBd)]] (fun v => v = .c (.bool (cs.all (condB l)))) := by
 refine PCalls.intro Tryz.call46 Tryz.func46 rfl Tryz.ntmps46 Tryz.results46 (by simp) ?_
 refine AW.sr trivial ?_
 refine AW.seq_k fun K2 h2 => ?_
 refine AW.sr trivial ?_
 refine AW.block ?_   -- 0
 refine AW.loop (fun m s σ => σ = Hp.empty ∧ ∃ i : Nat, m + i = cs.length ∧ s.t 0 = .sl (cs.map encC) ∧ s.t 3 = .lp 3 0 ∧ s.l 3 = some [.sl (l.map encBd)] ∧ s.t 5 = .c (.int .i64 (i : Nat)) ∧ cs.all (condB l) = (cs.drop i).all (condB l)) cs.length ?_ ?_
 ·refine ⟨rfl, 0, by simp, ?_⟩
  simp only [zs, simprocAttr]
  all_goals exact fn1
 rintro m s σ ⟨rfl, i, hm, e0, e3, l3, e5, hp⟩
 refine AW.seq_k fun K4 h4 => ?_
 all_goals refine AW.sr (J3 e0 e5 @List.length_map.{0,0}) ?_
 refine AW.cd (decide (i < cs.length)) (fun hi => ?_) (fun hi => ?_)
 ·have hi := of_decide_eq_true hi
  obtain ⟨c, hx, hcm, hg, hd⟩ := cnd_get hi
  have hw := wadd1 (a := i) (by omega)
  rw [condAll_step hd] at hp
  refine AW.skip ?_
  simp only [zs, simprocAttr]
  all_goals apply_assumption
  refine AW.seq_k fun K6 h6 => ?_
  refine AW.block ?_   -- 1
  refine AW.seq_k fun K7 h7 => ?_
  refine AW.dv { sd := fun d => d == 3 } [(0,0),(1,0),(2,0),(3,1),(4,1),(5,2),(6,0)] ?_
  have q1q := J8 e0 e3 l3 e5 hi hg @cd @List.length_map.{0,0}
  iterate 3 refine D.one q1q ?_
  iterate 2 refine D.one q1q ?_
  have q2q := J8 e0 e3 l3 e5 hi hg @cd @List.length_map.{0,0}
  refine D.cl q2q (rcond_spec c l hl hll) ?_
  all_goals refine D.one q2q ?_
  all_goals (refine D.nil ?_; apply_assumption)
  refine AW.cd (!condB l c) (fun hc => ?_) (fun hc => ?_)
  ·have hc : condB l c = false := by simpa using hc
   refine AW.sr trivial ?_
   refine AW.ret ?_
   simp only [zs, simprocAttr]
   all_goals ((try and_intros) <;> first | rfl | assumption | (((rw [hp, hc]) <;> rfl)))
  ·have hc : condB l c = true := by simpa using hc
   refine AW.skip ?_
   simp only [zs, simprocAttr]
   all_goals apply_assumption
   rw [hc, Bool.true_and] at hp
   have q3q := J5 e5 hw e0 e3 l3
   refine AW.reg0 (S.rn q3q ?_)
   simp only [ze, simprocAttr, q3q]
   refine ⟨m - 1, by omega, i + 1, by omega, ?_⟩
   all_goals ((try and_intros) <;> first | rfl | assumption | (exact hp))
 ·have hi := of_decide_eq_false hi
  refine AW.exit ?_
  simp only [zs, simprocAttr]
  all_goals apply_assumption
  rw [List.drop_of_length_le (by omega)] at hp
  refine AW.sr trivial ?_
  refine AW.ret ?_
  simp only [zs, simprocAttr]
  all_goals ((try and_intros) <;> first | rfl | assumption | (((rw [hp]) <;> rfl)))
def cmpBd (a b : Bd) : Int := orI [cmpS a.var b.var, cmpId (idOf a) (idOf b)]
def cmpL : List Bd → List Bd → Int
  | [], [] => 0
  | [], _ :: _ => -1
  | _ :: _, [] => 1
  | a :: l, b :: r => if cmpBd a b ≠ 0 then cmpBd a b else cmpL l r
theorem compare_bd (a b : Bd) : PCalls Tryz.prog 134 [.agg (encBd a), .agg (encBd b)] (fun v => v = .c (.int .i64 (cmpBd a b))) := by
 refine PCalls.intro Tryz.call134 Tryz.func134 rfl Tryz.ntmps134 Tryz.results134 (by simp) ?_
 refine AW.sr @encBd.eq_1 ?_
 refine AW.seq_k fun K2 h2 => ?_
 refine AW.dv { sd := fun d => d == 2 || d == 3 } [(0,0),(2,0),(5,0),(6,0),(8,0),(9,0),(1,1),(3,1),(7,1),(10,1),(4,2),(11,2),(12,2),(13,2),(14,0)] ?_
 iterate 6 refine D.one trivial ?_
 iterate 4 refine D.one trivial ?_
 refine D.cl trivial (compare_str _ _) ?_
 all_goals refine D.cl trivial (compare_id (idOf a) (idOf b)) ?_
 all_goals (refine D.g rfl trivial rfl rfl fun Y Z => ?_; simp only [zb, simprocAttr, -Int.reduceNatCast', -Int.reduceToNat, tt]; refine ⟨rfl, (by simp), ?_⟩ <;> (refine Z _ _ ?_; clear Z Y))
 all_goals refine D.cl trivial (or_spec [cmpS a.var b.var, cmpId (idOf a) (idOf b)] (by simp)) ?_
 all_goals refine D.one trivial ?_
 all_goals (refine D.nil ?_; apply_assumption)
 refine AW.ret ?_
 all_goals simp only [zs, simprocAttr]
 all_goals rfl
theorem compareF (l r : List Bd) (hl : l.length < 4611686018427387904) : PCalls Tryz.prog 133 [.sl (l.map encBd), .sl (r.map encBd), .fn (.func 134) [] []] (fun v => v = .c (.int .i64 (cmpL l r))) := by
 refine PCalls.intro Tryz.call133 Tryz.func133 rfl Tryz.ntmps133 Tryz.results133 (by simp) ?_
 refine AW.sr trivial ?_
 refine AW.seq_j (fun s σ => σ = Hp.empty ∧ s.t 0 = .sl (l.map encBd) ∧ s.t 1 = .sl (r.map encBd) ∧ l.length ≤ r.length ∧ cmpL l r = cmpL [] (r.drop l.length)) ?_ ?_
 ·refine AW.sr trivial ?_
  refine AW.block ?_   -- 0
  refine AW.loop (fun m s σ => σ = Hp.empty ∧ ∃ i : Nat, m + i = l.length ∧ s.t 0 = .sl (l.map encBd) ∧ s.t 1 = .sl (r.map encBd) ∧ s.t 2 = .fn (.func 134) [] [] ∧ s.t 11 = .sl (l.map encBd) ∧ s.t 12 = .c (.int .i64 l.length) ∧ s.t 13 = .c (.int .i64 i) ∧ i ≤ r.length ∧ cmpL l r = cmpL (l.drop i) (r.drop i)) l.length ?_ ?_
  ·refine ⟨rfl, 0, by simp, ?_⟩
   simp only [zs, simprocAttr]
   simp
  rintro m s σ ⟨rfl, i, hm, e0, e1, e2, e11, e12, e13, hir, hp⟩
  all_goals refine AW.sr (J2 e12 e13) ?_
  refine AW.seq_k fun K4 h4 => ?_
  refine AW.cd (decide (i < l.length)) (fun hc => ?_) (fun hc => ?_)
  ·refine AW.skip ?_
   simp only [zs, simprocAttr]
   all_goals apply_assumption
   have hi : i < l.length := by simpa using hc
   have hg := getD_map (f := encBd) hi
   have hd : l.drop i = l[i] :: l.drop (i + 1) := List.drop_eq_getElem_cons hi
   generalize ha : l[i] = a at hg hd
   have hw : IntKind.i64.wrap ((i : Int) + 1) = ((i + 1 : Nat) : Int) := by rw [wrap_small _ (by omega) (by omega)]; rfl
   refine AW.seq_k fun K5 h5 => ?_
   refine AW.block ?_   -- 1
   refine AW.sr (J5 e11 e13 hi hg @encBd.eq_1) ?_
   refine AW.seq_k fun K7 h7 => ?_
   refine AW.sr e1 ?_
   refine AW.cd (decide ((i : Int) ≥ r.length)) (fun hx => ?_) (fun hx => ?_)
   ·have hx := of_decide_eq_true hx
    refine AW.sr trivial ?_
    refine AW.ret ?_
    simp only [zs, simprocAttr]
    rw [hp, hd, List.drop_of_length_le (show r.length ≤ i by omega)]; rfl
   ·have hx := of_decide_eq_false hx
    have hj : i < r.length := by omega
    have hg2 := getD_map (f := encBd) hj
    have hd2 : r.drop i = r[i] :: r.drop (i + 1) := List.drop_eq_getElem_cons hj
    generalize hb : r[i] = b at hg2 hd2
    rw [hd, hd2, cmpL] at hp
    refine AW.skip ?_
    simp only [zs, simprocAttr]
    all_goals apply_assumption
    refine AW.sr (J4 e1 hj hg2 @encBd.eq_1) ?_
    refine AW.seq_k fun K11 h11 => ?_
    refine AW.reg0 ?_
    iterate 3 refine S.one (J2 e2 @encBd.eq_1) ?_
    have q1q := J2 e2 @encBd.eq_1
    refine S.cl q1q (compare_bd a b) ?_
    all_goals refine S.one q1q ?_
    all_goals (refine S.nil ?_; simp only [ze, simprocAttr, q1q]; apply_assumption)
    all_goals refine AW.sr trivial ?_
    refine AW.cd (cmpBd a b != 0) (fun hy => ?_) (fun hy => ?_)
    ·have hy : cmpBd a b ≠ 0 := by simpa using hy
     refine AW.sr trivial ?_
     refine AW.ret ?_
     simp only [zs, simprocAttr]
     rw [hp, if_pos hy]
    ·have hy : ¬ cmpBd a b ≠ 0 := by simpa using hy
     rw [if_neg hy] at hp
     refine AW.skip ?_
     simp only [zs, simprocAttr]
     all_goals apply_assumption
     have q2q := J7 e13 hw e0 e1 e2 e11 e12
     refine AW.reg0 (S.rn q2q ?_)
     simp only [ze, simprocAttr, q2q]
     exact ⟨m - 1, by omega, i + 1, by omega, rfl, by omega, hp⟩
  ·refine AW.exit ?_
   simp only [zs, simprocAttr]
   have hc := of_decide_eq_false hc
   have hil : i = l.length := by omega
   subst hil
   rw [List.drop_length] at hp
   exact ⟨e0, e1, hir, hp⟩
 rintro s σ ⟨rfl, e0, e1, hlr, hp⟩
 refine AW.seq_k fun K14 h14 => ?_
 all_goals refine AW.sr (J2 e0 e1) ?_
 refine AW.cd (decide (l.length < r.length)) (fun hc => ?_) (fun hc => ?_)
 ·have hc := of_decide_eq_true hc
  refine AW.sr trivial ?_
  refine AW.ret ?_
  simp only [zs, simprocAttr]
  rw [hp, List.drop_eq_getElem_cons hc]; rfl
 ·have hc := of_decide_eq_false hc
  refine AW.skip ?_
  simp only [zs, simprocAttr]
  all_goals apply_assumption
  refine AW.sr trivial ?_
  refine AW.ret ?_
  simp only [zs, simprocAttr]
  rw [hp, List.drop_of_length_le (by omega)]; rfl
theorem compare_part (l r : List Bd) (hl : l.length < 4611686018427387904) : PCalls Tryz.prog 103 [.agg [.sl (l.map encBd)], .agg [.sl (r.map encBd)]] (fun v => v = .c (.int .i64 (cmpL l r))) := by
 refine PCalls.intro Tryz.call103 Tryz.func103 rfl Tryz.ntmps103 Tryz.results103 (by simp) ?_
 refine AW.sr trivial ?_
 refine AW.seq_k fun K2 h2 => ?_
 refine AW.reg0 ?_
 iterate 4 refine S.one trivial ?_
 refine S.cl trivial (compareF _ _ (by assumption)) ?_
 all_goals refine S.one trivial ?_
 all_goals (refine S.nil ?_; simp only [ze, simprocAttr]; apply_assumption)
 refine AW.ret ?_
 all_goals simp only [zs, simprocAttr]
theorem rcompare_part (l r : List Bd) (hl : l.length < 4611686018427387904) : PCalls Tryz.prog 111 [.agg [.sl (l.map encBd)], .agg [.sl (r.map encBd)]] (fun v => v = .c (.int .i64 (cmpL l r))) := by
 refine PCalls.intro Tryz.call111 Tryz.func111 rfl Tryz.ntmps111 Tryz.results111 (by simp) ?_
 refine AW.sr trivial ?_
 refine AW.seq_j (fun s σ => σ = Hp.empty ∧ s.t 2 = .lp 2 0 ∧ s.l 2 = some [.sl (l.map encBd)] ∧ s.t 3 = .lp 3 0 ∧ s.l 3 = some [.sl (r.map encBd)] ∧ ∃ i : Nat, (l.length ≤ i ∨ r.length ≤ i) ∧ i ≤ l.length ∧ i ≤ r.length ∧ cmpL l r = cmpL (l.drop i) (r.drop i)) ?_ ?_
 ·refine AW.sr trivial ?_
  refine AW.block ?_   -- 0
  refine AW.loop (fun m s σ => σ = Hp.empty ∧ ∃ i : Nat, m + i = l.length ∧ s.t 2 = .lp 2 0 ∧ s.l 2 = some [.sl (l.map encBd)] ∧ s.t 3 = .lp 3 0 ∧ s.l 3 = some [.sl (r.map encBd)] ∧ s.t 5 = .c (.int .i64 i) ∧ i ≤ r.length ∧ cmpL l r = cmpL (l.drop i) (r.drop i)) l.length ?_ ?_
  ·refine ⟨rfl, 0, by simp, ?_⟩
   simp only [zs, simprocAttr]
   simp
  rintro m s σ ⟨rfl, i, hm, e2, l2, e3, l3, e5, hir, hp⟩
  refine AW.seq_k fun K3 h3 => ?_
  refine AW.seq_j (fun s' σ => σ = Hp.empty ∧ s'.t 2 = .lp 2 0 ∧ s'.l 2 = some [.sl (l.map encBd)] ∧ s'.t 3 = .lp 3 0 ∧ s'.l 3 = some [.sl (r.map encBd)] ∧ s'.t 5 = .c (.int .i64 i) ∧ s'.t 20 = .c (.bool (decide (i < l.length ∧ i < r.length)))) ?_ ?_
  ·clear hp
   refine AW.reg0 ?_
   have q1q := J5 e2 l2 e3 l3 e5
   iterate 4 refine S.one q1q ?_
   (refine S.sp q1q fun b a13 => ?_; cases b <;> (try exact nope a13))
   all_goals iterate 7 refine S.one q1q ?_
   all_goals refine S.nil ?_
   all_goals simp only [ze, simprocAttr, q1q]
   all_goals (simp only [decide_eq_true_eq, decide_eq_false_iff_not] at a13; simp [a13]; try omega)
  clear e2 l2 e3 l3 e5
  rintro s σ ⟨rfl, e2, l2, e3, l3, e5, e20⟩
  refine AW.cond (b := _) e20 (fun hc => ?_) (fun hc => ?_)
  ·obtain ⟨hi, hj⟩ := of_decide_eq_true hc
   refine AW.skip ?_
   simp only [zs, simprocAttr]
   all_goals apply_assumption
   have hg := getD_map (f := encBd) hi
   have hg2 := getD_map (f := encBd) hj
   have hd : l.drop i = l[i] :: l.drop (i + 1) := List.drop_eq_getElem_cons hi
   have hd2 : r.drop i = r[i] :: r.drop (i + 1) := List.drop_eq_getElem_cons hj
   generalize ha : l[i] = a at hg hd
   generalize hb : r[i] = b at hg2 hd2
   rw [hd, hd2, cmpL] at hp
   have hw : IntKind.i64.wrap ((i : Int) + 1) = ((i + 1 : Nat) : Int) := by rw [wrap_small _ (by omega) (by omega)]; rfl
   refine AW.seq_k fun K4 h4 => ?_
   refine AW.block ?_   -- 1
   refine AW.sr (J6 e2 l2 e5 hi hg @encBd.eq_1) ?_
   refine AW.sr (J6 e3 l3 e5 hj hg2 @encBd.eq_1) ?_
   refine AW.seq_k fun K7 h7 => ?_
   refine AW.sr @encBd.eq_1 ?_
   refine AW.cd (Op.bytesLess a.var.toList b.var.toList) (fun hx => ?_) (fun hx => ?_)
   ·refine AW.sr trivial ?_
    refine AW.ret ?_
    simp only [zs, simprocAttr]
    have : cmpBd a b = -1 := by simp [cmpBd, orI, cmpS, hx]
    rw [hp, this]; simp
   ·refine AW.skip ?_
    simp only [zs, simprocAttr]
    all_goals apply_assumption
    refine AW.seq_k fun K10 h10 => ?_
    refine AW.sr @encBd.eq_1 ?_
    refine AW.cd (!(Op.bytesLess a.var.toList b.var.toList || a.var.toList == b.var.toList)) (fun hy => ?_) (fun hy => ?_)
    ·refine AW.sr trivial ?_
     refine AW.ret ?_
     simp only [zs, simprocAttr]
     rw [Bool.not_eq_true'] at hy
     have hs : cmpS a.var b.var = 1 := by unfold cmpS; rw [if_neg (by rw [hx]; simp), if_neg (by rw [hy]; simp)]
     have : cmpBd a b = 1 := by simp [cmpBd, orI, hs]
     rw [hp, this]; simp
    ·rw [Bool.not_eq_false'] at hy
     have hs : cmpS a.var b.var = 0 := by simp only [cmpS]; rw [if_neg (by rw [hx]; simp), if_pos hy]
     have hq : cmpBd a b = cmpId (idOf a) (idOf b) := by
      simp only [cmpBd, orI, hs]
      by_cases hz : cmpId (idOf a) (idOf b) = 0 <;> simp [hz]
     rw [hq] at hp
     refine AW.skip ?_
     simp only [zs, simprocAttr]
     all_goals apply_assumption
     refine AW.seq_k fun K13 h13 => ?_
     refine AW.reg0 ?_
     iterate 6 refine S.one @encBd.eq_1 ?_
     refine S.cl @encBd.eq_1 (rcompare_id (idOf a) (idOf b)) ?_
     all_goals refine S.one @encBd.eq_1 ?_
     all_goals (refine S.nil ?_; simp only [ze, simprocAttr, encBd]; apply_assumption)
     all_goals refine AW.sr trivial ?_
     refine AW.cd (cmpId (idOf a) (idOf b) != 0) (fun hz => ?_) (fun hz => ?_)
     ·have hz : cmpId (idOf a) (idOf b) ≠ 0 := by simpa using hz
      refine AW.sr trivial ?_
      refine AW.ret ?_
      simp only [zs, simprocAttr]
      rw [hp, if_pos hz]
     ·have hz : ¬ cmpId (idOf a) (idOf b) ≠ 0 := by simpa using hz
      rw [if_neg hz] at hp
      refine AW.skip ?_
      simp only [zs, simprocAttr]
      all_goals apply_assumption
      have q2q := J6 e5 hw e2 l2 e3 l3
      refine AW.reg0 (S.rn q2q ?_)
      simp only [ze, simprocAttr, q2q]
      exact ⟨m - 1, by omega, i + 1, by omega, rfl, by omega, hp⟩
  ·have hc := of_decide_eq_false hc
   refine AW.exit ?_
   simp only [zs, simprocAttr]
   exact ⟨e2, l2, e3, l3, i, by omega, by omega, hir, hp⟩
 rintro s σ ⟨rfl, e2, l2, e3, l3, i, h1, h2, h3, hp⟩
 refine AW.seq_k fun K16 h16 => ?_
 refine AW.block ?_   -- 2
 all_goals have q3q := J4 e2 l2 e3 l3
 all_goals refine AW.sr q3q ?_
 refine AW.cd (decide (l.length < r.length)) (fun hc => ?_) (fun hc => ?_)
 ·have hc := of_decide_eq_true hc
  refine AW.sr trivial ?_
  refine AW.ret ?_
  simp only [zs, simprocAttr]
  rw [hp, List.drop_of_length_le (show l.length ≤ i by omega), List.drop_eq_getElem_cons (show i < r.length by omega)]; rfl
 ·have hc := of_decide_eq_false hc
  refine AW.sr (J4 e2 l2 e3 l3) ?_
  refine AW.cd (decide ((l.length : Int) > r.length)) (fun hd => ?_) (fun hd => ?_)
  ·have hd := of_decide_eq_true hd
   refine AW.sr trivial ?_
   refine AW.ret ?_
   simp only [zs, simprocAttr]
   rw [hp, List.drop_of_length_le (show r.length ≤ i by omega), List.drop_eq_getElem_cons (show i < l.length by omega)]; rfl
  ·have hd := of_decide_eq_false hd
   refine AW.skip ?_
   simp only [zs, simprocAttr]
   all_goals apply_assumption
   refine AW.sr trivial ?_
   refine AW.ret ?_
   simp only [zs, simprocAttr]
   rw [hp, List.drop_of_length_le (show l.length ≤ i by omega), List.drop_of_length_le (show r.length ≤ i by omega)]; rfl
def encP (l : List Bd) : List V := [.sl (l.map encBd)]
structure okL (l : List Bd) : Prop where
  len : l.length < 4611686018427387904
  ev : lenB l
def idxP (l : List (List Bd)) (p : List Bd) : Nat → Nat
  | 0 => 0
  | i + 1 => if cmpL (l.getD i []) p > 0 then idxP l p i else i + 1
def samePart (a b : List Bd) : Bool := allEq eqBd a b
def putP (l : List (List Bd)) (p : List Bd) : List (List Bd) :=
  if 0 < idxP l p l.length ∧ samePart (l.getD (idxP l p l.length - 1) []) p = true then l else l.take (idxP l p l.length) ++ p :: l.drop (idxP l p l.length)
theorem part_get {l : List (List Bd)} {i : Nat} (h : i < l.length) : ∃ x, l[i]? = some x ∧ x ∈ l ∧ (l.map encP).getD i [] = encP x ∧ l.drop i = x :: l.drop (i + 1) ∧ l.getD i [] = x := ⟨l[i], List.getElem?_eq_getElem h, List.getElem_mem h, getD_map h, List.drop_eq_getElem_cons h, by rw [List.getD_eq_getElem?_getD, List.getElem?_eq_getElem h]; rfl⟩
theorem len_part (l : List (List Bd)) : ∀ (e : List V), e ∈ l.map encP → e.length = 1 := fun e he => by
 obtain ⟨a, _, rfl⟩ := List.mem_map.1 he; rfl
theorem wsub1 {a : Nat} (h : a + 1 < 9223372036854775808) : IntKind.i64.wrap (((a + 1 : Nat) : Int) - 1) = (a : Int) := by rw [wrap_small _ (by omega) (by omega)]; omega
theorem idxP_le (l : List (List Bd)) (p : List Bd) : ∀ n, idxP l p n ≤ n
  | 0 => Nat.le_refl _
  | i + 1 => by
    have := idxP_le l p i
    rw [idxP]; split <;> omega
theorem rputP_spec (l : List (List Bd)) (p : List Bd) (hl : l.length < 1048576) (ho : ∀ x ∈ l, okL x) : PCalls Tryz.prog 79 [.sl (l.map encP), .agg [.sl (p.map encBd)]] (fun v => v = .sl ((putP l p).map encP)) := by
  refine PCalls.intro Tryz.call79 Tryz.func79 rfl Tryz.ntmps79 Tryz.results79 (by simp) ?_
  refine AW.sr trivial ?_
  refine AW.sr @List.length_map.{0,0} ?_
  refine AW.seq_j (fun s' σ' => σ' = Hp.empty ∧ s'.t 0 = .sl (l.map encP) ∧ s'.t 3 = .lp 3 0 ∧ s'.l 3 = some [.sl (p.map encBd)] ∧ s'.t 5 = .c (.int .i64 (idxP l p l.length : Nat))) ?_ ?_
  · refine AW.block ?_   -- 0
    refine AW.loop (fun m s σ => σ = Hp.empty ∧ m ≤ l.length ∧ s.t 0 = .sl (l.map encP) ∧ s.t 3 = .lp 3 0 ∧ s.l 3 = some [.sl (p.map encBd)] ∧ s.t 5 = .c (.int .i64 (m : Nat)) ∧ idxP l p l.length = idxP l p m) l.length ?_ ?_
    · refine ⟨rfl, Nat.le_refl _, ?_⟩
      simp only [zs, simprocAttr]
      all_goals exact fn1
    rintro m s σ ⟨rfl, hm, e0, e3, l3, e5, hp⟩
    refine AW.seq_k fun K3 h3 => ?_
    refine AW.seq_j (fun s' σ' => σ' = Hp.empty ∧ s'.t 0 = .sl (l.map encP) ∧ s'.t 3 = .lp 3 0 ∧ s'.l 3 = some [.sl (p.map encBd)] ∧ s'.t 5 = .c (.int .i64 (m : Nat)) ∧ s'.t 20 = .c (.bool (decide (0 < m) && decide (cmpL (l.getD (m - 1) []) p > 0)))) ?_ ?_
    · cases m with
      | zero =>
        refine AW.dv { sd := fun d => d == 3 } [(0,0),(1,0),(2,0),(3,0),(4,0),(5,0),(6,0),(7,1),(8,1),(9,2),(10,0),(11,0)] ?_
        have q1q := J4 e0 e3 l3 e5
        refine D.one q1q ?_
        (refine D.sp q1q fun b a10 => ?_; cases b <;> (try exact nope a10))
        all_goals iterate 5 refine D.one q1q ?_
        all_goals iterate 2 refine D.one q1q ?_
        all_goals have q2q := J4 e0 e3 l3 e5
        all_goals (first | (refine D.cl q2q (rcompare_part _ _ hxl.len) ?_) | refine D.one trivial ?_)
        all_goals iterate 2 refine D.one q2q ?_
        all_goals refine D.nil ?_
        all_goals simp only [ze, simprocAttr, q2q]
        all_goals simp_all
      | succ j =>
        have hj : j < l.length := by omega
        obtain ⟨x, hx, hxm, hg, hd, hgd⟩ := part_get hj
        have hxl := ho x hxm
        have hw := wsub1 (a := j) (by omega)
        refine AW.dv { sd := fun d => d == 3 } [(0,0),(1,0),(2,0),(3,0),(4,0),(5,0),(6,0),(7,1),(8,1),(9,2),(10,0),(11,0)] ?_
        have q3q := J9 e0 e3 l3 e5 hj hg hw @encP.eq_1 @List.length_map.{0,0}
        refine D.one q3q ?_
        (refine D.sp q3q fun b a10 => ?_; cases b <;> (try exact nope a10))
        all_goals iterate 5 refine D.one q3q ?_
        all_goals iterate 2 refine D.one q3q ?_
        all_goals have q4q := J9 e0 e3 l3 e5 hj hg hw @encP.eq_1 @List.length_map.{0,0}
        all_goals (first | (refine D.cl q4q (rcompare_part _ _ hxl.len) ?_) | refine D.one trivial ?_)
        all_goals iterate 2 refine D.one q4q ?_
        all_goals refine D.nil ?_
        all_goals simp only [ze, simprocAttr, q4q]
        all_goals simp_all
    rintro s σ ⟨rfl, e0, e3, l3, e5, e20⟩
    refine AW.cond (b := decide (0 < m) && decide (cmpL (l.getD (m - 1) []) p > 0)) e20 (fun hc => ?_) (fun hc => ?_)
    · rw [Bool.and_eq_true, decide_eq_true_eq, decide_eq_true_eq] at hc
      obtain ⟨h0, hc⟩ := hc
      obtain ⟨j, rfl⟩ : ∃ j, m = j + 1 := ⟨m - 1, by omega⟩
      have hw := wsub1 (a := j) (by omega)
      have hc : cmpL (l.getD j []) p > 0 := hc
      rw [idxP, if_pos hc] at hp
      refine AW.skip ?_
      simp only [zs, simprocAttr]
      all_goals apply_assumption
      refine AW.block ?_   -- 1
      have q5q := J5 e5 hw e0 e3 l3
      refine AW.reg0 (S.rn q5q ?_)
      simp only [ze, simprocAttr, q5q]
      refine ⟨j, by omega, by omega, ?_⟩
      all_goals ((try and_intros) <;> first | rfl | assumption | (exact hp))
    · refine AW.exit ?_
      simp only [zs, simprocAttr]
      have hm2 : idxP l p m = m := by
        cases m with
        | zero => rfl
        | succ j =>
          rw [idxP, if_neg (by simpa using hc)]
      rw [hp, hm2]
      all_goals exact fn1
  rintro s σ ⟨rfl, e0, e3, l3, e5⟩
  have hil := idxP_le l p l.length
  generalize hi : idxP l p l.length = i at e5 hil
  have hput : putP l p = if 0 < i ∧ samePart (l.getD (i - 1) []) p = true then l else l.take i ++ p :: l.drop i := by rw [← hi]; rfl
  refine AW.seq_k fun K4 h4 => ?_
  refine AW.seq_j (fun s' σ' => σ' = Hp.empty ∧ s'.t 0 = .sl (l.map encP) ∧ s'.t 3 = .lp 3 0 ∧ s'.l 3 = some [.sl (p.map encBd)] ∧ s'.t 5 = .c (.int .i64 (i : Nat)) ∧ s'.t 33 = .c (.bool (decide (0 < i) && samePart (l.getD (i - 1) []) p))) ?_ ?_
  · clear hi hput
    cases i with
    | zero =>
      refine AW.dv { sd := fun d => d == 3 } [(0,0),(1,0),(2,0),(3,0),(4,0),(5,0),(6,0),(7,1),(8,1),(9,2),(10,0)] ?_
      have q6q := J4 e0 e3 l3 e5
      refine D.one q6q ?_
      (refine D.sp q6q fun b a24 => ?_; cases b <;> (try exact nope a24))
      all_goals iterate 5 refine D.one q6q ?_
      all_goals iterate 2 refine D.one q6q ?_
      all_goals have q7q := J4 e0 e3 l3 e5
      all_goals (first | (refine D.cl q7q (rsame_part _ _ hxl.len hxl.ev) ?_) | refine D.one trivial ?_)
      all_goals refine D.one q7q ?_
      all_goals refine D.nil ?_
      all_goals simp only [ze, simprocAttr, q7q]
      all_goals simp_all
    | succ j =>
      have hj : j < l.length := by omega
      obtain ⟨x, hx, hxm, hg, hd, hgd⟩ := part_get hj
      have hxl := ho x hxm
      have hw := wsub1 (a := j) (by omega)
      refine AW.dv { sd := fun d => d == 3 } [(0,0),(1,0),(2,0),(3,0),(4,0),(5,0),(6,0),(7,1),(8,1),(9,2),(10,0)] ?_
      have q8q := J9 e0 e3 l3 e5 hj hg hw @encP.eq_1 @List.length_map.{0,0}
      refine D.one q8q ?_
      (refine D.sp q8q fun b a24 => ?_; cases b <;> (try exact nope a24))
      all_goals iterate 5 refine D.one q8q ?_
      all_goals iterate 2 refine D.one q8q ?_
      all_goals have q9q := J9 e0 e3 l3 e5 hj hg hw @encP.eq_1 @List.length_map.{0,0}
      all_goals (first | (refine D.cl q9q (rsame_part _ _ hxl.len hxl.ev) ?_) | refine D.one trivial ?_)
      all_goals refine D.one q9q ?_
      all_goals refine D.nil ?_
      all_goals simp only [ze, simprocAttr, q9q]
      all_goals simp_all [samePart]
  rintro s σ ⟨rfl, e0, e3, l3, e5, e33⟩
  refine AW.cond (b := decide (0 < i) && samePart (l.getD (i - 1) []) p) e33 (fun hc => ?_) (fun hc => ?_)
  · rw [Bool.and_eq_true, decide_eq_true_eq] at hc
    refine AW.sr e0 ?_
    refine AW.ret ?_
    simp only [zs, simprocAttr]
    all_goals ((try and_intros) <;> first | rfl | assumption | (rw [hput, if_pos hc]))
  have hc : ¬ (0 < i ∧ samePart (l.getD (i - 1) []) p = true) := by rw [← decide_eq_true_eq (p := 0 < i), ← Bool.and_eq_true, hc]; exact Bool.false_ne_true
  rw [if_neg hc] at hput
  refine AW.skip ?_
  all_goals simp only [zs, simprocAttr]
  all_goals apply_assumption
  all_goals refine AW.sr trivial ?_
  have hT : (l.map encP).take i = (l.take i).map encP := List.map_take.symm
  have hD : (l.map encP).drop i = (l.drop i).map encP := List.map_drop.symm
  have hTl : (l.take i).length = i := by rw [List.length_take]; omega
  have hDl : (l.drop i).length = l.length - i := List.length_drop
  have hD2 : ((l.drop i).map encP).take (l.length - i) = (l.drop i).map encP := List.take_of_length_le (by rw [List.length_map, hDl]; omega)
  have z1 : (∀ (e : List V), e ∈ l.map encP → e.length = 1) = True := eq_true (len_part l)
  have z2 : (∀ (e : List V), e ∈ (l.take i).map encP → e.length = 1) = True := eq_true (len_part _)
  have z3 : (∀ (e : List V), e ∈ (l.drop i).map encP → e.length = 1) = True := eq_true (len_part _)
  have z4 : (∀ (e : List V), e ∈ [[V.sl (p.map encBd)]] → e.length = 1) = True := eq_true (len_part [p])
  have y1 : (i ≤ maxLen) = True := eq_true (by unfold maxLen; omega)
  have y2 : (i * 24 ≤ reach) = True := eq_true (by unfold reach; omega)
  have y3 : (i + 1 ≤ maxLen) = True := eq_true (by unfold maxLen; omega)
  have y4 : ((i + 1) * 24 ≤ reach) = True := eq_true (by unfold reach; omega)
  have y5 : (i + 1 + (l.length - i) ≤ maxLen) = True := eq_true (by unfold maxLen; omega)
  have y6 : ((i + 1 + (l.length - i)) * 24 ≤ reach) = True := eq_true (by unfold reach; omega)
  refine AW.seq_j (fun s' σ' => s'.t 0 = .sl (l.map encP) ∧ s'.t 5 = .c (.int .i64 (i : Nat)) ∧ ∃ k, s'.t 6 = .gl k ∧ σ' = Hp.empty.setGr k (some ((40, 1), (l.take i).map encP ++ [[V.sl (p.map encBd)]]))) ?_ ?_
  · skip
    refine AW.dT { sd := fun d => d == 3 } (.st 0 0 (.st 1 0 (.st 2 0 (.st 5 1 (.fork 3 (.fork 4 (.st 6 2 (.st 7 2 (.st 8 0 .nil))) 6 (.st 4 2 (.st 7 2 (.st 8 0 .nil)))) 6 (.st 3 2 (.st 4 2 (.st 7 2 (.st 8 0 .nil))))))))) ?_
    all_goals have q10q := J12 e0 e3 l3 e5 hil hT hD hTl hDl z1 z2 (J12 z3 z4 y1 y2 y3 y4 y5 y6 @List.length_map.{0,0} @Int.le_refl @Int.toNat_zero (J2 @Nat.sub_zero @List.drop_zero.{0}))
    all_goals iterate 3 refine T.one q10q ?_
    all_goals refine T.one q10q ?_
    all_goals (try refine T.fork ?_ ?_)
    all_goals first | (refine T.g rfl trivial rfl rfl fun Y Z => ?_; simp only [zz, simprocAttr, -Int.reduceNatCast', -Int.reduceToNat, tt, e0, e3, l3, e5, hil, hT, hD, hTl, hDl, z1, z2, z3, z4, y1, y2, y3, y4, y5, y6, List.length_map, Int.le_refl, Int.toNat_zero, Nat.sub_zero, List.drop_zero]; refine Z _ _ ?_; clear Z Y) | (refine T.g rfl trivial rfl rfl fun Y Z => ?_; simp only [zb, simprocAttr, -Int.reduceNatCast', -Int.reduceToNat, tt, e0, e3, l3, e5, hil, hT, hD, hTl, hDl, z1, z2, z3, z4, y1, y2, y3, y4, y5, y6, List.length_map, Int.le_refl, Int.toNat_zero, Nat.sub_zero, List.drop_zero]; refine Z _ _ ?_; clear Z Y)
    all_goals (try refine T.fork ?_ ?_)
    all_goals have q11q := J12 e0 e3 l3 e5 hil hT hD hTl hDl z1 z2 (J12 z3 z4 y1 y2 y3 y4 y5 y6 @List.length_map.{0,0} @Int.le_refl @Int.toNat_zero (J2 @Nat.sub_zero @List.drop_zero.{0}))
    all_goals first | (refine T.g rfl trivial rfl rfl fun Y Z => ?_; simp only [zz, simprocAttr, -Int.reduceNatCast', -Int.reduceToNat, tt, q11q]; intro k1 hk1 <;> (refine Z _ _ ?_; clear Z Y)) | (refine T.g rfl trivial rfl rfl fun Y Z => ?_; simp only [zb, simprocAttr, -Int.reduceNatCast', -Int.reduceToNat, tt, e0, e3, l3, e5, hil, hT, hD, hTl, hDl, z1, z2, z3, z4, y1, y2, y3, y4, y5, y6, List.length_map, Int.le_refl, Int.toNat_zero, Nat.sub_zero, List.drop_zero]; refine Z _ _ ?_; clear Z Y) | (refine T.g rfl trivial rfl rfl fun Y Z => ?_; simp only [zz, simprocAttr, -Int.reduceNatCast', -Int.reduceToNat, tt, q11q]; refine Z _ _ ?_; clear Z Y)
    all_goals first | (refine T.g rfl trivial rfl rfl fun Y Z => ?_; simp only [zz, simprocAttr, -Int.reduceNatCast', -Int.reduceToNat, tt, e0, e3, l3, e5, hil, hT, hD, hTl, hDl, z1, z2, z3, z4, y1, y2, y3, y4, y5, y6, List.length_map, Int.le_refl, Int.toNat_zero, Nat.sub_zero, List.drop_zero]; intro k1 hk1 <;> (refine Z _ _ ?_; clear Z Y)) | (refine T.g rfl trivial rfl rfl fun Y Z => ?_; simp only [zb, simprocAttr, -Int.reduceNatCast', -Int.reduceToNat, tt, e0, e3, l3, e5, hil, hT, hD, hTl, hDl, z1, z2, z3, z4, y1, y2, y3, y4, y5, y6, List.length_map, Int.le_refl, Int.toNat_zero, Nat.sub_zero, List.drop_zero]; refine Z _ _ ?_; clear Z Y)
    all_goals have q12q := J12 e0 e3 l3 e5 hil hT hD hTl hDl z1 z2 (J12 z3 z4 y1 y2 y3 y4 y5 y6 @List.length_map.{0,0} @Int.le_refl @Int.toNat_zero (J2 @Nat.sub_zero @List.drop_zero.{0}))
    all_goals (refine T.g rfl trivial rfl rfl fun Y Z => ?_; simp only [zz, simprocAttr, -Int.reduceNatCast', -Int.reduceToNat, tt, q12q]; intro k2 hk2 <;> (refine Z _ _ ?_; clear Z Y))
    all_goals refine T.one q12q ?_
    all_goals refine T.nil ?_
    all_goals simp only [ze, simprocAttr, q12q]
    all_goals exact ⟨_, rfl, rfl⟩
  rintro s σ ⟨e0, e5, k, e6, rfl⟩
  refine AW.seq_k fun K7 h7 => ?_
  all_goals refine AW.reg0 ?_
  all_goals iterate 4 refine S.one (J12 e0 e6 e5 hil hT hD hTl hDl hD2 z1 z2 (J10 z3 z4 y5 y6 @List.length_append.{0} @List.length_map.{0,0} @Int.le_refl @Int.toNat_zero @Nat.sub_zero @List.drop_zero.{0})) ?_
  all_goals have q13q := J12 e0 e6 e5 hil hT hD hTl hDl hD2 z1 z2 (J10 z3 z4 y5 y6 @List.length_append.{0} @List.length_map.{0,0} @Int.le_refl @Int.toNat_zero @Nat.sub_zero @List.drop_zero.{0})
  all_goals (refine S.g rfl rfl fun Y Z => ?_; simp only [zz, simprocAttr, -Int.reduceNatCast', -Int.reduceToNat, tt, q13q]; intro k3 hk3 <;> (refine Z _ _ ?_; clear Z Y))
  all_goals refine S.one q13q ?_
  all_goals (refine S.nil ?_; simp only [ze, simprocAttr, q13q]; apply_assumption)
  refine AW.freeze (k := k3) (T := (40, 1)) (es := (putP l p).map encP) (by simp only [Hp.setGr_gr, if_true, hput]; simp [encP]) (AW.bare (AW.ret ?_))
  all_goals simp only [zs, simprocAttr, fzV, fz1, St.fz_t, St.fz_l]
theorem rSameAll_spec (a b : List (List Bd)) (ha : a.length < 4611686018427387904) (ho : ∀ x ∈ a, okL x) : PCalls Tryz.prog 13 [.sl (a.map encP), .sl (b.map encP)] (fun v => v = .c (.bool (allEq samePart a b))) := by
 refine PCalls.intro Tryz.call13 Tryz.func13 rfl Tryz.ntmps13 Tryz.results13 (by simp) ?_
 refine AW.sr trivial ?_
 refine AW.seq_k fun K2 h2 => ?_
 refine AW.sr @List.length_map.{0,0} ?_
 refine AW.cd ((a.length : Int) != (b.length : Int)) (fun hb => ?_) (fun hb => ?_)
 ·have hb : ¬ a.length = b.length := by rw [bne_iff_ne, ne_eq] at hb; omega
  refine AW.sr trivial ?_
  refine AW.ret ?_
  simp only [zs, simprocAttr]
  all_goals ((try and_intros) <;> first | rfl | assumption | (((rw [allEq_len hb]) <;> rfl)))
 have hb : a.length = b.length := by rw [bne_eq_false_iff_eq] at hb; omega
 refine AW.skip ?_
 all_goals simp only [zs, simprocAttr]
 all_goals apply_assumption
 refine AW.seq_k fun K5 h5 => ?_
 all_goals refine AW.sr trivial ?_
 refine AW.block ?_   -- 0
 refine AW.loop (fun m s σ => σ = Hp.empty ∧ ∃ i : Nat, m + i = a.length ∧ s.t 0 = .sl (a.map encP) ∧ s.t 1 = .sl (b.map encP) ∧ s.t 5 = .c (.int .i64 (i : Nat)) ∧ allEq samePart a b = allEq samePart (a.drop i) (b.drop i)) a.length ?_ ?_
 ·refine ⟨rfl, 0, by simp, ?_⟩
  simp only [zs, simprocAttr]
  all_goals exact fn1
 rintro m s σ ⟨rfl, i, hm, e0, e1, e5, hp⟩
 refine AW.seq_k fun K7 h7 => ?_
 all_goals refine AW.sr (J3 e0 e5 @List.length_map.{0,0}) ?_
 refine AW.cd (decide (i < a.length)) (fun hi => ?_) (fun hi => ?_)
 ·have hi := of_decide_eq_true hi
  have hj : i < b.length := by omega
  obtain ⟨x, hx, hxm, hg, hd, _⟩ := part_get hi
  obtain ⟨y, hy, hym, hgy, hdy, _⟩ := part_get hj
  have hxl := ho x hxm
  have hw := wadd1 (a := i) (by omega)
  rw [hd, hdy, allEq] at hp
  refine AW.skip ?_
  simp only [zs, simprocAttr]
  all_goals apply_assumption
  refine AW.seq_k fun K9 h9 => ?_
  refine AW.block ?_   -- 1
  refine AW.seq_k fun K10 h10 => ?_
  refine AW.dw [(0,0),(1,0),(2,0),(4,0),(5,0),(6,0),(3,1),(7,1),(8,2),(9,0)] ?_
  have q1q := J9 e0 e1 e5 hi hj hg hgy @encP.eq_1 @List.length_map.{0,0}
  iterate 6 refine D.one q1q ?_
  iterate 2 refine D.one q1q ?_
  have q2q := J9 e0 e1 e5 hi hj hg hgy @encP.eq_1 @List.length_map.{0,0}
  refine D.cl q2q (rsame_part _ _ hxl.len hxl.ev) ?_
  all_goals refine D.one q2q ?_
  all_goals (refine D.nil ?_; apply_assumption)
  refine AW.cond (b := !samePart x y) (by simp [ev, samePart]) (fun hc => ?_) (fun hc => ?_)
  ·have hc : samePart x y = false := by simpa using hc
   refine AW.sr trivial ?_
   refine AW.ret ?_
   simp only [zs, simprocAttr]
   all_goals ((try and_intros) <;> first | rfl | assumption | (((rw [hp, hc]) <;> rfl)))
  ·have hc : samePart x y = true := by simpa using hc
   rw [hc, Bool.true_and] at hp
   refine AW.skip ?_
   simp only [zs, simprocAttr]
   all_goals apply_assumption
   have q3q := J4 e5 hw e0 e1
   refine AW.reg0 (S.rn q3q ?_)
   simp only [ze, simprocAttr, q3q]
   refine ⟨m - 1, by omega, i + 1, by omega, ?_⟩
   all_goals ((try and_intros) <;> first | rfl | assumption | (exact hp))
 ·have hi := of_decide_eq_false hi
  refine AW.exit ?_
  simp only [zs, simprocAttr]
  all_goals apply_assumption
  rw [List.drop_of_length_le (by omega), List.drop_of_length_le (by omega), allEq] at hp
  refine AW.sr trivial ?_
  refine AW.ret ?_
  simp only [zs, simprocAttr]
  all_goals ((try and_intros) <;> first | rfl | assumption | (rw [hp]))
def noBd : Bd := ⟨⟨#[]⟩, ⟨0, 0, 0, ⟨#[]⟩, []⟩⟩
def sameId (a b : Bd) : Bool := a.ev.src == b.ev.src && a.ev.seq == b.ev.seq
def apartAt (l : List Bd) (i : Nat) : Bool := (List.range i).all fun j => !sameId (l.getD i noBd) (l.getD j noBd)
def apartB (l : List Bd) : Bool := (List.range l.length).all (apartAt l)
def ofB (l : List Bd) (vars : List ByteArray) : List Bd := l.filter fun b => hasS vars b.var
theorem filter_step {l : List Bd} {p : Bd → Bool} {i : Nat} {x : Bd} (h : l[i]? = some x) : (l.take (i + 1)).filter p = (l.take i).filter p ++ if p x then [x] else [] := by
 rw [List.take_add_one, h, List.filter_append]
 congr 1
 cases hp : p x <;> simp [hp]
theorem filter_take_len {l : List Bd} {p : Bd → Bool} (i : Nat) : ((l.take i).filter p).length ≤ i :=
 Nat.le_trans (List.length_filter_le _ _) (by rw [List.length_take]; omega)
theorem len_bd1 (b : Bd) : (∀ (e : List V), e ∈ [encBd b] → e.length = 6) = True := eq_true fun e he => by
 rw [List.mem_singleton] at he; rw [he]; rfl
def Acc (l : List Bd) (c : Option (List V)) (σ : Hp) : Prop := (c = some [.c (.slice none 0 0)] ∧ l = [] ∧ σ = Hp.empty) ∨ ∃ k, c = some [.gl k] ∧ σ = Hp.empty.setGr k (some ((50, 6), l.map encBd))
theorem minL_snoc (a : Int) (r : List Int) (b : Int) : minL a (r ++ [b]) = if b < minL a r then b else minL a r := by unfold minL; rw [List.foldl_append]; rfl
theorem maxL_snoc (a : Int) (r : List Int) (b : Int) : maxL a (r ++ [b]) = if maxL a r < b then b else maxL a r := by unfold maxL; rw [List.foldl_append]; rfl
theorem begin_snoc (p : List Bd) (b : Bd) : beginOf (p ++ [b]) = if p = [] then b.ev.time else if b.ev.time < beginOf p then b.ev.time else beginOf p := by
 cases p with
 | nil => rfl
 | cons x p => simp [beginOf, minL_snoc]
theorem end_snoc (p : List Bd) (b : Bd) : endOf (p ++ [b]) = if p = [] then b.ev.time else if endOf p < b.ev.time then b.ev.time else endOf p := by
 cases p with
 | nil => rfl
 | cons x p => simp [endOf, maxL_snoc]
def inI64 (n : Int) : Prop := -9223372036854775808 ≤ n ∧ n ≤ 9223372036854775807
theorem minL_mem (a : Int) (r : List Int) : minL a r ∈ a :: r := by
  induction r generalizing a with
  | nil => simp [minL]
  | cons b r ih =>
    simp only [minL, List.foldl_cons] at ih ⊢
    have := ih (if b < a then b else a)
    split at this
    · rename_i h; rw [if_pos h]
      exact List.mem_cons_of_mem _ this
    · rename_i h; rw [if_neg h]
      rcases List.mem_cons.1 this with h1 | h1
      · rw [h1]; exact List.mem_cons_self
      · exact List.mem_cons_of_mem _ (List.mem_cons_of_mem _ h1)
theorem maxL_mem (a : Int) (r : List Int) : maxL a r ∈ a :: r := by
  induction r generalizing a with
  | nil => simp [maxL]
  | cons b r ih =>
    simp only [maxL, List.foldl_cons] at ih ⊢
    have := ih (if a < b then b else a)
    split at this
    · rename_i h; rw [if_pos h]
      exact List.mem_cons_of_mem _ this
    · rename_i h; rw [if_neg h]
      rcases List.mem_cons.1 this with h1 | h1
      · rw [h1]; exact List.mem_cons_self
      · exact List.mem_cons_of_mem _ (List.mem_cons_of_mem _ h1)
theorem minL_le (a : Int) (r : List Int) : minL a r ≤ a := by
  induction r generalizing a with
  | nil => simp [minL]
  | cons b r ih =>
    simp only [minL, List.foldl_cons] at ih ⊢
    have := ih (if b < a then b else a)
    split at this
    · rename_i h; rw [if_pos h]; omega
    · rename_i h; rw [if_neg h]; omega
theorem le_maxL (a : Int) (r : List Int) : a ≤ maxL a r := by
  induction r generalizing a with
  | nil => simp [maxL]
  | cons b r ih =>
    simp only [maxL, List.foldl_cons] at ih ⊢
    have := ih (if a < b then b else a)
    split at this
    · rename_i h; rw [if_pos h]; omega
    · rename_i h; rw [if_neg h]; omega
theorem begin_le_end (l : List Bd) : beginOf l ≤ endOf l := by
 cases l with
 | nil => simp [beginOf, endOf]
 | cons x l => exact Int.le_trans (minL_le _ _) (le_maxL _ _)
theorem begin_in {l : List Bd} (h : ∀ b ∈ l, inI64 b.ev.time) : inI64 (beginOf l) := by
  cases l with
  | nil => simp [beginOf, inI64]
  | cons x l =>
    have := minL_mem x.ev.time (l.map (·.ev.time))
    show inI64 (minL _ _)
    rw [show x.ev.time :: l.map (·.ev.time) = (x :: l).map (·.ev.time) from rfl] at this
    obtain ⟨b, hb, e⟩ := List.mem_map.1 this
    rw [← e]; exact h b hb
theorem end_in {l : List Bd} (h : ∀ b ∈ l, inI64 b.ev.time) : inI64 (endOf l) := by
  cases l with
  | nil => simp [endOf, inI64]
  | cons x l =>
    have := maxL_mem x.ev.time (l.map (·.ev.time))
    show inI64 (maxL _ _)
    rw [show x.ev.time :: l.map (·.ev.time) = (x :: l).map (·.ev.time) from rfl] at this
    obtain ⟨b, hb, e⟩ := List.mem_map.1 this
    rw [← e]; exact h b hb
theorem wrapI (n : Int) (h0 : -9223372036854775808 ≤ n) (h1 : n ≤ 9223372036854775807) : IntKind.i64.wrap n = n := by
 simp [IntKind.wrap, IntKind.signed, IntKind.bits, Int.bmod]; omega
def withinB (l : List Bd) (w : Int) : Bool := decide (0 ≤ w ∧ endOf l - beginOf l ≤ w)
theorem rbegin_spec (l : List Bd) (hn : l.length < 4611686018427387904) : PCalls Tryz.prog 91 [.agg [.sl (l.map encBd)]] (fun v => v = .c (.int .i64 (beginOf l))) := by
 refine PCalls.intro Tryz.call91 Tryz.func91 rfl Tryz.ntmps91 Tryz.results91 (by simp) ?_
 refine AW.sr trivial ?_
 refine AW.sr trivial ?_
 refine AW.seq_j (fun s σ => σ = Hp.empty ∧ s.t 3 = .c (.int .i64 (beginOf l))) ?_ ?_
 ·refine AW.sr trivial ?_
  refine AW.block ?_   -- 0
  refine AW.loop (fun m s σ => σ = Hp.empty ∧ ∃ i : Nat, m + i = l.length ∧ s.t 1 = .lp 1 0 ∧ s.l 1 = some [.sl (l.map encBd)] ∧ s.t 4 = .c (.int .i64 i) ∧ s.t 3 = .c (.int .i64 (beginOf (l.take i)))) l.length ?_ ?_
  ·refine ⟨rfl, 0, by simp, ?_⟩
   simp only [zs, simprocAttr]
   simp [beginOf]
  rintro m s σ ⟨rfl, i, hm, e1, l1, e4, e3⟩
  refine AW.seq_k fun K4 h4 => ?_
  all_goals refine AW.sr (J3 e1 l1 e4) ?_
  refine AW.cd (decide (i < l.length)) (fun hc => ?_) (fun hc => ?_)
  ·have hi := of_decide_eq_true hc
   refine AW.skip ?_
   simp only [zs, simprocAttr]
   all_goals apply_assumption
   have hg := getD_map (f := encBd) hi
   have htk : l.take (i + 1) = l.take i ++ [l[i]] := by rw [List.take_append_getElem]
   have hnil : (l.take i = []) ↔ (i = 0) := by
    constructor
    ·intro h
     have := congrArg List.length h
     rw [List.length_take, List.length_nil] at this; omega
    ·rintro rfl; rfl
   generalize ha : l[i] = a at hg htk
   have hw : IntKind.i64.wrap ((i : Int) + 1) = ((i + 1 : Nat) : Int) := by rw [wrap_small _ (by omega) (by omega)]; rfl
   have hsn := begin_snoc (l.take i) a
   rw [← htk] at hsn
   simp only [hnil] at hsn
   refine AW.seq_k fun K6 h6 => ?_
   refine AW.block ?_   -- 1
   refine AW.sr (J6 e1 l1 e4 hi hg @encBd.eq_1) ?_
   refine AW.seq_j (fun s' σ => σ = Hp.empty ∧ s'.t 1 = .lp 1 0 ∧ s'.l 1 = some [.sl (l.map encBd)] ∧ s'.t 4 = .c (.int .i64 i) ∧ s'.t 3 = .c (.int .i64 (beginOf (l.take i))) ∧ s'.t 5 = .c (.int .i64 a.ev.time) ∧ s'.t 26 = .c (.bool (decide (i = 0 ∨ a.ev.time < beginOf (l.take i))))) ?_ ?_
   ·clear hsn htk hnil hg
    generalize beginOf (l.take i) = q at *
    refine AW.reg0 ?_
    have q1q := J4 e1 l1 e4 e3
    refine S.one q1q ?_
    (refine S.sp q1q fun b a21 => ?_; cases b <;> (try exact nope a21))
    all_goals iterate 5 refine S.one q1q ?_
    all_goals refine S.nil ?_
    all_goals simp only [ze, simprocAttr, q1q]
    all_goals (try simp only [bl] at *)
    all_goals (try simp only [V.c.injEq, Value.bool.injEq, Value.int.injEq, true_and])
    all_goals exact shut
   clear e1 l1 e4 e3
   rintro s σ ⟨rfl, e1, l1, e4, e3, e5, e26⟩
   refine AW.cond (b := _) e26 (fun hx => ?_) (fun hx => ?_)
   ·have hx := of_decide_eq_true hx
    refine AW.reg0 (S.rn e5 ?_)
    all_goals apply_assumption
    have q2q := J4 e4 hw e1 l1
    refine AW.reg0 (S.rn q2q ?_)
    simp only [ze, simprocAttr, q2q]
    refine ⟨m - 1, by omega, i + 1, by omega, rfl, ?_⟩
    rw [hsn]
    by_cases h0 : i = 0
    ·rw [if_pos h0]
    ·rw [if_neg h0, if_pos (hx.resolve_left h0)]
   ·have hx := of_decide_eq_false hx
    refine AW.skip ?_
    simp only [zs, simprocAttr]
    all_goals apply_assumption
    have q3q := J5 e4 hw e1 l1 e3
    refine AW.reg0 (S.rn q3q ?_)
    simp only [ze, simprocAttr, q3q]
    refine ⟨m - 1, by omega, i + 1, by omega, rfl, ?_⟩
    rw [hsn, if_neg (fun h => hx (.inl h)), if_neg (fun h => hx (.inr h))]
  ·have hc := of_decide_eq_false hc
   refine AW.exit ?_
   simp only [zs, simprocAttr]
   rw [List.take_of_length_le (by omega)] at e3
   exact e3
 rintro s σ ⟨rfl, e3⟩
 all_goals refine AW.sr e3 ?_
 refine AW.ret ?_
 all_goals simp only [zs, simprocAttr]
theorem rend_spec (l : List Bd) (hn : l.length < 4611686018427387904) : PCalls Tryz.prog 92 [.agg [.sl (l.map encBd)]] (fun v => v = .c (.int .i64 (endOf l))) := by
 refine PCalls.intro Tryz.call92 Tryz.func92 rfl Tryz.ntmps92 Tryz.results92 (by simp) ?_
 refine AW.sr trivial ?_
 refine AW.sr trivial ?_
 refine AW.seq_j (fun s σ => σ = Hp.empty ∧ s.t 3 = .c (.int .i64 (endOf l))) ?_ ?_
 ·refine AW.sr trivial ?_
  refine AW.block ?_   -- 0
  refine AW.loop (fun m s σ => σ = Hp.empty ∧ ∃ i : Nat, m + i = l.length ∧ s.t 1 = .lp 1 0 ∧ s.l 1 = some [.sl (l.map encBd)] ∧ s.t 4 = .c (.int .i64 i) ∧ s.t 3 = .c (.int .i64 (endOf (l.take i)))) l.length ?_ ?_
  ·refine ⟨rfl, 0, by simp, ?_⟩
   simp only [zs, simprocAttr]
   simp [endOf]
  rintro m s σ ⟨rfl, i, hm, e1, l1, e4, e3⟩
  refine AW.seq_k fun K4 h4 => ?_
  all_goals refine AW.sr (J3 e1 l1 e4) ?_
  refine AW.cd (decide (i < l.length)) (fun hc => ?_) (fun hc => ?_)
  ·have hi := of_decide_eq_true hc
   refine AW.skip ?_
   simp only [zs, simprocAttr]
   all_goals apply_assumption
   have hg := getD_map (f := encBd) hi
   have htk : l.take (i + 1) = l.take i ++ [l[i]] := by rw [List.take_append_getElem]
   have hnil : (l.take i = []) ↔ (i = 0) := by
    constructor
    ·intro h
     have := congrArg List.length h
     rw [List.length_take, List.length_nil] at this; omega
    ·rintro rfl; rfl
   generalize ha : l[i] = a at hg htk
   have hw : IntKind.i64.wrap ((i : Int) + 1) = ((i + 1 : Nat) : Int) := by rw [wrap_small _ (by omega) (by omega)]; rfl
   have hsn := end_snoc (l.take i) a
   rw [← htk] at hsn
   simp only [hnil] at hsn
   refine AW.seq_k fun K6 h6 => ?_
   refine AW.block ?_   -- 1
   refine AW.sr (J6 e1 l1 e4 hi hg @encBd.eq_1) ?_
   refine AW.seq_j (fun s' σ => σ = Hp.empty ∧ s'.t 1 = .lp 1 0 ∧ s'.l 1 = some [.sl (l.map encBd)] ∧ s'.t 4 = .c (.int .i64 i) ∧ s'.t 3 = .c (.int .i64 (endOf (l.take i))) ∧ s'.t 5 = .c (.int .i64 a.ev.time) ∧ s'.t 26 = .c (.bool (decide (i = 0 ∨ endOf (l.take i) < a.ev.time)))) ?_ ?_
   ·clear hsn htk hnil hg
    generalize endOf (l.take i) = q at *
    refine AW.reg0 ?_
    have q1q := J4 e1 l1 e4 e3
    refine S.one q1q ?_
    (refine S.sp q1q fun b a21 => ?_; cases b <;> (try exact nope a21))
    all_goals iterate 5 refine S.one q1q ?_
    all_goals refine S.nil ?_
    all_goals simp only [ze, simprocAttr, q1q]
    all_goals (try simp only [bl] at *)
    all_goals (try simp only [V.c.injEq, Value.bool.injEq, Value.int.injEq, true_and])
    all_goals exact shut
   clear e1 l1 e4 e3
   rintro s σ ⟨rfl, e1, l1, e4, e3, e5, e26⟩
   refine AW.cond (b := _) e26 (fun hx => ?_) (fun hx => ?_)
   ·have hx := of_decide_eq_true hx
    refine AW.reg0 (S.rn e5 ?_)
    all_goals apply_assumption
    have q2q := J4 e4 hw e1 l1
    refine AW.reg0 (S.rn q2q ?_)
    simp only [ze, simprocAttr, q2q]
    refine ⟨m - 1, by omega, i + 1, by omega, rfl, ?_⟩
    rw [hsn]
    by_cases h0 : i = 0
    ·rw [if_pos h0]
    ·rw [if_neg h0, if_pos (hx.resolve_left h0)]
   ·have hx := of_decide_eq_false hx
    refine AW.skip ?_
    simp only [zs, simprocAttr]
    all_goals apply_assumption
    have q3q := J5 e4 hw e1 l1 e3
    refine AW.reg0 (S.rn q3q ?_)
    simp only [ze, simprocAttr, q3q]
    refine ⟨m - 1, by omega, i + 1, by omega, rfl, ?_⟩
    rw [hsn, if_neg (fun h => hx (.inl h)), if_neg (fun h => hx (.inr h))]
  ·have hc := of_decide_eq_false hc
   refine AW.exit ?_
   simp only [zs, simprocAttr]
   rw [List.take_of_length_le (by omega)] at e3
   exact e3
 rintro s σ ⟨rfl, e3⟩
 all_goals refine AW.sr e3 ?_
 refine AW.ret ?_
 all_goals simp only [zs, simprocAttr]
theorem within_spec (l : List Bd) (w : Int) (hn : l.length * 80 ≤ 140737488355328) (ht : ∀ b ∈ l, inI64 b.ev.time) (hw : inI64 w) : PCalls Tryz.prog 51 [.agg [.sl (l.map encBd)], .c (.int .i64 w)] (fun v => v = .c (.bool (withinB l w))) := by
 have hb := begin_in ht
 have he := end_in ht
 have hle := begin_le_end l
 unfold withinB
 refine PCalls.intro Tryz.call51 Tryz.func51 rfl Tryz.ntmps51 Tryz.results51 (by simp) ?_
 refine AW.sr trivial ?_
 refine AW.seq_k fun K2 h2 => ?_
 refine AW.dv { sd := fun d => d == 2 } [(0,1),(2,1),(1,2),(3,2),(4,0),(5,0)] ?_
 iterate 2 refine D.one trivial ?_
 refine D.cl trivial (begin_spec l hn) ?_
 all_goals refine D.cl trivial (end_spec l hn) ?_
 all_goals iterate 2 refine D.one trivial ?_
 all_goals (refine D.nil ?_; apply_assumption)
 generalize beginOf l = a at *
 generalize endOf l = b at *
 unfold inI64 at *
 refine AW.seq_j (fun s σ => σ = Hp.empty ∧ s.t 1 = .c (.int .i64 w) ∧ s.t 5 = .c (.int .i64 a) ∧ s.t 6 = .c (.int .i64 b) ∧ ¬ (a < 0 ∧ b > 9223372036854775807 + a) ) ?_ ?_
 ·refine AW.seq_j (fun s σ => σ = Hp.empty ∧ s.t 1 = .c (.int .i64 w) ∧ s.t 5 = .c (.int .i64 a) ∧ s.t 6 = .c (.int .i64 b) ∧ s.t 18 = .c (.bool (decide (a < 0 ∧ b > 9223372036854775807 + a)))) ?_ ?_
  ·by_cases h0 : a < 0
   ·have hw2 : IntKind.i64.wrap (9223372036854775807 + a) = 9223372036854775807 + a := wrapI _ (by omega) (by omega)
    refine AW.reg0 ?_
    refine S.one hw2 ?_
    (refine S.sp hw2 fun b a12 => ?_; cases b <;> (try exact nope a12))
    all_goals iterate 6 refine S.one hw2 ?_
    all_goals refine S.nil ?_
    all_goals simp only [ze, simprocAttr, hw2]
    all_goals (simp [h0])
   ·skip
    refine AW.reg0 ?_
    refine S.one trivial ?_
    (refine S.sp trivial fun b a12 => ?_; cases b <;> (try exact nope a12))
    all_goals iterate 6 refine S.one trivial ?_
    all_goals refine S.nil ?_
    all_goals simp only [ze, simprocAttr]
    all_goals (simp [h0])
  rintro s σ ⟨rfl, e1, e5, e6, e18⟩
  refine AW.cond (b := _) e18 (fun hc => ?_) (fun hc => ?_)
  ·have hc := of_decide_eq_true hc
   refine AW.sr trivial ?_
   refine AW.ret ?_
   simp only [zs, simprocAttr]
   have : ¬ (0 ≤ w ∧ b - a ≤ w) := by omega
   rw [decide_eq_false this]
  ·have hc := of_decide_eq_false hc
   refine AW.skip ?_
   simp only [zs, simprocAttr]
   exact ⟨e1, e5, e6, hc⟩
 rintro s σ ⟨rfl, e1, e5, e6, hc⟩
 have hw2 : IntKind.i64.wrap (b - a) = b - a := wrapI _ (by omega) (by omega)
 all_goals refine AW.sr (J4 e1 e5 e6 hw2) ?_
 refine AW.ret ?_
 all_goals simp only [zs, simprocAttr]
 simp only [V.c.injEq, Value.bool.injEq, decide_eq_decide]
 omega
theorem rwithin_spec (l : List Bd) (w : Int) (hl : l.length < 4611686018427387904) (ht : ∀ b ∈ l, inI64 b.ev.time) (hw : inI64 w) : PCalls Tryz.prog 52 [.agg [.sl (l.map encBd)], .c (.int .i64 w)] (fun v => v = .c (.bool (withinB l w))) := by
 have hb := begin_in ht
 have he := end_in ht
 have hle := begin_le_end l
 unfold withinB
 refine PCalls.intro Tryz.call52 Tryz.func52 rfl Tryz.ntmps52 Tryz.results52 (by simp) ?_
 refine AW.sr trivial ?_
 refine AW.seq_j (fun s σ => σ = Hp.empty ∧ s.t 4 = .c (.bool (decide (0 ≤ w ∧ endOf l - beginOf l ≤ w)))) ?_ ?_
 ·by_cases h0 : 0 ≤ w
  ·have hw1 : IntKind.u64.wrap (IntKind.u64.wrap (endOf l) - IntKind.u64.wrap (beginOf l)) = endOf l - beginOf l := by
    generalize beginOf l = a at *
    generalize endOf l = b at *
    unfold inI64 at *
    simp [IntKind.wrap, IntKind.signed, IntKind.bits]; omega
   have hw2 : IntKind.u64.wrap w = w := by
    unfold inI64 at *
    simp [IntKind.wrap, IntKind.signed, IntKind.bits]; omega
   refine AW.dv { sd := fun d => d == 2 } [(0,0),(1,0),(2,0),(10,0),(11,0),(3,1),(6,1),(4,2),(5,0),(7,2),(8,0),(9,0),(12,0),(13,0),(14,0)] ?_
   refine D.one (J2 hw1 hw2) ?_
   (refine D.sp (J2 hw1 hw2) fun b a6 => ?_; cases b <;> (try exact nope a6))
   all_goals iterate 3 refine D.one (J2 hw1 hw2) ?_
   all_goals iterate 2 refine D.one (J2 hw1 hw2) ?_
   all_goals (first | (refine D.cl (J2 hw1 hw2) (rend_spec l hl) ?_) | refine D.one trivial ?_)
   all_goals refine D.one (J2 hw1 hw2) ?_
   all_goals (first | (refine D.cl (J2 hw1 hw2) (rbegin_spec l hl) ?_) | refine D.one trivial ?_)
   all_goals iterate 5 refine D.one (J2 hw1 hw2) ?_
   all_goals refine D.nil ?_
   all_goals simp only [ze, simprocAttr, hw1, hw2]
   all_goals simp [h0]
  ·skip
   refine AW.dv { sd := fun d => d == 2 } [(0,0),(1,0),(2,0),(10,0),(11,0),(3,1),(6,1),(4,2),(5,0),(7,2),(8,0),(9,0),(12,0),(13,0),(14,0)] ?_
   refine D.one trivial ?_
   (refine D.sp trivial fun b a6 => ?_; cases b <;> (try exact nope a6))
   all_goals iterate 3 refine D.one trivial ?_
   all_goals iterate 2 refine D.one trivial ?_
   all_goals (first | (refine D.cl trivial (rend_spec l hl) ?_) | refine D.one trivial ?_)
   all_goals refine D.one trivial ?_
   all_goals (first | (refine D.cl trivial (rbegin_spec l hl) ?_) | refine D.one trivial ?_)
   all_goals iterate 5 refine D.one trivial ?_
   all_goals refine D.nil ?_
   all_goals simp only [ze, simprocAttr]
   all_goals simp [h0]
 rintro s σ ⟨rfl, e4⟩
 refine AW.ret ?_
 all_goals simp only [zs, simprocAttr, e4]
def spanB (p : Pat) (l : List Bd) : Bool := decide (0 < l.length) && withinB l p.within
theorem rWithin_spec (p : Pat) (l : List Bd) (hl : l.length < 4611686018427387904) (ht : ∀ b ∈ l, inI64 b.ev.time) (hw : inI64 p.within) : PCalls Tryz.prog 19 [.agg (encPat p), .agg [.sl (l.map encBd)]] (fun v => v = .c (.bool (spanB p l))) := by
 have q1 : ((l.length : Int) > 0) = (0 < l.length) := by rw [eq_iff_iff]; omega
 refine PCalls.intro Tryz.call19 Tryz.func19 rfl Tryz.ntmps19 Tryz.results19 (by simp) ?_
 refine AW.sr @encPat.eq_1 ?_
 refine AW.seq_j (fun s' σ' => σ' = Hp.empty ∧ s'.t 4 = .c (.bool (spanB p l))) ?_ ?_
 ·skip
  refine AW.reg0 ?_
  have q1q := J2 q1 @List.length_map.{0,0}
  iterate 3 refine S.one q1q ?_
  (refine S.sp q1q fun b a8 => ?_; cases b <;> (try exact nope a8))
  all_goals iterate 4 refine S.one q1q ?_
  all_goals have q2q := J2 q1 @List.length_map.{0,0}
  all_goals (first | (refine S.cl q2q (rwithin_spec l p.within hl ht hw) ?_) | refine S.one trivial ?_)
  all_goals iterate 2 refine S.one q2q ?_
  all_goals refine S.nil ?_
  all_goals simp only [ze, simprocAttr, q2q]
  all_goals simp_all [spanB]
 rintro s σ ⟨rfl, e4⟩
 refine AW.ret ?_
 all_goals simp only [zs, simprocAttr, e4]
 all_goals exact fn1
def leafFits (n : Nd) : List Bd → Bool
  | [b] => eqS b.var n.var && termB n b.ev
  | _ => false
def kidsFit (two : Bool) (p : List Bd) : Option (List Bd) → Nat → List ((List Bd → Bool) × List ByteArray) → Option Nat
  | _, s, [] => some s
  | prev, s, (f, vs) :: r => if f (ofB p vs) = false then none else if two && prev.any (fun x => decide (beginOf (ofB p vs) ≤ endOf x)) then none else kidsFit two p (some (ofB p vs)) (s + (ofB p vs).length) r
def allFit (p : List Bd) : Option Nat → Bool
  | some s => s == p.length && apartB p
  | none => false
def fitsF (n : Nd) (l : List (List Bd → Bool)) (p : List Bd) : Bool :=
  if n.kind = 1 then leafFits n p else if n.kind = 4 then l.any (fun f => f p) else allFit p (kidsFit (decide (n.kind = 2)) p none 0 (l.zip (n.kids.map Nd.vars)))
def Nd.fits (n : Nd) : List Bd → Bool := n.para fitsF
theorem ofB_len (l : List Bd) (vs : List ByteArray) : (ofB l vs).length ≤ l.length := List.length_filter_le _ _
theorem ofB_ev {l : List Bd} (h : lenB l) (vs : List ByteArray) : lenB (ofB l vs) := fun b hb => h b (List.mem_filter.1 hb).1
end Go.Abs.M
namespace Go.Abs.M
open Go Go.Abs Go.Proofs
variable [Mode]
structure Tri {α : Type} (c : α → α → Int) : Prop where
  flip : ∀ a b, c b a = - c a b
  trans : ∀ a b d, c a b ≤ 0 → c b d ≤ 0 → c a d ≤ 0
  small : ∀ a b, -1 ≤ c a b ∧ c a b ≤ 1
namespace Tri
variable {α β : Type} {c c' : α → α → Int}
theorem refl (h : Tri c) (a : α) : c a a = 0 := by have := h.flip a a; omega
theorem lt_le (h : Tri c) {a b d : α} (h1 : c a b < 0) (h2 : c b d ≤ 0) : c a d < 0 := by
 by_cases k : c a d < 0
 ·exact k
 ·have e := h.flip a d
  have := h.trans b d a h2 (by omega)
  have e2 := h.flip a b
  omega
theorem le_lt (h : Tri c) {a b d : α} (h1 : c a b ≤ 0) (h2 : c b d < 0) : c a d < 0 := by
 by_cases k : c a d < 0
 ·exact k
 ·have e := h.flip a d
  have := h.trans d a b (by omega) h1
  have e2 := h.flip b d
  omega
theorem lex (h : Tri c) (h' : Tri c') : Tri (fun a b => if c a b ≠ 0 then c a b else c' a b) := by
 refine ⟨fun a b => ?_, fun a b d h1 h2 => ?_, fun a b => ?_⟩
 ·have e := h.flip a b
  have e' := h'.flip a b
  split <;> split <;> omega
 ·
  have k1 : c a b ≤ 0 := by split at h1 <;> omega
  have k2 : c b d ≤ 0 := by split at h2 <;> omega
  have k3 := h.trans a b d k1 k2
  split
  ·exact k3
  ·rename_i e
   have e : c a d = 0 := by omega
   have z1 : c a b = 0 := by
    by_cases k : c a b = 0
    ·exact k
    ·have := h.lt_le (a := a) (b := b) (d := d) (by omega) k2; omega
   have z2 : c b d = 0 := by
    by_cases k : c b d = 0
    ·exact k
    ·have := h.le_lt (a := a) (b := b) (d := d) k1 (by omega); omega
   rw [if_neg (by simp [z1])] at h1
   rw [if_neg (by simp [z2])] at h2
   exact h'.trans a b d h1 h2
 ·have e := h.small a b
  have e' := h'.small a b
  split <;> omega
theorem on (h : Tri c) (f : β → α) : Tri (fun a b => c (f a) (f b)) := ⟨fun a b => h.flip _ _, fun a b d => h.trans _ _ _, fun a b => h.small _ _⟩
end Tri
theorem tri_I : Tri cmpI := by
 refine ⟨fun a b => ?_, fun a b d => ?_, fun a b => ?_⟩ <;> simp only [cmpI] <;> repeat' split <;> omega
theorem cmpS_cases (a b : ByteArray) : (cmpS a b = -1 ∧ a.toList < b.toList) ∨ (cmpS a b = 0 ∧ a.toList = b.toList) ∨ (cmpS a b = 1 ∧ b.toList < a.toList) := by
 unfold cmpS
 rw [bytesLess_eq']
 by_cases h : a.toList < b.toList
 ·simp [h]
 ·by_cases e : a.toList = b.toList
  ·simp [e, List.lt_irrefl]
  ·have : b.toList < a.toList := by
    rcases List.le_iff_lt_or_eq.1 (show b.toList ≤ a.toList from h) with h1 | h1
    ·exact h1
    ·exact absurd h1.symm e
   simp [h, e, this]
theorem tri_S : Tri cmpS := by
 refine ⟨fun a b => ?_, fun a b d h1 h2 => ?_, fun a b => ?_⟩
 ·rcases cmpS_cases a b with ⟨h1, h2⟩ | ⟨h1, h2⟩ | ⟨h1, h2⟩ <;> rcases cmpS_cases b a with ⟨k1, k2⟩ | ⟨k1, k2⟩ | ⟨k1, k2⟩ <;> rw [h1, k1] <;>
   first
    | omega
    | exact absurd k2 (List.lt_asymm h2)
    | exact absurd k2 (by rw [h2]; exact List.lt_irrefl _)
    | exact absurd h2 (by rw [k2]; exact List.lt_irrefl _)
 ·rcases cmpS_cases a d with ⟨k1, _⟩ | ⟨k1, _⟩ | ⟨_, k2⟩
  ·omega
  ·omega
  ·exfalso
   have e1 : ¬ b.toList < a.toList := fun hh => by
    rcases cmpS_cases a b with ⟨_, h⟩ | ⟨_, h⟩ | ⟨h, _⟩
    ·exact List.lt_asymm h hh
    ·rw [h] at hh; exact List.lt_irrefl _ hh
    ·omega
   have e2 : ¬ d.toList < b.toList := fun hh => by
    rcases cmpS_cases b d with ⟨_, h⟩ | ⟨_, h⟩ | ⟨h, _⟩
    ·exact List.lt_asymm h hh
    ·rw [h] at hh; exact List.lt_irrefl _ hh
    ·omega
   exact List.le_trans (show a.toList ≤ b.toList from e1) (show b.toList ≤ d.toList from e2) k2
 ·rcases cmpS_cases a b with ⟨h, _⟩ | ⟨h, _⟩ | ⟨h, _⟩ <;> omega
theorem orI2 (x y : Int) : orI [x, y] = if x ≠ 0 then x else y := by
 simp only [orI]
 split
 ·rfl
 ·split
  ·rfl
  ·omega
theorem tri_Id : Tri cmpId := by
 have : cmpId = fun a b : Int × Int => if cmpI a.1 b.1 ≠ 0 then cmpI a.1 b.1 else cmpI a.2 b.2 := by funext a b; exact orI2 _ _
 rw [this]
 exact (tri_I.on Prod.fst).lex (tri_I.on Prod.snd)
theorem tri_Bd : Tri cmpBd := by
 have : cmpBd = fun a b : Bd => if cmpS a.var b.var ≠ 0 then cmpS a.var b.var else cmpId (idOf a) (idOf b) := by funext a b; exact orI2 _ _
 rw [this]
 exact (tri_S.on Bd.var).lex (tri_Id.on idOf)
theorem tri_L : Tri cmpL := by
  have fl : ∀ a b, cmpL b a = - cmpL a b := by
    intro a
    induction a with
    | nil => intro b; cases b <;> rfl
    | cons x l ih =>
      intro b
      cases b with
      | nil => rfl
      | cons y r =>
        have e := tri_Bd.flip x y
        have := ih r
        simp only [cmpL]
        split <;> split <;> omega
  refine ⟨fl, ?_, ?_⟩
  · intro a
    induction a with
    | nil => intro b d _ _; cases d <;> simp [cmpL]
    | cons x l ih =>
      intro b d h1 h2
      cases b with
      | nil => simp [cmpL] at h1
      | cons y r =>
        cases d with
        | nil => simp [cmpL] at h2
        | cons z q =>
          simp only [cmpL] at h1 h2 ⊢
          have k1 : cmpBd x y ≤ 0 := by split at h1 <;> omega
          have k2 : cmpBd y z ≤ 0 := by split at h2 <;> omega
          have k3 := tri_Bd.trans x y z k1 k2
          split
          · exact k3
          · have z1 : cmpBd x y = 0 := by
              by_cases k : cmpBd x y = 0
              · exact k
              · have := tri_Bd.lt_le (a := x) (b := y) (d := z) (by omega) k2; omega
            have z2 : cmpBd y z = 0 := by
              by_cases k : cmpBd y z = 0
              · exact k
              · have := tri_Bd.le_lt (a := x) (b := y) (d := z) k1 (by omega); omega
            rw [if_neg (by simp [z1])] at h1
            rw [if_neg (by simp [z2])] at h2
            exact ih r q h1 h2
  · intro a
    induction a with
    | nil => intro b; cases b <;> simp [cmpL]
    | cons x l ih =>
      intro b
      cases b with
      | nil => simp [cmpL]
      | cons y r =>
        have e := tri_Bd.small x y
        have := ih r
        simp only [cmpL]
        split <;> omega
def SrtL (rows : List (List Bd)) : Prop := rows.Pairwise (fun a b => cmpL a b < 0)
structure AtL (rows : List (List Bd)) (x : List Bd) (i : Nat) : Prop where
  lt : ∀ j y, rows[j]? = some y → j < i → cmpL y x < 0
  ge : ∀ j y, rows[j]? = some y → i ≤ j → 0 ≤ cmpL y x
def hasL (rows : List (List Bd)) (x : List Bd) : Bool := rows.any (fun y => cmpL y x == 0)
def insL' (rows : List (List Bd)) (x : List Bd) : List (List Bd) := rows.takeWhile (fun y => decide (cmpL y x < 0)) ++ x :: rows.dropWhile (fun y => decide (cmpL y x < 0))
theorem SrtL.get {rows : List (List Bd)} (h : SrtL rows) {i j : Nat} {x y : List Bd} (hx : rows[i]? = some x) (hy : rows[j]? = some y) (hij : i < j) : cmpL x y < 0 := by
 obtain ⟨hi, rfl⟩ := List.getElem?_eq_some_iff.1 hx
 obtain ⟨hj, rfl⟩ := List.getElem?_eq_some_iff.1 hy
 exact List.pairwise_iff_getElem.1 h i j hi hj hij
theorem takeWhile_at {α : Type} {p : α → Bool} : ∀ {l : List α} {i : Nat}, i ≤ l.length → (∀ j y, l[j]? = some y → j < i → p y = true) → (∀ j y, l[j]? = some y → i ≤ j → p y = false) → l.takeWhile p = l.take i ∧ l.dropWhile p = l.drop i
  | [], i, _, _, _ => by simp
  | a :: l, 0, _, _, h2 => by
    have := h2 0 a rfl (Nat.le_refl _)
    simp [this]
  | a :: l, i + 1, hi, h1, h2 => by
    have ha := h1 0 a rfl (by omega)
    obtain ⟨e1, e2⟩ := takeWhile_at (p := p) (l := l) (i := i) (by simpa using hi) (fun j y hy hj => h1 (j + 1) y (by simpa using hy) (by omega)) (fun j y hy hj => h2 (j + 1) y (by simpa using hy) (by omega))
    simp [ha, e1, e2]
theorem AtL.ins {rows : List (List Bd)} {x : List Bd} {i : Nat} (h : AtL rows x i) (hi : i ≤ rows.length) : insL' rows x = rows.take i ++ x :: rows.drop i := by
 obtain ⟨e1, e2⟩ := takeWhile_at (p := fun y => decide (cmpL y x < 0)) hi (fun j y hy hj => by simpa using h.lt j y hy hj) (fun j y hy hj => by have := h.ge j y hy hj; simp; omega)
 rw [insL', e1, e2]
theorem AtL.has {rows : List (List Bd)} {x : List Bd} {i : Nat} (hs : SrtL rows) (h : AtL rows x i) : hasL rows x = true ↔ ∃ y, rows[i]? = some y ∧ cmpL y x = 0 := by
 constructor
 ·intro hh
  obtain ⟨y, hy, he⟩ := List.any_eq_true.1 hh
  have he : cmpL y x = 0 := by simpa using he
  obtain ⟨j, hj⟩ := List.getElem?_of_mem hy
  rcases Nat.lt_trichotomy j i with hji | hji | hji
  ·have := h.lt j y hj hji; omega
  ·subst hji; exact ⟨y, hj, he⟩
  ·exfalso
   have hjl := (List.getElem?_eq_some_iff.1 hj).1
   have hil : rows[i]? = some rows[i] := List.getElem?_eq_getElem (by omega)
   have k1 := hs.get hil hj hji
   have k2 := h.ge i _ hil (Nat.le_refl _)
   have k3 := tri_L.lt_le k1 (by omega : cmpL y x ≤ 0)
   omega
 ·rintro ⟨y, hy, he⟩
  exact List.any_eq_true.2 ⟨y, List.mem_of_getElem? hy, by simp [he]⟩
theorem SrtL.ins {rows : List (List Bd)} {x : List Bd} {i : Nat} (hs : SrtL rows) (h : AtL rows x i) (hn : hasL rows x = false) : SrtL (rows.take i ++ x :: rows.drop i) := by
 have low : ∀ y ∈ rows.take i, cmpL y x < 0 := fun y hy => by
  obtain ⟨j, hj⟩ := List.getElem?_of_mem hy
  rw [List.getElem?_take] at hj
  split at hj
  ·rename_i hji; exact h.lt j y hj hji
  ·cases hj
 have high : ∀ y ∈ rows.drop i, cmpL x y < 0 := fun y hy => by
  obtain ⟨j, hj⟩ := List.getElem?_of_mem hy
  rw [List.getElem?_drop] at hj
  have k := h.ge _ y hj (by omega)
  have k2 : cmpL y x ≠ 0 := fun e => by
   have : hasL rows x = true := List.any_eq_true.2 ⟨y, List.mem_of_getElem? hj, by simp [e]⟩
   rw [hn] at this; cases this
  have := tri_L.flip y x
  omega
 have hs2 : SrtL (rows.take i ++ rows.drop i) := by rw [List.take_append_drop]; exact hs
 obtain ⟨s1, s2, s3⟩ := List.pairwise_append.1 hs2
 refine List.pairwise_append.2 ⟨s1, List.pairwise_cons.2 ⟨high, s2⟩, fun a ha b hb => ?_⟩
 rcases List.mem_cons.1 hb with rfl | hb
 ·exact low a ha
 ·exact s3 a ha b hb
theorem SrtL.at {rows : List (List Bd)} (hs : SrtL rows) (x : List Bd) : AtL rows x (rows.takeWhile (fun y => decide (cmpL y x < 0))).length := by
  induction rows with
  | nil => exact ⟨fun j y h => by simp at h, fun j y h => by simp at h⟩
  | cons a l ih =>
    obtain ⟨h1, h2⟩ := List.pairwise_cons.1 hs
    by_cases ha : cmpL a x < 0
    · have ih := ih h2
      rw [List.takeWhile_cons_of_pos (by simpa using ha), List.length_cons]
      refine ⟨fun j y hy hj => ?_, fun j y hy hj => ?_⟩
      · cases j with
        | zero => simp at hy; subst hy; exact ha
        | succ j => exact ih.lt j y (by simpa using hy) (by omega)
      · cases j with
        | zero => omega
        | succ j => exact ih.ge j y (by simpa using hy) (by omega)
    · rw [List.takeWhile_cons_of_neg (by simpa using ha)]
      refine ⟨fun j y hy hj => by simp at hj, fun j y hy hj => ?_⟩
      cases j with
      | zero => simp at hy; subst hy; omega
      | succ j =>
        have hm := h1 y (List.mem_of_getElem? (by simpa using hy))
        by_cases k : 0 ≤ cmpL y x
        · exact k
        · have := tri_L.lt_le hm (by omega : cmpL y x ≤ 0); omega
theorem insL'_at (rows : List (List Bd)) (x : List Bd) : insL' rows x = rows.take (rows.takeWhile (fun y => decide (cmpL y x < 0))).length ++ x :: rows.drop (rows.takeWhile (fun y => decide (cmpL y x < 0))).length := by
 have h := List.takeWhile_append_dropWhile (p := fun y => decide (cmpL y x < 0)) (l := rows)
 unfold insL'
 generalize rows.takeWhile (fun y => decide (cmpL y x < 0)) = a at h ⊢
 generalize rows.dropWhile (fun y => decide (cmpL y x < 0)) = b at h ⊢
 subst h
 simp
theorem insL'_mem (rows : List (List Bd)) (x y : List Bd) : y ∈ insL' rows x → y = x ∨ y ∈ rows := by
 rw [insL'_at]
 intro h
 rcases List.mem_append.1 h with h | h
 ·exact .inr (List.mem_of_mem_take h)
 ·rcases List.mem_cons.1 h with h | h
  ·exact .inl h
  ·exact .inr (List.mem_of_mem_drop h)
theorem hasL_self {rows : List (List Bd)} {x : List Bd} (h : x ∈ rows) : hasL rows x = true := List.any_eq_true.2 ⟨x, h, by simp [tri_L.refl x]⟩
end Go.Abs.M
namespace Go.Abs.M
open Go Go.Abs Go.Proofs
variable [Mode]
theorem cmpI_zero {a b : Int} (h : cmpI a b = 0) : a = b := by
 unfold cmpI at h
 split at h
 ·omega
 ·split at h <;> omega
theorem cmpS_zero {a b : ByteArray} (h : cmpS a b = 0) : a = b := by
 rcases cmpS_cases a b with ⟨k, _⟩ | ⟨_, k⟩ | ⟨k, _⟩
 ·omega
 ·exact eqS_iff.1 (by rw [eqS, beq_iff_eq]; exact k)
 ·omega
theorem cmpId_zero {a b : Int × Int} (h : cmpId a b = 0) : a = b := by
 unfold cmpId at h
 rw [orI2] at h
 split at h
 ·omega
 ·rename_i k
  exact Prod.ext (cmpI_zero (by omega)) (cmpI_zero h)
theorem cmpBd_zero {a b : Bd} (h : cmpBd a b = 0) : a.var = b.var ∧ idOf a = idOf b := by
 unfold cmpBd at h
 rw [orI2] at h
 split at h
 ·omega
 ·rename_i k
  exact ⟨cmpS_zero (by omega), cmpId_zero h⟩
def Apt (S : List Bd → Prop) : Prop := ∀ p q, S p → S q → cmpL p q = 0 → p = q
def Dist (evs : List Ev) : Prop := evs.Pairwise fun a b => ¬ (a.src = b.src ∧ a.seq = b.seq)
def From (evs : List Ev) (p : List Bd) : Prop := ∀ b ∈ p, b.ev ∈ evs
theorem Dist.eq {evs : List Ev} (h : Dist evs) {a b : Ev} (ha : a ∈ evs) (hb : b ∈ evs) (hs : a.src = b.src) (hq : a.seq = b.seq) : a = b := by
  induction evs with
  | nil => cases ha
  | cons e evs ih =>
    obtain ⟨h1, h2⟩ := List.pairwise_cons.1 h
    rcases List.mem_cons.1 ha with e1 | ha
    · rcases List.mem_cons.1 hb with e2 | hb
      · rw [e1, e2]
      · exact absurd ⟨by rw [← e1]; exact hs, by rw [← e1]; exact hq⟩ (h1 b hb)
    · rcases List.mem_cons.1 hb with e2 | hb
      · exact absurd ⟨by rw [← e2]; exact hs.symm, by rw [← e2]; exact hq.symm⟩ (h1 a ha)
      · exact ih h2 ha hb
theorem cmpL_cons_zero {x y : Bd} {l r : List Bd} (h : cmpL (x :: l) (y :: r) = 0) : cmpBd x y = 0 ∧ cmpL l r = 0 := by
 simp only [cmpL] at h
 split at h
 ·omega
 ·exact ⟨by omega, h⟩
theorem bd_ext {x y : Bd} (h1 : x.var = y.var) (h2 : x.ev = y.ev) : x = y := by
 cases x; cases y; simp only at h1 h2; rw [h1, h2]
theorem from_apt {evs : List Ev} (h : Dist evs) : Apt (From evs) := by
  intro p
  induction p with
  | nil =>
    intro q _ _ hc
    cases q with
    | nil => rfl
    | cons y r => simp [cmpL] at hc
  | cons x l ih =>
    intro q hp hq hc
    cases q with
    | nil => simp [cmpL] at hc
    | cons y r =>
      obtain ⟨k1, k2⟩ := cmpL_cons_zero hc
      obtain ⟨k3, k4⟩ := cmpBd_zero k1
      have hid : x.ev.src = y.ev.src ∧ x.ev.seq = y.ev.seq := by simpa [idOf] using k4
      have he := h.eq (hp x List.mem_cons_self) (hq y List.mem_cons_self) hid.1 hid.2
      rw [bd_ext k3 he, ih r (fun b hb => hp b (List.mem_cons_of_mem _ hb)) (fun b hb => hq b (List.mem_cons_of_mem _ hb)) k2]
def addP (rows : List (List Bd)) (x : List Bd) : List (List Bd) := if hasL rows x then rows else insL' rows x
def norm (l : List (List Bd)) : List (List Bd) := l.foldl addP []
theorem insL'_iff (rows : List (List Bd)) (x y : List Bd) : y ∈ insL' rows x ↔ y = x ∨ y ∈ rows := by
 refine ⟨insL'_mem rows x y, fun h => ?_⟩
 rw [insL'_at]
 rcases h with rfl | h
 ·exact List.mem_append_right _ List.mem_cons_self
 ·rw [← List.take_append_drop (rows.takeWhile (fun z => decide (cmpL z x < 0))).length rows] at h
  rcases List.mem_append.1 h with h | h
  ·exact List.mem_append_left _ h
  ·exact List.mem_append_right _ (List.mem_cons_of_mem _ h)
theorem addP_srt {rows : List (List Bd)} (x : List Bd) (hs : SrtL rows) : SrtL (addP rows x) := by
 unfold addP
 cases h : hasL rows x
 ·rw [if_neg (by simp), insL'_at]
  exact hs.ins (hs.at x) h
 ·rw [if_pos rfl]; exact hs
theorem addP_mem {S : List Bd → Prop} (hS : Apt S) {rows : List (List Bd)} {x : List Bd} (hr : ∀ y ∈ rows, S y) (hx : S x) (y : List Bd) : y ∈ addP rows x ↔ y = x ∨ y ∈ rows := by
 unfold addP
 cases h : hasL rows x
 ·rw [if_neg (by simp)]; exact insL'_iff _ _ _
 ·rw [if_pos rfl]
  refine ⟨.inr, fun h' => ?_⟩
  rcases h' with rfl | h'
  ·obtain ⟨z, hz, he⟩ := List.any_eq_true.1 h
   have he : cmpL z y = 0 := by simpa using he
   rw [← hS z y (hr z hz) hx he]; exact hz
  ·exact h'
theorem addsP_srt (l : List (List Bd)) : ∀ {rows : List (List Bd)}, SrtL rows → SrtL (l.foldl addP rows) := by
 induction l with
 | nil => intro rows h; exact h
 | cons x l ih => intro rows h; exact ih (addP_srt x h)
theorem addsP_mem {S : List Bd → Prop} (hS : Apt S) (l : List (List Bd)) : ∀ {rows : List (List Bd)}, (∀ y ∈ rows, S y) → (∀ y ∈ l, S y) → ∀ y, y ∈ l.foldl addP rows ↔ y ∈ rows ∨ y ∈ l := by
  induction l with
  | nil => intro rows _ _ y; simp
  | cons x l ih =>
    intro rows h1 h2 y
    have hx := h2 x List.mem_cons_self
    have hm := addP_mem hS h1 hx
    rw [List.foldl_cons, ih (fun z hz => ((hm z).1 hz).elim (fun e => e ▸ hx) (h1 z)) (fun z hz => h2 z (List.mem_cons_of_mem _ hz)) y, hm y, List.mem_cons]
    constructor
    · rintro ((h | h) | h)
      · exact .inr (.inl h)
      · exact .inl h
      · exact .inr (.inr h)
    · rintro (h | h | h)
      · exact .inl (.inr h)
      · exact .inl (.inl h)
      · exact .inr h
theorem srt_nil : SrtL [] := List.Pairwise.nil
theorem norm_srt (l : List (List Bd)) : SrtL (norm l) := addsP_srt l srt_nil
theorem norm_mem {S : List Bd → Prop} (hS : Apt S) {l : List (List Bd)} (h : ∀ y ∈ l, S y) (y : List Bd) : y ∈ norm l ↔ y ∈ l := by
 rw [norm, addsP_mem hS l (fun _ h => by cases h) h y]
 simp
theorem SrtL.uniq : ∀ {a b : List (List Bd)}, SrtL a → SrtL b → (∀ x, x ∈ a ↔ x ∈ b) → a = b
  | [], [], _, _, _ => rfl
  | [], y :: b, _, _, h => by have := (h y).2 List.mem_cons_self; cases this
  | x :: a, [], _, _, h => by have := (h x).1 List.mem_cons_self; cases this
  | x :: a, y :: b, ha, hb, h => by
    obtain ⟨a1, a2⟩ := List.pairwise_cons.1 ha
    obtain ⟨b1, b2⟩ := List.pairwise_cons.1 hb
    have hxy : x = y := by
      rcases List.mem_cons.1 ((h x).1 List.mem_cons_self) with e | e
      · exact e
      · rcases List.mem_cons.1 ((h y).2 List.mem_cons_self) with e' | e'
        · exact e'.symm
        · have k1 := b1 x e
          have k2 := a1 y e'
          have := tri_L.flip x y
          omega
    subst hxy
    have irr : ∀ z, cmpL x z < 0 → z ≠ x := fun z hz e => by rw [e, tri_L.refl] at hz; omega
    rw [SrtL.uniq a2 b2 fun z => ?_]
    constructor
    · intro hz
      rcases List.mem_cons.1 ((h z).1 (List.mem_cons_of_mem _ hz)) with e | e
      · exact absurd e (irr z (a1 z hz))
      · exact e
    · intro hz
      rcases List.mem_cons.1 ((h z).2 (List.mem_cons_of_mem _ hz)) with e | e
      · exact absurd e (irr z (b1 z hz))
      · exact e
theorem norm_ext {S : List Bd → Prop} (hS : Apt S) {l m : List (List Bd)} (hl : ∀ y ∈ l, S y) (hm : ∀ y ∈ m, S y) (h : ∀ y, y ∈ l ↔ y ∈ m) : norm l = norm m :=
 (norm_srt l).uniq (norm_srt m) fun y => by rw [norm_mem hS hl, norm_mem hS hm, h]
theorem norm_id {S : List Bd → Prop} (hS : Apt S) {l : List (List Bd)} (hl : ∀ y ∈ l, S y) (h : SrtL l) : norm l = l :=
 (norm_srt l).uniq h fun y => norm_mem hS hl y
theorem adds_norm {S : List Bd → Prop} (hS : Apt S) {a l : List (List Bd)} (ha : ∀ y ∈ a, S y) (hl : ∀ y ∈ l, S y) (h : SrtL a) : l.foldl addP a = norm (a ++ l) :=
 (addsP_srt l h).uniq (norm_srt _) fun y => by
  rw [addsP_mem hS l ha hl, norm_mem hS (fun z hz => (List.mem_append.1 hz).elim (ha z) (hl z)), List.mem_append]
theorem allEq_eq {α : Type} {f : α → α → Bool} (hf : ∀ x y, f x y = true → x = y) : ∀ {l m : List α}, allEq f l m = true → l = m
  | [], [], _ => rfl
  | [], _ :: _, h => by cases h
  | _ :: _, [], h => by cases h
  | a :: l, b :: m, h => by
    rw [allEq, Bool.and_eq_true] at h
    rw [hf a b h.1, allEq_eq hf h.2]
theorem eqAttr_eq (a b : Attr) (h : eqAttr a b = true) : a = b := by
 simp only [eqAttr, Bool.and_eq_true] at h
 obtain ⟨h1, h2, h3, h4⟩ := h
 cases a; rename_i an av; cases b; rename_i bn bv
 cases av; cases bv
 simp only [beq_iff_eq] at h2 h3
 have e1 := eqS_iff.1 h1
 have e2 := eqS_iff.1 h4
 simp only at e1 e2 h2 h3
 rw [e1, e2, h2, h3]
theorem eqEv_eq (a b : Ev) (h : eqEv a b = true) : a = b := by
 simp only [eqEv, Bool.and_eq_true] at h
 obtain ⟨⟨⟨⟨h1, h2⟩, h3⟩, h4⟩, h5⟩ := h
 cases a; cases b
 simp only [beq_iff_eq] at h1 h2 h3
 have e4 := eqS_iff.1 h4
 have e5 := allEq_eq eqAttr_eq h5
 simp only at e4 e5 h1 h2 h3
 rw [h1, h2, h3, e4, e5]
theorem eqBd_eq (a b : Bd) (h : eqBd a b = true) : a = b := by
 simp only [eqBd, Bool.and_eq_true] at h
 exact bd_ext (eqS_iff.1 h.1) (eqEv_eq _ _ h.2)
theorem samePart_iff {a b : List Bd} : samePart a b = true ↔ a = b :=
 ⟨allEq_eq eqBd_eq, fun h => by rw [h]; exact allEq_refl eqBd_refl b⟩
theorem getD_part {l : List (List Bd)} {i : Nat} (h : i < l.length) : l[i]? = some (l.getD i []) := by
 rw [List.getD_eq_getElem?_getD, List.getElem?_eq_getElem h]; rfl
theorem idxP_hi (l : List (List Bd)) (p : List Bd) : ∀ n, ∀ j, idxP l p n ≤ j → j < n → cmpL (l.getD j []) p > 0
  | 0, j, _, h => by omega
  | i + 1, j, h1, h2 => by
    rw [idxP] at h1
    split at h1
    · rename_i hc
      by_cases e : j = i
      · rw [e]; exact hc
      · exact idxP_hi l p i j h1 (by omega)
    · omega
theorem idxP_lo (l : List (List Bd)) (p : List Bd) : ∀ n, 0 < idxP l p n → cmpL (l.getD (idxP l p n - 1) []) p ≤ 0
  | 0, h => by rw [idxP] at h; omega
  | i + 1, h => by
    rw [idxP] at h ⊢
    split at h
    · rename_i hc
      rw [if_pos hc]; exact idxP_lo l p i h
    · rename_i hc
      rw [if_neg hc]
      rw [Nat.add_sub_cancel]; omega
theorem putP_add {S : List Bd → Prop} (hS : Apt S) {l : List (List Bd)} {p : List Bd} (hl : ∀ y ∈ l, S y) (hp : S p) (hs : SrtL l) : putP l p = addP l p := by
 have hle := idxP_le l p l.length
 have hhi := idxP_hi l p l.length
 have hlo := idxP_lo l p l.length
 unfold putP
 generalize idxP l p l.length = i at *
 by_cases h : 0 < i ∧ samePart (l.getD (i - 1) []) p = true
 ·rw [if_pos h, addP, if_pos]
  have hg := getD_part (l := l) (i := i - 1) (by omega)
  rw [samePart_iff.1 h.2] at hg
  exact hasL_self (List.mem_of_getElem? hg)
 ·rw [if_neg h]
  have hat : AtL l p i := by
   refine ⟨fun j y hy hj => ?_, fun j y hy hj => ?_⟩
   ·have hg := getD_part (l := l) (i := i - 1) (by omega)
    have k := hlo (by omega)
    generalize l.getD (i - 1) [] = z at hg k h
    have hlt : cmpL z p < 0 := by
     by_cases e : cmpL z p = 0
     ·exact absurd ⟨by omega, samePart_iff.2 (hS z p (hl z (List.mem_of_getElem? hg)) hp e)⟩ h
     ·omega
    by_cases e : j = i - 1
    ·rw [e, hg] at hy; injection hy with hy; rw [← hy]; exact hlt
    ·have := hs.get hy hg (by omega)
     exact tri_L.lt_le this (by omega)
   ·have hjl := (List.getElem?_eq_some_iff.1 hy).1
    have := hhi j hj hjl
    rw [getD_part hjl] at hy; injection hy with hy
    rw [← hy]; omega
  have hno : hasL l p = false := by
   cases hh : hasL l p
   ·rfl
   ·obtain ⟨y, hy, he⟩ := (hat.has hs).1 hh
    have hil := (List.getElem?_eq_some_iff.1 hy).1
    have := hhi i (Nat.le_refl _) hil
    rw [getD_part hil] at hy; injection hy with hy
    rw [← hy] at he; omega
  rw [addP, hno, if_neg (by simp), hat.ins hle]
theorem putsP_add {S : List Bd → Prop} (hS : Apt S) (l : List (List Bd)) : ∀ {a : List (List Bd)}, (∀ y ∈ a, S y) → (∀ y ∈ l, S y) → SrtL a → l.foldl putP a = l.foldl addP a := by
  induction l with
  | nil => intro a _ _ _; rfl
  | cons x l ih =>
    intro a ha hl hs
    have hx := hl x List.mem_cons_self
    rw [List.foldl_cons, List.foldl_cons, putP_add hS ha hx hs]
    exact ih (fun y hy => ((addP_mem hS ha hx y).1 hy).elim (fun e => e ▸ hx) (ha y)) (fun y hy => hl y (List.mem_cons_of_mem _ hy)) (addP_srt x hs)
def keepFrom : List Bd → List (List Bd) → List (List Bd)
  | _, [] => []
  | x, y :: l => if cmpL y x = 0 then keepFrom y l else y :: keepFrom y l
def compactL : List (List Bd) → List (List Bd)
  | [] => []
  | x :: l => x :: keepFrom x l
theorem keepFrom_mem {S : List Bd → Prop} (hS : Apt S) : ∀ (l : List (List Bd)) (x : List Bd), S x → (∀ y ∈ l, S y) → ∀ y, y ∈ x :: keepFrom x l ↔ y ∈ x :: l
  | [], x, _, _, y => by rw [keepFrom]
  | z :: l, x, hx, hl, y => by
    have hz := hl z List.mem_cons_self
    have ih := keepFrom_mem hS l z hz (fun w hw => hl w (List.mem_cons_of_mem _ hw)) y
    rw [keepFrom]
    split
    · rename_i h
      have e := hS z x hz hx h
      subst e
      rw [ih]; simp
    · rw [List.mem_cons, ih, ← List.mem_cons]
theorem keepFrom_srt : ∀ (l : List (List Bd)) (x : List Bd), (x :: l).Pairwise (fun a b => cmpL a b ≤ 0) → SrtL (x :: keepFrom x l)
  | [], x, _ => by rw [keepFrom]; exact List.pairwise_singleton _ _
  | z :: l, x, h => by
    obtain ⟨h1, h2⟩ := List.pairwise_cons.1 h
    have ih := keepFrom_srt l z h2
    obtain ⟨i1, i2⟩ := List.pairwise_cons.1 ih
    have hxz := h1 z List.mem_cons_self
    have hf := tri_L.flip x z
    rw [keepFrom]
    split
    · rename_i hc
      refine List.pairwise_cons.2 ⟨fun y hy => ?_, i2⟩
      exact tri_L.le_lt hxz (i1 y hy)
    · rename_i hc
      have hlt : cmpL x z < 0 := by omega
      refine List.pairwise_cons.2 ⟨fun y hy => ?_, ih⟩
      rcases List.mem_cons.1 hy with rfl | hy
      · exact hlt
      · exact tri_L.le_lt hxz (i1 y hy)
theorem compact_norm {S : List Bd → Prop} (hS : Apt S) {l l' : List (List Bd)} (hl : ∀ y ∈ l, S y) (hp : l'.Perm l) (hs : l'.Pairwise fun a b => cmpL a b ≤ 0) : compactL l' = norm l := by
 have hl' : ∀ y ∈ l', S y := fun y hy => hl y (hp.subset hy)
 have hm : ∀ y, y ∈ compactL l' ↔ y ∈ l' := fun y => by
  cases l' with
  | nil => rfl
  | cons x m => exact keepFrom_mem hS m x (hl' x List.mem_cons_self) (fun w hw => hl' w (List.mem_cons_of_mem _ hw)) y
 have hsr : SrtL (compactL l') := by
  cases l' with
  | nil => exact srt_nil
  | cons x m => exact keepFrom_srt m x hs
 exact hsr.uniq (norm_srt l) fun y => by rw [hm y, norm_mem hS hl, hp.mem_iff]
def leafL (n : Nd) (evs : List Ev) : List (List Bd) := (evs.filter (termB n)).map fun e => [⟨n.var, e⟩]
def late (two : Bool) (p q : List Bd) : Bool := two && decide (beginOf q ≤ endOf p)
def rowL (two : Bool) (b : List (List Bd)) (p : List Bd) : List (List Bd) := b.filterMap fun q => if late two p q then none else mg p q
def pairsL (two : Bool) (a b : List (List Bd)) : List (List Bd) := a.flatMap (rowL two b)
def capL (l : List (List Bd)) : Option (List (List Bd)) := if 4096 < l.length then none else some l
def stepL (kind : Int) (a l : List (List Bd)) : List (List Bd) := if kind = 4 then a ++ l else pairsL (decide (kind = 2)) a l
def denGo (kind : Int) : Option (List (List Bd)) → List (Option (List (List Bd))) → Option (List (List Bd))
  | acc, [] => some (acc.getD [])
  | _, none :: _ => none
  | none, some l :: r => (capL l).bind fun l => denGo kind (some l) r
  | some a, some l :: r => (capL (norm (stepL kind a l))).bind fun l => denGo kind (some l) r
def denF (evs : List Ev) (n : Nd) (l : List (Option (List (List Bd)))) : Option (List (List Bd)) := if n.kind = 1 then some (norm (leafL n evs)) else denGo n.kind none l
def Nd.den (evs : List Ev) (n : Nd) : Option (List (List Bd)) := n.para (denF evs)
theorem Nd.den_eq (evs : List Ev) (n : Nd) : n.den evs = if n.kind = 1 then some (norm (leafL n evs)) else denGo n.kind none (n.kids.map (Nd.den evs)) := Nd.para_eq _ n
theorem putS_mem (l : List ByteArray) (s v : ByteArray) : v ∈ putS l s ↔ v = s ∨ v ∈ l := by
 unfold putS
 split
 ·rename_i h
  have := hasS_iff.1 h
  exact ⟨.inr, fun h => h.elim (fun e => e ▸ this) id⟩
 ·rw [List.mem_append, List.mem_cons]
  have := List.takeWhile_append_dropWhile (p := (ltS · s)) (l := l)
  conv => rhs; rw [← this, List.mem_append]
  constructor
  ·rintro (h | h | h)
   ·exact .inr (.inl h)
   ·exact .inl h
   ·exact .inr (.inr h)
  ·rintro (h | h | h)
   ·exact .inr (.inl h)
   ·exact .inl h
   ·exact .inr (.inr h)
theorem putAll_mem (kv : List ByteArray) : ∀ (acc : List ByteArray) (v : ByteArray), v ∈ putAll acc kv ↔ v ∈ acc ∨ v ∈ kv := by
  induction kv with
  | nil => intro acc v; simp [putAll]
  | cons s kv ih =>
    intro acc v
    have := ih (putS acc s) v
    simp only [putAll, List.foldl_cons] at this ⊢
    rw [this, putS_mem, List.mem_cons]
    constructor
    · rintro ((h | h) | h)
      · exact .inr (.inl h)
      · exact .inl h
      · exact .inr (.inr h)
    · rintro (h | h | h)
      · exact .inl (.inr h)
      · exact .inl (.inl h)
      · exact .inr h
theorem foldAll_mem (l : List (List ByteArray)) : ∀ (acc : List ByteArray) (v : ByteArray), v ∈ l.foldl putAll acc ↔ v ∈ acc ∨ ∃ k ∈ l, v ∈ k := by
  induction l with
  | nil => intro acc v; simp
  | cons s l ih =>
    intro acc v
    rw [List.foldl_cons, ih, putAll_mem]
    constructor
    · rintro ((h | h) | ⟨k, hk, h⟩)
      · exact .inl h
      · exact .inr ⟨s, List.mem_cons_self, h⟩
      · exact .inr ⟨k, List.mem_cons_of_mem _ hk, h⟩
    · rintro (h | ⟨k, hk, h⟩)
      · exact .inl (.inl h)
      · rcases List.mem_cons.1 hk with rfl | hk
        · exact .inl (.inr h)
        · exact .inr ⟨k, hk, h⟩
theorem Nd.vars_mem (n : Nd) (v : ByteArray) : v ∈ n.vars ↔ (n.var.size ≠ 0 ∧ v = n.var) ∨ ∃ x ∈ n.kids, v ∈ x.vars := by
 rw [Nd.vars_eq, varsOf, foldAll_mem]
 refine or_congr ?_ ?_
 ·split
  ·rename_i h; simp [h]
  ·rename_i h; rw [putS_mem]; simp [h]
 ·simp only [List.mem_map]
  constructor
  ·rintro ⟨k, ⟨x, hx, rfl⟩, h⟩; exact ⟨x, hx, h⟩
  ·rintro ⟨x, hx, h⟩; exact ⟨_, ⟨x, hx, rfl⟩, h⟩
structure Nd.fine (n : Nd) : Prop where
  err : n.err = 0
  binds : n.binds = 0
theorem firstErr_zero : ∀ {l : List Int}, firstErr l = 0 → ∀ e ∈ l, e = 0
  | [], _, e, h => by cases h
  | x :: l, hz, e, h => by
    rw [firstErr] at hz
    split at hz
    · rename_i hx
      rcases List.mem_cons.1 h with rfl | h
      · exact hx
      · exact firstErr_zero hz e h
    · rename_i hx; exact absurd hz hx
theorem Nd.err_own {n : Nd} (h : n.err = 0) : ndOwn n = 0 := by
 rw [Nd.err_eq] at h
 split at h
 ·assumption
 ·exact h
theorem Nd.err_kid {n x : Nd} (h : n.err = 0) (hx : x ∈ n.kids) : x.err = 0 := by
 have h0 := Nd.err_own h
 rw [Nd.err_eq, if_pos h0] at h
 exact firstErr_zero h _ (List.mem_map_of_mem hx)
theorem bindsFrom_zero {k : Bool} : ∀ {l : List (Int × List ByteArray)} {seen : List (List ByteArray)}, bindsFrom k seen l = 0 →
    (∀ x ∈ l, x.1 = 0) ∧ (k = true → (∀ x ∈ l, ∀ o ∈ seen, meets x.2 o = false) ∧ l.Pairwise fun x y => meets y.2 x.2 = false)
  | [], seen, _ => ⟨fun x h => (by cases h), fun _ => ⟨fun x h => (by cases h), .nil⟩⟩
  | (e, kv) :: r, seen, h => by
    rw [bindsFrom] at h
    split at h
    · rename_i he
      split at h
      · cases h
      · rename_i hm
        obtain ⟨h1, h2⟩ := bindsFrom_zero h
        refine ⟨fun x hx => ?_, fun hk => ?_⟩
        · rcases List.mem_cons.1 hx with rfl | hx
          · exact he
          · exact h1 x hx
        · obtain ⟨h3, h4⟩ := h2 hk
          have hm : ∀ o ∈ seen, meets kv o = false := fun o ho => by
            cases hh : meets kv o
            · rfl
            · exact absurd (by rw [hk, Bool.true_and]; exact List.any_eq_true.2 ⟨o, ho, hh⟩) hm
          refine ⟨fun x hx o ho => ?_, List.pairwise_cons.2 ⟨fun y hy => h3 y hy kv (by simp), h4⟩⟩
          rcases List.mem_cons.1 hx with rfl | hx
          · exact hm o ho
          · exact h3 x hx o (List.mem_append_left _ ho)
    · rename_i he; exact absurd h he
theorem meets_no {kv ov : List ByteArray} (h : meets kv ov = false) : ∀ v ∈ kv, v ∉ ov := fun v hv ho => by
 have : meets kv ov = true := List.any_eq_true.2 ⟨v, ho, hasS_iff.2 hv⟩
 rw [h] at this; cases this
theorem Nd.binds_kid {n x : Nd} (h : n.binds = 0) (hx : x ∈ n.kids) : x.binds = 0 := by
 rw [Nd.binds_eq] at h
 exact (bindsFrom_zero h).1 _ (List.mem_map_of_mem hx)
def Apart (ks : List Nd) : Prop := ks.Pairwise fun x y => ∀ v ∈ y.vars, v ∉ x.vars
theorem Nd.binds_apart {n : Nd} (h : n.binds = 0) (hk : n.kind = 2 ∨ n.kind = 3) : Apart n.kids := by
 rw [Nd.binds_eq] at h
 have := ((bindsFrom_zero h).2 (by simp [twin, hk])).2
 rw [List.pairwise_map] at this
 exact this.imp fun h => meets_no h
theorem Nd.fine.kid {n x : Nd} (h : n.fine) (hx : x ∈ n.kids) : x.fine := ⟨Nd.err_kid h.err hx, Nd.binds_kid h.binds hx⟩
theorem Nd.fine.join {n : Nd} (h : n.fine) (hk : n.kind ≠ 1) : (n.kind = 2 ∨ n.kind = 3 ∨ n.kind = 4) ∧ 2 ≤ n.kids.length ∧ n.var.size = 0 := by
 have h0 := Nd.err_own h.err
 rw [ndOwn, if_neg hk] at h0
 split at h0
 ·rename_i hkk
  split at h0
  ·cases h0
  ·rename_i hb
   simp only [joinBad, Bool.or_eq_true, not_or, decide_eq_true_eq, Decidable.not_not] at hb
   exact ⟨hkk, by omega, by omega⟩
 ·cases h0
theorem name_size {s : ByteArray} (h : isName s = true) : s.size ≠ 0 := by
 simp only [isName, Bool.and_eq_true, bne_iff_ne] at h
 exact h.1.2
theorem filter_perm (f : Bd → Bool) : ∀ p : List Bd, p.Perm (p.filter f ++ p.filter fun b => !f b)
  | [] => .refl _
  | x :: p => by
    have ih := filter_perm f p
    cases h : f x
    · rw [List.filter_cons_of_neg (by simp [h]), List.filter_cons_of_pos (by simp [h])]
      exact (List.Perm.cons x ih).trans List.perm_middle.symm
    · rw [List.filter_cons_of_pos h, List.filter_cons_of_neg (by simp [h])]
      exact .cons x ih
theorem srt_filter (f : Bd → Bool) : ∀ {p : List Bd}, Srt p → Srt (p.filter f)
  | [], _ => trivial
  | x :: p, h => by
    have ih := srt_filter f h.2
    cases hx : f x
    · rw [List.filter_cons_of_neg (by simp [hx])]; exact ih
    · rw [List.filter_cons_of_pos hx]
      exact ⟨fun y hy => h.1 y (List.mem_filter.1 hy).1, ih⟩
theorem part_filter {p : List Bd} (hp : partErr p = 0) (f : Bd → Bool) : partErr (p.filter f) = 0 :=
 part_sub hp (srt_filter f (part_srt hp)) ⟨_, filter_perm f p⟩
theorem part_of {p : List Bd} (hp : partErr p = 0) (vs : List ByteArray) : partErr (ofB p vs) = 0 := part_filter hp _
theorem aft_uniq : ∀ {a b : List Bd}, a.Pairwise (fun x y => leS y.var x.var = false) → Srt b → a.Perm b → a = b
  | [], b, _, _, h => by rw [List.nil_perm.1 h]
  | x :: a, [], _, _, h => by have := h.length_eq; simp at this
  | x :: a, y :: b, ha, hb, h => by
    obtain ⟨a1, a2⟩ := List.pairwise_cons.1 ha
    have hy : y = x := by
      rcases List.mem_cons.1 (h.symm.subset List.mem_cons_self) with e | e
      · exact e
      · rcases List.mem_cons.1 (h.subset List.mem_cons_self) with e' | e'
        · exact e'.symm
        · have := hb.1 x e'
          rw [a1 y e] at this; cases this
    subst hy
    rw [aft_uniq a2 hb.2 (List.Perm.cons_inv h)]
theorem part_uniq {a b : List Bd} (ha : partErr a = 0) (hb : Srt b) (h : a.Perm b) : a = b :=
 aft_uniq (((part_iff a).1 ha).2.2.imp fun h => h.1) hb h
theorem ofB_perm {a b : List Bd} (h : a.Perm b) (vs : List ByteArray) : (ofB a vs).Perm (ofB b vs) := h.filter _
theorem ofB_append (a b : List Bd) (vs : List ByteArray) : ofB (a ++ b) vs = ofB a vs ++ ofB b vs := List.filter_append ..
theorem ofB_none {a : List Bd} {vs : List ByteArray} (h : ∀ b ∈ a, b.var ∉ vs) : ofB a vs = [] := by
 rw [ofB, List.filter_eq_nil_iff]
 intro b hb hh
 exact h b hb (hasS_iff.1 hh)
theorem ofB_all {a : List Bd} {vs : List ByteArray} (h : ∀ b ∈ a, b.var ∈ vs) : ofB a vs = a := by
 rw [ofB, List.filter_eq_self]
 intro b hb
 exact hasS_iff.2 (h b hb)
theorem ofB_mrg {p q m : List Bd} (hm : mg p q = some m) (vs : List ByteArray) : (ofB m vs).Perm (ofB p vs ++ ofB q vs) ∧ partErr m = 0 ∧ partErr p = 0 ∧ partErr q = 0 ∧ m.Perm (p ++ q) := by
 unfold mg at hm
 split at hm
 ·rename_i h
  injection hm with hm
  subst hm
  exact ⟨(ofB_append p q vs) ▸ ofB_perm (mrg_perm p q) vs, h.2.2, h.1, h.2.1, mrg_perm p q⟩
 ·cases hm
theorem ofB_right {p q m : List Bd} (hm : mg p q = some m) {vs : List ByteArray} (h : ∀ b ∈ p, b.var ∉ vs) (hq : ∀ b ∈ q, b.var ∈ vs) : ofB m vs = q := by
 obtain ⟨h1, h2, h3, h4, h5⟩ := ofB_mrg hm vs
 rw [ofB_none h, List.nil_append, ofB_all hq] at h1
 exact part_uniq (part_of h2 vs) (part_srt h4) h1
theorem minL_all (a : Int) (r : List Int) : ∀ x ∈ a :: r, minL a r ≤ x := by
  induction r generalizing a with
  | nil => intro x hx; simp at hx; subst hx; exact Int.le_refl _
  | cons b r ih =>
    intro x hx
    simp only [minL, List.foldl_cons] at ih ⊢
    have k := ih (if b < a then b else a)
    have k0 := k _ List.mem_cons_self
    rcases List.mem_cons.1 hx with rfl | hx
    · split at k0 <;> rename_i h
      · rw [if_pos h]; omega
      · rw [if_neg h]; omega
    · rcases List.mem_cons.1 hx with rfl | hx
      · split at k0 <;> rename_i h
        · rw [if_pos h]; omega
        · rw [if_neg h]; omega
      · exact k x (List.mem_cons_of_mem _ hx)
theorem maxL_all (a : Int) (r : List Int) : ∀ x ∈ a :: r, x ≤ maxL a r := by
  induction r generalizing a with
  | nil => intro x hx; simp at hx; subst hx; exact Int.le_refl _
  | cons b r ih =>
    intro x hx
    simp only [maxL, List.foldl_cons] at ih ⊢
    have k := ih (if a < b then b else a)
    have k0 := k _ List.mem_cons_self
    rcases List.mem_cons.1 hx with rfl | hx
    · split at k0 <;> rename_i h
      · rw [if_pos h]; omega
      · rw [if_neg h]; omega
    · rcases List.mem_cons.1 hx with rfl | hx
      · split at k0 <;> rename_i h
        · rw [if_pos h]; omega
        · rw [if_neg h]; omega
      · exact k x (List.mem_cons_of_mem _ hx)
theorem begin_le {l : List Bd} {b : Bd} (h : b ∈ l) : beginOf l ≤ b.ev.time := by
 cases l with
 | nil => cases h
 | cons x l => exact minL_all _ _ _ (List.mem_map_of_mem (f := fun b : Bd => b.ev.time) h)
theorem le_end {l : List Bd} {b : Bd} (h : b ∈ l) : b.ev.time ≤ endOf l := by
 cases l with
 | nil => cases h
 | cons x l => exact maxL_all _ _ _ (List.mem_map_of_mem (f := fun b : Bd => b.ev.time) h)
theorem end_at {l : List Bd} (h : l ≠ []) : ∃ b ∈ l, endOf l = b.ev.time := by
  cases l with
  | nil => exact absurd rfl h
  | cons x l =>
    have := maxL_mem x.ev.time (l.map (·.ev.time))
    rw [show x.ev.time :: l.map (·.ev.time) = (x :: l).map (·.ev.time) from rfl] at this
    obtain ⟨b, hb, e⟩ := List.mem_map.1 this
    exact ⟨b, hb, e.symm⟩
theorem end_eq {l m : List Bd} (hl : l ≠ []) (h1 : ∀ b ∈ l, b ∈ m) (h2 : ∀ b ∈ m, b.ev.time ≤ endOf l) : endOf m = endOf l := by
 obtain ⟨b, hb, e⟩ := end_at hl
 have k1 := le_end (h1 b hb)
 obtain ⟨c, hc, e'⟩ := end_at (l := m) (fun e => by rw [e] at h1; have := h1 b hb; cases this)
 have k2 := h2 c hc
 omega
end Go.Abs.M
namespace Go.Abs.M
open Go Go.Abs Go.Proofs
instance lax : Mode := ⟨False⟩
def bytesOf (x : List UInt8) : ByteArray := ⟨x.toArray⟩
def sortN (names : List ByteArray) : List ByteArray := ((names.map fun s => s.data.toList).mergeSort fun x y => decide (x ≤ y)).map bytesOf
theorem sortN_len (names : List ByteArray) : (sortN names).length = names.length := by
 simp [sortN, List.length_mergeSort]
theorem VRs_strings {w : World} {cx : Cx} : ∀ l : List ByteArray, VRs w cx (l.map encS).flatten (l.map Value.string)
  | [] => .nil
  | s :: l => by
    have := VRs_strings (w := w) (cx := cx) l
    rw [List.map_cons, List.flatten_cons, List.map_cons]
    exact VRs.cons rfl (.c _) this
theorem list_spec {g : Nat} {names : List ByteArray} {σ : Hp} (hg : σ.obj g = some [.tup (entS names)]) (hn : names.Nodup) (hs : ∀ s ∈ names, s.size ≤ maxLen) (hl : names.length ≤ 1048576) :
  ACalls Tryz.prog 96 [.c (.map (some g))] σ (fun v σ' => σ' = σ ∧ v = .sl ((sortN names).map encS)) := by
 refine ⟨Tryz.call96, fun cx w xs hH ha => ?_⟩
 have hx : xs = [.map (some g)] := ha.consts (vs := [.map (some g)])
 subst hx
 obtain ⟨D, hown, hsz, hperm⟩ := ownsMap_of (P := Tryz.prog) (kt := 9) (et := 4) Tryz.underlying9 Tryz.underlying4 hn hs (by unfold maxLen; omega) (hH.obj g _ hg)
 refine (Tryz.set_list g names.length D _ w hown (by rw [hsz]; unfold maxLen; omega) (by rw [hsz]; omega)).mono fun e w' ⟨v, ss, he, hS, hrow, hnil, hb⟩ => ?_
 have hms : ss.mergeSort (fun x y => decide (x ≤ y)) = (names.map fun s => s.data.toList).mergeSort fun x y => decide (x ≤ y) := mergeSort_of_perm (hS.trans hperm)
 have hrl : (ss.mergeSort (fun x y => decide (x ≤ y))).map encStr = (sortN names).map Value.string := by
  rw [hms, sortN, List.map_map]; rfl
 rw [hrl] at hrow
 have hlen : ss.length = (sortN names).length := by rw [sortN_len, hS.length_eq, hperm.length_eq, List.length_map]
 have hext : ∀ cx' : Cx, cx.le cx' → (∀ g', cx'.I g' → cx.I g' ∨ (w.heap.size ≤ g' ∧ g' < w'.heap.size)) → Left cx σ w cx' σ w' := fun cx' hle hI =>
  ⟨hH.new hle hI hb.size (fun g' hg' => hb.block g' hg'), ⟨hb.os, hb.tape, ⟨hb.output, fun h => h.elim⟩, hb.size, fun g' hg' _ => hb.block g' hg', hle, fun g' hi => (hI g' hi).imp id (fun h => .inr h.1), fun g' ho => .inl (own_keep hH hle ho)⟩, fun k x hk => .inl ⟨x, hk⟩, fun g' x hx => .inl ⟨x, hx⟩⟩
 rcases hrow.2 with ⟨hv, h0⟩ | ⟨b, cap, cur, hv, hbase, hbl, hcap, hmx, hcs, htk⟩
 ·have h1 : sortN names = [] := List.eq_nil_of_length_eq_zero (by omega)
  refine ⟨_, v, cx, σ, he, ?_, hext cx (.refl _) (fun _ h => .inl h), rfl, rfl⟩
  rw [h1, hv]; exact .nils
 ·refine ⟨_, v, cx.addI b, σ, he, ?_, hext (cx.addI b) (cx.le_addI b) (fun g' h => h.imp id (fun e => by subst e; exact ⟨hbase, lt_of_block hbl⟩)), rfl, rfl⟩
  have hl2 : ((sortN names).map encS).length = ss.length := by rw [List.length_map, hlen]
  rw [hv, ← hl2]
  refine VR.sl_of_row (sz := 1) (xs := (sortN names).map Value.string) (.inr rfl) (by rw [hl2]; exact hcap) (fun e he => by
   obtain ⟨s, _, rfl⟩ := List.mem_map.1 he; rfl) (VRs_strings _) (fun j x hj => ?_)
  have : (cur.toList.take (ss.length * 1))[j]? = some x := by rw [htk]; exact hj
  rw [List.getElem?_take] at this
  split at this
  ·simp only [World.cell?, hbl, Nat.zero_add, Option.isSome_none, Bool.false_eq_true, if_false]
   rw [← Array.getElem?_toList]; exact this
  ·cases this
end Go.Abs.M
namespace Go.Abs.M
open Go Go.Abs Go.Proofs
variable [Mode]
set_option maxRecDepth 20000
def ptrV (g : Nat) : V := .c (.pointer (some ⟨g, 0, none⟩))
def noEv : Ev := ⟨0, 0, 0, ⟨#[]⟩, []⟩
end Go.Abs.M
namespace Go.Abs.M
open Go Go.Abs Go.Proofs
set_option maxRecDepth 20000
def addsF (n : Nd) (fs : List (List ByteArray → List ByteArray)) (acc : List ByteArray) : List ByteArray := fs.foldl (fun a f => f a) (if n.var.size = 0 then acc else addN acc n.var)
def Nd.adds (n : Nd) : List ByteArray → List ByteArray := n.para addsF
theorem Nd.adds_eq (n : Nd) (acc : List ByteArray) : n.adds acc = (n.kids.map Nd.adds).foldl (fun a f => f a) (if n.var.size = 0 then acc else addN acc n.var) := by
 have h : n.adds = addsF n (n.kids.map Nd.adds) := Nd.para_eq _ n
 rw [h]; rfl
def hpN (σ0 : Hp) (gm : Nat) (names : List ByteArray) : Hp := σ0.setObj gm (some [.tup (entS names)])
theorem ok115 : okT Tryz.prog 115 = true := by kernel_rfl
theorem sz115 : szT Tryz.prog 115 = 1 := by kernel_rfl
theorem ag115 : aggT Tryz.prog 115 = false := by kernel_rfl
theorem isMap_c (x : Value) : isMap [.c x] = false := rfl
theorem isMap_fn (f : Fn) (a b : List V) : isMap [.fn f a b] = false := rfl
theorem adds_spec {σ0 : Hp} {g3 g4 gm : Nat} (hQ3 : σ0.obj g3 = some [.c (.map (some gm))]) (hQ4 : σ0.obj g4 = some [.fn (.func 95) [] [ptrV g3, ptrV g4]]) (n3 : ¬ g3 = gm) (n4 : ¬ g4 = gm) : ∀ n : Nd, n.small → ∀ names : List ByteArray, ACalls Tryz.prog 95 [.agg (encNd n), ptrV g3, ptrV g4] (hpN σ0 gm names) (fun v σ' => v = .tup [] ∧ σ' = hpN σ0 gm (n.adds names)) := Nd.ind fun n ih hn names => by
  have hl := hn.len
  have hE := (encNd_eq n).symm
  have hae := n.adds_eq names
  rw [encNd_eq]
  refine ACalls.intro Tryz.call95 Tryz.func95 rfl Tryz.ntmps95 Tryz.results95 (by simp) ?_
  refine AW.seq_k fun K1 h1 => ?_
  all_goals refine AW.reg0 ?_
  all_goals (refine S.g rfl rfl fun K' k' => ?_; simp only [zz, reduceIte, Nat.reduceEqDiff, Nat.reduceLT, Nat.reduceLeDiff, Nat.reduceAdd, reduceCtorEq, Nat.reduceMul, ok25, sz25, ag25, ptrV]; refine k' _ _ ?_; clear k' K')
  all_goals refine S.nil ?_
  all_goals simp only [ze, reduceIte, Nat.reduceEqDiff, Nat.reduceLT, Nat.reduceLeDiff, Nat.reduceAdd, reduceCtorEq, Nat.reduceMul, ptrV]
  all_goals apply_assumption
  refine AW.seq_j (fun s' σ' => σ' = hpN σ0 gm (if n.var.size = 0 then names else addN names n.var) ∧ s'.t 1 = ptrV g3 ∧ s'.t 2 = ptrV g4 ∧ s'.t 3 = .lp 3 0 ∧ s'.l 3 = some [.c (.int .i64 n.kind), .c (.string n.var), .c (.string n.type), .sl (n.tests.map encC), .sl (n.kids.map encNd)]) ?_ ?_
  · refine AW.seq_k fun K2 h2 => ?_
    all_goals refine AW.reg0 ?_
    all_goals iterate 3 (refine S.g rfl rfl fun K' k' => ?_; simp only [zz, reduceIte, Nat.reduceEqDiff, Nat.reduceLT, Nat.reduceLeDiff, Nat.reduceAdd, reduceCtorEq, Nat.reduceMul, of25_1, ok9, sz9, ag9]; refine k' _ _ ?_; clear k' K')
    all_goals refine S.nil ?_
    all_goals simp only [ze, reduceIte, Nat.reduceEqDiff, Nat.reduceLT, Nat.reduceLeDiff, Nat.reduceAdd, reduceCtorEq, Nat.reduceMul]
    all_goals apply_assumption
    refine AW.cd (!decide (n.var.size = 0)) (fun hc => ?_) (fun hc => ?_)
    · have hc : ¬ n.var.size = 0 := by simpa using hc
      rw [if_neg hc]
      unfold hpN ptrV
      all_goals refine AW.reg0 ?_
      all_goals iterate 3 (refine S.g rfl rfl fun K' k' => ?_; simp only [zz, reduceIte, Nat.reduceEqDiff, Nat.reduceLT, Nat.reduceLeDiff, Nat.reduceAdd, reduceCtorEq, Nat.reduceMul, ok87, sz87, ag87, of25_1, ok9, sz9, ag9, hQ3, n3, isMap_c]; refine k' _ _ ?_; clear k' K')
      all_goals (refine S.g rfl rfl fun K' k' => ?_; simp only [zn, reduceIte, Nat.reduceEqDiff, Nat.reduceLT, Nat.reduceLeDiff, Nat.reduceAdd, reduceCtorEq, Nat.reduceMul, hQ3, n3, isMap_c]; refine ⟨_, _, _, Tryz.underlying87, KeyT.str Tryz.underlying9, rfl, entS_ok _, ?_⟩; (try simp only [zt4, ofC, Option.some.injEq, exists_eq_left', zz, reduceIte, Nat.reduceEqDiff, Nat.reduceLT, Nat.reduceLeDiff, Nat.reduceAdd, reduceCtorEq, Nat.reduceMul, hQ3, n3, isMap_c]); refine (congrArg (K' _) (congrArg (fun x => σ0.setObj gm (some [V.tup x])) (entS_upd n.var names))).mpr ?_ <;> (refine k' _ _ ?_; clear k' K'))
      all_goals refine S.nil ?_
      all_goals simp only [ze, reduceIte, Nat.reduceEqDiff, Nat.reduceLT, Nat.reduceLeDiff, Nat.reduceAdd, reduceCtorEq, Nat.reduceMul, hQ3, n3, isMap_c]
      all_goals exact fn1
    · have hc : n.var.size = 0 := by simpa using hc
      rw [if_pos hc]
      refine AW.skip ?_
      all_goals simp only [zs, reduceIte, Nat.reduceEqDiff, Nat.reduceLT, Nat.reduceLeDiff, Nat.reduceAdd, reduceCtorEq, Nat.reduceMul, ptrV]
      all_goals exact fn1
  rintro s σ ⟨rfl, e1, e2, e3, l3⟩
  generalize hacc0 : (if n.var.size = 0 then names else addN names n.var) = acc0 at *
  refine AW.seq_k fun K3 h3 => ?_
  all_goals refine AW.reg0 ?_
  all_goals iterate 4 (refine S.g rfl rfl fun K' k' => ?_; simp only [zz, reduceIte, Nat.reduceEqDiff, Nat.reduceLT, Nat.reduceLeDiff, Nat.reduceAdd, reduceCtorEq, Nat.reduceMul, of25_4, ok23, sz23, ag23, sl23, el23, ok25, sz25, ag25, e1, e2, e3, l3]; refine k' _ _ ?_; clear k' K')
  all_goals refine S.nil ?_
  all_goals simp only [ze, reduceIte, Nat.reduceEqDiff, Nat.reduceLT, Nat.reduceLeDiff, Nat.reduceAdd, reduceCtorEq, Nat.reduceMul, e1, e2, e3, l3]
  all_goals apply_assumption
  refine AW.block ?_   -- 0
  refine AW.loop (fun m s σ => ∃ (i : Nat) (acc : List ByteArray), m + i = n.kids.length ∧ σ = hpN σ0 gm acc ∧ n.adds names = ((n.kids.drop i).map Nd.adds).foldl (fun a f => f a) acc ∧ s.t 1 = ptrV g3 ∧ s.t 2 = ptrV g4 ∧ s.t 13 = .sl (n.kids.map encNd) ∧ s.t 14 = .c (.int .i64 (n.kids.length : Nat)) ∧ s.t 15 = .c (.int .i64 (i : Nat))) n.kids.length ?_ ?_
  · refine ⟨0, acc0, by simp, rfl, by simpa using hae, ?_⟩
    all_goals simp only [zs, reduceIte, Nat.reduceEqDiff, Nat.reduceLT, Nat.reduceLeDiff, Nat.reduceAdd, reduceCtorEq, Nat.reduceMul, e1, e2]
    all_goals exact fn1
  rintro m s σ ⟨i, acc, hm, rfl, hp, e1, e2, e13, e14, e15⟩
  refine AW.seq_k fun K4 h4 => ?_
  all_goals refine AW.reg0 ?_
  all_goals (refine S.g rfl rfl fun K' k' => ?_; simp only [zz, reduceIte, Nat.reduceEqDiff, Nat.reduceAdd, e14, e15]; refine k' _ _ ?_; clear k' K')
  all_goals refine S.nil ?_
  all_goals simp only [ze, reduceIte, Nat.reduceEqDiff, Nat.reduceLT, Nat.reduceLeDiff, Nat.reduceAdd, reduceCtorEq, Nat.reduceMul, e14, e15]
  all_goals apply_assumption
  refine AW.seq_k fun K5 h5 => ?_
  refine AW.cd (decide (i < n.kids.length)) (fun hi => ?_) (fun hi => ?_)
  · have hi := of_decide_eq_true hi
    obtain ⟨x, hx, hxm, hg⟩ := kid_get hi
    have hw := wadd1 (a := i) (by omega)
    rw [kid_drop hx, List.map_cons, List.foldl_cons] at hp
    refine AW.skip ?_
    all_goals simp only [zs, reduceIte, Nat.reduceEqDiff, Nat.reduceLT, Nat.reduceLeDiff, Nat.reduceAdd, reduceCtorEq, Nat.reduceMul]
    all_goals apply_assumption
    refine AW.seq_k fun K6 h6 => ?_
    refine AW.block ?_   -- 1
    refine AW.seq_k fun K7 h7 => ?_
    all_goals refine AW.reg0 ?_
    all_goals iterate 4 (refine S.g rfl rfl fun K' k' => ?_; simp only [zz, reduceIte, Nat.reduceEqDiff, Nat.reduceLT, Nat.reduceLeDiff, Nat.reduceAdd, reduceCtorEq, Nat.reduceMul, sl23, el23, ok25, sz25, ag25, zt25, e1, e2, e13, e14, e15, hi, hg, nd, List.length_map]; refine k' _ _ ?_; clear k' K')
    all_goals refine S.nil ?_
    all_goals simp only [ze, reduceIte, Nat.reduceEqDiff, Nat.reduceLT, Nat.reduceLeDiff, Nat.reduceAdd, reduceCtorEq, Nat.reduceMul, e1, e2, e13, e14, e15, hi, hg, nd, List.length_map]
    all_goals apply_assumption
    have hF4 : (hpN σ0 gm acc).obj g4 = some [.fn (.func 95) [] [ptrV g3, ptrV g4]] := by simp [hpN, n4]; exact hQ4
    unfold ptrV at e1 e2 hF4
    all_goals refine AW.reg0 ?_
    all_goals iterate 2 (refine S.g rfl rfl fun K' k' => ?_; simp only [zz, reduceIte, Nat.reduceEqDiff, Nat.reduceLT, Nat.reduceLeDiff, Nat.reduceAdd, reduceCtorEq, Nat.reduceMul, ok25, sz25, ag25, e1, e2, hF4, isMap_fn, nd, ok115, sz115, ag115]; refine k' _ _ ?_; clear k' K')
    all_goals (refine S.g rfl rfl fun K' k' => ?_; simp only [zz, reduceIte, Nat.reduceEqDiff, Nat.reduceLT, Nat.reduceLeDiff, Nat.reduceAdd, reduceCtorEq, Nat.reduceMul, e1, e2, hF4, isMap_fn, nd, ok115, sz115, ag115]; (refine ACalls.to (ih x hxm (hn.kid hxm) acc) ?_; rintro _ _ ⟨rfl, rfl⟩) <;> (refine k' _ _ ?_; clear k' K'))
    all_goals refine S.nil ?_
    all_goals simp only [ze, reduceIte, Nat.reduceEqDiff, Nat.reduceLT, Nat.reduceLeDiff, Nat.reduceAdd, reduceCtorEq, Nat.reduceMul, e1, e2, hF4, isMap_fn, nd, ok115, sz115, ag115]
    all_goals apply_assumption
    all_goals refine AW.reg0 ?_
    all_goals iterate 2 (refine S.g rfl rfl fun K' k' => ?_; simp only [zz, reduceIte, Nat.reduceEqDiff, Nat.reduceAdd, e1, e2, e13, e14, e15, hw]; refine k' _ _ ?_; clear k' K')
    all_goals refine S.nil ?_
    all_goals simp only [ze, reduceIte, Nat.reduceEqDiff, Nat.reduceLT, Nat.reduceLeDiff, Nat.reduceAdd, reduceCtorEq, Nat.reduceMul, e1, e2, e13, e14, e15, hw]
    refine ⟨m - 1, by omega, i + 1, x.adds acc, by omega, rfl, hp, ?_⟩
    all_goals exact fn1
  · have hi := of_decide_eq_false hi
    refine AW.exit ?_
    all_goals simp only [zs, reduceIte, Nat.reduceEqDiff, Nat.reduceLT, Nat.reduceLeDiff, Nat.reduceAdd, reduceCtorEq, Nat.reduceMul]
    rw [List.drop_of_length_le (by omega)] at hp
    have hp : n.adds names = acc := hp
    rw [hp]
    all_goals exact fn1
theorem ltS_iff {a b : ByteArray} : ltS a b = true ↔ a.data.toList < b.data.toList := by
 rw [ltS, bytesLess_eq', decide_eq_true_eq, ByteArray.toList_eq, ByteArray.toList_eq]
def SrtS (l : List ByteArray) : Prop := l.Pairwise fun a b => ltS a b = true
theorem ltS_trans {a b c : ByteArray} (h : ltS a b = true) (k : ltS b c = true) : ltS a c = true := ltS_iff.2 (List.lt_trans (ltS_iff.1 h) (ltS_iff.1 k))
theorem ltS_irr (a : ByteArray) : ltS a a ≠ true := fun h => absurd (ltS_iff.1 h) (List.lt_irrefl _)
theorem ba_ext {a b : ByteArray} (h : a.data.toList = b.data.toList) : a = b := by
 cases a; cases b; exact congrArg _ (Array.toList_inj.1 h)
theorem ltS_tri {a b : ByteArray} (h : ltS a b ≠ true) (hn : a ≠ b) : ltS b a = true := by
 rw [Ne, ltS_iff] at h
 rw [ltS_iff]
 rcases List.le_iff_lt_or_eq.1 (List.not_lt.1 h) with k | k
 ·exact k
 ·exact absurd (ba_ext k.symm) hn
theorem putS_srt {l : List ByteArray} (s : ByteArray) (h : SrtS l) : SrtS (putS l s) := by
  unfold putS
  split
  · exact h
  · rename_i hs
    have hs : s ∉ l := fun h => hs (hasS_iff.2 h)
    have e := List.takeWhile_append_dropWhile (p := (ltS · s)) (l := l)
    have h0 := h
    rw [SrtS, ← e, List.pairwise_append] at h0
    obtain ⟨p1, p2, p3⟩ := h0
    have hlt : ∀ x ∈ l.takeWhile (ltS · s), ltS x s = true := fun x hx => List.all_eq_true.1 (List.all_takeWhile (p := (ltS · s)) (l := l)) x hx
    have hgt : ∀ x ∈ l.dropWhile (ltS · s), ltS s x = true := by
      intro x hx
      cases hd : l.dropWhile (ltS · s) with
      | nil => rw [hd] at hx; cases hx
      | cons y r =>
        have hy : ltS y s ≠ true := by
          have := List.head_dropWhile_not (p := (ltS · s)) (l := l) (by rw [hd]; exact List.cons_ne_nil _ _)
          simp only [hd, List.head_cons] at this
          rw [this]; exact Bool.false_ne_true
        have hyl : y ∈ l := by rw [← e, hd]; exact List.mem_append_right _ List.mem_cons_self
        have hys : ltS s y = true := ltS_tri hy fun e => hs (e ▸ hyl)
        rw [hd] at hx p2
        rcases List.mem_cons.1 hx with rfl | hx
        · exact hys
        · exact ltS_trans hys ((List.pairwise_cons.1 p2).1 x hx)
    refine List.pairwise_append.2 ⟨p1, List.pairwise_cons.2 ⟨hgt, p2⟩, fun a ha b hb => ?_⟩
    rcases List.mem_cons.1 hb with rfl | hb
    · exact hlt a ha
    · exact p3 a ha b hb
theorem putAll_srt (kv : List ByteArray) : ∀ acc : List ByteArray, SrtS acc → SrtS (putAll acc kv) := by
 induction kv with
 | nil => intro acc h; exact h
 | cons s kv ih => intro acc h; exact ih _ (putS_srt s h)
theorem foldAll_srt (l : List (List ByteArray)) : ∀ acc : List ByteArray, SrtS acc → SrtS (l.foldl putAll acc) := by
 induction l with
 | nil => intro acc h; exact h
 | cons s l ih => intro acc h; exact ih _ (putAll_srt s acc h)
theorem Nd.vars_srt (n : Nd) : SrtS n.vars := by
 rw [Nd.vars_eq, varsOf]
 refine foldAll_srt _ _ ?_
 split
 ·exact .nil
 ·exact putS_srt _ .nil
theorem SrtS.nodup {l : List ByteArray} (h : SrtS l) : l.Nodup := List.Pairwise.imp (fun {a b} hab e => by subst e; exact ltS_irr _ hab) h
theorem sortN_eq {a b : List ByteArray} (ha : a.Nodup) (hb : SrtS b) (h : ∀ v, v ∈ a ↔ v ∈ b) : sortN a = b := by
 have hp : a.Perm b := (List.perm_ext_iff_of_nodup ha hb.nodup).2 fun v => h v
 have hs : (b.map fun s => s.data.toList).mergeSort (fun x y => decide (x ≤ y)) = b.map fun s => s.data.toList := by
  refine List.mergeSort_of_pairwise ?_
  rw [List.pairwise_map]
  exact List.Pairwise.imp (fun {a b} hab => by rw [decide_eq_true_eq]; exact List.le_of_lt (ltS_iff.1 hab)) hb
 rw [sortN, mergeSort_of_perm (hp.map _)]
 show (List.map bytesOf ((b.map fun s => s.data.toList).mergeSort fun x y => decide (x ≤ y))) = b
 rw [hs, List.map_map]
 conv => rhs; rw [← List.map_id b]
 exact List.map_congr_left fun x _ => ba_ext (by simp [bytesOf])
theorem Hp.setObj_id {σ : Hp} {g : Nat} {x : Option (List V)} (h : σ.obj g = x) : σ.setObj g x = σ := by
 subst h
 cases σ
 simp only [Hp.setObj, Hp.mk.injEq, and_true]
 funext j
 by_cases e : j = g
 ·simp [e]
 ·simp [e]
theorem isMap_none : isMap [.c (.map none)] = false := rfl
theorem foldAdds_nodup {l : List (List ByteArray → List ByteArray)} : (∀ f ∈ l, ∀ a : List ByteArray, a.Nodup → (f a).Nodup) → ∀ a : List ByteArray, a.Nodup → (l.foldl (fun a f => f a) a).Nodup := by
 induction l with
 | nil => intro _ a h; exact h
 | cons f l ih => intro hf a h; exact ih (fun g hg => hf g (List.mem_cons_of_mem _ hg)) _ (hf f List.mem_cons_self a h)
theorem Nd.adds_nodup : ∀ (n : Nd) (a : List ByteArray), a.Nodup → (n.adds a).Nodup := Nd.ind fun n ih a h => by
 rw [n.adds_eq]
 refine foldAdds_nodup (fun f hf a ha => ?_) _ ?_
 ·obtain ⟨x, hx, rfl⟩ := List.mem_map.1 hf; exact ih x hx a ha
 ·split
  ·exact h
  ·exact addN_nodup h
theorem foldAdds_mem (v : ByteArray) {l : List Nd} : (∀ x ∈ l, ∀ a : List ByteArray, v ∈ x.adds a ↔ v ∈ a ∨ v ∈ x.vars) → ∀ a : List ByteArray, v ∈ (l.map Nd.adds).foldl (fun a f => f a) a ↔ v ∈ a ∨ ∃ x ∈ l, v ∈ x.vars := by
  induction l with
  | nil => intro _ a; simp
  | cons y l ih =>
    intro hf a
    rw [List.map_cons, List.foldl_cons, ih (fun g hg => hf g (List.mem_cons_of_mem _ hg)), hf y List.mem_cons_self]
    simp [or_assoc]
theorem Nd.adds_mem (v : ByteArray) : ∀ (n : Nd) (a : List ByteArray), v ∈ n.adds a ↔ v ∈ a ∨ v ∈ n.vars := Nd.ind fun n ih a => by
 rw [n.adds_eq, foldAdds_mem v (fun x hx => ih x hx), Nd.vars_mem]
 split
 ·rename_i h; simp [h]
 ·rename_i h; simp [h, addN_mem, or_left_comm, or_comm, or_assoc]
theorem foldAdds_len {l : List Nd} : (∀ x ∈ l, ∀ a : List ByteArray, (x.adds a).length ≤ a.length + x.size) → ∀ a : List ByteArray, ((l.map Nd.adds).foldl (fun a f => f a) a).length ≤ a.length + (l.map Nd.size).sum := by
  induction l with
  | nil => intro _ a; exact Nat.le_refl _
  | cons y l ih =>
    intro hf a
    have h1 := ih (fun g hg => hf g (List.mem_cons_of_mem _ hg)) (y.adds a)
    have h2 := hf y List.mem_cons_self a
    simp only [List.map_cons, List.foldl_cons, List.sum_cons]; omega
theorem addN_len (a : List ByteArray) (s : ByteArray) : (addN a s).length ≤ a.length + 1 := by
 unfold addN; split <;> simp
theorem Nd.adds_len : ∀ (n : Nd) (a : List ByteArray), (n.adds a).length ≤ a.length + n.size := Nd.ind fun n ih a => by
 rw [n.adds_eq, Nd.size_eq]
 have h1 := foldAdds_len (fun x hx => ih x hx) (if n.var.size = 0 then a else addN a n.var)
 have h2 : (if n.var.size = 0 then a else addN a n.var).length ≤ a.length + 1 := by
  split
  ·omega
  ·exact addN_len a n.var
 omega
theorem sortN_vars (n : Nd) : sortN (n.adds []) = n.vars :=
 sortN_eq (n.adds_nodup [] .nil) n.vars_srt fun v => by rw [n.adds_mem]; simp
theorem Nd.var_sz {n : Nd} (h : n.err = 0) : n.var.size ≤ 32 := by
 have h0 := Nd.err_own h
 unfold ndOwn at h0
 split at h0
 ·split at h0
  ·cases h0
  ·rename_i hb
   simp only [leafBad, Bool.or_eq_true, not_or, Bool.not_eq_true', Bool.not_eq_false, isName, Bool.and_eq_true, decide_eq_true_eq] at hb
   exact hb.1.2.2
 ·split at h0
  ·split at h0
   ·cases h0
   ·rename_i hb
    simp only [joinBad, Bool.or_eq_true, not_or, decide_eq_true_eq, Decidable.not_not] at hb
    omega
  ·cases h0
theorem Nd.vars_sz : ∀ n : Nd, n.err = 0 → ∀ v ∈ n.vars, v.size ≤ 32 := Nd.ind fun n ih h v hv => by
 rcases (n.vars_mem v).1 hv with ⟨_, rfl⟩ | ⟨x, hx, hv⟩
 ·exact n.var_sz h
 ·exact ih x hx (Nd.err_kid h hx) v hv
theorem isMap_nf : isMap [.c .nilFunc] = false := rfl
theorem zt115 : zeroT Tryz.prog 115 = some .nilFunc := by kernel_rfl
def hpV (gm g3 g4 : Nat) : Hp := ((Hp.empty.setObj gm (some [.tup []])).setObj g3 (some [.c (.map (some gm))])).setObj g4 (some [.fn (.func 95) [] [ptrV g3, ptrV g4]])
theorem hpV_N {gm g3 g4 : Nat} (h3 : ¬ gm = g3) (h4 : ¬ gm = g4) : hpN (hpV gm g3 g4) gm [] = hpV gm g3 g4 := Hp.setObj_id (by simp [hpV, h3, h4, entS])
theorem Vars_spec {n : Nd} (hn : n.small) (hk : n.err = 0) : PCalls Tryz.prog 63 [.agg (encNd n)] (fun v => v = .sl (n.vars.map encS)) := by
 have hsz : ∀ s ∈ n.adds [], s.size ≤ maxLen := fun s hs => by
  rw [n.adds_mem] at hs
  have := n.vars_sz hk s (by simpa using hs)
  unfold maxLen; omega
 have hlen : (n.adds []).length ≤ 1048576 := by
  have := n.adds_len []
  unfold Nd.small at hn
  simp only [List.length_nil] at this; omega
 have hE := (encNd_eq n).symm
 rw [encNd_eq]
 refine ACalls.bare (R := fun v _ => v = .sl (n.vars.map encS)) (ACalls.intro Tryz.call63 Tryz.func63 rfl Tryz.ntmps63 Tryz.results63 (by simp) ?_) fun _ _ h => h
 refine AW.sr trivial ?_
 refine AW.seq_k fun K2 h2 => ?_
 refine AW.region (T := { hp := fun d => d == 3 }) (fun _ _ h => by cases h) rfl ?_
 all_goals (refine S.g rfl rfl fun Y Z => ?_; simp only [zz, simprocAttr, -Int.reduceNatCast', -Int.reduceToNat, isMap_none, if_pos, if_neg]; intro gm ngm <;> (refine Z _ _ ?_; clear Z Y))
 all_goals have q1q := J3 @isMap_none @if_pos.{0} @if_neg.{0}
 all_goals (refine S.g rfl rfl fun Y Z => ?_; simp only [zz, simprocAttr, -Int.reduceNatCast', -Int.reduceToNat, tt, q1q]; intro g3 ng3 <;> (refine Z _ _ ?_; clear Z Y))
 all_goals refine S.one q1q ?_
 all_goals (refine S.nil ?_; simp only [ze, simprocAttr, q1q]; apply_assumption)
 refine AW.seq_k fun K3 h3 => ?_
 have hn3 : ¬ gm = g3 := fun e => by subst e; simp at ng3
 all_goals refine AW.region (T := { hp := fun d => d == 4 }) (fun _ _ h => by cases h) rfl ?_
 all_goals (refine S.g rfl rfl fun Y Z => ?_; simp only [zz, simprocAttr, -Int.reduceNatCast', -Int.reduceToNat, zt115]; intro g4 ng4 <;> (refine Z _ _ ?_; clear Z Y))
 all_goals (refine S.nil ?_; simp only [ze, simprocAttr]; apply_assumption)
 have hn4 : ¬ gm = g4 := fun e => by subst e; simp at ng4; split at ng4 <;> cases ng4
 have hn34 : ¬ g3 = g4 := fun e => by simp [e] at ng4
 all_goals refine AW.sr (J5 @ok115 @sz115 @ag115 @isMap_fn @isMap_nf) ?_
 refine AW.seq_k fun K5 h5 => ?_
 rw [show (((Hp.empty.setObj gm (some [V.tup []])).setObj g3 (some [.c (.map (some gm))])).setObj g4 (some [.fn (.func 95) [] [.c (.pointer (some ⟨g3, 0, none⟩)), .c (.pointer (some ⟨g4, 0, none⟩))]])) = hpN (hpV gm g3 g4) gm [] from (hpV_N hn3 hn4).symm]
 have hf4 : (hpN (hpV gm g3 g4) gm []).obj g4 = some [.fn (.func 95) [] [.c (.pointer (some ⟨g3, 0, none⟩)), .c (.pointer (some ⟨g4, 0, none⟩))]] := by rw [hpV_N hn3 hn4]; simp [hpV, ptrV]
 all_goals refine AW.reg0 ?_
 all_goals iterate 2 refine S.one (J7 hf4 @isMap_fn @nd hE @ok115 @sz115 @ag115) ?_
 all_goals have q2q := J7 hf4 @isMap_fn @nd hE @ok115 @sz115 @ag115
 all_goals (refine S.g rfl rfl fun Y Z => ?_; simp only [zz, simprocAttr, -Int.reduceNatCast', -Int.reduceToNat, q2q]; (refine ACalls.to (adds_spec (σ0 := hpV gm g3 g4) (g3 := g3) (g4 := g4) (gm := gm) (by simp [hpV, hn34]) (by simp [hpV]) (Ne.symm hn3) (Ne.symm hn4) n hn []) ?_; rintro _ _ ⟨rfl, rfl⟩) <;> (refine Z _ _ ?_; clear Z Y))
 all_goals (refine S.nil ?_; simp only [ze, simprocAttr, q2q]; apply_assumption)
 have hf3 : (hpN (hpV gm g3 g4) gm (n.adds [])).obj g3 = some [.c (.map (some gm))] := by simp [hpN, hpV, hn3, hn34, Ne.symm hn3]
 refine AW.seq_k fun K6 h6 => ?_
 all_goals refine AW.reg0 ?_
 all_goals refine S.one (J2 hf3 @isMap_c) ?_
 all_goals have q3q := J2 hf3 @isMap_c
 all_goals (refine S.g rfl rfl fun Y Z => ?_; simp only [zz, simprocAttr, -Int.reduceNatCast', -Int.reduceToNat, q3q]; (refine ACalls.to (list_spec (g := gm) (names := n.adds []) (by simp [hpN]) (n.adds_nodup [] .nil) hsz hlen) ?_; rintro _ _ ⟨rfl, rfl⟩) <;> (refine Z _ _ ?_; clear Z Y))
 all_goals refine S.one q3q ?_
 all_goals (refine S.nil ?_; simp only [ze, simprocAttr, q3q]; apply_assumption)
 refine AW.ret ?_
 all_goals simp only [zs, simprocAttr]
 rw [sortN_vars]
 all_goals exact fn1
theorem ent_look (K : St → Hp → Prop) (s : St) (d : Nat) (σ : Hp) {names : List ByteArray} {nm : ByteArray} (h : K (s.put d (.c (.bool (names.any fun t => nm.toList == t.toList)))) σ) :
  match entV (entS names) (.string nm) 0 with | some (_, v) => K (s.put d v) σ | none => K (s.put d (.c (.bool false))) σ := by
 rcases entS_at nm names 0 with ⟨h1, h2⟩ | ⟨h1, j, h2, _⟩
 ·rw [h2]; rw [h1] at h; exact h
 ·rw [h2]; rw [h1] at h; exact h
theorem any_str {l : List ByteArray} {s : ByteArray} : (l.any fun t => s.toList == t.toList) = true ↔ s ∈ l := by
 have : (l.any fun t => s.toList == t.toList) = hasS l s := by
  unfold hasS eqS; congr 1; funext t; rw [Bool.eq_iff_iff, beq_iff_eq, beq_iff_eq]; exact ⟨Eq.symm, Eq.symm⟩
 rw [this, hasS_iff]
def seenN (n : Nd) (i : Nat) (names : List ByteArray) : Prop := ∀ v, v ∈ names ↔ twin n = true ∧ ∃ x ∈ n.kids.take i, v ∈ x.vars
def addsN (names : List ByteArray) (l : List ByteArray) : List ByteArray := l.foldl addN names
theorem addsN_mem {l : List ByteArray} {v : ByteArray} : ∀ {a : List ByteArray}, v ∈ addsN a l ↔ v ∈ a ∨ v ∈ l := by
  induction l with
  | nil => intro a; simp [addsN]
  | cons s l ih =>
    intro a
    have := @ih (addN a s)
    simp only [addsN, List.foldl_cons] at this ⊢
    rw [this, addN_mem, List.mem_cons, or_assoc, or_left_comm]
theorem addsN_step {l : List ByteArray} {j : Nat} {s : ByteArray} (h : l[j]? = some s) (a : List ByteArray) : addN (addsN a (l.take j)) s = addsN a (l.take (j + 1)) := by
 rw [List.take_add_one, h, addsN, addsN, List.foldl_append]; rfl
theorem seen_any {n x : Nd} {i : Nat} {names : List ByteArray} (h : seenN n i names) (ht : twin n = true) : (((n.kids.take i).map Nd.vars).any (meets x.vars) = true) ↔ ∃ v ∈ x.vars, v ∈ names := by
 simp only [List.any_eq_true, List.mem_map, meets, hasS_iff]
 constructor
 ·rintro ⟨_, ⟨y, hy, rfl⟩, v, h1, h2⟩
  exact ⟨v, h2, (h v).2 ⟨ht, y, hy, h1⟩⟩
 ·rintro ⟨v, h1, h2⟩
  obtain ⟨_, y, hy, h3⟩ := (h v).1 h2
  exact ⟨_, ⟨y, hy, rfl⟩, v, h3, h1⟩
theorem seen_step {n x : Nd} {i : Nat} {names : List ByteArray} (h : seenN n i names) (ht : twin n = true) (hx : n.kids[i]? = some x) : seenN n (i + 1) (addsN names x.vars) := fun v => by
 rw [addsN_mem, h v, List.take_add_one, hx]
 simp only [List.mem_append, Option.toList_some, List.mem_singleton, ht, true_and]
 constructor
 ·rintro (⟨y, hy, k⟩ | k)
  ·exact ⟨y, .inl hy, k⟩
  ·exact ⟨x, .inr rfl, k⟩
 ·rintro ⟨y, hy | rfl, k⟩
  ·exact .inl ⟨y, hy, k⟩
  ·exact .inr k
theorem seen_skip {n : Nd} {i : Nat} {names : List ByteArray} (h : seenN n i names) (ht : twin n = false) : seenN n (i + 1) names := fun v => by
 rw [h v, ht]; simp
theorem kid_dropS {l : List ByteArray} {i : Nat} {x : ByteArray} (hx : l[i]? = some x) : l.drop i = x :: l.drop (i + 1) := by
 obtain ⟨hi, h⟩ := List.getElem?_eq_some_iff.1 hx
 rw [List.drop_eq_getElem_cons hi, h]
theorem stS (x : ByteArray) : List.map wk1 (encS x) = encS x := rfl
theorem seen_take {n x : Nd} {i : Nat} (hx : n.kids[i]? = some x) : (n.kids.take i).map Nd.vars ++ [x.vars] = (n.kids.take (i + 1)).map Nd.vars := by
 rw [List.take_add_one, hx, List.map_append]; rfl
theorem Binds_spec : ∀ n : Nd, n.small → n.err = 0 → PCalls Tryz.prog 36 [.agg (encNd n)] (fun v => v = .c (.int .i64 n.binds)) := Nd.ind fun n ih hn hk => by
 have hl := hn.len
 have hb0 := n.binds_eq
 rw [encNd_eq]
 refine ACalls.bare (R := fun v _ => v = .c (.int .i64 n.binds)) (ACalls.intro Tryz.call36 Tryz.func36 rfl Tryz.ntmps36 Tryz.results36 (by simp) ?_) fun _ _ h => h
 refine AW.sr trivial ?_
 refine AW.seq_k fun K2 h2 => ?_
 refine AW.reg0 ?_
 (refine S.g rfl rfl fun Y Z => ?_; simp only [zz, simprocAttr, -Int.reduceNatCast', -Int.reduceToNat]; intro gm ngm <;> (refine Z _ _ ?_; clear Z Y))
 all_goals refine S.one trivial ?_
 all_goals (refine S.nil ?_; simp only [ze, simprocAttr]; apply_assumption)
 refine AW.seq_k fun K3 h3 => ?_
 all_goals refine AW.sr trivial ?_
 refine AW.block ?_   -- 0
 refine AW.loop (fun m s σ => ∃ (i : Nat) (names : List ByteArray), m + i = n.kids.length ∧ σ = hpN Hp.empty gm names ∧ seenN n i names ∧ n.binds = bindsFrom (twin n) ((n.kids.take i).map Nd.vars) ((n.kids.drop i).map bindOf) ∧ s.t 1 = .lp 1 0 ∧ s.l 1 = some [.c (.int .i64 n.kind), .c (.string n.var), .c (.string n.type), .sl (n.tests.map encC), .sl (n.kids.map encNd)] ∧ s.t 3 = .c (.map (some gm)) ∧ s.t 11 = .sl (n.kids.map encNd) ∧ s.t 12 = .c (.int .i64 (n.kids.length : Nat)) ∧ s.t 13 = .c (.int .i64 (i : Nat))) n.kids.length ?_ ?_
 ·refine ⟨0, [], by simp, rfl, (fun v => by simp), by simpa using hb0, ?_⟩
  simp only [zs, simprocAttr]
  all_goals exact fn1
 rintro m s σ ⟨i, names, hm, rfl, hse, hp, e1, l1, e3, e11, e12, e13⟩
 all_goals refine AW.sr (J2 e12 e13) ?_
 refine AW.seq_k fun K6 h6 => ?_
 refine AW.cd (decide (i < n.kids.length)) (fun hi => ?_) (fun hi => ?_)
 ·have hi := of_decide_eq_true hi
  obtain ⟨x, hx, hxm, hg⟩ := kid_get hi
  have hw := wadd1 (a := i) (by omega)
  have hxs := x.vars_size
  have hxn : x.size ≤ 1048576 := hn.kid hxm
  rw [kid_drop hx, List.map_cons, bindOf, bindsFrom] at hp
  refine AW.skip ?_
  simp only [zs, simprocAttr]
  all_goals apply_assumption
  refine AW.seq_k fun K7 h7 => ?_
  refine AW.block ?_   -- 1
  refine AW.sr (J6 e11 e13 hi hg @nd @List.length_map.{0,0}) ?_
  refine AW.seq_k fun K9 h9 => ?_
  refine AW.seq_k fun K10 h10 => ?_
  refine AW.reg0 ?_
  refine S.one @nd ?_
  refine S.cl @nd (ih x hxm (hn.kid hxm) (Nd.err_kid hk hxm)) ?_
  all_goals refine S.one @nd ?_
  all_goals (refine S.nil ?_; simp only [ze, simprocAttr, nd]; apply_assumption)
  all_goals refine AW.sr trivial ?_
  refine AW.cd (x.binds != 0) (fun hb => ?_) (fun hb => ?_)
  ·have hb : ¬ x.binds = 0 := by simpa using hb
   rw [if_neg hb] at hp
   refine AW.sr trivial ?_
   refine AW.ret ?_
   simp only [zs, simprocAttr]
   all_goals ((try and_intros) <;> first | rfl | assumption | ((rw [hp])))
  have hb : x.binds = 0 := by simpa using hb
  rw [if_pos hb] at hp
  refine AW.skip ?_
  all_goals simp only [zs, simprocAttr]
  all_goals apply_assumption
  refine AW.seq_k fun K13 h13 => ?_
  refine AW.seq_j (fun s' σ' => σ' = hpN Hp.empty gm names ∧ s'.t 29 = .c (.bool (!twin n)) ∧ s'.t 1 = .lp 1 0 ∧ s'.l 1 = some [.c (.int .i64 n.kind), .c (.string n.var), .c (.string n.type), .sl (n.tests.map encC), .sl (n.kids.map encNd)] ∧ s'.t 3 = .c (.map (some gm)) ∧ s'.t 11 = .sl (n.kids.map encNd) ∧ s'.t 12 = .c (.int .i64 (n.kids.length : Nat)) ∧ s'.t 13 = .c (.int .i64 (i : Nat)) ∧ s'.t 5 = .lp 5 0 ∧ s'.l 5 = some (encNd x)) ?_ ?_
  ·skip
   refine AW.reg0 ?_
   iterate 2 refine S.one (J2 e1 l1) ?_
   (refine S.sp (J2 e1 l1) fun b a24 => ?_; cases b <;> (try exact nope a24))
   all_goals iterate 5 refine S.one (J2 e1 l1) ?_
   all_goals refine S.nil ?_
   all_goals simp only [ze, simprocAttr, e1, l1]
   all_goals (first | (simp_all [twin, kill]; done) | (simp_all [twin, kill, bne]; rfl))
  rintro s σ ⟨rfl, e29, e1, l1, e3, e11, e12, e13, e5, l5⟩
  refine AW.cond (b := !twin n) e29 (fun ht => ?_) (fun ht => ?_)
  ·have ht : twin n = false := by simpa using ht
   refine AW.exit ?_
   simp only [zs, simprocAttr]
   all_goals apply_assumption
   have q1q := J7 e1 l1 e3 e11 e12 e13 hw
   refine AW.reg0 (S.rn q1q ?_)
   simp only [ze, simprocAttr, q1q]
   refine ⟨m - 1, by omega, i + 1, names, by omega, rfl, seen_skip hse ht, ?_, ?_⟩
   ·rw [hp, ht, Bool.false_and, if_neg Bool.false_ne_true, seen_take hx]
   ·all_goals exact fn1
  have ht : twin n = true := by simpa using ht
  refine AW.skip ?_
  all_goals simp only [zs, simprocAttr]
  all_goals apply_assumption
  refine AW.seq_k fun K14 h14 => ?_
  all_goals refine AW.reg0 ?_
  all_goals refine S.one (J3 e5 l5 @nd) ?_
  all_goals refine S.cl (J3 e5 l5 @nd) (Vars_spec (hn.kid hxm) (Nd.err_kid hk hxm)) ?_
  all_goals iterate 2 refine S.one (J3 e5 l5 @nd) ?_
  all_goals (refine S.nil ?_; simp only [ze, simprocAttr, e5, l5, nd]; apply_assumption)
  have hnd := x.vars_srt.nodup
  refine AW.block ?_   -- 2
  refine AW.loop (fun m2 s σ => ∃ (j : Nat), m2 + j = x.vars.length ∧ σ = hpN Hp.empty gm (addsN names (x.vars.take j)) ∧ (∀ v ∈ x.vars.take j, v ∉ names) ∧ s.t 1 = .lp 1 0 ∧ s.l 1 = some [.c (.int .i64 n.kind), .c (.string n.var), .c (.string n.type), .sl (n.tests.map encC), .sl (n.kids.map encNd)] ∧ s.t 3 = .c (.map (some gm)) ∧ s.t 11 = .sl (n.kids.map encNd) ∧ s.t 12 = .c (.int .i64 (n.kids.length : Nat)) ∧ s.t 13 = .c (.int .i64 (i : Nat)) ∧ s.t 31 = .sl (x.vars.map encS) ∧ s.t 32 = .c (.int .i64 (x.vars.length : Nat)) ∧ s.t 33 = .c (.int .i64 (j : Nat))) x.vars.length ?_ ?_
  ·refine ⟨0, by simp, rfl, (fun v h => by simp at h), ?_⟩
   simp only [zs, simprocAttr, e1, l1, e3, e11, e12, e13]
   all_goals exact fn1
  rintro m2 s σ ⟨j, hm2, rfl, hno, e1, l1, e3, e11, e12, e13, e31, e32, e33⟩
  all_goals refine AW.sr (J2 e32 e33) ?_
  refine AW.seq_k fun K16 h16 => ?_
  refine AW.cd (decide (j < x.vars.length)) (fun hj => ?_) (fun hj => ?_)
  ·have hj := of_decide_eq_true hj
   obtain ⟨v, hv, hvg, _⟩ := str_get hj
   have hvm := List.mem_of_getElem? hv
   have hw2 := wadd1 (a := j) (by omega)
   refine AW.skip ?_
   simp only [zs, simprocAttr]
   all_goals apply_assumption
   refine AW.seq_k fun K17 h17 => ?_
   refine AW.block ?_   -- 3
   refine AW.sr (J5 e31 e33 hj hvg @List.length_map.{0,0}) ?_
   have hjn : v ∉ x.vars.take j := fun h => by
    rw [← List.take_append_drop j x.vars, kid_dropS hv] at hnd
    exact (List.nodup_append.1 hnd).2.2 v h v List.mem_cons_self rfl
   have hin : v ∈ addsN names (x.vars.take j) ↔ v ∈ names := by rw [addsN_mem]; exact ⟨fun h => h.resolve_right hjn, .inl⟩
   refine AW.seq_k fun K19 h19 => ?_
   refine AW.seq_k fun K20 h20 => ?_
   unfold hpN
   refine AW.reg0 ?_
   iterate 2 refine S.one e3 ?_
   (refine S.g rfl rfl fun Y Z => ?_; simp only [zn, simprocAttr, -Int.reduceNatCast', -Int.reduceToNat, e3]; (refine ⟨_, _, _, Tryz.underlying87, KeyT.str Tryz.underlying9, rfl, entS_ok _, ?_⟩); (try simp only [tt, ofC, Option.some.injEq, exists_eq_left', zz, simprocAttr, -Int.reduceNatCast', -Int.reduceToNat, e3]); refine ent_look Y _ _ _ ?_ <;> (refine Z _ _ ?_; clear Z Y))
   all_goals (refine S.nil ?_; simp only [ze, simprocAttr, e3]; apply_assumption)
   refine AW.cd ((addsN names (x.vars.take j)).any fun t => v.toList == t.toList) (fun hf => ?_) (fun hf => ?_)
   ·have hf := hin.1 (any_str.1 hf)
    refine AW.sr trivial ?_
    refine AW.ret ?_
    simp only [zs, simprocAttr]
    rw [if_pos (by rw [(seen_any hse ht).2 ⟨v, hvm, hf⟩, ht]; rfl)] at hp
    all_goals ((try and_intros) <;> first | rfl | assumption | ((rw [hp])))
   have hf : v ∉ names := fun h => by rw [any_str.2 (hin.2 h)] at hf; cases hf
   refine AW.skip ?_
   all_goals simp only [zs, simprocAttr]
   all_goals apply_assumption
   all_goals refine AW.reg0 ?_
   all_goals iterate 2 refine S.one (J2 e3 @isMap_c) ?_
   all_goals have q2q := J2 e3 @isMap_c
   all_goals (refine S.g rfl rfl fun Y Z => ?_; simp only [zn, simprocAttr, -Int.reduceNatCast', -Int.reduceToNat, q2q]; (refine ⟨_, _, _, Tryz.underlying87, KeyT.str Tryz.underlying9, rfl, entS_ok _, ?_⟩); (try simp only [tt, ofC, Option.some.injEq, exists_eq_left', zz, simprocAttr, -Int.reduceNatCast', -Int.reduceToNat, e3, isMap_c]); refine (congrArg (Y _) (congrArg (fun x => Hp.empty.setObj gm (some [V.tup x])) (entS_upd v (addsN names (x.vars.take j))))).mpr ?_ <;> (refine Z _ _ ?_; clear Z Y))
   all_goals (refine S.nil ?_; simp only [ze, simprocAttr, q2q]; apply_assumption)
   rw [addsN_step hv]
   all_goals have q3q := J10 e1 l1 e3 e11 e12 e13 e31 e32 e33 hw2
   all_goals refine AW.reg0 (S.rn q3q ?_)
   all_goals simp only [ze, simprocAttr, q3q]
   refine ⟨m2 - 1, by omega, j + 1, by omega, rfl, (fun w hw => ?_), ?_⟩
   ·rw [List.take_add_one, hv] at hw
    rcases List.mem_append.1 hw with h | h
    ·exact hno w h
    ·simp at h; rw [h]; exact hf
   ·all_goals exact fn1
  ·have hj := of_decide_eq_false hj
   refine AW.exit ?_
   simp only [zs, simprocAttr]
   all_goals apply_assumption
   rw [List.take_of_length_le (by omega)] at hno ⊢
   have q4q := J7 e1 l1 e3 e11 e12 e13 hw
   refine AW.reg0 (S.rn q4q ?_)
   simp only [ze, simprocAttr, q4q]
   refine ⟨m - 1, by omega, i + 1, addsN names x.vars, by omega, rfl, seen_step hse ht hx, ?_, ?_⟩
   ·rw [hp, if_neg, seen_take hx]
    rw [Bool.and_eq_true]
    rintro ⟨_, h⟩
    obtain ⟨v, h1, h2⟩ := (seen_any hse ht).1 h
    exact hno v h1 h2
   ·all_goals exact fn1
 ·have hi := of_decide_eq_false hi
  refine AW.exit ?_
  simp only [zs, simprocAttr]
  all_goals apply_assumption
  refine AW.sr trivial ?_
  refine AW.ret ?_
  simp only [zs, simprocAttr]
  rw [List.drop_of_length_le (by omega)] at hp
  all_goals ((try and_intros) <;> first | rfl | assumption | ((rw [hp]; rfl)))
theorem shape_err {n : Nd} (h : n.shape = 0) : n.err = 0 := by
 unfold Nd.shape at h
 split at h
 ·cases h
 ·split at h
  ·assumption
  ·exact h
def fnV (f : FuncId) : V := .fn (.func f) [] []
theorem ok69 : okT Tryz.prog 69 = true := by kernel_rfl
theorem sz69 : szT Tryz.prog 69 = 1 := by kernel_rfl
theorem ag69 : aggT Tryz.prog 69 = false := by kernel_rfl
theorem zt69 : zeroT Tryz.prog 69 = some .nilFunc := by kernel_rfl
theorem by69 : Program.bytesOf Tryz.prog 69 = 8 := by kernel_rfl
theorem Pattern_spec (p : Pat) (hp : okPat p) : PCalls Tryz.prog 43 [.agg (encPat p)] (fun v => v = .c (.int .i64 (patErr p))) := by
 have hE := (encNd_eq p.node).symm
 have hsz := p.node.vars_size
 have hsm : p.node.size ≤ 1048576 := hp.small
 refine PCalls.intro Tryz.call43 Tryz.func43 rfl Tryz.ntmps43 Tryz.results43 (by simp) ?_
 refine AW.sr @encPat.eq_1 ?_
 refine AW.seq_k fun K2 h2 => ?_
 refine AW.seq_j (fun s' σ' => σ' = Hp.empty ∧ s'.t 1 = .lp 1 0 ∧ s'.l 1 = some (encPat p) ∧ s'.t 19 = .c (.bool (patOwn p))) ?_ ?_
 ·skip
  refine AW.reg0 ?_
  iterate 2 refine S.one trivial ?_
  (refine S.cb trivial (name_spec _ hp.name) fun b a8 => ?_; cases b <;> (try exact nope a8))
  all_goals iterate 4 refine S.one trivial ?_
  all_goals (first | (refine S.sp trivial fun b a13 => ?_; cases b <;> (try exact nope a13)) | refine S.one trivial ?_)
  all_goals iterate 6 refine S.one trivial ?_
  all_goals refine S.nil ?_
  all_goals simp only [ze, simprocAttr]
  all_goals simp_all [patOwn, encPat]
  all_goals omega
 rintro s σ ⟨rfl, e1, l1, e19⟩
 refine AW.cond (b := patOwn p) e19 (fun hb => ?_) (fun hb => ?_)
 ·refine AW.sr trivial ?_
  refine AW.ret ?_
  simp only [zs, simprocAttr]
  all_goals ((try and_intros) <;> first | rfl | assumption | (rw [patErr, if_pos hb]))
 have hs : patErr p = if p.node.shape = 0 then (if p.node.binds = 0 then cndsErr p.node.vars p.conds else p.node.binds) else p.node.shape := by rw [patErr, if_neg (by rw [hb]; exact Bool.false_ne_true)]
 refine AW.skip ?_
 all_goals simp only [zs, simprocAttr]
 all_goals apply_assumption
 refine AW.seq_k fun K4 h4 => ?_
 refine AW.seq_k fun K5 h5 => ?_
 all_goals refine AW.reg0 ?_
 all_goals (refine S.g rfl rfl fun Y Z => ?_; simp only [zb, simprocAttr, -Int.reduceNatCast', -Int.reduceToNat, tt, zt69, by69, sz69]; refine ⟨rfl, (by simp), ?_⟩ <;> (refine Z _ _ ?_; clear Z Y))
 all_goals iterate 2 refine S.one @sz69 ?_
 all_goals (refine S.nil ?_; simp only [ze, simprocAttr, sz69]; apply_assumption)
 refine AW.block ?_   -- 0
 refine AW.loop (fun m s σ => σ = Hp.empty ∧ ∃ i : Nat, m + i = 2 ∧ (1 ≤ i → p.node.shape = 0) ∧ (2 ≤ i → p.node.binds = 0) ∧ s.t 1 = .lp 1 0 ∧ s.l 1 = some (encPat p) ∧ s.t 20 = .sl [[fnV 35], [fnV 36]] ∧ s.t 21 = .c (.int .i64 2) ∧ s.t 22 = .c (.int .i64 (i : Nat))) 2 ?_ ?_
 ·refine ⟨rfl, 0, by simp, (fun h => by omega), (fun h => by omega), ?_⟩
  simp only [zs, simprocAttr, e1, l1]
  all_goals exact fn1
 rintro m s σ ⟨rfl, i, hm, hq1, hq2, e1, l1, e20, e21, e22⟩
 all_goals refine AW.sr (J2 e21 e22) ?_
 refine AW.seq_k fun K7 h7 => ?_
 refine AW.cond (b := decide (i < 2)) (by simp [ev]; omega) (fun hi => ?_) (fun hi => ?_)
 ·have hi := of_decide_eq_true hi
  have hw := wadd1 (a := i) (by omega)
  refine AW.skip ?_
  simp only [zs, simprocAttr]
  all_goals apply_assumption
  refine AW.seq_k fun K8 h8 => ?_
  refine AW.block ?_   -- 1
  refine AW.seq_j (fun s' σ' => σ' = Hp.empty ∧ s'.t 1 = .lp 1 0 ∧ s'.l 1 = some (encPat p) ∧ s'.t 20 = .sl [[fnV 35], [fnV 36]] ∧ s'.t 21 = .c (.int .i64 2) ∧ s'.t 22 = .c (.int .i64 (i : Nat)) ∧ s'.t 4 = fnV (35 + i)) ?_ ?_
  ·have hc : i = 0 ∨ i = 1 := by omega
   rcases hc with rfl | rfl
   ·skip
    have q1q := J6 e20 e22 @fnV.eq_1 @ok69 @sz69 @ag69
    refine AW.reg0 (S.rn q1q ?_)
    simp only [ze, simprocAttr, q1q]
    all_goals exact fn1
   ·skip
    have q2q := J6 e20 e22 @fnV.eq_1 @ok69 @sz69 @ag69
    refine AW.reg0 (S.rn q2q ?_)
    simp only [ze, simprocAttr, q2q]
    all_goals exact fn1
  rintro s σ ⟨rfl, e1, l1, e20, e21, e22, e4⟩
  refine AW.seq_j (fun s' σ' => σ' = Hp.empty ∧ s'.t 1 = .lp 1 0 ∧ s'.l 1 = some (encPat p) ∧ s'.t 20 = .sl [[fnV 35], [fnV 36]] ∧ s'.t 21 = .c (.int .i64 2) ∧ s'.t 22 = .c (.int .i64 (i : Nat)) ∧ s'.t 5 = .c (.int .i64 (if i = 0 then p.node.shape else p.node.binds))) ?_ ?_
  ·have hc : i = 0 ∨ i = 1 := by omega
   rcases hc with rfl | rfl
   ·skip
    refine AW.reg0 ?_
    iterate 3 refine S.one (J7 e4 @fnV.eq_1 e1 l1 @encPat.eq_1 hE @nd) ?_
    have q3q := J7 e4 @fnV.eq_1 e1 l1 @encPat.eq_1 hE @nd
    (refine S.g rfl rfl fun Y Z => ?_; simp only [zz, simprocAttr, -Int.reduceNatCast', -Int.reduceToNat, q3q]; (first | refine PCalls.eqto (Shape_spec _ hp.small hp.ok) ?_ | refine PCalls.eqto (Binds_spec _ hp.small (shape_err (hq1 (by omega)))) ?_) <;> (refine Z _ _ ?_; clear Z Y))
    all_goals refine S.one q3q ?_
    all_goals refine S.nil ?_
    all_goals simp only [ze, simprocAttr, q3q]
    all_goals exact fn1
   ·skip
    refine AW.reg0 ?_
    iterate 3 refine S.one (J7 e4 @fnV.eq_1 e1 l1 @encPat.eq_1 hE @nd) ?_
    have q4q := J7 e4 @fnV.eq_1 e1 l1 @encPat.eq_1 hE @nd
    (refine S.g rfl rfl fun Y Z => ?_; simp only [zz, simprocAttr, -Int.reduceNatCast', -Int.reduceToNat, q4q]; (first | refine PCalls.eqto (Shape_spec _ hp.small hp.ok) ?_ | refine PCalls.eqto (Binds_spec _ hp.small (shape_err (hq1 (by omega)))) ?_) <;> (refine Z _ _ ?_; clear Z Y))
    all_goals refine S.one q4q ?_
    all_goals refine S.nil ?_
    all_goals simp only [ze, simprocAttr, q4q]
    all_goals exact fn1
  rintro s σ ⟨rfl, e1, l1, e20, e21, e22, e5⟩
  all_goals refine AW.sr e5 ?_
  refine AW.cd ((if i = 0 then p.node.shape else p.node.binds) != 0) (fun hc => ?_) (fun hc => ?_)
  ·have hc : ¬ (if i = 0 then p.node.shape else p.node.binds) = 0 := by simpa using hc
   refine AW.sr e5 ?_
   refine AW.ret ?_
   simp only [zs, simprocAttr]
   have hc' : patErr p = if i = 0 then p.node.shape else p.node.binds := by
    rw [hs]
    split at hc
    ·rename_i h; rw [if_pos h, if_neg hc]
    ·rename_i h; rw [if_neg h, if_pos (hq1 (by omega)), if_neg hc]
   all_goals ((try and_intros) <;> first | rfl | assumption | ((rw [hc'])))
  ·have hc : (if i = 0 then p.node.shape else p.node.binds) = 0 := by simpa using hc
   refine AW.skip ?_
   simp only [zs, simprocAttr]
   all_goals apply_assumption
   have q5q := J6 e1 l1 e20 e21 e22 hw
   refine AW.reg0 (S.rn q5q ?_)
   simp only [ze, simprocAttr, q5q]
   refine ⟨m - 1, by omega, i + 1, by omega, (fun _ => ?_), (fun _ => ?_), ?_⟩
   ·by_cases h : i = 0
    ·rw [if_pos h] at hc; exact hc
    ·exact hq1 (by omega)
   ·rw [if_neg (by omega)] at hc; exact hc
   all_goals exact fn1
 ·have hi := of_decide_eq_false hi
  have hs0 := hq1 (by omega)
  rw [if_pos hs0, if_pos (hq2 (by omega))] at hs
  refine AW.exit ?_
  simp only [zs, simprocAttr]
  all_goals apply_assumption
  refine AW.seq_k fun K11 h11 => ?_
  refine AW.dv { sd := fun d => d == 1 } [(0,0),(2,0),(1,1),(3,1),(4,2),(5,2),(6,0)] ?_
  have q6q := J5 e1 l1 @encPat.eq_1 hE @nd
  iterate 2 refine D.one q6q ?_
  iterate 2 refine D.one q6q ?_
  refine D.cl (J5 e1 l1 @encPat.eq_1 hE @nd) (Vars_spec hp.small (shape_err hs0)) ?_
  all_goals have q7q := J5 e1 l1 @encPat.eq_1 hE @nd
  all_goals refine D.cl q7q (conds_spec p.conds p.node.vars hp.conds hp.len (by omega)) ?_
  all_goals refine D.one q7q ?_
  all_goals (refine D.nil ?_; apply_assumption)
  refine AW.ret ?_
  all_goals simp only [zs, simprocAttr]
  all_goals ((try and_intros) <;> first | rfl | assumption | ((rw [hs])))
end Go.Abs.M
