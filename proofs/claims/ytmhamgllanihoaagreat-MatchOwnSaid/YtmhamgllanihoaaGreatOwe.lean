import Derived.Test.YtmhamgllanihoaaGreatOwd
namespace Go.Abs.MX
open Go Go.Abs Go.Proofs Go.Abs.M
set_option maxRecDepth 20000
set_option linter.unusedSimpArgs false
set_option linter.unusedVariables false
theorem sym_tx (l0 : List Bd) (k a m0 b : Nat) (ham : a + 1 < m0) (hmb : m0 + 1 = b) (hb : b ≤ l0.length) (hn : l0.length < 2147483648) :
    ACalls Tryz.prog 74 [.gl k, .c (.int .i64 a), .c (.int .i64 m0), .c (.int .i64 b), .fn (.func 24) [] []] (hpB k l0) (hpS k l0) := by
  refine ACalls.intro Tryz.call74 Tryz.func74 rfl Tryz.ntmps74 Tryz.results74 (by simp) ?_
  have hw1 : IntKind.i64.wrap ((m0 : Int) - a) = ((m0 - a : Nat) : Int) := by rw [wrap_small _ (by omega) (by omega)]; omega
  have hw2 : IntKind.i64.wrap ((b : Int) - m0) = 1 := by rw [wrap_small _ (by omega) (by omega)]; omega
  have h1 : (((m0 - a : Nat) : Int) == 1) = false := by simp; omega
  refine AW.seq_k fun K1 h1 => ?_
  refine AW.seq_k fun K2 h2 => ?_
  all_goals refine AW.reg0 ?_
  all_goals iterate 4 (refine S.g rfl rfl fun Y Z => ?_; simp only [zz, reduceIte, Nat.reduceEqDiff, Nat.reduceAdd, hw1, h1]; refine Z _ _ ?_; clear Z Y)
  all_goals refine S.nil ?_
  all_goals simp only [ze, reduceIte, Nat.reduceEqDiff, Nat.reduceLT, Nat.reduceLeDiff, Nat.reduceAdd, reduceCtorEq, Nat.reduceMul, hw1, h1]
  all_goals apply_assumption
  refine AW.cond (b := false) (by simp [ev]; try omega) (fun hc => by cases hc) (fun hc => AW.skip ?_)
  all_goals simp only [zs, reduceIte, Nat.reduceEqDiff, Nat.reduceLT, Nat.reduceLeDiff, Nat.reduceAdd, reduceCtorEq, Nat.reduceMul]
  all_goals apply_assumption
  refine AW.seq_k fun K3 h3 => ?_
  refine AW.seq_k fun K4 h4 => ?_
  all_goals refine AW.reg0 ?_
  all_goals iterate 4 (refine S.g rfl rfl fun Y Z => ?_; simp only [zz, reduceIte, Nat.reduceEqDiff, Nat.reduceAdd, hw2]; refine Z _ _ ?_; clear Z Y)
  all_goals refine S.nil ?_
  all_goals simp only [ze, reduceIte, Nat.reduceEqDiff, Nat.reduceLT, Nat.reduceLeDiff, Nat.reduceAdd, reduceCtorEq, Nat.reduceMul, hw2]
  all_goals apply_assumption
  refine AW.cond (b := true) (by simp [ev]) (fun hc => ?_) (fun hc => by cases hc)
  refine AW.seq_k fun K5 h5 => ?_
  all_goals refine AW.reg0 ?_
  all_goals iterate 2 (refine S.g rfl rfl fun Y Z => ?_; simp only [zz, reduceIte, Nat.reduceEqDiff, Nat.reduceAdd]; refine Z _ _ ?_; clear Z Y)
  all_goals refine S.nil ?_
  all_goals simp only [ze, reduceIte, Nat.reduceEqDiff, Nat.reduceLT, Nat.reduceLeDiff, Nat.reduceAdd, reduceCtorEq, Nat.reduceMul]
  all_goals apply_assumption
  refine AW.seq_k fun K6 h6 => ?_
  all_goals refine AW.reg0 ?_
  all_goals iterate 2 (refine S.g rfl rfl fun Y Z => ?_; simp only [zz, reduceIte, Nat.reduceEqDiff, Nat.reduceAdd]; refine Z _ _ ?_; clear Z Y)
  all_goals refine S.nil ?_
  all_goals simp only [ze, reduceIte, Nat.reduceEqDiff, Nat.reduceLT, Nat.reduceLeDiff, Nat.reduceAdd, reduceCtorEq, Nat.reduceMul]
  all_goals apply_assumption
  refine AW.seq_j (fun s σ => ∃ i l', a ≤ i ∧ i ≤ m0 ∧ s.t 0 = .gl k ∧ s.t 2 = .c (.int .i64 m0) ∧ s.t 14 = .c (.int .i64 (i : Nat)) ∧ σ = hpB k l' ∧ Sub l0 l') ?_ ?_
  · refine AW.block ?_   -- 0
    refine AW.loop (fun m s σ => ∃ i j, m = j - i ∧ a ≤ i ∧ i ≤ j ∧ j ≤ m0 ∧ s.t 0 = .gl k ∧ s.t 2 = .c (.int .i64 m0) ∧ s.t 4 = .fn (.func 24) [] [] ∧ s.t 14 = .c (.int .i64 (i : Nat)) ∧ s.t 15 = .c (.int .i64 (j : Nat)) ∧ σ = hpB k l0) (m0 - a) ?_ ?_
    · refine ⟨a, m0, rfl, by omega, by omega, by omega, ?_⟩
      all_goals simp only [zs, reduceIte, Nat.reduceEqDiff, Nat.reduceLT, Nat.reduceLeDiff, Nat.reduceAdd, reduceCtorEq, Nat.reduceMul]
    rintro m s σ ⟨i, j, hm, hi, hij, hj, e0, e2, e4, e10, e11, rfl⟩
    refine AW.seq_k fun K7 h7 => ?_
    refine AW.seq_k fun K8 h8 => ?_
    all_goals refine AW.reg0 ?_
    all_goals iterate 3 (refine S.g rfl rfl fun Y Z => ?_; simp only [zz, reduceIte, Nat.reduceEqDiff, Nat.reduceAdd, e10, e11]; refine Z _ _ ?_; clear Z Y)
    all_goals refine S.nil ?_
    all_goals simp only [ze, reduceIte, Nat.reduceEqDiff, Nat.reduceLT, Nat.reduceLeDiff, Nat.reduceAdd, reduceCtorEq, Nat.reduceMul, e10, e11]
    all_goals apply_assumption
    refine AW.cond (b := decide (i < j)) (by simp [ev]) (fun hc => ?_) (fun hc => ?_)
    · refine AW.skip ?_
      all_goals simp only [zs, reduceIte, Nat.reduceEqDiff, Nat.reduceLT, Nat.reduceLeDiff, Nat.reduceAdd, reduceCtorEq, Nat.reduceMul]
      all_goals apply_assumption
      have hc := of_decide_eq_true hc
      have hw2 : IntKind.i64.wrap ((i : Int) + j) = ((i + j : Nat) : Int) := by rw [wrap_small _ (by omega) (by omega)]; rfl
      have hu := half_ux (i + j) (by omega)
      have hs := half_sx (i + j)
      have hw3 : IntKind.i64.wrap (((i + j) / 2 : Nat) : Int) = (((i + j) / 2 : Nat) : Int) := wrap_small _ (by omega) (by omega)
      have hh1 : i ≤ (i + j) / 2 := by omega
      have hh2 : (i + j) / 2 < j := by omega
      generalize (i + j) / 2 = h at *
      refine AW.block ?_   -- 1
      refine AW.seq_k fun K9 h9 => ?_
      all_goals refine AW.reg0 ?_
      all_goals iterate 7 (refine S.g rfl rfl fun Y Z => ?_; simp only [zz, reduceIte, Nat.reduceEqDiff, Nat.reduceAdd, cv3_98, cv98_3, e10, e11, hw2, hu, hs, hw3, Int.reduceLE]; refine Z _ _ ?_; clear Z Y)
      all_goals refine S.nil ?_
      all_goals simp only [ze, reduceIte, Nat.reduceEqDiff, Nat.reduceLT, Nat.reduceLeDiff, Nat.reduceAdd, reduceCtorEq, Nat.reduceMul, e10, e11, hw2, hu, hs, hw3, Int.reduceLE]
      all_goals apply_assumption
      have hpb : (hpB k l0).gr k = some ((38, 6), l0.map encBd) := by simp [hpB]
      have hj1 : m0 < l0.length := by omega
      have hj2 : h < l0.length := by omega
      obtain ⟨x, hx, hg1⟩ := get_bdx hj1
      obtain ⟨y, hy, hg2⟩ := get_bdx hj2
      have hw4 : IntKind.i64.wrap ((h : Int) + 1) = ((h + 1 : Nat) : Int) := by rw [wrap_small _ (by omega) (by omega)]; rfl
      generalize hsg : hpB k l0 = σ0 at hpb ⊢
      refine AW.seq_j (fun s' σ' => σ' = σ0 ∧ s'.t 0 = .gl k ∧ s'.t 2 = .c (.int .i64 m0) ∧ s'.t 4 = .fn (.func 24) [] [] ∧ s'.t 14 = .c (.int .i64 (i : Nat)) ∧ s'.t 15 = .c (.int .i64 (j : Nat)) ∧ s'.t 16 = .c (.int .i64 (h : Nat)) ∧ ∃ b, s'.t 103 = .c (.bool b)) ?_ ?_
      · skip
        all_goals refine AW.draw2 (T := { sd := fun _ => false }) (fun _ _ h => by cases h) mixedO [(0, 0), (1, 0), (2, 0), (3, 0), (5, 0), (6, 0), (7, 0)] 4 8 [(9, 2), (10, 0), (11, 0)] #[true, true, true, true, false, true, true, true, false, false, false, false] rfl (by kernel_rfl) (by kernel_rfl) (by kernel_rfl) (by kernel_rfl) (by kernel_rfl) ?_
        all_goals iterate 7 (refine D.g rfl trivial rfl rfl fun Y Z => ?_; simp only [zz, reduceIte, Nat.reduceEqDiff, Nat.reduceLT, Nat.reduceLeDiff, Nat.reduceAdd, reduceCtorEq, Nat.reduceMul, sl22, el22, ok38, sz38, ag38, e0, e2, e4, hpb, hj1, hj2, hg1, hg2, encBd, okAv, wkAv]; refine Z _ _ ?_; clear Z Y)
        all_goals refine D.nil ⟨?_, ?_⟩
        all_goals iterate 2 (refine D.g rfl trivial rfl rfl fun Y Z => ?_; simp only [zz, reduceIte, Nat.reduceEqDiff, Nat.reduceLT, Nat.reduceLeDiff, Nat.reduceAdd, reduceCtorEq, Nat.reduceMul, ok38, sz38, ag38, e0, e2, e4, hpb, hj1, hj2, hg1, hg2, encBd, okAv, wkAv]; refine Z _ _ ?_; clear Z Y)
        all_goals (refine D.g rfl trivial rfl rfl fun Y Z => ?_; simp only [zz, reduceIte, Nat.reduceEqDiff, Nat.reduceLT, Nat.reduceLeDiff, Nat.reduceAdd, reduceCtorEq, Nat.reduceMul, e0, e2, e4, hpb, hj1, hj2, hg1, hg2, encBd, okAv, wkAv]; refine PCalls.eqto (less_x x y) ?_ <;> (refine Z _ _ ?_; clear Z Y))
        all_goals iterate 2 (refine D.g rfl trivial rfl rfl fun Y Z => ?_; simp only [zz, reduceIte, Nat.reduceEqDiff, Nat.reduceAdd, e0, e2, e4, hpb, hj1, hj2, hg1, hg2, encBd, okAv, wkAv]; refine Z _ _ ?_; clear Z Y)
        all_goals refine D.nil ?_
        all_goals simp only [ze, reduceIte, Nat.reduceEqDiff, Nat.reduceLT, Nat.reduceLeDiff, Nat.reduceAdd, reduceCtorEq, Nat.reduceMul, e0, e2, e4, hpb, hj1, hj2, hg1, hg2, encBd, okAv, wkAv]
        all_goals exact ⟨e10, e11, _, rfl⟩
      rintro s3 σ3 ⟨rfl, g0, g2, g4, g10, g11, g12, b2, g50⟩
      refine AW.cond (b := b2) g50 (fun hd => ?_) (fun hd => ?_)
      · skip
        all_goals refine AW.reg0 ?_
        all_goals iterate 3 (refine S.g rfl rfl fun Y Z => ?_; simp only [zz, reduceIte, Nat.reduceEqDiff, Nat.reduceAdd, g12, hw4]; refine Z _ _ ?_; clear Z Y)
        all_goals refine S.nil ?_
        all_goals simp only [ze, reduceIte, Nat.reduceEqDiff, Nat.reduceLT, Nat.reduceLeDiff, Nat.reduceAdd, reduceCtorEq, Nat.reduceMul, g12, hw4]
        exact ⟨j - (h + 1), by omega, h + 1, j, rfl, by omega, by omega, hj, g0, g2, g4, rfl, g11⟩
      · skip
        all_goals refine AW.reg0 ?_
        all_goals iterate 2 (refine S.g rfl rfl fun Y Z => ?_; simp only [zz, reduceIte, Nat.reduceEqDiff, Nat.reduceAdd, g12]; refine Z _ _ ?_; clear Z Y)
        all_goals refine S.nil ?_
        all_goals simp only [ze, reduceIte, Nat.reduceEqDiff, Nat.reduceLT, Nat.reduceLeDiff, Nat.reduceAdd, reduceCtorEq, Nat.reduceMul, g12]
        exact ⟨h - i, by omega, i, h, rfl, by omega, by omega, by omega, g0, g2, g4, g10, rfl⟩
    · refine AW.exit ?_
      all_goals simp only [zs, reduceIte, Nat.reduceEqDiff, Nat.reduceLT, Nat.reduceLeDiff, Nat.reduceAdd, reduceCtorEq, Nat.reduceMul]
      have hc := of_decide_eq_false hc
      exact ⟨i, l0, hi, by omega, e0, e2, e10, rfl, Sub.refl _⟩
  rintro s1 σ1 ⟨i, l1, hi, hib, f0, f2, f10, rfl, hs1⟩
  refine AW.seq_k fun K10 h10 => ?_
  refine AW.seq_k fun K11 h11 => ?_
  all_goals refine AW.reg0 ?_
  all_goals iterate 2 (refine S.g rfl rfl fun Y Z => ?_; simp only [zz, reduceIte, Nat.reduceEqDiff, Nat.reduceAdd, f2]; refine Z _ _ ?_; clear Z Y)
  all_goals refine S.nil ?_
  all_goals simp only [ze, reduceIte, Nat.reduceEqDiff, Nat.reduceLT, Nat.reduceLeDiff, Nat.reduceAdd, reduceCtorEq, Nat.reduceMul, f2]
  all_goals apply_assumption
  refine AW.block ?_   -- 2
  refine AW.loop (fun m s σ => ∃ q l', m = q ∧ i ≤ q ∧ q ≤ m0 ∧ s.t 0 = .gl k ∧ s.t 14 = .c (.int .i64 (i : Nat)) ∧ s.t 17 = .c (.int .i64 (q : Nat)) ∧ σ = hpB k l' ∧ Sub l0 l') m0 ?_ ?_
  · refine ⟨m0, l1, rfl, by omega, by omega, ?_⟩
    all_goals simp only [zs, reduceIte, Nat.reduceEqDiff, Nat.reduceLT, Nat.reduceLeDiff, Nat.reduceAdd, reduceCtorEq, Nat.reduceMul]
    exact ⟨f0, f10, hs1⟩
  rintro m s σ ⟨q, l', rfl, hq1, hq2, e0, e10, e13, rfl, hs⟩
  refine AW.seq_k fun K12 h12 => ?_
  refine AW.seq_k fun K13 h13 => ?_
  all_goals refine AW.reg0 ?_
  all_goals iterate 3 (refine S.g rfl rfl fun Y Z => ?_; simp only [zz, reduceIte, Nat.reduceEqDiff, Nat.reduceAdd, e10, e13]; refine Z _ _ ?_; clear Z Y)
  all_goals refine S.nil ?_
  all_goals simp only [ze, reduceIte, Nat.reduceEqDiff, Nat.reduceLT, Nat.reduceLeDiff, Nat.reduceAdd, reduceCtorEq, Nat.reduceMul, e10, e13]
  all_goals apply_assumption
  refine AW.cond (b := decide ((m : Int) > i)) (by simp [ev]) (fun hc => ?_) (fun hc => ?_)
  · refine AW.skip ?_
    all_goals simp only [zs, reduceIte, Nat.reduceEqDiff, Nat.reduceLT, Nat.reduceLeDiff, Nat.reduceAdd, reduceCtorEq, Nat.reduceMul]
    all_goals apply_assumption
    have hc := of_decide_eq_true hc
    have hw : IntKind.i64.wrap ((m : Int) - 1) = ((m - 1 : Nat) : Int) := by rw [wrap_small _ (by omega) (by omega)]; omega
    have hl1 := hs.1
    have hj1 : m < l'.length := by omega
    have hj2 : m - 1 < l'.length := by omega
    obtain ⟨x, hx, hg1⟩ := get_bdx hj1
    obtain ⟨y, hy, hg2⟩ := get_bdx hj2
    have hsub := hs.swap hx hy
    have hgs : ∀ v, ((l'.map encBd).set m v).getD (m - 1) [] = encBd y := fun v => by
      rw [← hg2]; simp [List.getD, List.getElem?_set, show m ≠ m - 1 by omega]
    have hpb : hpB k l' = Hp.empty.setGr k (some ((38, 6), l'.map encBd)) := rfl
    rw [hpb]
    refine AW.seq_k fun K14 h14 => ?_
    refine AW.block ?_   -- 3
    refine AW.mono (Q := thenS (fun s' σ' => σ' = hpB k ((l'.set m y).set (m - 1) x) ∧ s'.t 0 = .gl k ∧ s'.t 14 = .c (.int .i64 (i : Nat)) ∧ s'.t 17 = .c (.int .i64 (m : Nat))) (fun _ _ _ => False)) ?_ ?_
    · skip
      all_goals refine AW.draw2 (T := { sd := fun _ => false }) (fun _ _ h => by cases h) mixedO [(0, 0), (1, 0), (2, 0), (3, 0), (4, 0), (5, 0), (6, 0), (7, 0), (8, 0), (10, 0), (11, 0), (12, 0)] 9 13 [(14, 0), (15, 2), (16, 0), (17, 2)] #[true, true, true, true, true, true, true, true, true, false, true, true, true, false, false, false, false, false] rfl (by kernel_rfl) (by kernel_rfl) (by kernel_rfl) (by kernel_rfl) (by kernel_rfl) ?_
      all_goals iterate 12 (refine D.g rfl trivial rfl rfl fun Y Z => ?_; simp only [zz, reduceIte, Nat.reduceEqDiff, Nat.reduceLT, Nat.reduceLeDiff, Nat.reduceAdd, reduceCtorEq, Nat.reduceMul, sl22, el22, ok38, sz38, ag38, e0, e10, e13, hj1, hj2, hg1, hg2, hgs, hw, encBd, List.length_set, okAv, wkAv]; refine Z _ _ ?_; clear Z Y)
      all_goals refine D.nil ⟨?_, ?_⟩
      all_goals iterate 6 (refine D.g rfl trivial rfl rfl fun Y Z => ?_; simp only [zz, reduceIte, Nat.reduceEqDiff, Nat.reduceLT, Nat.reduceLeDiff, Nat.reduceAdd, reduceCtorEq, Nat.reduceMul, ok38, sz38, ag38, sl22, el22, e0, e10, e13, hj1, hj2, hg1, hg2, hgs, hw, encBd, List.length_set, okAv, wkAv]; refine Z _ _ ?_; clear Z Y)
      all_goals refine D.nil ?_
      all_goals simp only [ze, reduceIte, Nat.reduceEqDiff, Nat.reduceLT, Nat.reduceLeDiff, Nat.reduceAdd, reduceCtorEq, Nat.reduceMul, e0, e10, e13, hj1, hj2, hg1, hg2, hgs, hw, encBd, List.length_set, okAv, wkAv]
      all_goals simp [hpB, encBd, List.map_set]
    rintro e s4 σ4 hq
    cases e with
    | normal =>
      obtain ⟨rfl, q0, q10, q13⟩ := hq
      all_goals simp only [zs, reduceIte, Nat.reduceEqDiff, Nat.reduceLT, Nat.reduceLeDiff, Nat.reduceAdd, reduceCtorEq, Nat.reduceMul]
      all_goals apply_assumption
      all_goals refine AW.reg0 ?_
      all_goals iterate 3 (refine S.g rfl rfl fun Y Z => ?_; simp only [zz, reduceIte, Nat.reduceEqDiff, Nat.reduceAdd, q13, hw]; refine Z _ _ ?_; clear Z Y)
      all_goals refine S.nil ?_
      all_goals simp only [ze, reduceIte, Nat.reduceEqDiff, Nat.reduceLT, Nat.reduceLeDiff, Nat.reduceAdd, reduceCtorEq, Nat.reduceMul, q13, hw]
      exact ⟨m - 1, by omega, m - 1, _, rfl, by omega, by omega, q0, q10, rfl, rfl, hsub⟩
    | _ => exact hq.elim
  · refine AW.exit ?_
    all_goals simp only [zs, reduceIte, Nat.reduceEqDiff, Nat.reduceLT, Nat.reduceLeDiff, Nat.reduceAdd, reduceCtorEq, Nat.reduceMul]
    all_goals apply_assumption
    refine AW.ret ?_
    all_goals simp only [zs, reduceIte, Nat.reduceEqDiff, Nat.reduceLT, Nat.reduceLeDiff, Nat.reduceAdd, reduceCtorEq, Nat.reduceMul]
    exact ⟨rfl, l', hs, rfl⟩
theorem sym_x (k : Nat) : ∀ (d : Nat) (l0 : List Bd) (a m0 b : Nat), b - a ≤ d → a < m0 → m0 < b → b ≤ l0.length → l0.length < 2147483648 →
  ACalls Tryz.prog 74 [.gl k, .c (.int .i64 a), .c (.int .i64 m0), .c (.int .i64 b), .fn (.func 24) [] []] (hpB k l0) (hpS k l0) := by
 intro d
 induction d with
 | zero => intro l0 a m0 b hd h1 h2; omega
 | succ d ih =>
 intro l0 a m0 b hd ham hmb hb hn
 by_cases hA : a + 1 = m0
 ·exact sym_ox l0 k a m0 b hA hmb hb hn
 by_cases hB : m0 + 1 = b
 ·exact sym_tx l0 k a m0 b (by omega) hB hb hn
 refine ACalls.intro Tryz.call74 Tryz.func74 rfl Tryz.ntmps74 Tryz.results74 (by simp) ?_
 have hw1 : IntKind.i64.wrap ((m0 : Int) - a) = ((m0 - a : Nat) : Int) := by rw [wrap_small _ (by omega) (by omega)]; omega
 have hw2 : IntKind.i64.wrap ((b : Int) - m0) = ((b - m0 : Nat) : Int) := by rw [wrap_small _ (by omega) (by omega)]; omega
 have h1 : (((m0 - a : Nat) : Int) == 1) = false := by simp; omega
 have h2 : (((b - m0 : Nat) : Int) == 1) = false := by simp; omega
 have hw4 : IntKind.i64.wrap ((a : Int) + b) = ((a + b : Nat) : Int) := by rw [wrap_small _ (by omega) (by omega)]; rfl
 have hu := half_ux (a + b) (by omega)
 have hs := half_sx (a + b)
 have hw5 : IntKind.i64.wrap (((a + b) / 2 : Nat) : Int) = (((a + b) / 2 : Nat) : Int) := wrap_small _ (by omega) (by omega)
 have hm1 : a + b ≤ 2 * ((a + b) / 2) + 1 := by omega
 have hm2 : 2 * ((a + b) / 2) ≤ a + b := by omega
 generalize (a + b) / 2 = mid at *
 have hw6 : IntKind.i64.wrap ((mid : Int) + m0) = ((mid + m0 : Nat) : Int) := by rw [wrap_small _ (by omega) (by omega)]; rfl
 obtain ⟨n, hnn⟩ : ∃ n, n = mid + m0 := ⟨_, rfl⟩
 rw [← hnn] at hw6
 have hw7 : IntKind.i64.wrap ((n : Int) - 1) = ((n - 1 : Nat) : Int) := by rw [wrap_small _ (by omega) (by omega)]; omega
 refine AW.seq_k fun K1 h1 => ?_
 refine AW.seq_k fun K2 h2 => ?_
 all_goals refine AW.reg0 ?_
 all_goals iterate 4 (refine S.g rfl rfl fun Y Z => ?_; simp only [zz, reduceIte, Nat.reduceEqDiff, Nat.reduceAdd, hw1, h1]; refine Z _ _ ?_; clear Z Y)
 all_goals refine S.nil ?_
 all_goals simp only [ze, reduceIte, Nat.reduceEqDiff, Nat.reduceLT, Nat.reduceLeDiff, Nat.reduceAdd, reduceCtorEq, Nat.reduceMul, hw1, h1]
 all_goals apply_assumption
 refine AW.cond (b := false) (by simp [ev]; try omega) (fun hc => by cases hc) (fun hc => AW.skip ?_)
 all_goals simp only [zs, reduceIte, Nat.reduceEqDiff, Nat.reduceLT, Nat.reduceLeDiff, Nat.reduceAdd, reduceCtorEq, Nat.reduceMul]
 all_goals apply_assumption
 refine AW.seq_k fun K3 h3 => ?_
 refine AW.seq_k fun K4 h4 => ?_
 all_goals refine AW.reg0 ?_
 all_goals iterate 4 (refine S.g rfl rfl fun Y Z => ?_; simp only [zz, reduceIte, Nat.reduceEqDiff, Nat.reduceAdd, hw2, h2]; refine Z _ _ ?_; clear Z Y)
 all_goals refine S.nil ?_
 all_goals simp only [ze, reduceIte, Nat.reduceEqDiff, Nat.reduceLT, Nat.reduceLeDiff, Nat.reduceAdd, reduceCtorEq, Nat.reduceMul, hw2, h2]
 all_goals apply_assumption
 refine AW.cond (b := false) (by simp [ev]; try omega) (fun hc => by cases hc) (fun hc => AW.skip ?_)
 all_goals simp only [zs, reduceIte, Nat.reduceEqDiff, Nat.reduceLT, Nat.reduceLeDiff, Nat.reduceAdd, reduceCtorEq, Nat.reduceMul]
 all_goals apply_assumption
 refine AW.seq_k fun K5 h5 => ?_
 all_goals refine AW.reg0 ?_
 all_goals iterate 7 (refine S.g rfl rfl fun Y Z => ?_; simp only [zz, reduceIte, Nat.reduceEqDiff, Nat.reduceAdd, cv3_98, cv98_3, hw4, hu, hs, hw5, Int.reduceLE]; refine Z _ _ ?_; clear Z Y)
 all_goals refine S.nil ?_
 all_goals simp only [ze, reduceIte, Nat.reduceEqDiff, Nat.reduceLT, Nat.reduceLeDiff, Nat.reduceAdd, reduceCtorEq, Nat.reduceMul, hw4, hu, hs, hw5, Int.reduceLE]
 all_goals apply_assumption
 refine AW.seq_k fun K6 h6 => ?_
 all_goals refine AW.reg0 ?_
 all_goals iterate 4 (refine S.g rfl rfl fun Y Z => ?_; simp only [zz, reduceIte, Nat.reduceEqDiff, Nat.reduceAdd, hw6]; refine Z _ _ ?_; clear Z Y)
 all_goals refine S.nil ?_
 all_goals simp only [ze, reduceIte, Nat.reduceEqDiff, Nat.reduceLT, Nat.reduceLeDiff, Nat.reduceAdd, reduceCtorEq, Nat.reduceMul, hw6]
 all_goals apply_assumption
 refine AW.seq_k fun K7 h7 => ?_
 all_goals refine AW.reg0 ?_
 all_goals iterate 2 (refine S.g rfl rfl fun Y Z => ?_; simp only [zz, reduceIte, Nat.reduceEqDiff, Nat.reduceAdd]; refine Z _ _ ?_; clear Z Y)
 all_goals refine S.nil ?_
 all_goals simp only [ze, reduceIte, Nat.reduceEqDiff, Nat.reduceLT, Nat.reduceLeDiff, Nat.reduceAdd, reduceCtorEq, Nat.reduceMul]
 all_goals apply_assumption
 refine AW.seq_j (fun s σ => ∃ st r, a ≤ st ∧ st ≤ r ∧ r ≤ mid ∧ r ≤ m0 ∧ n ≤ b + st ∧ s.t 0 = .gl k ∧ s.t 1 = .c (.int .i64 a) ∧ s.t 2 = .c (.int .i64 m0) ∧ s.t 3 = .c (.int .i64 b) ∧ s.t 4 = .fn (.func 24) [] [] ∧ s.t 18 = .c (.int .i64 mid) ∧ s.t 19 = .c (.int .i64 n) ∧
  s.t 20 = .c (.int .i64 (st : Nat)) ∧ s.t 21 = .c (.int .i64 (r : Nat)) ∧ σ = hpB k l0) ?_ ?_
 ·refine AW.seq_k fun K8 h8 => ?_
  all_goals refine AW.reg0 ?_
  all_goals iterate 3 (refine S.g rfl rfl fun Y Z => ?_; simp only [zz, reduceIte, Nat.reduceEqDiff, Nat.reduceAdd]; refine Z _ _ ?_; clear Z Y)
  all_goals refine S.nil ?_
  all_goals simp only [ze, reduceIte, Nat.reduceEqDiff, Nat.reduceLT, Nat.reduceLeDiff, Nat.reduceAdd, reduceCtorEq, Nat.reduceMul]
  all_goals apply_assumption
  refine AW.cond (b := decide ((m0 : Int) > mid)) (by simp [ev]) (fun hc => ?_) (fun hc => ?_)
  ·have hc := of_decide_eq_true hc
   have hw8 : IntKind.i64.wrap ((n : Int) - b) = ((n - b : Nat) : Int) := by rw [wrap_small _ (by omega) (by omega)]; omega
   refine AW.seq_k fun K9 h9 => ?_
   all_goals refine AW.reg0 ?_
   all_goals iterate 4 (refine S.g rfl rfl fun Y Z => ?_; simp only [zz, reduceIte, Nat.reduceEqDiff, Nat.reduceAdd, hw8]; refine Z _ _ ?_; clear Z Y)
   all_goals refine S.nil ?_
   all_goals simp only [ze, reduceIte, Nat.reduceEqDiff, Nat.reduceLT, Nat.reduceLeDiff, Nat.reduceAdd, reduceCtorEq, Nat.reduceMul, hw8]
   all_goals apply_assumption
   all_goals refine AW.reg0 ?_
   all_goals iterate 2 (refine S.g rfl rfl fun Y Z => ?_; simp only [zz, reduceIte, Nat.reduceEqDiff, Nat.reduceAdd]; refine Z _ _ ?_; clear Z Y)
   all_goals refine S.nil ?_
   all_goals simp only [ze, reduceIte, Nat.reduceEqDiff, Nat.reduceLT, Nat.reduceLeDiff, Nat.reduceAdd, reduceCtorEq, Nat.reduceMul]
   exact ⟨n - b, mid, by omega, by omega, by omega, by omega, by omega, rfl, rfl⟩
  ·have hc := of_decide_eq_false hc
   refine AW.seq_k fun K10 h10 => ?_
   all_goals refine AW.reg0 ?_
   all_goals iterate 2 (refine S.g rfl rfl fun Y Z => ?_; simp only [zz, reduceIte, Nat.reduceEqDiff, Nat.reduceAdd]; refine Z _ _ ?_; clear Z Y)
   all_goals refine S.nil ?_
   all_goals simp only [ze, reduceIte, Nat.reduceEqDiff, Nat.reduceLT, Nat.reduceLeDiff, Nat.reduceAdd, reduceCtorEq, Nat.reduceMul]
   all_goals apply_assumption
   all_goals refine AW.reg0 ?_
   all_goals iterate 2 (refine S.g rfl rfl fun Y Z => ?_; simp only [zz, reduceIte, Nat.reduceEqDiff, Nat.reduceAdd]; refine Z _ _ ?_; clear Z Y)
   all_goals refine S.nil ?_
   all_goals simp only [ze, reduceIte, Nat.reduceEqDiff, Nat.reduceLT, Nat.reduceLeDiff, Nat.reduceAdd, reduceCtorEq, Nat.reduceMul]
   exact ⟨a, m0, by omega, by omega, by omega, by omega, by omega, rfl, rfl⟩
 rintro s0 σ0 ⟨st0, r0, hg1, hg2, hg3, hg4, hg5, g0, g1, g2, g3, g4, g18, g19, g20, g21, rfl⟩
 refine AW.seq_k fun K11 h11 => ?_
 all_goals refine AW.reg0 ?_
 all_goals iterate 3 (refine S.g rfl rfl fun Y Z => ?_; simp only [zz, reduceIte, Nat.reduceEqDiff, Nat.reduceAdd, g19, hw7]; refine Z _ _ ?_; clear Z Y)
 all_goals refine S.nil ?_
 all_goals simp only [ze, reduceIte, Nat.reduceEqDiff, Nat.reduceLT, Nat.reduceLeDiff, Nat.reduceAdd, reduceCtorEq, Nat.reduceMul, g19, hw7]
 all_goals apply_assumption
 refine AW.seq_j (fun s σ => ∃ st l', a ≤ st ∧ st ≤ mid ∧ st ≤ m0 ∧ n ≤ b + st ∧ s.t 0 = .gl k ∧ s.t 1 = .c (.int .i64 a) ∧ s.t 2 = .c (.int .i64 m0) ∧ s.t 3 = .c (.int .i64 b) ∧ s.t 4 = .fn (.func 24) [] [] ∧ s.t 18 = .c (.int .i64 mid) ∧ s.t 19 = .c (.int .i64 n) ∧
  s.t 20 = .c (.int .i64 (st : Nat)) ∧ σ = hpB k l' ∧ Sub l0 l') ?_ ?_
 ·refine AW.block ?_   -- 8
  refine AW.loop (fun m s σ => ∃ st r, m = r - st ∧ a ≤ st ∧ st ≤ r ∧ r ≤ mid ∧ r ≤ m0 ∧ n ≤ b + st ∧ s.t 0 = .gl k ∧ s.t 1 = .c (.int .i64 a) ∧ s.t 2 = .c (.int .i64 m0) ∧ s.t 3 = .c (.int .i64 b) ∧ s.t 4 = .fn (.func 24) [] [] ∧ s.t 18 = .c (.int .i64 mid) ∧ s.t 19 = .c (.int .i64 n) ∧
   s.t 20 = .c (.int .i64 (st : Nat)) ∧ s.t 21 = .c (.int .i64 (r : Nat)) ∧ s.t 22 = .c (.int .i64 ((n - 1 : Nat) : Int)) ∧ σ = hpB k l0) (r0 - st0) ?_ ?_
  ·refine ⟨st0, r0, rfl, hg1, hg2, hg3, hg4, hg5, ?_⟩
   all_goals simp only [zs, reduceIte, Nat.reduceEqDiff, Nat.reduceLT, Nat.reduceLeDiff, Nat.reduceAdd, reduceCtorEq, Nat.reduceMul]
   exact ⟨g0, g1, g2, g3, g4, g18, g19, g20, g21⟩
  rintro m s σ ⟨i, j, hm, hi, hij, hj, hj', hnb, e0, e1, e2, e3, e4, e18, e19, e10, e11, e22, rfl⟩
  refine AW.seq_k fun K12 h12 => ?_
  refine AW.seq_k fun K13 h13 => ?_
  all_goals refine AW.reg0 ?_
  all_goals iterate 3 (refine S.g rfl rfl fun Y Z => ?_; simp only [zz, reduceIte, Nat.reduceEqDiff, Nat.reduceAdd, e10, e11]; refine Z _ _ ?_; clear Z Y)
  all_goals refine S.nil ?_
  all_goals simp only [ze, reduceIte, Nat.reduceEqDiff, Nat.reduceLT, Nat.reduceLeDiff, Nat.reduceAdd, reduceCtorEq, Nat.reduceMul, e10, e11]
  all_goals apply_assumption
  refine AW.cond (b := decide (i < j)) (by simp [ev]) (fun hc => ?_) (fun hc => ?_)
  ·refine AW.skip ?_
   all_goals simp only [zs, reduceIte, Nat.reduceEqDiff, Nat.reduceLT, Nat.reduceLeDiff, Nat.reduceAdd, reduceCtorEq, Nat.reduceMul]
   all_goals apply_assumption
   have hc := of_decide_eq_true hc
   have hw2 : IntKind.i64.wrap ((i : Int) + j) = ((i + j : Nat) : Int) := by rw [wrap_small _ (by omega) (by omega)]; rfl
   have hu := half_ux (i + j) (by omega)
   have hs := half_sx (i + j)
   have hw3 : IntKind.i64.wrap (((i + j) / 2 : Nat) : Int) = (((i + j) / 2 : Nat) : Int) := wrap_small _ (by omega) (by omega)
   have hh1 : i ≤ (i + j) / 2 := by omega
   have hh2 : (i + j) / 2 < j := by omega
   generalize (i + j) / 2 = h at *
   refine AW.block ?_   -- 1
   refine AW.seq_k fun K14 h14 => ?_
   all_goals refine AW.reg0 ?_
   all_goals iterate 7 (refine S.g rfl rfl fun Y Z => ?_; simp only [zz, reduceIte, Nat.reduceEqDiff, Nat.reduceAdd, cv3_98, cv98_3, e10, e11, hw2, hu, hs, hw3, Int.reduceLE]; refine Z _ _ ?_; clear Z Y)
   all_goals refine S.nil ?_
   all_goals simp only [ze, reduceIte, Nat.reduceEqDiff, Nat.reduceLT, Nat.reduceLeDiff, Nat.reduceAdd, reduceCtorEq, Nat.reduceMul, e10, e11, hw2, hu, hs, hw3, Int.reduceLE]
   all_goals apply_assumption
   have hpb : (hpB k l0).gr k = some ((38, 6), l0.map encBd) := by simp [hpB]
   have hw8 : IntKind.i64.wrap (((n - 1 : Nat) : Int) - h) = ((n - 1 - h : Nat) : Int) := by rw [wrap_small _ (by omega) (by omega)]; omega
   have hj1 : n - 1 - h < l0.length := by omega
   have hj2 : h < l0.length := by omega
   obtain ⟨x, hx, hg1⟩ := get_bdx hj1
   obtain ⟨y, hy, hg2⟩ := get_bdx hj2
   have hw4 : IntKind.i64.wrap ((h : Int) + 1) = ((h + 1 : Nat) : Int) := by rw [wrap_small _ (by omega) (by omega)]; rfl
   generalize hsg : hpB k l0 = σ0 at hpb ⊢
   refine AW.seq_j (fun s' σ' => σ' = σ0 ∧ s'.t 0 = .gl k ∧ s'.t 1 = .c (.int .i64 a) ∧ s'.t 2 = .c (.int .i64 m0) ∧ s'.t 3 = .c (.int .i64 b) ∧ s'.t 4 = .fn (.func 24) [] [] ∧ s'.t 18 = .c (.int .i64 mid) ∧ s'.t 19 = .c (.int .i64 n) ∧ s'.t 20 = .c (.int .i64 (i : Nat)) ∧ s'.t 21 = .c (.int .i64 (j : Nat)) ∧ s'.t 22 = .c (.int .i64 ((n - 1 : Nat) : Int)) ∧ s'.t 23 = .c (.int .i64 (h : Nat)) ∧ ∃ b, s'.t 171 = .c (.bool b)) ?_ ?_
   ·skip
    all_goals refine AW.draw2 (T := { sd := fun _ => false }) (fun _ _ h => by cases h) mixedO [(0, 0), (1, 0), (2, 0), (3, 0), (4, 0), (5, 0), (7, 0), (8, 0), (9, 0)] 6 10 [(11, 2), (12, 0), (13, 0)] #[true, true, true, true, true, true, false, true, true, true, false, false, false, false] rfl (by kernel_rfl) (by kernel_rfl) (by kernel_rfl) (by kernel_rfl) (by kernel_rfl) ?_
    all_goals iterate 9 (refine D.g rfl trivial rfl rfl fun Y Z => ?_; simp only [zz, reduceIte, Nat.reduceEqDiff, Nat.reduceLT, Nat.reduceLeDiff, Nat.reduceAdd, reduceCtorEq, Nat.reduceMul, sl22, el22, ok38, sz38, ag38, e0, e22, e4, hpb, hj1, hj2, hg1, hg2, hw8, encBd, okAv, wkAv]; refine Z _ _ ?_; clear Z Y)
    all_goals refine D.nil ⟨?_, ?_⟩
    all_goals iterate 2 (refine D.g rfl trivial rfl rfl fun Y Z => ?_; simp only [zz, reduceIte, Nat.reduceEqDiff, Nat.reduceLT, Nat.reduceLeDiff, Nat.reduceAdd, reduceCtorEq, Nat.reduceMul, ok38, sz38, ag38, e0, e22, e4, hpb, hj1, hj2, hg1, hg2, hw8, encBd, okAv, wkAv]; refine Z _ _ ?_; clear Z Y)
    all_goals (refine D.g rfl trivial rfl rfl fun Y Z => ?_; simp only [zz, reduceIte, Nat.reduceEqDiff, Nat.reduceLT, Nat.reduceLeDiff, Nat.reduceAdd, reduceCtorEq, Nat.reduceMul, e0, e22, e4, hpb, hj1, hj2, hg1, hg2, hw8, encBd, okAv, wkAv]; refine PCalls.eqto (less_x x y) ?_ <;> (refine Z _ _ ?_; clear Z Y))
    all_goals iterate 2 (refine D.g rfl trivial rfl rfl fun Y Z => ?_; simp only [zz, reduceIte, Nat.reduceEqDiff, Nat.reduceAdd, e0, e22, e4, hpb, hj1, hj2, hg1, hg2, hw8, encBd, okAv, wkAv]; refine Z _ _ ?_; clear Z Y)
    all_goals refine D.nil ?_
    all_goals simp only [ze, reduceIte, Nat.reduceEqDiff, Nat.reduceLT, Nat.reduceLeDiff, Nat.reduceAdd, reduceCtorEq, Nat.reduceMul, e0, e22, e4, hpb, hj1, hj2, hg1, hg2, hw8, encBd, okAv, wkAv]
    all_goals exact ⟨e1, e2, e3, e18, e19, e10, e11, _, rfl⟩
   rintro s3 σ3 ⟨rfl, g0, g1, g2, g3, g4, g18, g19, g10, g11, g22, g12, b2, g50⟩
   refine AW.cond (b := b2) g50 (fun hd => ?_) (fun hd => ?_)
   ·skip
    all_goals refine AW.reg0 ?_
    all_goals iterate 3 (refine S.g rfl rfl fun Y Z => ?_; simp only [zz, reduceIte, Nat.reduceEqDiff, Nat.reduceAdd, g12, hw4]; refine Z _ _ ?_; clear Z Y)
    all_goals refine S.nil ?_
    all_goals simp only [ze, reduceIte, Nat.reduceEqDiff, Nat.reduceLT, Nat.reduceLeDiff, Nat.reduceAdd, reduceCtorEq, Nat.reduceMul, g12, hw4]
    exact ⟨j - (h + 1), by omega, h + 1, j, rfl, by omega, by omega, hj, hj', by omega, g0, g1, g2, g3, g4, g18, g19, rfl, g11, g22⟩
   ·skip
    all_goals refine AW.reg0 ?_
    all_goals iterate 2 (refine S.g rfl rfl fun Y Z => ?_; simp only [zz, reduceIte, Nat.reduceEqDiff, Nat.reduceAdd, g12]; refine Z _ _ ?_; clear Z Y)
    all_goals refine S.nil ?_
    all_goals simp only [ze, reduceIte, Nat.reduceEqDiff, Nat.reduceLT, Nat.reduceLeDiff, Nat.reduceAdd, reduceCtorEq, Nat.reduceMul, g12]
    exact ⟨h - i, by omega, i, h, rfl, by omega, by omega, by omega, by omega, by omega, g0, g1, g2, g3, g4, g18, g19, g10, rfl, g22⟩
  ·refine AW.exit ?_
   all_goals simp only [zs, reduceIte, Nat.reduceEqDiff, Nat.reduceLT, Nat.reduceLeDiff, Nat.reduceAdd, reduceCtorEq, Nat.reduceMul]
   have hc := of_decide_eq_false hc
   exact ⟨i, l0, hi, by omega, by omega, hnb, e0, e1, e2, e3, e4, e18, e19, e10, rfl, Sub.refl _⟩
 rintro s1 σ1 ⟨st, l1, hi1, hi2, hi3, hi4, f0, f1, f2, f3, f4, f18, f19, f20, rfl, hs1⟩
 have hw8 : IntKind.i64.wrap ((n : Int) - st) = ((n - st : Nat) : Int) := by rw [wrap_small _ (by omega) (by omega)]; omega
 refine AW.seq_k fun K15 h15 => ?_
 all_goals refine AW.reg0 ?_
 all_goals iterate 4 (refine S.g rfl rfl fun Y Z => ?_; simp only [zz, reduceIte, Nat.reduceEqDiff, Nat.reduceAdd, f19, f20, hw8]; refine Z _ _ ?_; clear Z Y)
 all_goals refine S.nil ?_
 all_goals simp only [ze, reduceIte, Nat.reduceEqDiff, Nat.reduceLT, Nat.reduceLeDiff, Nat.reduceAdd, reduceCtorEq, Nat.reduceMul, f19, f20, hw8]
 all_goals apply_assumption
 refine AW.seq_j (fun s σ => ∃ l', s.t 0 = .gl k ∧ s.t 1 = .c (.int .i64 a) ∧ s.t 3 = .c (.int .i64 b) ∧ s.t 4 = .fn (.func 24) [] [] ∧ s.t 18 = .c (.int .i64 mid) ∧ s.t 20 = .c (.int .i64 (st : Nat)) ∧ s.t 24 = .c (.int .i64 ((n - st : Nat) : Int)) ∧ σ = hpB k l' ∧ Sub l0 l') ?_ ?_
 ·by_cases hc1 : st < m0
  ·by_cases hc2 : m0 < n - st
   ·refine AW.seq_k fun K16 h16 => ?_
    all_goals refine AW.reg0 ?_
    all_goals iterate 2 (refine S.g rfl rfl fun Y Z => ?_; simp only [zz, reduceIte, Nat.reduceEqDiff, Nat.reduceAdd, f0, f1, f2, f3, f4, f18, f20]; refine Z _ _ ?_; clear Z Y)
    all_goals (refine S.g rfl rfl fun Y Z => ?_; simp only [zz, reduceIte, Nat.reduceEqDiff, Nat.reduceLT, Nat.reduceLeDiff, Nat.reduceAdd, reduceCtorEq, Nat.reduceMul, f0, f1, f2, f3, f4, f18, f20]; refine S.bool fun b a180 => ?_; cases b <;> (try (exfalso; first | exact Bool.noConfusion a180 | (have h := of_decide_eq_true a180; omega) | (have h := of_decide_eq_false a180; omega))) <;> (refine Z _ _ ?_; clear Z Y))
    all_goals (refine S.g rfl rfl fun Y Z => ?_; simp only [zz, reduceIte, Nat.reduceEqDiff, Nat.reduceAdd, f0, f1, f2, f3, f4, f18, f20]; refine Z _ _ ?_; clear Z Y)
    all_goals iterate 3 (first | (refine S.y rfl rfl rfl rfl fun Y Z => ?_; simp only [zz, reduceIte, Nat.reduceEqDiff, Nat.reduceAdd, f0, f1, f2, f3, f4, f18, f20]; refine Z _ _ ?_; clear Z Y) | ((first | refine S.x rfl rfl rfl rfl fun Y Z => ?_ | refine S.u rfl rfl rfl rfl fun Y Z => ?_); simp only [ze, reduceIte, Nat.reduceEqDiff]; refine Z _ _ ?_; clear Z Y))
    all_goals (refine S.g rfl rfl fun Y Z => ?_; simp only [zz, reduceIte, Nat.reduceEqDiff, Nat.reduceAdd, f0, f1, f2, f3, f4, f18, f20]; refine Z _ _ ?_; clear Z Y)
    all_goals refine S.nil ?_
    all_goals simp only [ze, reduceIte, Nat.reduceEqDiff, Nat.reduceLT, Nat.reduceLeDiff, Nat.reduceAdd, reduceCtorEq, Nat.reduceMul, f0, f1, f2, f3, f4, f18, f20]
    all_goals apply_assumption
    refine AW.cond (b := true) (by simp [ev]; try omega) (fun hc => ?_) (fun hc => by cases hc)
    all_goals refine AW.reg0 ?_
    all_goals iterate 5 (refine S.g rfl rfl fun Y Z => ?_; simp only [zz, reduceIte, Nat.reduceEqDiff, Nat.reduceAdd, f0, f1, f2, f3, f4, f18, f20]; refine Z _ _ ?_; clear Z Y)
    all_goals (refine S.g rfl rfl fun Y Z => ?_; simp only [zz, reduceIte, Nat.reduceEqDiff, Nat.reduceLT, Nat.reduceLeDiff, Nat.reduceAdd, reduceCtorEq, Nat.reduceMul, f0, f1, f2, f3, f4, f18, f20]; refine (rotate_x l1 k st m0 (n - st) (by omega) (by omega) (by rw [hs1.1]; omega) (by rw [hs1.1]; omega)).to fun v σ1 hv => ?_; obtain ⟨rfl, l2, hl2, rfl⟩ := hv <;> (refine Z _ _ ?_; clear Z Y))
    all_goals refine S.nil ?_
    all_goals simp only [ze, reduceIte, Nat.reduceEqDiff, Nat.reduceLT, Nat.reduceLeDiff, Nat.reduceAdd, reduceCtorEq, Nat.reduceMul, f0, f1, f2, f3, f4, f18, f20]
    refine ⟨l2, ?_⟩; have hfin := hs1.trans hl2; (repeat' apply And.intro) <;> first | rfl | assumption | exact hfin.1 | exact hfin.2
   ·refine AW.seq_k fun K17 h17 => ?_
    all_goals refine AW.reg0 ?_
    all_goals iterate 2 (refine S.g rfl rfl fun Y Z => ?_; simp only [zz, reduceIte, Nat.reduceEqDiff, Nat.reduceAdd, f0, f1, f2, f3, f4, f18, f20]; refine Z _ _ ?_; clear Z Y)
    all_goals (refine S.g rfl rfl fun Y Z => ?_; simp only [zz, reduceIte, Nat.reduceEqDiff, Nat.reduceLT, Nat.reduceLeDiff, Nat.reduceAdd, reduceCtorEq, Nat.reduceMul, f0, f1, f2, f3, f4, f18, f20]; refine S.bool fun b a180 => ?_; cases b <;> (try (exfalso; first | exact Bool.noConfusion a180 | (have h := of_decide_eq_true a180; omega) | (have h := of_decide_eq_false a180; omega))) <;> (refine Z _ _ ?_; clear Z Y))
    all_goals (refine S.g rfl rfl fun Y Z => ?_; simp only [zz, reduceIte, Nat.reduceEqDiff, Nat.reduceAdd, f0, f1, f2, f3, f4, f18, f20]; refine Z _ _ ?_; clear Z Y)
    all_goals iterate 3 (first | (refine S.y rfl rfl rfl rfl fun Y Z => ?_; simp only [zz, reduceIte, Nat.reduceEqDiff, Nat.reduceAdd, f0, f1, f2, f3, f4, f18, f20]; refine Z _ _ ?_; clear Z Y) | ((first | refine S.x rfl rfl rfl rfl fun Y Z => ?_ | refine S.u rfl rfl rfl rfl fun Y Z => ?_); simp only [ze, reduceIte, Nat.reduceEqDiff]; refine Z _ _ ?_; clear Z Y))
    all_goals (refine S.g rfl rfl fun Y Z => ?_; simp only [zz, reduceIte, Nat.reduceEqDiff, Nat.reduceAdd, f0, f1, f2, f3, f4, f18, f20]; refine Z _ _ ?_; clear Z Y)
    all_goals refine S.nil ?_
    all_goals simp only [ze, reduceIte, Nat.reduceEqDiff, Nat.reduceLT, Nat.reduceLeDiff, Nat.reduceAdd, reduceCtorEq, Nat.reduceMul, f0, f1, f2, f3, f4, f18, f20]
    all_goals apply_assumption
    refine AW.cond (b := false) (by simp [ev]; try omega) (fun hc => by cases hc) (fun hc => AW.skip ?_)
    all_goals simp only [zs, reduceIte, Nat.reduceEqDiff, Nat.reduceLT, Nat.reduceLeDiff, Nat.reduceAdd, reduceCtorEq, Nat.reduceMul]
    refine ⟨l1, ?_⟩; have hfin := hs1; (repeat' apply And.intro) <;> first | rfl | assumption | exact hfin.1 | exact hfin.2
  ·refine AW.seq_k fun K18 h18 => ?_
   all_goals refine AW.reg0 ?_
   all_goals iterate 2 (refine S.g rfl rfl fun Y Z => ?_; simp only [zz, reduceIte, Nat.reduceEqDiff, Nat.reduceAdd, f0, f1, f2, f3, f4, f18, f20]; refine Z _ _ ?_; clear Z Y)
   all_goals (refine S.g rfl rfl fun Y Z => ?_; simp only [zz, reduceIte, Nat.reduceEqDiff, Nat.reduceLT, Nat.reduceLeDiff, Nat.reduceAdd, reduceCtorEq, Nat.reduceMul, f0, f1, f2, f3, f4, f18, f20]; refine S.bool fun b a180 => ?_; cases b <;> (try (exfalso; first | exact Bool.noConfusion a180 | (have h := of_decide_eq_true a180; omega) | (have h := of_decide_eq_false a180; omega))) <;> (refine Z _ _ ?_; clear Z Y))
   all_goals (refine S.g rfl rfl fun Y Z => ?_; simp only [zz, reduceIte, Nat.reduceEqDiff, Nat.reduceAdd, f0, f1, f2, f3, f4, f18, f20]; refine Z _ _ ?_; clear Z Y)
   all_goals iterate 3 (first | (refine S.y rfl rfl rfl rfl fun Y Z => ?_; simp only [zz, reduceIte, Nat.reduceEqDiff, Nat.reduceAdd, f0, f1, f2, f3, f4, f18, f20]; refine Z _ _ ?_; clear Z Y) | ((first | refine S.x rfl rfl rfl rfl fun Y Z => ?_ | refine S.u rfl rfl rfl rfl fun Y Z => ?_); simp only [ze, reduceIte, Nat.reduceEqDiff]; refine Z _ _ ?_; clear Z Y))
   all_goals (refine S.g rfl rfl fun Y Z => ?_; simp only [zz, reduceIte, Nat.reduceEqDiff, Nat.reduceAdd, f0, f1, f2, f3, f4, f18, f20]; refine Z _ _ ?_; clear Z Y)
   all_goals refine S.nil ?_
   all_goals simp only [ze, reduceIte, Nat.reduceEqDiff, Nat.reduceLT, Nat.reduceLeDiff, Nat.reduceAdd, reduceCtorEq, Nat.reduceMul, f0, f1, f2, f3, f4, f18, f20]
   all_goals apply_assumption
   refine AW.cond (b := false) (by simp [ev]; try omega) (fun hc => by cases hc) (fun hc => AW.skip ?_)
   all_goals simp only [zs, reduceIte, Nat.reduceEqDiff, Nat.reduceLT, Nat.reduceLeDiff, Nat.reduceAdd, reduceCtorEq, Nat.reduceMul]
   refine ⟨l1, ?_⟩; have hfin := hs1; (repeat' apply And.intro) <;> first | rfl | assumption | exact hfin.1 | exact hfin.2
 clear f0 f1 f2 f3 f4 f18 f19 f20 hs1
 rintro s2 σ2 ⟨l2, f0, f1, f3, f4, f18, f20, f24, rfl, hs2⟩
 refine AW.seq_j (fun s σ => ∃ l', s.t 0 = .gl k ∧ s.t 3 = .c (.int .i64 b) ∧ s.t 4 = .fn (.func 24) [] [] ∧ s.t 18 = .c (.int .i64 mid) ∧ s.t 24 = .c (.int .i64 ((n - st : Nat) : Int)) ∧ σ = hpB k l' ∧ Sub l0 l') ?_ ?_
 ·by_cases hc1 : a < st
  ·by_cases hc2 : st < mid
   ·refine AW.seq_k fun K19 h19 => ?_
    all_goals refine AW.reg0 ?_
    all_goals iterate 2 (refine S.g rfl rfl fun Y Z => ?_; simp only [zz, reduceIte, Nat.reduceEqDiff, Nat.reduceAdd, f0, f1, f3, f4, f18, f20, f24]; refine Z _ _ ?_; clear Z Y)
    all_goals (refine S.g rfl rfl fun Y Z => ?_; simp only [zz, reduceIte, Nat.reduceEqDiff, Nat.reduceLT, Nat.reduceLeDiff, Nat.reduceAdd, reduceCtorEq, Nat.reduceMul, f0, f1, f3, f4, f18, f20, f24]; refine S.bool fun b a194 => ?_; cases b <;> (try (exfalso; first | exact Bool.noConfusion a194 | (have h := of_decide_eq_true a194; omega) | (have h := of_decide_eq_false a194; omega))) <;> (refine Z _ _ ?_; clear Z Y))
    all_goals (refine S.g rfl rfl fun Y Z => ?_; simp only [zz, reduceIte, Nat.reduceEqDiff, Nat.reduceAdd, f0, f1, f3, f4, f18, f20, f24]; refine Z _ _ ?_; clear Z Y)
    all_goals iterate 3 (first | (refine S.y rfl rfl rfl rfl fun Y Z => ?_; simp only [zz, reduceIte, Nat.reduceEqDiff, Nat.reduceAdd, f0, f1, f3, f4, f18, f20, f24]; refine Z _ _ ?_; clear Z Y) | ((first | refine S.x rfl rfl rfl rfl fun Y Z => ?_ | refine S.u rfl rfl rfl rfl fun Y Z => ?_); simp only [ze, reduceIte, Nat.reduceEqDiff]; refine Z _ _ ?_; clear Z Y))
    all_goals (refine S.g rfl rfl fun Y Z => ?_; simp only [zz, reduceIte, Nat.reduceEqDiff, Nat.reduceAdd, f0, f1, f3, f4, f18, f20, f24]; refine Z _ _ ?_; clear Z Y)
    all_goals refine S.nil ?_
    all_goals simp only [ze, reduceIte, Nat.reduceEqDiff, Nat.reduceLT, Nat.reduceLeDiff, Nat.reduceAdd, reduceCtorEq, Nat.reduceMul, f0, f1, f3, f4, f18, f20, f24]
    all_goals apply_assumption
    refine AW.cond (b := true) (by simp [ev]; try omega) (fun hc => ?_) (fun hc => by cases hc)
    all_goals refine AW.reg0 ?_
    all_goals iterate 5 (refine S.g rfl rfl fun Y Z => ?_; simp only [zz, reduceIte, Nat.reduceEqDiff, Nat.reduceAdd, f0, f1, f3, f4, f18, f20]; refine Z _ _ ?_; clear Z Y)
    all_goals (refine S.g rfl rfl fun Y Z => ?_; simp only [zz, reduceIte, Nat.reduceEqDiff, Nat.reduceLT, Nat.reduceLeDiff, Nat.reduceAdd, reduceCtorEq, Nat.reduceMul, f0, f1, f3, f4, f18, f20]; refine (ih l2 a st mid (by omega) (by omega) (by omega) (by rw [hs2.1]; omega) (by rw [hs2.1]; omega)).to fun v σ1 hv => ?_; obtain ⟨rfl, l3, hl3, rfl⟩ := hv <;> (refine Z _ _ ?_; clear Z Y))
    all_goals refine S.nil ?_
    all_goals simp only [ze, reduceIte, Nat.reduceEqDiff, Nat.reduceLT, Nat.reduceLeDiff, Nat.reduceAdd, reduceCtorEq, Nat.reduceMul, f0, f1, f3, f4, f18, f20]
    refine ⟨l3, ?_⟩; have hfin := hs2.trans hl3; (repeat' apply And.intro) <;> first | rfl | assumption | exact hfin.1 | exact hfin.2
   ·refine AW.seq_k fun K20 h20 => ?_
    all_goals refine AW.reg0 ?_
    all_goals iterate 2 (refine S.g rfl rfl fun Y Z => ?_; simp only [zz, reduceIte, Nat.reduceEqDiff, Nat.reduceAdd, f0, f1, f3, f4, f18, f20, f24]; refine Z _ _ ?_; clear Z Y)
    all_goals (refine S.g rfl rfl fun Y Z => ?_; simp only [zz, reduceIte, Nat.reduceEqDiff, Nat.reduceLT, Nat.reduceLeDiff, Nat.reduceAdd, reduceCtorEq, Nat.reduceMul, f0, f1, f3, f4, f18, f20, f24]; refine S.bool fun b a194 => ?_; cases b <;> (try (exfalso; first | exact Bool.noConfusion a194 | (have h := of_decide_eq_true a194; omega) | (have h := of_decide_eq_false a194; omega))) <;> (refine Z _ _ ?_; clear Z Y))
    all_goals (refine S.g rfl rfl fun Y Z => ?_; simp only [zz, reduceIte, Nat.reduceEqDiff, Nat.reduceAdd, f0, f1, f3, f4, f18, f20, f24]; refine Z _ _ ?_; clear Z Y)
    all_goals iterate 3 (first | (refine S.y rfl rfl rfl rfl fun Y Z => ?_; simp only [zz, reduceIte, Nat.reduceEqDiff, Nat.reduceAdd, f0, f1, f3, f4, f18, f20, f24]; refine Z _ _ ?_; clear Z Y) | ((first | refine S.x rfl rfl rfl rfl fun Y Z => ?_ | refine S.u rfl rfl rfl rfl fun Y Z => ?_); simp only [ze, reduceIte, Nat.reduceEqDiff]; refine Z _ _ ?_; clear Z Y))
    all_goals (refine S.g rfl rfl fun Y Z => ?_; simp only [zz, reduceIte, Nat.reduceEqDiff, Nat.reduceAdd, f0, f1, f3, f4, f18, f20, f24]; refine Z _ _ ?_; clear Z Y)
    all_goals refine S.nil ?_
    all_goals simp only [ze, reduceIte, Nat.reduceEqDiff, Nat.reduceLT, Nat.reduceLeDiff, Nat.reduceAdd, reduceCtorEq, Nat.reduceMul, f0, f1, f3, f4, f18, f20, f24]
    all_goals apply_assumption
    refine AW.cond (b := false) (by simp [ev]; try omega) (fun hc => by cases hc) (fun hc => AW.skip ?_)
    all_goals simp only [zs, reduceIte, Nat.reduceEqDiff, Nat.reduceLT, Nat.reduceLeDiff, Nat.reduceAdd, reduceCtorEq, Nat.reduceMul]
    refine ⟨l2, ?_⟩; have hfin := hs2; (repeat' apply And.intro) <;> first | rfl | assumption | exact hfin.1 | exact hfin.2
  ·refine AW.seq_k fun K21 h21 => ?_
   all_goals refine AW.reg0 ?_
   all_goals iterate 2 (refine S.g rfl rfl fun Y Z => ?_; simp only [zz, reduceIte, Nat.reduceEqDiff, Nat.reduceAdd, f0, f1, f3, f4, f18, f20, f24]; refine Z _ _ ?_; clear Z Y)
   all_goals (refine S.g rfl rfl fun Y Z => ?_; simp only [zz, reduceIte, Nat.reduceEqDiff, Nat.reduceLT, Nat.reduceLeDiff, Nat.reduceAdd, reduceCtorEq, Nat.reduceMul, f0, f1, f3, f4, f18, f20, f24]; refine S.bool fun b a194 => ?_; cases b <;> (try (exfalso; first | exact Bool.noConfusion a194 | (have h := of_decide_eq_true a194; omega) | (have h := of_decide_eq_false a194; omega))) <;> (refine Z _ _ ?_; clear Z Y))
   all_goals (refine S.g rfl rfl fun Y Z => ?_; simp only [zz, reduceIte, Nat.reduceEqDiff, Nat.reduceAdd, f0, f1, f3, f4, f18, f20, f24]; refine Z _ _ ?_; clear Z Y)
   all_goals iterate 3 (first | (refine S.y rfl rfl rfl rfl fun Y Z => ?_; simp only [zz, reduceIte, Nat.reduceEqDiff, Nat.reduceAdd, f0, f1, f3, f4, f18, f20, f24]; refine Z _ _ ?_; clear Z Y) | ((first | refine S.x rfl rfl rfl rfl fun Y Z => ?_ | refine S.u rfl rfl rfl rfl fun Y Z => ?_); simp only [ze, reduceIte, Nat.reduceEqDiff]; refine Z _ _ ?_; clear Z Y))
   all_goals (refine S.g rfl rfl fun Y Z => ?_; simp only [zz, reduceIte, Nat.reduceEqDiff, Nat.reduceAdd, f0, f1, f3, f4, f18, f20, f24]; refine Z _ _ ?_; clear Z Y)
   all_goals refine S.nil ?_
   all_goals simp only [ze, reduceIte, Nat.reduceEqDiff, Nat.reduceLT, Nat.reduceLeDiff, Nat.reduceAdd, reduceCtorEq, Nat.reduceMul, f0, f1, f3, f4, f18, f20, f24]
   all_goals apply_assumption
   refine AW.cond (b := false) (by simp [ev]; try omega) (fun hc => by cases hc) (fun hc => AW.skip ?_)
   all_goals simp only [zs, reduceIte, Nat.reduceEqDiff, Nat.reduceLT, Nat.reduceLeDiff, Nat.reduceAdd, reduceCtorEq, Nat.reduceMul]
   refine ⟨l2, ?_⟩; have hfin := hs2; (repeat' apply And.intro) <;> first | rfl | assumption | exact hfin.1 | exact hfin.2
 clear f0 f1 f3 f4 f18 f20 f24 hs2
 rintro s3 σ3 ⟨l3, f0, f3, f4, f18, f24, rfl, hs3⟩
 by_cases hc1 : mid < n - st
 ·by_cases hc2 : n - st < b
  ·refine AW.seq_k fun K22 h22 => ?_
   all_goals refine AW.reg0 ?_
   all_goals iterate 2 (refine S.g rfl rfl fun Y Z => ?_; simp only [zz, reduceIte, Nat.reduceEqDiff, Nat.reduceAdd, f0, f3, f4, f18, f24]; refine Z _ _ ?_; clear Z Y)
   all_goals (refine S.g rfl rfl fun Y Z => ?_; simp only [zz, reduceIte, Nat.reduceEqDiff, Nat.reduceLT, Nat.reduceLeDiff, Nat.reduceAdd, reduceCtorEq, Nat.reduceMul, f0, f3, f4, f18, f24]; refine S.bool fun b a208 => ?_; cases b <;> (try (exfalso; first | exact Bool.noConfusion a208 | (have h := of_decide_eq_true a208; omega) | (have h := of_decide_eq_false a208; omega))) <;> (refine Z _ _ ?_; clear Z Y))
   all_goals (refine S.g rfl rfl fun Y Z => ?_; simp only [zz, reduceIte, Nat.reduceEqDiff, Nat.reduceAdd, f0, f3, f4, f18, f24]; refine Z _ _ ?_; clear Z Y)
   all_goals iterate 3 (first | (refine S.y rfl rfl rfl rfl fun Y Z => ?_; simp only [zz, reduceIte, Nat.reduceEqDiff, Nat.reduceAdd, f0, f3, f4, f18, f24]; refine Z _ _ ?_; clear Z Y) | ((first | refine S.x rfl rfl rfl rfl fun Y Z => ?_ | refine S.u rfl rfl rfl rfl fun Y Z => ?_); simp only [ze, reduceIte, Nat.reduceEqDiff]; refine Z _ _ ?_; clear Z Y))
   all_goals (refine S.g rfl rfl fun Y Z => ?_; simp only [zz, reduceIte, Nat.reduceEqDiff, Nat.reduceAdd, f0, f3, f4, f18, f24]; refine Z _ _ ?_; clear Z Y)
   all_goals refine S.nil ?_
   all_goals simp only [ze, reduceIte, Nat.reduceEqDiff, Nat.reduceLT, Nat.reduceLeDiff, Nat.reduceAdd, reduceCtorEq, Nat.reduceMul, f0, f3, f4, f18, f24]
   all_goals apply_assumption
   refine AW.cond (b := true) (by simp [ev]; try omega) (fun hc => ?_) (fun hc => by cases hc)
   all_goals refine AW.reg0 ?_
   all_goals iterate 5 (refine S.g rfl rfl fun Y Z => ?_; simp only [zz, reduceIte, Nat.reduceEqDiff, Nat.reduceAdd, f0, f3, f4, f18, f24]; refine Z _ _ ?_; clear Z Y)
   all_goals (refine S.g rfl rfl fun Y Z => ?_; simp only [zz, reduceIte, Nat.reduceEqDiff, Nat.reduceLT, Nat.reduceLeDiff, Nat.reduceAdd, reduceCtorEq, Nat.reduceMul, f0, f3, f4, f18, f24]; refine (ih l3 mid (n - st) b (by omega) (by omega) (by omega) (by rw [hs3.1]; omega) (by rw [hs3.1]; omega)).to fun v σ1 hv => ?_; obtain ⟨rfl, l4, hl4, rfl⟩ := hv <;> (refine Z _ _ ?_; clear Z Y))
   all_goals refine S.nil ?_
   all_goals simp only [ze, reduceIte, Nat.reduceEqDiff, Nat.reduceLT, Nat.reduceLeDiff, Nat.reduceAdd, reduceCtorEq, Nat.reduceMul, f0, f3, f4, f18, f24]
   exact ⟨rfl, l4, hs3.trans hl4, rfl⟩
  ·refine AW.seq_k fun K23 h23 => ?_
   all_goals refine AW.reg0 ?_
   all_goals iterate 2 (refine S.g rfl rfl fun Y Z => ?_; simp only [zz, reduceIte, Nat.reduceEqDiff, Nat.reduceAdd, f0, f3, f4, f18, f24]; refine Z _ _ ?_; clear Z Y)
   all_goals (refine S.g rfl rfl fun Y Z => ?_; simp only [zz, reduceIte, Nat.reduceEqDiff, Nat.reduceLT, Nat.reduceLeDiff, Nat.reduceAdd, reduceCtorEq, Nat.reduceMul, f0, f3, f4, f18, f24]; refine S.bool fun b a208 => ?_; cases b <;> (try (exfalso; first | exact Bool.noConfusion a208 | (have h := of_decide_eq_true a208; omega) | (have h := of_decide_eq_false a208; omega))) <;> (refine Z _ _ ?_; clear Z Y))
   all_goals (refine S.g rfl rfl fun Y Z => ?_; simp only [zz, reduceIte, Nat.reduceEqDiff, Nat.reduceAdd, f0, f3, f4, f18, f24]; refine Z _ _ ?_; clear Z Y)
   all_goals iterate 3 (first | (refine S.y rfl rfl rfl rfl fun Y Z => ?_; simp only [zz, reduceIte, Nat.reduceEqDiff, Nat.reduceAdd, f0, f3, f4, f18, f24]; refine Z _ _ ?_; clear Z Y) | ((first | refine S.x rfl rfl rfl rfl fun Y Z => ?_ | refine S.u rfl rfl rfl rfl fun Y Z => ?_); simp only [ze, reduceIte, Nat.reduceEqDiff]; refine Z _ _ ?_; clear Z Y))
   all_goals (refine S.g rfl rfl fun Y Z => ?_; simp only [zz, reduceIte, Nat.reduceEqDiff, Nat.reduceAdd, f0, f3, f4, f18, f24]; refine Z _ _ ?_; clear Z Y)
   all_goals refine S.nil ?_
   all_goals simp only [ze, reduceIte, Nat.reduceEqDiff, Nat.reduceLT, Nat.reduceLeDiff, Nat.reduceAdd, reduceCtorEq, Nat.reduceMul, f0, f3, f4, f18, f24]
   all_goals apply_assumption
   refine AW.cond (b := false) (by simp [ev]; try omega) (fun hc => by cases hc) (fun hc => AW.skip ?_)
   all_goals simp only [zs, reduceIte, Nat.reduceEqDiff, Nat.reduceLT, Nat.reduceLeDiff, Nat.reduceAdd, reduceCtorEq, Nat.reduceMul]
   exact ⟨rfl, l3, hs3, rfl⟩
 ·refine AW.seq_k fun K24 h24 => ?_
  all_goals refine AW.reg0 ?_
  all_goals iterate 2 (refine S.g rfl rfl fun Y Z => ?_; simp only [zz, reduceIte, Nat.reduceEqDiff, Nat.reduceAdd, f0, f3, f4, f18, f24]; refine Z _ _ ?_; clear Z Y)
  all_goals (refine S.g rfl rfl fun Y Z => ?_; simp only [zz, reduceIte, Nat.reduceEqDiff, Nat.reduceLT, Nat.reduceLeDiff, Nat.reduceAdd, reduceCtorEq, Nat.reduceMul, f0, f3, f4, f18, f24]; refine S.bool fun b a208 => ?_; cases b <;> (try (exfalso; first | exact Bool.noConfusion a208 | (have h := of_decide_eq_true a208; omega) | (have h := of_decide_eq_false a208; omega))) <;> (refine Z _ _ ?_; clear Z Y))
  all_goals (refine S.g rfl rfl fun Y Z => ?_; simp only [zz, reduceIte, Nat.reduceEqDiff, Nat.reduceAdd, f0, f3, f4, f18, f24]; refine Z _ _ ?_; clear Z Y)
  all_goals iterate 3 (first | (refine S.y rfl rfl rfl rfl fun Y Z => ?_; simp only [zz, reduceIte, Nat.reduceEqDiff, Nat.reduceAdd, f0, f3, f4, f18, f24]; refine Z _ _ ?_; clear Z Y) | ((first | refine S.x rfl rfl rfl rfl fun Y Z => ?_ | refine S.u rfl rfl rfl rfl fun Y Z => ?_); simp only [ze, reduceIte, Nat.reduceEqDiff]; refine Z _ _ ?_; clear Z Y))
  all_goals (refine S.g rfl rfl fun Y Z => ?_; simp only [zz, reduceIte, Nat.reduceEqDiff, Nat.reduceAdd, f0, f3, f4, f18, f24]; refine Z _ _ ?_; clear Z Y)
  all_goals refine S.nil ?_
  all_goals simp only [ze, reduceIte, Nat.reduceEqDiff, Nat.reduceLT, Nat.reduceLeDiff, Nat.reduceAdd, reduceCtorEq, Nat.reduceMul, f0, f3, f4, f18, f24]
  all_goals apply_assumption
  refine AW.cond (b := false) (by simp [ev]; try omega) (fun hc => by cases hc) (fun hc => AW.skip ?_)
  all_goals simp only [zs, reduceIte, Nat.reduceEqDiff, Nat.reduceLT, Nat.reduceLeDiff, Nat.reduceAdd, reduceCtorEq, Nat.reduceMul]
  exact ⟨rfl, l3, hs3, rfl⟩
end Go.Abs.MX
namespace Go.Abs.MX
open Go Go.Abs Go.Proofs Go.Abs.M
set_option maxRecDepth 20000
set_option linter.unusedSimpArgs false
set_option linter.unusedVariables false
theorem sink_subx (lo : Nat) : ∀ (j : Nat) (l0 l : List Bd), Sub l0 l → Sub l0 (sink lo j l) := by
  intro j
  induction j with
  | zero => exact fun _ _ h => h
  | succ j ih =>
    intro l0 l h
    simp only [sink]
    split
    · rename_i x y hx hy
      split
      · exact ih l0 _ (h.swap hx hy)
      · exact h
    · exact h
theorem insFrom_subx (lo : Nat) : ∀ (m i : Nat) (l0 l : List Bd), Sub l0 l → Sub l0 (insFrom lo l i m) := by
  intro m
  induction m with
  | zero => exact fun _ _ _ h => h
  | succ m ih =>
    intro i l0 l h
    simp only [insFrom, List.range'_succ, List.foldl_cons]
    exact ih (i + 1) l0 _ (sink_subx lo i l0 l h)
theorem insort_subx (lo hi : Nat) (l : List Bd) : Sub l (insort lo hi l) := insFrom_subx lo _ _ l l (Sub.refl l)
theorem stable_x (l0 : List Bd) (k : Nat) (hn : l0.length < 2147483648) :
  ACalls Tryz.prog 46 [.gl k, .c (.int .i64 l0.length), .fn (.func 24) [] []] (hpB k l0) (hpS k l0) := by
 refine ACalls.intro Tryz.call46 Tryz.func46 rfl Tryz.ntmps46 Tryz.results46 (by simp) ?_
 refine AW.seq_k fun K1 h1 => ?_
 refine AW.reg0 ?_
 (refine S.g rfl rfl fun Y Z => ?_; simp only [zz, reduceIte, Nat.reduceEqDiff, Nat.reduceAdd]; refine Z _ _ ?_; clear Z Y)
 refine S.nil ?_
 simp only [ze, reduceIte, Nat.reduceEqDiff, Nat.reduceLeDiff, Nat.reduceAdd]
 apply_assumption
 refine AW.seq_k fun K2 h2 => ?_
 refine AW.reg0 ?_
 iterate 3 (refine S.g rfl rfl fun Y Z => ?_; simp only [zz, reduceIte, Nat.reduceEqDiff, Nat.reduceAdd]; refine Z _ _ ?_; clear Z Y)
 refine S.nil ?_
 simp only [ze, reduceIte, Nat.reduceEqDiff, Nat.reduceLeDiff, Nat.reduceAdd]
 apply_assumption
 refine AW.seq_j (fun s σ => ∃ a l', a ≤ l0.length ∧ s.t 0 = .gl k ∧ s.t 1 = .c (.int .i64 l0.length) ∧ s.t 2 = .fn (.func 24) [] [] ∧ s.t 6 = .c (.int .i64 ((20 : Nat) : Int)) ∧ s.t 7 = .c (.int .i64 (a : Nat)) ∧ σ = hpB k l' ∧ Sub l0 l') ?_ ?_
 ·refine AW.block ?_   -- 0
  refine AW.loop (fun m s σ => ∃ a b l', m + a = l0.length ∧ b = a + 20 ∧ s.t 0 = .gl k ∧ s.t 1 = .c (.int .i64 l0.length) ∧ s.t 2 = .fn (.func 24) [] [] ∧ s.t 6 = .c (.int .i64 ((20 : Nat) : Int)) ∧ s.t 7 = .c (.int .i64 (a : Nat)) ∧ s.t 8 = .c (.int .i64 (b : Nat)) ∧ σ = hpB k l' ∧ Sub l0 l') l0.length ?_ ?_
  ·refine ⟨0, 20, l0, rfl, rfl, ?_⟩
   simp only [zs, reduceIte, Nat.reduceEqDiff, Nat.reduceLeDiff, Nat.reduceAdd]
   exact ⟨rfl, rfl, rfl, rfl, fun _ h => h⟩
  rintro m s σ ⟨a, b, l', hm, hab, e0, e1, e2, e6, e7, e8, rfl, hs⟩
  refine AW.seq_k fun K3 h3 => ?_
  refine AW.seq_k fun K4 h4 => ?_
  refine AW.reg0 ?_
  iterate 3 (refine S.g rfl rfl fun Y Z => ?_; simp only [zz, reduceIte, Nat.reduceEqDiff, Nat.reduceAdd, e1, e8]; refine Z _ _ ?_; clear Z Y)
  refine S.nil ?_
  simp only [ze, reduceIte, Nat.reduceEqDiff, Nat.reduceLeDiff, Nat.reduceAdd, e1, e8]
  apply_assumption
  refine AW.cond (b := decide (b ≤ l0.length)) (by simp [ev]) (fun hc => ?_) (fun hc => ?_)
  ·have hc := of_decide_eq_true hc
   refine AW.skip ?_
   simp only [zs, reduceIte, Nat.reduceEqDiff, Nat.reduceLeDiff, Nat.reduceAdd]
   apply_assumption
   have hw : IntKind.i64.wrap ((b : Int) + (20 : Nat)) = ((b + 20 : Nat) : Int) := by rw [wrap_small _ (by omega) (by omega)]; rfl
   refine AW.block ?_   -- 1
   refine AW.seq_k fun K5 h5 => ?_
   refine AW.reg0 ?_
   iterate 4 (refine S.g rfl rfl fun Y Z => ?_; simp only [zz, reduceIte, Nat.reduceEqDiff, Nat.reduceAdd, e0, e2, e7, e8]; refine Z _ _ ?_; clear Z Y)
   (refine S.g rfl rfl fun Y Z => ?_; simp only [zz, reduceIte, Nat.reduceEqDiff, Nat.reduceLeDiff, Nat.reduceAdd, e0, e2, e7, e8]; refine (insort_x l' k a b (by omega) (by rw [hs.1]; omega) (by rw [hs.1]; omega)).to fun v σ1 hv => ?_; obtain ⟨rfl, rfl⟩ := hv <;> (refine Z _ _ ?_; clear Z Y))
   refine S.nil ?_
   simp only [ze, reduceIte, Nat.reduceEqDiff, Nat.reduceLeDiff, Nat.reduceAdd, e0, e2, e7, e8]
   apply_assumption
   refine AW.seq_k fun K6 h6 => ?_
   refine AW.reg0 ?_
   iterate 2 (refine S.g rfl rfl fun Y Z => ?_; simp only [zz, reduceIte, Nat.reduceEqDiff, Nat.reduceAdd, e8]; refine Z _ _ ?_; clear Z Y)
   refine S.nil ?_
   simp only [ze, reduceIte, Nat.reduceEqDiff, Nat.reduceLeDiff, Nat.reduceAdd, e8]
   apply_assumption
   refine AW.reg0 ?_
   iterate 4 (refine S.g rfl rfl fun Y Z => ?_; simp only [zz, reduceIte, Nat.reduceEqDiff, Nat.reduceAdd, e8, e6, hw]; refine Z _ _ ?_; clear Z Y)
   refine S.nil ?_
   simp only [ze, reduceIte, Nat.reduceEqDiff, Nat.reduceLeDiff, Nat.reduceAdd, e8, e6, hw]
   exact ⟨m - 20, by omega, b, b + 20, _, by omega, rfl, e0, e1, e2, rfl, rfl, rfl, hs.trans (insort_subx a b l')⟩
  ·have hc := of_decide_eq_false hc
   refine AW.exit ?_
   simp only [zs, reduceIte, Nat.reduceEqDiff, Nat.reduceLeDiff, Nat.reduceAdd]
   exact ⟨a, l', by omega, e0, e1, e2, e6, e7, rfl, hs⟩
 rintro s0 σ0 ⟨a, l', ha, e0, e1, e2, e6, e7, rfl, hs⟩
 refine AW.seq_k fun K7 h7 => ?_
 refine AW.reg0 ?_
 iterate 4 (refine S.g rfl rfl fun Y Z => ?_; simp only [zz, reduceIte, Nat.reduceEqDiff, Nat.reduceAdd, e0, e1, e2, e7]; refine Z _ _ ?_; clear Z Y)
 (refine S.g rfl rfl fun Y Z => ?_; simp only [zz, reduceIte, Nat.reduceEqDiff, Nat.reduceLeDiff, Nat.reduceAdd, e0, e1, e2, e7]; refine (insort_x l' k a l0.length (by omega) (by rw [hs.1]; omega) (by rw [hs.1]; omega)).to fun v σ1 hv => ?_; obtain ⟨rfl, rfl⟩ := hv <;> (refine Z _ _ ?_; clear Z Y))
 refine S.nil ?_
 simp only [ze, reduceIte, Nat.reduceEqDiff, Nat.reduceLeDiff, Nat.reduceAdd, e0, e1, e2, e7]
 apply_assumption
 have hs2 := hs.trans (insort_subx a l0.length l')
 generalize insort a l0.length l' = l1 at hs2 ⊢
 clear hs
 refine AW.block ?_   -- 2
 refine AW.loop (fun m s σ => ∃ c l', m = l0.length - c ∧ 20 ≤ c ∧ c < 4294967296 ∧ s.t 0 = .gl k ∧ s.t 1 = .c (.int .i64 l0.length) ∧ s.t 2 = .fn (.func 24) [] [] ∧ s.t 6 = .c (.int .i64 (c : Nat)) ∧ σ = hpB k l' ∧ Sub l0 l') (l0.length - 20) ?_ ?_
 ·refine ⟨20, l1, rfl, by omega, by omega, ?_⟩
  simp only [zs, reduceIte, Nat.reduceEqDiff, Nat.reduceLeDiff, Nat.reduceAdd]
  exact ⟨e0, e1, e2, e6, hs2⟩
 clear e0 e1 e2 e6 e7 hs2 ha
 rintro m s σ ⟨c, l', hm, hc1, hc2, e0, e1, e2, e6, rfl, hs⟩
 refine AW.seq_k fun K8 h8 => ?_
 refine AW.seq_k fun K9 h9 => ?_
 refine AW.reg0 ?_
 iterate 3 (refine S.g rfl rfl fun Y Z => ?_; simp only [zz, reduceIte, Nat.reduceEqDiff, Nat.reduceAdd, e1, e6]; refine Z _ _ ?_; clear Z Y)
 refine S.nil ?_
 simp only [ze, reduceIte, Nat.reduceEqDiff, Nat.reduceLeDiff, Nat.reduceAdd, e1, e6]
 apply_assumption
 refine AW.cond (b := decide (c < l0.length)) (by simp [ev]) (fun hc => ?_) (fun hc => ?_)
 ·have hc := of_decide_eq_true hc
  refine AW.skip ?_
  simp only [zs, reduceIte, Nat.reduceEqDiff, Nat.reduceLeDiff, Nat.reduceAdd]
  apply_assumption
  have hw : IntKind.i64.wrap (2 * (c : Int)) = ((2 * c : Nat) : Int) := by rw [wrap_small _ (by omega) (by omega)]; rfl
  have hw' : IntKind.i64.wrap ((c : Int) * 2) = ((2 * c : Nat) : Int) := by rw [wrap_small _ (by omega) (by omega)]; omega
  refine AW.block ?_   -- 3
  refine AW.seq_k fun K10 h10 => ?_
  refine AW.reg0 ?_
  iterate 4 (refine S.g rfl rfl fun Y Z => ?_; simp only [zz, reduceIte, Nat.reduceEqDiff, Nat.reduceAdd, e6, hw]; refine Z _ _ ?_; clear Z Y)
  refine S.nil ?_
  simp only [ze, reduceIte, Nat.reduceEqDiff, Nat.reduceLeDiff, Nat.reduceAdd, e6, hw]
  apply_assumption
  refine AW.seq_j (fun s σ => ∃ a l', a ≤ l0.length ∧ s.t 0 = .gl k ∧ s.t 1 = .c (.int .i64 l0.length) ∧ s.t 2 = .fn (.func 24) [] [] ∧ s.t 6 = .c (.int .i64 (c : Nat)) ∧ s.t 7 = .c (.int .i64 (a : Nat)) ∧ σ = hpB k l' ∧ Sub l0 l') ?_ ?_
  ·refine AW.block ?_   -- 4
   refine AW.loop (fun m s σ => ∃ a b l', m + a = l0.length ∧ b = a + 2 * c ∧ s.t 0 = .gl k ∧ s.t 1 = .c (.int .i64 l0.length) ∧ s.t 2 = .fn (.func 24) [] [] ∧ s.t 6 = .c (.int .i64 (c : Nat)) ∧ s.t 7 = .c (.int .i64 (a : Nat)) ∧ s.t 8 = .c (.int .i64 (b : Nat)) ∧ σ = hpB k l' ∧ Sub l0 l') l0.length ?_ ?_
   ·refine ⟨0, 2 * c, l', rfl, by omega, ?_⟩
    simp only [zs, reduceIte, Nat.reduceEqDiff, Nat.reduceLeDiff, Nat.reduceAdd]
    exact ⟨e0, e1, e2, e6, rfl, hs⟩
   clear hs e0 e1 e2 e6
   rintro m s σ ⟨a, b, l', hm, hab, e0, e1, e2, e6, e7, e8, rfl, hs⟩
   refine AW.seq_k fun K11 h11 => ?_
   refine AW.seq_k fun K12 h12 => ?_
   refine AW.reg0 ?_
   iterate 3 (refine S.g rfl rfl fun Y Z => ?_; simp only [zz, reduceIte, Nat.reduceEqDiff, Nat.reduceAdd, e1, e8]; refine Z _ _ ?_; clear Z Y)
   refine S.nil ?_
   simp only [ze, reduceIte, Nat.reduceEqDiff, Nat.reduceLeDiff, Nat.reduceAdd, e1, e8]
   apply_assumption
   refine AW.cond (b := decide (b ≤ l0.length)) (by simp [ev]) (fun hc => ?_) (fun hc => ?_)
   ·have hc := of_decide_eq_true hc
    refine AW.skip ?_
    simp only [zs, reduceIte, Nat.reduceEqDiff, Nat.reduceLeDiff, Nat.reduceAdd]
    apply_assumption
    have hw3 : IntKind.i64.wrap ((a : Int) + c) = ((a + c : Nat) : Int) := by rw [wrap_small _ (by omega) (by omega)]; rfl
    have hw4 : IntKind.i64.wrap ((b : Int) + (2 * c : Nat)) = ((b + 2 * c : Nat) : Int) := by rw [wrap_small _ (by omega) (by omega)]; rfl
    refine AW.block ?_   -- 5
    refine AW.seq_k fun K13 h13 => ?_
    refine AW.reg0 ?_
    iterate 7 (refine S.g rfl rfl fun Y Z => ?_; simp only [zz, reduceIte, Nat.reduceEqDiff, Nat.reduceAdd, e0, e2, e6, e7, e8, hw3]; refine Z _ _ ?_; clear Z Y)
    (refine S.g rfl rfl fun Y Z => ?_; simp only [zz, reduceIte, Nat.reduceEqDiff, Nat.reduceLeDiff, Nat.reduceAdd, e0, e2, e6, e7, e8, hw3]; refine (sym_x k (b - a) l' a (a + c) b (by omega) (by omega) (by omega) (by rw [hs.1]; omega) (by rw [hs.1]; omega)).to fun v σ1 hv => ?_; obtain ⟨rfl, l3, hl3, rfl⟩ := hv <;> (refine Z _ _ ?_; clear Z Y))
    refine S.nil ?_
    simp only [ze, reduceIte, Nat.reduceEqDiff, Nat.reduceLeDiff, Nat.reduceAdd, e0, e2, e6, e7, e8, hw3]
    apply_assumption
    refine AW.seq_k fun K14 h14 => ?_
    refine AW.reg0 ?_
    iterate 2 (refine S.g rfl rfl fun Y Z => ?_; simp only [zz, reduceIte, Nat.reduceEqDiff, Nat.reduceAdd, e8]; refine Z _ _ ?_; clear Z Y)
    refine S.nil ?_
    simp only [ze, reduceIte, Nat.reduceEqDiff, Nat.reduceLeDiff, Nat.reduceAdd, e8]
    apply_assumption
    refine AW.reg0 ?_
    iterate 5 (refine S.g rfl rfl fun Y Z => ?_; simp only [zz, reduceIte, Nat.reduceEqDiff, Nat.reduceAdd, e8, e6, hw, hw4]; refine Z _ _ ?_; clear Z Y)
    refine S.nil ?_
    simp only [ze, reduceIte, Nat.reduceEqDiff, Nat.reduceLeDiff, Nat.reduceAdd, e8, e6, hw, hw4]
    exact ⟨m - 2 * c, by omega, b, b + 2 * c, _, by omega, rfl, e0, e1, e2, rfl, rfl, rfl, hs.trans hl3⟩
   ·have hc := of_decide_eq_false hc
    refine AW.exit ?_
    simp only [zs, reduceIte, Nat.reduceEqDiff, Nat.reduceLeDiff, Nat.reduceAdd]
    exact ⟨a, l', by omega, e0, e1, e2, e6, e7, rfl, hs⟩
  clear hs e0 e1 e2 e6
  rintro s0 σ0 ⟨a, l', ha, e0, e1, e2, e6, e7, rfl, hs⟩
  have hw3 : IntKind.i64.wrap ((a : Int) + c) = ((a + c : Nat) : Int) := by rw [wrap_small _ (by omega) (by omega)]; rfl
  refine AW.seq_k fun K15 h15 => ?_
  refine AW.seq_k fun K16 h16 => ?_
  refine AW.reg0 ?_
  iterate 4 (refine S.g rfl rfl fun Y Z => ?_; simp only [zz, reduceIte, Nat.reduceEqDiff, Nat.reduceAdd, e6, e7, hw3]; refine Z _ _ ?_; clear Z Y)
  refine S.nil ?_
  simp only [ze, reduceIte, Nat.reduceEqDiff, Nat.reduceLeDiff, Nat.reduceAdd, e6, e7, hw3]
  apply_assumption
  refine AW.seq_k fun K17 h17 => ?_
  refine AW.reg0 ?_
  iterate 3 (refine S.g rfl rfl fun Y Z => ?_; simp only [zz, reduceIte, Nat.reduceEqDiff, Nat.reduceAdd, e1]; refine Z _ _ ?_; clear Z Y)
  refine S.nil ?_
  simp only [ze, reduceIte, Nat.reduceEqDiff, Nat.reduceLeDiff, Nat.reduceAdd, e1]
  apply_assumption
  refine AW.cond (b := decide (a + c < l0.length)) (by simp [ev]) (fun hd => ?_) (fun hd => ?_)
  ·have hd := of_decide_eq_true hd
   refine AW.reg0 ?_
   iterate 5 (refine S.g rfl rfl fun Y Z => ?_; simp only [zz, reduceIte, Nat.reduceEqDiff, Nat.reduceAdd, e0, e1, e2, e7]; refine Z _ _ ?_; clear Z Y)
   (refine S.g rfl rfl fun Y Z => ?_; simp only [zz, reduceIte, Nat.reduceEqDiff, Nat.reduceLeDiff, Nat.reduceAdd, e0, e1, e2, e7]; refine (sym_x k (l0.length - a) l' a (a + c) l0.length (by omega) (by omega) (by omega) (by rw [hs.1]; omega) (by rw [hs.1]; omega)).to fun v σ1 hv => ?_; obtain ⟨rfl, l3, hl3, rfl⟩ := hv <;> (refine Z _ _ ?_; clear Z Y))
   refine S.nil ?_
   simp only [ze, reduceIte, Nat.reduceEqDiff, Nat.reduceLeDiff, Nat.reduceAdd, e0, e1, e2, e7]
   apply_assumption
   refine AW.reg0 ?_
   iterate 3 (refine S.g rfl rfl fun Y Z => ?_; simp only [zz, reduceIte, Nat.reduceEqDiff, Nat.reduceAdd, e6, hw']; refine Z _ _ ?_; clear Z Y)
   refine S.nil ?_
   simp only [ze, reduceIte, Nat.reduceEqDiff, Nat.reduceLeDiff, Nat.reduceAdd, e6, hw']
   exact ⟨m - c, by omega, 2 * c, _, by omega, by omega, by omega, e0, e1, e2, rfl, rfl, hs.trans hl3⟩
  ·refine AW.skip ?_
   simp only [zs, reduceIte, Nat.reduceEqDiff, Nat.reduceLeDiff, Nat.reduceAdd]
   apply_assumption
   refine AW.reg0 ?_
   iterate 3 (refine S.g rfl rfl fun Y Z => ?_; simp only [zz, reduceIte, Nat.reduceEqDiff, Nat.reduceAdd, e6, hw']; refine Z _ _ ?_; clear Z Y)
   refine S.nil ?_
   simp only [ze, reduceIte, Nat.reduceEqDiff, Nat.reduceLeDiff, Nat.reduceAdd, e6, hw']
   exact ⟨m - c, by omega, 2 * c, _, by omega, by omega, by omega, e0, e1, e2, rfl, rfl, hs⟩
 ·refine AW.exit ?_
  simp only [zs, reduceIte, Nat.reduceEqDiff, Nat.reduceLeDiff, Nat.reduceAdd]
  exact ⟨rfl, l', hs, rfl⟩
theorem sort_x (l : List Bd) (k : Nat) (hn : l.length < 2147483648) :
    ACalls Tryz.prog 23 [.gl k, .fn (.func 24) [] []] (hpB k l) (hpS k l) := by
  refine ACalls.intro Tryz.call23 Tryz.func23 rfl Tryz.ntmps23 Tryz.results23 (by simp) ?_
  have hpb : (hpB k l).gr k = some ((38, 6), l.map encBd) := by simp [hpB]
  refine AW.mono (Q := thenS (fun s' σ' => ∃ l', Sub l l' ∧ σ' = hpB k l') (fun _ _ _ => False)) ?_ ?_
  · clear hpb; unfold hpB
    refine AW.reg0 ?_
    iterate 4 (refine S.g rfl rfl fun Y Z => ?_; simp only [zz, reduceIte, Nat.reduceEqDiff, Nat.reduceLeDiff, Nat.reduceAdd, sl22, el22, ok38, sz38, ag38]; refine Z _ _ ?_; clear Z Y)
    (refine S.g rfl rfl fun Y Z => ?_; simp only [zz, reduceIte, Nat.reduceEqDiff, Nat.reduceLeDiff, Nat.reduceAdd]; refine (stable_x l k (by omega)).to fun v σ1 hv => ?_; obtain ⟨rfl, l2, hl2, rfl⟩ := hv <;> (refine Z _ _ ?_; clear Z Y))
    refine S.nil ?_
    simp only [ze, reduceIte, Nat.reduceEqDiff, Nat.reduceLeDiff, Nat.reduceAdd]
    exact ⟨l2, hl2, rfl⟩
  rintro e s σ hq
  cases e with
  | normal =>
    obtain ⟨l2, hl2, rfl⟩ : ∃ l', Sub l l' ∧ σ = hpB k l' := hq
    simp only [zs, reduceIte, Nat.reduceEqDiff, Nat.reduceLeDiff, Nat.reduceAdd]
    exact ⟨rfl, l2, hl2, rfl⟩
  | _ => exact hq.elim
end Go.Abs.MX
namespace Go.Abs.M
open Go Go.Abs Go.Proofs
set_option maxRecDepth 20000
set_option linter.unusedSimpArgs false
set_option linter.unusedVariables false
/-- One round of the insertion sort: the element at j goes down to where it belongs. -/
def sink (lo : Nat) : Nat → List Bd → List Bd
  | 0, l => l
  | j + 1, l => match l[j + 1]?, l[j]? with
    | some x, some y => if lo < j + 1 ∧ cmpS x.var y.var < 0 then sink lo j ((l.set (j + 1) y).set j x) else l
    | _, _ => l
def insFrom (lo : Nat) (l : List Bd) (i m : Nat) : List Bd := (List.range' i m).foldl (fun l i => sink lo i l) l
def insort (lo hi : Nat) (l : List Bd) : List Bd := insFrom lo l (lo + 1) (hi - (lo + 1))
/-- The sort of rows whose attributes may be anything, at rows that nobody writes. -/
def toX (b : Bd) : MX.Bd := ⟨b, .sl (b.ev.attrs.map encAttr), rfl, rfl⟩
theorem toX_map (l : List Bd) : (l.map toX).map MX.encBd = l.map encBd := by rw [List.map_map]; rfl
theorem toX_hp (k : Nat) (l : List Bd) : MX.hpB k (l.map toX) = hpB k l := by rw [MX.hpB, toX_map, hpB]
theorem toX_sink (lo : Nat) : ∀ (j : Nat) (l : List Bd), MX.sink lo j (l.map toX) = (sink lo j l).map toX
  | 0, l => rfl
  | j + 1, l => by
    simp only [MX.sink, sink, List.getElem?_map]
    cases l[j + 1]? with
    | none => rfl
    | some x =>
      cases l[j]? with
      | none => rfl
      | some y =>
        simp only [Option.map_some]
        show (if lo < j + 1 ∧ cmpS x.var y.var < 0 then _ else _) = _
        split
        · rw [← List.map_set, ← List.map_set]; exact toX_sink lo j _
        · rfl
theorem toX_ins (lo hi : Nat) (l : List Bd) : MX.insort lo hi (l.map toX) = (insort lo hi l).map toX := by
 simp only [MX.insort, insort, MX.insFrom, insFrom]
 generalize List.range' (lo + 1) (hi - (lo + 1)) = r
 induction r generalizing l with
 | nil => rfl
 | cons i r ih => simp only [List.foldl_cons]; rw [toX_sink, ih]
theorem insort_spec (l : List Bd) (k lo hi : Nat) (hlo : lo ≤ hi) (hhi : hi ≤ l.length) (hn : l.length < 4611686018427387904) :
  ACalls Tryz.prog 73 [.gl k, .c (.int .i64 lo), .c (.int .i64 hi), .fn (.func 24) [] []] (hpB k l) (fun v σ' => v = .tup [] ∧ σ' = hpB k (insort lo hi l)) := by
 have h := MX.insort_x (l.map toX) k lo hi hlo (by rw [List.length_map]; exact hhi) (by rw [List.length_map]; exact hn)
 rw [toX_hp] at h
 exact h.mono fun v σ' hv => ⟨hv.1, by rw [hv.2, toX_ins, toX_hp]⟩
end Go.Abs.M
namespace Go.Abs.M
open Go Go.Abs Go.Proofs
set_option maxRecDepth 20000
set_option linter.unusedSimpArgs false
set_option linter.unusedVariables false
theorem stable_small (l : List Bd) (k : Nat) (hn : l.length < 20) :
  ACalls Tryz.prog 46 [.gl k, .c (.int .i64 l.length), .fn (.func 24) [] []] (hpB k l) (fun v σ' => v = .tup [] ∧ σ' = hpB k (insort 0 l.length l)) := by
 refine ACalls.intro Tryz.call46 Tryz.func46 rfl Tryz.ntmps46 Tryz.results46 (by simp) ?_
 refine AW.seq_k fun K1 h1 => ?_
 refine AW.reg0 ?_
 (refine S.g rfl rfl fun Y Z => ?_; simp only [zz, reduceIte, Nat.reduceEqDiff, Nat.reduceAdd]; refine Z _ _ ?_; clear Z Y)
 refine S.nil ?_
 simp only [ze, reduceIte, Nat.reduceEqDiff, Nat.reduceLeDiff, Nat.reduceAdd]
 apply_assumption
 refine AW.seq_k fun K2 h2 => ?_
 refine AW.reg0 ?_
 iterate 3 (refine S.g rfl rfl fun Y Z => ?_; simp only [zz, reduceIte, Nat.reduceEqDiff, Nat.reduceAdd]; refine Z _ _ ?_; clear Z Y)
 refine S.nil ?_
 simp only [ze, reduceIte, Nat.reduceEqDiff, Nat.reduceLeDiff, Nat.reduceAdd]
 apply_assumption
 refine AW.seq_k fun K3 h3 => ?_
 refine AW.block ?_   -- 0
 refine AW.loop (fun m s σ => σ = hpB k l ∧ s.t 0 = .gl k ∧ s.t 1 = .c (.int .i64 l.length) ∧ s.t 2 = .fn (.func 24) [] [] ∧ s.t 6 = .c (.int .i64 20) ∧ s.t 7 = .c (.int .i64 ((0 : Nat) : Int)) ∧ s.t 8 = .c (.int .i64 20)) 0 ?_ ?_
 ·refine ⟨rfl, ?_⟩
  simp only [zs, reduceIte, Nat.reduceEqDiff, Nat.reduceLeDiff, Nat.reduceAdd]
  simp
 rintro m s σ ⟨rfl, e0, e1, e2, e6, e7, e8⟩
 refine AW.seq_k fun K4 h4 => ?_
 refine AW.seq_k fun K5 h5 => ?_
 refine AW.reg0 ?_
 iterate 3 (refine S.g rfl rfl fun Y Z => ?_; simp only [zz, reduceIte, Nat.reduceEqDiff, Nat.reduceAdd, e1, e8]; refine Z _ _ ?_; clear Z Y)
 refine S.nil ?_
 simp only [ze, reduceIte, Nat.reduceEqDiff, Nat.reduceLeDiff, Nat.reduceAdd, e1, e8]
 apply_assumption
 refine AW.cond (b := decide ((20 : Int) ≤ l.length)) (by simp [ev]) (fun hc => ?_) (fun hc => ?_)
 ·have := of_decide_eq_true hc; omega
 refine AW.exit ?_
 simp only [zs, reduceIte, Nat.reduceEqDiff, Nat.reduceLeDiff, Nat.reduceAdd]
 apply_assumption
 refine AW.seq_k fun K6 h6 => ?_
 refine AW.reg0 ?_
 iterate 4 (refine S.g rfl rfl fun Y Z => ?_; simp only [zz, reduceIte, Nat.reduceEqDiff, Nat.reduceAdd, e0, e1, e2, e7]; refine Z _ _ ?_; clear Z Y)
 (refine S.g rfl rfl fun Y Z => ?_; simp only [zz, reduceIte, Nat.reduceEqDiff, Nat.reduceLeDiff, Nat.reduceAdd, e0, e1, e2, e7]; refine (insort_spec l k 0 l.length (Nat.zero_le _) (Nat.le_refl _) (by omega)).to fun v σ1 hv => ?_; obtain ⟨rfl, rfl⟩ := hv <;> (refine Z _ _ ?_; clear Z Y))
 refine S.nil ?_
 simp only [ze, reduceIte, Nat.reduceEqDiff, Nat.reduceLeDiff, Nat.reduceAdd, e0, e1, e2, e7]
 apply_assumption
 refine AW.block ?_   -- 2
 refine AW.loop (fun m s σ => σ = hpB k (insort 0 l.length l) ∧ s.t 1 = .c (.int .i64 l.length) ∧ s.t 6 = .c (.int .i64 20)) 0 ?_ ?_
 ·refine ⟨rfl, ?_⟩
  simp only [zs, reduceIte, Nat.reduceEqDiff, Nat.reduceLeDiff, Nat.reduceAdd]
  first | exact ⟨e1, e6⟩ | exact ⟨e1, e6, trivial⟩ | simp [e1, e6]
 rintro m2 s2 σ2 ⟨rfl, f1, f6⟩
 refine AW.seq_k fun K7 h7 => ?_
 refine AW.seq_k fun K8 h8 => ?_
 refine AW.reg0 ?_
 iterate 3 (refine S.g rfl rfl fun Y Z => ?_; simp only [zz, reduceIte, Nat.reduceEqDiff, Nat.reduceAdd, f1, f6]; refine Z _ _ ?_; clear Z Y)
 refine S.nil ?_
 simp only [ze, reduceIte, Nat.reduceEqDiff, Nat.reduceLeDiff, Nat.reduceAdd, f1, f6]
 apply_assumption
 refine AW.cond (b := decide ((20 : Int) < l.length)) (by simp [ev]) (fun hc => ?_) (fun hc => ?_)
 ·have := of_decide_eq_true hc; omega
 refine AW.exit ?_
 simp only [zs, reduceIte, Nat.reduceEqDiff, Nat.reduceLeDiff, Nat.reduceAdd]
 first | exact ⟨rfl, rfl⟩ | rfl
end Go.Abs.M
namespace Go.Abs.M
open Go Go.Abs Go.Proofs
set_option maxRecDepth 20000
set_option linter.unusedSimpArgs false
set_option linter.unusedVariables false
theorem sort_small (l : List Bd) (k : Nat) (hn : l.length < 20) :
    ACalls Tryz.prog 23 [.gl k, .fn (.func 24) [] []] (hpB k l) (fun v σ' => v = .tup [] ∧ σ' = hpB k (insort 0 l.length l)) := by
  refine ACalls.intro Tryz.call23 Tryz.func23 rfl Tryz.ntmps23 Tryz.results23 (by simp) ?_
  have hpb : (hpB k l).gr k = some ((38, 6), l.map encBd) := by simp [hpB]
  refine AW.mono (Q := thenS (fun s' σ' => σ' = hpB k (insort 0 l.length l)) (fun _ _ _ => False)) ?_ ?_
  · clear hpb; unfold hpB
    refine AW.reg0 ?_
    iterate 4 (refine S.g rfl rfl fun Y Z => ?_; simp only [zz, reduceIte, Nat.reduceEqDiff, Nat.reduceLeDiff, Nat.reduceAdd, sl22, el22, ok38, sz38, ag38]; refine Z _ _ ?_; clear Z Y)
    (refine S.g rfl rfl fun Y Z => ?_; simp only [zz, reduceIte, Nat.reduceEqDiff, Nat.reduceLeDiff, Nat.reduceAdd]; refine (stable_small l k hn).to fun v σ1 hv => ?_; obtain ⟨rfl, rfl⟩ := hv <;> (refine Z _ _ ?_; clear Z Y))
    refine S.nil ?_
    simp only [ze, reduceIte, Nat.reduceEqDiff, Nat.reduceLeDiff, Nat.reduceAdd]
    rfl
  rintro e s σ hq
  cases e with
  | normal =>
    have hq : σ = hpB k (insort 0 l.length l) := hq
    subst hq
    simp only [zs, reduceIte, Nat.reduceEqDiff, Nat.reduceLeDiff, Nat.reduceAdd]
    first | exact ⟨rfl, rfl⟩ | rfl
  | _ => exact hq.elim
end Go.Abs.M
namespace Go.Abs.M
open Go Go.Abs Go.Proofs
set_option maxRecDepth 20000
set_option linter.unusedSimpArgs false
set_option linter.unusedVariables false
theorem concat_frozen (ls : List (List Bd)) (h0 : ls ≠ []) (hn : ls.length < 4611686018427387904) (ht : tot ls * 80 ≤ 140737488355328) :
  PCalls Tryz.prog 22 [.sl (ls.map encL)] (fun v => v = .sl (ls.flatten.map encBd)) := by
 refine PCalls.intro Tryz.call22 Tryz.func22 rfl Tryz.ntmps22 Tryz.results22 (by simp) ?_
 refine AW.seq_k fun K1 h1 => ?_
 refine AW.reg0 ?_
 (refine S.g rfl rfl fun Y Z => ?_; simp only [zz, reduceIte, Nat.reduceEqDiff, Nat.reduceAdd]; refine Z _ _ ?_; clear Z Y)
 refine S.nil ?_
 simp only [ze, reduceIte, Nat.reduceEqDiff, Nat.reduceLeDiff, Nat.reduceAdd]
 apply_assumption
 refine AW.seq_k fun K2 h2 => ?_
 refine AW.reg0 ?_
 (refine S.g rfl rfl fun Y Z => ?_; simp only [zz, reduceIte, Nat.reduceEqDiff, Nat.reduceAdd]; refine Z _ _ ?_; clear Z Y)
 refine S.nil ?_
 simp only [ze, reduceIte, Nat.reduceEqDiff, Nat.reduceLeDiff, Nat.reduceAdd]
 apply_assumption
 refine AW.seq_j (fun s' σ' => σ' = Hp.empty ∧ s'.t 0 = .sl (ls.map encL) ∧ s'.t 3 = .c (.int .i64 (tot ls))) ?_ ?_
 ·refine AW.seq_k fun K3 h3 => ?_
  refine AW.reg0 ?_
  iterate 3 (refine S.g rfl rfl fun Y Z => ?_; simp only [zz, reduceIte, Nat.reduceEqDiff, Nat.reduceLeDiff, Nat.reduceAdd, sl90, el90, ok22, sz22, ag22]; refine Z _ _ ?_; clear Z Y)
  refine S.nil ?_
  simp only [ze, reduceIte, Nat.reduceEqDiff, Nat.reduceLeDiff, Nat.reduceAdd]
  apply_assumption
  refine AW.block ?_   -- 0
  refine AW.loop (fun m s σ => σ = Hp.empty ∧ ∃ i : Nat, m + i = ls.length ∧ s.t 0 = .sl (ls.map encL) ∧ s.t 9 = .sl (ls.map encL) ∧ s.t 10 = .c (.int .i64 ls.length) ∧ s.t 11 = .c (.int .i64 i) ∧ s.t 3 = .c (.int .i64 (tot (ls.take i)))) ls.length ?_ ?_
  ·refine ⟨rfl, 0, by simp, ?_⟩
   simp only [zs, reduceIte, Nat.reduceEqDiff, Nat.reduceLeDiff, Nat.reduceAdd]
   simp [tot]
  rintro m s σ ⟨rfl, i, hm, e0, e9, e10, e11, e3⟩
  refine AW.seq_k fun K4 h4 => ?_
  refine AW.reg0 ?_
  (refine S.g rfl rfl fun Y Z => ?_; simp only [zz, reduceIte, Nat.reduceEqDiff, Nat.reduceAdd, e10, e11]; refine Z _ _ ?_; clear Z Y)
  refine S.nil ?_
  simp only [ze, reduceIte, Nat.reduceEqDiff, Nat.reduceLeDiff, Nat.reduceAdd, e10, e11]
  apply_assumption
  refine AW.seq_k fun K5 h5 => ?_
  refine AW.cond (b := decide (i < ls.length)) (by simp [ev]) (fun hc => ?_) (fun hc => ?_)
  ·refine AW.skip ?_
   simp only [zs, reduceIte, Nat.reduceEqDiff, Nat.reduceLeDiff, Nat.reduceAdd]
   apply_assumption
   have hi : i < ls.length := by simpa using hc
   have hg := getD_map (f := encL) hi
   have htk : ls.take (i + 1) = ls.take i ++ [ls[i]] := by rw [List.take_append_getElem]
   generalize ha : ls[i] = a at hg htk
   have hle : tot (ls.take (i + 1)) ≤ tot ls := tot_take ls (i + 1)
   rw [htk, tot_snoc] at hle
   have hw : IntKind.i64.wrap ((i : Int) + 1) = ((i + 1 : Nat) : Int) := by rw [wrap_small _ (by omega) (by omega)]; rfl
   have hw2 : IntKind.i64.wrap ((tot (ls.take i) : Int) + a.length) = ((tot (ls.take i) + a.length : Nat) : Int) := by rw [wrap_small _ (by omega) (by omega)]; omega
   refine AW.seq_k fun K6 h6 => ?_
   refine AW.block ?_   -- 1
   refine AW.seq_k fun K7 h7 => ?_
   refine AW.reg0 ?_
   iterate 3 (refine S.g rfl rfl fun Y Z => ?_; simp only [zz, reduceIte, Nat.reduceEqDiff, Nat.reduceLeDiff, Nat.reduceAdd, sl90, el90, ok22, sz22, ag22, e9, e11, hi, hg, encL]; refine Z _ _ ?_; clear Z Y)
   refine S.nil ?_
   simp only [ze, reduceIte, Nat.reduceEqDiff, Nat.reduceLeDiff, Nat.reduceAdd, e9, e11, hi, hg, encL]
   apply_assumption
   refine AW.seq_k fun K8 h8 => ?_
   refine AW.reg0 ?_
   iterate 5 (refine S.g rfl rfl fun Y Z => ?_; simp only [zz, reduceIte, Nat.reduceEqDiff, Nat.reduceLeDiff, Nat.reduceAdd, sl22, el22, ok38, sz38, ag38, e3, hw2]; refine Z _ _ ?_; clear Z Y)
   refine S.nil ?_
   simp only [ze, reduceIte, Nat.reduceEqDiff, Nat.reduceLeDiff, Nat.reduceAdd, e3, hw2]
   apply_assumption
   refine AW.seq_k fun K9 h9 => ?_
   refine AW.reg0 ?_
   iterate 2 (refine S.g rfl rfl fun Y Z => ?_; simp only [zz, reduceIte, Nat.reduceEqDiff, Nat.reduceAdd]; refine Z _ _ ?_; clear Z Y)
   refine S.nil ?_
   simp only [ze, reduceIte, Nat.reduceEqDiff, Nat.reduceLeDiff, Nat.reduceAdd]
   apply_assumption
   refine AW.cond (b := decide (((tot (ls.take i) + a.length : Nat) : Int) < 0)) (by simp [ev]) (fun hc => ?_) (fun hc => ?_)
   ·have := of_decide_eq_true hc; omega
   refine AW.skip ?_
   simp only [zs, reduceIte, Nat.reduceEqDiff, Nat.reduceLeDiff, Nat.reduceAdd]
   apply_assumption
   refine AW.reg0 ?_
   iterate 2 (refine S.g rfl rfl fun Y Z => ?_; simp only [zz, reduceIte, Nat.reduceEqDiff, Nat.reduceAdd, e11, hw]; refine Z _ _ ?_; clear Z Y)
   refine S.nil ?_
   simp only [ze, reduceIte, Nat.reduceEqDiff, Nat.reduceLeDiff, Nat.reduceAdd, e11, hw]
   refine ⟨m - 1, by omega, i + 1, by omega, e0, e9, e10, rfl, ?_⟩
   rw [htk, tot_snoc]
  ·refine AW.exit ?_
   simp only [zs, reduceIte, Nat.reduceEqDiff, Nat.reduceLeDiff, Nat.reduceAdd]
   have hi : ls.length ≤ i := by simpa using hc
   rw [List.take_of_length_le hi] at e3
   exact ⟨e0, e3⟩
 rintro s0 σ0 ⟨rfl, e0, e3⟩
 refine AW.seq_j (fun s' σ' => s'.t 0 = .sl (ls.map encL) ∧ ((s'.t 6 = .c (.slice none 0 0) ∧ σ' = Hp.empty) ∨ ∃ k, s'.t 6 = .gl k ∧ σ' = Hp.empty.setGr k (some ((38, 6), [])))) ?_ ?_
 ·skip
  refine AW.region (T := { raw := fun d => d == 45 }) (fun _ _ h => by cases h) rfl ?_
  (refine S.g rfl rfl fun Y Z => ?_; simp only [zz, reduceIte, Nat.reduceEqDiff, Nat.reduceAdd, e0, e3]; refine Z _ _ ?_; clear Z Y)
  (refine S.g rfl rfl fun Y Z => ?_; simp only [zz, reduceIte, Nat.reduceEqDiff, Nat.reduceLeDiff, Nat.reduceAdd, e0, e3]; refine (grow_spec _ ht).mono fun v σ1 hv => ?_ <;> (refine Z _ _ ?_; clear Z Y))
  (refine S.g rfl rfl fun Y Z => ?_; simp only [zz, reduceIte, Nat.reduceEqDiff, Nat.reduceAdd, e0, e3]; refine Z _ _ ?_; clear Z Y)
  refine S.nil ?_
  simp only [ze, reduceIte, Nat.reduceEqDiff, Nat.reduceLeDiff, Nat.reduceAdd, e0, e3]
  rcases hv with ⟨h1, h2, _⟩ | h
  ·exact .inl ⟨h1, h2⟩
  ·exact .inr h
 rintro s1 σ1 ⟨f0, hv⟩
 refine AW.seq_k fun K10 h10 => ?_
 refine AW.seq_k fun K11 h11 => ?_
 refine AW.reg0 ?_
 iterate 3 (refine S.g rfl rfl fun Y Z => ?_; simp only [zz, reduceIte, Nat.reduceEqDiff, Nat.reduceLeDiff, Nat.reduceAdd, sl90, el90, ok22, sz22, ag22, f0]; refine Z _ _ ?_; clear Z Y)
 refine S.nil ?_
 simp only [ze, reduceIte, Nat.reduceEqDiff, Nat.reduceLeDiff, Nat.reduceAdd, f0]
 apply_assumption
 refine AW.block ?_   -- 2
 refine AW.loop (fun m s σ => ∃ i : Nat, m + i = ls.length ∧ s.t 25 = .sl (ls.map encL) ∧ s.t 26 = .c (.int .i64 ls.length) ∧ s.t 27 = .c (.int .i64 i) ∧
  ((i = 0 ∧ s.t 6 = .c (.slice none 0 0) ∧ σ = Hp.empty) ∨ ∃ k, s.t 6 = .gl k ∧ σ = Hp.empty.setGr k (some ((38, 6), (ls.take i).flatten.map encBd)))) ls.length ?_ ?_
 ·refine ⟨0, by simp, ?_⟩
  simp only [zs, reduceIte, Nat.reduceEqDiff, Nat.reduceLeDiff, Nat.reduceAdd]
  refine ⟨by simp, ?_⟩
  rcases hv with ⟨h1, h2⟩ | ⟨k, h1, h2⟩
  ·exact .inl ⟨h1, h2⟩
  ·exact .inr ⟨k, h1, by rw [h2]; rfl⟩
 rintro m s σ ⟨i, hm, e25, e26, e27, hk⟩
 refine AW.seq_k fun K12 h12 => ?_
 refine AW.reg0 ?_
 (refine S.g rfl rfl fun Y Z => ?_; simp only [zz, reduceIte, Nat.reduceEqDiff, Nat.reduceAdd, e26, e27]; refine Z _ _ ?_; clear Z Y)
 refine S.nil ?_
 simp only [ze, reduceIte, Nat.reduceEqDiff, Nat.reduceLeDiff, Nat.reduceAdd, e26, e27]
 apply_assumption
 refine AW.seq_k fun K13 h13 => ?_
 refine AW.cond (b := decide (i < ls.length)) (by simp [ev]) (fun hc => ?_) (fun hc => ?_)
 ·refine AW.skip ?_
  simp only [zs, reduceIte, Nat.reduceEqDiff, Nat.reduceLeDiff, Nat.reduceAdd]
  apply_assumption
  have hi : i < ls.length := by simpa using hc
  have hg := getD_map (f := encL) hi
  have htk : ls.take (i + 1) = ls.take i ++ [ls[i]] := by rw [List.take_append_getElem]
  generalize ha : ls[i] = a at hg htk
  have hle : tot (ls.take (i + 1)) ≤ tot ls := tot_take ls (i + 1)
  rw [htk, tot_snoc] at hle
  have hw : IntKind.i64.wrap ((i : Int) + 1) = ((i + 1 : Nat) : Int) := by rw [wrap_small _ (by omega) (by omega)]; rfl
  have hfl : (ls.take i).flatten.length = tot (ls.take i) := flat_tot _
  refine AW.seq_k fun K14 h14 => ?_
  refine AW.block ?_   -- 3
  rcases hk with ⟨rfl, e6, rfl⟩ | ⟨k, e6, rfl⟩
  ·refine AW.seq_k fun K15 h15 => ?_
   refine AW.reg0 ?_
   iterate 3 (refine S.g rfl rfl fun Y Z => ?_; simp only [zz, reduceIte, Nat.reduceEqDiff, Nat.reduceLeDiff, Nat.reduceAdd, sl90, el90, ok22, sz22, ag22, e25, e27, hi, hg, encL]; refine Z _ _ ?_; clear Z Y)
   refine S.nil ?_
   simp only [ze, reduceIte, Nat.reduceEqDiff, Nat.reduceLeDiff, Nat.reduceAdd, e25, e27, hi, hg, encL]
   apply_assumption
   refine AW.reg0 ?_
   iterate 2 (refine S.g rfl rfl fun Y Z => ?_; simp only [zz, reduceIte, Nat.reduceEqDiff, Nat.reduceAdd, e6]; refine Z _ _ ?_; clear Z Y)
   (refine S.g rfl rfl fun Y Z => ?_; simp only [zz, reduceIte, Nat.reduceEqDiff, Nat.reduceLeDiff, Nat.reduceAdd, sl22, el22, ok38, sz38, ag38, zt38, by38, e6]; refine ⟨len_bd _, by unfold maxLen; omega, by unfold reach; omega, fun k2 hk2 => ?_⟩ <;> (refine Z _ _ ?_; clear Z Y))
   (refine S.g rfl rfl fun Y Z => ?_; simp only [zz, reduceIte, Nat.reduceEqDiff, Nat.reduceAdd, e6]; refine Z _ _ ?_; clear Z Y)
   refine S.nil ?_
   simp only [ze, reduceIte, Nat.reduceEqDiff, Nat.reduceLeDiff, Nat.reduceAdd, e6]
   apply_assumption
   refine AW.reg0 ?_
   iterate 2 (refine S.g rfl rfl fun Y Z => ?_; simp only [zz, reduceIte, Nat.reduceEqDiff, Nat.reduceAdd, e27, hw, e25, e26]; refine Z _ _ ?_; clear Z Y)
   refine S.nil ?_
   simp only [ze, reduceIte, Nat.reduceEqDiff, Nat.reduceLeDiff, Nat.reduceAdd, e27, hw, e25, e26]
   refine ⟨m - 1, by omega, 1, by omega, rfl, .inr ⟨k2, rfl, ?_⟩⟩
   rw [show ls.take 1 = [] ++ [a] from htk]; simp
  ·refine AW.seq_k fun K16 h16 => ?_
   refine AW.reg0 ?_
   iterate 3 (refine S.g rfl rfl fun Y Z => ?_; simp only [zz, reduceIte, Nat.reduceEqDiff, Nat.reduceLeDiff, Nat.reduceAdd, sl90, el90, ok22, sz22, ag22, e25, e27, hi, hg, encL]; refine Z _ _ ?_; clear Z Y)
   refine S.nil ?_
   simp only [ze, reduceIte, Nat.reduceEqDiff, Nat.reduceLeDiff, Nat.reduceAdd, e25, e27, hi, hg, encL]
   apply_assumption
   refine AW.reg0 ?_
   iterate 2 (refine S.g rfl rfl fun Y Z => ?_; simp only [zz, reduceIte, Nat.reduceEqDiff, Nat.reduceAdd, e6, hfl]; refine Z _ _ ?_; clear Z Y)
   (refine S.g rfl rfl fun Y Z => ?_; simp only [zz, reduceIte, Nat.reduceEqDiff, Nat.reduceLeDiff, Nat.reduceAdd, sl22, el22, ok38, sz38, ag38, zt38, by38, e6, hfl]; refine ⟨len_bd _, by unfold maxLen; omega, by unfold reach; omega, fun k2 hk2 => ?_⟩ <;> (refine Z _ _ ?_; clear Z Y))
   (refine S.g rfl rfl fun Y Z => ?_; simp only [zz, reduceIte, Nat.reduceEqDiff, Nat.reduceAdd, e6, hfl]; refine Z _ _ ?_; clear Z Y)
   refine S.nil ?_
   simp only [ze, reduceIte, Nat.reduceEqDiff, Nat.reduceLeDiff, Nat.reduceAdd, e6, hfl]
   apply_assumption
   refine AW.reg0 ?_
   iterate 2 (refine S.g rfl rfl fun Y Z => ?_; simp only [zz, reduceIte, Nat.reduceEqDiff, Nat.reduceAdd, e27, hw, e25, e26]; refine Z _ _ ?_; clear Z Y)
   refine S.nil ?_
   simp only [ze, reduceIte, Nat.reduceEqDiff, Nat.reduceLeDiff, Nat.reduceAdd, e27, hw, e25, e26]
   refine ⟨m - 1, by omega, i + 1, by omega, rfl, .inr ⟨k2, rfl, ?_⟩⟩
   rw [htk, List.flatten_append, List.map_append]; simp
 ·refine AW.exit ?_
  simp only [zs, reduceIte, Nat.reduceEqDiff, Nat.reduceLeDiff, Nat.reduceAdd]
  -- EXIT 2
  apply_assumption
  have hi : ls.length ≤ i := by simpa using hc
  rcases hk with ⟨rfl, e6, rfl⟩ | ⟨k, e6, rfl⟩
  ·exact absurd (List.eq_nil_of_length_eq_zero (by omega)) h0
  rw [List.take_of_length_le hi]
  refine AW.seq_k fun K17 h17 => ?_
  refine AW.reg0 ?_
  iterate 2 (refine S.g rfl rfl fun Y Z => ?_; simp only [zz, reduceIte, Nat.reduceEqDiff, Nat.reduceAdd, e6]; refine Z _ _ ?_; clear Z Y)
  refine S.nil ?_
  simp only [ze, reduceIte, Nat.reduceEqDiff, Nat.reduceLeDiff, Nat.reduceAdd, e6]
  apply_assumption
  refine AW.freeze (k := k) (T := (38, 6)) (es := ls.flatten.map encBd) (by simp only [Hp.setGr_gr, if_true]) (AW.bare (AW.ret ?_))
  simp only [zs, reduceIte, Nat.reduceEqDiff, Nat.reduceLeDiff, Nat.reduceAdd, fzV, fz1, St.fz_t, St.fz_l]
end Go.Abs.M
namespace Go.Abs.MX
open Go Go.Abs Go.Proofs Go.Abs.M
set_option maxRecDepth 20000
set_option linter.unusedSimpArgs false
set_option linter.unusedVariables false
/-- A list of attributes, told as one's own, or as none. -/
def AvE (σ : Hp) (l : List Attr) (av : V) : Prop := (av = .sl [] ∧ l = [] ∧ σ = Hp.empty) ∨ ∃ k, av = .gl k ∧ σ = Hp.empty.setGr k (some ((42, 4), l.map encAttr))
theorem AvE.ok {σ : Hp} {l : List Attr} {av : V} (h : AvE σ l av) : okV av = true := by
  rcases h with ⟨rfl, _⟩ | ⟨k, rfl, _⟩ <;> rfl
theorem AvE.wk {σ : Hp} {l : List Attr} {av : V} (h : AvE σ l av) : wk1 av = av := by
  rcases h with ⟨rfl, _⟩ | ⟨k, rfl, _⟩ <;> rfl
theorem AvE.cv {σ : Hp} {l : List Attr} {av : V} (h : AvE σ l av) : cellsV av = some [av] := by
  rcases h with ⟨rfl, _⟩ | ⟨k, rfl, _⟩ <;> rfl
theorem clone_attrs_own (l : List Attr) (hl : l.length * 48 ≤ 140737488355328) : ACalls Tryz.prog 51 [.sl (l.map encAttr)] Hp.empty (fun r σ' => AvE σ' l r) := by
 refine ACalls.intro Tryz.call51 Tryz.func51 rfl Tryz.ntmps51 Tryz.results51 (by simp) ?_
 refine AW.seq_k fun K1 h1 => ?_
 all_goals refine AW.reg0 ?_
 all_goals (refine S.g rfl rfl fun Y Z => ?_; simp only [zz, reduceIte, Nat.reduceEqDiff, Nat.reduceAdd]; refine Z _ _ ?_; clear Z Y)
 all_goals refine S.nil ?_
 all_goals simp only [ze, reduceIte, Nat.reduceEqDiff, Nat.reduceLeDiff, Nat.reduceAdd]
 all_goals apply_assumption
 refine AW.seq_j (fun s' σ' => σ' = Hp.empty ∧ s'.t 0 = .sl (l.map encAttr)) ?_ ?_
 ·refine AW.seq_j (fun s' σ' => σ' = Hp.empty ∧ s'.t 0 = .sl (l.map encAttr) ∧ ∃ b, s'.t 4 = .c (.bool b) ∧ (b = true → l = [])) ?_ ?_
  ·skip
   all_goals refine AW.reg0 ?_
   all_goals (refine S.g rfl rfl fun Y Z => ?_; simp only [zz, reduceIte, Nat.reduceEqDiff, Nat.reduceAdd]; refine Z _ _ ?_; clear Z Y)
   all_goals (refine S.g rfl rfl fun Y Z => ?_; simp only [zz, reduceIte, Nat.reduceEqDiff, Nat.reduceLeDiff, Nat.reduceAdd, sl34]; refine ⟨fun hne => ?_, fun hz b => ?_⟩ <;> (refine Z _ _ ?_; clear Z Y))
   all_goals refine S.nil ?_
   all_goals simp only [ze, reduceIte, Nat.reduceEqDiff, Nat.reduceLeDiff, Nat.reduceAdd]
   ·exact ⟨_, rfl, fun h => by cases h⟩
   ·exact ⟨_, rfl, fun _ => hz⟩
  rintro s σ ⟨rfl, e0, b, e4, hb⟩
  refine AW.cond (b := b) e4 (fun hc => ?_) (fun hc => AW.skip ?_)
  ·refine AW.seq_k fun K2 h2 => ?_
   all_goals refine AW.reg0 ?_
   all_goals (refine S.g rfl rfl fun Y Z => ?_; simp only [zz, reduceIte, Nat.reduceEqDiff, Nat.reduceAdd]; refine Z _ _ ?_; clear Z Y)
   all_goals refine S.nil ?_
   all_goals simp only [ze, reduceIte, Nat.reduceEqDiff, Nat.reduceLeDiff, Nat.reduceAdd]
   all_goals apply_assumption
   refine AW.ret ?_
   all_goals simp only [zs, reduceIte, Nat.reduceEqDiff, Nat.reduceLeDiff, Nat.reduceAdd]
   exact .inl ⟨rfl, hb hc, rfl⟩
  ·all_goals simp only [zs, reduceIte, Nat.reduceEqDiff, Nat.reduceLeDiff, Nat.reduceAdd]
   exact e0
 rintro s σ ⟨rfl, e0⟩
 refine AW.seq_k fun K3 h3 => ?_
 all_goals refine AW.region (T := { own := fun d => d == 5 }) (fun _ _ h => by cases h) rfl ?_
 all_goals (refine S.g rfl rfl fun Y Z => ?_; simp only [zb, reduceIte, Nat.reduceEqDiff, Nat.reduceLeDiff, Nat.reduceAdd, sl34, el34, ok42, sz42, ag42, zt42, by42, e0]; intro k1 hk1 <;> (refine Z _ _ ?_; clear Z Y))
 all_goals (refine S.g rfl rfl fun Y Z => ?_; simp only [zz, reduceIte, Nat.reduceEqDiff, Nat.reduceAdd, e0]; refine Z _ _ ?_; clear Z Y)
 all_goals (refine S.g rfl rfl fun Y Z => ?_; simp only [zz, reduceIte, Nat.reduceEqDiff, Nat.reduceLeDiff, Nat.reduceAdd, sl34, el34, ok42, sz42, ag42, zt42, by42, e0]; refine ⟨len_attr l, by unfold maxLen; omega, by unfold reach; omega, fun k2 hk2 => ?_⟩ <;> (refine Z _ _ ?_; clear Z Y))
 all_goals (refine S.g rfl rfl fun Y Z => ?_; simp only [zz, reduceIte, Nat.reduceEqDiff, Nat.reduceAdd, e0]; refine Z _ _ ?_; clear Z Y)
 all_goals refine S.nil ?_
 all_goals simp only [ze, reduceIte, Nat.reduceEqDiff, Nat.reduceLeDiff, Nat.reduceAdd, e0]
 all_goals apply_assumption
 refine AW.ret ?_
 all_goals simp only [zs, reduceIte, Nat.reduceEqDiff, Nat.reduceLeDiff, Nat.reduceAdd]
 exact .inr ⟨k2, rfl, by simp⟩
def evV (e : Ev) (av : V) : V := .agg [.c (.int .i64 e.src), .c (.int .i64 e.seq), .c (.int .i64 e.time), .c (.string e.type), av]
theorem clone_ev_own (e : Ev) (hl : e.attrs.length * 48 ≤ 140737488355328) : ACalls Tryz.prog 29 [.agg (encEv e)] Hp.empty (fun r σ' => ∃ av, AvE σ' e.attrs av ∧ r = evV e av) := by
 refine ACalls.intro Tryz.call29 Tryz.func29 rfl Tryz.ntmps29 Tryz.results29 (by simp) ?_
 refine AW.seq_k fun K1 h1 => ?_
 refine AW.reg0 ?_
 iterate 2 (refine S.g rfl rfl fun Y Z => ?_; simp only [zz, reduceIte, Nat.reduceEqDiff, Nat.reduceLT, Nat.reduceLeDiff, Nat.reduceAdd, reduceCtorEq, Nat.reduceMul, ok36, sz36, ag36, zt36, encEv]; refine Z _ _ ?_; clear Z Y)
 refine S.nil ?_
 simp only [ze, reduceIte, Nat.reduceEqDiff, Nat.reduceLT, Nat.reduceLeDiff, Nat.reduceAdd, reduceCtorEq, Nat.reduceMul, encEv]
 apply_assumption
 refine AW.seq_k fun K2 h2 => ?_
 refine AW.reg0 ?_
 iterate 2 (refine S.g rfl rfl fun Y Z => ?_; simp only [zz, reduceIte, Nat.reduceEqDiff, Nat.reduceLT, Nat.reduceLeDiff, Nat.reduceAdd, reduceCtorEq, Nat.reduceMul, of36_3, ok34, sz34, ag34]; refine Z _ _ ?_; clear Z Y)
 (refine S.g rfl rfl fun Y Z => ?_; simp only [zz, reduceIte, Nat.reduceEqDiff, Nat.reduceLT, Nat.reduceLeDiff, Nat.reduceAdd, reduceCtorEq, Nat.reduceMul]; refine (clone_attrs_own _ (by assumption)).to fun v σ1 hv => ?_; have hok := AvE.ok hv; have hwk := AvE.wk hv; have hcv := AvE.cv hv <;> (refine Z _ _ ?_; clear Z Y))
 (refine S.g rfl rfl fun Y Z => ?_; simp only [zz, reduceIte, Nat.reduceEqDiff, Nat.reduceLT, Nat.reduceLeDiff, Nat.reduceAdd, reduceCtorEq, Nat.reduceMul, of36_3]; refine Z _ _ ?_; clear Z Y)
 (refine S.g rfl rfl fun Y Z => ?_; simp only [zz, reduceIte, Nat.reduceEqDiff, Nat.reduceLT, Nat.reduceLeDiff, Nat.reduceAdd, reduceCtorEq, Nat.reduceMul, ok34, sz34, ag34, hcv] <;> (refine Z _ _ ?_; clear Z Y))
 refine S.nil ?_
 simp only [ze, reduceIte, Nat.reduceEqDiff, Nat.reduceLT, Nat.reduceLeDiff, Nat.reduceAdd, reduceCtorEq, Nat.reduceMul]
 apply_assumption
 refine AW.seq_k fun K3 h3 => ?_
 refine AW.reg0 ?_
 iterate 2 (refine S.g rfl rfl fun Y Z => ?_; simp only [zz, reduceIte, Nat.reduceEqDiff, Nat.reduceLT, Nat.reduceLeDiff, Nat.reduceAdd, reduceCtorEq, Nat.reduceMul, ok36, sz36, ag36]; refine Z _ _ ?_; clear Z Y)
 refine S.nil ?_
 simp only [ze, reduceIte, Nat.reduceEqDiff, Nat.reduceLT, Nat.reduceLeDiff, Nat.reduceAdd, reduceCtorEq, Nat.reduceMul]
 apply_assumption
 refine AW.ret ?_
 simp only [zs, reduceIte, Nat.reduceEqDiff, Nat.reduceLT, Nat.reduceLeDiff, Nat.reduceAdd, reduceCtorEq, Nat.reduceMul, qLoad, ok36, sz36, ag36, cut, List.drop_zero, List.take_succ_cons, List.take_zero]
 exact ⟨_, hv, by simp only [List.map, evV, hwk]; rfl⟩
/-- The bound's attributes are a list of the heap's own. -/
def AvOk (σ : Hp) (x : Bd) : Prop := (x.av = .sl [] ∧ x.b.ev.attrs = []) ∨ ∃ k, x.av = .gl k ∧ σ.gr k = some ((42, 4), x.b.ev.attrs.map encAttr)
/-- No two bounds share their attributes. -/
def Apart (xs : List Bd) : Prop := xs.Pairwise fun x y => ∀ k, x.av = .gl k → y.av ≠ .gl k
structure Own (σ : Hp) (k : Nat) (xs : List Bd) : Prop where
  row : σ.gr k = some ((38, 6), xs.map encBd)
  av : ∀ x ∈ xs, AvOk σ x
  ap : Apart xs
theorem clone_ev_any (a : M.Bd) (σ : Hp) (hl : a.ev.attrs.length * 48 ≤ 140737488355328) : ACalls Tryz.prog 29 [.agg (encEv a.ev)] σ (fun r σ' => ∃ x : Bd, x.b = a ∧ r = evV a.ev x.av ∧ AvOk σ' x ∧
  (∀ k, x.av = .gl k → σ.gr k = none) ∧ (∀ j y, σ.gr j = some y → σ'.gr j = some y) ∧ (∀ j, σ'.obj j = σ.obj j)) := by
 refine ((clone_ev_own a.ev hl).frame (Hp.Le.empty σ)).to fun v σ' hv => ?_
 obtain ⟨σ1, ⟨av, hav, rfl⟩, hfr, rfl⟩ := hv
 rw [over_empty]
 rcases hav with ⟨rfl, h0, rfl⟩ | ⟨k, rfl, rfl⟩
 ·exact ⟨⟨a, .sl [], rfl, rfl⟩, rfl, rfl, .inl ⟨rfl, h0⟩, fun k hk => (by cases hk), fun j y hy => (by simpa [Hp.empty] using hy), fun j => (by simp [Hp.empty])⟩
 ·have hk : σ.gr k = none := hfr.gr k ((42, 4), a.ev.attrs.map encAttr) (by simp) rfl
  refine ⟨⟨a, .gl k, rfl, rfl⟩, rfl, rfl, .inr ⟨k, rfl, by simp⟩, fun j hj => ?_, fun j y hy => ?_, fun j => (by simp [Hp.empty])⟩
  ·cases hj; exact hk
  ·have : j ≠ k := fun e => by rw [e, hk] at hy; cases hy
   simp [this, Hp.empty, hy]
theorem AvOk.keep {σ σ' : Hp} {x : Bd} (h : AvOk σ x) (hk : ∀ j y, σ.gr j = some y → σ'.gr j = some y) : AvOk σ' x := by
 rcases h with h | ⟨k, h1, h2⟩
 ·exact .inl h
 ·exact .inr ⟨k, h1, hk _ _ h2⟩
/-- One more. -/
theorem Own.push {σ : Hp} {k k2 : Nat} {xs : List Bd} {x : Bd} (h : Own σ k xs) (hx : AvOk σ x) (hd : ∀ j, x.av = .gl j → ∀ y ∈ xs, y.av ≠ .gl j) (hk2 : (σ.setGr k none).gr k2 = none) :
  Own ((σ.setGr k none).setGr k2 (some ((38, 6), xs.map encBd ++ [encBd x]))) k2 (xs ++ [x]) := by
 have keep : ∀ y : Bd, AvOk σ y → AvOk ((σ.setGr k none).setGr k2 (some ((38, 6), xs.map encBd ++ [encBd x]))) y := fun y hy => by
  rcases hy with hy | ⟨j, h1, h2⟩
  ·exact .inl hy
  ·have e1 : j ≠ k := fun e => by
    have := h.row
    rw [← e, h2] at this; injection this with this; injection this with this; cases this
   have e2 : j ≠ k2 := fun e => by
    rw [← e] at hk2
    simp only [Hp.setGr_gr, if_neg e1, h2] at hk2
    cases hk2
   exact .inr ⟨j, h1, by simp [e1, e2, h2]⟩
 refine ⟨by simp, fun y hy => ?_, ?_⟩
 ·rcases List.mem_append.1 hy with hy | hy
  ·exact keep y (h.av y hy)
  ·rw [List.mem_singleton.1 hy]; exact keep x hx
 ·refine List.pairwise_append.2 ⟨h.ap, List.pairwise_singleton _ _, fun y hy z hz j hj => ?_⟩
  rw [List.mem_singleton.1 hz]
  exact fun e => hd j e y hy hj
theorem Own.one {σ : Hp} {k2 : Nat} {x : Bd} (hx : AvOk σ x) (hk2 : σ.gr k2 = none) : Own (σ.setGr k2 (some ((38, 6), [encBd x]))) k2 [x] := by
 refine ⟨by simp, fun y hy => ?_, List.pairwise_singleton _ _⟩
 rw [List.mem_singleton.1 hy]
 rcases hx with hy | ⟨j, h1, h2⟩
 ·exact .inl hy
 ·exact .inr ⟨j, h1, by
   have : j ≠ k2 := fun e => by rw [e, hk2] at h2; cases h2
   simp [this, h2]⟩
theorem clone_own (l : List M.Bd) (hl : ∀ b ∈ l, b.ev.attrs.length * 48 ≤ 140737488355328) (hn : l.length * 80 ≤ 140737488355328) :
  ACalls Tryz.prog 8 [.agg [.sl (l.map M.encBd)]] Hp.empty (fun v σ' => (l = [] ∧ v = .agg [.sl []]) ∨ ∃ k xs, v = .agg [.gl k] ∧ xs.map Bd.b = l ∧ Own σ' k xs) := by
 refine ACalls.intro Tryz.call8 Tryz.func8 rfl Tryz.ntmps8 Tryz.results8 (by simp) ?_
 refine AW.seq_k fun K1 h1 => ?_
 refine AW.reg0 ?_
 iterate 2 (refine S.g rfl rfl fun Y Z => ?_; simp only [zz, reduceIte, Nat.reduceEqDiff, Nat.reduceLT, Nat.reduceLeDiff, Nat.reduceAdd, reduceCtorEq, Nat.reduceMul, ok24, sz24, ag24, zt24]; refine Z _ _ ?_; clear Z Y)
 refine S.nil ?_
 simp only [ze, reduceIte, Nat.reduceEqDiff, Nat.reduceLT, Nat.reduceLeDiff, Nat.reduceAdd, reduceCtorEq, Nat.reduceMul]
 apply_assumption
 refine AW.seq_k fun K2 h2 => ?_
 refine AW.reg0 ?_
 (refine S.g rfl rfl fun Y Z => ?_; simp only [zz, reduceIte, Nat.reduceEqDiff, Nat.reduceAdd]; refine Z _ _ ?_; clear Z Y)
 refine S.nil ?_
 simp only [ze, reduceIte, Nat.reduceEqDiff, Nat.reduceLT, Nat.reduceLeDiff, Nat.reduceAdd, reduceCtorEq, Nat.reduceMul]
 apply_assumption
 refine AW.seq_k fun K3 h3 => ?_
 refine AW.seq_k fun K4 h4 => ?_
 refine AW.reg0 ?_
 iterate 4 (refine S.g rfl rfl fun Y Z => ?_; simp only [zz, reduceIte, Nat.reduceEqDiff, Nat.reduceLT, Nat.reduceLeDiff, Nat.reduceAdd, reduceCtorEq, Nat.reduceMul, of24_0, ok22, sz22, ag22, sl22, el22, ok38, sz38, ag38]; refine Z _ _ ?_; clear Z Y)
 refine S.nil ?_
 simp only [ze, reduceIte, Nat.reduceEqDiff, Nat.reduceLT, Nat.reduceLeDiff, Nat.reduceAdd, reduceCtorEq, Nat.reduceMul]
 apply_assumption
 refine AW.block ?_   -- 0
 refine AW.loop (fun m s σ => ∃ i : Nat, m + i = l.length ∧ s.t 1 = .lp 1 0 ∧ s.l 1 = some [.sl (l.map M.encBd)] ∧ s.t 2 = .lp 2 0 ∧ s.l 2 = some [.c (.slice none 0 0)] ∧ s.t 7 = .sl (l.map M.encBd) ∧ s.t 8 = .c (.int .i64 l.length) ∧ s.t 9 = .c (.int .i64 i) ∧
  ((i = 0 ∧ s.t 3 = .c (.slice none 0 0) ∧ σ = Hp.empty) ∨ ∃ k xs, s.t 3 = .gl k ∧ xs.map Bd.b = l.take i ∧ Own σ k xs)) l.length ?_ ?_
 ·refine ⟨0, by simp, ?_⟩
  simp only [zs, reduceIte, Nat.reduceEqDiff, Nat.reduceLT, Nat.reduceLeDiff, Nat.reduceAdd, reduceCtorEq, Nat.reduceMul]
  simp
 rintro m s σ ⟨i, hm, e1, l1, e2, l2, e7, e8, e9, hk⟩
 refine AW.seq_k fun K5 h5 => ?_
 refine AW.reg0 ?_
 (refine S.g rfl rfl fun Y Z => ?_; simp only [zz, reduceIte, Nat.reduceEqDiff, Nat.reduceAdd, e9, e8]; refine Z _ _ ?_; clear Z Y)
 refine S.nil ?_
 simp only [ze, reduceIte, Nat.reduceEqDiff, Nat.reduceLT, Nat.reduceLeDiff, Nat.reduceAdd, reduceCtorEq, Nat.reduceMul, e9, e8]
 apply_assumption
 refine AW.seq_k fun K6 h6 => ?_
 refine AW.cond (b := decide (i < l.length)) (by simp [ev]) (fun hc => ?_) (fun hc => ?_)
 ·refine AW.skip ?_
  simp only [zs, reduceIte, Nat.reduceEqDiff, Nat.reduceLT, Nat.reduceLeDiff, Nat.reduceAdd, reduceCtorEq, Nat.reduceMul]
  apply_assumption
  have hi : i < l.length := by simpa using hc
  have hg := getD_map (f := M.encBd) hi
  have htk : l.take (i + 1) = l.take i ++ [l[i]] := by rw [List.take_append_getElem]
  have hmem := hl _ (List.getElem_mem hi)
  generalize ha : l[i] = a at hg htk hmem
  have henc : M.encBd a = [.c (.string a.var), .c (.int .i64 a.ev.src), .c (.int .i64 a.ev.seq), .c (.int .i64 a.ev.time), .c (.string a.ev.type), .sl (a.ev.attrs.map encAttr)] := rfl
  refine AW.seq_k fun K7 h7 => ?_
  refine AW.block ?_   -- 1
  refine AW.seq_k fun K8 h8 => ?_
  refine AW.reg0 ?_
  iterate 4 (refine S.g rfl rfl fun Y Z => ?_; simp only [zz, reduceIte, Nat.reduceEqDiff, Nat.reduceLT, Nat.reduceLeDiff, Nat.reduceAdd, reduceCtorEq, Nat.reduceMul, sl22, el22, ok38, sz38, ag38, zt38, e7, e9, hi, hg, henc]; refine Z _ _ ?_; clear Z Y)
  refine S.nil ?_
  simp only [ze, reduceIte, Nat.reduceEqDiff, Nat.reduceLT, Nat.reduceLeDiff, Nat.reduceAdd, reduceCtorEq, Nat.reduceMul, e7, e9, hi, hg, henc]
  apply_assumption
  rcases hk with ⟨rfl, e3, rfl⟩ | ⟨k, xs, e3, hxs, hown⟩
  ·skip
   refine AW.draw (T := { sd := fun d => d == 5 }) (fun _ _ h => by cases h) mixedO [(0, 0), (1, 0), (3, 0), (2, 1), (4, 1), (5, 2), (6, 0), (7, 2), (8, 2), (9, 0)] rfl (by kernel_rfl) (by kernel_rfl) ?_
   iterate 3 (refine D.g rfl trivial rfl rfl fun Y Z => ?_; simp only [zz, reduceIte, Nat.reduceEqDiff, Nat.reduceLT, Nat.reduceLeDiff, Nat.reduceAdd, reduceCtorEq, Nat.reduceMul, of38_0, of38_1, e3, encEv, evV]; refine Z _ _ ?_; clear Z Y)
   iterate 2 (refine D.g rfl (by first | rfl | (simp only [stC, ze, reduceIte, Nat.reduceEqDiff, e3, encEv, evV]; done) | (simp only [stC, ze, reduceIte, Nat.reduceEqDiff, e3, encEv, evV]; rfl)) rfl rfl fun Y Z => ?_; simp only [zz, reduceIte, Nat.reduceEqDiff, Nat.reduceLT, Nat.reduceLeDiff, Nat.reduceAdd, reduceCtorEq, Nat.reduceMul, ok9, sz9, ag9, ok36, sz36, ag36, e3, encEv, evV]; refine Z _ _ ?_; clear Z Y)
   (refine D.g rfl trivial rfl rfl fun Y Z => ?_; simp only [zz, reduceIte, Nat.reduceEqDiff, Nat.reduceLT, Nat.reduceLeDiff, Nat.reduceAdd, reduceCtorEq, Nat.reduceMul, e3, encEv, evV]; refine (clone_ev_any a _ hmem).to fun v σ1 hv => ?_; obtain ⟨x, rfl, rfl, hax, hfr, hkp, hob⟩ := hv; (first | have hgk := hkp _ _ hown.row | have hgk := True.intro); skip <;> (refine Z _ _ ?_; clear Z Y))
   (refine D.g rfl trivial rfl rfl fun Y Z => ?_; simp only [zz, reduceIte, Nat.reduceEqDiff, Nat.reduceLT, Nat.reduceLeDiff, Nat.reduceAdd, reduceCtorEq, Nat.reduceMul, zt38, pl38, e3, encEv, evV]; refine Z _ _ ?_; clear Z Y)
   (refine D.g rfl trivial rfl rfl fun Y Z => ?_; simp only [zb, reduceIte, Nat.reduceEqDiff, Nat.reduceLT, Nat.reduceLeDiff, Nat.reduceAdd, reduceCtorEq, Nat.reduceMul, sl22, el22, ok38, sz38, ag38, zt38, by38, e3, encEv, evV]; refine Z _ _ ?_; clear Z Y)
   (refine D.g rfl trivial rfl rfl fun Y Z => ?_; simp only [zz, reduceIte, Nat.reduceEqDiff, Nat.reduceLT, Nat.reduceLeDiff, Nat.reduceAdd, reduceCtorEq, Nat.reduceMul, sl22, el22, ok38, sz38, ag38, zt38, by38, e3, encEv, evV, hgk]; refine ⟨fun e he => (by rw [List.mem_singleton.1 he]; rfl), by unfold maxLen; omega, by unfold reach; omega, fun k2 hk2 => ?_⟩ <;> (refine Z _ _ ?_; clear Z Y))
   (refine D.g rfl trivial rfl rfl fun Y Z => ?_; simp only [zz, reduceIte, Nat.reduceEqDiff, Nat.reduceAdd, e3, encEv, evV]; refine Z _ _ ?_; clear Z Y)
   refine D.nil ?_
   simp only [ze, reduceIte, Nat.reduceEqDiff, Nat.reduceLT, Nat.reduceLeDiff, Nat.reduceAdd, reduceCtorEq, Nat.reduceMul, e3, encEv, evV]
   apply_assumption
   have hw : IntKind.i64.wrap (((0 : Nat) : Int) + 1) = ((0 + 1 : Nat) : Int) := by rw [wrap_small _ (by omega) (by omega)]; rfl
   refine AW.reg0 ?_
   iterate 2 (refine S.g rfl rfl fun Y Z => ?_; simp only [zz, reduceIte, Nat.reduceEqDiff, Nat.reduceAdd, e9, hw, e1, e2, e7, e8, l1, l2]; refine Z _ _ ?_; clear Z Y)
   refine S.nil ?_
   simp only [ze, reduceIte, Nat.reduceEqDiff, Nat.reduceLT, Nat.reduceLeDiff, Nat.reduceAdd, reduceCtorEq, Nat.reduceMul, e9, hw, e1, e2, e7, e8, l1, l2]
   exact ⟨m - 1, by omega, 1, by omega, rfl, .inr ⟨k2, [x], rfl, by rw [htk]; rfl, Own.one hax hk2⟩⟩
  ·have hxl : xs.length = i := by have := congrArg List.length hxs; simp at this; omega
   refine AW.draw (T := { sd := fun d => d == 5 }) (fun _ _ h => by cases h) mixedO [(0, 0), (1, 0), (3, 0), (2, 1), (4, 1), (5, 2), (6, 0), (7, 2), (8, 2), (9, 0)] rfl (by kernel_rfl) (by kernel_rfl) ?_
   iterate 3 (refine D.g rfl trivial rfl rfl fun Y Z => ?_; simp only [zz, reduceIte, Nat.reduceEqDiff, Nat.reduceLT, Nat.reduceLeDiff, Nat.reduceAdd, reduceCtorEq, Nat.reduceMul, of38_0, of38_1, e3, encEv, evV]; refine Z _ _ ?_; clear Z Y)
   iterate 2 (refine D.g rfl (by first | rfl | (simp only [stC, ze, reduceIte, Nat.reduceEqDiff, e3, encEv, evV]; done) | (simp only [stC, ze, reduceIte, Nat.reduceEqDiff, e3, encEv, evV]; rfl)) rfl rfl fun Y Z => ?_; simp only [zz, reduceIte, Nat.reduceEqDiff, Nat.reduceLT, Nat.reduceLeDiff, Nat.reduceAdd, reduceCtorEq, Nat.reduceMul, ok9, sz9, ag9, ok36, sz36, ag36, e3, encEv, evV]; refine Z _ _ ?_; clear Z Y)
   (refine D.g rfl trivial rfl rfl fun Y Z => ?_; simp only [zz, reduceIte, Nat.reduceEqDiff, Nat.reduceLT, Nat.reduceLeDiff, Nat.reduceAdd, reduceCtorEq, Nat.reduceMul, e3, encEv, evV]; refine (clone_ev_any a _ hmem).to fun v σ1 hv => ?_; obtain ⟨x, rfl, rfl, hax, hfr, hkp, hob⟩ := hv; (first | have hgk := hkp _ _ hown.row | have hgk := True.intro); skip <;> (refine Z _ _ ?_; clear Z Y))
   (refine D.g rfl trivial rfl rfl fun Y Z => ?_; simp only [zz, reduceIte, Nat.reduceEqDiff, Nat.reduceLT, Nat.reduceLeDiff, Nat.reduceAdd, reduceCtorEq, Nat.reduceMul, zt38, pl38, e3, encEv, evV]; refine Z _ _ ?_; clear Z Y)
   (refine D.g rfl trivial rfl rfl fun Y Z => ?_; simp only [zb, reduceIte, Nat.reduceEqDiff, Nat.reduceLT, Nat.reduceLeDiff, Nat.reduceAdd, reduceCtorEq, Nat.reduceMul, sl22, el22, ok38, sz38, ag38, zt38, by38, e3, encEv, evV]; refine Z _ _ ?_; clear Z Y)
   (refine D.g rfl trivial rfl rfl fun Y Z => ?_; simp only [zz, reduceIte, Nat.reduceEqDiff, Nat.reduceLT, Nat.reduceLeDiff, Nat.reduceAdd, reduceCtorEq, Nat.reduceMul, sl22, el22, ok38, sz38, ag38, zt38, by38, e3, encEv, evV, hgk]; refine ⟨fun e he => (by rw [List.mem_singleton.1 he]; rfl), by unfold maxLen; omega, by unfold reach; omega, fun k2 hk2 => ?_⟩ <;> (refine Z _ _ ?_; clear Z Y))
   (refine D.g rfl trivial rfl rfl fun Y Z => ?_; simp only [zz, reduceIte, Nat.reduceEqDiff, Nat.reduceAdd, e3, encEv, evV]; refine Z _ _ ?_; clear Z Y)
   refine D.nil ?_
   simp only [ze, reduceIte, Nat.reduceEqDiff, Nat.reduceLT, Nat.reduceLeDiff, Nat.reduceAdd, reduceCtorEq, Nat.reduceMul, e3, encEv, evV]
   apply_assumption
   have hw : IntKind.i64.wrap ((i : Int) + 1) = ((i + 1 : Nat) : Int) := by rw [wrap_small _ (by omega) (by omega)]; rfl
   refine AW.reg0 ?_
   iterate 2 (refine S.g rfl rfl fun Y Z => ?_; simp only [zz, reduceIte, Nat.reduceEqDiff, Nat.reduceAdd, e9, hw, e1, e2, e7, e8, l1, l2]; refine Z _ _ ?_; clear Z Y)
   refine S.nil ?_
   simp only [ze, reduceIte, Nat.reduceEqDiff, Nat.reduceLT, Nat.reduceLeDiff, Nat.reduceAdd, reduceCtorEq, Nat.reduceMul, e9, hw, e1, e2, e7, e8, l1, l2]
   exact ⟨m - 1, by omega, i + 1, by omega, rfl, .inr ⟨k2, xs ++ [x], rfl, by rw [htk, List.map_append, hxs]; rfl, Own.push ⟨hkp _ _ hown.row, fun y hy => (hown.av y hy).keep hkp, hown.ap⟩ hax (fun j hj y hy e => by
    rcases hown.av y hy with ⟨h1, _⟩ | ⟨j', h1, h2⟩
    ·rw [h1] at e; cases e
    ·rw [h1] at e; cases e
     rw [hfr j hj] at h2; cases h2) hk2⟩⟩
 ·refine AW.exit ?_
  simp only [zs, reduceIte, Nat.reduceEqDiff, Nat.reduceLT, Nat.reduceLeDiff, Nat.reduceAdd, reduceCtorEq, Nat.reduceMul]
  apply_assumption
  have hi : l.length ≤ i := by simpa using hc
  rcases hk with ⟨rfl, e3, rfl⟩ | ⟨k, xs, e3, hxs, hown⟩
  ·have h0 : l = [] := List.eq_nil_of_length_eq_zero (by omega)
   refine AW.seq_k fun K9 h9 => ?_
   refine AW.reg0 ?_
   (refine S.g rfl rfl fun Y Z => ?_; simp only [zz, reduceIte, Nat.reduceEqDiff, Nat.reduceAdd, e3, e2, l2]; refine Z _ _ ?_; clear Z Y)
   (refine S.g rfl rfl fun Y Z => ?_; simp only [zz, reduceIte, Nat.reduceEqDiff, Nat.reduceLT, Nat.reduceLeDiff, Nat.reduceAdd, reduceCtorEq, Nat.reduceMul, zt24, pl24, e3, e2, l2]; refine Z _ _ ?_; clear Z Y)
   (refine S.g rfl rfl fun Y Z => ?_; simp only [zz, reduceIte, Nat.reduceEqDiff, Nat.reduceLT, Nat.reduceLeDiff, Nat.reduceAdd, reduceCtorEq, Nat.reduceMul, ok24, sz24, ag24, e3, e2, l2]; refine Z _ _ ?_; clear Z Y)
   refine S.nil ?_
   simp only [ze, reduceIte, Nat.reduceEqDiff, Nat.reduceLT, Nat.reduceLeDiff, Nat.reduceAdd, reduceCtorEq, Nat.reduceMul, e3, e2, l2]
   apply_assumption
   refine AW.ret ?_
   simp only [zs, reduceIte, Nat.reduceEqDiff, Nat.reduceLT, Nat.reduceLeDiff, Nat.reduceAdd, reduceCtorEq, Nat.reduceMul, qLoad, ok24, sz24, ag24, cut, List.drop_zero, List.take_succ_cons, List.take_zero, e2, List.map]
   exact .inl h0
  ·rw [List.take_of_length_le hi] at hxs
   refine AW.seq_k fun K10 h10 => ?_
   refine AW.reg0 ?_
   (refine S.g rfl rfl fun Y Z => ?_; simp only [zz, reduceIte, Nat.reduceEqDiff, Nat.reduceAdd, e3, e2, l2]; refine Z _ _ ?_; clear Z Y)
   (refine S.g rfl rfl fun Y Z => ?_; simp only [zz, reduceIte, Nat.reduceEqDiff, Nat.reduceLT, Nat.reduceLeDiff, Nat.reduceAdd, reduceCtorEq, Nat.reduceMul, zt24, pl24, e3, e2, l2]; refine Z _ _ ?_; clear Z Y)
   (refine S.g rfl rfl fun Y Z => ?_; simp only [zz, reduceIte, Nat.reduceEqDiff, Nat.reduceLT, Nat.reduceLeDiff, Nat.reduceAdd, reduceCtorEq, Nat.reduceMul, ok24, sz24, ag24, e3, e2, l2]; refine Z _ _ ?_; clear Z Y)
   refine S.nil ?_
   simp only [ze, reduceIte, Nat.reduceEqDiff, Nat.reduceLT, Nat.reduceLeDiff, Nat.reduceAdd, reduceCtorEq, Nat.reduceMul, e3, e2, l2]
   apply_assumption
   refine AW.ret ?_
   simp only [zs, reduceIte, Nat.reduceEqDiff, Nat.reduceLT, Nat.reduceLeDiff, Nat.reduceAdd, reduceCtorEq, Nat.reduceMul, qLoad, ok24, sz24, ag24, cut, List.drop_zero, List.take_succ_cons, List.take_zero, e2, List.map]
   exact .inr ⟨k, xs, rfl, hxs, hown⟩
end Go.Abs.MX
namespace Go.Abs.M
open Go Go.Abs Go.Proofs
set_option maxRecDepth 20000
set_option linter.unusedSimpArgs false
set_option linter.unusedVariables false
def noPart : V := .tup [.agg [.sl []], .c (.bool false)]
/-- What Merge says, where 'p' is the two's bounds, sorted. -/
def mergeV (a b p : List Bd) : V := if partErr a ≠ 0 ∨ partErr b ≠ 0 then noPart else if partErr p ≠ 0 then noPart else .tup [.agg [.sl (p.map encBd)], .c (.bool true)]
theorem merge_gen (a b : List Bd) (ha : okP a) (hb : okP b) (hat : ∀ x ∈ a ++ b, x.ev.attrs.length * 48 ≤ 140737488355328) (G : List Bd → Prop) (hG : ∃ p, G p) (hne : a ++ b ≠ [])
  (hS : ¬ (partErr a ≠ 0 ∨ partErr b ≠ 0) → ∀ k, ACalls Tryz.prog 23 [.gl k, .fn (.func 24) [] []] (hpB k (a ++ b)) (fun v σ' => v = .tup [] ∧ ∃ p, okP p ∧ G p ∧ σ' = hpB k p)) :
  PCalls Tryz.prog 5 [.agg [.sl (a.map encBd)], .agg [.sl (b.map encBd)]] (fun v => ∃ p, G p ∧ v = mergeV a b p) := by
 refine PCalls.intro Tryz.call5 Tryz.func5 rfl Tryz.ntmps5 Tryz.results5 (by simp) ?_
 refine AW.seq_k fun K1 h1 => ?_
 all_goals refine AW.reg0 ?_
 all_goals iterate 4 (refine S.g rfl rfl fun Y Z => ?_; simp only [zz, reduceIte, Nat.reduceEqDiff, Nat.reduceLT, Nat.reduceLeDiff, Nat.reduceAdd, reduceCtorEq, Nat.reduceMul, ok24, sz24, ag24, zt24]; refine Z _ _ ?_; clear Z Y)
 all_goals refine S.nil ?_
 all_goals simp only [ze, reduceIte, Nat.reduceEqDiff, Nat.reduceLT, Nat.reduceLeDiff, Nat.reduceAdd, reduceCtorEq, Nat.reduceMul]
 all_goals apply_assumption
 refine AW.seq_k fun K2 h2 => ?_
 refine AW.seq_j (fun s' σ' => σ' = Hp.empty ∧ s'.t 2 = .lp 2 0 ∧ s'.l 2 = some [.sl (a.map encBd)] ∧ s'.t 3 = .lp 3 0 ∧ s'.l 3 = some [.sl (b.map encBd)] ∧ s'.t 4 = .lp 4 0 ∧ s'.l 4 = some [.c (.slice none 0 0)] ∧ s'.t 14 = .c (.bool (decide (partErr a ≠ 0 ∨ partErr b ≠ 0)))) ?_ ?_
 ·skip
  all_goals refine AW.reg0 ?_
  all_goals (refine S.g rfl rfl fun Y Z => ?_; simp only [zz, reduceIte, Nat.reduceEqDiff, Nat.reduceLT, Nat.reduceLeDiff, Nat.reduceAdd, reduceCtorEq, Nat.reduceMul, ok24, sz24, ag24]; refine Z _ _ ?_; clear Z Y)
  all_goals (refine S.g rfl rfl fun Y Z => ?_; simp only [zz, reduceIte, Nat.reduceEqDiff, Nat.reduceLT, Nat.reduceLeDiff, Nat.reduceAdd, reduceCtorEq, Nat.reduceMul]; refine PCalls.eqto (check_part a ha) ?_ <;> (refine Z _ _ ?_; clear Z Y))
  all_goals (refine S.g rfl rfl fun Y Z => ?_; simp only [zz, reduceIte, Nat.reduceEqDiff, Nat.reduceLT, Nat.reduceLeDiff, Nat.reduceAdd, reduceCtorEq, Nat.reduceMul]; refine S.bool fun b a9 => ?_; cases b <;> (try (exfalso; first | exact Bool.noConfusion a9 | (have h := of_decide_eq_true a9; omega) | (have h := of_decide_eq_false a9; omega))) <;> (refine Z _ _ ?_; clear Z Y))
  all_goals (refine S.g rfl rfl fun Y Z => ?_; simp only [zz, reduceIte, Nat.reduceEqDiff, Nat.reduceAdd]; refine Z _ _ ?_; clear Z Y)
  all_goals (first | (refine S.y rfl rfl rfl rfl fun Y Z => ?_; simp only [zz, reduceIte, Nat.reduceEqDiff, Nat.reduceLT, Nat.reduceLeDiff, Nat.reduceAdd, reduceCtorEq, Nat.reduceMul, ok24, sz24, ag24]; refine Z _ _ ?_; clear Z Y) | ((first | refine S.x rfl rfl rfl rfl fun Y Z => ?_ | refine S.u rfl rfl rfl rfl fun Y Z => ?_); simp only [ze, reduceIte, Nat.reduceEqDiff]; refine Z _ _ ?_; clear Z Y))
  all_goals (first | (refine S.y rfl rfl rfl rfl fun Y Z => ?_; simp only [zz, reduceIte, Nat.reduceEqDiff, Nat.reduceLT, Nat.reduceLeDiff, Nat.reduceAdd, reduceCtorEq, Nat.reduceMul]; refine PCalls.eqto (check_part b hb) ?_ <;> (refine Z _ _ ?_; clear Z Y)) | ((first | refine S.x rfl rfl rfl rfl fun Y Z => ?_ | refine S.u rfl rfl rfl rfl fun Y Z => ?_); simp only [ze, reduceIte, Nat.reduceEqDiff]; refine Z _ _ ?_; clear Z Y))
  all_goals (first | (refine S.y rfl rfl rfl rfl fun Y Z => ?_; simp only [zz, reduceIte, Nat.reduceEqDiff, Nat.reduceAdd]; refine Z _ _ ?_; clear Z Y) | ((first | refine S.x rfl rfl rfl rfl fun Y Z => ?_ | refine S.u rfl rfl rfl rfl fun Y Z => ?_); simp only [ze, reduceIte, Nat.reduceEqDiff]; refine Z _ _ ?_; clear Z Y))
  all_goals (refine S.g rfl rfl fun Y Z => ?_; simp only [zz, reduceIte, Nat.reduceEqDiff, Nat.reduceAdd]; refine Z _ _ ?_; clear Z Y)
  all_goals refine S.nil ?_
  all_goals simp only [ze, reduceIte, Nat.reduceEqDiff, Nat.reduceLT, Nat.reduceLeDiff, Nat.reduceAdd, reduceCtorEq, Nat.reduceMul]
  all_goals simp_all
  by_cases h0 : partErr b = 0 <;> simp [h0]
 rintro s σ ⟨rfl, e2, l2, e3, l3, e4, l4, e14⟩
 refine AW.cond (b := _) e14 (fun hc => ?_) (fun hc => ?_)
 ·have hx := of_decide_eq_true hc
  refine AW.seq_k fun K3 h3 => ?_
  all_goals refine AW.reg0 ?_
  all_goals (refine S.g rfl rfl fun Y Z => ?_; simp only [zz, reduceIte, Nat.reduceEqDiff, Nat.reduceLT, Nat.reduceLeDiff, Nat.reduceAdd, reduceCtorEq, Nat.reduceMul, zt24, pl24, e4, l4]; refine Z _ _ ?_; clear Z Y)
  all_goals iterate 2 (refine S.g rfl rfl fun Y Z => ?_; simp only [zz, reduceIte, Nat.reduceEqDiff, Nat.reduceLT, Nat.reduceLeDiff, Nat.reduceAdd, reduceCtorEq, Nat.reduceMul, ok24, sz24, ag24, e4, l4]; refine Z _ _ ?_; clear Z Y)
  all_goals refine S.nil ?_
  all_goals simp only [ze, reduceIte, Nat.reduceEqDiff, Nat.reduceLT, Nat.reduceLeDiff, Nat.reduceAdd, reduceCtorEq, Nat.reduceMul, e4, l4]
  all_goals apply_assumption
  refine AW.ret ?_
  all_goals simp only [zs, reduceIte, Nat.reduceEqDiff, Nat.reduceLT, Nat.reduceLeDiff, Nat.reduceAdd, reduceCtorEq, Nat.reduceMul, qLoad, ok24, sz24, ag24, cut, List.drop_zero, List.take_succ_cons, List.take_zero, List.map, e4]
  obtain ⟨p0, hp0⟩ := hG
  refine ⟨p0, hp0, ?_⟩
  rw [mergeV, if_pos hx]; rfl
 ·have hx := of_decide_eq_false hc
  refine AW.skip ?_
  all_goals simp only [zs, reduceIte, Nat.reduceEqDiff, Nat.reduceLT, Nat.reduceLeDiff, Nat.reduceAdd, reduceCtorEq, Nat.reduceMul]
  all_goals apply_assumption
  have hla : a.length ≤ 12 := by
   by_cases h : 12 < a.length
   ·exact absurd (.inl (by simp [partErr, h])) hx
   ·omega
  have hlb : b.length ≤ 12 := by
   by_cases h : 12 < b.length
   ·exact absurd (.inr (by simp [partErr, h])) hx
   ·omega
  have htot : tot [a, b] * 80 ≤ 140737488355328 := by simp only [tot, List.map_cons, List.map_nil, List.sum_cons, List.sum_nil]; omega
  have hlen : (a ++ b).length * 80 ≤ 140737488355328 := by rw [List.length_append]; omega
  have hfl : [a, b].flatten = a ++ b := by simp
  refine AW.seq_k fun K4 h4 => ?_
  all_goals refine AW.reg0 ?_
  all_goals iterate 4 (refine S.g rfl rfl fun Y Z => ?_; simp only [zz, reduceIte, Nat.reduceEqDiff, Nat.reduceLT, Nat.reduceLeDiff, Nat.reduceAdd, reduceCtorEq, Nat.reduceMul, of24_0, ok22, sz22, ag22, e2, l2, e3, l3, e4, l4, hfl]; refine Z _ _ ?_; clear Z Y)
  all_goals (refine S.g rfl rfl fun Y Z => ?_; simp only [zb, reduceIte, Nat.reduceEqDiff, Nat.reduceLT, Nat.reduceLeDiff, Nat.reduceAdd, reduceCtorEq, Nat.reduceMul, sl90, el90, ok22, sz22, ag22, zt22, by22, e2, l2, e3, l3, e4, l4, hfl]; refine ⟨rfl, (by simp), ?_⟩ <;> (refine Z _ _ ?_; clear Z Y))
  all_goals (refine S.g rfl rfl fun Y Z => ?_; simp only [zz, reduceIte, Nat.reduceEqDiff, Nat.reduceLT, Nat.reduceLeDiff, Nat.reduceAdd, reduceCtorEq, Nat.reduceMul, e2, l2, e3, l3, e4, l4, hfl]; refine PCalls.eqto (concat_frozen [a, b] (by simp) (by simp) htot) ?_ <;> (refine Z _ _ ?_; clear Z Y))
  all_goals (refine S.g rfl rfl fun Y Z => ?_; simp only [zz, reduceIte, Nat.reduceEqDiff, Nat.reduceLT, Nat.reduceLeDiff, Nat.reduceAdd, reduceCtorEq, Nat.reduceMul, zt24, pl24, e2, l2, e3, l3, e4, l4, hfl]; refine Z _ _ ?_; clear Z Y)
  all_goals (refine S.g rfl rfl fun Y Z => ?_; simp only [zz, reduceIte, Nat.reduceEqDiff, Nat.reduceLT, Nat.reduceLeDiff, Nat.reduceAdd, reduceCtorEq, Nat.reduceMul, e2, l2, e3, l3, e4, l4, hfl]; refine ((clone_grow (a ++ b) hat hlen).to fun v σ1 hv => ?_); obtain ⟨k, _, rfl, rfl⟩ := hv.resolve_left (fun h => hne h.1) <;> (refine Z _ _ ?_; clear Z Y))
  all_goals iterate 2 (refine S.g rfl rfl fun Y Z => ?_; simp only [zz, reduceIte, Nat.reduceEqDiff, Nat.reduceLT, Nat.reduceLeDiff, Nat.reduceAdd, reduceCtorEq, Nat.reduceMul, zt24, ok24, sz24, ag24, e2, l2, e3, l3, e4, l4, hfl]; refine Z _ _ ?_; clear Z Y)
  all_goals refine S.nil ?_
  all_goals simp only [ze, reduceIte, Nat.reduceEqDiff, Nat.reduceLT, Nat.reduceLeDiff, Nat.reduceAdd, reduceCtorEq, Nat.reduceMul, e2, l2, e3, l3, e4, l4, hfl]
  all_goals apply_assumption
  refine AW.seq_k fun K5 h5 => ?_
  all_goals refine AW.reg0 ?_
  all_goals iterate 2 (refine S.g rfl rfl fun Y Z => ?_; simp only [zz, reduceIte, Nat.reduceEqDiff, Nat.reduceLT, Nat.reduceLeDiff, Nat.reduceAdd, reduceCtorEq, Nat.reduceMul, of24_0, ok22, sz22, ag22]; refine Z _ _ ?_; clear Z Y)
  all_goals (refine S.g rfl rfl fun Y Z => ?_; simp only [zz, reduceIte, Nat.reduceEqDiff, Nat.reduceLT, Nat.reduceLeDiff, Nat.reduceAdd, reduceCtorEq, Nat.reduceMul]; refine (hS hx k).to fun v σ1 hv => ?_; obtain ⟨rfl, p, hpo, hgp, rfl⟩ := hv <;> (refine Z _ _ ?_; clear Z Y))
  all_goals refine S.nil ?_
  all_goals simp only [ze, reduceIte, Nat.reduceEqDiff, Nat.reduceLT, Nat.reduceLeDiff, Nat.reduceAdd, reduceCtorEq, Nat.reduceMul]
  all_goals apply_assumption
  refine AW.freeze (k := k) (T := (38, 6)) (es := p.map encBd) (by simp [hpB]) ?_
  have hem : (hpB k p).setGr k none = Hp.empty := by simp [hpB]
  rw [hem]
  refine AW.seq_j (fun s' σ' => σ' = Hp.empty ∧ s'.t 6 = .lp 6 0 ∧ s'.l 6 = some [.sl (p.map encBd)] ∧ s'.t 4 = .lp 4 0 ∧ s'.l 4 = some [.c (.slice none 0 0)] ∧ partErr p = 0) ?_ ?_
  ·refine AW.seq_j (fun s' σ' => σ' = Hp.empty ∧ s'.t 6 = .lp 6 0 ∧ s'.l 6 = some [.sl (p.map encBd)] ∧ s'.t 4 = .lp 4 0 ∧ s'.l 4 = some [.c (.slice none 0 0)] ∧ s'.t 29 = .c (.bool (partErr p != 0))) ?_ ?_
   ·skip
    all_goals refine AW.reg0 ?_
    all_goals (refine S.g rfl rfl fun Y Z => ?_; simp only [zz, reduceIte, Nat.reduceEqDiff, Nat.reduceLT, Nat.reduceLeDiff, Nat.reduceAdd, reduceCtorEq, Nat.reduceMul, ok24, sz24, ag24, St.fz_t, St.fz_l, fzV, fz1, Option.map_some, List.map, e4, l4]; refine Z _ _ ?_; clear Z Y)
    all_goals (refine S.g rfl rfl fun Y Z => ?_; simp only [zz, reduceIte, Nat.reduceEqDiff, Nat.reduceLT, Nat.reduceLeDiff, Nat.reduceAdd, reduceCtorEq, Nat.reduceMul, St.fz_t, St.fz_l, fzV, fz1, Option.map_some, List.map, e4, l4]; refine PCalls.eqto (check_part p hpo) ?_ <;> (refine Z _ _ ?_; clear Z Y))
    all_goals (refine S.g rfl rfl fun Y Z => ?_; simp only [zz, reduceIte, Nat.reduceEqDiff, Nat.reduceAdd, St.fz_t, St.fz_l, fzV, fz1, Option.map_some, List.map, e4, l4]; refine Z _ _ ?_; clear Z Y)
    all_goals refine S.nil ?_
    all_goals simp only [ze, reduceIte, Nat.reduceEqDiff, Nat.reduceLT, Nat.reduceLeDiff, Nat.reduceAdd, reduceCtorEq, Nat.reduceMul, St.fz_t, St.fz_l, fzV, fz1, Option.map_some, List.map, e4, l4]
   rintro s2 σ2 ⟨rfl, f6, k6, f4, k4, f29⟩
   refine AW.cond (b := partErr p != 0) f29 (fun hc2 => ?_) (fun hc2 => ?_)
   ·have hy : partErr p ≠ 0 := by simpa using hc2
    refine AW.seq_k fun K6 h6 => ?_
    all_goals refine AW.reg0 ?_
    all_goals (refine S.g rfl rfl fun Y Z => ?_; simp only [zz, reduceIte, Nat.reduceEqDiff, Nat.reduceLT, Nat.reduceLeDiff, Nat.reduceAdd, reduceCtorEq, Nat.reduceMul, zt24, pl24, f4, k4]; refine Z _ _ ?_; clear Z Y)
    all_goals iterate 2 (refine S.g rfl rfl fun Y Z => ?_; simp only [zz, reduceIte, Nat.reduceEqDiff, Nat.reduceLT, Nat.reduceLeDiff, Nat.reduceAdd, reduceCtorEq, Nat.reduceMul, ok24, sz24, ag24, f4, k4]; refine Z _ _ ?_; clear Z Y)
    all_goals refine S.nil ?_
    all_goals simp only [ze, reduceIte, Nat.reduceEqDiff, Nat.reduceLT, Nat.reduceLeDiff, Nat.reduceAdd, reduceCtorEq, Nat.reduceMul, f4, k4]
    all_goals apply_assumption
    refine AW.ret ?_
    all_goals simp only [zs, reduceIte, Nat.reduceEqDiff, Nat.reduceLT, Nat.reduceLeDiff, Nat.reduceAdd, reduceCtorEq, Nat.reduceMul, qLoad, ok24, sz24, ag24, cut, List.drop_zero, List.take_succ_cons, List.take_zero, List.map, f4]
    refine ⟨p, hgp, ?_⟩
    rw [mergeV, if_neg hx, if_pos hy]; rfl
   ·have hy : partErr p = 0 := by simpa using hc2
    refine AW.skip ?_
    all_goals simp only [zs, reduceIte, Nat.reduceEqDiff, Nat.reduceLT, Nat.reduceLeDiff, Nat.reduceAdd, reduceCtorEq, Nat.reduceMul]
    exact ⟨f6, k6, f4, k4, hy⟩
  rintro s2 σ2 ⟨rfl, f6, k6, f4, k4, hy⟩
  refine AW.seq_k fun K7 h7 => ?_
  all_goals refine AW.reg0 ?_
  all_goals iterate 3 (refine S.g rfl rfl fun Y Z => ?_; simp only [zz, reduceIte, Nat.reduceEqDiff, Nat.reduceLT, Nat.reduceLeDiff, Nat.reduceAdd, reduceCtorEq, Nat.reduceMul, ok24, sz24, ag24, f6, k6, f4, k4]; refine Z _ _ ?_; clear Z Y)
  all_goals refine S.nil ?_
  all_goals simp only [ze, reduceIte, Nat.reduceEqDiff, Nat.reduceLT, Nat.reduceLeDiff, Nat.reduceAdd, reduceCtorEq, Nat.reduceMul, f6, k6, f4, k4]
  all_goals apply_assumption
  refine AW.ret ?_
  all_goals simp only [zs, reduceIte, Nat.reduceEqDiff, Nat.reduceLT, Nat.reduceLeDiff, Nat.reduceAdd, reduceCtorEq, Nat.reduceMul, qLoad, ok24, sz24, ag24, cut, List.drop_zero, List.take_succ_cons, List.take_zero, List.map, f4]
  refine ⟨p, hgp, ?_⟩
  rw [mergeV, if_neg hx, if_neg (fun e => e hy)]
end Go.Abs.M
namespace Go.Abs.M
open Go Go.Abs Go.Proofs
set_option maxRecDepth 20000
set_option linter.unusedSimpArgs false
set_option linter.unusedVariables false
/-- As many, and none that was not there. -/
def Sub (l0 l : List Bd) : Prop := l.length = l0.length ∧ ∀ x ∈ l, x ∈ l0
theorem Sub.refl (l : List Bd) : Sub l l := ⟨rfl, fun _ h => h⟩
theorem Sub.trans {a b c : List Bd} (h : Sub a b) (k : Sub b c) : Sub a c := ⟨k.1.trans h.1, fun x hx => h.2 x (k.2 x hx)⟩
theorem Sub.swap {l0 l : List Bd} {i j : Nat} {x y : Bd} (h : Sub l0 l) (hx : l[i]? = some x) (hy : l[j]? = some y) : Sub l0 ((l.set i y).set j x) := by
 refine ⟨by simp [h.1], fun z hz => ?_⟩
 rcases List.mem_or_eq_of_mem_set hz with hz | rfl
 ·rcases List.mem_or_eq_of_mem_set hz with hz | rfl
  ·exact h.2 z hz
  ·exact h.2 _ (List.mem_of_getElem? hy)
 ·exact h.2 _ (List.mem_of_getElem? hx)
def hpS (k : Nat) (l0 : List Bd) (v : V) (σ' : Hp) : Prop := v = .tup [] ∧ ∃ l', Sub l0 l' ∧ σ' = hpB k l'
end Go.Abs.M
namespace Go.Abs.M
open Go Go.Abs Go.Proofs
set_option maxRecDepth 20000
set_option linter.unusedSimpArgs false
set_option linter.unusedVariables false
theorem sink_sub (lo : Nat) : ∀ (j : Nat) (l0 l : List Bd), Sub l0 l → Sub l0 (sink lo j l) := by
  intro j
  induction j with
  | zero => exact fun _ _ h => h
  | succ j ih =>
    intro l0 l h
    simp only [sink]
    split
    · rename_i x y hx hy
      split
      · exact ih l0 _ (h.swap hx hy)
      · exact h
    · exact h
theorem insFrom_sub (lo : Nat) : ∀ (m i : Nat) (l0 l : List Bd), Sub l0 l → Sub l0 (insFrom lo l i m) := by
  intro m
  induction m with
  | zero => exact fun _ _ _ h => h
  | succ m ih =>
    intro i l0 l h
    simp only [insFrom, List.range'_succ, List.foldl_cons]
    exact ih (i + 1) l0 _ (sink_sub lo i l0 l h)
theorem insort_sub (lo hi : Nat) (l : List Bd) : Sub l (insort lo hi l) := insFrom_sub lo _ _ l l (Sub.refl l)
end Go.Abs.M
namespace Go.Abs.M
open Go Go.Abs Go.Proofs
set_option maxRecDepth 20000
set_option linter.unusedSimpArgs false
set_option linter.unusedVariables false
def mrg : List Bd → List Bd → List Bd
  | [], b => b
  | x :: a, [] => x :: a
  | x :: a, y :: b => if leS x.var y.var = true then x :: mrg a (y :: b) else y :: mrg (x :: a) b
termination_by a b => a.length + b.length
theorem mrg_nil (a : List Bd) : mrg a [] = a := by
  cases a <;> simp [mrg]
theorem mrg_mem (a b : List Bd) : ∀ x ∈ mrg a b, x ∈ a ++ b := by
 fun_induction mrg a b
 ·intro x hx; simpa using hx
 ·intro x hx; simpa using hx
 ·rename_i ih
  intro z hz
  rcases List.mem_cons.1 hz with rfl | hz
  ·simp
  ·have := ih z hz; simp at this ⊢; rcases this with h | h | h <;> simp_all
 ·rename_i ih
  intro z hz
  rcases List.mem_cons.1 hz with rfl | hz
  ·simp
  ·have := ih z hz; simp at this ⊢; rcases this with h | h | h <;> simp [h]
/-- A list of the call's own, collected in the variable 't'. -/
def own (s : St) (σ : Hp) (t : Nat) (l : List Bd) : Prop := (l = [] ∧ s.t t = .c (.slice none 0 0) ∧ σ = Hp.empty) ∨ ∃ g, s.t t = .gl g ∧ σ = hpB g l
end Go.Abs.M
namespace Go.Abs.M
open Go Go.Abs Go.Proofs
set_option maxRecDepth 20000
set_option linter.unusedSimpArgs false
set_option linter.unusedVariables false
theorem insort_nil : PCalls Tryz.prog 73 [.c (.slice none 0 0), .c (.int .i64 0), .c (.int .i64 0), .fn (.func 24) [] []] (fun v => v = .tup []) := by
 refine PCalls.intro Tryz.call73 Tryz.func73 rfl Tryz.ntmps73 Tryz.results73 (by simp) ?_
 have hw1 : IntKind.i64.wrap ((0 : Int) + 1) = 1 := by rw [wrap_small _ (by omega) (by omega)]; rfl
 refine AW.seq_k fun K1 h1 => ?_
 refine AW.reg0 ?_
 iterate 3 (refine S.g rfl rfl fun Y Z => ?_; simp only [zz, reduceIte, Nat.reduceEqDiff, Nat.reduceAdd, hw1]; refine Z _ _ ?_; clear Z Y)
 refine S.nil ?_
 simp only [ze, reduceIte, Nat.reduceEqDiff, Nat.reduceLeDiff, Nat.reduceAdd, hw1]
 apply_assumption
 refine AW.block ?_   -- 0
 refine AW.loop (fun m s σ => s.t 2 = .c (.int .i64 0) ∧ s.t 8 = .c (.int .i64 1) ∧ σ = Hp.empty) 0 ?_ ?_
 ·simp only [zs, reduceIte, Nat.reduceEqDiff, Nat.reduceLeDiff, Nat.reduceAdd]
 rintro m s σ ⟨e2, e8, rfl⟩
 refine AW.seq_k fun K2 h2 => ?_
 refine AW.seq_k fun K3 h3 => ?_
 refine AW.reg0 ?_
 iterate 3 (refine S.g rfl rfl fun Y Z => ?_; simp only [zz, reduceIte, Nat.reduceEqDiff, Nat.reduceAdd, e2, e8]; refine Z _ _ ?_; clear Z Y)
 refine S.nil ?_
 simp only [ze, reduceIte, Nat.reduceEqDiff, Nat.reduceLeDiff, Nat.reduceAdd, e2, e8]
 apply_assumption
 refine AW.cond (b := false) (by simp [ev]) (fun hc => by cases hc) (fun hc => AW.exit ?_)
 simp only [zs, reduceIte, Nat.reduceEqDiff, Nat.reduceLeDiff, Nat.reduceAdd]
 rfl
theorem stable_nil : PCalls Tryz.prog 46 [.c (.slice none 0 0), .c (.int .i64 0), .fn (.func 24) [] []] (fun v => v = .tup []) := by
 refine PCalls.intro Tryz.call46 Tryz.func46 rfl Tryz.ntmps46 Tryz.results46 (by simp) ?_
 refine AW.seq_k fun K1 h1 => ?_
 refine AW.reg0 ?_
 (refine S.g rfl rfl fun Y Z => ?_; simp only [zz, reduceIte, Nat.reduceEqDiff, Nat.reduceAdd]; refine Z _ _ ?_; clear Z Y)
 refine S.nil ?_
 simp only [ze, reduceIte, Nat.reduceEqDiff, Nat.reduceLeDiff, Nat.reduceAdd]
 apply_assumption
 refine AW.seq_k fun K2 h2 => ?_
 refine AW.reg0 ?_
 iterate 3 (refine S.g rfl rfl fun Y Z => ?_; simp only [zz, reduceIte, Nat.reduceEqDiff, Nat.reduceAdd]; refine Z _ _ ?_; clear Z Y)
 refine S.nil ?_
 simp only [ze, reduceIte, Nat.reduceEqDiff, Nat.reduceLeDiff, Nat.reduceAdd]
 apply_assumption
 refine AW.seq_k fun K3 h3 => ?_
 refine AW.block ?_   -- 0
 refine AW.loop (fun m s σ => σ = Hp.empty ∧ s.t 0 = .c (.slice none 0 0) ∧ s.t 1 = .c (.int .i64 0) ∧ s.t 2 = .fn (.func 24) [] [] ∧ s.t 6 = .c (.int .i64 20) ∧ s.t 7 = .c (.int .i64 0) ∧ s.t 8 = .c (.int .i64 20)) 0 ?_ ?_
 ·simp only [zs, reduceIte, Nat.reduceEqDiff, Nat.reduceLeDiff, Nat.reduceAdd]
 rintro m s σ ⟨rfl, e0, e1, e2, e6, e7, e8⟩
 refine AW.seq_k fun K4 h4 => ?_
 refine AW.seq_k fun K5 h5 => ?_
 refine AW.reg0 ?_
 iterate 3 (refine S.g rfl rfl fun Y Z => ?_; simp only [zz, reduceIte, Nat.reduceEqDiff, Nat.reduceAdd, e1, e8]; refine Z _ _ ?_; clear Z Y)
 refine S.nil ?_
 simp only [ze, reduceIte, Nat.reduceEqDiff, Nat.reduceLeDiff, Nat.reduceAdd, e1, e8]
 apply_assumption
 refine AW.cond (b := false) (by simp [ev]) (fun hc => by cases hc) (fun hc => AW.exit ?_)
 simp only [zs, reduceIte, Nat.reduceEqDiff, Nat.reduceLeDiff, Nat.reduceAdd]
 apply_assumption
 refine AW.seq_k fun K6 h6 => ?_
 refine AW.region (T := { raw := fun d => d == 73 }) (fun _ _ h => by cases h) rfl ?_
 iterate 4 (refine S.g rfl rfl fun Y Z => ?_; simp only [zz, reduceIte, Nat.reduceEqDiff, Nat.reduceAdd, e0, e1, e2, e7]; refine Z _ _ ?_; clear Z Y)
 (refine S.g rfl rfl fun Y Z => ?_; simp only [zz, reduceIte, Nat.reduceEqDiff, Nat.reduceLeDiff, Nat.reduceAdd, e0, e1, e2, e7]; refine PCalls.eqto insort_nil ?_ <;> (refine Z _ _ ?_; clear Z Y))
 refine S.nil ?_
 simp only [ze, reduceIte, Nat.reduceEqDiff, Nat.reduceLeDiff, Nat.reduceAdd, e0, e1, e2, e7]
 apply_assumption
 refine AW.block ?_   -- 2
 refine AW.loop (fun m s σ => σ = Hp.empty ∧ s.t 1 = .c (.int .i64 0) ∧ s.t 6 = .c (.int .i64 20)) 0 ?_ ?_
 ·simp only [zs, reduceIte, Nat.reduceEqDiff, Nat.reduceLeDiff, Nat.reduceAdd]
  exact ⟨e1, e6⟩
 rintro m2 s2 σ2 ⟨rfl, f1, f6⟩
 refine AW.seq_k fun K7 h7 => ?_
 refine AW.seq_k fun K8 h8 => ?_
 refine AW.reg0 ?_
 iterate 3 (refine S.g rfl rfl fun Y Z => ?_; simp only [zz, reduceIte, Nat.reduceEqDiff, Nat.reduceAdd, f1, f6]; refine Z _ _ ?_; clear Z Y)
 refine S.nil ?_
 simp only [ze, reduceIte, Nat.reduceEqDiff, Nat.reduceLeDiff, Nat.reduceAdd, f1, f6]
 apply_assumption
 refine AW.cond (b := false) (by simp [ev]) (fun hc => by cases hc) (fun hc => AW.exit ?_)
 simp only [zs, reduceIte, Nat.reduceEqDiff, Nat.reduceLeDiff, Nat.reduceAdd]
 rfl
theorem sort_nil : PCalls Tryz.prog 23 [.c (.slice none 0 0), .fn (.func 24) [] []] (fun v => v = .tup []) := by
  refine PCalls.intro Tryz.call23 Tryz.func23 rfl Tryz.ntmps23 Tryz.results23 (by simp) ?_
  refine AW.mono (Q := thenS (fun s' σ' => σ' = Hp.empty) (fun _ _ _ => False)) ?_ ?_
  · skip
    refine AW.region (T := { raw := fun d => d == 46 }) (fun _ _ h => by cases h) rfl ?_
    iterate 4 (refine S.g rfl rfl fun Y Z => ?_; simp only [zz, reduceIte, Nat.reduceEqDiff, Nat.reduceLeDiff, Nat.reduceAdd, sl22, el22, ok38, sz38, ag38]; refine Z _ _ ?_; clear Z Y)
    (refine S.g rfl rfl fun Y Z => ?_; simp only [zz, reduceIte, Nat.reduceEqDiff, Nat.reduceLeDiff, Nat.reduceAdd]; refine PCalls.eqto stable_nil ?_ <;> (refine Z _ _ ?_; clear Z Y))
    refine S.nil ?_
    simp only [ze, reduceIte, Nat.reduceEqDiff, Nat.reduceLeDiff, Nat.reduceAdd]
  rintro e s σ hq
  cases e with
  | normal =>
    obtain rfl : σ = Hp.empty := hq
    simp only [zs, reduceIte, Nat.reduceEqDiff, Nat.reduceLeDiff, Nat.reduceAdd]
    rfl
  | _ => exact hq.elim
theorem merge_nil : PCalls Tryz.prog 5 [.agg [.sl []], .agg [.sl []]] (fun v => v = .tup [.agg [.sl []], .c (.bool true)]) := by
 have hok : okP [] := fun _ h => by cases h
 have hpe : partErr [] = 0 := rfl
 refine PCalls.intro Tryz.call5 Tryz.func5 rfl Tryz.ntmps5 Tryz.results5 (by simp) ?_
 refine AW.seq_k fun K1 h1 => ?_
 refine AW.reg0 ?_
 iterate 4 (refine S.g rfl rfl fun Y Z => ?_; simp only [zz, reduceIte, Nat.reduceEqDiff, Nat.reduceLT, Nat.reduceLeDiff, Nat.reduceAdd, reduceCtorEq, Nat.reduceMul, ok24, sz24, ag24, zt24]; refine Z _ _ ?_; clear Z Y)
 refine S.nil ?_
 simp only [ze, reduceIte, Nat.reduceEqDiff, Nat.reduceLT, Nat.reduceLeDiff, Nat.reduceAdd, reduceCtorEq, Nat.reduceMul]
 apply_assumption
 refine AW.seq_k fun K2 h2 => ?_
 refine AW.seq_k fun K3 h3 => ?_
 refine AW.reg0 ?_
 (refine S.g rfl rfl fun Y Z => ?_; simp only [zz, reduceIte, Nat.reduceEqDiff, Nat.reduceLT, Nat.reduceLeDiff, Nat.reduceAdd, reduceCtorEq, Nat.reduceMul, ok24, sz24, ag24, hpe]; refine Z _ _ ?_; clear Z Y)
 (refine S.g rfl rfl fun Y Z => ?_; simp only [zz, reduceIte, Nat.reduceEqDiff, Nat.reduceLT, Nat.reduceLeDiff, Nat.reduceAdd, reduceCtorEq, Nat.reduceMul, hpe]; refine PCalls.eqto (check_part [] hok) ?_ <;> (refine Z _ _ ?_; clear Z Y))
 (refine S.g rfl rfl fun Y Z => ?_; simp only [zz, reduceIte, Nat.reduceEqDiff, Nat.reduceLT, Nat.reduceLeDiff, Nat.reduceAdd, reduceCtorEq, Nat.reduceMul, hpe]; refine S.bool fun b a9 => ?_; cases b <;> (try (exfalso; first | exact Bool.noConfusion a9 | (have h := of_decide_eq_true a9; omega) | (have h := of_decide_eq_false a9; omega))) <;> (refine Z _ _ ?_; clear Z Y))
 (refine S.g rfl rfl fun Y Z => ?_; simp only [zz, reduceIte, Nat.reduceEqDiff, Nat.reduceAdd, hpe]; refine Z _ _ ?_; clear Z Y)
 (first | (refine S.y rfl rfl rfl rfl fun Y Z => ?_; simp only [zz, reduceIte, Nat.reduceEqDiff, Nat.reduceLT, Nat.reduceLeDiff, Nat.reduceAdd, reduceCtorEq, Nat.reduceMul, ok24, sz24, ag24, hpe]; refine Z _ _ ?_; clear Z Y) | ((first | refine S.x rfl rfl rfl rfl fun Y Z => ?_ | refine S.u rfl rfl rfl rfl fun Y Z => ?_); simp only [ze, reduceIte, Nat.reduceEqDiff]; refine Z _ _ ?_; clear Z Y))
 (first | (refine S.y rfl rfl rfl rfl fun Y Z => ?_; simp only [zz, reduceIte, Nat.reduceEqDiff, Nat.reduceLT, Nat.reduceLeDiff, Nat.reduceAdd, reduceCtorEq, Nat.reduceMul, hpe]; refine PCalls.eqto (check_part [] hok) ?_ <;> (refine Z _ _ ?_; clear Z Y)) | ((first | refine S.x rfl rfl rfl rfl fun Y Z => ?_ | refine S.u rfl rfl rfl rfl fun Y Z => ?_); simp only [ze, reduceIte, Nat.reduceEqDiff]; refine Z _ _ ?_; clear Z Y))
 (first | (refine S.y rfl rfl rfl rfl fun Y Z => ?_; simp only [zz, reduceIte, Nat.reduceEqDiff, Nat.reduceAdd, hpe]; refine Z _ _ ?_; clear Z Y) | ((first | refine S.x rfl rfl rfl rfl fun Y Z => ?_ | refine S.u rfl rfl rfl rfl fun Y Z => ?_); simp only [ze, reduceIte, Nat.reduceEqDiff]; refine Z _ _ ?_; clear Z Y))
 (refine S.g rfl rfl fun Y Z => ?_; simp only [zz, reduceIte, Nat.reduceEqDiff, Nat.reduceAdd, hpe]; refine Z _ _ ?_; clear Z Y)
 refine S.nil ?_
 simp only [ze, reduceIte, Nat.reduceEqDiff, Nat.reduceLT, Nat.reduceLeDiff, Nat.reduceAdd, reduceCtorEq, Nat.reduceMul, hpe]
 apply_assumption
 refine AW.cond (b := false) (by simp [ev]) (fun hc => by cases hc) (fun hc => AW.skip ?_)
 simp only [zs, reduceIte, Nat.reduceEqDiff, Nat.reduceLT, Nat.reduceLeDiff, Nat.reduceAdd, reduceCtorEq, Nat.reduceMul]
 apply_assumption
 have htot : tot [[], []] * 80 ≤ 140737488355328 := by simp [tot]
 refine AW.seq_k fun K4 h4 => ?_
 refine AW.reg0 ?_
 iterate 4 (refine S.g rfl rfl fun Y Z => ?_; simp only [zz, reduceIte, Nat.reduceEqDiff, Nat.reduceLT, Nat.reduceLeDiff, Nat.reduceAdd, reduceCtorEq, Nat.reduceMul, of24_0, ok22, sz22, ag22, List.flatten_cons, List.flatten_nil, List.nil_append, List.map_nil]; refine Z _ _ ?_; clear Z Y)
 (refine S.g rfl rfl fun Y Z => ?_; simp only [zb, reduceIte, Nat.reduceEqDiff, Nat.reduceLT, Nat.reduceLeDiff, Nat.reduceAdd, reduceCtorEq, Nat.reduceMul, sl90, el90, ok22, sz22, ag22, zt22, by22, List.flatten_cons, List.flatten_nil, List.nil_append, List.map_nil]; refine ⟨rfl, (by simp), ?_⟩ <;> (refine Z _ _ ?_; clear Z Y))
 (refine S.g rfl rfl fun Y Z => ?_; simp only [zz, reduceIte, Nat.reduceEqDiff, Nat.reduceLT, Nat.reduceLeDiff, Nat.reduceAdd, reduceCtorEq, Nat.reduceMul, List.flatten_cons, List.flatten_nil, List.nil_append, List.map_nil]; refine PCalls.eqto (concat_frozen [[], []] (by simp) (by simp) htot) ?_ <;> (refine Z _ _ ?_; clear Z Y))
 (refine S.g rfl rfl fun Y Z => ?_; simp only [zz, reduceIte, Nat.reduceEqDiff, Nat.reduceLT, Nat.reduceLeDiff, Nat.reduceAdd, reduceCtorEq, Nat.reduceMul, zt24, pl24, List.flatten_cons, List.flatten_nil, List.nil_append, List.map_nil]; refine Z _ _ ?_; clear Z Y)
 (refine S.g rfl rfl fun Y Z => ?_; simp only [zz, reduceIte, Nat.reduceEqDiff, Nat.reduceLT, Nat.reduceLeDiff, Nat.reduceAdd, reduceCtorEq, Nat.reduceMul, List.flatten_cons, List.flatten_nil, List.nil_append, List.map_nil]; refine ((clone_grow [] (by simp) (by simp)).to fun v σ1 hv => ?_); replace hv := hv.resolve_right (fun h => by obtain ⟨_, h, _⟩ := h; exact h rfl); obtain ⟨_, rfl, rfl⟩ := hv <;> (refine Z _ _ ?_; clear Z Y))
 iterate 2 (refine S.g rfl rfl fun Y Z => ?_; simp only [zz, reduceIte, Nat.reduceEqDiff, Nat.reduceLT, Nat.reduceLeDiff, Nat.reduceAdd, reduceCtorEq, Nat.reduceMul, zt24, ok24, sz24, ag24, List.flatten_cons, List.flatten_nil, List.nil_append, List.map_nil]; refine Z _ _ ?_; clear Z Y)
 refine S.nil ?_
 simp only [ze, reduceIte, Nat.reduceEqDiff, Nat.reduceLT, Nat.reduceLeDiff, Nat.reduceAdd, reduceCtorEq, Nat.reduceMul, List.flatten_cons, List.flatten_nil, List.nil_append, List.map_nil]
 apply_assumption
 refine AW.seq_k fun K5 h5 => ?_
 refine AW.region (T := { raw := fun d => d == 23 }) (fun _ _ h => by cases h) rfl ?_
 iterate 2 (refine S.g rfl rfl fun Y Z => ?_; simp only [zz, reduceIte, Nat.reduceEqDiff, Nat.reduceLT, Nat.reduceLeDiff, Nat.reduceAdd, reduceCtorEq, Nat.reduceMul, of24_0, ok22, sz22, ag22]; refine Z _ _ ?_; clear Z Y)
 (refine S.g rfl rfl fun Y Z => ?_; simp only [zz, reduceIte, Nat.reduceEqDiff, Nat.reduceLT, Nat.reduceLeDiff, Nat.reduceAdd, reduceCtorEq, Nat.reduceMul]; refine PCalls.eqto sort_nil ?_ <;> (refine Z _ _ ?_; clear Z Y))
 refine S.nil ?_
 simp only [ze, reduceIte, Nat.reduceEqDiff, Nat.reduceLT, Nat.reduceLeDiff, Nat.reduceAdd, reduceCtorEq, Nat.reduceMul]
 apply_assumption
 refine AW.seq_k fun K6 h6 => ?_
 refine AW.seq_k fun K7 h7 => ?_
 refine AW.reg0 ?_
 (refine S.g rfl rfl fun Y Z => ?_; simp only [zz, reduceIte, Nat.reduceEqDiff, Nat.reduceLT, Nat.reduceLeDiff, Nat.reduceAdd, reduceCtorEq, Nat.reduceMul, ok24, sz24, ag24, hpe]; refine Z _ _ ?_; clear Z Y)
 (refine S.g rfl rfl fun Y Z => ?_; simp only [zz, reduceIte, Nat.reduceEqDiff, Nat.reduceLT, Nat.reduceLeDiff, Nat.reduceAdd, reduceCtorEq, Nat.reduceMul, hpe]; refine PCalls.eqto (check_part [] hok) ?_ <;> (refine Z _ _ ?_; clear Z Y))
 (refine S.g rfl rfl fun Y Z => ?_; simp only [zz, reduceIte, Nat.reduceEqDiff, Nat.reduceAdd, hpe]; refine Z _ _ ?_; clear Z Y)
 refine S.nil ?_
 simp only [ze, reduceIte, Nat.reduceEqDiff, Nat.reduceLT, Nat.reduceLeDiff, Nat.reduceAdd, reduceCtorEq, Nat.reduceMul, hpe]
 apply_assumption
 refine AW.cond (b := false) (by simp [ev]) (fun hc => by cases hc) (fun hc => AW.skip ?_)
 simp only [zs, reduceIte, Nat.reduceEqDiff, Nat.reduceLT, Nat.reduceLeDiff, Nat.reduceAdd, reduceCtorEq, Nat.reduceMul]
 apply_assumption
 refine AW.seq_k fun K8 h8 => ?_
 refine AW.reg0 ?_
 iterate 3 (refine S.g rfl rfl fun Y Z => ?_; simp only [zz, reduceIte, Nat.reduceEqDiff, Nat.reduceLT, Nat.reduceLeDiff, Nat.reduceAdd, reduceCtorEq, Nat.reduceMul, ok24, sz24, ag24]; refine Z _ _ ?_; clear Z Y)
 refine S.nil ?_
 simp only [ze, reduceIte, Nat.reduceEqDiff, Nat.reduceLT, Nat.reduceLeDiff, Nat.reduceAdd, reduceCtorEq, Nat.reduceMul]
 apply_assumption
 refine AW.ret ?_
 simp only [zs, reduceIte, Nat.reduceEqDiff, Nat.reduceLT, Nat.reduceLeDiff, Nat.reduceAdd, reduceCtorEq, Nat.reduceMul, qLoad, ok24, sz24, ag24, cut, List.drop_zero, List.take_succ_cons, List.take_zero, List.map]
end Go.Abs.M
namespace Go.Abs.MX
open Go Go.Abs Go.Proofs Go.Abs.M
set_option maxRecDepth 20000
set_option linter.unusedSimpArgs false
set_option linter.unusedVariables false
/-- The list, read while nobody writes. -/
theorem Own.thaw {σ : Hp} {k : Nat} {xs : List Bd} (h : Own σ k xs) (n : Nat) : thaw σ (n + 2) (.gl k) = .sl ((xs.map Bd.b).map M.encBd) := by
 have hrow := h.row
 simp only [Abs.thaw, hrow, List.map_map]
 congr 1
 refine List.map_congr_left fun x hx => ?_
 simp only [Function.comp, encBd, M.encBd, List.map]
 rcases h.av x hx with ⟨h1, h2⟩ | ⟨j, h1, h2⟩
 ·rw [h1, h2]; cases n <;> rfl
 ·rw [h1]
  simp only [Abs.thaw, h2]
  have : ∀ l : List (List V), (l.map fun e => e.map (Abs.thaw σ n)) = l ∨ True := fun _ => .inr trivial
  congr 6
  have hid : ∀ v, (∃ y, v = V.c y) → Abs.thaw σ n v = v := fun v ⟨y, hy⟩ => by subst hy; cases n <;> rfl
  simp only [List.map_map]
  congr 1
  refine List.map_congr_left fun a ha => ?_
  simp only [Function.comp, encAttr, List.map]
  rw [hid _ ⟨_, rfl⟩]
  try simp only [hid _ ⟨_, rfl⟩]
/-- The rows in another order. -/
theorem Own.sorted {σ : Hp} {k : Nat} {xs ys : List Bd} (h : Own σ k xs) (hs : Sub xs ys) : Own ((hpB k ys).over σ (hpB k xs)) k ys := by
 have hp := hs.perm
 refine ⟨by simp [Hp.over, hpB], fun x hx => ?_, ?_⟩
 ·rcases h.av x (hp.mem_iff.1 hx) with hy | ⟨j, h1, h2⟩
  ·exact .inl hy
  ·have e1 : j ≠ k := fun e => by
    have := h.row
    rw [← e, h2] at this; injection this with this; injection this with this; cases this
   exact .inr ⟨j, h1, by simp [Hp.over, hpB, e1, Hp.empty, h2]⟩
 ·exact (hp.pairwise_iff (fun {x y} hxy j hj e => hxy j e hj)).2 h.ap
/-- What Merge tells: nothing, or bounds of its own. -/
def MergeO (a b : List M.Bd) (v : V) (σ : Hp) : Prop := (∃ e, v = .tup [.agg [.sl []], .c (.bool e)]) ∨ ∃ k xs e, v = .tup [.agg [.gl k], .c (.bool e)] ∧ Own σ k xs ∧ (∀ x ∈ xs, x.b ∈ a ++ b) ∧ xs.length = (a ++ b).length
theorem thaw3 (σ : Hp) (n : Nat) (vs : List V) : thaw σ (n + 1) (.agg vs) = .agg (vs.map (thaw σ n)) := rfl
theorem merge_own (a b : List M.Bd) (ha : okP a) (hb : okP b) (hat : ∀ x ∈ a ++ b, x.ev.attrs.length * 48 ≤ 140737488355328) :
  ACalls Tryz.prog 5 [.agg [.sl (a.map M.encBd)], .agg [.sl (b.map M.encBd)]] Hp.empty (MergeO a b) := by
 by_cases hne : a ++ b = []
 ·obtain ⟨rfl, rfl⟩ := List.append_eq_nil_iff.1 hne
  refine ACalls.mono merge_nil fun v σ h => ?_
  obtain ⟨-, rfl⟩ := h
  exact .inl ⟨_, rfl⟩
 refine ACalls.intro Tryz.call5 Tryz.func5 rfl Tryz.ntmps5 Tryz.results5 (by simp) ?_
 refine AW.seq_k fun K1 h1 => ?_
 all_goals refine AW.reg0 ?_
 all_goals iterate 4 (refine S.g rfl rfl fun Y Z => ?_; simp only [zz, reduceIte, Nat.reduceEqDiff, Nat.reduceLT, Nat.reduceLeDiff, Nat.reduceAdd, reduceCtorEq, Nat.reduceMul, ok24, sz24, ag24, zt24]; refine Z _ _ ?_; clear Z Y)
 all_goals refine S.nil ?_
 all_goals simp only [ze, reduceIte, Nat.reduceEqDiff, Nat.reduceLT, Nat.reduceLeDiff, Nat.reduceAdd, reduceCtorEq, Nat.reduceMul]
 all_goals apply_assumption
 refine AW.seq_k fun K2 h2 => ?_
 refine AW.seq_j (fun s' σ' => σ' = Hp.empty ∧ s'.t 2 = .lp 2 0 ∧ s'.l 2 = some [.sl (a.map M.encBd)] ∧ s'.t 3 = .lp 3 0 ∧ s'.l 3 = some [.sl (b.map M.encBd)] ∧ s'.t 4 = .lp 4 0 ∧ s'.l 4 = some [.c (.slice none 0 0)] ∧ s'.t 14 = .c (.bool (decide (partErr a ≠ 0 ∨ partErr b ≠ 0)))) ?_ ?_
 ·skip
  all_goals refine AW.reg0 ?_
  all_goals (refine S.g rfl rfl fun Y Z => ?_; simp only [zz, reduceIte, Nat.reduceEqDiff, Nat.reduceLT, Nat.reduceLeDiff, Nat.reduceAdd, reduceCtorEq, Nat.reduceMul, ok24, sz24, ag24]; refine Z _ _ ?_; clear Z Y)
  all_goals (refine S.g rfl rfl fun Y Z => ?_; simp only [zz, reduceIte, Nat.reduceEqDiff, Nat.reduceLT, Nat.reduceLeDiff, Nat.reduceAdd, reduceCtorEq, Nat.reduceMul]; refine PCalls.eqto (check_part a ha) ?_ <;> (refine Z _ _ ?_; clear Z Y))
  all_goals (refine S.g rfl rfl fun Y Z => ?_; simp only [zz, reduceIte, Nat.reduceEqDiff, Nat.reduceLT, Nat.reduceLeDiff, Nat.reduceAdd, reduceCtorEq, Nat.reduceMul]; refine S.bool fun b a9 => ?_; cases b <;> (try (exfalso; first | exact Bool.noConfusion a9 | (have h := of_decide_eq_true a9; omega) | (have h := of_decide_eq_false a9; omega))) <;> (refine Z _ _ ?_; clear Z Y))
  all_goals (refine S.g rfl rfl fun Y Z => ?_; simp only [zz, reduceIte, Nat.reduceEqDiff, Nat.reduceAdd]; refine Z _ _ ?_; clear Z Y)
  all_goals (first | (refine S.y rfl rfl rfl rfl fun Y Z => ?_; simp only [zz, reduceIte, Nat.reduceEqDiff, Nat.reduceLT, Nat.reduceLeDiff, Nat.reduceAdd, reduceCtorEq, Nat.reduceMul, ok24, sz24, ag24]; refine Z _ _ ?_; clear Z Y) | ((first | refine S.x rfl rfl rfl rfl fun Y Z => ?_ | refine S.u rfl rfl rfl rfl fun Y Z => ?_); simp only [ze, reduceIte, Nat.reduceEqDiff]; refine Z _ _ ?_; clear Z Y))
  all_goals (first | (refine S.y rfl rfl rfl rfl fun Y Z => ?_; simp only [zz, reduceIte, Nat.reduceEqDiff, Nat.reduceLT, Nat.reduceLeDiff, Nat.reduceAdd, reduceCtorEq, Nat.reduceMul]; refine PCalls.eqto (check_part b hb) ?_ <;> (refine Z _ _ ?_; clear Z Y)) | ((first | refine S.x rfl rfl rfl rfl fun Y Z => ?_ | refine S.u rfl rfl rfl rfl fun Y Z => ?_); simp only [ze, reduceIte, Nat.reduceEqDiff]; refine Z _ _ ?_; clear Z Y))
  all_goals (first | (refine S.y rfl rfl rfl rfl fun Y Z => ?_; simp only [zz, reduceIte, Nat.reduceEqDiff, Nat.reduceAdd]; refine Z _ _ ?_; clear Z Y) | ((first | refine S.x rfl rfl rfl rfl fun Y Z => ?_ | refine S.u rfl rfl rfl rfl fun Y Z => ?_); simp only [ze, reduceIte, Nat.reduceEqDiff]; refine Z _ _ ?_; clear Z Y))
  all_goals (refine S.g rfl rfl fun Y Z => ?_; simp only [zz, reduceIte, Nat.reduceEqDiff, Nat.reduceAdd]; refine Z _ _ ?_; clear Z Y)
  all_goals refine S.nil ?_
  all_goals simp only [ze, reduceIte, Nat.reduceEqDiff, Nat.reduceLT, Nat.reduceLeDiff, Nat.reduceAdd, reduceCtorEq, Nat.reduceMul]
  all_goals simp_all
  by_cases h0 : partErr b = 0 <;> simp [h0]
 rintro s σ ⟨rfl, e2, l2, e3, l3, e4, l4, e14⟩
 refine AW.cond (b := _) e14 (fun hc => ?_) (fun hc => ?_)
 ·have hx := of_decide_eq_true hc
  refine AW.seq_k fun K3 h3 => ?_
  all_goals refine AW.reg0 ?_
  all_goals (refine S.g rfl rfl fun Y Z => ?_; simp only [zz, reduceIte, Nat.reduceEqDiff, Nat.reduceLT, Nat.reduceLeDiff, Nat.reduceAdd, reduceCtorEq, Nat.reduceMul, zt24, pl24, e4, l4]; refine Z _ _ ?_; clear Z Y)
  all_goals iterate 2 (refine S.g rfl rfl fun Y Z => ?_; simp only [zz, reduceIte, Nat.reduceEqDiff, Nat.reduceLT, Nat.reduceLeDiff, Nat.reduceAdd, reduceCtorEq, Nat.reduceMul, ok24, sz24, ag24, e4, l4]; refine Z _ _ ?_; clear Z Y)
  all_goals refine S.nil ?_
  all_goals simp only [ze, reduceIte, Nat.reduceEqDiff, Nat.reduceLT, Nat.reduceLeDiff, Nat.reduceAdd, reduceCtorEq, Nat.reduceMul, e4, l4]
  all_goals apply_assumption
  refine AW.ret ?_
  all_goals simp only [zs, reduceIte, Nat.reduceEqDiff, Nat.reduceLT, Nat.reduceLeDiff, Nat.reduceAdd, reduceCtorEq, Nat.reduceMul, qLoad, ok24, sz24, ag24, cut, List.drop_zero, List.take_succ_cons, List.take_zero, List.map, e4]
  exact .inl ⟨_, rfl⟩
 ·have hx := of_decide_eq_false hc
  refine AW.skip ?_
  all_goals simp only [zs, reduceIte, Nat.reduceEqDiff, Nat.reduceLT, Nat.reduceLeDiff, Nat.reduceAdd, reduceCtorEq, Nat.reduceMul]
  all_goals apply_assumption
  have hla : a.length ≤ 12 := by
   by_cases h : 12 < a.length
   ·exact absurd (.inl (by simp [partErr, h])) hx
   ·omega
  have hlb : b.length ≤ 12 := by
   by_cases h : 12 < b.length
   ·exact absurd (.inr (by simp [partErr, h])) hx
   ·omega
  have htot : tot [a, b] * 80 ≤ 140737488355328 := by simp only [tot, List.map_cons, List.map_nil, List.sum_cons, List.sum_nil]; omega
  have hlen : (a ++ b).length * 80 ≤ 140737488355328 := by rw [List.length_append]; omega
  have hfl : [a, b].flatten = a ++ b := by simp
  refine AW.seq_k fun K4 h4 => ?_
  all_goals refine AW.reg0 ?_
  all_goals iterate 4 (refine S.g rfl rfl fun Y Z => ?_; simp only [zz, reduceIte, Nat.reduceEqDiff, Nat.reduceLT, Nat.reduceLeDiff, Nat.reduceAdd, reduceCtorEq, Nat.reduceMul, of24_0, ok22, sz22, ag22, e2, l2, e3, l3, e4, l4, hfl]; refine Z _ _ ?_; clear Z Y)
  all_goals (refine S.g rfl rfl fun Y Z => ?_; simp only [zb, reduceIte, Nat.reduceEqDiff, Nat.reduceLT, Nat.reduceLeDiff, Nat.reduceAdd, reduceCtorEq, Nat.reduceMul, sl90, el90, ok22, sz22, ag22, zt22, by22, e2, l2, e3, l3, e4, l4, hfl]; refine ⟨rfl, (by simp), ?_⟩ <;> (refine Z _ _ ?_; clear Z Y))
  all_goals (refine S.g rfl rfl fun Y Z => ?_; simp only [zz, reduceIte, Nat.reduceEqDiff, Nat.reduceLT, Nat.reduceLeDiff, Nat.reduceAdd, reduceCtorEq, Nat.reduceMul, e2, l2, e3, l3, e4, l4, hfl]; refine PCalls.eqto (concat_frozen [a, b] (by simp) (by simp) htot) ?_ <;> (refine Z _ _ ?_; clear Z Y))
  all_goals (refine S.g rfl rfl fun Y Z => ?_; simp only [zz, reduceIte, Nat.reduceEqDiff, Nat.reduceLT, Nat.reduceLeDiff, Nat.reduceAdd, reduceCtorEq, Nat.reduceMul, zt24, pl24, e2, l2, e3, l3, e4, l4, hfl]; refine Z _ _ ?_; clear Z Y)
  all_goals (refine S.g rfl rfl fun Y Z => ?_; simp only [zz, reduceIte, Nat.reduceEqDiff, Nat.reduceLT, Nat.reduceLeDiff, Nat.reduceAdd, reduceCtorEq, Nat.reduceMul, e2, l2, e3, l3, e4, l4, hfl]; refine ((clone_own (a ++ b) hat hlen).to fun v σ1 hv => ?_); obtain ⟨k, xs, rfl, hxs, hown⟩ := hv.resolve_left (fun h => hne h.1) <;> (refine Z _ _ ?_; clear Z Y))
  all_goals iterate 2 (refine S.g rfl rfl fun Y Z => ?_; simp only [zz, reduceIte, Nat.reduceEqDiff, Nat.reduceLT, Nat.reduceLeDiff, Nat.reduceAdd, reduceCtorEq, Nat.reduceMul, zt24, ok24, sz24, ag24, e2, l2, e3, l3, e4, l4, hfl]; refine Z _ _ ?_; clear Z Y)
  all_goals refine S.nil ?_
  all_goals simp only [ze, reduceIte, Nat.reduceEqDiff, Nat.reduceLT, Nat.reduceLeDiff, Nat.reduceAdd, reduceCtorEq, Nat.reduceMul, e2, l2, e3, l3, e4, l4, hfl]
  all_goals apply_assumption
  have hmem : ∀ ys : List Bd, Sub xs ys → ∀ y ∈ ys, y.b ∈ a ++ b := fun ys hys y hy => by
   rw [← hxs]; exact List.mem_map_of_mem (hys.perm.mem_iff.1 hy)
  have hpo : ∀ ys : List Bd, Sub xs ys → okP (ys.map Bd.b) := fun ys hys x hx => by
   obtain ⟨y, hy, rfl⟩ := List.mem_map.1 hx
   rcases List.mem_append.1 (hmem ys hys y hy) with h | h
   ·exact ha _ h
   ·exact hb _ h
  have hxl : xs.length < 2147483648 := by
   have := congrArg List.length hxs
   rw [List.length_map, List.length_append] at this; omega
  have hle : ∀ j y, (hpB k xs).gr j = some y → σ1.gr j = some y := fun j y hy => by
   by_cases e : j = k
   ·subst e; simp [hpB] at hy; rw [← hy]; exact hown.row
   ·simp [hpB, e, Hp.empty] at hy
  refine AW.seq_k fun K5 h5 => ?_
  all_goals refine AW.reg0 ?_
  all_goals iterate 2 (refine S.g rfl rfl fun Y Z => ?_; simp only [zz, reduceIte, Nat.reduceEqDiff, Nat.reduceLT, Nat.reduceLeDiff, Nat.reduceAdd, reduceCtorEq, Nat.reduceMul, of24_0, ok22, sz22, ag22]; refine Z _ _ ?_; clear Z Y)
  all_goals (refine S.g rfl rfl fun Y Z => ?_; simp only [zz, reduceIte, Nat.reduceEqDiff, Nat.reduceLT, Nat.reduceLeDiff, Nat.reduceAdd, reduceCtorEq, Nat.reduceMul]; refine ((sort_x xs k (by omega)).frame ⟨fun g c hc => (by cases hc), fun j y hy => hle j y hy⟩).to fun v σ1 hv => ?_; obtain ⟨σ2, ⟨rfl, ys, hys, rfl⟩, hfr, rfl⟩ := hv; have hown2 := hown.sorted hys <;> (refine Z _ _ ?_; clear Z Y))
  all_goals refine S.nil ?_
  all_goals simp only [ze, reduceIte, Nat.reduceEqDiff, Nat.reduceLT, Nat.reduceLeDiff, Nat.reduceAdd, reduceCtorEq, Nat.reduceMul]
  all_goals apply_assumption
  refine AW.seq_j (fun s' σ' => σ' = (hpB k ys).over σ1 (hpB k xs) ∧ s'.t 6 = .lp 6 0 ∧ s'.l 6 = some [.gl k] ∧ s'.t 4 = .lp 4 0 ∧ s'.l 4 = some [.c (.slice none 0 0)]) ?_ ?_
  ·refine AW.seq_j (fun s' σ' => σ' = (hpB k ys).over σ1 (hpB k xs) ∧ s'.t 6 = .lp 6 0 ∧ s'.l 6 = some [.gl k] ∧ s'.t 4 = .lp 4 0 ∧ s'.l 4 = some [.c (.slice none 0 0)] ∧ ∃ b, s'.t 29 = .c (.bool b)) ?_ ?_
   ·skip
    all_goals refine AW.reg0 ?_
    all_goals (refine S.g rfl rfl fun Y Z => ?_; simp only [zz, reduceIte, Nat.reduceEqDiff, Nat.reduceLT, Nat.reduceLeDiff, Nat.reduceAdd, reduceCtorEq, Nat.reduceMul, ok24, sz24, ag24, e4, l4]; refine Z _ _ ?_; clear Z Y)
    all_goals (refine S.g rfl rfl fun Y Z => ?_; simp only [zz, reduceIte, Nat.reduceEqDiff, Nat.reduceLT, Nat.reduceLeDiff, Nat.reduceAdd, reduceCtorEq, Nat.reduceMul, e4, l4]; refine (PCalls.lendAll 3 (by simp only [List.map, thaw3, hown2.thaw 0]; exact check_part (ys.map Bd.b) (hpo ys hys)) (fun v hv => (by rw [hv]; rfl))).to fun v σ3 hv => ?_; obtain ⟨rfl, rfl⟩ := hv <;> (refine Z _ _ ?_; clear Z Y))
    all_goals (refine S.g rfl rfl fun Y Z => ?_; simp only [zz, reduceIte, Nat.reduceEqDiff, Nat.reduceAdd, e4, l4]; refine Z _ _ ?_; clear Z Y)
    all_goals refine S.nil ?_
    all_goals simp only [ze, reduceIte, Nat.reduceEqDiff, Nat.reduceLT, Nat.reduceLeDiff, Nat.reduceAdd, reduceCtorEq, Nat.reduceMul, e4, l4]
    exact ⟨_, rfl⟩
   rintro s2 σ2 ⟨rfl, f6, k6, f4, k4, bb, f29⟩
   refine AW.cond (b := bb) f29 (fun hc2 => ?_) (fun hc2 => ?_)
   ·refine AW.seq_k fun K6 h6 => ?_
    all_goals refine AW.reg0 ?_
    all_goals (refine S.g rfl rfl fun Y Z => ?_; simp only [zz, reduceIte, Nat.reduceEqDiff, Nat.reduceLT, Nat.reduceLeDiff, Nat.reduceAdd, reduceCtorEq, Nat.reduceMul, zt24, pl24, f4, k4]; refine Z _ _ ?_; clear Z Y)
    all_goals iterate 2 (refine S.g rfl rfl fun Y Z => ?_; simp only [zz, reduceIte, Nat.reduceEqDiff, Nat.reduceLT, Nat.reduceLeDiff, Nat.reduceAdd, reduceCtorEq, Nat.reduceMul, ok24, sz24, ag24, f4, k4]; refine Z _ _ ?_; clear Z Y)
    all_goals refine S.nil ?_
    all_goals simp only [ze, reduceIte, Nat.reduceEqDiff, Nat.reduceLT, Nat.reduceLeDiff, Nat.reduceAdd, reduceCtorEq, Nat.reduceMul, f4, k4]
    all_goals apply_assumption
    refine AW.ret ?_
    all_goals simp only [zs, reduceIte, Nat.reduceEqDiff, Nat.reduceLT, Nat.reduceLeDiff, Nat.reduceAdd, reduceCtorEq, Nat.reduceMul, qLoad, ok24, sz24, ag24, cut, List.drop_zero, List.take_succ_cons, List.take_zero, List.map, f4]
    exact .inl ⟨_, rfl⟩
   ·refine AW.skip ?_
    all_goals simp only [zs, reduceIte, Nat.reduceEqDiff, Nat.reduceLT, Nat.reduceLeDiff, Nat.reduceAdd, reduceCtorEq, Nat.reduceMul]
    exact ⟨f6, k6, f4, k4⟩
  rintro s2 σ2 ⟨rfl, f6, k6, f4, k4⟩
  refine AW.seq_k fun K7 h7 => ?_
  all_goals refine AW.reg0 ?_
  all_goals iterate 3 (refine S.g rfl rfl fun Y Z => ?_; simp only [zz, reduceIte, Nat.reduceEqDiff, Nat.reduceLT, Nat.reduceLeDiff, Nat.reduceAdd, reduceCtorEq, Nat.reduceMul, ok24, sz24, ag24, f6, k6, f4, k4]; refine Z _ _ ?_; clear Z Y)
  all_goals refine S.nil ?_
  all_goals simp only [ze, reduceIte, Nat.reduceEqDiff, Nat.reduceLT, Nat.reduceLeDiff, Nat.reduceAdd, reduceCtorEq, Nat.reduceMul, f6, k6, f4, k4]
  all_goals apply_assumption
  refine AW.ret ?_
  all_goals simp only [zs, reduceIte, Nat.reduceEqDiff, Nat.reduceLT, Nat.reduceLeDiff, Nat.reduceAdd, reduceCtorEq, Nat.reduceMul, qLoad, ok24, sz24, ag24, cut, List.drop_zero, List.take_succ_cons, List.take_zero, List.map, f4]
  exact .inr ⟨k, ys, _, rfl, hown2, hmem ys hys, by rw [hys.1, ← hxs, List.length_map]⟩
end Go.Abs.MX
namespace Go.Abs.M
open Go Go.Abs Go.Proofs
theorem bytesLess_eq' : ∀ (x y : List UInt8), Op.bytesLess x y = decide (x < y)
  | [], [] => by simp [Op.bytesLess]
  | _ :: _, [] => by simp [Op.bytesLess]
  | [], _ :: _ => by simp [Op.bytesLess]
  | a :: x, b :: y => by
    rw [Op.bytesLess, bytesLess_eq' x y]
    simp only [List.cons_lt_cons_iff]
    by_cases h1 : a < b <;> by_cases h2 : a = b <;> by_cases h3 : x < y <;> simp [h1, h2, h3]
theorem leS_iff (a b : ByteArray) : leS a b = true ↔ ¬ b.toList < a.toList := by
 simp only [leS, bytesLess_eq', Bool.or_eq_true, decide_eq_true_eq, beq_iff_eq]
 constructor
 ·rintro (h | h)
  ·exact List.lt_asymm h
  ·rw [h]; exact List.lt_irrefl _
 ·intro h
  have h : a.toList ≤ b.toList := h
  by_cases e : a.toList = b.toList
  ·exact .inr e
  ·rcases List.le_iff_lt_or_eq.1 h with h | h
   ·exact .inl h
   ·exact absurd h e
theorem leS_false (a b : ByteArray) : leS a b = false ↔ b.toList < a.toList := by
  rw [← Bool.not_eq_true, leS_iff, Decidable.not_not]
theorem leS_trans {a b c : ByteArray} (h : leS a b = true) (k : leS b c = true) : leS a c = true := by
 rw [leS_iff] at *
 exact List.le_trans (show a.toList ≤ b.toList from h) (show b.toList ≤ c.toList from k)
theorem leS_total {a b : ByteArray} (h : leS a b = false) : leS b a = true := by
  rw [leS_false] at h; rw [leS_iff]; exact List.lt_asymm h
theorem cmpS_neg (a b : ByteArray) : cmpS a b < 0 ↔ leS b a = false := by
 rw [leS_false]
 unfold cmpS
 rw [bytesLess_eq']
 by_cases h : a.toList < b.toList
 ·simp [h]
 ·simp only [h, decide_false, Bool.false_eq_true, if_false, Bool.false_or, iff_false]
  split <;> omega
def insL : List Bd → Bd → List Bd
  | [], y => [y]
  | x :: p, y => if leS x.var y.var = true then x :: insL p y else y :: x :: p
def Srt : List Bd → Prop
  | [] => True
  | x :: p => (∀ y ∈ p, leS x.var y.var = true) ∧ Srt p
theorem Srt.append {p q : List Bd} (h : Srt (p ++ q)) : Srt p ∧ Srt q ∧ ∀ x ∈ p, ∀ y ∈ q, leS x.var y.var = true := by
  induction p with
  | nil => exact ⟨trivial, h, fun x hx => by cases hx⟩
  | cons x p ih =>
    obtain ⟨h1, h2⟩ := h
    obtain ⟨a, b, c⟩ := ih h2
    refine ⟨⟨fun y hy => h1 y (List.mem_append_left _ hy), a⟩, b, fun z hz y hy => ?_⟩
    rcases List.mem_cons.1 hz with rfl | hz
    · exact h1 y (List.mem_append_right _ hy)
    · exact c z hz y hy
theorem insL_end {p : List Bd} {y : Bd} (h : ∀ x ∈ p, leS x.var y.var = true) : insL p y = p ++ [y] := by
 induction p with
 | nil => rfl
 | cons x p ih => simp only [insL]; rw [if_pos (h x List.mem_cons_self), ih (fun z hz => h z (List.mem_cons_of_mem _ hz))]; rfl
theorem insL_last {q : List Bd} {z y : Bd} (h : leS z.var y.var = false) : insL (q ++ [z]) y = insL q y ++ [z] := by
  induction q with
  | nil => simp [insL, h]
  | cons x q ih =>
    simp only [List.cons_append, insL]
    split
    · rw [ih]; rfl
    · rfl
theorem insL_mem {p : List Bd} {y z : Bd} : z ∈ insL p y ↔ z = y ∨ z ∈ p := by
  induction p with
  | nil => simp [insL]
  | cons x p ih =>
    simp only [insL]
    split
    · simp only [List.mem_cons, ih]
      constructor
      · rintro (h | h | h) <;> simp [h]
      · rintro (h | h | h) <;> simp [h]
    · simp only [List.mem_cons]
theorem insL_len (p : List Bd) (y : Bd) : (insL p y).length = p.length + 1 := by
 induction p with
 | nil => rfl
 | cons x p ih => simp only [insL]; split <;> simp [ih]
theorem insL_srt {p : List Bd} {y : Bd} (h : Srt p) : Srt (insL p y) := by
  induction p with
  | nil => exact ⟨(fun _ h => by cases h), trivial⟩
  | cons x p ih =>
    simp only [insL]
    split
    · rename_i hxy
      refine ⟨fun z hz => ?_, ih h.2⟩
      rcases insL_mem.1 hz with rfl | hz
      · exact hxy
      · exact h.1 z hz
    · rename_i hxy
      have hyx := leS_total (by simpa using hxy)
      refine ⟨fun z hz => ?_, h⟩
      rcases List.mem_cons.1 hz with rfl | hz
      · exact hyx
      · exact leS_trans hyx (h.1 z hz)
theorem sink_ins : ∀ (n : Nat) (p : List Bd) (y : Bd) (r : List Bd), p.length = n → Srt p → sink 0 n (p ++ y :: r) = insL p y ++ r := by
  intro n
  induction n with
  | zero => intro p y r hp _; rw [List.eq_nil_of_length_eq_zero hp]; rfl
  | succ n ih =>
    intro p y r hp hs
    obtain ⟨q, z, rfl⟩ : ∃ q z, p = q ++ [z] := by
      refine ⟨p.dropLast, p.getLast (by intro e; simp [e] at hp), ?_⟩
      exact (List.dropLast_concat_getLast _).symm
    have hq : q.length = n := by simpa using hp
    have g1 : (q ++ [z] ++ y :: r)[n + 1]? = some y := by simp [hq]
    have g2 : (q ++ [z] ++ y :: r)[n]? = some z := by simp [hq]
    simp only [sink, g1, g2]
    obtain ⟨hs1, hs2, hs3⟩ := hs.append
    by_cases hlt : cmpS y.var z.var < 0
    · rw [if_pos ⟨by omega, hlt⟩]
      have e : ((q ++ [z] ++ y :: r).set (n + 1) z).set n y = q ++ y :: (z :: r) := by
        subst hq
        simp
      rw [e, ih q y (z :: r) hq hs1, insL_last ((cmpS_neg _ _).1 hlt)]
      simp
    · rw [if_neg (fun h => hlt h.2)]
      have hzy : leS z.var y.var = true := by
        cases h : leS z.var y.var
        · exact absurd ((cmpS_neg _ _).2 h) hlt
        · rfl
      rw [insL_end (fun x hx => ?_)]
      · simp
      · rcases List.mem_append.1 hx with h | h
        · exact leS_trans (hs3 x h z (by simp)) hzy
        · simp at h; rw [h]; exact hzy
theorem insFrom_ins : ∀ (bs p r : List Bd), Srt p → insFrom 0 (p ++ (bs ++ r)) p.length bs.length = bs.foldl insL p ++ r := by
  intro bs
  induction bs with
  | nil => intro p r _; rfl
  | cons y bs ih =>
    intro p r hs
    have h := ih (insL p y) r (insL_srt hs)
    rw [insL_len] at h
    simp only [List.length_cons, insFrom, List.range'_succ, List.foldl_cons] at h ⊢
    rw [List.cons_append, sink_ins p.length p y (bs ++ r) rfl hs]
    exact h
theorem insort_eq (l : List Bd) : insort 0 l.length l = l.foldl insL [] := by
  cases l with
  | nil => rfl
  | cons x l =>
    have h := insFrom_ins l [x] [] ⟨(fun _ h => by cases h), trivial⟩
    simpa [insort, insL] using h
theorem foldl_skip {x : Bd} : ∀ {b a : List Bd}, (∀ y ∈ b, leS x.var y.var = true) → b.foldl insL (x :: a) = x :: b.foldl insL a := by
  intro b
  induction b with
  | nil => intro a _; rfl
  | cons y b ih =>
    intro a h
    simp only [List.foldl_cons, insL]
    rw [if_pos (h y List.mem_cons_self), ih (fun z hz => h z (List.mem_cons_of_mem _ hz))]
theorem foldl_srt : ∀ {b : List Bd}, Srt b → b.foldl insL [] = b := by
  intro b
  induction b with
  | nil => intro _; rfl
  | cons y b ih =>
    intro h
    simp only [List.foldl_cons, insL]
    rw [foldl_skip h.1, ih h.2]
theorem foldl_mrg (a b : List Bd) : Srt a → Srt b → b.foldl insL a = mrg a b := by
 fun_induction mrg a b
 ·intro _ hb; exact foldl_srt hb
 ·intro _ _; rfl
 ·rename_i x a y b hxy ih
  intro ha hb
  rw [foldl_skip, ih ha.2 hb]
  intro z hz
  rcases List.mem_cons.1 hz with rfl | hz
  ·exact hxy
  ·exact leS_trans hxy (hb.1 z hz)
 ·rename_i x a y b hxy ih
  intro ha hb
  rw [List.foldl_cons, insL, if_neg hxy, foldl_skip hb.1, ih ha hb.2]
theorem insort_mrg (a b : List Bd) (ha : Srt a) (hb : Srt b) : insort 0 (a ++ b).length (a ++ b) = mrg a b := by
 rw [insort_eq, List.foldl_append, foldl_srt ha, foldl_mrg a b ha hb]
theorem partFrom_srt (n : Nat) : ∀ (l : List Bd) (p : Option ByteArray) (sn : List (Int × Int)), partFrom n p sn l = 0 → Srt l ∧ ∀ q, p = some q → ∀ x ∈ l, leS q x.var = true := by
  intro l
  induction l with
  | nil => intro p sn _; exact ⟨trivial, fun _ _ _ h => by cases h⟩
  | cons x l ih =>
    intro p sn h
    simp only [partFrom] at h
    split at h
    · cases h
    · rename_i hx
      split at h
      · rename_i h1; exact absurd h h1
      · obtain ⟨h1, h2⟩ := ih _ _ h
        refine ⟨⟨fun y hy => h2 _ rfl y hy, h1⟩, fun q hq y hy => ?_⟩
        subst hq
        have hqx : leS q x.var = true := by
          cases e : leS x.var q
          · exact leS_total e
          · exact absurd (.inr (.inl (by simpa using e))) hx
        rcases List.mem_cons.1 hy with rfl | hy
        · exact hqx
        · exact leS_trans hqx (h2 _ rfl y hy)
theorem part_srt {l : List Bd} (h : partErr l = 0) : Srt l := by
 unfold partErr at h
 split at h
 ·cases h
 ·exact (partFrom_srt _ l none [] h).1
end Go.Abs.M
namespace Go.Abs.M
open Go Go.Abs Go.Proofs
set_option maxRecDepth 20000
set_option linter.unusedSimpArgs false
set_option linter.unusedVariables false
theorem merge_spec (a b : List Bd) (ha : okP a) (hb : okP b) (hat : ∀ x ∈ a ++ b, x.ev.attrs.length * 48 ≤ 140737488355328) (hl : (a ++ b).length < 20) :
  PCalls Tryz.prog 5 [.agg [.sl (a.map encBd)], .agg [.sl (b.map encBd)]] (fun v => v = mergeV a b (mrg a b)) := by
 have hab : okP (a ++ b) := fun x hx => by
  rcases List.mem_append.1 hx with h | h
  ·exact ha x h
  ·exact hb x h
 by_cases h0 : a ++ b = []
 ·obtain ⟨rfl, rfl⟩ := List.append_eq_nil_iff.1 h0
  exact merge_nil.mono fun v h => by rw [h]; rw [mergeV, if_neg (by decide), mrg, if_neg (by decide)]; rfl
 refine (merge_gen a b ha hb hat (fun p => p = mrg a b) ⟨_, rfl⟩ h0 fun hx k => (sort_small (a ++ b) k hl).mono fun v σ' h => ⟨h.1, _, ?_, ?_, h.2⟩).mono fun v h => ?_
 ·intro x hx
  exact hab x ((insort_sub _ _ _).2 x hx)
 ·exact insort_mrg a b (part_srt (Decidable.not_not.1 fun h => hx (.inl h))) (part_srt (Decidable.not_not.1 fun h => hx (.inr h)))
 ·obtain ⟨p, rfl, rfl⟩ := h; rfl
end Go.Abs.M
namespace Go.Abs.M
open Go Go.Abs Go.Proofs
def tN : ByteArray := ⟨#[116]⟩
def bA : Bd := ⟨⟨#[97]⟩, ⟨0, 1, 5, tN, []⟩⟩
def bB : Bd := ⟨⟨#[98]⟩, ⟨1, 0, 7, tN, []⟩⟩
def bC : Bd := ⟨⟨#[99]⟩, ⟨0, 1, 5, tN, []⟩⟩
theorem ba_list (x : UInt8) : (ByteArray.mk #[x]).toList = [x] := by simp
theorem leS_one (x y : UInt8) : leS ⟨#[x]⟩ ⟨#[y]⟩ = (decide (x < y) || x == y) := by
 simp only [leS, ba_list, Op.bytesLess]
 by_cases h : x < y <;> by_cases k : x = y <;> simp [h, k]
theorem named_A (n : Nat) : named n bA = true := by simp [named, bA, isName, nameL, nameC, letter, ByteArray.size]
theorem named_B (n : Nat) : named n bB = true := by simp [named, bB, isName, nameL, nameC, letter, ByteArray.size]
theorem named_C (n : Nat) : named n bC = true := by simp [named, bC, isName, nameL, nameC, letter, ByteArray.size]
theorem err_A : evErr bA.ev = 0 := by simp [evErr, bA, isName, nameL, nameC, letter, ByteArray.size, timeOk, attrsErr, attrsFrom, tN]
theorem err_B : evErr bB.ev = 0 := by simp [evErr, bB, isName, nameL, nameC, letter, ByteArray.size, timeOk, attrsErr, attrsFrom, tN]
theorem err_C : evErr bC.ev = 0 := by simp [evErr, bC, isName, nameL, nameC, letter, ByteArray.size, timeOk, attrsErr, attrsFrom, tN]
theorem part_A : partErr [bA] = 0 := by simp [partErr, partFrom, named_A, err_A]
theorem part_B : partErr [bB] = 0 := by simp [partErr, partFrom, named_B, err_B]
theorem part_C : partErr [bC] = 0 := by simp [partErr, partFrom, named_C, err_C]
theorem mrg_BA : mrg [bB] [bA] = [bA, bB] := by
  rw [mrg, if_neg (by simp [bA, bB, leS_one]), mrg_nil]
theorem mrg_AC : mrg [bA] [bC] = [bA, bC] := by
  rw [mrg, if_pos (by simp [bA, bC, leS_one]), mrg]
theorem part_AB : partErr [bA, bB] = 0 := by
 simp [partErr, partFrom, named_A, named_B, err_A, err_B]
 simp [bA, bB, leS_one]
theorem part_AC : partErr [bA, bC] ≠ 0 := by
 simp [partErr, partFrom, named_A, err_A]
 simp [bA, bC]
theorem ok_one' {b : Bd} (h1 : b.var.size < 4611686018427387904) (h2 : b.ev.type.size < 4611686018427387904) (h3 : b.ev.attrs = []) : okP [b] := by
 intro x hx
 simp at hx
 subst hx
 exact ⟨h1, ⟨h2, by rw [h3]; decide, by rw [h3]; intro a ha; cases ha⟩⟩
theorem ok_A : okP [bA] := ok_one' (by decide) (by decide) rfl
theorem ok_B : okP [bB] := ok_one' (by decide) (by decide) rfl
theorem ok_C : okP [bC] := ok_one' (by decide) (by decide) rfl
end Go.Abs.M
namespace Go.Abs.M
open Go Go.Abs Go.Proofs
set_option maxRecDepth 20000
set_option linter.unusedSimpArgs false
set_option linter.unusedVariables false
def partV (l : List Bd) : V := .tup [.agg [.sl (l.map encBd)], .c (.int .i64 0)]
theorem of_ok (b : Bd) (h : partErr [b] = 0) (ho : okP [b]) (hl : b.ev.attrs = []) : PCalls Tryz.prog 26 [.c (.string b.var), .agg (encEv b.ev)] (fun v => v = partV [b]) :=
  (of_spec b.var b.ev ho (by simp [hl])).mono fun v hv => by rw [hv]; exact if_neg (by rw [show (⟨b.var, b.ev⟩ : Bd) = b from rfl, h]; simp)
theorem merge_BA : PCalls Tryz.prog 5 [.agg [.sl ([bB].map encBd)], .agg [.sl ([bA].map encBd)]] (fun v => v = .tup [.agg [.sl ([bA, bB].map encBd)], .c (.bool true)]) :=
 (merge_spec [bB] [bA] ok_B ok_A (by simp [bA, bB]) (by simp)).mono fun v hv => by
  rw [hv, mrg_BA, mergeV, if_neg (by rw [part_A, part_B]; simp), if_neg (by rw [part_AB]; simp)]
theorem merge_AC : PCalls Tryz.prog 5 [.agg [.sl ([bA].map encBd)], .agg [.sl ([bC].map encBd)]] (fun v => v = noPart) :=
 (merge_spec [bA] [bC] ok_A ok_C (by simp [bA, bC]) (by simp)).mono fun v hv => by
  rw [hv, mrg_AC, mergeV, if_neg (by rw [part_A, part_C]; simp), if_pos part_AC]
theorem begun_spec : PCalls Tryz.prog 7 [] (fun v => v = .c (.bool true)) := by
 refine PCalls.intro Tryz.call7 Tryz.func7 rfl Tryz.ntmps7 Tryz.results7 (by simp) ?_
 have hbeg : beginOf [bA, bB] = 5 := by decide
 have hend : endOf [bA, bB] = 7 := by decide
 refine AW.seq_k fun K1 h1 => ?_
 refine AW.reg0 ?_
 (refine S.g rfl rfl fun Y Z => ?_; simp only [zz, reduceIte, Nat.reduceEqDiff, Nat.reduceAdd]; refine Z _ _ ?_; clear Z Y)
 refine S.nil ?_
 simp only [ze, reduceIte, Nat.reduceEqDiff, Nat.reduceLT, Nat.reduceLeDiff, Nat.reduceAdd, reduceCtorEq, Nat.reduceMul]
 apply_assumption
 refine AW.seq_k fun K2 h2 => ?_
 refine AW.reg0 ?_
 (refine S.g rfl rfl fun Y Z => ?_; simp only [zz, reduceIte, Nat.reduceEqDiff, Nat.reduceLT, Nat.reduceLeDiff, Nat.reduceAdd, reduceCtorEq, Nat.reduceMul, zt33, pl33, partV]; refine Z _ _ ?_; clear Z Y)
 (refine S.g rfl rfl fun Y Z => ?_; simp only [zz, reduceIte, Nat.reduceEqDiff, Nat.reduceLT, Nat.reduceLeDiff, Nat.reduceAdd, reduceCtorEq, Nat.reduceMul, zt36, pl36, partV]; refine Z _ _ ?_; clear Z Y)
 (refine S.g rfl rfl fun Y Z => ?_; simp only [zz, reduceIte, Nat.reduceEqDiff, Nat.reduceLT, Nat.reduceLeDiff, Nat.reduceAdd, reduceCtorEq, Nat.reduceMul, partV]; refine PCalls.eqto (of_ok bA part_A ok_A rfl) ?_ <;> (refine Z _ _ ?_; clear Z Y))
 iterate 6 (refine S.g rfl rfl fun Y Z => ?_; simp only [zz, reduceIte, Nat.reduceEqDiff, Nat.reduceLT, Nat.reduceLeDiff, Nat.reduceAdd, reduceCtorEq, Nat.reduceMul, zt24, ok24, sz24, ag24, partV]; refine Z _ _ ?_; clear Z Y)
 refine S.nil ?_
 simp only [ze, reduceIte, Nat.reduceEqDiff, Nat.reduceLT, Nat.reduceLeDiff, Nat.reduceAdd, reduceCtorEq, Nat.reduceMul, partV]
 apply_assumption
 refine AW.seq_k fun K3 h3 => ?_
 refine AW.reg0 ?_
 (refine S.g rfl rfl fun Y Z => ?_; simp only [zz, reduceIte, Nat.reduceEqDiff, Nat.reduceLT, Nat.reduceLeDiff, Nat.reduceAdd, reduceCtorEq, Nat.reduceMul, zt33, pl33, partV]; refine Z _ _ ?_; clear Z Y)
 (refine S.g rfl rfl fun Y Z => ?_; simp only [zz, reduceIte, Nat.reduceEqDiff, Nat.reduceLT, Nat.reduceLeDiff, Nat.reduceAdd, reduceCtorEq, Nat.reduceMul, zt36, pl36, partV]; refine Z _ _ ?_; clear Z Y)
 (refine S.g rfl rfl fun Y Z => ?_; simp only [zz, reduceIte, Nat.reduceEqDiff, Nat.reduceLT, Nat.reduceLeDiff, Nat.reduceAdd, reduceCtorEq, Nat.reduceMul, partV]; refine PCalls.eqto (of_ok bB part_B ok_B rfl) ?_ <;> (refine Z _ _ ?_; clear Z Y))
 iterate 6 (refine S.g rfl rfl fun Y Z => ?_; simp only [zz, reduceIte, Nat.reduceEqDiff, Nat.reduceLT, Nat.reduceLeDiff, Nat.reduceAdd, reduceCtorEq, Nat.reduceMul, zt24, ok24, sz24, ag24, partV]; refine Z _ _ ?_; clear Z Y)
 refine S.nil ?_
 simp only [ze, reduceIte, Nat.reduceEqDiff, Nat.reduceLT, Nat.reduceLeDiff, Nat.reduceAdd, reduceCtorEq, Nat.reduceMul, partV]
 apply_assumption
 refine AW.seq_k fun K4 h4 => ?_
 refine AW.reg0 ?_
 (refine S.g rfl rfl fun Y Z => ?_; simp only [zz, reduceIte, Nat.reduceEqDiff, Nat.reduceLT, Nat.reduceLeDiff, Nat.reduceAdd, reduceCtorEq, Nat.reduceMul, zt33, pl33, partV]; refine Z _ _ ?_; clear Z Y)
 (refine S.g rfl rfl fun Y Z => ?_; simp only [zz, reduceIte, Nat.reduceEqDiff, Nat.reduceLT, Nat.reduceLeDiff, Nat.reduceAdd, reduceCtorEq, Nat.reduceMul, zt36, pl36, partV]; refine Z _ _ ?_; clear Z Y)
 (refine S.g rfl rfl fun Y Z => ?_; simp only [zz, reduceIte, Nat.reduceEqDiff, Nat.reduceLT, Nat.reduceLeDiff, Nat.reduceAdd, reduceCtorEq, Nat.reduceMul, partV]; refine PCalls.eqto (of_ok bC part_C ok_C rfl) ?_ <;> (refine Z _ _ ?_; clear Z Y))
 iterate 6 (refine S.g rfl rfl fun Y Z => ?_; simp only [zz, reduceIte, Nat.reduceEqDiff, Nat.reduceLT, Nat.reduceLeDiff, Nat.reduceAdd, reduceCtorEq, Nat.reduceMul, zt24, ok24, sz24, ag24, partV]; refine Z _ _ ?_; clear Z Y)
 refine S.nil ?_
 simp only [ze, reduceIte, Nat.reduceEqDiff, Nat.reduceLT, Nat.reduceLeDiff, Nat.reduceAdd, reduceCtorEq, Nat.reduceMul, partV]
 apply_assumption
 refine AW.seq_k fun K5 h5 => ?_
 refine AW.reg0 ?_
 iterate 2 (refine S.g rfl rfl fun Y Z => ?_; simp only [zz, reduceIte, Nat.reduceEqDiff, Nat.reduceLT, Nat.reduceLeDiff, Nat.reduceAdd, reduceCtorEq, Nat.reduceMul, ok24, sz24, ag24, partV]; refine Z _ _ ?_; clear Z Y)
 (refine S.g rfl rfl fun Y Z => ?_; simp only [zz, reduceIte, Nat.reduceEqDiff, Nat.reduceLT, Nat.reduceLeDiff, Nat.reduceAdd, reduceCtorEq, Nat.reduceMul, partV]; refine PCalls.eqto merge_BA ?_ <;> (refine Z _ _ ?_; clear Z Y))
 iterate 6 (refine S.g rfl rfl fun Y Z => ?_; simp only [zz, reduceIte, Nat.reduceEqDiff, Nat.reduceLT, Nat.reduceLeDiff, Nat.reduceAdd, reduceCtorEq, Nat.reduceMul, zt24, ok24, sz24, ag24, partV]; refine Z _ _ ?_; clear Z Y)
 refine S.nil ?_
 simp only [ze, reduceIte, Nat.reduceEqDiff, Nat.reduceLT, Nat.reduceLeDiff, Nat.reduceAdd, reduceCtorEq, Nat.reduceMul, partV]
 apply_assumption
 refine AW.seq_k fun K6 h6 => ?_
 refine AW.reg0 ?_
 iterate 2 (refine S.g rfl rfl fun Y Z => ?_; simp only [zz, reduceIte, Nat.reduceEqDiff, Nat.reduceLT, Nat.reduceLeDiff, Nat.reduceAdd, reduceCtorEq, Nat.reduceMul, ok24, sz24, ag24, partV, noPart]; refine Z _ _ ?_; clear Z Y)
 (refine S.g rfl rfl fun Y Z => ?_; simp only [zz, reduceIte, Nat.reduceEqDiff, Nat.reduceLT, Nat.reduceLeDiff, Nat.reduceAdd, reduceCtorEq, Nat.reduceMul, partV, noPart]; refine PCalls.eqto merge_AC ?_ <;> (refine Z _ _ ?_; clear Z Y))
 iterate 6 (refine S.g rfl rfl fun Y Z => ?_; simp only [zz, reduceIte, Nat.reduceEqDiff, Nat.reduceLT, Nat.reduceLeDiff, Nat.reduceAdd, reduceCtorEq, Nat.reduceMul, zt24, ok24, sz24, ag24, partV, noPart]; refine Z _ _ ?_; clear Z Y)
 refine S.nil ?_
 simp only [ze, reduceIte, Nat.reduceEqDiff, Nat.reduceLT, Nat.reduceLeDiff, Nat.reduceAdd, reduceCtorEq, Nat.reduceMul, partV, noPart]
 apply_assumption
 refine AW.seq_k fun K7 h7 => ?_
 refine AW.reg0 ?_
 (refine S.g rfl rfl fun Y Z => ?_; simp only [zz, reduceIte, Nat.reduceEqDiff, Nat.reduceAdd, hbeg, hend, List.length_map]; refine Z _ _ ?_; clear Z Y)
 (refine S.g rfl rfl fun Y Z => ?_; simp only [zz, reduceIte, Nat.reduceEqDiff, Nat.reduceLT, Nat.reduceLeDiff, Nat.reduceAdd, reduceCtorEq, Nat.reduceMul, hbeg, hend, List.length_map]; refine S.bool fun b a42 => ?_; cases b <;> (try (exfalso; first | exact Bool.noConfusion a42 | (have h := of_decide_eq_true a42; omega) | (have h := of_decide_eq_false a42; omega))) <;> (refine Z _ _ ?_; clear Z Y))
 (refine S.g rfl rfl fun Y Z => ?_; simp only [zz, reduceIte, Nat.reduceEqDiff, Nat.reduceAdd, hbeg, hend, List.length_map]; refine Z _ _ ?_; clear Z Y)
 (first | (refine S.y rfl rfl rfl rfl fun Y Z => ?_; simp only [zz, reduceIte, Nat.reduceEqDiff, Nat.reduceAdd, hbeg, hend, List.length_map]; refine Z _ _ ?_; clear Z Y) | ((first | refine S.x rfl rfl rfl rfl fun Y Z => ?_ | refine S.u rfl rfl rfl rfl fun Y Z => ?_); simp only [ze, reduceIte, Nat.reduceEqDiff]; refine Z _ _ ?_; clear Z Y))
 (first | (refine S.y rfl rfl rfl rfl fun Y Z => ?_; simp only [zz, reduceIte, Nat.reduceEqDiff, Nat.reduceLT, Nat.reduceLeDiff, Nat.reduceAdd, reduceCtorEq, Nat.reduceMul, hbeg, hend, List.length_map]; refine S.bool fun b a45 => ?_; cases b <;> (try (exfalso; first | exact Bool.noConfusion a45 | (have h := of_decide_eq_true a45; omega) | (have h := of_decide_eq_false a45; omega))) <;> (refine Z _ _ ?_; clear Z Y)) | ((first | refine S.x rfl rfl rfl rfl fun Y Z => ?_ | refine S.u rfl rfl rfl rfl fun Y Z => ?_); simp only [ze, reduceIte, Nat.reduceEqDiff]; refine Z _ _ ?_; clear Z Y))
 iterate 2 (refine S.g rfl rfl fun Y Z => ?_; simp only [zz, reduceIte, Nat.reduceEqDiff, Nat.reduceAdd, hbeg, hend, List.length_map]; refine Z _ _ ?_; clear Z Y)
 (first | (refine S.y rfl rfl rfl rfl fun Y Z => ?_; simp only [zz, reduceIte, Nat.reduceEqDiff, Nat.reduceAdd, hbeg, hend, List.length_map]; refine Z _ _ ?_; clear Z Y) | ((first | refine S.x rfl rfl rfl rfl fun Y Z => ?_ | refine S.u rfl rfl rfl rfl fun Y Z => ?_); simp only [ze, reduceIte, Nat.reduceEqDiff]; refine Z _ _ ?_; clear Z Y))
 (first | (refine S.y rfl rfl rfl rfl fun Y Z => ?_; simp only [zz, reduceIte, Nat.reduceEqDiff, Nat.reduceLT, Nat.reduceLeDiff, Nat.reduceAdd, reduceCtorEq, Nat.reduceMul, hbeg, hend, List.length_map]; refine S.bool fun b a49 => ?_; cases b <;> (try (exfalso; first | exact Bool.noConfusion a49 | (have h := of_decide_eq_true a49; omega) | (have h := of_decide_eq_false a49; omega))) <;> (refine Z _ _ ?_; clear Z Y)) | ((first | refine S.x rfl rfl rfl rfl fun Y Z => ?_ | refine S.u rfl rfl rfl rfl fun Y Z => ?_); simp only [ze, reduceIte, Nat.reduceEqDiff]; refine Z _ _ ?_; clear Z Y))
 iterate 2 (refine S.g rfl rfl fun Y Z => ?_; simp only [zz, reduceIte, Nat.reduceEqDiff, Nat.reduceAdd, hbeg, hend, List.length_map]; refine Z _ _ ?_; clear Z Y)
 (first | (refine S.y rfl rfl rfl rfl fun Y Z => ?_; simp only [zz, reduceIte, Nat.reduceEqDiff, Nat.reduceAdd, hbeg, hend, List.length_map]; refine Z _ _ ?_; clear Z Y) | ((first | refine S.x rfl rfl rfl rfl fun Y Z => ?_ | refine S.u rfl rfl rfl rfl fun Y Z => ?_); simp only [ze, reduceIte, Nat.reduceEqDiff]; refine Z _ _ ?_; clear Z Y))
 iterate 2 (refine S.g rfl rfl fun Y Z => ?_; simp only [zz, reduceIte, Nat.reduceEqDiff, Nat.reduceAdd, hbeg, hend, List.length_map]; refine Z _ _ ?_; clear Z Y)
 iterate 2 (first | (refine S.y rfl rfl rfl rfl fun Y Z => ?_; simp only [zz, reduceIte, Nat.reduceEqDiff, Nat.reduceAdd, hbeg, hend, List.length_map]; refine Z _ _ ?_; clear Z Y) | ((first | refine S.x rfl rfl rfl rfl fun Y Z => ?_ | refine S.u rfl rfl rfl rfl fun Y Z => ?_); simp only [ze, reduceIte, Nat.reduceEqDiff]; refine Z _ _ ?_; clear Z Y))
 iterate 2 (refine S.g rfl rfl fun Y Z => ?_; simp only [zz, reduceIte, Nat.reduceEqDiff, Nat.reduceAdd, hbeg, hend, List.length_map]; refine Z _ _ ?_; clear Z Y)
 (first | (refine S.y rfl rfl rfl rfl fun Y Z => ?_; simp only [zz, reduceIte, Nat.reduceEqDiff, Nat.reduceLT, Nat.reduceLeDiff, Nat.reduceAdd, reduceCtorEq, Nat.reduceMul, ok24, sz24, ag24, hbeg, hend, List.length_map]; refine Z _ _ ?_; clear Z Y) | ((first | refine S.x rfl rfl rfl rfl fun Y Z => ?_ | refine S.u rfl rfl rfl rfl fun Y Z => ?_); simp only [ze, reduceIte, Nat.reduceEqDiff]; refine Z _ _ ?_; clear Z Y))
 (first | (refine S.y rfl rfl rfl rfl fun Y Z => ?_; simp only [zz, reduceIte, Nat.reduceEqDiff, Nat.reduceLT, Nat.reduceLeDiff, Nat.reduceAdd, reduceCtorEq, Nat.reduceMul, hbeg, hend, List.length_map]; refine PCalls.eqto (begin_spec [bA, bB] (by simp)) ?_ <;> (refine Z _ _ ?_; clear Z Y)) | ((first | refine S.x rfl rfl rfl rfl fun Y Z => ?_ | refine S.u rfl rfl rfl rfl fun Y Z => ?_); simp only [ze, reduceIte, Nat.reduceEqDiff]; refine Z _ _ ?_; clear Z Y))
 (first | (refine S.y rfl rfl rfl rfl fun Y Z => ?_; simp only [zz, reduceIte, Nat.reduceEqDiff, Nat.reduceLT, Nat.reduceLeDiff, Nat.reduceAdd, reduceCtorEq, Nat.reduceMul, hbeg, hend, List.length_map]; refine S.bool fun b a61 => ?_; cases b <;> (try (exfalso; first | exact Bool.noConfusion a61 | (have h := of_decide_eq_true a61; omega) | (have h := of_decide_eq_false a61; omega))) <;> (refine Z _ _ ?_; clear Z Y)) | ((first | refine S.x rfl rfl rfl rfl fun Y Z => ?_ | refine S.u rfl rfl rfl rfl fun Y Z => ?_); simp only [ze, reduceIte, Nat.reduceEqDiff]; refine Z _ _ ?_; clear Z Y))
 iterate 2 (refine S.g rfl rfl fun Y Z => ?_; simp only [zz, reduceIte, Nat.reduceEqDiff, Nat.reduceAdd, hbeg, hend, List.length_map]; refine Z _ _ ?_; clear Z Y)
 (first | (refine S.y rfl rfl rfl rfl fun Y Z => ?_; simp only [zz, reduceIte, Nat.reduceEqDiff, Nat.reduceLT, Nat.reduceLeDiff, Nat.reduceAdd, reduceCtorEq, Nat.reduceMul, ok24, sz24, ag24, hbeg, hend, List.length_map]; refine Z _ _ ?_; clear Z Y) | ((first | refine S.x rfl rfl rfl rfl fun Y Z => ?_ | refine S.u rfl rfl rfl rfl fun Y Z => ?_); simp only [ze, reduceIte, Nat.reduceEqDiff]; refine Z _ _ ?_; clear Z Y))
 (first | (refine S.y rfl rfl rfl rfl fun Y Z => ?_; simp only [zz, reduceIte, Nat.reduceEqDiff, Nat.reduceLT, Nat.reduceLeDiff, Nat.reduceAdd, reduceCtorEq, Nat.reduceMul, hbeg, hend, List.length_map]; refine PCalls.eqto (end_spec [bA, bB] (by simp)) ?_ <;> (refine Z _ _ ?_; clear Z Y)) | ((first | refine S.x rfl rfl rfl rfl fun Y Z => ?_ | refine S.u rfl rfl rfl rfl fun Y Z => ?_); simp only [ze, reduceIte, Nat.reduceEqDiff]; refine Z _ _ ?_; clear Z Y))
 (first | (refine S.y rfl rfl rfl rfl fun Y Z => ?_; simp only [zz, reduceIte, Nat.reduceEqDiff, Nat.reduceLT, Nat.reduceLeDiff, Nat.reduceAdd, reduceCtorEq, Nat.reduceMul, hbeg, hend, List.length_map]; refine S.bool fun b a66 => ?_; cases b <;> (try (exfalso; first | exact Bool.noConfusion a66 | (have h := of_decide_eq_true a66; omega) | (have h := of_decide_eq_false a66; omega))) <;> (refine Z _ _ ?_; clear Z Y)) | ((first | refine S.x rfl rfl rfl rfl fun Y Z => ?_ | refine S.u rfl rfl rfl rfl fun Y Z => ?_); simp only [ze, reduceIte, Nat.reduceEqDiff]; refine Z _ _ ?_; clear Z Y))
 iterate 2 (refine S.g rfl rfl fun Y Z => ?_; simp only [zz, reduceIte, Nat.reduceEqDiff, Nat.reduceAdd, hbeg, hend, List.length_map]; refine Z _ _ ?_; clear Z Y)
 iterate 4 (first | (refine S.y rfl rfl rfl rfl fun Y Z => ?_; simp only [zz, reduceIte, Nat.reduceEqDiff, Nat.reduceLT, Nat.reduceLeDiff, Nat.reduceAdd, reduceCtorEq, Nat.reduceMul, of24_0, ok22, sz22, ag22, sl22, el22, ok38, sz38, ag38, hbeg, hend, List.length_map]; refine Z _ _ ?_; clear Z Y) | ((first | refine S.x rfl rfl rfl rfl fun Y Z => ?_ | refine S.u rfl rfl rfl rfl fun Y Z => ?_); simp only [ze, reduceIte, Nat.reduceEqDiff]; refine Z _ _ ?_; clear Z Y))
 iterate 2 (refine S.g rfl rfl fun Y Z => ?_; simp only [zz, reduceIte, Nat.reduceEqDiff, Nat.reduceAdd, hbeg, hend, List.length_map]; refine Z _ _ ?_; clear Z Y)
 refine S.nil ?_
 simp only [ze, reduceIte, Nat.reduceEqDiff, Nat.reduceLT, Nat.reduceLeDiff, Nat.reduceAdd, reduceCtorEq, Nat.reduceMul, hbeg, hend, List.length_map]
 apply_assumption
 refine AW.ret ?_
 simp only [zs, reduceIte, Nat.reduceEqDiff, Nat.reduceLT, Nat.reduceLeDiff, Nat.reduceAdd, reduceCtorEq, Nat.reduceMul]
 rfl
end Go.Abs.M
namespace Go.Abs.M
open Go Go.Abs Go.Proofs
set_option maxRecDepth 20000
set_option linter.unusedSimpArgs false
set_option linter.unusedVariables false
theorem allEq_refl {α : Type} {f : α → α → Bool} (h : ∀ x, f x x = true) : ∀ l : List α, allEq f l l = true
 | [] => rfl
 | x :: l => by simp [allEq, h, allEq_refl h l]
theorem eqAttr_refl (a : Attr) : eqAttr a a = true := by simp [eqAttr]
theorem eqEv_refl (a : Ev) : eqEv a a = true := by simp [eqEv, allEq_refl eqAttr_refl]
theorem eqBd_refl (a : Bd) : eqBd a a = true := by simp [eqBd, eqEv_refl]
/-- What a given part must be, for the contracts. -/
structure okI (l : List Bd) : Prop where
  ok : okP l
  attrs : ∀ x ∈ l, x.ev.attrs.length * 48 ≤ 140737488355328
  len : l.length * 80 ≤ 140737488355328
end Go.Abs.M
namespace Go.Abs.M
open Go Go.Abs Go.Proofs
set_option linter.unusedSimpArgs false
theorem co2 : Tryz.prog.cellsOf 2 = 1 := by kernel_rfl
theorem co3 : Tryz.prog.cellsOf 3 = 1 := by kernel_rfl
theorem co9 : Tryz.prog.cellsOf 9 = 1 := by kernel_rfl
theorem co22 : Tryz.prog.cellsOf 22 = 1 := by kernel_rfl
theorem co24 : Tryz.prog.cellsOf 24 = 1 := by kernel_rfl
theorem co33 : Tryz.prog.cellsOf 33 = 2 := by kernel_rfl
theorem co34 : Tryz.prog.cellsOf 34 = 1 := by kernel_rfl
theorem co36 : Tryz.prog.cellsOf 36 = 5 := by kernel_rfl
theorem co38 : Tryz.prog.cellsOf 38 = 6 := by kernel_rfl
theorem co40 : Tryz.prog.cellsOf 40 = 3 := by kernel_rfl
theorem co42 : Tryz.prog.cellsOf 42 = 4 := by kernel_rfl
theorem len1 {us : List V} (h : us.length = 1) : ∃ x0, us = [x0] := by
 match us, h with
 | [x0], _ => exact ⟨x0, rfl⟩
theorem len4 {us : List V} (h : us.length = 4) : ∃ x0 x1 x2 x3, us = [x0, x1, x2, x3] := by
 match us, h with
 | [x0, x1, x2, x3], _ => exact ⟨x0, x1, x2, x3, rfl⟩
theorem len5 {us : List V} (h : us.length = 5) : ∃ x0 x1 x2 x3 x4, us = [x0, x1, x2, x3, x4] := by
 match us, h with
 | [x0, x1, x2, x3, x4], _ => exact ⟨x0, x1, x2, x3, x4, rfl⟩
theorem len6 {us : List V} (h : us.length = 6) : ∃ x0 x1 x2 x3 x4 x5, us = [x0, x1, x2, x3, x4, x5] := by
 match us, h with
 | [x0, x1, x2, x3, x4, x5], _ => exact ⟨x0, x1, x2, x3, x4, x5, rfl⟩
theorem open_val {n : Nat} {x0 x1 x2 : V} (h : Fit Tryz.prog n 40 [x0, x1, x2]) : ∃ v : Val, [x0, x1, x2] = encVal v ∧ v.s.size ≤ reachBytes := by
 obtain ⟨_, m, _, hf⟩ := h.st Tryz.underlying40
 have h0 : Fit Tryz.prog m 3 (([x0, x1, x2].drop 0).take (Tryz.prog.cellsOf 3)) := hf 0 _ rfl
 have h1 : Fit Tryz.prog m 2 (([x0, x1, x2].drop 1).take (Tryz.prog.cellsOf 2)) := hf 1 _ rfl
 have h2 : Fit Tryz.prog m 9 (([x0, x1, x2].drop 2).take (Tryz.prog.cellsOf 9)) := hf 2 _ rfl
 simp only [co3, co2, co9, List.drop_zero, List.take_succ_cons, List.take_zero, List.drop_succ_cons] at h0 h1 h2
 obtain ⟨a, e0, _⟩ := h0.int Tryz.underlying3
 obtain ⟨b, e1, _⟩ := h1.int Tryz.underlying2
 obtain ⟨s, e2, hs⟩ := h2.str Tryz.underlying9
 simp only [List.cons.injEq, and_true] at e0 e1 e2
 exact ⟨⟨a, b, s⟩, by rw [e0, e1, e2]; rfl, hs⟩
def attrFits (a : Attr) : Prop := a.name.size ≤ reachBytes ∧ a.v.s.size ≤ reachBytes
theorem open_attr {n : Nat} {us : List V} (hl : us.length = 4) (h : Fit Tryz.prog n 42 us) : ∃ a : Attr, us = encAttr a ∧ attrFits a := by
 obtain ⟨_, m, _, hf⟩ := h.st Tryz.underlying42
 have h0 : Fit Tryz.prog m 9 ((us.drop 0).take (Tryz.prog.cellsOf 9)) := hf 0 _ rfl
 have h1 : Fit Tryz.prog m 40 ((us.drop 1).take (Tryz.prog.cellsOf 40)) := hf 1 _ rfl
 obtain ⟨x0, x1, x2, x3, rfl⟩ := len4 hl
 simp only [co9, co40, List.drop_zero, List.take_succ_cons, List.take_zero, List.drop_succ_cons] at h0 h1
 obtain ⟨s, e0, hs⟩ := h0.str Tryz.underlying9
 obtain ⟨v, e1, hv⟩ := open_val h1
 simp only [List.cons.injEq, and_true] at e0
 refine ⟨⟨s, v⟩, ?_, hs, hv⟩
 rw [e0, e1]; rfl
structure evFits (e : Ev) : Prop where
  type : e.type.size ≤ reachBytes
  len : e.attrs.length * 48 ≤ reachBytes
  attrs : ∀ a ∈ e.attrs, attrFits a
theorem open_ev {n : Nat} {us : List V} (hl : us.length = 5) (h : Fit Tryz.prog n 36 us) : ∃ e : Ev, us = encEv e ∧ evFits e := by
 obtain ⟨_, m, _, hf⟩ := h.st Tryz.underlying36
 have h0 : Fit Tryz.prog m 33 ((us.drop 0).take (Tryz.prog.cellsOf 33)) := hf 0 _ rfl
 have h1 : Fit Tryz.prog m 2 ((us.drop 2).take (Tryz.prog.cellsOf 2)) := hf 1 _ rfl
 have h2 : Fit Tryz.prog m 9 ((us.drop 3).take (Tryz.prog.cellsOf 9)) := hf 2 _ rfl
 have h3 : Fit Tryz.prog m 34 ((us.drop 4).take (Tryz.prog.cellsOf 34)) := hf 3 _ rfl
 obtain ⟨x0, x1, x2, x3, x4, rfl⟩ := len5 hl
 simp only [co33, co2, co9, co34, List.drop_zero, List.take_succ_cons, List.take_zero, List.drop_succ_cons] at h0 h1 h2 h3
 obtain ⟨_, m', _, hg⟩ := h0.st Tryz.underlying33
 have g0 : Fit Tryz.prog m' 3 (([x0, x1].drop 0).take (Tryz.prog.cellsOf 3)) := hg 0 _ rfl
 have g1 : Fit Tryz.prog m' 2 (([x0, x1].drop 1).take (Tryz.prog.cellsOf 2)) := hg 1 _ rfl
 simp only [co3, co2, List.drop_zero, List.take_succ_cons, List.take_zero, List.drop_succ_cons] at g0 g1
 obtain ⟨a, e0, _⟩ := g0.int Tryz.underlying3
 obtain ⟨b, e1, _⟩ := g1.int Tryz.underlying2
 obtain ⟨c, e2, _⟩ := h1.int Tryz.underlying2
 obtain ⟨s, e3, hs⟩ := h2.str Tryz.underlying9
 obtain ⟨es, e4, hes, k, _, hk⟩ := h3.sl Tryz.underlying34
 simp only [co42] at hk
 obtain ⟨l, rfl, hl⟩ := rows_of (f := encAttr) (p := attrFits) fun x hx => open_attr (hk x hx).1 (hk x hx).2
 simp only [List.cons.injEq, and_true] at e0 e1 e2 e3 e4
 refine ⟨⟨a, b, c, s, l⟩, by rw [e0, e1, e2, e3, e4]; rfl, hs, ?_, hl⟩
 rw [List.length_map, by42] at hes; exact hes
structure bdFits (b : Bd) : Prop where
  var : b.var.size ≤ reachBytes
  ev : evFits b.ev
theorem open_bd {n : Nat} {us : List V} (hl : us.length = 6) (h : Fit Tryz.prog n 38 us) : ∃ b : Bd, us = encBd b ∧ bdFits b := by
 obtain ⟨_, m, _, hf⟩ := h.st Tryz.underlying38
 have h0 : Fit Tryz.prog m 9 ((us.drop 0).take (Tryz.prog.cellsOf 9)) := hf 0 _ rfl
 have h1 : Fit Tryz.prog m 36 ((us.drop 1).take (Tryz.prog.cellsOf 36)) := hf 1 _ rfl
 obtain ⟨x0, x1, x2, x3, x4, x5, rfl⟩ := len6 hl
 simp only [co9, co36, List.drop_zero, List.take_succ_cons, List.take_zero, List.drop_succ_cons] at h0 h1
 obtain ⟨s, e0, hs⟩ := h0.str Tryz.underlying9
 obtain ⟨v, e1, hv⟩ := open_ev rfl h1
 simp only [List.cons.injEq, and_true] at e0
 refine ⟨⟨s, v⟩, ?_, hs, hv⟩
 rw [e0, e1]; rfl
theorem okI_of {l : List Bd} (h1 : ∀ b ∈ l, bdFits b) (h2 : l.length * 80 ≤ reachBytes) : okI l := by
 have hr : reachBytes = 140737488351232 := rfl
 refine ⟨fun b hb => ?_, fun b hb => ?_, by omega⟩
 ·obtain ⟨k1, k2, k3, k4⟩ := h1 b hb
  exact ⟨by omega, ⟨by omega, by omega, fun a ha => by obtain ⟨h5, h6⟩ := k4 a ha; exact ⟨by omega, by omega⟩⟩⟩
 ·obtain ⟨k1, k2, k3, k4⟩ := h1 b hb
  omega
theorem open_part {n : Nat} {us : List V} (hl : us.length = 1) (h : Fit Tryz.prog n 24 us) : ∃ l : List Bd, us = [.sl (l.map encBd)] ∧ okI l := by
 obtain ⟨_, m, _, hf⟩ := h.st Tryz.underlying24
 have h0 : Fit Tryz.prog m 22 ((us.drop 0).take (Tryz.prog.cellsOf 22)) := hf 0 _ rfl
 obtain ⟨x0, rfl⟩ := len1 hl
 simp only [co22, List.drop_zero, List.take_succ_cons, List.take_zero, List.drop_succ_cons] at h0
 obtain ⟨es, e4, hes, k, _, hk⟩ := h0.sl Tryz.underlying22
 simp only [co38] at hk
 obtain ⟨l, rfl, hl⟩ := rows_of (f := encBd) (p := bdFits) fun x hx => open_bd (hk x hx).1 (hk x hx).2
 refine ⟨l, e4, okI_of hl ?_⟩
 rw [List.length_map, by38] at hes; exact hes
/-- The types of plain data that the laws' arguments are made of. -/
def plainTs : List TypeId := [24, 22, 38, 9, 36, 33, 3, 2, 34, 42, 40, 31, 80, 5]
theorem plain_ok : plainB Tryz.prog plainTs = true := by kernel_rfl
theorem okWide_agg {P : Program} {W : World} {r : Reach} {base : Nat} {t : TypeId} {fs : Array Field} {v : Value} (hu : P.underlying t = some (.struct fs)) (h : Value.okWide P W r base t v) : ∃ cs, v = .agg cs ∧ cs.size = P.cellsOf t := by
 simp only [Value.okWide, hu] at h
 obtain ⟨cs, h1, h2, _⟩ := h
 exact ⟨cs, h1, h2⟩
end Go.Abs.M
namespace Go.Abs.M
open Go Go.Abs Go.Proofs
set_option maxRecDepth 20000
set_option linter.unusedSimpArgs false
set_option linter.unusedVariables false
/-- What the contracts want of a list. -/
structure okM (l : List Bd) : Prop where
  ok : okP l
  attrs : ∀ x ∈ l, x.ev.attrs.length * 48 ≤ 140737488355328
theorem okI.m {l : List Bd} (h : okI l) : okM l := ⟨h.ok, h.attrs⟩
theorem okM.mrg {a b : List Bd} (ha : okM a) (hb : okM b) : okM (mrg a b) := by
 refine ⟨fun x hx => ?_, fun x hx => ?_⟩ <;> rcases List.mem_append.1 (mrg_mem a b x hx) with h | h
 ·exact ha.ok x h
 ·exact hb.ok x h
 ·exact ha.attrs x h
 ·exact hb.attrs x h
end Go.Abs.M
namespace Go.Abs.M
open Go Go.Abs Go.Proofs
set_option maxRecDepth 20000
set_option linter.unusedSimpArgs false
set_option linter.unusedVariables false
def cmpI (a b : Int) : Int := if a < b then -1 else if b < a then 1 else 0
theorem isnan_int (a : Int) : PCalls Tryz.prog 93 [.c (.int .i64 a)] (fun v => v = .c (.bool false)) := by
 refine PCalls.intro Tryz.call93 Tryz.func93 rfl Tryz.ntmps93 Tryz.results93 (by simp) ?_
 refine AW.seq_k fun K1 h1 => ?_
 refine AW.reg0 ?_
 (refine S.g rfl rfl fun Y Z => ?_; simp only [zz, reduceIte, Nat.reduceEqDiff, Nat.reduceAdd]; refine Z _ _ ?_; clear Z Y)
 refine S.nil ?_
 simp only [ze, reduceIte, Nat.reduceEqDiff, Nat.reduceLeDiff, Nat.reduceAdd]
 apply_assumption
 refine AW.seq_k fun K2 h2 => ?_
 refine AW.reg0 ?_
 iterate 4 (refine S.g rfl rfl fun Y Z => ?_; simp only [zz, reduceIte, Nat.reduceEqDiff, Nat.reduceAdd]; refine Z _ _ ?_; clear Z Y)
 refine S.nil ?_
 simp only [ze, reduceIte, Nat.reduceEqDiff, Nat.reduceLeDiff, Nat.reduceAdd]
 apply_assumption
 refine AW.ret ?_
 simp only [zs, reduceIte, Nat.reduceEqDiff, Nat.reduceLeDiff, Nat.reduceAdd]
 simp
theorem compare_int (a b : Int) : PCalls Tryz.prog 78 [.c (.int .i64 a), .c (.int .i64 b)] (fun v => v = .c (.int .i64 (cmpI a b))) := by
 refine PCalls.intro Tryz.call78 Tryz.func78 rfl Tryz.ntmps78 Tryz.results78 (by simp) ?_
 refine AW.seq_k fun K1 h1 => ?_
 refine AW.reg0 ?_
 (refine S.g rfl rfl fun Y Z => ?_; simp only [zz, reduceIte, Nat.reduceEqDiff, Nat.reduceAdd]; refine Z _ _ ?_; clear Z Y)
 refine S.nil ?_
 simp only [ze, reduceIte, Nat.reduceEqDiff, Nat.reduceLeDiff, Nat.reduceAdd]
 apply_assumption
 refine AW.seq_k fun K2 h2 => ?_
 refine AW.reg0 ?_
 (refine S.g rfl rfl fun Y Z => ?_; simp only [zz, reduceIte, Nat.reduceEqDiff, Nat.reduceAdd]; refine Z _ _ ?_; clear Z Y)
 (refine S.g rfl rfl fun Y Z => ?_; simp only [zz, reduceIte, Nat.reduceEqDiff, Nat.reduceLeDiff, Nat.reduceAdd]; refine PCalls.eqto (isnan_int _) ?_ <;> (refine Z _ _ ?_; clear Z Y))
 (refine S.g rfl rfl fun Y Z => ?_; simp only [zz, reduceIte, Nat.reduceEqDiff, Nat.reduceAdd]; refine Z _ _ ?_; clear Z Y)
 refine S.nil ?_
 simp only [ze, reduceIte, Nat.reduceEqDiff, Nat.reduceLeDiff, Nat.reduceAdd]
 apply_assumption
 refine AW.seq_k fun K3 h3 => ?_
 refine AW.reg0 ?_
 (refine S.g rfl rfl fun Y Z => ?_; simp only [zz, reduceIte, Nat.reduceEqDiff, Nat.reduceAdd]; refine Z _ _ ?_; clear Z Y)
 (refine S.g rfl rfl fun Y Z => ?_; simp only [zz, reduceIte, Nat.reduceEqDiff, Nat.reduceLeDiff, Nat.reduceAdd]; refine PCalls.eqto (isnan_int _) ?_ <;> (refine Z _ _ ?_; clear Z Y))
 (refine S.g rfl rfl fun Y Z => ?_; simp only [zz, reduceIte, Nat.reduceEqDiff, Nat.reduceAdd]; refine Z _ _ ?_; clear Z Y)
 refine S.nil ?_
 simp only [ze, reduceIte, Nat.reduceEqDiff, Nat.reduceLeDiff, Nat.reduceAdd]
 apply_assumption
 refine AW.seq_k fun K4 h4 => ?_
 refine AW.seq_k fun K5 h5 => ?_
 refine AW.reg0 ?_
 (refine S.g rfl rfl fun Y Z => ?_; simp only [zz, reduceIte, Nat.reduceEqDiff, Nat.reduceAdd]; refine Z _ _ ?_; clear Z Y)
 refine S.nil ?_
 simp only [ze, reduceIte, Nat.reduceEqDiff, Nat.reduceLeDiff, Nat.reduceAdd]
 apply_assumption
 refine AW.cond (b := false) (by simp [ev]) (fun hc => by cases hc) (fun hc => AW.skip ?_)
 simp only [zs, reduceIte, Nat.reduceEqDiff, Nat.reduceLeDiff, Nat.reduceAdd]
 apply_assumption
 refine AW.seq_k fun K6 h6 => ?_
 refine AW.seq_k fun K7 h7 => ?_
 refine AW.reg0 ?_
 (refine S.g rfl rfl fun Y Z => ?_; simp only [zz, reduceIte, Nat.reduceEqDiff, Nat.reduceAdd]; refine Z _ _ ?_; clear Z Y)
 refine S.nil ?_
 simp only [ze, reduceIte, Nat.reduceEqDiff, Nat.reduceLeDiff, Nat.reduceAdd]
 apply_assumption
 refine AW.cond (b := false) (by simp [ev]) (fun hc => by cases hc) (fun hc => AW.skip ?_)
 simp only [zs, reduceIte, Nat.reduceEqDiff, Nat.reduceLeDiff, Nat.reduceAdd]
 apply_assumption
 refine AW.seq_k fun K8 h8 => ?_
 refine AW.seq_k fun K9 h9 => ?_
 refine AW.reg0 ?_
 iterate 3 (refine S.g rfl rfl fun Y Z => ?_; simp only [zz, reduceIte, Nat.reduceEqDiff, Nat.reduceAdd]; refine Z _ _ ?_; clear Z Y)
 refine S.nil ?_
 simp only [ze, reduceIte, Nat.reduceEqDiff, Nat.reduceLeDiff, Nat.reduceAdd]
 apply_assumption
 refine AW.cond (b := decide (a < b)) (by simp [ev]) (fun hc => ?_) (fun hc => ?_)
 ·have hc := of_decide_eq_true hc
  refine AW.seq_k fun K10 h10 => ?_
  refine AW.reg0 ?_
  (refine S.g rfl rfl fun Y Z => ?_; simp only [zz, reduceIte, Nat.reduceEqDiff, Nat.reduceAdd]; refine Z _ _ ?_; clear Z Y)
  refine S.nil ?_
  simp only [ze, reduceIte, Nat.reduceEqDiff, Nat.reduceLeDiff, Nat.reduceAdd]
  apply_assumption
  refine AW.ret ?_
  simp only [zs, reduceIte, Nat.reduceEqDiff, Nat.reduceLeDiff, Nat.reduceAdd]
  simp [cmpI, hc]
 ·have hc := of_decide_eq_false hc
  refine AW.skip ?_
  simp only [zs, reduceIte, Nat.reduceEqDiff, Nat.reduceLeDiff, Nat.reduceAdd]
  apply_assumption
  refine AW.seq_k fun K11 h11 => ?_
  refine AW.seq_k fun K12 h12 => ?_
  refine AW.reg0 ?_
  iterate 3 (refine S.g rfl rfl fun Y Z => ?_; simp only [zz, reduceIte, Nat.reduceEqDiff, Nat.reduceAdd]; refine Z _ _ ?_; clear Z Y)
  refine S.nil ?_
  simp only [ze, reduceIte, Nat.reduceEqDiff, Nat.reduceLeDiff, Nat.reduceAdd]
  apply_assumption
  refine AW.cond (b := decide (a > b)) (by simp [ev]) (fun hd => ?_) (fun hd => ?_)
  ·have hd := of_decide_eq_true hd
   refine AW.seq_k fun K13 h13 => ?_
   refine AW.reg0 ?_
   (refine S.g rfl rfl fun Y Z => ?_; simp only [zz, reduceIte, Nat.reduceEqDiff, Nat.reduceAdd]; refine Z _ _ ?_; clear Z Y)
   refine S.nil ?_
   simp only [ze, reduceIte, Nat.reduceEqDiff, Nat.reduceLeDiff, Nat.reduceAdd]
   apply_assumption
   refine AW.ret ?_
   simp only [zs, reduceIte, Nat.reduceEqDiff, Nat.reduceLeDiff, Nat.reduceAdd]
   rw [cmpI, if_neg hc, if_pos hd]
  ·have hd := of_decide_eq_false hd
   refine AW.skip ?_
   simp only [zs, reduceIte, Nat.reduceEqDiff, Nat.reduceLeDiff, Nat.reduceAdd]
   apply_assumption
   refine AW.seq_k fun K14 h14 => ?_
   refine AW.reg0 ?_
   (refine S.g rfl rfl fun Y Z => ?_; simp only [zz, reduceIte, Nat.reduceEqDiff, Nat.reduceAdd]; refine Z _ _ ?_; clear Z Y)
   refine S.nil ?_
   simp only [ze, reduceIte, Nat.reduceEqDiff, Nat.reduceLeDiff, Nat.reduceAdd]
   apply_assumption
   refine AW.ret ?_
   simp only [zs, reduceIte, Nat.reduceEqDiff, Nat.reduceLeDiff, Nat.reduceAdd]
   rw [cmpI, if_neg hc, if_neg hd]
theorem isnan_i64 (a : Int) : PCalls Tryz.prog 94 [.c (.int .i64 a)] (fun v => v = .c (.bool false)) := by
 refine PCalls.intro Tryz.call94 Tryz.func94 rfl Tryz.ntmps94 Tryz.results94 (by simp) ?_
 refine AW.seq_k fun K1 h1 => ?_
 refine AW.reg0 ?_
 (refine S.g rfl rfl fun Y Z => ?_; simp only [zz, reduceIte, Nat.reduceEqDiff, Nat.reduceAdd]; refine Z _ _ ?_; clear Z Y)
 refine S.nil ?_
 simp only [ze, reduceIte, Nat.reduceEqDiff, Nat.reduceLeDiff, Nat.reduceAdd]
 apply_assumption
 refine AW.seq_k fun K2 h2 => ?_
 refine AW.reg0 ?_
 iterate 4 (refine S.g rfl rfl fun Y Z => ?_; simp only [zz, reduceIte, Nat.reduceEqDiff, Nat.reduceAdd]; refine Z _ _ ?_; clear Z Y)
 refine S.nil ?_
 simp only [ze, reduceIte, Nat.reduceEqDiff, Nat.reduceLeDiff, Nat.reduceAdd]
 apply_assumption
 refine AW.ret ?_
 simp only [zs, reduceIte, Nat.reduceEqDiff, Nat.reduceLeDiff, Nat.reduceAdd]
 simp
theorem compare_i64 (a b : Int) : PCalls Tryz.prog 79 [.c (.int .i64 a), .c (.int .i64 b)] (fun v => v = .c (.int .i64 (cmpI a b))) := by
 refine PCalls.intro Tryz.call79 Tryz.func79 rfl Tryz.ntmps79 Tryz.results79 (by simp) ?_
 refine AW.seq_k fun K1 h1 => ?_
 refine AW.reg0 ?_
 (refine S.g rfl rfl fun Y Z => ?_; simp only [zz, reduceIte, Nat.reduceEqDiff, Nat.reduceAdd]; refine Z _ _ ?_; clear Z Y)
 refine S.nil ?_
 simp only [ze, reduceIte, Nat.reduceEqDiff, Nat.reduceLeDiff, Nat.reduceAdd]
 apply_assumption
 refine AW.seq_k fun K2 h2 => ?_
 refine AW.reg0 ?_
 (refine S.g rfl rfl fun Y Z => ?_; simp only [zz, reduceIte, Nat.reduceEqDiff, Nat.reduceAdd]; refine Z _ _ ?_; clear Z Y)
 (refine S.g rfl rfl fun Y Z => ?_; simp only [zz, reduceIte, Nat.reduceEqDiff, Nat.reduceLeDiff, Nat.reduceAdd]; refine PCalls.eqto (isnan_i64 _) ?_ <;> (refine Z _ _ ?_; clear Z Y))
 (refine S.g rfl rfl fun Y Z => ?_; simp only [zz, reduceIte, Nat.reduceEqDiff, Nat.reduceAdd]; refine Z _ _ ?_; clear Z Y)
 refine S.nil ?_
 simp only [ze, reduceIte, Nat.reduceEqDiff, Nat.reduceLeDiff, Nat.reduceAdd]
 apply_assumption
 refine AW.seq_k fun K3 h3 => ?_
 refine AW.reg0 ?_
 (refine S.g rfl rfl fun Y Z => ?_; simp only [zz, reduceIte, Nat.reduceEqDiff, Nat.reduceAdd]; refine Z _ _ ?_; clear Z Y)
 (refine S.g rfl rfl fun Y Z => ?_; simp only [zz, reduceIte, Nat.reduceEqDiff, Nat.reduceLeDiff, Nat.reduceAdd]; refine PCalls.eqto (isnan_i64 _) ?_ <;> (refine Z _ _ ?_; clear Z Y))
 (refine S.g rfl rfl fun Y Z => ?_; simp only [zz, reduceIte, Nat.reduceEqDiff, Nat.reduceAdd]; refine Z _ _ ?_; clear Z Y)
 refine S.nil ?_
 simp only [ze, reduceIte, Nat.reduceEqDiff, Nat.reduceLeDiff, Nat.reduceAdd]
 apply_assumption
 refine AW.seq_k fun K4 h4 => ?_
 refine AW.seq_k fun K5 h5 => ?_
 refine AW.reg0 ?_
 (refine S.g rfl rfl fun Y Z => ?_; simp only [zz, reduceIte, Nat.reduceEqDiff, Nat.reduceAdd]; refine Z _ _ ?_; clear Z Y)
 refine S.nil ?_
 simp only [ze, reduceIte, Nat.reduceEqDiff, Nat.reduceLeDiff, Nat.reduceAdd]
 apply_assumption
 refine AW.cond (b := false) (by simp [ev]) (fun hc => by cases hc) (fun hc => AW.skip ?_)
 simp only [zs, reduceIte, Nat.reduceEqDiff, Nat.reduceLeDiff, Nat.reduceAdd]
 apply_assumption
 refine AW.seq_k fun K6 h6 => ?_
 refine AW.seq_k fun K7 h7 => ?_
 refine AW.reg0 ?_
 (refine S.g rfl rfl fun Y Z => ?_; simp only [zz, reduceIte, Nat.reduceEqDiff, Nat.reduceAdd]; refine Z _ _ ?_; clear Z Y)
 refine S.nil ?_
 simp only [ze, reduceIte, Nat.reduceEqDiff, Nat.reduceLeDiff, Nat.reduceAdd]
 apply_assumption
 refine AW.cond (b := false) (by simp [ev]) (fun hc => by cases hc) (fun hc => AW.skip ?_)
 simp only [zs, reduceIte, Nat.reduceEqDiff, Nat.reduceLeDiff, Nat.reduceAdd]
 apply_assumption
 refine AW.seq_k fun K8 h8 => ?_
 refine AW.seq_k fun K9 h9 => ?_
 refine AW.reg0 ?_
 iterate 3 (refine S.g rfl rfl fun Y Z => ?_; simp only [zz, reduceIte, Nat.reduceEqDiff, Nat.reduceAdd]; refine Z _ _ ?_; clear Z Y)
 refine S.nil ?_
 simp only [ze, reduceIte, Nat.reduceEqDiff, Nat.reduceLeDiff, Nat.reduceAdd]
 apply_assumption
 refine AW.cond (b := decide (a < b)) (by simp [ev]) (fun hc => ?_) (fun hc => ?_)
 ·have hc := of_decide_eq_true hc
  refine AW.seq_k fun K10 h10 => ?_
  refine AW.reg0 ?_
  (refine S.g rfl rfl fun Y Z => ?_; simp only [zz, reduceIte, Nat.reduceEqDiff, Nat.reduceAdd]; refine Z _ _ ?_; clear Z Y)
  refine S.nil ?_
  simp only [ze, reduceIte, Nat.reduceEqDiff, Nat.reduceLeDiff, Nat.reduceAdd]
  apply_assumption
  refine AW.ret ?_
  simp only [zs, reduceIte, Nat.reduceEqDiff, Nat.reduceLeDiff, Nat.reduceAdd]
  simp [cmpI, hc]
 ·have hc := of_decide_eq_false hc
  refine AW.skip ?_
  simp only [zs, reduceIte, Nat.reduceEqDiff, Nat.reduceLeDiff, Nat.reduceAdd]
  apply_assumption
  refine AW.seq_k fun K11 h11 => ?_
  refine AW.seq_k fun K12 h12 => ?_
  refine AW.reg0 ?_
  iterate 3 (refine S.g rfl rfl fun Y Z => ?_; simp only [zz, reduceIte, Nat.reduceEqDiff, Nat.reduceAdd]; refine Z _ _ ?_; clear Z Y)
  refine S.nil ?_
  simp only [ze, reduceIte, Nat.reduceEqDiff, Nat.reduceLeDiff, Nat.reduceAdd]
  apply_assumption
  refine AW.cond (b := decide (a > b)) (by simp [ev]) (fun hd => ?_) (fun hd => ?_)
  ·have hd := of_decide_eq_true hd
   refine AW.seq_k fun K13 h13 => ?_
   refine AW.reg0 ?_
   (refine S.g rfl rfl fun Y Z => ?_; simp only [zz, reduceIte, Nat.reduceEqDiff, Nat.reduceAdd]; refine Z _ _ ?_; clear Z Y)
   refine S.nil ?_
   simp only [ze, reduceIte, Nat.reduceEqDiff, Nat.reduceLeDiff, Nat.reduceAdd]
   apply_assumption
   refine AW.ret ?_
   simp only [zs, reduceIte, Nat.reduceEqDiff, Nat.reduceLeDiff, Nat.reduceAdd]
   rw [cmpI, if_neg hc, if_pos hd]
  ·have hd := of_decide_eq_false hd
   refine AW.skip ?_
   simp only [zs, reduceIte, Nat.reduceEqDiff, Nat.reduceLeDiff, Nat.reduceAdd]
   apply_assumption
   refine AW.seq_k fun K14 h14 => ?_
   refine AW.reg0 ?_
   (refine S.g rfl rfl fun Y Z => ?_; simp only [zz, reduceIte, Nat.reduceEqDiff, Nat.reduceAdd]; refine Z _ _ ?_; clear Z Y)
   refine S.nil ?_
   simp only [ze, reduceIte, Nat.reduceEqDiff, Nat.reduceLeDiff, Nat.reduceAdd]
   apply_assumption
   refine AW.ret ?_
   simp only [zs, reduceIte, Nat.reduceEqDiff, Nat.reduceLeDiff, Nat.reduceAdd]
   rw [cmpI, if_neg hc, if_neg hd]
def orI : List Int → Int
  | [] => 0
  | a :: l => if a ≠ 0 then a else orI l
theorem or_spec (l : List Int) (hl : l.length < 4611686018427387904) : PCalls Tryz.prog 58 [.sl (l.map encI)] (fun v => v = .c (.int .i64 (orI l))) := by
 refine PCalls.intro Tryz.call58 Tryz.func58 rfl Tryz.ntmps58 Tryz.results58 (by simp) ?_
 refine AW.seq_k fun K1 h1 => ?_
 refine AW.reg0 ?_
 (refine S.g rfl rfl fun Y Z => ?_; simp only [zz, reduceIte, Nat.reduceEqDiff, Nat.reduceAdd]; refine Z _ _ ?_; clear Z Y)
 refine S.nil ?_
 simp only [ze, reduceIte, Nat.reduceEqDiff, Nat.reduceLeDiff, Nat.reduceAdd]
 apply_assumption
 refine AW.seq_k fun K2 h2 => ?_
 refine AW.reg0 ?_
 (refine S.g rfl rfl fun Y Z => ?_; simp only [zz, reduceIte, Nat.reduceEqDiff, Nat.reduceAdd]; refine Z _ _ ?_; clear Z Y)
 refine S.nil ?_
 simp only [ze, reduceIte, Nat.reduceEqDiff, Nat.reduceLeDiff, Nat.reduceAdd]
 apply_assumption
 refine AW.seq_k fun K3 h3 => ?_
 refine AW.seq_k fun K4 h4 => ?_
 refine AW.reg0 ?_
 iterate 3 (refine S.g rfl rfl fun Y Z => ?_; simp only [zz, reduceIte, Nat.reduceEqDiff, Nat.reduceLeDiff, Nat.reduceAdd, sl121, el121, ok3, sz3, ag3]; refine Z _ _ ?_; clear Z Y)
 refine S.nil ?_
 simp only [ze, reduceIte, Nat.reduceEqDiff, Nat.reduceLeDiff, Nat.reduceAdd]
 apply_assumption
 refine AW.block ?_   -- 0
 refine AW.loop (fun m s σ => σ = Hp.empty ∧ ∃ i : Nat, m + i = l.length ∧ s.t 3 = .c (.int .i64 0) ∧ s.t 6 = .sl (l.map encI) ∧ s.t 7 = .c (.int .i64 l.length) ∧ s.t 8 = .c (.int .i64 i) ∧ orI l = orI (l.drop i)) l.length ?_ ?_
 ·refine ⟨rfl, 0, by simp, ?_⟩
  simp only [zs, reduceIte, Nat.reduceEqDiff, Nat.reduceLeDiff, Nat.reduceAdd]
  simp
 rintro m s σ ⟨rfl, i, hm, e3, e6, e7, e8, hp⟩
 refine AW.seq_k fun K5 h5 => ?_
 refine AW.reg0 ?_
 (refine S.g rfl rfl fun Y Z => ?_; simp only [zz, reduceIte, Nat.reduceEqDiff, Nat.reduceAdd, e7, e8]; refine Z _ _ ?_; clear Z Y)
 refine S.nil ?_
 simp only [ze, reduceIte, Nat.reduceEqDiff, Nat.reduceLeDiff, Nat.reduceAdd, e7, e8]
 apply_assumption
 refine AW.seq_k fun K6 h6 => ?_
 refine AW.cond (b := decide (i < l.length)) (by simp [ev]) (fun hc => ?_) (fun hc => ?_)
 ·refine AW.skip ?_
  simp only [zs, reduceIte, Nat.reduceEqDiff, Nat.reduceLeDiff, Nat.reduceAdd]
  apply_assumption
  have hi : i < l.length := by simpa using hc
  have hg := getD_map (f := encI) hi
  have hd : l.drop i = l[i] :: l.drop (i + 1) := List.drop_eq_getElem_cons hi
  generalize ha : l[i] = a at hg hd
  have hw : IntKind.i64.wrap ((i : Int) + 1) = ((i + 1 : Nat) : Int) := by rw [wrap_small _ (by omega) (by omega)]; rfl
  rw [hd, orI] at hp
  refine AW.seq_k fun K7 h7 => ?_
  refine AW.block ?_   -- 1
  refine AW.seq_k fun K8 h8 => ?_
  refine AW.reg0 ?_
  iterate 3 (refine S.g rfl rfl fun Y Z => ?_; simp only [zz, reduceIte, Nat.reduceEqDiff, Nat.reduceLeDiff, Nat.reduceAdd, sl121, el121, ok3, sz3, ag3, e6, e8, hi, hg, encI]; refine Z _ _ ?_; clear Z Y)
  refine S.nil ?_
  simp only [ze, reduceIte, Nat.reduceEqDiff, Nat.reduceLeDiff, Nat.reduceAdd, e6, e8, hi, hg, encI]
  apply_assumption
  refine AW.seq_k fun K9 h9 => ?_
  refine AW.reg0 ?_
  iterate 3 (refine S.g rfl rfl fun Y Z => ?_; simp only [zz, reduceIte, Nat.reduceEqDiff, Nat.reduceAdd, e3]; refine Z _ _ ?_; clear Z Y)
  refine S.nil ?_
  simp only [ze, reduceIte, Nat.reduceEqDiff, Nat.reduceLeDiff, Nat.reduceAdd, e3]
  apply_assumption
  refine AW.cond (b := a != 0) (by simp [ev]) (fun hx => ?_) (fun hx => ?_)
  ·have hx : a ≠ 0 := by simpa using hx
   refine AW.seq_k fun K10 h10 => ?_
   refine AW.reg0 ?_
   iterate 2 (refine S.g rfl rfl fun Y Z => ?_; simp only [zz, reduceIte, Nat.reduceEqDiff, Nat.reduceAdd]; refine Z _ _ ?_; clear Z Y)
   refine S.nil ?_
   simp only [ze, reduceIte, Nat.reduceEqDiff, Nat.reduceLeDiff, Nat.reduceAdd]
   apply_assumption
   refine AW.ret ?_
   simp only [zs, reduceIte, Nat.reduceEqDiff, Nat.reduceLeDiff, Nat.reduceAdd]
   rw [hp, if_pos hx]
  ·have hx : ¬ a ≠ 0 := by simpa using hx
   rw [if_neg hx] at hp
   refine AW.skip ?_
   simp only [zs, reduceIte, Nat.reduceEqDiff, Nat.reduceLeDiff, Nat.reduceAdd]
   apply_assumption
   refine AW.reg0 ?_
   iterate 2 (refine S.g rfl rfl fun Y Z => ?_; simp only [zz, reduceIte, Nat.reduceEqDiff, Nat.reduceAdd, e8, hw]; refine Z _ _ ?_; clear Z Y)
   refine S.nil ?_
   simp only [ze, reduceIte, Nat.reduceEqDiff, Nat.reduceLeDiff, Nat.reduceAdd, e8, hw]
   exact ⟨m - 1, by omega, i + 1, by omega, e3, e6, e7, rfl, hp⟩
 ·refine AW.exit ?_
  simp only [zs, reduceIte, Nat.reduceEqDiff, Nat.reduceLeDiff, Nat.reduceAdd]
  apply_assumption
  have hi : l.length ≤ i := by simpa using hc
  refine AW.seq_k fun K11 h11 => ?_
  refine AW.reg0 ?_
  iterate 2 (refine S.g rfl rfl fun Y Z => ?_; simp only [zz, reduceIte, Nat.reduceEqDiff, Nat.reduceAdd, e3]; refine Z _ _ ?_; clear Z Y)
  refine S.nil ?_
  simp only [ze, reduceIte, Nat.reduceEqDiff, Nat.reduceLeDiff, Nat.reduceAdd, e3]
  apply_assumption
  refine AW.ret ?_
  simp only [zs, reduceIte, Nat.reduceEqDiff, Nat.reduceLeDiff, Nat.reduceAdd]
  rw [hp, List.drop_of_length_le hi]; rfl
def encId (p : Int × Int) : List V := [.c (.int .i64 p.1), .c (.int .i64 p.2)]
def cmpId (a b : Int × Int) : Int := orI [cmpI a.1 b.1, cmpI a.2 b.2]
theorem compare_id (a b : Int × Int) : PCalls Tryz.prog 59 [.agg (encId a), .agg (encId b)] (fun v => v = .c (.int .i64 (cmpId a b))) := by
 refine PCalls.intro Tryz.call59 Tryz.func59 rfl Tryz.ntmps59 Tryz.results59 (by simp) ?_
 refine AW.seq_k fun K1 h1 => ?_
 refine AW.reg0 ?_
 iterate 3 (refine S.g rfl rfl fun Y Z => ?_; simp only [zz, reduceIte, Nat.reduceEqDiff, Nat.reduceLT, Nat.reduceLeDiff, Nat.reduceAdd, reduceCtorEq, Nat.reduceMul, ok33, sz33, ag33, encId]; refine Z _ _ ?_; clear Z Y)
 refine S.nil ?_
 simp only [ze, reduceIte, Nat.reduceEqDiff, Nat.reduceLT, Nat.reduceLeDiff, Nat.reduceAdd, reduceCtorEq, Nat.reduceMul, encId]
 apply_assumption
 refine AW.seq_k fun K2 h2 => ?_
 refine AW.draw (T := { sd := fun d => d == 2 || d == 3 }) (fun _ _ h => by cases h) mixedO [(0, 0), (2, 0), (5, 0), (7, 0), (1, 1), (3, 1), (6, 1), (8, 1), (4, 2), (9, 2), (10, 2), (11, 2), (12, 0)] rfl (by kernel_rfl) (by kernel_rfl) ?_
 iterate 4 (refine D.g rfl trivial rfl rfl fun Y Z => ?_; simp only [zz, reduceIte, Nat.reduceEqDiff, Nat.reduceLT, Nat.reduceLeDiff, Nat.reduceAdd, reduceCtorEq, Nat.reduceMul, of33_0, of33_1]; refine Z _ _ ?_; clear Z Y)
 iterate 4 (refine D.g rfl rfl rfl rfl fun Y Z => ?_; simp only [zz, reduceIte, Nat.reduceEqDiff, Nat.reduceLT, Nat.reduceLeDiff, Nat.reduceAdd, reduceCtorEq, Nat.reduceMul, ok3, sz3, ag3, ok2, sz2, ag2]; refine Z _ _ ?_; clear Z Y)
 (refine D.g rfl trivial rfl rfl fun Y Z => ?_; simp only [zz, reduceIte, Nat.reduceEqDiff, Nat.reduceLT, Nat.reduceLeDiff, Nat.reduceAdd, reduceCtorEq, Nat.reduceMul]; refine PCalls.eqto (compare_int _ _) ?_ <;> (refine Z _ _ ?_; clear Z Y))
 (refine D.g rfl trivial rfl rfl fun Y Z => ?_; simp only [zz, reduceIte, Nat.reduceEqDiff, Nat.reduceLT, Nat.reduceLeDiff, Nat.reduceAdd, reduceCtorEq, Nat.reduceMul]; refine PCalls.eqto (compare_i64 _ _) ?_ <;> (refine Z _ _ ?_; clear Z Y))
 (refine D.g rfl trivial rfl rfl fun Y Z => ?_; simp only [zb, reduceIte, Nat.reduceEqDiff, Nat.reduceLT, Nat.reduceLeDiff, Nat.reduceAdd, reduceCtorEq, Nat.reduceMul, sl121, el121, ok3, sz3, ag3, zt3, by3]; refine ⟨rfl, (by simp), ?_⟩ <;> (refine Z _ _ ?_; clear Z Y))
 (refine D.g rfl trivial rfl rfl fun Y Z => ?_; simp only [zz, reduceIte, Nat.reduceEqDiff, Nat.reduceLT, Nat.reduceLeDiff, Nat.reduceAdd, reduceCtorEq, Nat.reduceMul]; refine PCalls.eqto (or_spec [cmpI a.1 b.1, cmpI a.2 b.2] (by simp)) ?_ <;> (refine Z _ _ ?_; clear Z Y))
 (refine D.g rfl trivial rfl rfl fun Y Z => ?_; simp only [zz, reduceIte, Nat.reduceEqDiff, Nat.reduceAdd]; refine Z _ _ ?_; clear Z Y)
 refine D.nil ?_
 simp only [ze, reduceIte, Nat.reduceEqDiff, Nat.reduceLT, Nat.reduceLeDiff, Nat.reduceAdd, reduceCtorEq, Nat.reduceMul]
 apply_assumption
 refine AW.ret ?_
 simp only [zs, reduceIte, Nat.reduceEqDiff, Nat.reduceLT, Nat.reduceLeDiff, Nat.reduceAdd, reduceCtorEq, Nat.reduceMul]
 rfl
theorem cmpId_eq (a b : Int × Int) : (if a.1 < b.1 ∨ a.1 = b.1 ∧ a.2 < b.2 then -1 else if a = b then 0 else 1) = cmpId a b := by
 obtain ⟨a1, a2⟩ := a
 obtain ⟨b1, b2⟩ := b
 simp only [cmpId, orI, cmpI, Prod.mk.injEq]
 by_cases h1 : a1 < b1
 ·simp [h1]
 ·by_cases h2 : b1 < a1
  ·have : a1 ≠ b1 := by omega
   simp [h1, h2, this]
  ·have : a1 = b1 := by omega
   subst this
   by_cases h3 : a2 < b2
   ·simp [h3]
   ·by_cases h4 : b2 < a2
    ·have : a2 ≠ b2 := by omega
     simp [h3, h4, this]
    ·have : a2 = b2 := by omega
     subst this; simp
theorem rcompare_id (a b : Int × Int) : PCalls Tryz.prog 77 [.agg (encId a), .agg (encId b)] (fun v => v = .c (.int .i64 (cmpId a b))) := by
 refine PCalls.intro Tryz.call77 Tryz.func77 rfl Tryz.ntmps77 Tryz.results77 (by simp) ?_
 refine AW.seq_k fun K1 h1 => ?_
 all_goals refine AW.reg0 ?_
 all_goals iterate 3 (refine S.g rfl rfl fun Y Z => ?_; simp only [zz, reduceIte, Nat.reduceEqDiff, Nat.reduceLT, Nat.reduceLeDiff, Nat.reduceAdd, reduceCtorEq, Nat.reduceMul, ok33, sz33, ag33, encId]; refine Z _ _ ?_; clear Z Y)
 all_goals refine S.nil ?_
 all_goals simp only [ze, reduceIte, Nat.reduceEqDiff, Nat.reduceLT, Nat.reduceLeDiff, Nat.reduceAdd, reduceCtorEq, Nat.reduceMul, encId]
 all_goals apply_assumption
 refine AW.seq_k fun K2 h2 => ?_
 refine AW.block ?_   -- 0
 refine AW.seq_j (fun s' σ' => σ' = Hp.empty ∧ s'.t 2 = .lp 2 0 ∧ s'.l 2 = some [.c (.int .i64 a.1), .c (.int .i64 a.2)] ∧ s'.t 3 = .lp 3 0 ∧ s'.l 3 = some [.c (.int .i64 b.1), .c (.int .i64 b.2)] ∧ s'.t 5 = .c (.bool (decide (a.1 < b.1 ∨ a.1 = b.1 ∧ a.2 < b.2)))) ?_ ?_
 ·skip
  all_goals refine AW.reg0 ?_
  all_goals iterate 4 (refine S.g rfl rfl fun Y Z => ?_; simp only [zz, reduceIte, Nat.reduceEqDiff, Nat.reduceLT, Nat.reduceLeDiff, Nat.reduceAdd, reduceCtorEq, Nat.reduceMul, of33_0, ok3, sz3, ag3]; refine Z _ _ ?_; clear Z Y)
  all_goals (refine S.g rfl rfl fun Y Z => ?_; simp only [zz, reduceIte, Nat.reduceEqDiff, Nat.reduceLT, Nat.reduceLeDiff, Nat.reduceAdd, reduceCtorEq, Nat.reduceMul]; refine S.bool fun b a10 => ?_; cases b <;> (try (exfalso; first | exact Bool.noConfusion a10 | (have h := of_decide_eq_true a10; omega) | (have h := of_decide_eq_false a10; omega))) <;> (refine Z _ _ ?_; clear Z Y))
  all_goals (refine S.g rfl rfl fun Y Z => ?_; simp only [zz, reduceIte, Nat.reduceEqDiff, Nat.reduceAdd]; refine Z _ _ ?_; clear Z Y)
  all_goals iterate 4 (first | (refine S.y rfl rfl rfl rfl fun Y Z => ?_; simp only [zz, reduceIte, Nat.reduceEqDiff, Nat.reduceLT, Nat.reduceLeDiff, Nat.reduceAdd, reduceCtorEq, Nat.reduceMul, of33_0, ok3, sz3, ag3]; refine Z _ _ ?_; clear Z Y) | ((first | refine S.x rfl rfl rfl rfl fun Y Z => ?_ | refine S.u rfl rfl rfl rfl fun Y Z => ?_); simp only [ze, reduceIte, Nat.reduceEqDiff]; refine Z _ _ ?_; clear Z Y))
  all_goals (first | (refine S.y rfl rfl rfl rfl fun Y Z => ?_; simp only [zz, reduceIte, Nat.reduceEqDiff, Nat.reduceLT, Nat.reduceLeDiff, Nat.reduceAdd, reduceCtorEq, Nat.reduceMul]; refine S.bool fun b a16 => ?_; cases b <;> (try (exfalso; first | exact Bool.noConfusion a16 | (have h := of_decide_eq_true a16; omega) | (have h := of_decide_eq_false a16; omega))) <;> (refine Z _ _ ?_; clear Z Y)) | ((first | refine S.x rfl rfl rfl rfl fun Y Z => ?_ | refine S.u rfl rfl rfl rfl fun Y Z => ?_); simp only [ze, reduceIte, Nat.reduceEqDiff]; refine Z _ _ ?_; clear Z Y))
  all_goals iterate 7 (first | (refine S.y rfl rfl rfl rfl fun Y Z => ?_; simp only [zz, reduceIte, Nat.reduceEqDiff, Nat.reduceLT, Nat.reduceLeDiff, Nat.reduceAdd, reduceCtorEq, Nat.reduceMul, of33_1, ok2, sz2, ag2]; refine Z _ _ ?_; clear Z Y) | ((first | refine S.x rfl rfl rfl rfl fun Y Z => ?_ | refine S.u rfl rfl rfl rfl fun Y Z => ?_); simp only [ze, reduceIte, Nat.reduceEqDiff]; refine Z _ _ ?_; clear Z Y))
  all_goals iterate 2 (refine S.g rfl rfl fun Y Z => ?_; simp only [zz, reduceIte, Nat.reduceEqDiff, Nat.reduceAdd]; refine Z _ _ ?_; clear Z Y)
  all_goals refine S.nil ?_
  all_goals simp only [ze, reduceIte, Nat.reduceEqDiff, Nat.reduceLT, Nat.reduceLeDiff, Nat.reduceAdd, reduceCtorEq, Nat.reduceMul]
  all_goals (try simp only [beq_eq_false_iff_ne, decide_eq_true_eq, decide_eq_false_iff_not, beq_iff_eq, ne_eq, Bool.not_eq_true', Bool.not_eq_false', bne_iff_ne, bne_eq_false_iff_eq] at *)
  all_goals (try simp only [V.c.injEq, Value.bool.injEq, Value.int.injEq, true_and])
  all_goals first | done | rfl | omega | ((rw [Bool.eq_iff_iff]; simp only [beq_eq_false_iff_ne, decide_eq_true_eq, decide_eq_false_iff_not, beq_iff_eq, ne_eq, Bool.not_eq_true', Bool.not_eq_false', bne_iff_ne, bne_eq_false_iff_eq, Bool.false_or, Bool.true_or, Bool.or_false, Bool.or_true, Bool.false_and, Bool.and_false, Bool.true_and, Bool.and_true, Bool.not_true, Bool.not_false, Bool.or_eq_false_iff, Bool.and_eq_false_iff, Bool.or_eq_true, Bool.and_eq_true, Bool.false_eq_true, Bool.true_eq_false, true_iff, iff_true, false_iff, iff_false]) <;> omega)
 rintro s σ ⟨rfl, e2, l2, e3, l3, e5⟩
 refine AW.cond (b := _) e5 (fun hc => ?_) (fun hc => ?_)
 ·have hc := of_decide_eq_true hc
  refine AW.seq_k fun K3 h3 => ?_
  all_goals refine AW.reg0 ?_
  all_goals (refine S.g rfl rfl fun Y Z => ?_; simp only [zz, reduceIte, Nat.reduceEqDiff, Nat.reduceAdd]; refine Z _ _ ?_; clear Z Y)
  all_goals refine S.nil ?_
  all_goals simp only [ze, reduceIte, Nat.reduceEqDiff, Nat.reduceLT, Nat.reduceLeDiff, Nat.reduceAdd, reduceCtorEq, Nat.reduceMul]
  all_goals apply_assumption
  refine AW.ret ?_
  all_goals simp only [zs, reduceIte, Nat.reduceEqDiff, Nat.reduceLT, Nat.reduceLeDiff, Nat.reduceAdd, reduceCtorEq, Nat.reduceMul]
  rw [← cmpId_eq, if_pos hc]
 ·have hc := of_decide_eq_false hc
  refine AW.seq_k fun K4 h4 => ?_
  all_goals refine AW.region (T := { eqk := eqTab }) (eqTab_ok) rfl ?_
  all_goals iterate 4 (refine S.g rfl rfl fun Y Z => ?_; simp only [zz, reduceIte, Nat.reduceEqDiff, Nat.reduceLT, Nat.reduceLeDiff, Nat.reduceAdd, reduceCtorEq, Nat.reduceMul, ok33, sz33, ag33, eqk33, fitsAll, SK.fits, cellsEq, cellEq, e2, l2, e3, l3]; refine Z _ _ ?_; clear Z Y)
  all_goals refine S.nil ?_
  all_goals simp only [ze, reduceIte, Nat.reduceEqDiff, Nat.reduceLT, Nat.reduceLeDiff, Nat.reduceAdd, reduceCtorEq, Nat.reduceMul, e2, l2, e3, l3]
  all_goals apply_assumption
  refine AW.cond (b := decide (a = b)) (by simp [ev, Prod.ext_iff]; rfl) (fun hd => ?_) (fun hd => ?_)
  ·have hd := of_decide_eq_true hd
   refine AW.seq_k fun K5 h5 => ?_
   all_goals refine AW.reg0 ?_
   all_goals (refine S.g rfl rfl fun Y Z => ?_; simp only [zz, reduceIte, Nat.reduceEqDiff, Nat.reduceAdd]; refine Z _ _ ?_; clear Z Y)
   all_goals refine S.nil ?_
   all_goals simp only [ze, reduceIte, Nat.reduceEqDiff, Nat.reduceLT, Nat.reduceLeDiff, Nat.reduceAdd, reduceCtorEq, Nat.reduceMul]
   all_goals apply_assumption
   refine AW.ret ?_
   all_goals simp only [zs, reduceIte, Nat.reduceEqDiff, Nat.reduceLT, Nat.reduceLeDiff, Nat.reduceAdd, reduceCtorEq, Nat.reduceMul]
   rw [← cmpId_eq, if_neg hc, if_pos hd]
  ·have hd := of_decide_eq_false hd
   refine AW.skip ?_
   all_goals simp only [zs, reduceIte, Nat.reduceEqDiff, Nat.reduceLT, Nat.reduceLeDiff, Nat.reduceAdd, reduceCtorEq, Nat.reduceMul]
   all_goals apply_assumption
   refine AW.seq_k fun K6 h6 => ?_
   all_goals refine AW.reg0 ?_
   all_goals (refine S.g rfl rfl fun Y Z => ?_; simp only [zz, reduceIte, Nat.reduceEqDiff, Nat.reduceAdd]; refine Z _ _ ?_; clear Z Y)
   all_goals refine S.nil ?_
   all_goals simp only [ze, reduceIte, Nat.reduceEqDiff, Nat.reduceLT, Nat.reduceLeDiff, Nat.reduceAdd, reduceCtorEq, Nat.reduceMul]
   all_goals apply_assumption
   refine AW.ret ?_
   all_goals simp only [zs, reduceIte, Nat.reduceEqDiff, Nat.reduceLT, Nat.reduceLeDiff, Nat.reduceAdd, reduceCtorEq, Nat.reduceMul]
   rw [← cmpId_eq, if_neg hc, if_neg hd]
end Go.Abs.M
