import Derived.Test.YtmhamgllanihoaaMe
namespace Go.Abs.M
open Go Go.Abs Go.Proofs
set_option maxRecDepth 20000
set_option linter.unusedSimpArgs false
set_option linter.unusedVariables false

theorem sym_two (l0 : List Bd) (k a m0 b : Nat) (ham : a + 1 < m0) (hmb : m0 + 1 = b) (hb : b ≤ l0.length) (hn : l0.length < 2147483648) :
    ACalls Try.prog 129 [.gl k, .c (.int .i64 a), .c (.int .i64 m0), .c (.int .i64 b), .fn (.func 64) [] []] (hpB k l0) (hpS k l0) := by
  refine ACalls.intro Try.call129 Try.func129 rfl Try.ntmps129 Try.results129 (by simp) ?_
  have hw1 : IntKind.i64.wrap ((m0 : Int) - a) = ((m0 - a : Nat) : Int) := by rw [wrap_small _ (by omega) (by omega)]; omega
  have hw2 : IntKind.i64.wrap ((b : Int) - m0) = 1 := by rw [wrap_small _ (by omega) (by omega)]; omega
  have h1 : (((m0 - a : Nat) : Int) == 1) = false := by simp; omega
  refine AW.seq_k fun K1 h1 => ?_
  refine AW.seq_k fun K2 h2 => ?_
  all_goals refine AW.reg0 ?_
  all_goals iterate 4 (refine S.g rfl rfl fun K' k' => ?_; simp only [zz, reduceIte, Nat.reduceEqDiff, Nat.reduceAdd, hw1, h1]; refine k' _ _ ?_; clear k' K')
  all_goals refine S.nil ?_
  all_goals simp only [ze, reduceIte, Nat.reduceEqDiff, Nat.reduceLT, Nat.reduceLeDiff, Nat.reduceAdd, reduceCtorEq, Nat.reduceMul, hw1, h1]
  all_goals first | refine h2 _ _ ?_ | refine h1 _ _ ?_
  refine AW.cond (b := false) (by simp [ev]; try omega) (fun hc => by cases hc) (fun hc => AW.skip ?_)
  all_goals simp only [zs, reduceIte, Nat.reduceEqDiff, Nat.reduceLT, Nat.reduceLeDiff, Nat.reduceAdd, reduceCtorEq, Nat.reduceMul]
  all_goals first | refine h2 _ _ ?_ | refine h1 _ _ ?_
  refine AW.seq_k fun K3 h3 => ?_
  refine AW.seq_k fun K4 h4 => ?_
  all_goals refine AW.reg0 ?_
  all_goals iterate 4 (refine S.g rfl rfl fun K' k' => ?_; simp only [zz, reduceIte, Nat.reduceEqDiff, Nat.reduceAdd, hw2]; refine k' _ _ ?_; clear k' K')
  all_goals refine S.nil ?_
  all_goals simp only [ze, reduceIte, Nat.reduceEqDiff, Nat.reduceLT, Nat.reduceLeDiff, Nat.reduceAdd, reduceCtorEq, Nat.reduceMul, hw2]
  all_goals first | refine h4 _ _ ?_ | refine h3 _ _ ?_ | refine h2 _ _ ?_ | refine h1 _ _ ?_
  refine AW.cond (b := true) (by simp [ev]) (fun hc => ?_) (fun hc => by cases hc)
  refine AW.seq_k fun K5 h5 => ?_
  all_goals refine AW.reg0 ?_
  all_goals iterate 2 (refine S.g rfl rfl fun K' k' => ?_; simp only [zz, reduceIte, Nat.reduceEqDiff, Nat.reduceAdd]; refine k' _ _ ?_; clear k' K')
  all_goals refine S.nil ?_
  all_goals simp only [ze, reduceIte, Nat.reduceEqDiff, Nat.reduceLT, Nat.reduceLeDiff, Nat.reduceAdd, reduceCtorEq, Nat.reduceMul]
  all_goals first | refine h5 _ _ ?_ | refine h4 _ _ ?_ | refine h3 _ _ ?_ | refine h2 _ _ ?_ | refine h1 _ _ ?_
  refine AW.seq_k fun K6 h6 => ?_
  all_goals refine AW.reg0 ?_
  all_goals iterate 2 (refine S.g rfl rfl fun K' k' => ?_; simp only [zz, reduceIte, Nat.reduceEqDiff, Nat.reduceAdd]; refine k' _ _ ?_; clear k' K')
  all_goals refine S.nil ?_
  all_goals simp only [ze, reduceIte, Nat.reduceEqDiff, Nat.reduceLT, Nat.reduceLeDiff, Nat.reduceAdd, reduceCtorEq, Nat.reduceMul]
  all_goals first | refine h6 _ _ ?_ | refine h5 _ _ ?_ | refine h4 _ _ ?_ | refine h3 _ _ ?_ | refine h2 _ _ ?_ | refine h1 _ _ ?_
  refine AW.seq_j (fun s σ => ∃ i l', a ≤ i ∧ i ≤ m0 ∧ s.t 0 = .gl k ∧ s.t 2 = .c (.int .i64 m0) ∧ s.t 14 = .c (.int .i64 (i : Nat)) ∧ σ = hpB k l' ∧ Sub l0 l') ?_ ?_
  · refine AW.block ?_   -- 0
    refine AW.loop (fun m s σ => ∃ i j, m = j - i ∧ a ≤ i ∧ i ≤ j ∧ j ≤ m0 ∧ s.t 0 = .gl k ∧ s.t 2 = .c (.int .i64 m0) ∧ s.t 4 = .fn (.func 64) [] [] ∧ s.t 14 = .c (.int .i64 (i : Nat)) ∧ s.t 15 = .c (.int .i64 (j : Nat)) ∧ σ = hpB k l0) (m0 - a) ?_ ?_
    · refine ⟨a, m0, rfl, by omega, by omega, by omega, ?_⟩
      all_goals simp only [zs, reduceIte, Nat.reduceEqDiff, Nat.reduceLT, Nat.reduceLeDiff, Nat.reduceAdd, reduceCtorEq, Nat.reduceMul]
    rintro m s σ ⟨i, j, hm, hi, hij, hj, e0, e2, e4, e10, e11, rfl⟩
    refine AW.seq_k fun K7 h7 => ?_
    refine AW.seq_k fun K8 h8 => ?_
    all_goals refine AW.reg0 ?_
    all_goals iterate 3 (refine S.g rfl rfl fun K' k' => ?_; simp only [zz, reduceIte, Nat.reduceEqDiff, Nat.reduceAdd, e10, e11]; refine k' _ _ ?_; clear k' K')
    all_goals refine S.nil ?_
    all_goals simp only [ze, reduceIte, Nat.reduceEqDiff, Nat.reduceLT, Nat.reduceLeDiff, Nat.reduceAdd, reduceCtorEq, Nat.reduceMul, e10, e11]
    all_goals first | refine h8 _ _ ?_ | refine h7 _ _ ?_ | refine h6 _ _ ?_ | refine h5 _ _ ?_ | refine h4 _ _ ?_ | refine h3 _ _ ?_ | refine h2 _ _ ?_ | refine h1 _ _ ?_
    refine AW.cond (b := decide (i < j)) (by simp [ev]) (fun hc => ?_) (fun hc => ?_)
    · refine AW.skip ?_
      all_goals simp only [zs, reduceIte, Nat.reduceEqDiff, Nat.reduceLT, Nat.reduceLeDiff, Nat.reduceAdd, reduceCtorEq, Nat.reduceMul]
      all_goals first | refine h8 _ _ ?_ | refine h7 _ _ ?_ | refine h6 _ _ ?_ | refine h5 _ _ ?_ | refine h4 _ _ ?_ | refine h3 _ _ ?_ | refine h2 _ _ ?_ | refine h1 _ _ ?_
      have hc := of_decide_eq_true hc
      have hw2 : IntKind.i64.wrap ((i : Int) + j) = ((i + j : Nat) : Int) := by rw [wrap_small _ (by omega) (by omega)]; rfl
      have hu := half_u (i + j) (by omega)
      have hs := half_s (i + j)
      have hw3 : IntKind.i64.wrap (((i + j) / 2 : Nat) : Int) = (((i + j) / 2 : Nat) : Int) := wrap_small _ (by omega) (by omega)
      have hh1 : i ≤ (i + j) / 2 := by omega
      have hh2 : (i + j) / 2 < j := by omega
      generalize (i + j) / 2 = h at *
      refine AW.block ?_   -- 1
      refine AW.seq_k fun K9 h9 => ?_
      all_goals refine AW.reg0 ?_
      all_goals iterate 7 (refine S.g rfl rfl fun K' k' => ?_; simp only [zz, reduceIte, Nat.reduceEqDiff, Nat.reduceAdd, cv3_130, cv130_3, e10, e11, hw2, hu, hs, hw3, Int.reduceLE]; refine k' _ _ ?_; clear k' K')
      all_goals refine S.nil ?_
      all_goals simp only [ze, reduceIte, Nat.reduceEqDiff, Nat.reduceLT, Nat.reduceLeDiff, Nat.reduceAdd, reduceCtorEq, Nat.reduceMul, e10, e11, hw2, hu, hs, hw3, Int.reduceLE]
      all_goals first | refine h9 _ _ ?_ | refine h8 _ _ ?_ | refine h7 _ _ ?_ | refine h6 _ _ ?_ | refine h5 _ _ ?_ | refine h4 _ _ ?_ | refine h3 _ _ ?_ | refine h2 _ _ ?_ | refine h1 _ _ ?_
      have hpb : (hpB k l0).gr k = some ((42, 6), l0.map encBd) := by simp [hpB]
      have hj1 : m0 < l0.length := by omega
      have hj2 : h < l0.length := by omega
      obtain ⟨x, hx, hg1⟩ := get_bd hj1
      obtain ⟨y, hy, hg2⟩ := get_bd hj2
      have hw4 : IntKind.i64.wrap ((h : Int) + 1) = ((h + 1 : Nat) : Int) := by rw [wrap_small _ (by omega) (by omega)]; rfl
      generalize hsg : hpB k l0 = σ0 at hpb ⊢
      refine AW.seq_j (fun s' σ' => σ' = σ0 ∧ s'.t 0 = .gl k ∧ s'.t 2 = .c (.int .i64 m0) ∧ s'.t 4 = .fn (.func 64) [] [] ∧ s'.t 14 = .c (.int .i64 (i : Nat)) ∧ s'.t 15 = .c (.int .i64 (j : Nat)) ∧ s'.t 16 = .c (.int .i64 (h : Nat)) ∧ ∃ b, s'.t 103 = .c (.bool b)) ?_ ?_
      · skip
        all_goals refine AW.draw2 (T := { sd := fun _ => false }) (fun _ _ h => by cases h) mixedO [(0, 0), (1, 0), (2, 0), (3, 0), (5, 0), (6, 0), (7, 0)] 4 8 [(9, 2), (10, 0), (11, 0)] #[true, true, true, true, false, true, true, true, false, false, false, false] rfl (by kernel_rfl) (by kernel_rfl) (by kernel_rfl) (by kernel_rfl) (by kernel_rfl) ?_
        all_goals iterate 7 (refine D.g rfl trivial rfl rfl fun K' k' => ?_; simp only [zz, reduceIte, Nat.reduceEqDiff, Nat.reduceLT, Nat.reduceLeDiff, Nat.reduceAdd, reduceCtorEq, Nat.reduceMul, sl22, el22, ok42, sz42, ag42, e0, e2, e4, hpb, hj1, hj2, hg1, hg2, encBd]; refine k' _ _ ?_; clear k' K')
        all_goals refine D.nil ⟨?_, ?_⟩
        all_goals iterate 2 (refine D.g rfl trivial rfl rfl fun K' k' => ?_; simp only [zz, reduceIte, Nat.reduceEqDiff, Nat.reduceLT, Nat.reduceLeDiff, Nat.reduceAdd, reduceCtorEq, Nat.reduceMul, ok42, sz42, ag42, e0, e2, e4, hpb, hj1, hj2, hg1, hg2, encBd]; refine k' _ _ ?_; clear k' K')
        all_goals (refine D.g rfl trivial rfl rfl fun K' k' => ?_; simp only [zz, reduceIte, Nat.reduceEqDiff, Nat.reduceLT, Nat.reduceLeDiff, Nat.reduceAdd, reduceCtorEq, Nat.reduceMul, e0, e2, e4, hpb, hj1, hj2, hg1, hg2, encBd]; refine PCalls.eqto (less_spec x y) ?_ <;> (refine k' _ _ ?_; clear k' K'))
        all_goals iterate 2 (refine D.g rfl trivial rfl rfl fun K' k' => ?_; simp only [zz, reduceIte, Nat.reduceEqDiff, Nat.reduceAdd, e0, e2, e4, hpb, hj1, hj2, hg1, hg2, encBd]; refine k' _ _ ?_; clear k' K')
        all_goals refine D.nil ?_
        all_goals simp only [ze, reduceIte, Nat.reduceEqDiff, Nat.reduceLT, Nat.reduceLeDiff, Nat.reduceAdd, reduceCtorEq, Nat.reduceMul, e0, e2, e4, hpb, hj1, hj2, hg1, hg2, encBd]
        all_goals exact ⟨e10, e11, _, rfl⟩
      rintro s3 σ3 ⟨rfl, g0, g2, g4, g10, g11, g12, b2, g50⟩
      refine AW.cond (b := b2) g50 (fun hd => ?_) (fun hd => ?_)
      · skip
        all_goals refine AW.reg0 ?_
        all_goals iterate 3 (refine S.g rfl rfl fun K' k' => ?_; simp only [zz, reduceIte, Nat.reduceEqDiff, Nat.reduceAdd, g12, hw4]; refine k' _ _ ?_; clear k' K')
        all_goals refine S.nil ?_
        all_goals simp only [ze, reduceIte, Nat.reduceEqDiff, Nat.reduceLT, Nat.reduceLeDiff, Nat.reduceAdd, reduceCtorEq, Nat.reduceMul, g12, hw4]
        exact ⟨j - (h + 1), by omega, h + 1, j, rfl, by omega, by omega, hj, g0, g2, g4, rfl, g11⟩
      · skip
        all_goals refine AW.reg0 ?_
        all_goals iterate 2 (refine S.g rfl rfl fun K' k' => ?_; simp only [zz, reduceIte, Nat.reduceEqDiff, Nat.reduceAdd, g12]; refine k' _ _ ?_; clear k' K')
        all_goals refine S.nil ?_
        all_goals simp only [ze, reduceIte, Nat.reduceEqDiff, Nat.reduceLT, Nat.reduceLeDiff, Nat.reduceAdd, reduceCtorEq, Nat.reduceMul, g12]
        exact ⟨h - i, by omega, i, h, rfl, by omega, by omega, by omega, g0, g2, g4, g10, rfl⟩
    · refine AW.exit ?_
      all_goals simp only [zs, reduceIte, Nat.reduceEqDiff, Nat.reduceLT, Nat.reduceLeDiff, Nat.reduceAdd, reduceCtorEq, Nat.reduceMul]
      have hc := of_decide_eq_false hc
      exact ⟨i, l0, hi, by omega, e0, e2, e10, rfl, Sub.refl _⟩
  rintro s1 σ1 ⟨i, l1, hi, hib, f0, f2, f10, rfl, hs1⟩
  refine AW.seq_k fun K10 h10 => ?_
  refine AW.seq_k fun K11 h11 => ?_
  all_goals refine AW.reg0 ?_
  all_goals iterate 2 (refine S.g rfl rfl fun K' k' => ?_; simp only [zz, reduceIte, Nat.reduceEqDiff, Nat.reduceAdd, f2]; refine k' _ _ ?_; clear k' K')
  all_goals refine S.nil ?_
  all_goals simp only [ze, reduceIte, Nat.reduceEqDiff, Nat.reduceLT, Nat.reduceLeDiff, Nat.reduceAdd, reduceCtorEq, Nat.reduceMul, f2]
  all_goals first | refine h11 _ _ ?_ | refine h10 _ _ ?_ | refine h9 _ _ ?_ | refine h8 _ _ ?_ | refine h7 _ _ ?_ | refine h6 _ _ ?_ | refine h5 _ _ ?_ | refine h4 _ _ ?_ | refine h3 _ _ ?_ | refine h2 _ _ ?_ | refine h1 _ _ ?_
  refine AW.block ?_   -- 2
  refine AW.loop (fun m s σ => ∃ q l', m = q ∧ i ≤ q ∧ q ≤ m0 ∧ s.t 0 = .gl k ∧ s.t 14 = .c (.int .i64 (i : Nat)) ∧ s.t 17 = .c (.int .i64 (q : Nat)) ∧ σ = hpB k l' ∧ Sub l0 l') m0 ?_ ?_
  · refine ⟨m0, l1, rfl, by omega, by omega, ?_⟩
    all_goals simp only [zs, reduceIte, Nat.reduceEqDiff, Nat.reduceLT, Nat.reduceLeDiff, Nat.reduceAdd, reduceCtorEq, Nat.reduceMul]
    exact ⟨f0, f10, hs1⟩
  rintro m s σ ⟨q, l', rfl, hq1, hq2, e0, e10, e13, rfl, hs⟩
  refine AW.seq_k fun K12 h12 => ?_
  refine AW.seq_k fun K13 h13 => ?_
  all_goals refine AW.reg0 ?_
  all_goals iterate 3 (refine S.g rfl rfl fun K' k' => ?_; simp only [zz, reduceIte, Nat.reduceEqDiff, Nat.reduceAdd, e10, e13]; refine k' _ _ ?_; clear k' K')
  all_goals refine S.nil ?_
  all_goals simp only [ze, reduceIte, Nat.reduceEqDiff, Nat.reduceLT, Nat.reduceLeDiff, Nat.reduceAdd, reduceCtorEq, Nat.reduceMul, e10, e13]
  all_goals first | refine h13 _ _ ?_ | refine h12 _ _ ?_ | refine h11 _ _ ?_ | refine h10 _ _ ?_ | refine h9 _ _ ?_ | refine h8 _ _ ?_ | refine h7 _ _ ?_ | refine h6 _ _ ?_ | refine h5 _ _ ?_ | refine h4 _ _ ?_ | refine h3 _ _ ?_ | refine h2 _ _ ?_ | refine h1 _ _ ?_
  refine AW.cond (b := decide ((m : Int) > i)) (by simp [ev]) (fun hc => ?_) (fun hc => ?_)
  · refine AW.skip ?_
    all_goals simp only [zs, reduceIte, Nat.reduceEqDiff, Nat.reduceLT, Nat.reduceLeDiff, Nat.reduceAdd, reduceCtorEq, Nat.reduceMul]
    all_goals first | refine h13 _ _ ?_ | refine h12 _ _ ?_ | refine h11 _ _ ?_ | refine h10 _ _ ?_ | refine h9 _ _ ?_ | refine h8 _ _ ?_ | refine h7 _ _ ?_ | refine h6 _ _ ?_ | refine h5 _ _ ?_ | refine h4 _ _ ?_ | refine h3 _ _ ?_ | refine h2 _ _ ?_ | refine h1 _ _ ?_
    have hc := of_decide_eq_true hc
    have hw : IntKind.i64.wrap ((m : Int) - 1) = ((m - 1 : Nat) : Int) := by rw [wrap_small _ (by omega) (by omega)]; omega
    have hl1 := hs.1
    have hj1 : m < l'.length := by omega
    have hj2 : m - 1 < l'.length := by omega
    obtain ⟨x, hx, hg1⟩ := get_bd hj1
    obtain ⟨y, hy, hg2⟩ := get_bd hj2
    have hsub := hs.swap hx hy
    have hgs : ∀ v, ((l'.map encBd).set m v).getD (m - 1) [] = encBd y := fun v => by
      rw [← hg2]; simp [List.getD, List.getElem?_set, show m ≠ m - 1 by omega]
    have hpb : hpB k l' = Hp.empty.setGr k (some ((42, 6), l'.map encBd)) := rfl
    rw [hpb]
    refine AW.seq_k fun K14 h14 => ?_
    refine AW.block ?_   -- 3
    refine AW.mono (Q := thenS (fun s' σ' => σ' = hpB k ((l'.set m y).set (m - 1) x) ∧ s'.t 0 = .gl k ∧ s'.t 14 = .c (.int .i64 (i : Nat)) ∧ s'.t 17 = .c (.int .i64 (m : Nat))) (fun _ _ _ => False)) ?_ ?_
    · skip
      all_goals refine AW.draw2 (T := { sd := fun _ => false }) (fun _ _ h => by cases h) mixedO [(0, 0), (1, 0), (2, 0), (3, 0), (4, 0), (5, 0), (6, 0), (7, 0), (8, 0), (10, 0), (11, 0), (12, 0)] 9 13 [(14, 0), (15, 2), (16, 0), (17, 2)] #[true, true, true, true, true, true, true, true, true, false, true, true, true, false, false, false, false, false] rfl (by kernel_rfl) (by kernel_rfl) (by kernel_rfl) (by kernel_rfl) (by kernel_rfl) ?_
      all_goals iterate 12 (refine D.g rfl trivial rfl rfl fun K' k' => ?_; simp only [zz, reduceIte, Nat.reduceEqDiff, Nat.reduceLT, Nat.reduceLeDiff, Nat.reduceAdd, reduceCtorEq, Nat.reduceMul, sl22, el22, ok42, sz42, ag42, e0, e10, e13, hj1, hj2, hg1, hg2, hgs, hw, encBd, List.length_set]; refine k' _ _ ?_; clear k' K')
      all_goals refine D.nil ⟨?_, ?_⟩
      all_goals iterate 6 (refine D.g rfl trivial rfl rfl fun K' k' => ?_; simp only [zz, reduceIte, Nat.reduceEqDiff, Nat.reduceLT, Nat.reduceLeDiff, Nat.reduceAdd, reduceCtorEq, Nat.reduceMul, ok42, sz42, ag42, sl22, el22, e0, e10, e13, hj1, hj2, hg1, hg2, hgs, hw, encBd, List.length_set]; refine k' _ _ ?_; clear k' K')
      all_goals refine D.nil ?_
      all_goals simp only [ze, reduceIte, Nat.reduceEqDiff, Nat.reduceLT, Nat.reduceLeDiff, Nat.reduceAdd, reduceCtorEq, Nat.reduceMul, e0, e10, e13, hj1, hj2, hg1, hg2, hgs, hw, encBd, List.length_set]
      all_goals simp [hpB, encBd, List.map_set]
    rintro e s4 σ4 hq
    cases e with
    | normal =>
      obtain ⟨rfl, q0, q10, q13⟩ := hq
      all_goals simp only [zs, reduceIte, Nat.reduceEqDiff, Nat.reduceLT, Nat.reduceLeDiff, Nat.reduceAdd, reduceCtorEq, Nat.reduceMul]
      all_goals first | refine h14 _ _ ?_ | refine h13 _ _ ?_ | refine h12 _ _ ?_ | refine h11 _ _ ?_ | refine h10 _ _ ?_ | refine h9 _ _ ?_ | refine h8 _ _ ?_ | refine h7 _ _ ?_ | refine h6 _ _ ?_ | refine h5 _ _ ?_ | refine h4 _ _ ?_ | refine h3 _ _ ?_ | refine h2 _ _ ?_ | refine h1 _ _ ?_
      all_goals refine AW.reg0 ?_
      all_goals iterate 3 (refine S.g rfl rfl fun K' k' => ?_; simp only [zz, reduceIte, Nat.reduceEqDiff, Nat.reduceAdd, q13, hw]; refine k' _ _ ?_; clear k' K')
      all_goals refine S.nil ?_
      all_goals simp only [ze, reduceIte, Nat.reduceEqDiff, Nat.reduceLT, Nat.reduceLeDiff, Nat.reduceAdd, reduceCtorEq, Nat.reduceMul, q13, hw]
      exact ⟨m - 1, by omega, m - 1, _, rfl, by omega, by omega, q0, q10, rfl, rfl, hsub⟩
    | _ => exact hq.elim
  · refine AW.exit ?_
    all_goals simp only [zs, reduceIte, Nat.reduceEqDiff, Nat.reduceLT, Nat.reduceLeDiff, Nat.reduceAdd, reduceCtorEq, Nat.reduceMul]
    all_goals first | refine h14 _ _ ?_ | refine h13 _ _ ?_ | refine h12 _ _ ?_ | refine h11 _ _ ?_ | refine h10 _ _ ?_ | refine h9 _ _ ?_ | refine h8 _ _ ?_ | refine h7 _ _ ?_ | refine h6 _ _ ?_ | refine h5 _ _ ?_ | refine h4 _ _ ?_ | refine h3 _ _ ?_ | refine h2 _ _ ?_ | refine h1 _ _ ?_
    refine AW.ret ?_
    all_goals simp only [zs, reduceIte, Nat.reduceEqDiff, Nat.reduceLT, Nat.reduceLeDiff, Nat.reduceAdd, reduceCtorEq, Nat.reduceMul]
    exact ⟨rfl, l', hs, rfl⟩

theorem sym_weak (k : Nat) : ∀ (d : Nat) (l0 : List Bd) (a m0 b : Nat), b - a ≤ d → a < m0 → m0 < b → b ≤ l0.length → l0.length < 2147483648 →
    ACalls Try.prog 129 [.gl k, .c (.int .i64 a), .c (.int .i64 m0), .c (.int .i64 b), .fn (.func 64) [] []] (hpB k l0) (hpS k l0) := by
  intro d
  induction d with
  | zero => intro l0 a m0 b hd h1 h2; omega
  | succ d ih =>
  intro l0 a m0 b hd ham hmb hb hn
  by_cases hA : a + 1 = m0
  · exact sym_one l0 k a m0 b hA hmb hb hn
  by_cases hB : m0 + 1 = b
  · exact sym_two l0 k a m0 b (by omega) hB hb hn
  refine ACalls.intro Try.call129 Try.func129 rfl Try.ntmps129 Try.results129 (by simp) ?_
  have hw1 : IntKind.i64.wrap ((m0 : Int) - a) = ((m0 - a : Nat) : Int) := by rw [wrap_small _ (by omega) (by omega)]; omega
  have hw2 : IntKind.i64.wrap ((b : Int) - m0) = ((b - m0 : Nat) : Int) := by rw [wrap_small _ (by omega) (by omega)]; omega
  have h1 : (((m0 - a : Nat) : Int) == 1) = false := by simp; omega
  have h2 : (((b - m0 : Nat) : Int) == 1) = false := by simp; omega
  have hw4 : IntKind.i64.wrap ((a : Int) + b) = ((a + b : Nat) : Int) := by rw [wrap_small _ (by omega) (by omega)]; rfl
  have hu := half_u (a + b) (by omega)
  have hs := half_s (a + b)
  have hw5 : IntKind.i64.wrap (((a + b) / 2 : Nat) : Int) = (((a + b) / 2 : Nat) : Int) := wrap_small _ (by omega) (by omega)
  have hm1 : a + b ≤ 2 * ((a + b) / 2) + 1 := by omega
  have hm2 : 2 * ((a + b) / 2) ≤ a + b := by omega
  generalize (a + b) / 2 = mid at *
  have hw6 : IntKind.i64.wrap ((mid : Int) + m0) = ((mid + m0 : Nat) : Int) := by rw [wrap_small _ (by omega) (by omega)]; rfl
  obtain ⟨n, hnn⟩ : ∃ n, n = mid + m0 := ⟨_, rfl⟩
  rw [← hnn] at hw6
  have hw7 : IntKind.i64.wrap ((n : Int) - 1) = ((n - 1 : Nat) : Int) := by rw [wrap_small _ (by omega) (by omega)]; omega
  refine AW.seq_k fun K1 h1 => ?_
  refine AW.seq_k fun K2 h2 => ?_
  all_goals refine AW.reg0 ?_
  all_goals iterate 4 (refine S.g rfl rfl fun K' k' => ?_; simp only [zz, reduceIte, Nat.reduceEqDiff, Nat.reduceAdd, hw1, h1]; refine k' _ _ ?_; clear k' K')
  all_goals refine S.nil ?_
  all_goals simp only [ze, reduceIte, Nat.reduceEqDiff, Nat.reduceLT, Nat.reduceLeDiff, Nat.reduceAdd, reduceCtorEq, Nat.reduceMul, hw1, h1]
  all_goals first | refine h2 _ _ ?_ | refine h1 _ _ ?_
  refine AW.cond (b := false) (by simp [ev]; try omega) (fun hc => by cases hc) (fun hc => AW.skip ?_)
  all_goals simp only [zs, reduceIte, Nat.reduceEqDiff, Nat.reduceLT, Nat.reduceLeDiff, Nat.reduceAdd, reduceCtorEq, Nat.reduceMul]
  all_goals first | refine h2 _ _ ?_ | refine h1 _ _ ?_
  refine AW.seq_k fun K3 h3 => ?_
  refine AW.seq_k fun K4 h4 => ?_
  all_goals refine AW.reg0 ?_
  all_goals iterate 4 (refine S.g rfl rfl fun K' k' => ?_; simp only [zz, reduceIte, Nat.reduceEqDiff, Nat.reduceAdd, hw2, h2]; refine k' _ _ ?_; clear k' K')
  all_goals refine S.nil ?_
  all_goals simp only [ze, reduceIte, Nat.reduceEqDiff, Nat.reduceLT, Nat.reduceLeDiff, Nat.reduceAdd, reduceCtorEq, Nat.reduceMul, hw2, h2]
  all_goals first | refine h4 _ _ ?_ | refine h3 _ _ ?_ | refine h2 _ _ ?_ | refine h1 _ _ ?_
  refine AW.cond (b := false) (by simp [ev]; try omega) (fun hc => by cases hc) (fun hc => AW.skip ?_)
  all_goals simp only [zs, reduceIte, Nat.reduceEqDiff, Nat.reduceLT, Nat.reduceLeDiff, Nat.reduceAdd, reduceCtorEq, Nat.reduceMul]
  all_goals first | refine h4 _ _ ?_ | refine h3 _ _ ?_ | refine h2 _ _ ?_ | refine h1 _ _ ?_
  refine AW.seq_k fun K5 h5 => ?_
  all_goals refine AW.reg0 ?_
  all_goals iterate 7 (refine S.g rfl rfl fun K' k' => ?_; simp only [zz, reduceIte, Nat.reduceEqDiff, Nat.reduceAdd, cv3_130, cv130_3, hw4, hu, hs, hw5, Int.reduceLE]; refine k' _ _ ?_; clear k' K')
  all_goals refine S.nil ?_
  all_goals simp only [ze, reduceIte, Nat.reduceEqDiff, Nat.reduceLT, Nat.reduceLeDiff, Nat.reduceAdd, reduceCtorEq, Nat.reduceMul, hw4, hu, hs, hw5, Int.reduceLE]
  all_goals first | refine h5 _ _ ?_ | refine h4 _ _ ?_ | refine h3 _ _ ?_ | refine h2 _ _ ?_ | refine h1 _ _ ?_
  refine AW.seq_k fun K6 h6 => ?_
  all_goals refine AW.reg0 ?_
  all_goals iterate 4 (refine S.g rfl rfl fun K' k' => ?_; simp only [zz, reduceIte, Nat.reduceEqDiff, Nat.reduceAdd, hw6]; refine k' _ _ ?_; clear k' K')
  all_goals refine S.nil ?_
  all_goals simp only [ze, reduceIte, Nat.reduceEqDiff, Nat.reduceLT, Nat.reduceLeDiff, Nat.reduceAdd, reduceCtorEq, Nat.reduceMul, hw6]
  all_goals first | refine h6 _ _ ?_ | refine h5 _ _ ?_ | refine h4 _ _ ?_ | refine h3 _ _ ?_ | refine h2 _ _ ?_ | refine h1 _ _ ?_
  refine AW.seq_k fun K7 h7 => ?_
  all_goals refine AW.reg0 ?_
  all_goals iterate 2 (refine S.g rfl rfl fun K' k' => ?_; simp only [zz, reduceIte, Nat.reduceEqDiff, Nat.reduceAdd]; refine k' _ _ ?_; clear k' K')
  all_goals refine S.nil ?_
  all_goals simp only [ze, reduceIte, Nat.reduceEqDiff, Nat.reduceLT, Nat.reduceLeDiff, Nat.reduceAdd, reduceCtorEq, Nat.reduceMul]
  all_goals first | refine h7 _ _ ?_ | refine h6 _ _ ?_ | refine h5 _ _ ?_ | refine h4 _ _ ?_ | refine h3 _ _ ?_ | refine h2 _ _ ?_ | refine h1 _ _ ?_
  refine AW.seq_j (fun s σ => ∃ st r, a ≤ st ∧ st ≤ r ∧ r ≤ mid ∧ r ≤ m0 ∧ n ≤ b + st ∧ s.t 0 = .gl k ∧ s.t 1 = .c (.int .i64 a) ∧ s.t 2 = .c (.int .i64 m0) ∧ s.t 3 = .c (.int .i64 b) ∧ s.t 4 = .fn (.func 64) [] [] ∧ s.t 18 = .c (.int .i64 mid) ∧ s.t 19 = .c (.int .i64 n) ∧
    s.t 20 = .c (.int .i64 (st : Nat)) ∧ s.t 21 = .c (.int .i64 (r : Nat)) ∧ σ = hpB k l0) ?_ ?_
  · refine AW.seq_k fun K8 h8 => ?_
    all_goals refine AW.reg0 ?_
    all_goals iterate 3 (refine S.g rfl rfl fun K' k' => ?_; simp only [zz, reduceIte, Nat.reduceEqDiff, Nat.reduceAdd]; refine k' _ _ ?_; clear k' K')
    all_goals refine S.nil ?_
    all_goals simp only [ze, reduceIte, Nat.reduceEqDiff, Nat.reduceLT, Nat.reduceLeDiff, Nat.reduceAdd, reduceCtorEq, Nat.reduceMul]
    all_goals first | refine h8 _ _ ?_ | refine h7 _ _ ?_ | refine h6 _ _ ?_ | refine h5 _ _ ?_ | refine h4 _ _ ?_ | refine h3 _ _ ?_ | refine h2 _ _ ?_ | refine h1 _ _ ?_
    refine AW.cond (b := decide ((m0 : Int) > mid)) (by simp [ev]) (fun hc => ?_) (fun hc => ?_)
    · have hc := of_decide_eq_true hc
      have hw8 : IntKind.i64.wrap ((n : Int) - b) = ((n - b : Nat) : Int) := by rw [wrap_small _ (by omega) (by omega)]; omega
      refine AW.seq_k fun K9 h9 => ?_
      all_goals refine AW.reg0 ?_
      all_goals iterate 4 (refine S.g rfl rfl fun K' k' => ?_; simp only [zz, reduceIte, Nat.reduceEqDiff, Nat.reduceAdd, hw8]; refine k' _ _ ?_; clear k' K')
      all_goals refine S.nil ?_
      all_goals simp only [ze, reduceIte, Nat.reduceEqDiff, Nat.reduceLT, Nat.reduceLeDiff, Nat.reduceAdd, reduceCtorEq, Nat.reduceMul, hw8]
      all_goals first | refine h9 _ _ ?_ | refine h8 _ _ ?_ | refine h7 _ _ ?_ | refine h6 _ _ ?_ | refine h5 _ _ ?_ | refine h4 _ _ ?_ | refine h3 _ _ ?_ | refine h2 _ _ ?_ | refine h1 _ _ ?_
      all_goals refine AW.reg0 ?_
      all_goals iterate 2 (refine S.g rfl rfl fun K' k' => ?_; simp only [zz, reduceIte, Nat.reduceEqDiff, Nat.reduceAdd]; refine k' _ _ ?_; clear k' K')
      all_goals refine S.nil ?_
      all_goals simp only [ze, reduceIte, Nat.reduceEqDiff, Nat.reduceLT, Nat.reduceLeDiff, Nat.reduceAdd, reduceCtorEq, Nat.reduceMul]
      exact ⟨n - b, mid, by omega, by omega, by omega, by omega, by omega, rfl, rfl⟩
    · have hc := of_decide_eq_false hc
      refine AW.seq_k fun K10 h10 => ?_
      all_goals refine AW.reg0 ?_
      all_goals iterate 2 (refine S.g rfl rfl fun K' k' => ?_; simp only [zz, reduceIte, Nat.reduceEqDiff, Nat.reduceAdd]; refine k' _ _ ?_; clear k' K')
      all_goals refine S.nil ?_
      all_goals simp only [ze, reduceIte, Nat.reduceEqDiff, Nat.reduceLT, Nat.reduceLeDiff, Nat.reduceAdd, reduceCtorEq, Nat.reduceMul]
      all_goals first | refine h10 _ _ ?_ | refine h9 _ _ ?_ | refine h8 _ _ ?_ | refine h7 _ _ ?_ | refine h6 _ _ ?_ | refine h5 _ _ ?_ | refine h4 _ _ ?_ | refine h3 _ _ ?_ | refine h2 _ _ ?_ | refine h1 _ _ ?_
      all_goals refine AW.reg0 ?_
      all_goals iterate 2 (refine S.g rfl rfl fun K' k' => ?_; simp only [zz, reduceIte, Nat.reduceEqDiff, Nat.reduceAdd]; refine k' _ _ ?_; clear k' K')
      all_goals refine S.nil ?_
      all_goals simp only [ze, reduceIte, Nat.reduceEqDiff, Nat.reduceLT, Nat.reduceLeDiff, Nat.reduceAdd, reduceCtorEq, Nat.reduceMul]
      exact ⟨a, m0, by omega, by omega, by omega, by omega, by omega, rfl, rfl⟩
  rintro s0 σ0 ⟨st0, r0, hg1, hg2, hg3, hg4, hg5, g0, g1, g2, g3, g4, g18, g19, g20, g21, rfl⟩
  refine AW.seq_k fun K11 h11 => ?_
  all_goals refine AW.reg0 ?_
  all_goals iterate 3 (refine S.g rfl rfl fun K' k' => ?_; simp only [zz, reduceIte, Nat.reduceEqDiff, Nat.reduceAdd, g19, hw7]; refine k' _ _ ?_; clear k' K')
  all_goals refine S.nil ?_
  all_goals simp only [ze, reduceIte, Nat.reduceEqDiff, Nat.reduceLT, Nat.reduceLeDiff, Nat.reduceAdd, reduceCtorEq, Nat.reduceMul, g19, hw7]
  all_goals first | refine h11 _ _ ?_ | refine h10 _ _ ?_ | refine h9 _ _ ?_ | refine h8 _ _ ?_ | refine h7 _ _ ?_ | refine h6 _ _ ?_ | refine h5 _ _ ?_ | refine h4 _ _ ?_ | refine h3 _ _ ?_ | refine h2 _ _ ?_ | refine h1 _ _ ?_
  refine AW.seq_j (fun s σ => ∃ st l', a ≤ st ∧ st ≤ mid ∧ st ≤ m0 ∧ n ≤ b + st ∧ s.t 0 = .gl k ∧ s.t 1 = .c (.int .i64 a) ∧ s.t 2 = .c (.int .i64 m0) ∧ s.t 3 = .c (.int .i64 b) ∧ s.t 4 = .fn (.func 64) [] [] ∧ s.t 18 = .c (.int .i64 mid) ∧ s.t 19 = .c (.int .i64 n) ∧
    s.t 20 = .c (.int .i64 (st : Nat)) ∧ σ = hpB k l' ∧ Sub l0 l') ?_ ?_
  · refine AW.block ?_   -- 8
    refine AW.loop (fun m s σ => ∃ st r, m = r - st ∧ a ≤ st ∧ st ≤ r ∧ r ≤ mid ∧ r ≤ m0 ∧ n ≤ b + st ∧ s.t 0 = .gl k ∧ s.t 1 = .c (.int .i64 a) ∧ s.t 2 = .c (.int .i64 m0) ∧ s.t 3 = .c (.int .i64 b) ∧ s.t 4 = .fn (.func 64) [] [] ∧ s.t 18 = .c (.int .i64 mid) ∧ s.t 19 = .c (.int .i64 n) ∧
      s.t 20 = .c (.int .i64 (st : Nat)) ∧ s.t 21 = .c (.int .i64 (r : Nat)) ∧ s.t 22 = .c (.int .i64 ((n - 1 : Nat) : Int)) ∧ σ = hpB k l0) (r0 - st0) ?_ ?_
    · refine ⟨st0, r0, rfl, hg1, hg2, hg3, hg4, hg5, ?_⟩
      all_goals simp only [zs, reduceIte, Nat.reduceEqDiff, Nat.reduceLT, Nat.reduceLeDiff, Nat.reduceAdd, reduceCtorEq, Nat.reduceMul]
      exact ⟨g0, g1, g2, g3, g4, g18, g19, g20, g21⟩
    rintro m s σ ⟨i, j, hm, hi, hij, hj, hj', hnb, e0, e1, e2, e3, e4, e18, e19, e10, e11, e22, rfl⟩
    refine AW.seq_k fun K12 h12 => ?_
    refine AW.seq_k fun K13 h13 => ?_
    all_goals refine AW.reg0 ?_
    all_goals iterate 3 (refine S.g rfl rfl fun K' k' => ?_; simp only [zz, reduceIte, Nat.reduceEqDiff, Nat.reduceAdd, e10, e11]; refine k' _ _ ?_; clear k' K')
    all_goals refine S.nil ?_
    all_goals simp only [ze, reduceIte, Nat.reduceEqDiff, Nat.reduceLT, Nat.reduceLeDiff, Nat.reduceAdd, reduceCtorEq, Nat.reduceMul, e10, e11]
    all_goals first | refine h13 _ _ ?_ | refine h12 _ _ ?_ | refine h11 _ _ ?_ | refine h10 _ _ ?_ | refine h9 _ _ ?_ | refine h8 _ _ ?_ | refine h7 _ _ ?_ | refine h6 _ _ ?_ | refine h5 _ _ ?_ | refine h4 _ _ ?_ | refine h3 _ _ ?_ | refine h2 _ _ ?_ | refine h1 _ _ ?_
    refine AW.cond (b := decide (i < j)) (by simp [ev]) (fun hc => ?_) (fun hc => ?_)
    · refine AW.skip ?_
      all_goals simp only [zs, reduceIte, Nat.reduceEqDiff, Nat.reduceLT, Nat.reduceLeDiff, Nat.reduceAdd, reduceCtorEq, Nat.reduceMul]
      all_goals first | refine h13 _ _ ?_ | refine h12 _ _ ?_ | refine h11 _ _ ?_ | refine h10 _ _ ?_ | refine h9 _ _ ?_ | refine h8 _ _ ?_ | refine h7 _ _ ?_ | refine h6 _ _ ?_ | refine h5 _ _ ?_ | refine h4 _ _ ?_ | refine h3 _ _ ?_ | refine h2 _ _ ?_ | refine h1 _ _ ?_
      have hc := of_decide_eq_true hc
      have hw2 : IntKind.i64.wrap ((i : Int) + j) = ((i + j : Nat) : Int) := by rw [wrap_small _ (by omega) (by omega)]; rfl
      have hu := half_u (i + j) (by omega)
      have hs := half_s (i + j)
      have hw3 : IntKind.i64.wrap (((i + j) / 2 : Nat) : Int) = (((i + j) / 2 : Nat) : Int) := wrap_small _ (by omega) (by omega)
      have hh1 : i ≤ (i + j) / 2 := by omega
      have hh2 : (i + j) / 2 < j := by omega
      generalize (i + j) / 2 = h at *
      refine AW.block ?_   -- 1
      refine AW.seq_k fun K14 h14 => ?_
      all_goals refine AW.reg0 ?_
      all_goals iterate 7 (refine S.g rfl rfl fun K' k' => ?_; simp only [zz, reduceIte, Nat.reduceEqDiff, Nat.reduceAdd, cv3_130, cv130_3, e10, e11, hw2, hu, hs, hw3, Int.reduceLE]; refine k' _ _ ?_; clear k' K')
      all_goals refine S.nil ?_
      all_goals simp only [ze, reduceIte, Nat.reduceEqDiff, Nat.reduceLT, Nat.reduceLeDiff, Nat.reduceAdd, reduceCtorEq, Nat.reduceMul, e10, e11, hw2, hu, hs, hw3, Int.reduceLE]
      all_goals first | refine h14 _ _ ?_ | refine h13 _ _ ?_ | refine h12 _ _ ?_ | refine h11 _ _ ?_ | refine h10 _ _ ?_ | refine h9 _ _ ?_ | refine h8 _ _ ?_ | refine h7 _ _ ?_ | refine h6 _ _ ?_ | refine h5 _ _ ?_ | refine h4 _ _ ?_ | refine h3 _ _ ?_ | refine h2 _ _ ?_ | refine h1 _ _ ?_
      have hpb : (hpB k l0).gr k = some ((42, 6), l0.map encBd) := by simp [hpB]
      have hw8 : IntKind.i64.wrap (((n - 1 : Nat) : Int) - h) = ((n - 1 - h : Nat) : Int) := by rw [wrap_small _ (by omega) (by omega)]; omega
      have hj1 : n - 1 - h < l0.length := by omega
      have hj2 : h < l0.length := by omega
      obtain ⟨x, hx, hg1⟩ := get_bd hj1
      obtain ⟨y, hy, hg2⟩ := get_bd hj2
      have hw4 : IntKind.i64.wrap ((h : Int) + 1) = ((h + 1 : Nat) : Int) := by rw [wrap_small _ (by omega) (by omega)]; rfl
      generalize hsg : hpB k l0 = σ0 at hpb ⊢
      refine AW.seq_j (fun s' σ' => σ' = σ0 ∧ s'.t 0 = .gl k ∧ s'.t 1 = .c (.int .i64 a) ∧ s'.t 2 = .c (.int .i64 m0) ∧ s'.t 3 = .c (.int .i64 b) ∧ s'.t 4 = .fn (.func 64) [] [] ∧ s'.t 18 = .c (.int .i64 mid) ∧ s'.t 19 = .c (.int .i64 n) ∧ s'.t 20 = .c (.int .i64 (i : Nat)) ∧ s'.t 21 = .c (.int .i64 (j : Nat)) ∧ s'.t 22 = .c (.int .i64 ((n - 1 : Nat) : Int)) ∧ s'.t 23 = .c (.int .i64 (h : Nat)) ∧ ∃ b, s'.t 171 = .c (.bool b)) ?_ ?_
      · skip
        all_goals refine AW.draw2 (T := { sd := fun _ => false }) (fun _ _ h => by cases h) mixedO [(0, 0), (1, 0), (2, 0), (3, 0), (4, 0), (5, 0), (7, 0), (8, 0), (9, 0)] 6 10 [(11, 2), (12, 0), (13, 0)] #[true, true, true, true, true, true, false, true, true, true, false, false, false, false] rfl (by kernel_rfl) (by kernel_rfl) (by kernel_rfl) (by kernel_rfl) (by kernel_rfl) ?_
        all_goals iterate 9 (refine D.g rfl trivial rfl rfl fun K' k' => ?_; simp only [zz, reduceIte, Nat.reduceEqDiff, Nat.reduceLT, Nat.reduceLeDiff, Nat.reduceAdd, reduceCtorEq, Nat.reduceMul, sl22, el22, ok42, sz42, ag42, e0, e22, e4, hpb, hj1, hj2, hg1, hg2, hw8, encBd]; refine k' _ _ ?_; clear k' K')
        all_goals refine D.nil ⟨?_, ?_⟩
        all_goals iterate 2 (refine D.g rfl trivial rfl rfl fun K' k' => ?_; simp only [zz, reduceIte, Nat.reduceEqDiff, Nat.reduceLT, Nat.reduceLeDiff, Nat.reduceAdd, reduceCtorEq, Nat.reduceMul, ok42, sz42, ag42, e0, e22, e4, hpb, hj1, hj2, hg1, hg2, hw8, encBd]; refine k' _ _ ?_; clear k' K')
        all_goals (refine D.g rfl trivial rfl rfl fun K' k' => ?_; simp only [zz, reduceIte, Nat.reduceEqDiff, Nat.reduceLT, Nat.reduceLeDiff, Nat.reduceAdd, reduceCtorEq, Nat.reduceMul, e0, e22, e4, hpb, hj1, hj2, hg1, hg2, hw8, encBd]; refine PCalls.eqto (less_spec x y) ?_ <;> (refine k' _ _ ?_; clear k' K'))
        all_goals iterate 2 (refine D.g rfl trivial rfl rfl fun K' k' => ?_; simp only [zz, reduceIte, Nat.reduceEqDiff, Nat.reduceAdd, e0, e22, e4, hpb, hj1, hj2, hg1, hg2, hw8, encBd]; refine k' _ _ ?_; clear k' K')
        all_goals refine D.nil ?_
        all_goals simp only [ze, reduceIte, Nat.reduceEqDiff, Nat.reduceLT, Nat.reduceLeDiff, Nat.reduceAdd, reduceCtorEq, Nat.reduceMul, e0, e22, e4, hpb, hj1, hj2, hg1, hg2, hw8, encBd]
        all_goals exact ⟨e1, e2, e3, e18, e19, e10, e11, _, rfl⟩
      rintro s3 σ3 ⟨rfl, g0, g1, g2, g3, g4, g18, g19, g10, g11, g22, g12, b2, g50⟩
      refine AW.cond (b := b2) g50 (fun hd => ?_) (fun hd => ?_)
      · skip
        all_goals refine AW.reg0 ?_
        all_goals iterate 3 (refine S.g rfl rfl fun K' k' => ?_; simp only [zz, reduceIte, Nat.reduceEqDiff, Nat.reduceAdd, g12, hw4]; refine k' _ _ ?_; clear k' K')
        all_goals refine S.nil ?_
        all_goals simp only [ze, reduceIte, Nat.reduceEqDiff, Nat.reduceLT, Nat.reduceLeDiff, Nat.reduceAdd, reduceCtorEq, Nat.reduceMul, g12, hw4]
        exact ⟨j - (h + 1), by omega, h + 1, j, rfl, by omega, by omega, hj, hj', by omega, g0, g1, g2, g3, g4, g18, g19, rfl, g11, g22⟩
      · skip
        all_goals refine AW.reg0 ?_
        all_goals iterate 2 (refine S.g rfl rfl fun K' k' => ?_; simp only [zz, reduceIte, Nat.reduceEqDiff, Nat.reduceAdd, g12]; refine k' _ _ ?_; clear k' K')
        all_goals refine S.nil ?_
        all_goals simp only [ze, reduceIte, Nat.reduceEqDiff, Nat.reduceLT, Nat.reduceLeDiff, Nat.reduceAdd, reduceCtorEq, Nat.reduceMul, g12]
        exact ⟨h - i, by omega, i, h, rfl, by omega, by omega, by omega, by omega, by omega, g0, g1, g2, g3, g4, g18, g19, g10, rfl, g22⟩
    · refine AW.exit ?_
      all_goals simp only [zs, reduceIte, Nat.reduceEqDiff, Nat.reduceLT, Nat.reduceLeDiff, Nat.reduceAdd, reduceCtorEq, Nat.reduceMul]
      have hc := of_decide_eq_false hc
      exact ⟨i, l0, hi, by omega, by omega, hnb, e0, e1, e2, e3, e4, e18, e19, e10, rfl, Sub.refl _⟩
  rintro s1 σ1 ⟨st, l1, hi1, hi2, hi3, hi4, f0, f1, f2, f3, f4, f18, f19, f20, rfl, hs1⟩
  have hw8 : IntKind.i64.wrap ((n : Int) - st) = ((n - st : Nat) : Int) := by rw [wrap_small _ (by omega) (by omega)]; omega
  refine AW.seq_k fun K15 h15 => ?_
  all_goals refine AW.reg0 ?_
  all_goals iterate 4 (refine S.g rfl rfl fun K' k' => ?_; simp only [zz, reduceIte, Nat.reduceEqDiff, Nat.reduceAdd, f19, f20, hw8]; refine k' _ _ ?_; clear k' K')
  all_goals refine S.nil ?_
  all_goals simp only [ze, reduceIte, Nat.reduceEqDiff, Nat.reduceLT, Nat.reduceLeDiff, Nat.reduceAdd, reduceCtorEq, Nat.reduceMul, f19, f20, hw8]
  all_goals first | refine h15 _ _ ?_ | refine h14 _ _ ?_ | refine h13 _ _ ?_ | refine h12 _ _ ?_ | refine h11 _ _ ?_ | refine h10 _ _ ?_ | refine h9 _ _ ?_ | refine h8 _ _ ?_ | refine h7 _ _ ?_ | refine h6 _ _ ?_ | refine h5 _ _ ?_ | refine h4 _ _ ?_ | refine h3 _ _ ?_ | refine h2 _ _ ?_ | refine h1 _ _ ?_
  refine AW.seq_j (fun s σ => ∃ l', s.t 0 = .gl k ∧ s.t 1 = .c (.int .i64 a) ∧ s.t 3 = .c (.int .i64 b) ∧ s.t 4 = .fn (.func 64) [] [] ∧ s.t 18 = .c (.int .i64 mid) ∧ s.t 20 = .c (.int .i64 (st : Nat)) ∧ s.t 24 = .c (.int .i64 ((n - st : Nat) : Int)) ∧ σ = hpB k l' ∧ Sub l0 l') ?_ ?_
  · by_cases hc1 : st < m0
    · by_cases hc2 : m0 < n - st
      · refine AW.seq_k fun K16 h16 => ?_
        all_goals refine AW.reg0 ?_
        all_goals iterate 2 (refine S.g rfl rfl fun K' k' => ?_; simp only [zz, reduceIte, Nat.reduceEqDiff, Nat.reduceAdd, f0, f1, f2, f3, f4, f18, f20]; refine k' _ _ ?_; clear k' K')
        all_goals (refine S.g rfl rfl fun K' k' => ?_; simp only [zz, reduceIte, Nat.reduceEqDiff, Nat.reduceLT, Nat.reduceLeDiff, Nat.reduceAdd, reduceCtorEq, Nat.reduceMul, f0, f1, f2, f3, f4, f18, f20]; refine S.bool fun b a180 => ?_; cases b <;> (try (exfalso; first | exact Bool.noConfusion a180 | (have h := of_decide_eq_true a180; omega) | (have h := of_decide_eq_false a180; omega))) <;> (refine k' _ _ ?_; clear k' K'))
        all_goals (refine S.g rfl rfl fun K' k' => ?_; simp only [zz, reduceIte, Nat.reduceEqDiff, Nat.reduceAdd, f0, f1, f2, f3, f4, f18, f20]; refine k' _ _ ?_; clear k' K')
        all_goals iterate 3 (first | (refine S.y rfl rfl rfl rfl fun K' k' => ?_; simp only [zz, reduceIte, Nat.reduceEqDiff, Nat.reduceAdd, f0, f1, f2, f3, f4, f18, f20]; refine k' _ _ ?_; clear k' K') | ((first | refine S.x rfl rfl rfl rfl fun K' k' => ?_ | refine S.u rfl rfl rfl rfl fun K' k' => ?_); simp only [ze, reduceIte, Nat.reduceEqDiff]; refine k' _ _ ?_; clear k' K'))
        all_goals (refine S.g rfl rfl fun K' k' => ?_; simp only [zz, reduceIte, Nat.reduceEqDiff, Nat.reduceAdd, f0, f1, f2, f3, f4, f18, f20]; refine k' _ _ ?_; clear k' K')
        all_goals refine S.nil ?_
        all_goals simp only [ze, reduceIte, Nat.reduceEqDiff, Nat.reduceLT, Nat.reduceLeDiff, Nat.reduceAdd, reduceCtorEq, Nat.reduceMul, f0, f1, f2, f3, f4, f18, f20]
        all_goals first | refine h16 _ _ ?_ | refine h15 _ _ ?_ | refine h14 _ _ ?_ | refine h13 _ _ ?_ | refine h12 _ _ ?_ | refine h11 _ _ ?_ | refine h10 _ _ ?_ | refine h9 _ _ ?_ | refine h8 _ _ ?_ | refine h7 _ _ ?_ | refine h6 _ _ ?_ | refine h5 _ _ ?_ | refine h4 _ _ ?_ | refine h3 _ _ ?_ | refine h2 _ _ ?_ | refine h1 _ _ ?_
        refine AW.cond (b := true) (by simp [ev]; try omega) (fun hc => ?_) (fun hc => by cases hc)
        all_goals refine AW.reg0 ?_
        all_goals iterate 5 (refine S.g rfl rfl fun K' k' => ?_; simp only [zz, reduceIte, Nat.reduceEqDiff, Nat.reduceAdd, f0, f1, f2, f3, f4, f18, f20]; refine k' _ _ ?_; clear k' K')
        all_goals (refine S.g rfl rfl fun K' k' => ?_; simp only [zz, reduceIte, Nat.reduceEqDiff, Nat.reduceLT, Nat.reduceLeDiff, Nat.reduceAdd, reduceCtorEq, Nat.reduceMul, f0, f1, f2, f3, f4, f18, f20]; refine (rotate_weak l1 k st m0 (n - st) (by omega) (by omega) (by rw [hs1.1]; omega) (by rw [hs1.1]; omega)).to fun v σ1 hv => ?_; obtain ⟨rfl, l2, hl2, rfl⟩ := hv <;> (refine k' _ _ ?_; clear k' K'))
        all_goals refine S.nil ?_
        all_goals simp only [ze, reduceIte, Nat.reduceEqDiff, Nat.reduceLT, Nat.reduceLeDiff, Nat.reduceAdd, reduceCtorEq, Nat.reduceMul, f0, f1, f2, f3, f4, f18, f20]
        refine ⟨l2, ?_⟩; have hfin := hs1.trans hl2; (repeat' apply And.intro) <;> first | rfl | assumption | exact hfin.1 | exact hfin.2
      · refine AW.seq_k fun K17 h17 => ?_
        all_goals refine AW.reg0 ?_
        all_goals iterate 2 (refine S.g rfl rfl fun K' k' => ?_; simp only [zz, reduceIte, Nat.reduceEqDiff, Nat.reduceAdd, f0, f1, f2, f3, f4, f18, f20]; refine k' _ _ ?_; clear k' K')
        all_goals (refine S.g rfl rfl fun K' k' => ?_; simp only [zz, reduceIte, Nat.reduceEqDiff, Nat.reduceLT, Nat.reduceLeDiff, Nat.reduceAdd, reduceCtorEq, Nat.reduceMul, f0, f1, f2, f3, f4, f18, f20]; refine S.bool fun b a180 => ?_; cases b <;> (try (exfalso; first | exact Bool.noConfusion a180 | (have h := of_decide_eq_true a180; omega) | (have h := of_decide_eq_false a180; omega))) <;> (refine k' _ _ ?_; clear k' K'))
        all_goals (refine S.g rfl rfl fun K' k' => ?_; simp only [zz, reduceIte, Nat.reduceEqDiff, Nat.reduceAdd, f0, f1, f2, f3, f4, f18, f20]; refine k' _ _ ?_; clear k' K')
        all_goals iterate 3 (first | (refine S.y rfl rfl rfl rfl fun K' k' => ?_; simp only [zz, reduceIte, Nat.reduceEqDiff, Nat.reduceAdd, f0, f1, f2, f3, f4, f18, f20]; refine k' _ _ ?_; clear k' K') | ((first | refine S.x rfl rfl rfl rfl fun K' k' => ?_ | refine S.u rfl rfl rfl rfl fun K' k' => ?_); simp only [ze, reduceIte, Nat.reduceEqDiff]; refine k' _ _ ?_; clear k' K'))
        all_goals (refine S.g rfl rfl fun K' k' => ?_; simp only [zz, reduceIte, Nat.reduceEqDiff, Nat.reduceAdd, f0, f1, f2, f3, f4, f18, f20]; refine k' _ _ ?_; clear k' K')
        all_goals refine S.nil ?_
        all_goals simp only [ze, reduceIte, Nat.reduceEqDiff, Nat.reduceLT, Nat.reduceLeDiff, Nat.reduceAdd, reduceCtorEq, Nat.reduceMul, f0, f1, f2, f3, f4, f18, f20]
        all_goals first | refine h17 _ _ ?_ | refine h16 _ _ ?_ | refine h15 _ _ ?_ | refine h14 _ _ ?_ | refine h13 _ _ ?_ | refine h12 _ _ ?_ | refine h11 _ _ ?_ | refine h10 _ _ ?_ | refine h9 _ _ ?_ | refine h8 _ _ ?_ | refine h7 _ _ ?_ | refine h6 _ _ ?_ | refine h5 _ _ ?_ | refine h4 _ _ ?_ | refine h3 _ _ ?_ | refine h2 _ _ ?_ | refine h1 _ _ ?_
        refine AW.cond (b := false) (by simp [ev]; try omega) (fun hc => by cases hc) (fun hc => AW.skip ?_)
        all_goals simp only [zs, reduceIte, Nat.reduceEqDiff, Nat.reduceLT, Nat.reduceLeDiff, Nat.reduceAdd, reduceCtorEq, Nat.reduceMul]
        refine ⟨l1, ?_⟩; have hfin := hs1; (repeat' apply And.intro) <;> first | rfl | assumption | exact hfin.1 | exact hfin.2
    · refine AW.seq_k fun K18 h18 => ?_
      all_goals refine AW.reg0 ?_
      all_goals iterate 2 (refine S.g rfl rfl fun K' k' => ?_; simp only [zz, reduceIte, Nat.reduceEqDiff, Nat.reduceAdd, f0, f1, f2, f3, f4, f18, f20]; refine k' _ _ ?_; clear k' K')
      all_goals (refine S.g rfl rfl fun K' k' => ?_; simp only [zz, reduceIte, Nat.reduceEqDiff, Nat.reduceLT, Nat.reduceLeDiff, Nat.reduceAdd, reduceCtorEq, Nat.reduceMul, f0, f1, f2, f3, f4, f18, f20]; refine S.bool fun b a180 => ?_; cases b <;> (try (exfalso; first | exact Bool.noConfusion a180 | (have h := of_decide_eq_true a180; omega) | (have h := of_decide_eq_false a180; omega))) <;> (refine k' _ _ ?_; clear k' K'))
      all_goals (refine S.g rfl rfl fun K' k' => ?_; simp only [zz, reduceIte, Nat.reduceEqDiff, Nat.reduceAdd, f0, f1, f2, f3, f4, f18, f20]; refine k' _ _ ?_; clear k' K')
      all_goals iterate 3 (first | (refine S.y rfl rfl rfl rfl fun K' k' => ?_; simp only [zz, reduceIte, Nat.reduceEqDiff, Nat.reduceAdd, f0, f1, f2, f3, f4, f18, f20]; refine k' _ _ ?_; clear k' K') | ((first | refine S.x rfl rfl rfl rfl fun K' k' => ?_ | refine S.u rfl rfl rfl rfl fun K' k' => ?_); simp only [ze, reduceIte, Nat.reduceEqDiff]; refine k' _ _ ?_; clear k' K'))
      all_goals (refine S.g rfl rfl fun K' k' => ?_; simp only [zz, reduceIte, Nat.reduceEqDiff, Nat.reduceAdd, f0, f1, f2, f3, f4, f18, f20]; refine k' _ _ ?_; clear k' K')
      all_goals refine S.nil ?_
      all_goals simp only [ze, reduceIte, Nat.reduceEqDiff, Nat.reduceLT, Nat.reduceLeDiff, Nat.reduceAdd, reduceCtorEq, Nat.reduceMul, f0, f1, f2, f3, f4, f18, f20]
      all_goals first | refine h18 _ _ ?_ | refine h17 _ _ ?_ | refine h16 _ _ ?_ | refine h15 _ _ ?_ | refine h14 _ _ ?_ | refine h13 _ _ ?_ | refine h12 _ _ ?_ | refine h11 _ _ ?_ | refine h10 _ _ ?_ | refine h9 _ _ ?_ | refine h8 _ _ ?_ | refine h7 _ _ ?_ | refine h6 _ _ ?_ | refine h5 _ _ ?_ | refine h4 _ _ ?_ | refine h3 _ _ ?_ | refine h2 _ _ ?_ | refine h1 _ _ ?_
      refine AW.cond (b := false) (by simp [ev]; try omega) (fun hc => by cases hc) (fun hc => AW.skip ?_)
      all_goals simp only [zs, reduceIte, Nat.reduceEqDiff, Nat.reduceLT, Nat.reduceLeDiff, Nat.reduceAdd, reduceCtorEq, Nat.reduceMul]
      refine ⟨l1, ?_⟩; have hfin := hs1; (repeat' apply And.intro) <;> first | rfl | assumption | exact hfin.1 | exact hfin.2
  clear f0 f1 f2 f3 f4 f18 f19 f20 hs1
  rintro s2 σ2 ⟨l2, f0, f1, f3, f4, f18, f20, f24, rfl, hs2⟩
  refine AW.seq_j (fun s σ => ∃ l', s.t 0 = .gl k ∧ s.t 3 = .c (.int .i64 b) ∧ s.t 4 = .fn (.func 64) [] [] ∧ s.t 18 = .c (.int .i64 mid) ∧ s.t 24 = .c (.int .i64 ((n - st : Nat) : Int)) ∧ σ = hpB k l' ∧ Sub l0 l') ?_ ?_
  · by_cases hc1 : a < st
    · by_cases hc2 : st < mid
      · refine AW.seq_k fun K19 h19 => ?_
        all_goals refine AW.reg0 ?_
        all_goals iterate 2 (refine S.g rfl rfl fun K' k' => ?_; simp only [zz, reduceIte, Nat.reduceEqDiff, Nat.reduceAdd, f0, f1, f3, f4, f18, f20, f24]; refine k' _ _ ?_; clear k' K')
        all_goals (refine S.g rfl rfl fun K' k' => ?_; simp only [zz, reduceIte, Nat.reduceEqDiff, Nat.reduceLT, Nat.reduceLeDiff, Nat.reduceAdd, reduceCtorEq, Nat.reduceMul, f0, f1, f3, f4, f18, f20, f24]; refine S.bool fun b a194 => ?_; cases b <;> (try (exfalso; first | exact Bool.noConfusion a194 | (have h := of_decide_eq_true a194; omega) | (have h := of_decide_eq_false a194; omega))) <;> (refine k' _ _ ?_; clear k' K'))
        all_goals (refine S.g rfl rfl fun K' k' => ?_; simp only [zz, reduceIte, Nat.reduceEqDiff, Nat.reduceAdd, f0, f1, f3, f4, f18, f20, f24]; refine k' _ _ ?_; clear k' K')
        all_goals iterate 3 (first | (refine S.y rfl rfl rfl rfl fun K' k' => ?_; simp only [zz, reduceIte, Nat.reduceEqDiff, Nat.reduceAdd, f0, f1, f3, f4, f18, f20, f24]; refine k' _ _ ?_; clear k' K') | ((first | refine S.x rfl rfl rfl rfl fun K' k' => ?_ | refine S.u rfl rfl rfl rfl fun K' k' => ?_); simp only [ze, reduceIte, Nat.reduceEqDiff]; refine k' _ _ ?_; clear k' K'))
        all_goals (refine S.g rfl rfl fun K' k' => ?_; simp only [zz, reduceIte, Nat.reduceEqDiff, Nat.reduceAdd, f0, f1, f3, f4, f18, f20, f24]; refine k' _ _ ?_; clear k' K')
        all_goals refine S.nil ?_
        all_goals simp only [ze, reduceIte, Nat.reduceEqDiff, Nat.reduceLT, Nat.reduceLeDiff, Nat.reduceAdd, reduceCtorEq, Nat.reduceMul, f0, f1, f3, f4, f18, f20, f24]
        all_goals first | refine h19 _ _ ?_ | refine h18 _ _ ?_ | refine h17 _ _ ?_ | refine h16 _ _ ?_ | refine h15 _ _ ?_ | refine h14 _ _ ?_ | refine h13 _ _ ?_ | refine h12 _ _ ?_ | refine h11 _ _ ?_ | refine h10 _ _ ?_ | refine h9 _ _ ?_ | refine h8 _ _ ?_ | refine h7 _ _ ?_ | refine h6 _ _ ?_ | refine h5 _ _ ?_ | refine h4 _ _ ?_ | refine h3 _ _ ?_ | refine h2 _ _ ?_ | refine h1 _ _ ?_
        refine AW.cond (b := true) (by simp [ev]; try omega) (fun hc => ?_) (fun hc => by cases hc)
        all_goals refine AW.reg0 ?_
        all_goals iterate 5 (refine S.g rfl rfl fun K' k' => ?_; simp only [zz, reduceIte, Nat.reduceEqDiff, Nat.reduceAdd, f0, f1, f3, f4, f18, f20]; refine k' _ _ ?_; clear k' K')
        all_goals (refine S.g rfl rfl fun K' k' => ?_; simp only [zz, reduceIte, Nat.reduceEqDiff, Nat.reduceLT, Nat.reduceLeDiff, Nat.reduceAdd, reduceCtorEq, Nat.reduceMul, f0, f1, f3, f4, f18, f20]; refine (ih l2 a st mid (by omega) (by omega) (by omega) (by rw [hs2.1]; omega) (by rw [hs2.1]; omega)).to fun v σ1 hv => ?_; obtain ⟨rfl, l3, hl3, rfl⟩ := hv <;> (refine k' _ _ ?_; clear k' K'))
        all_goals refine S.nil ?_
        all_goals simp only [ze, reduceIte, Nat.reduceEqDiff, Nat.reduceLT, Nat.reduceLeDiff, Nat.reduceAdd, reduceCtorEq, Nat.reduceMul, f0, f1, f3, f4, f18, f20]
        refine ⟨l3, ?_⟩; have hfin := hs2.trans hl3; (repeat' apply And.intro) <;> first | rfl | assumption | exact hfin.1 | exact hfin.2
      · refine AW.seq_k fun K20 h20 => ?_
        all_goals refine AW.reg0 ?_
        all_goals iterate 2 (refine S.g rfl rfl fun K' k' => ?_; simp only [zz, reduceIte, Nat.reduceEqDiff, Nat.reduceAdd, f0, f1, f3, f4, f18, f20, f24]; refine k' _ _ ?_; clear k' K')
        all_goals (refine S.g rfl rfl fun K' k' => ?_; simp only [zz, reduceIte, Nat.reduceEqDiff, Nat.reduceLT, Nat.reduceLeDiff, Nat.reduceAdd, reduceCtorEq, Nat.reduceMul, f0, f1, f3, f4, f18, f20, f24]; refine S.bool fun b a194 => ?_; cases b <;> (try (exfalso; first | exact Bool.noConfusion a194 | (have h := of_decide_eq_true a194; omega) | (have h := of_decide_eq_false a194; omega))) <;> (refine k' _ _ ?_; clear k' K'))
        all_goals (refine S.g rfl rfl fun K' k' => ?_; simp only [zz, reduceIte, Nat.reduceEqDiff, Nat.reduceAdd, f0, f1, f3, f4, f18, f20, f24]; refine k' _ _ ?_; clear k' K')
        all_goals iterate 3 (first | (refine S.y rfl rfl rfl rfl fun K' k' => ?_; simp only [zz, reduceIte, Nat.reduceEqDiff, Nat.reduceAdd, f0, f1, f3, f4, f18, f20, f24]; refine k' _ _ ?_; clear k' K') | ((first | refine S.x rfl rfl rfl rfl fun K' k' => ?_ | refine S.u rfl rfl rfl rfl fun K' k' => ?_); simp only [ze, reduceIte, Nat.reduceEqDiff]; refine k' _ _ ?_; clear k' K'))
        all_goals (refine S.g rfl rfl fun K' k' => ?_; simp only [zz, reduceIte, Nat.reduceEqDiff, Nat.reduceAdd, f0, f1, f3, f4, f18, f20, f24]; refine k' _ _ ?_; clear k' K')
        all_goals refine S.nil ?_
        all_goals simp only [ze, reduceIte, Nat.reduceEqDiff, Nat.reduceLT, Nat.reduceLeDiff, Nat.reduceAdd, reduceCtorEq, Nat.reduceMul, f0, f1, f3, f4, f18, f20, f24]
        all_goals first | refine h20 _ _ ?_ | refine h19 _ _ ?_ | refine h18 _ _ ?_ | refine h17 _ _ ?_ | refine h16 _ _ ?_ | refine h15 _ _ ?_ | refine h14 _ _ ?_ | refine h13 _ _ ?_ | refine h12 _ _ ?_ | refine h11 _ _ ?_ | refine h10 _ _ ?_ | refine h9 _ _ ?_ | refine h8 _ _ ?_ | refine h7 _ _ ?_ | refine h6 _ _ ?_ | refine h5 _ _ ?_ | refine h4 _ _ ?_ | refine h3 _ _ ?_ | refine h2 _ _ ?_ | refine h1 _ _ ?_
        refine AW.cond (b := false) (by simp [ev]; try omega) (fun hc => by cases hc) (fun hc => AW.skip ?_)
        all_goals simp only [zs, reduceIte, Nat.reduceEqDiff, Nat.reduceLT, Nat.reduceLeDiff, Nat.reduceAdd, reduceCtorEq, Nat.reduceMul]
        refine ⟨l2, ?_⟩; have hfin := hs2; (repeat' apply And.intro) <;> first | rfl | assumption | exact hfin.1 | exact hfin.2
    · refine AW.seq_k fun K21 h21 => ?_
      all_goals refine AW.reg0 ?_
      all_goals iterate 2 (refine S.g rfl rfl fun K' k' => ?_; simp only [zz, reduceIte, Nat.reduceEqDiff, Nat.reduceAdd, f0, f1, f3, f4, f18, f20, f24]; refine k' _ _ ?_; clear k' K')
      all_goals (refine S.g rfl rfl fun K' k' => ?_; simp only [zz, reduceIte, Nat.reduceEqDiff, Nat.reduceLT, Nat.reduceLeDiff, Nat.reduceAdd, reduceCtorEq, Nat.reduceMul, f0, f1, f3, f4, f18, f20, f24]; refine S.bool fun b a194 => ?_; cases b <;> (try (exfalso; first | exact Bool.noConfusion a194 | (have h := of_decide_eq_true a194; omega) | (have h := of_decide_eq_false a194; omega))) <;> (refine k' _ _ ?_; clear k' K'))
      all_goals (refine S.g rfl rfl fun K' k' => ?_; simp only [zz, reduceIte, Nat.reduceEqDiff, Nat.reduceAdd, f0, f1, f3, f4, f18, f20, f24]; refine k' _ _ ?_; clear k' K')
      all_goals iterate 3 (first | (refine S.y rfl rfl rfl rfl fun K' k' => ?_; simp only [zz, reduceIte, Nat.reduceEqDiff, Nat.reduceAdd, f0, f1, f3, f4, f18, f20, f24]; refine k' _ _ ?_; clear k' K') | ((first | refine S.x rfl rfl rfl rfl fun K' k' => ?_ | refine S.u rfl rfl rfl rfl fun K' k' => ?_); simp only [ze, reduceIte, Nat.reduceEqDiff]; refine k' _ _ ?_; clear k' K'))
      all_goals (refine S.g rfl rfl fun K' k' => ?_; simp only [zz, reduceIte, Nat.reduceEqDiff, Nat.reduceAdd, f0, f1, f3, f4, f18, f20, f24]; refine k' _ _ ?_; clear k' K')
      all_goals refine S.nil ?_
      all_goals simp only [ze, reduceIte, Nat.reduceEqDiff, Nat.reduceLT, Nat.reduceLeDiff, Nat.reduceAdd, reduceCtorEq, Nat.reduceMul, f0, f1, f3, f4, f18, f20, f24]
      all_goals first | refine h21 _ _ ?_ | refine h20 _ _ ?_ | refine h19 _ _ ?_ | refine h18 _ _ ?_ | refine h17 _ _ ?_ | refine h16 _ _ ?_ | refine h15 _ _ ?_ | refine h14 _ _ ?_ | refine h13 _ _ ?_ | refine h12 _ _ ?_ | refine h11 _ _ ?_ | refine h10 _ _ ?_ | refine h9 _ _ ?_ | refine h8 _ _ ?_ | refine h7 _ _ ?_ | refine h6 _ _ ?_ | refine h5 _ _ ?_ | refine h4 _ _ ?_ | refine h3 _ _ ?_ | refine h2 _ _ ?_ | refine h1 _ _ ?_
      refine AW.cond (b := false) (by simp [ev]; try omega) (fun hc => by cases hc) (fun hc => AW.skip ?_)
      all_goals simp only [zs, reduceIte, Nat.reduceEqDiff, Nat.reduceLT, Nat.reduceLeDiff, Nat.reduceAdd, reduceCtorEq, Nat.reduceMul]
      refine ⟨l2, ?_⟩; have hfin := hs2; (repeat' apply And.intro) <;> first | rfl | assumption | exact hfin.1 | exact hfin.2
  clear f0 f1 f3 f4 f18 f20 f24 hs2
  rintro s3 σ3 ⟨l3, f0, f3, f4, f18, f24, rfl, hs3⟩
  by_cases hc1 : mid < n - st
  · by_cases hc2 : n - st < b
    · refine AW.seq_k fun K22 h22 => ?_
      all_goals refine AW.reg0 ?_
      all_goals iterate 2 (refine S.g rfl rfl fun K' k' => ?_; simp only [zz, reduceIte, Nat.reduceEqDiff, Nat.reduceAdd, f0, f3, f4, f18, f24]; refine k' _ _ ?_; clear k' K')
      all_goals (refine S.g rfl rfl fun K' k' => ?_; simp only [zz, reduceIte, Nat.reduceEqDiff, Nat.reduceLT, Nat.reduceLeDiff, Nat.reduceAdd, reduceCtorEq, Nat.reduceMul, f0, f3, f4, f18, f24]; refine S.bool fun b a208 => ?_; cases b <;> (try (exfalso; first | exact Bool.noConfusion a208 | (have h := of_decide_eq_true a208; omega) | (have h := of_decide_eq_false a208; omega))) <;> (refine k' _ _ ?_; clear k' K'))
      all_goals (refine S.g rfl rfl fun K' k' => ?_; simp only [zz, reduceIte, Nat.reduceEqDiff, Nat.reduceAdd, f0, f3, f4, f18, f24]; refine k' _ _ ?_; clear k' K')
      all_goals iterate 3 (first | (refine S.y rfl rfl rfl rfl fun K' k' => ?_; simp only [zz, reduceIte, Nat.reduceEqDiff, Nat.reduceAdd, f0, f3, f4, f18, f24]; refine k' _ _ ?_; clear k' K') | ((first | refine S.x rfl rfl rfl rfl fun K' k' => ?_ | refine S.u rfl rfl rfl rfl fun K' k' => ?_); simp only [ze, reduceIte, Nat.reduceEqDiff]; refine k' _ _ ?_; clear k' K'))
      all_goals (refine S.g rfl rfl fun K' k' => ?_; simp only [zz, reduceIte, Nat.reduceEqDiff, Nat.reduceAdd, f0, f3, f4, f18, f24]; refine k' _ _ ?_; clear k' K')
      all_goals refine S.nil ?_
      all_goals simp only [ze, reduceIte, Nat.reduceEqDiff, Nat.reduceLT, Nat.reduceLeDiff, Nat.reduceAdd, reduceCtorEq, Nat.reduceMul, f0, f3, f4, f18, f24]
      all_goals first | refine h22 _ _ ?_ | refine h21 _ _ ?_ | refine h20 _ _ ?_ | refine h19 _ _ ?_ | refine h18 _ _ ?_ | refine h17 _ _ ?_ | refine h16 _ _ ?_ | refine h15 _ _ ?_ | refine h14 _ _ ?_ | refine h13 _ _ ?_ | refine h12 _ _ ?_ | refine h11 _ _ ?_ | refine h10 _ _ ?_ | refine h9 _ _ ?_ | refine h8 _ _ ?_ | refine h7 _ _ ?_ | refine h6 _ _ ?_ | refine h5 _ _ ?_ | refine h4 _ _ ?_ | refine h3 _ _ ?_ | refine h2 _ _ ?_ | refine h1 _ _ ?_
      refine AW.cond (b := true) (by simp [ev]; try omega) (fun hc => ?_) (fun hc => by cases hc)
      all_goals refine AW.reg0 ?_
      all_goals iterate 5 (refine S.g rfl rfl fun K' k' => ?_; simp only [zz, reduceIte, Nat.reduceEqDiff, Nat.reduceAdd, f0, f3, f4, f18, f24]; refine k' _ _ ?_; clear k' K')
      all_goals (refine S.g rfl rfl fun K' k' => ?_; simp only [zz, reduceIte, Nat.reduceEqDiff, Nat.reduceLT, Nat.reduceLeDiff, Nat.reduceAdd, reduceCtorEq, Nat.reduceMul, f0, f3, f4, f18, f24]; refine (ih l3 mid (n - st) b (by omega) (by omega) (by omega) (by rw [hs3.1]; omega) (by rw [hs3.1]; omega)).to fun v σ1 hv => ?_; obtain ⟨rfl, l4, hl4, rfl⟩ := hv <;> (refine k' _ _ ?_; clear k' K'))
      all_goals refine S.nil ?_
      all_goals simp only [ze, reduceIte, Nat.reduceEqDiff, Nat.reduceLT, Nat.reduceLeDiff, Nat.reduceAdd, reduceCtorEq, Nat.reduceMul, f0, f3, f4, f18, f24]
      exact ⟨rfl, l4, hs3.trans hl4, rfl⟩
    · refine AW.seq_k fun K23 h23 => ?_
      all_goals refine AW.reg0 ?_
      all_goals iterate 2 (refine S.g rfl rfl fun K' k' => ?_; simp only [zz, reduceIte, Nat.reduceEqDiff, Nat.reduceAdd, f0, f3, f4, f18, f24]; refine k' _ _ ?_; clear k' K')
      all_goals (refine S.g rfl rfl fun K' k' => ?_; simp only [zz, reduceIte, Nat.reduceEqDiff, Nat.reduceLT, Nat.reduceLeDiff, Nat.reduceAdd, reduceCtorEq, Nat.reduceMul, f0, f3, f4, f18, f24]; refine S.bool fun b a208 => ?_; cases b <;> (try (exfalso; first | exact Bool.noConfusion a208 | (have h := of_decide_eq_true a208; omega) | (have h := of_decide_eq_false a208; omega))) <;> (refine k' _ _ ?_; clear k' K'))
      all_goals (refine S.g rfl rfl fun K' k' => ?_; simp only [zz, reduceIte, Nat.reduceEqDiff, Nat.reduceAdd, f0, f3, f4, f18, f24]; refine k' _ _ ?_; clear k' K')
      all_goals iterate 3 (first | (refine S.y rfl rfl rfl rfl fun K' k' => ?_; simp only [zz, reduceIte, Nat.reduceEqDiff, Nat.reduceAdd, f0, f3, f4, f18, f24]; refine k' _ _ ?_; clear k' K') | ((first | refine S.x rfl rfl rfl rfl fun K' k' => ?_ | refine S.u rfl rfl rfl rfl fun K' k' => ?_); simp only [ze, reduceIte, Nat.reduceEqDiff]; refine k' _ _ ?_; clear k' K'))
      all_goals (refine S.g rfl rfl fun K' k' => ?_; simp only [zz, reduceIte, Nat.reduceEqDiff, Nat.reduceAdd, f0, f3, f4, f18, f24]; refine k' _ _ ?_; clear k' K')
      all_goals refine S.nil ?_
      all_goals simp only [ze, reduceIte, Nat.reduceEqDiff, Nat.reduceLT, Nat.reduceLeDiff, Nat.reduceAdd, reduceCtorEq, Nat.reduceMul, f0, f3, f4, f18, f24]
      all_goals first | refine h23 _ _ ?_ | refine h22 _ _ ?_ | refine h21 _ _ ?_ | refine h20 _ _ ?_ | refine h19 _ _ ?_ | refine h18 _ _ ?_ | refine h17 _ _ ?_ | refine h16 _ _ ?_ | refine h15 _ _ ?_ | refine h14 _ _ ?_ | refine h13 _ _ ?_ | refine h12 _ _ ?_ | refine h11 _ _ ?_ | refine h10 _ _ ?_ | refine h9 _ _ ?_ | refine h8 _ _ ?_ | refine h7 _ _ ?_ | refine h6 _ _ ?_ | refine h5 _ _ ?_ | refine h4 _ _ ?_ | refine h3 _ _ ?_ | refine h2 _ _ ?_ | refine h1 _ _ ?_
      refine AW.cond (b := false) (by simp [ev]; try omega) (fun hc => by cases hc) (fun hc => AW.skip ?_)
      all_goals simp only [zs, reduceIte, Nat.reduceEqDiff, Nat.reduceLT, Nat.reduceLeDiff, Nat.reduceAdd, reduceCtorEq, Nat.reduceMul]
      exact ⟨rfl, l3, hs3, rfl⟩
  · refine AW.seq_k fun K24 h24 => ?_
    all_goals refine AW.reg0 ?_
    all_goals iterate 2 (refine S.g rfl rfl fun K' k' => ?_; simp only [zz, reduceIte, Nat.reduceEqDiff, Nat.reduceAdd, f0, f3, f4, f18, f24]; refine k' _ _ ?_; clear k' K')
    all_goals (refine S.g rfl rfl fun K' k' => ?_; simp only [zz, reduceIte, Nat.reduceEqDiff, Nat.reduceLT, Nat.reduceLeDiff, Nat.reduceAdd, reduceCtorEq, Nat.reduceMul, f0, f3, f4, f18, f24]; refine S.bool fun b a208 => ?_; cases b <;> (try (exfalso; first | exact Bool.noConfusion a208 | (have h := of_decide_eq_true a208; omega) | (have h := of_decide_eq_false a208; omega))) <;> (refine k' _ _ ?_; clear k' K'))
    all_goals (refine S.g rfl rfl fun K' k' => ?_; simp only [zz, reduceIte, Nat.reduceEqDiff, Nat.reduceAdd, f0, f3, f4, f18, f24]; refine k' _ _ ?_; clear k' K')
    all_goals iterate 3 (first | (refine S.y rfl rfl rfl rfl fun K' k' => ?_; simp only [zz, reduceIte, Nat.reduceEqDiff, Nat.reduceAdd, f0, f3, f4, f18, f24]; refine k' _ _ ?_; clear k' K') | ((first | refine S.x rfl rfl rfl rfl fun K' k' => ?_ | refine S.u rfl rfl rfl rfl fun K' k' => ?_); simp only [ze, reduceIte, Nat.reduceEqDiff]; refine k' _ _ ?_; clear k' K'))
    all_goals (refine S.g rfl rfl fun K' k' => ?_; simp only [zz, reduceIte, Nat.reduceEqDiff, Nat.reduceAdd, f0, f3, f4, f18, f24]; refine k' _ _ ?_; clear k' K')
    all_goals refine S.nil ?_
    all_goals simp only [ze, reduceIte, Nat.reduceEqDiff, Nat.reduceLT, Nat.reduceLeDiff, Nat.reduceAdd, reduceCtorEq, Nat.reduceMul, f0, f3, f4, f18, f24]
    all_goals first | refine h24 _ _ ?_ | refine h23 _ _ ?_ | refine h22 _ _ ?_ | refine h21 _ _ ?_ | refine h20 _ _ ?_ | refine h19 _ _ ?_ | refine h18 _ _ ?_ | refine h17 _ _ ?_ | refine h16 _ _ ?_ | refine h15 _ _ ?_ | refine h14 _ _ ?_ | refine h13 _ _ ?_ | refine h12 _ _ ?_ | refine h11 _ _ ?_ | refine h10 _ _ ?_ | refine h9 _ _ ?_ | refine h8 _ _ ?_ | refine h7 _ _ ?_ | refine h6 _ _ ?_ | refine h5 _ _ ?_ | refine h4 _ _ ?_ | refine h3 _ _ ?_ | refine h2 _ _ ?_ | refine h1 _ _ ?_
    refine AW.cond (b := false) (by simp [ev]; try omega) (fun hc => by cases hc) (fun hc => AW.skip ?_)
    all_goals simp only [zs, reduceIte, Nat.reduceEqDiff, Nat.reduceLT, Nat.reduceLeDiff, Nat.reduceAdd, reduceCtorEq, Nat.reduceMul]
    exact ⟨rfl, l3, hs3, rfl⟩
end Go.Abs.M
namespace Go.Abs.M
open Go Go.Abs Go.Proofs
set_option maxRecDepth 20000
set_option linter.unusedSimpArgs false
set_option linter.unusedVariables false

theorem sink_sub (lo : Nat) : ∀ (j : Nat) (l0 l : List Bd), Sub l0 l → Sub l0 (sink lo j l) := by
  intro j
  induction j with
  | zero => exact fun _ _ h => h
  | succ j ih =>
    intro l0 l h
    simp only [sink]
    split
    · rename_i x y hx hy
      split
      · exact ih l0 _ (h.swap hx hy)
      · exact h
    · exact h
theorem insFrom_sub (lo : Nat) : ∀ (m i : Nat) (l0 l : List Bd), Sub l0 l → Sub l0 (insFrom lo l i m) := by
  intro m
  induction m with
  | zero => exact fun _ _ _ h => h
  | succ m ih =>
    intro i l0 l h
    simp only [insFrom, List.range'_succ, List.foldl_cons]
    exact ih (i + 1) l0 _ (sink_sub lo i l0 l h)
theorem insort_sub (lo hi : Nat) (l : List Bd) : Sub l (insort lo hi l) := insFrom_sub lo _ _ l l (Sub.refl l)

theorem stable_weak (l0 : List Bd) (k : Nat) (hn : l0.length < 2147483648) :
    ACalls Try.prog 104 [.gl k, .c (.int .i64 l0.length), .fn (.func 64) [] []] (hpB k l0) (hpS k l0) := by
  refine ACalls.intro Try.call104 Try.func104 rfl Try.ntmps104 Try.results104 (by simp) ?_
  refine AW.seq_k fun K1 h1 => ?_
  all_goals refine AW.reg0 ?_
  all_goals (refine S.g rfl rfl fun K' k' => ?_; simp only [zz, reduceIte, Nat.reduceEqDiff, Nat.reduceAdd]; refine k' _ _ ?_; clear k' K')
  all_goals refine S.nil ?_
  all_goals simp only [ze, reduceIte, Nat.reduceEqDiff, Nat.reduceLT, Nat.reduceLeDiff, Nat.reduceAdd, reduceCtorEq, Nat.reduceMul]
  all_goals first | refine h1 _ _ ?_
  refine AW.seq_k fun K2 h2 => ?_
  all_goals refine AW.reg0 ?_
  all_goals iterate 3 (refine S.g rfl rfl fun K' k' => ?_; simp only [zz, reduceIte, Nat.reduceEqDiff, Nat.reduceAdd]; refine k' _ _ ?_; clear k' K')
  all_goals refine S.nil ?_
  all_goals simp only [ze, reduceIte, Nat.reduceEqDiff, Nat.reduceLT, Nat.reduceLeDiff, Nat.reduceAdd, reduceCtorEq, Nat.reduceMul]
  all_goals first | refine h2 _ _ ?_ | refine h1 _ _ ?_
  refine AW.seq_j (fun s σ => ∃ a l', a ≤ l0.length ∧ s.t 0 = .gl k ∧ s.t 1 = .c (.int .i64 l0.length) ∧ s.t 2 = .fn (.func 64) [] [] ∧ s.t 6 = .c (.int .i64 ((20 : Nat) : Int)) ∧ s.t 7 = .c (.int .i64 (a : Nat)) ∧ σ = hpB k l' ∧ Sub l0 l') ?_ ?_
  · refine AW.block ?_   -- 0
    refine AW.loop (fun m s σ => ∃ a b l', m + a = l0.length ∧ b = a + 20 ∧ s.t 0 = .gl k ∧ s.t 1 = .c (.int .i64 l0.length) ∧ s.t 2 = .fn (.func 64) [] [] ∧ s.t 6 = .c (.int .i64 ((20 : Nat) : Int)) ∧ s.t 7 = .c (.int .i64 (a : Nat)) ∧ s.t 8 = .c (.int .i64 (b : Nat)) ∧ σ = hpB k l' ∧ Sub l0 l') l0.length ?_ ?_
    · refine ⟨0, 20, l0, rfl, rfl, ?_⟩
      all_goals simp only [zs, reduceIte, Nat.reduceEqDiff, Nat.reduceLT, Nat.reduceLeDiff, Nat.reduceAdd, reduceCtorEq, Nat.reduceMul]
      exact ⟨rfl, rfl, rfl, rfl, fun _ h => h⟩
    rintro m s σ ⟨a, b, l', hm, hab, e0, e1, e2, e6, e7, e8, rfl, hs⟩
    refine AW.seq_k fun K3 h3 => ?_
    refine AW.seq_k fun K4 h4 => ?_
    all_goals refine AW.reg0 ?_
    all_goals iterate 3 (refine S.g rfl rfl fun K' k' => ?_; simp only [zz, reduceIte, Nat.reduceEqDiff, Nat.reduceAdd, e1, e8]; refine k' _ _ ?_; clear k' K')
    all_goals refine S.nil ?_
    all_goals simp only [ze, reduceIte, Nat.reduceEqDiff, Nat.reduceLT, Nat.reduceLeDiff, Nat.reduceAdd, reduceCtorEq, Nat.reduceMul, e1, e8]
    all_goals first | refine h4 _ _ ?_ | refine h3 _ _ ?_ | refine h2 _ _ ?_ | refine h1 _ _ ?_
    refine AW.cond (b := decide (b ≤ l0.length)) (by simp [ev]) (fun hc => ?_) (fun hc => ?_)
    · have hc := of_decide_eq_true hc
      refine AW.skip ?_
      all_goals simp only [zs, reduceIte, Nat.reduceEqDiff, Nat.reduceLT, Nat.reduceLeDiff, Nat.reduceAdd, reduceCtorEq, Nat.reduceMul]
      all_goals first | refine h4 _ _ ?_ | refine h3 _ _ ?_ | refine h2 _ _ ?_ | refine h1 _ _ ?_
      have hw : IntKind.i64.wrap ((b : Int) + (20 : Nat)) = ((b + 20 : Nat) : Int) := by rw [wrap_small _ (by omega) (by omega)]; rfl
      refine AW.block ?_   -- 1
      refine AW.seq_k fun K5 h5 => ?_
      all_goals refine AW.reg0 ?_
      all_goals iterate 4 (refine S.g rfl rfl fun K' k' => ?_; simp only [zz, reduceIte, Nat.reduceEqDiff, Nat.reduceAdd, e0, e2, e7, e8]; refine k' _ _ ?_; clear k' K')
      all_goals (refine S.g rfl rfl fun K' k' => ?_; simp only [zz, reduceIte, Nat.reduceEqDiff, Nat.reduceLT, Nat.reduceLeDiff, Nat.reduceAdd, reduceCtorEq, Nat.reduceMul, e0, e2, e7, e8]; refine (insort_spec l' k a b (by omega) (by rw [hs.1]; omega) (by rw [hs.1]; omega)).to fun v σ1 hv => ?_; obtain ⟨rfl, rfl⟩ := hv <;> (refine k' _ _ ?_; clear k' K'))
      all_goals refine S.nil ?_
      all_goals simp only [ze, reduceIte, Nat.reduceEqDiff, Nat.reduceLT, Nat.reduceLeDiff, Nat.reduceAdd, reduceCtorEq, Nat.reduceMul, e0, e2, e7, e8]
      all_goals first | refine h5 _ _ ?_ | refine h4 _ _ ?_ | refine h3 _ _ ?_ | refine h2 _ _ ?_ | refine h1 _ _ ?_
      refine AW.seq_k fun K6 h6 => ?_
      all_goals refine AW.reg0 ?_
      all_goals iterate 2 (refine S.g rfl rfl fun K' k' => ?_; simp only [zz, reduceIte, Nat.reduceEqDiff, Nat.reduceAdd, e8]; refine k' _ _ ?_; clear k' K')
      all_goals refine S.nil ?_
      all_goals simp only [ze, reduceIte, Nat.reduceEqDiff, Nat.reduceLT, Nat.reduceLeDiff, Nat.reduceAdd, reduceCtorEq, Nat.reduceMul, e8]
      all_goals first | refine h6 _ _ ?_ | refine h5 _ _ ?_ | refine h4 _ _ ?_ | refine h3 _ _ ?_ | refine h2 _ _ ?_ | refine h1 _ _ ?_
      all_goals refine AW.reg0 ?_
      all_goals iterate 4 (refine S.g rfl rfl fun K' k' => ?_; simp only [zz, reduceIte, Nat.reduceEqDiff, Nat.reduceAdd, e8, e6, hw]; refine k' _ _ ?_; clear k' K')
      all_goals refine S.nil ?_
      all_goals simp only [ze, reduceIte, Nat.reduceEqDiff, Nat.reduceLT, Nat.reduceLeDiff, Nat.reduceAdd, reduceCtorEq, Nat.reduceMul, e8, e6, hw]
      exact ⟨m - 20, by omega, b, b + 20, _, by omega, rfl, e0, e1, e2, rfl, rfl, rfl, hs.trans (insort_sub a b l')⟩
    · have hc := of_decide_eq_false hc
      refine AW.exit ?_
      all_goals simp only [zs, reduceIte, Nat.reduceEqDiff, Nat.reduceLT, Nat.reduceLeDiff, Nat.reduceAdd, reduceCtorEq, Nat.reduceMul]
      exact ⟨a, l', by omega, e0, e1, e2, e6, e7, rfl, hs⟩
  rintro s0 σ0 ⟨a, l', ha, e0, e1, e2, e6, e7, rfl, hs⟩
  refine AW.seq_k fun K7 h7 => ?_
  all_goals refine AW.reg0 ?_
  all_goals iterate 4 (refine S.g rfl rfl fun K' k' => ?_; simp only [zz, reduceIte, Nat.reduceEqDiff, Nat.reduceAdd, e0, e1, e2, e7]; refine k' _ _ ?_; clear k' K')
  all_goals (refine S.g rfl rfl fun K' k' => ?_; simp only [zz, reduceIte, Nat.reduceEqDiff, Nat.reduceLT, Nat.reduceLeDiff, Nat.reduceAdd, reduceCtorEq, Nat.reduceMul, e0, e1, e2, e7]; refine (insort_spec l' k a l0.length (by omega) (by rw [hs.1]; omega) (by rw [hs.1]; omega)).to fun v σ1 hv => ?_; obtain ⟨rfl, rfl⟩ := hv <;> (refine k' _ _ ?_; clear k' K'))
  all_goals refine S.nil ?_
  all_goals simp only [ze, reduceIte, Nat.reduceEqDiff, Nat.reduceLT, Nat.reduceLeDiff, Nat.reduceAdd, reduceCtorEq, Nat.reduceMul, e0, e1, e2, e7]
  all_goals first | refine h7 _ _ ?_ | refine h6 _ _ ?_ | refine h5 _ _ ?_ | refine h4 _ _ ?_ | refine h3 _ _ ?_ | refine h2 _ _ ?_ | refine h1 _ _ ?_
  have hs2 := hs.trans (insort_sub a l0.length l')
  generalize insort a l0.length l' = l1 at hs2 ⊢
  clear hs
  refine AW.block ?_   -- 2
  refine AW.loop (fun m s σ => ∃ c l', m = l0.length - c ∧ 20 ≤ c ∧ c < 4294967296 ∧ s.t 0 = .gl k ∧ s.t 1 = .c (.int .i64 l0.length) ∧ s.t 2 = .fn (.func 64) [] [] ∧ s.t 6 = .c (.int .i64 (c : Nat)) ∧ σ = hpB k l' ∧ Sub l0 l') (l0.length - 20) ?_ ?_
  · refine ⟨20, l1, rfl, by omega, by omega, ?_⟩
    all_goals simp only [zs, reduceIte, Nat.reduceEqDiff, Nat.reduceLT, Nat.reduceLeDiff, Nat.reduceAdd, reduceCtorEq, Nat.reduceMul]
    exact ⟨e0, e1, e2, e6, hs2⟩
  clear e0 e1 e2 e6 e7 hs2 ha
  rintro m s σ ⟨c, l', hm, hc1, hc2, e0, e1, e2, e6, rfl, hs⟩
  refine AW.seq_k fun K8 h8 => ?_
  refine AW.seq_k fun K9 h9 => ?_
  all_goals refine AW.reg0 ?_
  all_goals iterate 3 (refine S.g rfl rfl fun K' k' => ?_; simp only [zz, reduceIte, Nat.reduceEqDiff, Nat.reduceAdd, e1, e6]; refine k' _ _ ?_; clear k' K')
  all_goals refine S.nil ?_
  all_goals simp only [ze, reduceIte, Nat.reduceEqDiff, Nat.reduceLT, Nat.reduceLeDiff, Nat.reduceAdd, reduceCtorEq, Nat.reduceMul, e1, e6]
  all_goals first | refine h9 _ _ ?_ | refine h8 _ _ ?_ | refine h7 _ _ ?_ | refine h6 _ _ ?_ | refine h5 _ _ ?_ | refine h4 _ _ ?_ | refine h3 _ _ ?_ | refine h2 _ _ ?_ | refine h1 _ _ ?_
  refine AW.cond (b := decide (c < l0.length)) (by simp [ev]) (fun hc => ?_) (fun hc => ?_)
  · have hc := of_decide_eq_true hc
    refine AW.skip ?_
    all_goals simp only [zs, reduceIte, Nat.reduceEqDiff, Nat.reduceLT, Nat.reduceLeDiff, Nat.reduceAdd, reduceCtorEq, Nat.reduceMul]
    all_goals first | refine h9 _ _ ?_ | refine h8 _ _ ?_ | refine h7 _ _ ?_ | refine h6 _ _ ?_ | refine h5 _ _ ?_ | refine h4 _ _ ?_ | refine h3 _ _ ?_ | refine h2 _ _ ?_ | refine h1 _ _ ?_
    have hw : IntKind.i64.wrap (2 * (c : Int)) = ((2 * c : Nat) : Int) := by rw [wrap_small _ (by omega) (by omega)]; rfl
    have hw' : IntKind.i64.wrap ((c : Int) * 2) = ((2 * c : Nat) : Int) := by rw [wrap_small _ (by omega) (by omega)]; omega
    refine AW.block ?_   -- 3
    refine AW.seq_k fun K10 h10 => ?_
    all_goals refine AW.reg0 ?_
    all_goals iterate 4 (refine S.g rfl rfl fun K' k' => ?_; simp only [zz, reduceIte, Nat.reduceEqDiff, Nat.reduceAdd, e6, hw]; refine k' _ _ ?_; clear k' K')
    all_goals refine S.nil ?_
    all_goals simp only [ze, reduceIte, Nat.reduceEqDiff, Nat.reduceLT, Nat.reduceLeDiff, Nat.reduceAdd, reduceCtorEq, Nat.reduceMul, e6, hw]
    all_goals first | refine h10 _ _ ?_ | refine h9 _ _ ?_ | refine h8 _ _ ?_ | refine h7 _ _ ?_ | refine h6 _ _ ?_ | refine h5 _ _ ?_ | refine h4 _ _ ?_ | refine h3 _ _ ?_ | refine h2 _ _ ?_ | refine h1 _ _ ?_
    refine AW.seq_j (fun s σ => ∃ a l', a ≤ l0.length ∧ s.t 0 = .gl k ∧ s.t 1 = .c (.int .i64 l0.length) ∧ s.t 2 = .fn (.func 64) [] [] ∧ s.t 6 = .c (.int .i64 (c : Nat)) ∧ s.t 7 = .c (.int .i64 (a : Nat)) ∧ σ = hpB k l' ∧ Sub l0 l') ?_ ?_
    · refine AW.block ?_   -- 4
      refine AW.loop (fun m s σ => ∃ a b l', m + a = l0.length ∧ b = a + 2 * c ∧ s.t 0 = .gl k ∧ s.t 1 = .c (.int .i64 l0.length) ∧ s.t 2 = .fn (.func 64) [] [] ∧ s.t 6 = .c (.int .i64 (c : Nat)) ∧ s.t 7 = .c (.int .i64 (a : Nat)) ∧ s.t 8 = .c (.int .i64 (b : Nat)) ∧ σ = hpB k l' ∧ Sub l0 l') l0.length ?_ ?_
      · refine ⟨0, 2 * c, l', rfl, by omega, ?_⟩
        all_goals simp only [zs, reduceIte, Nat.reduceEqDiff, Nat.reduceLT, Nat.reduceLeDiff, Nat.reduceAdd, reduceCtorEq, Nat.reduceMul]
        exact ⟨e0, e1, e2, e6, rfl, hs⟩
      clear hs e0 e1 e2 e6
      rintro m s σ ⟨a, b, l', hm, hab, e0, e1, e2, e6, e7, e8, rfl, hs⟩
      refine AW.seq_k fun K11 h11 => ?_
      refine AW.seq_k fun K12 h12 => ?_
      all_goals refine AW.reg0 ?_
      all_goals iterate 3 (refine S.g rfl rfl fun K' k' => ?_; simp only [zz, reduceIte, Nat.reduceEqDiff, Nat.reduceAdd, e1, e8]; refine k' _ _ ?_; clear k' K')
      all_goals refine S.nil ?_
      all_goals simp only [ze, reduceIte, Nat.reduceEqDiff, Nat.reduceLT, Nat.reduceLeDiff, Nat.reduceAdd, reduceCtorEq, Nat.reduceMul, e1, e8]
      all_goals first | refine h12 _ _ ?_ | refine h11 _ _ ?_ | refine h10 _ _ ?_ | refine h9 _ _ ?_ | refine h8 _ _ ?_ | refine h7 _ _ ?_ | refine h6 _ _ ?_ | refine h5 _ _ ?_ | refine h4 _ _ ?_ | refine h3 _ _ ?_ | refine h2 _ _ ?_ | refine h1 _ _ ?_
      refine AW.cond (b := decide (b ≤ l0.length)) (by simp [ev]) (fun hc => ?_) (fun hc => ?_)
      · have hc := of_decide_eq_true hc
        refine AW.skip ?_
        all_goals simp only [zs, reduceIte, Nat.reduceEqDiff, Nat.reduceLT, Nat.reduceLeDiff, Nat.reduceAdd, reduceCtorEq, Nat.reduceMul]
        all_goals first | refine h12 _ _ ?_ | refine h11 _ _ ?_ | refine h10 _ _ ?_ | refine h9 _ _ ?_ | refine h8 _ _ ?_ | refine h7 _ _ ?_ | refine h6 _ _ ?_ | refine h5 _ _ ?_ | refine h4 _ _ ?_ | refine h3 _ _ ?_ | refine h2 _ _ ?_ | refine h1 _ _ ?_
        have hw3 : IntKind.i64.wrap ((a : Int) + c) = ((a + c : Nat) : Int) := by rw [wrap_small _ (by omega) (by omega)]; rfl
        have hw4 : IntKind.i64.wrap ((b : Int) + (2 * c : Nat)) = ((b + 2 * c : Nat) : Int) := by rw [wrap_small _ (by omega) (by omega)]; rfl
        refine AW.block ?_   -- 5
        refine AW.seq_k fun K13 h13 => ?_
        all_goals refine AW.reg0 ?_
        all_goals iterate 7 (refine S.g rfl rfl fun K' k' => ?_; simp only [zz, reduceIte, Nat.reduceEqDiff, Nat.reduceAdd, e0, e2, e6, e7, e8, hw3]; refine k' _ _ ?_; clear k' K')
        all_goals (refine S.g rfl rfl fun K' k' => ?_; simp only [zz, reduceIte, Nat.reduceEqDiff, Nat.reduceLT, Nat.reduceLeDiff, Nat.reduceAdd, reduceCtorEq, Nat.reduceMul, e0, e2, e6, e7, e8, hw3]; refine (sym_weak k (b - a) l' a (a + c) b (by omega) (by omega) (by omega) (by rw [hs.1]; omega) (by rw [hs.1]; omega)).to fun v σ1 hv => ?_; obtain ⟨rfl, l3, hl3, rfl⟩ := hv <;> (refine k' _ _ ?_; clear k' K'))
        all_goals refine S.nil ?_
        all_goals simp only [ze, reduceIte, Nat.reduceEqDiff, Nat.reduceLT, Nat.reduceLeDiff, Nat.reduceAdd, reduceCtorEq, Nat.reduceMul, e0, e2, e6, e7, e8, hw3]
        all_goals first | refine h13 _ _ ?_ | refine h12 _ _ ?_ | refine h11 _ _ ?_ | refine h10 _ _ ?_ | refine h9 _ _ ?_ | refine h8 _ _ ?_ | refine h7 _ _ ?_ | refine h6 _ _ ?_ | refine h5 _ _ ?_ | refine h4 _ _ ?_ | refine h3 _ _ ?_ | refine h2 _ _ ?_ | refine h1 _ _ ?_
        refine AW.seq_k fun K14 h14 => ?_
        all_goals refine AW.reg0 ?_
        all_goals iterate 2 (refine S.g rfl rfl fun K' k' => ?_; simp only [zz, reduceIte, Nat.reduceEqDiff, Nat.reduceAdd, e8]; refine k' _ _ ?_; clear k' K')
        all_goals refine S.nil ?_
        all_goals simp only [ze, reduceIte, Nat.reduceEqDiff, Nat.reduceLT, Nat.reduceLeDiff, Nat.reduceAdd, reduceCtorEq, Nat.reduceMul, e8]
        all_goals first | refine h14 _ _ ?_ | refine h13 _ _ ?_ | refine h12 _ _ ?_ | refine h11 _ _ ?_ | refine h10 _ _ ?_ | refine h9 _ _ ?_ | refine h8 _ _ ?_ | refine h7 _ _ ?_ | refine h6 _ _ ?_ | refine h5 _ _ ?_ | refine h4 _ _ ?_ | refine h3 _ _ ?_ | refine h2 _ _ ?_ | refine h1 _ _ ?_
        all_goals refine AW.reg0 ?_
        all_goals iterate 5 (refine S.g rfl rfl fun K' k' => ?_; simp only [zz, reduceIte, Nat.reduceEqDiff, Nat.reduceAdd, e8, e6, hw, hw4]; refine k' _ _ ?_; clear k' K')
        all_goals refine S.nil ?_
        all_goals simp only [ze, reduceIte, Nat.reduceEqDiff, Nat.reduceLT, Nat.reduceLeDiff, Nat.reduceAdd, reduceCtorEq, Nat.reduceMul, e8, e6, hw, hw4]
        exact ⟨m - 2 * c, by omega, b, b + 2 * c, _, by omega, rfl, e0, e1, e2, rfl, rfl, rfl, hs.trans hl3⟩
      · have hc := of_decide_eq_false hc
        refine AW.exit ?_
        all_goals simp only [zs, reduceIte, Nat.reduceEqDiff, Nat.reduceLT, Nat.reduceLeDiff, Nat.reduceAdd, reduceCtorEq, Nat.reduceMul]
        exact ⟨a, l', by omega, e0, e1, e2, e6, e7, rfl, hs⟩
    clear hs e0 e1 e2 e6
    rintro s0 σ0 ⟨a, l', ha, e0, e1, e2, e6, e7, rfl, hs⟩
    have hw3 : IntKind.i64.wrap ((a : Int) + c) = ((a + c : Nat) : Int) := by rw [wrap_small _ (by omega) (by omega)]; rfl
    refine AW.seq_k fun K15 h15 => ?_
    refine AW.seq_k fun K16 h16 => ?_
    all_goals refine AW.reg0 ?_
    all_goals iterate 4 (refine S.g rfl rfl fun K' k' => ?_; simp only [zz, reduceIte, Nat.reduceEqDiff, Nat.reduceAdd, e6, e7, hw3]; refine k' _ _ ?_; clear k' K')
    all_goals refine S.nil ?_
    all_goals simp only [ze, reduceIte, Nat.reduceEqDiff, Nat.reduceLT, Nat.reduceLeDiff, Nat.reduceAdd, reduceCtorEq, Nat.reduceMul, e6, e7, hw3]
    all_goals first | refine h16 _ _ ?_ | refine h15 _ _ ?_ | refine h14 _ _ ?_ | refine h13 _ _ ?_ | refine h12 _ _ ?_ | refine h11 _ _ ?_ | refine h10 _ _ ?_ | refine h9 _ _ ?_ | refine h8 _ _ ?_ | refine h7 _ _ ?_ | refine h6 _ _ ?_ | refine h5 _ _ ?_ | refine h4 _ _ ?_ | refine h3 _ _ ?_ | refine h2 _ _ ?_ | refine h1 _ _ ?_
    refine AW.seq_k fun K17 h17 => ?_
    all_goals refine AW.reg0 ?_
    all_goals iterate 3 (refine S.g rfl rfl fun K' k' => ?_; simp only [zz, reduceIte, Nat.reduceEqDiff, Nat.reduceAdd, e1]; refine k' _ _ ?_; clear k' K')
    all_goals refine S.nil ?_
    all_goals simp only [ze, reduceIte, Nat.reduceEqDiff, Nat.reduceLT, Nat.reduceLeDiff, Nat.reduceAdd, reduceCtorEq, Nat.reduceMul, e1]
    all_goals first | refine h17 _ _ ?_ | refine h16 _ _ ?_ | refine h15 _ _ ?_ | refine h14 _ _ ?_ | refine h13 _ _ ?_ | refine h12 _ _ ?_ | refine h11 _ _ ?_ | refine h10 _ _ ?_ | refine h9 _ _ ?_ | refine h8 _ _ ?_ | refine h7 _ _ ?_ | refine h6 _ _ ?_ | refine h5 _ _ ?_ | refine h4 _ _ ?_ | refine h3 _ _ ?_ | refine h2 _ _ ?_ | refine h1 _ _ ?_
    refine AW.cond (b := decide (a + c < l0.length)) (by simp [ev]) (fun hd => ?_) (fun hd => ?_)
    · have hd := of_decide_eq_true hd
      all_goals refine AW.reg0 ?_
      all_goals iterate 5 (refine S.g rfl rfl fun K' k' => ?_; simp only [zz, reduceIte, Nat.reduceEqDiff, Nat.reduceAdd, e0, e1, e2, e7]; refine k' _ _ ?_; clear k' K')
      all_goals (refine S.g rfl rfl fun K' k' => ?_; simp only [zz, reduceIte, Nat.reduceEqDiff, Nat.reduceLT, Nat.reduceLeDiff, Nat.reduceAdd, reduceCtorEq, Nat.reduceMul, e0, e1, e2, e7]; refine (sym_weak k (l0.length - a) l' a (a + c) l0.length (by omega) (by omega) (by omega) (by rw [hs.1]; omega) (by rw [hs.1]; omega)).to fun v σ1 hv => ?_; obtain ⟨rfl, l3, hl3, rfl⟩ := hv <;> (refine k' _ _ ?_; clear k' K'))
      all_goals refine S.nil ?_
      all_goals simp only [ze, reduceIte, Nat.reduceEqDiff, Nat.reduceLT, Nat.reduceLeDiff, Nat.reduceAdd, reduceCtorEq, Nat.reduceMul, e0, e1, e2, e7]
      all_goals first | refine h17 _ _ ?_ | refine h16 _ _ ?_ | refine h15 _ _ ?_ | refine h14 _ _ ?_ | refine h13 _ _ ?_ | refine h12 _ _ ?_ | refine h11 _ _ ?_ | refine h10 _ _ ?_ | refine h9 _ _ ?_ | refine h8 _ _ ?_ | refine h7 _ _ ?_ | refine h6 _ _ ?_ | refine h5 _ _ ?_ | refine h4 _ _ ?_ | refine h3 _ _ ?_ | refine h2 _ _ ?_ | refine h1 _ _ ?_
      all_goals refine AW.reg0 ?_
      all_goals iterate 3 (refine S.g rfl rfl fun K' k' => ?_; simp only [zz, reduceIte, Nat.reduceEqDiff, Nat.reduceAdd, e6, hw']; refine k' _ _ ?_; clear k' K')
      all_goals refine S.nil ?_
      all_goals simp only [ze, reduceIte, Nat.reduceEqDiff, Nat.reduceLT, Nat.reduceLeDiff, Nat.reduceAdd, reduceCtorEq, Nat.reduceMul, e6, hw']
      exact ⟨m - c, by omega, 2 * c, _, by omega, by omega, by omega, e0, e1, e2, rfl, rfl, hs.trans hl3⟩
    · refine AW.skip ?_
      all_goals simp only [zs, reduceIte, Nat.reduceEqDiff, Nat.reduceLT, Nat.reduceLeDiff, Nat.reduceAdd, reduceCtorEq, Nat.reduceMul]
      all_goals first | refine h17 _ _ ?_ | refine h16 _ _ ?_ | refine h15 _ _ ?_ | refine h14 _ _ ?_ | refine h13 _ _ ?_ | refine h12 _ _ ?_ | refine h11 _ _ ?_ | refine h10 _ _ ?_ | refine h9 _ _ ?_ | refine h8 _ _ ?_ | refine h7 _ _ ?_ | refine h6 _ _ ?_ | refine h5 _ _ ?_ | refine h4 _ _ ?_ | refine h3 _ _ ?_ | refine h2 _ _ ?_ | refine h1 _ _ ?_
      all_goals refine AW.reg0 ?_
      all_goals iterate 3 (refine S.g rfl rfl fun K' k' => ?_; simp only [zz, reduceIte, Nat.reduceEqDiff, Nat.reduceAdd, e6, hw']; refine k' _ _ ?_; clear k' K')
      all_goals refine S.nil ?_
      all_goals simp only [ze, reduceIte, Nat.reduceEqDiff, Nat.reduceLT, Nat.reduceLeDiff, Nat.reduceAdd, reduceCtorEq, Nat.reduceMul, e6, hw']
      exact ⟨m - c, by omega, 2 * c, _, by omega, by omega, by omega, e0, e1, e2, rfl, rfl, hs⟩
  · refine AW.exit ?_
    all_goals simp only [zs, reduceIte, Nat.reduceEqDiff, Nat.reduceLT, Nat.reduceLeDiff, Nat.reduceAdd, reduceCtorEq, Nat.reduceMul]
    exact ⟨rfl, l', hs, rfl⟩

theorem sort_weak (l : List Bd) (k : Nat) (hn : l.length < 2147483648) :
    ACalls Try.prog 63 [.gl k, .fn (.func 64) [] []] (hpB k l) (hpS k l) := by
  refine ACalls.intro Try.call63 Try.func63 rfl Try.ntmps63 Try.results63 (by simp) ?_
  have hpb : (hpB k l).gr k = some ((42, 6), l.map encBd) := by simp [hpB]
  refine AW.mono (Q := thenS (fun s' σ' => ∃ l', Sub l l' ∧ σ' = hpB k l') (fun _ _ _ => False)) ?_ ?_
  · clear hpb; unfold hpB
    all_goals refine AW.reg0 ?_
    all_goals iterate 4 (refine S.g rfl rfl fun K' k' => ?_; simp only [zz, reduceIte, Nat.reduceEqDiff, Nat.reduceLT, Nat.reduceLeDiff, Nat.reduceAdd, reduceCtorEq, Nat.reduceMul, sl22, el22, ok42, sz42, ag42]; refine k' _ _ ?_; clear k' K')
    all_goals (refine S.g rfl rfl fun K' k' => ?_; simp only [zz, reduceIte, Nat.reduceEqDiff, Nat.reduceLT, Nat.reduceLeDiff, Nat.reduceAdd, reduceCtorEq, Nat.reduceMul]; refine (stable_weak l k (by omega)).to fun v σ1 hv => ?_; obtain ⟨rfl, l2, hl2, rfl⟩ := hv <;> (refine k' _ _ ?_; clear k' K'))
    all_goals refine S.nil ?_
    all_goals simp only [ze, reduceIte, Nat.reduceEqDiff, Nat.reduceLT, Nat.reduceLeDiff, Nat.reduceAdd, reduceCtorEq, Nat.reduceMul]
    exact ⟨l2, hl2, rfl⟩
  rintro e s σ hq
  cases e with
  | normal =>
    obtain ⟨l2, hl2, rfl⟩ : ∃ l', Sub l l' ∧ σ = hpB k l' := hq
    all_goals simp only [zs, reduceIte, Nat.reduceEqDiff, Nat.reduceLT, Nat.reduceLeDiff, Nat.reduceAdd, reduceCtorEq, Nat.reduceMul]
    exact ⟨rfl, l2, hl2, rfl⟩
  | _ => exact hq.elim
end Go.Abs.M
