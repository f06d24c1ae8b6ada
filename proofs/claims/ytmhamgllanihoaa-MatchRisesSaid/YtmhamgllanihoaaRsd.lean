import Derived.Test.YtmhamgllanihoaaRsc
namespace Go.Abs.M
open Go Go.Abs Go.Proofs
set_option maxRecDepth 20000
set_option linter.unusedSimpArgs false
set_option linter.unusedVariables false
theorem half_u (n : Nat) (h : n < 9223372036854775808) : IntKind.u64.wrap (n : Int) = (n : Int) := by
  simp [IntKind.wrap, IntKind.signed, IntKind.bits]; omega
theorem half_s (n : Nat) : (n : Int).fdiv (2 ^ (min (Int.toNat 1) IntKind.u64.bits)) = ((n / 2 : Nat) : Int) := by
  have : (n : Int).fdiv 2 = (n : Int) / 2 := Int.fdiv_eq_ediv_of_nonneg _ (by decide)
  simp [IntKind.bits, this]
theorem get_bd {l : List Bd} {i : Nat} (h : i < l.length) : ∃ x, l[i]? = some x ∧ (l.map encBd).getD i [] = encBd x := ⟨l[i], List.getElem?_eq_getElem h, getD_map h⟩
theorem sym_one (l0 : List Bd) (k a m0 b : Nat) (ham : a + 1 = m0) (hmb : m0 < b) (hb : b ≤ l0.length) (hn : l0.length < 2147483648) :
    ACalls Try.prog 129 [.gl k, .c (.int .i64 a), .c (.int .i64 m0), .c (.int .i64 b), .fn (.func 64) [] []] (hpB k l0) (hpS k l0) := by
  refine ACalls.intro Try.call129 Try.func129 rfl Try.ntmps129 Try.results129 (by simp) ?_
  have hw1 : IntKind.i64.wrap ((m0 : Int) - a) = 1 := by rw [wrap_small _ (by omega) (by omega)]; omega
  refine AW.seq_k fun K1 h1 => ?_
  refine AW.seq_k fun K2 h2 => ?_
  all_goals refine AW.reg0 ?_
  all_goals iterate 4 (refine S.g rfl rfl fun K' k' => ?_; simp only [zz, reduceIte, Nat.reduceEqDiff, Nat.reduceAdd, hw1]; refine k' _ _ ?_; clear k' K')
  all_goals refine S.nil ?_
  all_goals simp only [ze, reduceIte, Nat.reduceEqDiff, Nat.reduceLT, Nat.reduceLeDiff, Nat.reduceAdd, reduceCtorEq, Nat.reduceMul, hw1]
  all_goals apply_assumption
  refine AW.cond (b := true) (by simp [ev]) (fun hc => ?_) (fun hc => by cases hc)
  refine AW.seq_k fun K3 h3 => ?_
  all_goals refine AW.reg0 ?_
  all_goals iterate 2 (refine S.g rfl rfl fun K' k' => ?_; simp only [zz, reduceIte, Nat.reduceEqDiff, Nat.reduceAdd]; refine k' _ _ ?_; clear k' K')
  all_goals refine S.nil ?_
  all_goals simp only [ze, reduceIte, Nat.reduceEqDiff, Nat.reduceLT, Nat.reduceLeDiff, Nat.reduceAdd, reduceCtorEq, Nat.reduceMul]
  all_goals apply_assumption
  refine AW.seq_k fun K4 h4 => ?_
  all_goals refine AW.reg0 ?_
  all_goals iterate 2 (refine S.g rfl rfl fun K' k' => ?_; simp only [zz, reduceIte, Nat.reduceEqDiff, Nat.reduceAdd]; refine k' _ _ ?_; clear k' K')
  all_goals refine S.nil ?_
  all_goals simp only [ze, reduceIte, Nat.reduceEqDiff, Nat.reduceLT, Nat.reduceLeDiff, Nat.reduceAdd, reduceCtorEq, Nat.reduceMul]
  all_goals apply_assumption
  refine AW.seq_j (fun s σ => ∃ i l', m0 ≤ i ∧ i ≤ b ∧ s.t 0 = .gl k ∧ s.t 1 = .c (.int .i64 a) ∧ s.t 10 = .c (.int .i64 (i : Nat)) ∧ σ = hpB k l' ∧ Sub l0 l') ?_ ?_
  · refine AW.block ?_   -- 0
    refine AW.loop (fun m s σ => ∃ i j, m = j - i ∧ m0 ≤ i ∧ i ≤ j ∧ j ≤ b ∧ s.t 0 = .gl k ∧ s.t 1 = .c (.int .i64 a) ∧ s.t 4 = .fn (.func 64) [] [] ∧ s.t 10 = .c (.int .i64 (i : Nat)) ∧ s.t 11 = .c (.int .i64 (j : Nat)) ∧ σ = hpB k l0) (b - m0) ?_ ?_
    · refine ⟨m0, b, rfl, by omega, by omega, by omega, ?_⟩
      all_goals simp only [zs, reduceIte, Nat.reduceEqDiff, Nat.reduceLT, Nat.reduceLeDiff, Nat.reduceAdd, reduceCtorEq, Nat.reduceMul]
    rintro m s σ ⟨i, j, hm, hi, hij, hj, e0, e1, e4, e10, e11, rfl⟩
    refine AW.seq_k fun K5 h5 => ?_
    refine AW.seq_k fun K6 h6 => ?_
    all_goals refine AW.reg0 ?_
    all_goals iterate 3 (refine S.g rfl rfl fun K' k' => ?_; simp only [zz, reduceIte, Nat.reduceEqDiff, Nat.reduceAdd, e10, e11]; refine k' _ _ ?_; clear k' K')
    all_goals refine S.nil ?_
    all_goals simp only [ze, reduceIte, Nat.reduceEqDiff, Nat.reduceLT, Nat.reduceLeDiff, Nat.reduceAdd, reduceCtorEq, Nat.reduceMul, e10, e11]
    all_goals apply_assumption
    refine AW.cond (b := decide (i < j)) (by simp [ev]) (fun hc => ?_) (fun hc => ?_)
    · refine AW.skip ?_
      all_goals simp only [zs, reduceIte, Nat.reduceEqDiff, Nat.reduceLT, Nat.reduceLeDiff, Nat.reduceAdd, reduceCtorEq, Nat.reduceMul]
      all_goals apply_assumption
      have hc := of_decide_eq_true hc
      have hw2 : IntKind.i64.wrap ((i : Int) + j) = ((i + j : Nat) : Int) := by rw [wrap_small _ (by omega) (by omega)]; rfl
      have hu := half_u (i + j) (by omega)
      have hs := half_s (i + j)
      have hw3 : IntKind.i64.wrap (((i + j) / 2 : Nat) : Int) = (((i + j) / 2 : Nat) : Int) := wrap_small _ (by omega) (by omega)
      have hh1 : i ≤ (i + j) / 2 := by omega
      have hh2 : (i + j) / 2 < j := by omega
      generalize (i + j) / 2 = h at *
      refine AW.block ?_   -- 1
      refine AW.seq_k fun K7 h7 => ?_
      all_goals refine AW.reg0 ?_
      all_goals iterate 7 (refine S.g rfl rfl fun K' k' => ?_; simp only [zz, reduceIte, Nat.reduceEqDiff, Nat.reduceAdd, cv3_130, cv130_3, e10, e11, hw2, hu, hs, hw3, Int.reduceLE]; refine k' _ _ ?_; clear k' K')
      all_goals refine S.nil ?_
      all_goals simp only [ze, reduceIte, Nat.reduceEqDiff, Nat.reduceLT, Nat.reduceLeDiff, Nat.reduceAdd, reduceCtorEq, Nat.reduceMul, e10, e11, hw2, hu, hs, hw3, Int.reduceLE]
      all_goals apply_assumption
      have hpb : (hpB k l0).gr k = some ((42, 6), l0.map encBd) := by simp [hpB]
      have hj1 : h < l0.length := by omega
      have hj2 : a < l0.length := by omega
      obtain ⟨x, hx, hg1⟩ := get_bd hj1
      obtain ⟨y, hy, hg2⟩ := get_bd hj2
      have hw4 : IntKind.i64.wrap ((h : Int) + 1) = ((h + 1 : Nat) : Int) := by rw [wrap_small _ (by omega) (by omega)]; rfl
      generalize hsg : hpB k l0 = σ0 at hpb ⊢
      refine AW.seq_j (fun s' σ' => σ' = σ0 ∧ s'.t 0 = .gl k ∧ s'.t 1 = .c (.int .i64 a) ∧ s'.t 4 = .fn (.func 64) [] [] ∧ s'.t 10 = .c (.int .i64 (i : Nat)) ∧ s'.t 11 = .c (.int .i64 (j : Nat)) ∧ s'.t 12 = .c (.int .i64 (h : Nat)) ∧ ∃ b, s'.t 50 = .c (.bool b)) ?_ ?_
      · skip
        all_goals refine AW.draw2 (T := { sd := fun _ => false }) (fun _ _ h => by cases h) mixedO [(0, 0), (1, 0), (2, 0), (3, 0), (5, 0), (6, 0), (7, 0)] 4 8 [(9, 2), (10, 0)] #[true, true, true, true, false, true, true, true, false, false, false] rfl (by kernel_rfl) (by kernel_rfl) (by kernel_rfl) (by kernel_rfl) (by kernel_rfl) ?_
        all_goals iterate 7 (refine D.g rfl trivial rfl rfl fun K' k' => ?_; simp only [zz, reduceIte, Nat.reduceEqDiff, Nat.reduceLT, Nat.reduceLeDiff, Nat.reduceAdd, reduceCtorEq, Nat.reduceMul, sl22, el22, ok42, sz42, ag42, e0, e1, e4, hpb, hj1, hj2, hg1, hg2, encBd]; refine k' _ _ ?_; clear k' K')
        all_goals refine D.nil ⟨?_, ?_⟩
        all_goals iterate 2 (refine D.g rfl trivial rfl rfl fun K' k' => ?_; simp only [zz, reduceIte, Nat.reduceEqDiff, Nat.reduceLT, Nat.reduceLeDiff, Nat.reduceAdd, reduceCtorEq, Nat.reduceMul, ok42, sz42, ag42, e0, e1, e4, hpb, hj1, hj2, hg1, hg2, encBd]; refine k' _ _ ?_; clear k' K')
        all_goals (refine D.g rfl trivial rfl rfl fun K' k' => ?_; simp only [zz, reduceIte, Nat.reduceEqDiff, Nat.reduceLT, Nat.reduceLeDiff, Nat.reduceAdd, reduceCtorEq, Nat.reduceMul, e0, e1, e4, hpb, hj1, hj2, hg1, hg2, encBd]; refine PCalls.eqto (less_spec x y) ?_ <;> (refine k' _ _ ?_; clear k' K'))
        all_goals (refine D.g rfl trivial rfl rfl fun K' k' => ?_; simp only [zz, reduceIte, Nat.reduceEqDiff, Nat.reduceAdd, e0, e1, e4, hpb, hj1, hj2, hg1, hg2, encBd]; refine k' _ _ ?_; clear k' K')
        all_goals refine D.nil ?_
        all_goals simp only [ze, reduceIte, Nat.reduceEqDiff, Nat.reduceLT, Nat.reduceLeDiff, Nat.reduceAdd, reduceCtorEq, Nat.reduceMul, e0, e1, e4, hpb, hj1, hj2, hg1, hg2, encBd]
        all_goals exact ⟨e10, e11, _, rfl⟩
      rintro s3 σ3 ⟨rfl, g0, g1, g4, g10, g11, g12, b2, g50⟩
      refine AW.cond (b := b2) g50 (fun hd => ?_) (fun hd => ?_)
      · skip
        all_goals refine AW.reg0 ?_
        all_goals iterate 3 (refine S.g rfl rfl fun K' k' => ?_; simp only [zz, reduceIte, Nat.reduceEqDiff, Nat.reduceAdd, g12, hw4]; refine k' _ _ ?_; clear k' K')
        all_goals refine S.nil ?_
        all_goals simp only [ze, reduceIte, Nat.reduceEqDiff, Nat.reduceLT, Nat.reduceLeDiff, Nat.reduceAdd, reduceCtorEq, Nat.reduceMul, g12, hw4]
        exact ⟨j - (h + 1), by omega, h + 1, j, rfl, by omega, by omega, hj, g0, g1, g4, rfl, g11⟩
      · skip
        all_goals refine AW.reg0 ?_
        all_goals iterate 2 (refine S.g rfl rfl fun K' k' => ?_; simp only [zz, reduceIte, Nat.reduceEqDiff, Nat.reduceAdd, g12]; refine k' _ _ ?_; clear k' K')
        all_goals refine S.nil ?_
        all_goals simp only [ze, reduceIte, Nat.reduceEqDiff, Nat.reduceLT, Nat.reduceLeDiff, Nat.reduceAdd, reduceCtorEq, Nat.reduceMul, g12]
        exact ⟨h - i, by omega, i, h, rfl, by omega, by omega, by omega, g0, g1, g4, g10, rfl⟩
    · refine AW.exit ?_
      all_goals simp only [zs, reduceIte, Nat.reduceEqDiff, Nat.reduceLT, Nat.reduceLeDiff, Nat.reduceAdd, reduceCtorEq, Nat.reduceMul]
      have hc := of_decide_eq_false hc
      exact ⟨i, l0, hi, by omega, e0, e1, e10, rfl, Sub.refl _⟩
  rintro s1 σ1 ⟨i, l1, hi, hib, f0, f1, f10, rfl, hs1⟩
  refine AW.seq_k fun K8 h8 => ?_
  refine AW.seq_k fun K9 h9 => ?_
  all_goals refine AW.reg0 ?_
  all_goals iterate 2 (refine S.g rfl rfl fun K' k' => ?_; simp only [zz, reduceIte, Nat.reduceEqDiff, Nat.reduceAdd, f1]; refine k' _ _ ?_; clear k' K')
  all_goals refine S.nil ?_
  all_goals simp only [ze, reduceIte, Nat.reduceEqDiff, Nat.reduceLT, Nat.reduceLeDiff, Nat.reduceAdd, reduceCtorEq, Nat.reduceMul, f1]
  all_goals apply_assumption
  have hw5 : IntKind.i64.wrap ((i : Int) - 1) = ((i - 1 : Nat) : Int) := by rw [wrap_small _ (by omega) (by omega)]; omega
  refine AW.block ?_   -- 2
  refine AW.loop (fun m s σ => ∃ q l', m + q = i - 1 ∧ a ≤ q ∧ s.t 0 = .gl k ∧ s.t 10 = .c (.int .i64 (i : Nat)) ∧ s.t 13 = .c (.int .i64 (q : Nat)) ∧ σ = hpB k l' ∧ Sub l0 l') (i - 1 - a) ?_ ?_
  · refine ⟨a, l1, by omega, by omega, ?_⟩
    all_goals simp only [zs, reduceIte, Nat.reduceEqDiff, Nat.reduceLT, Nat.reduceLeDiff, Nat.reduceAdd, reduceCtorEq, Nat.reduceMul]
    exact ⟨f0, f10, hs1⟩
  rintro m s σ ⟨q, l', hm, hq, e0, e10, e13, rfl, hs⟩
  refine AW.seq_k fun K10 h10 => ?_
  refine AW.seq_k fun K11 h11 => ?_
  all_goals refine AW.reg0 ?_
  all_goals iterate 4 (refine S.g rfl rfl fun K' k' => ?_; simp only [zz, reduceIte, Nat.reduceEqDiff, Nat.reduceAdd, e10, e13, hw5]; refine k' _ _ ?_; clear k' K')
  all_goals refine S.nil ?_
  all_goals simp only [ze, reduceIte, Nat.reduceEqDiff, Nat.reduceLT, Nat.reduceLeDiff, Nat.reduceAdd, reduceCtorEq, Nat.reduceMul, e10, e13, hw5]
  all_goals apply_assumption
  refine AW.cond (b := decide (q < i - 1)) (by simp [ev]) (fun hc => ?_) (fun hc => ?_)
  · refine AW.skip ?_
    all_goals simp only [zs, reduceIte, Nat.reduceEqDiff, Nat.reduceLT, Nat.reduceLeDiff, Nat.reduceAdd, reduceCtorEq, Nat.reduceMul]
    all_goals apply_assumption
    have hc := of_decide_eq_true hc
    have hw : IntKind.i64.wrap ((q : Int) + 1) = ((q + 1 : Nat) : Int) := by rw [wrap_small _ (by omega) (by omega)]; rfl
    have hl1 := hs.1
    have hj1 : q < l'.length := by omega
    have hj2 : q + 1 < l'.length := by omega
    obtain ⟨x, hx, hg1⟩ := get_bd hj1
    obtain ⟨y, hy, hg2⟩ := get_bd hj2
    have hsub := hs.swap hx hy
    have hgs : ∀ v, ((l'.map encBd).set q v).getD (q + 1) [] = encBd y := fun v => by
      rw [← hg2]; simp [List.getD, List.getElem?_set]
    have hpb : hpB k l' = Hp.empty.setGr k (some ((42, 6), l'.map encBd)) := rfl
    rw [hpb]
    refine AW.seq_k fun K12 h12 => ?_
    refine AW.block ?_   -- 3
    refine AW.mono (Q := thenS (fun s' σ' => σ' = hpB k ((l'.set q y).set (q + 1) x) ∧ s'.t 0 = .gl k ∧ s'.t 10 = .c (.int .i64 (i : Nat)) ∧ s'.t 13 = .c (.int .i64 (q : Nat))) (fun _ _ _ => False)) ?_ ?_
    · skip
      all_goals refine AW.draw2 (T := { sd := fun _ => false }) (fun _ _ h => by cases h) mixedO [(0, 0), (1, 0), (2, 0), (3, 0), (4, 0), (5, 0), (6, 0), (7, 0), (8, 0), (10, 0), (11, 0), (12, 0)] 9 13 [(14, 0), (15, 2), (16, 0), (17, 2)] #[true, true, true, true, true, true, true, true, true, false, true, true, true, false, false, false, false, false] rfl (by kernel_rfl) (by kernel_rfl) (by kernel_rfl) (by kernel_rfl) (by kernel_rfl) ?_
      all_goals iterate 12 (refine D.g rfl trivial rfl rfl fun K' k' => ?_; simp only [zz, reduceIte, Nat.reduceEqDiff, Nat.reduceLT, Nat.reduceLeDiff, Nat.reduceAdd, reduceCtorEq, Nat.reduceMul, sl22, el22, ok42, sz42, ag42, e0, e10, e13, hj1, hj2, hg1, hg2, hgs, hw, encBd, List.length_set]; refine k' _ _ ?_; clear k' K')
      all_goals refine D.nil ⟨?_, ?_⟩
      all_goals iterate 6 (refine D.g rfl trivial rfl rfl fun K' k' => ?_; simp only [zz, reduceIte, Nat.reduceEqDiff, Nat.reduceLT, Nat.reduceLeDiff, Nat.reduceAdd, reduceCtorEq, Nat.reduceMul, ok42, sz42, ag42, sl22, el22, e0, e10, e13, hj1, hj2, hg1, hg2, hgs, hw, encBd, List.length_set]; refine k' _ _ ?_; clear k' K')
      all_goals refine D.nil ?_
      all_goals simp only [ze, reduceIte, Nat.reduceEqDiff, Nat.reduceLT, Nat.reduceLeDiff, Nat.reduceAdd, reduceCtorEq, Nat.reduceMul, e0, e10, e13, hj1, hj2, hg1, hg2, hgs, hw, encBd, List.length_set]
      all_goals simp [hpB, encBd, List.map_set]
    rintro e s4 σ4 hq
    cases e with
    | normal =>
      obtain ⟨rfl, q0, q10, q13⟩ := hq
      all_goals simp only [zs, reduceIte, Nat.reduceEqDiff, Nat.reduceLT, Nat.reduceLeDiff, Nat.reduceAdd, reduceCtorEq, Nat.reduceMul]
      all_goals apply_assumption
      all_goals refine AW.reg0 ?_
      all_goals iterate 3 (refine S.g rfl rfl fun K' k' => ?_; simp only [zz, reduceIte, Nat.reduceEqDiff, Nat.reduceAdd, q13, hw]; refine k' _ _ ?_; clear k' K')
      all_goals refine S.nil ?_
      all_goals simp only [ze, reduceIte, Nat.reduceEqDiff, Nat.reduceLT, Nat.reduceLeDiff, Nat.reduceAdd, reduceCtorEq, Nat.reduceMul, q13, hw]
      exact ⟨m - 1, by omega, q + 1, _, by omega, by omega, q0, q10, rfl, rfl, hsub⟩
    | _ => exact hq.elim
  · refine AW.exit ?_
    all_goals simp only [zs, reduceIte, Nat.reduceEqDiff, Nat.reduceLT, Nat.reduceLeDiff, Nat.reduceAdd, reduceCtorEq, Nat.reduceMul]
    all_goals apply_assumption
    refine AW.ret ?_
    all_goals simp only [zs, reduceIte, Nat.reduceEqDiff, Nat.reduceLT, Nat.reduceLeDiff, Nat.reduceAdd, reduceCtorEq, Nat.reduceMul]
    exact ⟨rfl, l', hs, rfl⟩
end Go.Abs.M
namespace Go.Abs.M
open Go Go.Abs Go.Proofs
set_option maxRecDepth 20000
set_option linter.unusedSimpArgs false
set_option linter.unusedVariables false
theorem sym_two (l0 : List Bd) (k a m0 b : Nat) (ham : a + 1 < m0) (hmb : m0 + 1 = b) (hb : b ≤ l0.length) (hn : l0.length < 2147483648) :
    ACalls Try.prog 129 [.gl k, .c (.int .i64 a), .c (.int .i64 m0), .c (.int .i64 b), .fn (.func 64) [] []] (hpB k l0) (hpS k l0) := by
  refine ACalls.intro Try.call129 Try.func129 rfl Try.ntmps129 Try.results129 (by simp) ?_
  have hw1 : IntKind.i64.wrap ((m0 : Int) - a) = ((m0 - a : Nat) : Int) := by rw [wrap_small _ (by omega) (by omega)]; omega
  have hw2 : IntKind.i64.wrap ((b : Int) - m0) = 1 := by rw [wrap_small _ (by omega) (by omega)]; omega
  have h1 : (((m0 - a : Nat) : Int) == 1) = false := by simp; omega
  refine AW.seq_k fun K1 h1 => ?_
  refine AW.seq_k fun K2 h2 => ?_
  all_goals refine AW.reg0 ?_
  all_goals iterate 4 (refine S.g rfl rfl fun K' k' => ?_; simp only [zz, reduceIte, Nat.reduceEqDiff, Nat.reduceAdd, hw1, h1]; refine k' _ _ ?_; clear k' K')
  all_goals refine S.nil ?_
  all_goals simp only [ze, reduceIte, Nat.reduceEqDiff, Nat.reduceLT, Nat.reduceLeDiff, Nat.reduceAdd, reduceCtorEq, Nat.reduceMul, hw1, h1]
  all_goals apply_assumption
  refine AW.cond (b := false) (by simp [ev]; try omega) (fun hc => by cases hc) (fun hc => AW.skip ?_)
  all_goals simp only [zs, reduceIte, Nat.reduceEqDiff, Nat.reduceLT, Nat.reduceLeDiff, Nat.reduceAdd, reduceCtorEq, Nat.reduceMul]
  all_goals apply_assumption
  refine AW.seq_k fun K3 h3 => ?_
  refine AW.seq_k fun K4 h4 => ?_
  all_goals refine AW.reg0 ?_
  all_goals iterate 4 (refine S.g rfl rfl fun K' k' => ?_; simp only [zz, reduceIte, Nat.reduceEqDiff, Nat.reduceAdd, hw2]; refine k' _ _ ?_; clear k' K')
  all_goals refine S.nil ?_
  all_goals simp only [ze, reduceIte, Nat.reduceEqDiff, Nat.reduceLT, Nat.reduceLeDiff, Nat.reduceAdd, reduceCtorEq, Nat.reduceMul, hw2]
  all_goals apply_assumption
  refine AW.cond (b := true) (by simp [ev]) (fun hc => ?_) (fun hc => by cases hc)
  refine AW.seq_k fun K5 h5 => ?_
  all_goals refine AW.reg0 ?_
  all_goals iterate 2 (refine S.g rfl rfl fun K' k' => ?_; simp only [zz, reduceIte, Nat.reduceEqDiff, Nat.reduceAdd]; refine k' _ _ ?_; clear k' K')
  all_goals refine S.nil ?_
  all_goals simp only [ze, reduceIte, Nat.reduceEqDiff, Nat.reduceLT, Nat.reduceLeDiff, Nat.reduceAdd, reduceCtorEq, Nat.reduceMul]
  all_goals apply_assumption
  refine AW.seq_k fun K6 h6 => ?_
  all_goals refine AW.reg0 ?_
  all_goals iterate 2 (refine S.g rfl rfl fun K' k' => ?_; simp only [zz, reduceIte, Nat.reduceEqDiff, Nat.reduceAdd]; refine k' _ _ ?_; clear k' K')
  all_goals refine S.nil ?_
  all_goals simp only [ze, reduceIte, Nat.reduceEqDiff, Nat.reduceLT, Nat.reduceLeDiff, Nat.reduceAdd, reduceCtorEq, Nat.reduceMul]
  all_goals apply_assumption
  refine AW.seq_j (fun s σ => ∃ i l', a ≤ i ∧ i ≤ m0 ∧ s.t 0 = .gl k ∧ s.t 2 = .c (.int .i64 m0) ∧ s.t 14 = .c (.int .i64 (i : Nat)) ∧ σ = hpB k l' ∧ Sub l0 l') ?_ ?_
  · refine AW.block ?_   -- 0
    refine AW.loop (fun m s σ => ∃ i j, m = j - i ∧ a ≤ i ∧ i ≤ j ∧ j ≤ m0 ∧ s.t 0 = .gl k ∧ s.t 2 = .c (.int .i64 m0) ∧ s.t 4 = .fn (.func 64) [] [] ∧ s.t 14 = .c (.int .i64 (i : Nat)) ∧ s.t 15 = .c (.int .i64 (j : Nat)) ∧ σ = hpB k l0) (m0 - a) ?_ ?_
    · refine ⟨a, m0, rfl, by omega, by omega, by omega, ?_⟩
      all_goals simp only [zs, reduceIte, Nat.reduceEqDiff, Nat.reduceLT, Nat.reduceLeDiff, Nat.reduceAdd, reduceCtorEq, Nat.reduceMul]
    rintro m s σ ⟨i, j, hm, hi, hij, hj, e0, e2, e4, e10, e11, rfl⟩
    refine AW.seq_k fun K7 h7 => ?_
    refine AW.seq_k fun K8 h8 => ?_
    all_goals refine AW.reg0 ?_
    all_goals iterate 3 (refine S.g rfl rfl fun K' k' => ?_; simp only [zz, reduceIte, Nat.reduceEqDiff, Nat.reduceAdd, e10, e11]; refine k' _ _ ?_; clear k' K')
    all_goals refine S.nil ?_
    all_goals simp only [ze, reduceIte, Nat.reduceEqDiff, Nat.reduceLT, Nat.reduceLeDiff, Nat.reduceAdd, reduceCtorEq, Nat.reduceMul, e10, e11]
    all_goals apply_assumption
    refine AW.cond (b := decide (i < j)) (by simp [ev]) (fun hc => ?_) (fun hc => ?_)
    · refine AW.skip ?_
      all_goals simp only [zs, reduceIte, Nat.reduceEqDiff, Nat.reduceLT, Nat.reduceLeDiff, Nat.reduceAdd, reduceCtorEq, Nat.reduceMul]
      all_goals apply_assumption
      have hc := of_decide_eq_true hc
      have hw2 : IntKind.i64.wrap ((i : Int) + j) = ((i + j : Nat) : Int) := by rw [wrap_small _ (by omega) (by omega)]; rfl
      have hu := half_u (i + j) (by omega)
      have hs := half_s (i + j)
      have hw3 : IntKind.i64.wrap (((i + j) / 2 : Nat) : Int) = (((i + j) / 2 : Nat) : Int) := wrap_small _ (by omega) (by omega)
      have hh1 : i ≤ (i + j) / 2 := by omega
      have hh2 : (i + j) / 2 < j := by omega
      generalize (i + j) / 2 = h at *
      refine AW.block ?_   -- 1
      refine AW.seq_k fun K9 h9 => ?_
      all_goals refine AW.reg0 ?_
      all_goals iterate 7 (refine S.g rfl rfl fun K' k' => ?_; simp only [zz, reduceIte, Nat.reduceEqDiff, Nat.reduceAdd, cv3_130, cv130_3, e10, e11, hw2, hu, hs, hw3, Int.reduceLE]; refine k' _ _ ?_; clear k' K')
      all_goals refine S.nil ?_
      all_goals simp only [ze, reduceIte, Nat.reduceEqDiff, Nat.reduceLT, Nat.reduceLeDiff, Nat.reduceAdd, reduceCtorEq, Nat.reduceMul, e10, e11, hw2, hu, hs, hw3, Int.reduceLE]
      all_goals apply_assumption
      have hpb : (hpB k l0).gr k = some ((42, 6), l0.map encBd) := by simp [hpB]
      have hj1 : m0 < l0.length := by omega
      have hj2 : h < l0.length := by omega
      obtain ⟨x, hx, hg1⟩ := get_bd hj1
      obtain ⟨y, hy, hg2⟩ := get_bd hj2
      have hw4 : IntKind.i64.wrap ((h : Int) + 1) = ((h + 1 : Nat) : Int) := by rw [wrap_small _ (by omega) (by omega)]; rfl
      generalize hsg : hpB k l0 = σ0 at hpb ⊢
      refine AW.seq_j (fun s' σ' => σ' = σ0 ∧ s'.t 0 = .gl k ∧ s'.t 2 = .c (.int .i64 m0) ∧ s'.t 4 = .fn (.func 64) [] [] ∧ s'.t 14 = .c (.int .i64 (i : Nat)) ∧ s'.t 15 = .c (.int .i64 (j : Nat)) ∧ s'.t 16 = .c (.int .i64 (h : Nat)) ∧ ∃ b, s'.t 103 = .c (.bool b)) ?_ ?_
      · skip
        all_goals refine AW.draw2 (T := { sd := fun _ => false }) (fun _ _ h => by cases h) mixedO [(0, 0), (1, 0), (2, 0), (3, 0), (5, 0), (6, 0), (7, 0)] 4 8 [(9, 2), (10, 0), (11, 0)] #[true, true, true, true, false, true, true, true, false, false, false, false] rfl (by kernel_rfl) (by kernel_rfl) (by kernel_rfl) (by kernel_rfl) (by kernel_rfl) ?_
        all_goals iterate 7 (refine D.g rfl trivial rfl rfl fun K' k' => ?_; simp only [zz, reduceIte, Nat.reduceEqDiff, Nat.reduceLT, Nat.reduceLeDiff, Nat.reduceAdd, reduceCtorEq, Nat.reduceMul, sl22, el22, ok42, sz42, ag42, e0, e2, e4, hpb, hj1, hj2, hg1, hg2, encBd]; refine k' _ _ ?_; clear k' K')
        all_goals refine D.nil ⟨?_, ?_⟩
        all_goals iterate 2 (refine D.g rfl trivial rfl rfl fun K' k' => ?_; simp only [zz, reduceIte, Nat.reduceEqDiff, Nat.reduceLT, Nat.reduceLeDiff, Nat.reduceAdd, reduceCtorEq, Nat.reduceMul, ok42, sz42, ag42, e0, e2, e4, hpb, hj1, hj2, hg1, hg2, encBd]; refine k' _ _ ?_; clear k' K')
        all_goals (refine D.g rfl trivial rfl rfl fun K' k' => ?_; simp only [zz, reduceIte, Nat.reduceEqDiff, Nat.reduceLT, Nat.reduceLeDiff, Nat.reduceAdd, reduceCtorEq, Nat.reduceMul, e0, e2, e4, hpb, hj1, hj2, hg1, hg2, encBd]; refine PCalls.eqto (less_spec x y) ?_ <;> (refine k' _ _ ?_; clear k' K'))
        all_goals iterate 2 (refine D.g rfl trivial rfl rfl fun K' k' => ?_; simp only [zz, reduceIte, Nat.reduceEqDiff, Nat.reduceAdd, e0, e2, e4, hpb, hj1, hj2, hg1, hg2, encBd]; refine k' _ _ ?_; clear k' K')
        all_goals refine D.nil ?_
        all_goals simp only [ze, reduceIte, Nat.reduceEqDiff, Nat.reduceLT, Nat.reduceLeDiff, Nat.reduceAdd, reduceCtorEq, Nat.reduceMul, e0, e2, e4, hpb, hj1, hj2, hg1, hg2, encBd]
        all_goals exact ⟨e10, e11, _, rfl⟩
      rintro s3 σ3 ⟨rfl, g0, g2, g4, g10, g11, g12, b2, g50⟩
      refine AW.cond (b := b2) g50 (fun hd => ?_) (fun hd => ?_)
      · skip
        all_goals refine AW.reg0 ?_
        all_goals iterate 3 (refine S.g rfl rfl fun K' k' => ?_; simp only [zz, reduceIte, Nat.reduceEqDiff, Nat.reduceAdd, g12, hw4]; refine k' _ _ ?_; clear k' K')
        all_goals refine S.nil ?_
        all_goals simp only [ze, reduceIte, Nat.reduceEqDiff, Nat.reduceLT, Nat.reduceLeDiff, Nat.reduceAdd, reduceCtorEq, Nat.reduceMul, g12, hw4]
        exact ⟨j - (h + 1), by omega, h + 1, j, rfl, by omega, by omega, hj, g0, g2, g4, rfl, g11⟩
      · skip
        all_goals refine AW.reg0 ?_
        all_goals iterate 2 (refine S.g rfl rfl fun K' k' => ?_; simp only [zz, reduceIte, Nat.reduceEqDiff, Nat.reduceAdd, g12]; refine k' _ _ ?_; clear k' K')
        all_goals refine S.nil ?_
        all_goals simp only [ze, reduceIte, Nat.reduceEqDiff, Nat.reduceLT, Nat.reduceLeDiff, Nat.reduceAdd, reduceCtorEq, Nat.reduceMul, g12]
        exact ⟨h - i, by omega, i, h, rfl, by omega, by omega, by omega, g0, g2, g4, g10, rfl⟩
    · refine AW.exit ?_
      all_goals simp only [zs, reduceIte, Nat.reduceEqDiff, Nat.reduceLT, Nat.reduceLeDiff, Nat.reduceAdd, reduceCtorEq, Nat.reduceMul]
      have hc := of_decide_eq_false hc
      exact ⟨i, l0, hi, by omega, e0, e2, e10, rfl, Sub.refl _⟩
  rintro s1 σ1 ⟨i, l1, hi, hib, f0, f2, f10, rfl, hs1⟩
  refine AW.seq_k fun K10 h10 => ?_
  refine AW.seq_k fun K11 h11 => ?_
  all_goals refine AW.reg0 ?_
  all_goals iterate 2 (refine S.g rfl rfl fun K' k' => ?_; simp only [zz, reduceIte, Nat.reduceEqDiff, Nat.reduceAdd, f2]; refine k' _ _ ?_; clear k' K')
  all_goals refine S.nil ?_
  all_goals simp only [ze, reduceIte, Nat.reduceEqDiff, Nat.reduceLT, Nat.reduceLeDiff, Nat.reduceAdd, reduceCtorEq, Nat.reduceMul, f2]
  all_goals apply_assumption
  refine AW.block ?_   -- 2
  refine AW.loop (fun m s σ => ∃ q l', m = q ∧ i ≤ q ∧ q ≤ m0 ∧ s.t 0 = .gl k ∧ s.t 14 = .c (.int .i64 (i : Nat)) ∧ s.t 17 = .c (.int .i64 (q : Nat)) ∧ σ = hpB k l' ∧ Sub l0 l') m0 ?_ ?_
  · refine ⟨m0, l1, rfl, by omega, by omega, ?_⟩
    all_goals simp only [zs, reduceIte, Nat.reduceEqDiff, Nat.reduceLT, Nat.reduceLeDiff, Nat.reduceAdd, reduceCtorEq, Nat.reduceMul]
    exact ⟨f0, f10, hs1⟩
  rintro m s σ ⟨q, l', rfl, hq1, hq2, e0, e10, e13, rfl, hs⟩
  refine AW.seq_k fun K12 h12 => ?_
  refine AW.seq_k fun K13 h13 => ?_
  all_goals refine AW.reg0 ?_
  all_goals iterate 3 (refine S.g rfl rfl fun K' k' => ?_; simp only [zz, reduceIte, Nat.reduceEqDiff, Nat.reduceAdd, e10, e13]; refine k' _ _ ?_; clear k' K')
  all_goals refine S.nil ?_
  all_goals simp only [ze, reduceIte, Nat.reduceEqDiff, Nat.reduceLT, Nat.reduceLeDiff, Nat.reduceAdd, reduceCtorEq, Nat.reduceMul, e10, e13]
  all_goals apply_assumption
  refine AW.cond (b := decide ((m : Int) > i)) (by simp [ev]) (fun hc => ?_) (fun hc => ?_)
  · refine AW.skip ?_
    all_goals simp only [zs, reduceIte, Nat.reduceEqDiff, Nat.reduceLT, Nat.reduceLeDiff, Nat.reduceAdd, reduceCtorEq, Nat.reduceMul]
    all_goals apply_assumption
    have hc := of_decide_eq_true hc
    have hw : IntKind.i64.wrap ((m : Int) - 1) = ((m - 1 : Nat) : Int) := by rw [wrap_small _ (by omega) (by omega)]; omega
    have hl1 := hs.1
    have hj1 : m < l'.length := by omega
    have hj2 : m - 1 < l'.length := by omega
    obtain ⟨x, hx, hg1⟩ := get_bd hj1
    obtain ⟨y, hy, hg2⟩ := get_bd hj2
    have hsub := hs.swap hx hy
    have hgs : ∀ v, ((l'.map encBd).set m v).getD (m - 1) [] = encBd y := fun v => by
      rw [← hg2]; simp [List.getD, List.getElem?_set, show m ≠ m - 1 by omega]
    have hpb : hpB k l' = Hp.empty.setGr k (some ((42, 6), l'.map encBd)) := rfl
    rw [hpb]
    refine AW.seq_k fun K14 h14 => ?_
    refine AW.block ?_   -- 3
    refine AW.mono (Q := thenS (fun s' σ' => σ' = hpB k ((l'.set m y).set (m - 1) x) ∧ s'.t 0 = .gl k ∧ s'.t 14 = .c (.int .i64 (i : Nat)) ∧ s'.t 17 = .c (.int .i64 (m : Nat))) (fun _ _ _ => False)) ?_ ?_
    · skip
      all_goals refine AW.draw2 (T := { sd := fun _ => false }) (fun _ _ h => by cases h) mixedO [(0, 0), (1, 0), (2, 0), (3, 0), (4, 0), (5, 0), (6, 0), (7, 0), (8, 0), (10, 0), (11, 0), (12, 0)] 9 13 [(14, 0), (15, 2), (16, 0), (17, 2)] #[true, true, true, true, true, true, true, true, true, false, true, true, true, false, false, false, false, false] rfl (by kernel_rfl) (by kernel_rfl) (by kernel_rfl) (by kernel_rfl) (by kernel_rfl) ?_
      all_goals iterate 12 (refine D.g rfl trivial rfl rfl fun K' k' => ?_; simp only [zz, reduceIte, Nat.reduceEqDiff, Nat.reduceLT, Nat.reduceLeDiff, Nat.reduceAdd, reduceCtorEq, Nat.reduceMul, sl22, el22, ok42, sz42, ag42, e0, e10, e13, hj1, hj2, hg1, hg2, hgs, hw, encBd, List.length_set]; refine k' _ _ ?_; clear k' K')
      all_goals refine D.nil ⟨?_, ?_⟩
      all_goals iterate 6 (refine D.g rfl trivial rfl rfl fun K' k' => ?_; simp only [zz, reduceIte, Nat.reduceEqDiff, Nat.reduceLT, Nat.reduceLeDiff, Nat.reduceAdd, reduceCtorEq, Nat.reduceMul, ok42, sz42, ag42, sl22, el22, e0, e10, e13, hj1, hj2, hg1, hg2, hgs, hw, encBd, List.length_set]; refine k' _ _ ?_; clear k' K')
      all_goals refine D.nil ?_
      all_goals simp only [ze, reduceIte, Nat.reduceEqDiff, Nat.reduceLT, Nat.reduceLeDiff, Nat.reduceAdd, reduceCtorEq, Nat.reduceMul, e0, e10, e13, hj1, hj2, hg1, hg2, hgs, hw, encBd, List.length_set]
      all_goals simp [hpB, encBd, List.map_set]
    rintro e s4 σ4 hq
    cases e with
    | normal =>
      obtain ⟨rfl, q0, q10, q13⟩ := hq
      all_goals simp only [zs, reduceIte, Nat.reduceEqDiff, Nat.reduceLT, Nat.reduceLeDiff, Nat.reduceAdd, reduceCtorEq, Nat.reduceMul]
      all_goals apply_assumption
      all_goals refine AW.reg0 ?_
      all_goals iterate 3 (refine S.g rfl rfl fun K' k' => ?_; simp only [zz, reduceIte, Nat.reduceEqDiff, Nat.reduceAdd, q13, hw]; refine k' _ _ ?_; clear k' K')
      all_goals refine S.nil ?_
      all_goals simp only [ze, reduceIte, Nat.reduceEqDiff, Nat.reduceLT, Nat.reduceLeDiff, Nat.reduceAdd, reduceCtorEq, Nat.reduceMul, q13, hw]
      exact ⟨m - 1, by omega, m - 1, _, rfl, by omega, by omega, q0, q10, rfl, rfl, hsub⟩
    | _ => exact hq.elim
  · refine AW.exit ?_
    all_goals simp only [zs, reduceIte, Nat.reduceEqDiff, Nat.reduceLT, Nat.reduceLeDiff, Nat.reduceAdd, reduceCtorEq, Nat.reduceMul]
    all_goals apply_assumption
    refine AW.ret ?_
    all_goals simp only [zs, reduceIte, Nat.reduceEqDiff, Nat.reduceLT, Nat.reduceLeDiff, Nat.reduceAdd, reduceCtorEq, Nat.reduceMul]
    exact ⟨rfl, l', hs, rfl⟩
theorem sym_weak (k : Nat) : ∀ (d : Nat) (l0 : List Bd) (a m0 b : Nat), b - a ≤ d → a < m0 → m0 < b → b ≤ l0.length → l0.length < 2147483648 →
    ACalls Try.prog 129 [.gl k, .c (.int .i64 a), .c (.int .i64 m0), .c (.int .i64 b), .fn (.func 64) [] []] (hpB k l0) (hpS k l0) := by
  intro d
  induction d with
  | zero => intro l0 a m0 b hd h1 h2; omega
  | succ d ih =>
  intro l0 a m0 b hd ham hmb hb hn
  by_cases hA : a + 1 = m0
  · exact sym_one l0 k a m0 b hA hmb hb hn
  by_cases hB : m0 + 1 = b
  · exact sym_two l0 k a m0 b (by omega) hB hb hn
  refine ACalls.intro Try.call129 Try.func129 rfl Try.ntmps129 Try.results129 (by simp) ?_
  have hw1 : IntKind.i64.wrap ((m0 : Int) - a) = ((m0 - a : Nat) : Int) := by rw [wrap_small _ (by omega) (by omega)]; omega
  have hw2 : IntKind.i64.wrap ((b : Int) - m0) = ((b - m0 : Nat) : Int) := by rw [wrap_small _ (by omega) (by omega)]; omega
  have h1 : (((m0 - a : Nat) : Int) == 1) = false := by simp; omega
  have h2 : (((b - m0 : Nat) : Int) == 1) = false := by simp; omega
  have hw4 : IntKind.i64.wrap ((a : Int) + b) = ((a + b : Nat) : Int) := by rw [wrap_small _ (by omega) (by omega)]; rfl
  have hu := half_u (a + b) (by omega)
  have hs := half_s (a + b)
  have hw5 : IntKind.i64.wrap (((a + b) / 2 : Nat) : Int) = (((a + b) / 2 : Nat) : Int) := wrap_small _ (by omega) (by omega)
  have hm1 : a + b ≤ 2 * ((a + b) / 2) + 1 := by omega
  have hm2 : 2 * ((a + b) / 2) ≤ a + b := by omega
  generalize (a + b) / 2 = mid at *
  have hw6 : IntKind.i64.wrap ((mid : Int) + m0) = ((mid + m0 : Nat) : Int) := by rw [wrap_small _ (by omega) (by omega)]; rfl
  obtain ⟨n, hnn⟩ : ∃ n, n = mid + m0 := ⟨_, rfl⟩
  rw [← hnn] at hw6
  have hw7 : IntKind.i64.wrap ((n : Int) - 1) = ((n - 1 : Nat) : Int) := by rw [wrap_small _ (by omega) (by omega)]; omega
  refine AW.seq_k fun K1 h1 => ?_
  refine AW.seq_k fun K2 h2 => ?_
  all_goals refine AW.reg0 ?_
  all_goals iterate 4 (refine S.g rfl rfl fun K' k' => ?_; simp only [zz, reduceIte, Nat.reduceEqDiff, Nat.reduceAdd, hw1, h1]; refine k' _ _ ?_; clear k' K')
  all_goals refine S.nil ?_
  all_goals simp only [ze, reduceIte, Nat.reduceEqDiff, Nat.reduceLT, Nat.reduceLeDiff, Nat.reduceAdd, reduceCtorEq, Nat.reduceMul, hw1, h1]
  all_goals apply_assumption
  refine AW.cond (b := false) (by simp [ev]; try omega) (fun hc => by cases hc) (fun hc => AW.skip ?_)
  all_goals simp only [zs, reduceIte, Nat.reduceEqDiff, Nat.reduceLT, Nat.reduceLeDiff, Nat.reduceAdd, reduceCtorEq, Nat.reduceMul]
  all_goals apply_assumption
  refine AW.seq_k fun K3 h3 => ?_
  refine AW.seq_k fun K4 h4 => ?_
  all_goals refine AW.reg0 ?_
  all_goals iterate 4 (refine S.g rfl rfl fun K' k' => ?_; simp only [zz, reduceIte, Nat.reduceEqDiff, Nat.reduceAdd, hw2, h2]; refine k' _ _ ?_; clear k' K')
  all_goals refine S.nil ?_
  all_goals simp only [ze, reduceIte, Nat.reduceEqDiff, Nat.reduceLT, Nat.reduceLeDiff, Nat.reduceAdd, reduceCtorEq, Nat.reduceMul, hw2, h2]
  all_goals apply_assumption
  refine AW.cond (b := false) (by simp [ev]; try omega) (fun hc => by cases hc) (fun hc => AW.skip ?_)
  all_goals simp only [zs, reduceIte, Nat.reduceEqDiff, Nat.reduceLT, Nat.reduceLeDiff, Nat.reduceAdd, reduceCtorEq, Nat.reduceMul]
  all_goals apply_assumption
  refine AW.seq_k fun K5 h5 => ?_
  all_goals refine AW.reg0 ?_
  all_goals iterate 7 (refine S.g rfl rfl fun K' k' => ?_; simp only [zz, reduceIte, Nat.reduceEqDiff, Nat.reduceAdd, cv3_130, cv130_3, hw4, hu, hs, hw5, Int.reduceLE]; refine k' _ _ ?_; clear k' K')
  all_goals refine S.nil ?_
  all_goals simp only [ze, reduceIte, Nat.reduceEqDiff, Nat.reduceLT, Nat.reduceLeDiff, Nat.reduceAdd, reduceCtorEq, Nat.reduceMul, hw4, hu, hs, hw5, Int.reduceLE]
  all_goals apply_assumption
  refine AW.seq_k fun K6 h6 => ?_
  all_goals refine AW.reg0 ?_
  all_goals iterate 4 (refine S.g rfl rfl fun K' k' => ?_; simp only [zz, reduceIte, Nat.reduceEqDiff, Nat.reduceAdd, hw6]; refine k' _ _ ?_; clear k' K')
  all_goals refine S.nil ?_
  all_goals simp only [ze, reduceIte, Nat.reduceEqDiff, Nat.reduceLT, Nat.reduceLeDiff, Nat.reduceAdd, reduceCtorEq, Nat.reduceMul, hw6]
  all_goals apply_assumption
  refine AW.seq_k fun K7 h7 => ?_
  all_goals refine AW.reg0 ?_
  all_goals iterate 2 (refine S.g rfl rfl fun K' k' => ?_; simp only [zz, reduceIte, Nat.reduceEqDiff, Nat.reduceAdd]; refine k' _ _ ?_; clear k' K')
  all_goals refine S.nil ?_
  all_goals simp only [ze, reduceIte, Nat.reduceEqDiff, Nat.reduceLT, Nat.reduceLeDiff, Nat.reduceAdd, reduceCtorEq, Nat.reduceMul]
  all_goals apply_assumption
  refine AW.seq_j (fun s σ => ∃ st r, a ≤ st ∧ st ≤ r ∧ r ≤ mid ∧ r ≤ m0 ∧ n ≤ b + st ∧ s.t 0 = .gl k ∧ s.t 1 = .c (.int .i64 a) ∧ s.t 2 = .c (.int .i64 m0) ∧ s.t 3 = .c (.int .i64 b) ∧ s.t 4 = .fn (.func 64) [] [] ∧ s.t 18 = .c (.int .i64 mid) ∧ s.t 19 = .c (.int .i64 n) ∧
    s.t 20 = .c (.int .i64 (st : Nat)) ∧ s.t 21 = .c (.int .i64 (r : Nat)) ∧ σ = hpB k l0) ?_ ?_
  · refine AW.seq_k fun K8 h8 => ?_
    all_goals refine AW.reg0 ?_
    all_goals iterate 3 (refine S.g rfl rfl fun K' k' => ?_; simp only [zz, reduceIte, Nat.reduceEqDiff, Nat.reduceAdd]; refine k' _ _ ?_; clear k' K')
    all_goals refine S.nil ?_
    all_goals simp only [ze, reduceIte, Nat.reduceEqDiff, Nat.reduceLT, Nat.reduceLeDiff, Nat.reduceAdd, reduceCtorEq, Nat.reduceMul]
    all_goals apply_assumption
    refine AW.cond (b := decide ((m0 : Int) > mid)) (by simp [ev]) (fun hc => ?_) (fun hc => ?_)
    · have hc := of_decide_eq_true hc
      have hw8 : IntKind.i64.wrap ((n : Int) - b) = ((n - b : Nat) : Int) := by rw [wrap_small _ (by omega) (by omega)]; omega
      refine AW.seq_k fun K9 h9 => ?_
      all_goals refine AW.reg0 ?_
      all_goals iterate 4 (refine S.g rfl rfl fun K' k' => ?_; simp only [zz, reduceIte, Nat.reduceEqDiff, Nat.reduceAdd, hw8]; refine k' _ _ ?_; clear k' K')
      all_goals refine S.nil ?_
      all_goals simp only [ze, reduceIte, Nat.reduceEqDiff, Nat.reduceLT, Nat.reduceLeDiff, Nat.reduceAdd, reduceCtorEq, Nat.reduceMul, hw8]
      all_goals apply_assumption
      all_goals refine AW.reg0 ?_
      all_goals iterate 2 (refine S.g rfl rfl fun K' k' => ?_; simp only [zz, reduceIte, Nat.reduceEqDiff, Nat.reduceAdd]; refine k' _ _ ?_; clear k' K')
      all_goals refine S.nil ?_
      all_goals simp only [ze, reduceIte, Nat.reduceEqDiff, Nat.reduceLT, Nat.reduceLeDiff, Nat.reduceAdd, reduceCtorEq, Nat.reduceMul]
      exact ⟨n - b, mid, by omega, by omega, by omega, by omega, by omega, rfl, rfl⟩
    · have hc := of_decide_eq_false hc
      refine AW.seq_k fun K10 h10 => ?_
      all_goals refine AW.reg0 ?_
      all_goals iterate 2 (refine S.g rfl rfl fun K' k' => ?_; simp only [zz, reduceIte, Nat.reduceEqDiff, Nat.reduceAdd]; refine k' _ _ ?_; clear k' K')
      all_goals refine S.nil ?_
      all_goals simp only [ze, reduceIte, Nat.reduceEqDiff, Nat.reduceLT, Nat.reduceLeDiff, Nat.reduceAdd, reduceCtorEq, Nat.reduceMul]
      all_goals apply_assumption
      all_goals refine AW.reg0 ?_
      all_goals iterate 2 (refine S.g rfl rfl fun K' k' => ?_; simp only [zz, reduceIte, Nat.reduceEqDiff, Nat.reduceAdd]; refine k' _ _ ?_; clear k' K')
      all_goals refine S.nil ?_
      all_goals simp only [ze, reduceIte, Nat.reduceEqDiff, Nat.reduceLT, Nat.reduceLeDiff, Nat.reduceAdd, reduceCtorEq, Nat.reduceMul]
      exact ⟨a, m0, by omega, by omega, by omega, by omega, by omega, rfl, rfl⟩
  rintro s0 σ0 ⟨st0, r0, hg1, hg2, hg3, hg4, hg5, g0, g1, g2, g3, g4, g18, g19, g20, g21, rfl⟩
  refine AW.seq_k fun K11 h11 => ?_
  all_goals refine AW.reg0 ?_
  all_goals iterate 3 (refine S.g rfl rfl fun K' k' => ?_; simp only [zz, reduceIte, Nat.reduceEqDiff, Nat.reduceAdd, g19, hw7]; refine k' _ _ ?_; clear k' K')
  all_goals refine S.nil ?_
  all_goals simp only [ze, reduceIte, Nat.reduceEqDiff, Nat.reduceLT, Nat.reduceLeDiff, Nat.reduceAdd, reduceCtorEq, Nat.reduceMul, g19, hw7]
  all_goals apply_assumption
  refine AW.seq_j (fun s σ => ∃ st l', a ≤ st ∧ st ≤ mid ∧ st ≤ m0 ∧ n ≤ b + st ∧ s.t 0 = .gl k ∧ s.t 1 = .c (.int .i64 a) ∧ s.t 2 = .c (.int .i64 m0) ∧ s.t 3 = .c (.int .i64 b) ∧ s.t 4 = .fn (.func 64) [] [] ∧ s.t 18 = .c (.int .i64 mid) ∧ s.t 19 = .c (.int .i64 n) ∧
    s.t 20 = .c (.int .i64 (st : Nat)) ∧ σ = hpB k l' ∧ Sub l0 l') ?_ ?_
  · refine AW.block ?_   -- 8
    refine AW.loop (fun m s σ => ∃ st r, m = r - st ∧ a ≤ st ∧ st ≤ r ∧ r ≤ mid ∧ r ≤ m0 ∧ n ≤ b + st ∧ s.t 0 = .gl k ∧ s.t 1 = .c (.int .i64 a) ∧ s.t 2 = .c (.int .i64 m0) ∧ s.t 3 = .c (.int .i64 b) ∧ s.t 4 = .fn (.func 64) [] [] ∧ s.t 18 = .c (.int .i64 mid) ∧ s.t 19 = .c (.int .i64 n) ∧
      s.t 20 = .c (.int .i64 (st : Nat)) ∧ s.t 21 = .c (.int .i64 (r : Nat)) ∧ s.t 22 = .c (.int .i64 ((n - 1 : Nat) : Int)) ∧ σ = hpB k l0) (r0 - st0) ?_ ?_
    · refine ⟨st0, r0, rfl, hg1, hg2, hg3, hg4, hg5, ?_⟩
      all_goals simp only [zs, reduceIte, Nat.reduceEqDiff, Nat.reduceLT, Nat.reduceLeDiff, Nat.reduceAdd, reduceCtorEq, Nat.reduceMul]
      exact ⟨g0, g1, g2, g3, g4, g18, g19, g20, g21⟩
    rintro m s σ ⟨i, j, hm, hi, hij, hj, hj', hnb, e0, e1, e2, e3, e4, e18, e19, e10, e11, e22, rfl⟩
    refine AW.seq_k fun K12 h12 => ?_
    refine AW.seq_k fun K13 h13 => ?_
    all_goals refine AW.reg0 ?_
    all_goals iterate 3 (refine S.g rfl rfl fun K' k' => ?_; simp only [zz, reduceIte, Nat.reduceEqDiff, Nat.reduceAdd, e10, e11]; refine k' _ _ ?_; clear k' K')
    all_goals refine S.nil ?_
    all_goals simp only [ze, reduceIte, Nat.reduceEqDiff, Nat.reduceLT, Nat.reduceLeDiff, Nat.reduceAdd, reduceCtorEq, Nat.reduceMul, e10, e11]
    all_goals apply_assumption
    refine AW.cond (b := decide (i < j)) (by simp [ev]) (fun hc => ?_) (fun hc => ?_)
    · refine AW.skip ?_
      all_goals simp only [zs, reduceIte, Nat.reduceEqDiff, Nat.reduceLT, Nat.reduceLeDiff, Nat.reduceAdd, reduceCtorEq, Nat.reduceMul]
      all_goals apply_assumption
      have hc := of_decide_eq_true hc
      have hw2 : IntKind.i64.wrap ((i : Int) + j) = ((i + j : Nat) : Int) := by rw [wrap_small _ (by omega) (by omega)]; rfl
      have hu := half_u (i + j) (by omega)
      have hs := half_s (i + j)
      have hw3 : IntKind.i64.wrap (((i + j) / 2 : Nat) : Int) = (((i + j) / 2 : Nat) : Int) := wrap_small _ (by omega) (by omega)
      have hh1 : i ≤ (i + j) / 2 := by omega
      have hh2 : (i + j) / 2 < j := by omega
      generalize (i + j) / 2 = h at *
      refine AW.block ?_   -- 1
      refine AW.seq_k fun K14 h14 => ?_
      all_goals refine AW.reg0 ?_
      all_goals iterate 7 (refine S.g rfl rfl fun K' k' => ?_; simp only [zz, reduceIte, Nat.reduceEqDiff, Nat.reduceAdd, cv3_130, cv130_3, e10, e11, hw2, hu, hs, hw3, Int.reduceLE]; refine k' _ _ ?_; clear k' K')
      all_goals refine S.nil ?_
      all_goals simp only [ze, reduceIte, Nat.reduceEqDiff, Nat.reduceLT, Nat.reduceLeDiff, Nat.reduceAdd, reduceCtorEq, Nat.reduceMul, e10, e11, hw2, hu, hs, hw3, Int.reduceLE]
      all_goals apply_assumption
      have hpb : (hpB k l0).gr k = some ((42, 6), l0.map encBd) := by simp [hpB]
      have hw8 : IntKind.i64.wrap (((n - 1 : Nat) : Int) - h) = ((n - 1 - h : Nat) : Int) := by rw [wrap_small _ (by omega) (by omega)]; omega
      have hj1 : n - 1 - h < l0.length := by omega
      have hj2 : h < l0.length := by omega
      obtain ⟨x, hx, hg1⟩ := get_bd hj1
      obtain ⟨y, hy, hg2⟩ := get_bd hj2
      have hw4 : IntKind.i64.wrap ((h : Int) + 1) = ((h + 1 : Nat) : Int) := by rw [wrap_small _ (by omega) (by omega)]; rfl
      generalize hsg : hpB k l0 = σ0 at hpb ⊢
      refine AW.seq_j (fun s' σ' => σ' = σ0 ∧ s'.t 0 = .gl k ∧ s'.t 1 = .c (.int .i64 a) ∧ s'.t 2 = .c (.int .i64 m0) ∧ s'.t 3 = .c (.int .i64 b) ∧ s'.t 4 = .fn (.func 64) [] [] ∧ s'.t 18 = .c (.int .i64 mid) ∧ s'.t 19 = .c (.int .i64 n) ∧ s'.t 20 = .c (.int .i64 (i : Nat)) ∧ s'.t 21 = .c (.int .i64 (j : Nat)) ∧ s'.t 22 = .c (.int .i64 ((n - 1 : Nat) : Int)) ∧ s'.t 23 = .c (.int .i64 (h : Nat)) ∧ ∃ b, s'.t 171 = .c (.bool b)) ?_ ?_
      · skip
        all_goals refine AW.draw2 (T := { sd := fun _ => false }) (fun _ _ h => by cases h) mixedO [(0, 0), (1, 0), (2, 0), (3, 0), (4, 0), (5, 0), (7, 0), (8, 0), (9, 0)] 6 10 [(11, 2), (12, 0), (13, 0)] #[true, true, true, true, true, true, false, true, true, true, false, false, false, false] rfl (by kernel_rfl) (by kernel_rfl) (by kernel_rfl) (by kernel_rfl) (by kernel_rfl) ?_
        all_goals iterate 9 (refine D.g rfl trivial rfl rfl fun K' k' => ?_; simp only [zz, reduceIte, Nat.reduceEqDiff, Nat.reduceLT, Nat.reduceLeDiff, Nat.reduceAdd, reduceCtorEq, Nat.reduceMul, sl22, el22, ok42, sz42, ag42, e0, e22, e4, hpb, hj1, hj2, hg1, hg2, hw8, encBd]; refine k' _ _ ?_; clear k' K')
        all_goals refine D.nil ⟨?_, ?_⟩
        all_goals iterate 2 (refine D.g rfl trivial rfl rfl fun K' k' => ?_; simp only [zz, reduceIte, Nat.reduceEqDiff, Nat.reduceLT, Nat.reduceLeDiff, Nat.reduceAdd, reduceCtorEq, Nat.reduceMul, ok42, sz42, ag42, e0, e22, e4, hpb, hj1, hj2, hg1, hg2, hw8, encBd]; refine k' _ _ ?_; clear k' K')
        all_goals (refine D.g rfl trivial rfl rfl fun K' k' => ?_; simp only [zz, reduceIte, Nat.reduceEqDiff, Nat.reduceLT, Nat.reduceLeDiff, Nat.reduceAdd, reduceCtorEq, Nat.reduceMul, e0, e22, e4, hpb, hj1, hj2, hg1, hg2, hw8, encBd]; refine PCalls.eqto (less_spec x y) ?_ <;> (refine k' _ _ ?_; clear k' K'))
        all_goals iterate 2 (refine D.g rfl trivial rfl rfl fun K' k' => ?_; simp only [zz, reduceIte, Nat.reduceEqDiff, Nat.reduceAdd, e0, e22, e4, hpb, hj1, hj2, hg1, hg2, hw8, encBd]; refine k' _ _ ?_; clear k' K')
        all_goals refine D.nil ?_
        all_goals simp only [ze, reduceIte, Nat.reduceEqDiff, Nat.reduceLT, Nat.reduceLeDiff, Nat.reduceAdd, reduceCtorEq, Nat.reduceMul, e0, e22, e4, hpb, hj1, hj2, hg1, hg2, hw8, encBd]
        all_goals exact ⟨e1, e2, e3, e18, e19, e10, e11, _, rfl⟩
      rintro s3 σ3 ⟨rfl, g0, g1, g2, g3, g4, g18, g19, g10, g11, g22, g12, b2, g50⟩
      refine AW.cond (b := b2) g50 (fun hd => ?_) (fun hd => ?_)
      · skip
        all_goals refine AW.reg0 ?_
        all_goals iterate 3 (refine S.g rfl rfl fun K' k' => ?_; simp only [zz, reduceIte, Nat.reduceEqDiff, Nat.reduceAdd, g12, hw4]; refine k' _ _ ?_; clear k' K')
        all_goals refine S.nil ?_
        all_goals simp only [ze, reduceIte, Nat.reduceEqDiff, Nat.reduceLT, Nat.reduceLeDiff, Nat.reduceAdd, reduceCtorEq, Nat.reduceMul, g12, hw4]
        exact ⟨j - (h + 1), by omega, h + 1, j, rfl, by omega, by omega, hj, hj', by omega, g0, g1, g2, g3, g4, g18, g19, rfl, g11, g22⟩
      · skip
        all_goals refine AW.reg0 ?_
        all_goals iterate 2 (refine S.g rfl rfl fun K' k' => ?_; simp only [zz, reduceIte, Nat.reduceEqDiff, Nat.reduceAdd, g12]; refine k' _ _ ?_; clear k' K')
        all_goals refine S.nil ?_
        all_goals simp only [ze, reduceIte, Nat.reduceEqDiff, Nat.reduceLT, Nat.reduceLeDiff, Nat.reduceAdd, reduceCtorEq, Nat.reduceMul, g12]
        exact ⟨h - i, by omega, i, h, rfl, by omega, by omega, by omega, by omega, by omega, g0, g1, g2, g3, g4, g18, g19, g10, rfl, g22⟩
    · refine AW.exit ?_
      all_goals simp only [zs, reduceIte, Nat.reduceEqDiff, Nat.reduceLT, Nat.reduceLeDiff, Nat.reduceAdd, reduceCtorEq, Nat.reduceMul]
      have hc := of_decide_eq_false hc
      exact ⟨i, l0, hi, by omega, by omega, hnb, e0, e1, e2, e3, e4, e18, e19, e10, rfl, Sub.refl _⟩
  rintro s1 σ1 ⟨st, l1, hi1, hi2, hi3, hi4, f0, f1, f2, f3, f4, f18, f19, f20, rfl, hs1⟩
  have hw8 : IntKind.i64.wrap ((n : Int) - st) = ((n - st : Nat) : Int) := by rw [wrap_small _ (by omega) (by omega)]; omega
  refine AW.seq_k fun K15 h15 => ?_
  all_goals refine AW.reg0 ?_
  all_goals iterate 4 (refine S.g rfl rfl fun K' k' => ?_; simp only [zz, reduceIte, Nat.reduceEqDiff, Nat.reduceAdd, f19, f20, hw8]; refine k' _ _ ?_; clear k' K')
  all_goals refine S.nil ?_
  all_goals simp only [ze, reduceIte, Nat.reduceEqDiff, Nat.reduceLT, Nat.reduceLeDiff, Nat.reduceAdd, reduceCtorEq, Nat.reduceMul, f19, f20, hw8]
  all_goals apply_assumption
  refine AW.seq_j (fun s σ => ∃ l', s.t 0 = .gl k ∧ s.t 1 = .c (.int .i64 a) ∧ s.t 3 = .c (.int .i64 b) ∧ s.t 4 = .fn (.func 64) [] [] ∧ s.t 18 = .c (.int .i64 mid) ∧ s.t 20 = .c (.int .i64 (st : Nat)) ∧ s.t 24 = .c (.int .i64 ((n - st : Nat) : Int)) ∧ σ = hpB k l' ∧ Sub l0 l') ?_ ?_
  · by_cases hc1 : st < m0
    · by_cases hc2 : m0 < n - st
      · refine AW.seq_k fun K16 h16 => ?_
        all_goals refine AW.reg0 ?_
        all_goals iterate 2 (refine S.g rfl rfl fun K' k' => ?_; simp only [zz, reduceIte, Nat.reduceEqDiff, Nat.reduceAdd, f0, f1, f2, f3, f4, f18, f20]; refine k' _ _ ?_; clear k' K')
        all_goals (refine S.g rfl rfl fun K' k' => ?_; simp only [zz, reduceIte, Nat.reduceEqDiff, Nat.reduceLT, Nat.reduceLeDiff, Nat.reduceAdd, reduceCtorEq, Nat.reduceMul, f0, f1, f2, f3, f4, f18, f20]; refine S.bool fun b a180 => ?_; cases b <;> (try (exfalso; first | exact Bool.noConfusion a180 | (have h := of_decide_eq_true a180; omega) | (have h := of_decide_eq_false a180; omega))) <;> (refine k' _ _ ?_; clear k' K'))
        all_goals (refine S.g rfl rfl fun K' k' => ?_; simp only [zz, reduceIte, Nat.reduceEqDiff, Nat.reduceAdd, f0, f1, f2, f3, f4, f18, f20]; refine k' _ _ ?_; clear k' K')
        all_goals iterate 3 (first | (refine S.y rfl rfl rfl rfl fun K' k' => ?_; simp only [zz, reduceIte, Nat.reduceEqDiff, Nat.reduceAdd, f0, f1, f2, f3, f4, f18, f20]; refine k' _ _ ?_; clear k' K') | ((first | refine S.x rfl rfl rfl rfl fun K' k' => ?_ | refine S.u rfl rfl rfl rfl fun K' k' => ?_); simp only [ze, reduceIte, Nat.reduceEqDiff]; refine k' _ _ ?_; clear k' K'))
        all_goals (refine S.g rfl rfl fun K' k' => ?_; simp only [zz, reduceIte, Nat.reduceEqDiff, Nat.reduceAdd, f0, f1, f2, f3, f4, f18, f20]; refine k' _ _ ?_; clear k' K')
        all_goals refine S.nil ?_
        all_goals simp only [ze, reduceIte, Nat.reduceEqDiff, Nat.reduceLT, Nat.reduceLeDiff, Nat.reduceAdd, reduceCtorEq, Nat.reduceMul, f0, f1, f2, f3, f4, f18, f20]
        all_goals apply_assumption
        refine AW.cond (b := true) (by simp [ev]; try omega) (fun hc => ?_) (fun hc => by cases hc)
        all_goals refine AW.reg0 ?_
        all_goals iterate 5 (refine S.g rfl rfl fun K' k' => ?_; simp only [zz, reduceIte, Nat.reduceEqDiff, Nat.reduceAdd, f0, f1, f2, f3, f4, f18, f20]; refine k' _ _ ?_; clear k' K')
        all_goals (refine S.g rfl rfl fun K' k' => ?_; simp only [zz, reduceIte, Nat.reduceEqDiff, Nat.reduceLT, Nat.reduceLeDiff, Nat.reduceAdd, reduceCtorEq, Nat.reduceMul, f0, f1, f2, f3, f4, f18, f20]; refine (rotate_weak l1 k st m0 (n - st) (by omega) (by omega) (by rw [hs1.1]; omega) (by rw [hs1.1]; omega)).to fun v σ1 hv => ?_; obtain ⟨rfl, l2, hl2, rfl⟩ := hv <;> (refine k' _ _ ?_; clear k' K'))
        all_goals refine S.nil ?_
        all_goals simp only [ze, reduceIte, Nat.reduceEqDiff, Nat.reduceLT, Nat.reduceLeDiff, Nat.reduceAdd, reduceCtorEq, Nat.reduceMul, f0, f1, f2, f3, f4, f18, f20]
        refine ⟨l2, ?_⟩; have hfin := hs1.trans hl2; (repeat' apply And.intro) <;> first | rfl | assumption | exact hfin.1 | exact hfin.2
      · refine AW.seq_k fun K17 h17 => ?_
        all_goals refine AW.reg0 ?_
        all_goals iterate 2 (refine S.g rfl rfl fun K' k' => ?_; simp only [zz, reduceIte, Nat.reduceEqDiff, Nat.reduceAdd, f0, f1, f2, f3, f4, f18, f20]; refine k' _ _ ?_; clear k' K')
        all_goals (refine S.g rfl rfl fun K' k' => ?_; simp only [zz, reduceIte, Nat.reduceEqDiff, Nat.reduceLT, Nat.reduceLeDiff, Nat.reduceAdd, reduceCtorEq, Nat.reduceMul, f0, f1, f2, f3, f4, f18, f20]; refine S.bool fun b a180 => ?_; cases b <;> (try (exfalso; first | exact Bool.noConfusion a180 | (have h := of_decide_eq_true a180; omega) | (have h := of_decide_eq_false a180; omega))) <;> (refine k' _ _ ?_; clear k' K'))
        all_goals (refine S.g rfl rfl fun K' k' => ?_; simp only [zz, reduceIte, Nat.reduceEqDiff, Nat.reduceAdd, f0, f1, f2, f3, f4, f18, f20]; refine k' _ _ ?_; clear k' K')
        all_goals iterate 3 (first | (refine S.y rfl rfl rfl rfl fun K' k' => ?_; simp only [zz, reduceIte, Nat.reduceEqDiff, Nat.reduceAdd, f0, f1, f2, f3, f4, f18, f20]; refine k' _ _ ?_; clear k' K') | ((first | refine S.x rfl rfl rfl rfl fun K' k' => ?_ | refine S.u rfl rfl rfl rfl fun K' k' => ?_); simp only [ze, reduceIte, Nat.reduceEqDiff]; refine k' _ _ ?_; clear k' K'))
        all_goals (refine S.g rfl rfl fun K' k' => ?_; simp only [zz, reduceIte, Nat.reduceEqDiff, Nat.reduceAdd, f0, f1, f2, f3, f4, f18, f20]; refine k' _ _ ?_; clear k' K')
        all_goals refine S.nil ?_
        all_goals simp only [ze, reduceIte, Nat.reduceEqDiff, Nat.reduceLT, Nat.reduceLeDiff, Nat.reduceAdd, reduceCtorEq, Nat.reduceMul, f0, f1, f2, f3, f4, f18, f20]
        all_goals apply_assumption
        refine AW.cond (b := false) (by simp [ev]; try omega) (fun hc => by cases hc) (fun hc => AW.skip ?_)
        all_goals simp only [zs, reduceIte, Nat.reduceEqDiff, Nat.reduceLT, Nat.reduceLeDiff, Nat.reduceAdd, reduceCtorEq, Nat.reduceMul]
        refine ⟨l1, ?_⟩; have hfin := hs1; (repeat' apply And.intro) <;> first | rfl | assumption | exact hfin.1 | exact hfin.2
    · refine AW.seq_k fun K18 h18 => ?_
      all_goals refine AW.reg0 ?_
      all_goals iterate 2 (refine S.g rfl rfl fun K' k' => ?_; simp only [zz, reduceIte, Nat.reduceEqDiff, Nat.reduceAdd, f0, f1, f2, f3, f4, f18, f20]; refine k' _ _ ?_; clear k' K')
      all_goals (refine S.g rfl rfl fun K' k' => ?_; simp only [zz, reduceIte, Nat.reduceEqDiff, Nat.reduceLT, Nat.reduceLeDiff, Nat.reduceAdd, reduceCtorEq, Nat.reduceMul, f0, f1, f2, f3, f4, f18, f20]; refine S.bool fun b a180 => ?_; cases b <;> (try (exfalso; first | exact Bool.noConfusion a180 | (have h := of_decide_eq_true a180; omega) | (have h := of_decide_eq_false a180; omega))) <;> (refine k' _ _ ?_; clear k' K'))
      all_goals (refine S.g rfl rfl fun K' k' => ?_; simp only [zz, reduceIte, Nat.reduceEqDiff, Nat.reduceAdd, f0, f1, f2, f3, f4, f18, f20]; refine k' _ _ ?_; clear k' K')
      all_goals iterate 3 (first | (refine S.y rfl rfl rfl rfl fun K' k' => ?_; simp only [zz, reduceIte, Nat.reduceEqDiff, Nat.reduceAdd, f0, f1, f2, f3, f4, f18, f20]; refine k' _ _ ?_; clear k' K') | ((first | refine S.x rfl rfl rfl rfl fun K' k' => ?_ | refine S.u rfl rfl rfl rfl fun K' k' => ?_); simp only [ze, reduceIte, Nat.reduceEqDiff]; refine k' _ _ ?_; clear k' K'))
      all_goals (refine S.g rfl rfl fun K' k' => ?_; simp only [zz, reduceIte, Nat.reduceEqDiff, Nat.reduceAdd, f0, f1, f2, f3, f4, f18, f20]; refine k' _ _ ?_; clear k' K')
      all_goals refine S.nil ?_
      all_goals simp only [ze, reduceIte, Nat.reduceEqDiff, Nat.reduceLT, Nat.reduceLeDiff, Nat.reduceAdd, reduceCtorEq, Nat.reduceMul, f0, f1, f2, f3, f4, f18, f20]
      all_goals apply_assumption
      refine AW.cond (b := false) (by simp [ev]; try omega) (fun hc => by cases hc) (fun hc => AW.skip ?_)
      all_goals simp only [zs, reduceIte, Nat.reduceEqDiff, Nat.reduceLT, Nat.reduceLeDiff, Nat.reduceAdd, reduceCtorEq, Nat.reduceMul]
      refine ⟨l1, ?_⟩; have hfin := hs1; (repeat' apply And.intro) <;> first | rfl | assumption | exact hfin.1 | exact hfin.2
  clear f0 f1 f2 f3 f4 f18 f19 f20 hs1
  rintro s2 σ2 ⟨l2, f0, f1, f3, f4, f18, f20, f24, rfl, hs2⟩
  refine AW.seq_j (fun s σ => ∃ l', s.t 0 = .gl k ∧ s.t 3 = .c (.int .i64 b) ∧ s.t 4 = .fn (.func 64) [] [] ∧ s.t 18 = .c (.int .i64 mid) ∧ s.t 24 = .c (.int .i64 ((n - st : Nat) : Int)) ∧ σ = hpB k l' ∧ Sub l0 l') ?_ ?_
  · by_cases hc1 : a < st
    · by_cases hc2 : st < mid
      · refine AW.seq_k fun K19 h19 => ?_
        all_goals refine AW.reg0 ?_
        all_goals iterate 2 (refine S.g rfl rfl fun K' k' => ?_; simp only [zz, reduceIte, Nat.reduceEqDiff, Nat.reduceAdd, f0, f1, f3, f4, f18, f20, f24]; refine k' _ _ ?_; clear k' K')
        all_goals (refine S.g rfl rfl fun K' k' => ?_; simp only [zz, reduceIte, Nat.reduceEqDiff, Nat.reduceLT, Nat.reduceLeDiff, Nat.reduceAdd, reduceCtorEq, Nat.reduceMul, f0, f1, f3, f4, f18, f20, f24]; refine S.bool fun b a194 => ?_; cases b <;> (try (exfalso; first | exact Bool.noConfusion a194 | (have h := of_decide_eq_true a194; omega) | (have h := of_decide_eq_false a194; omega))) <;> (refine k' _ _ ?_; clear k' K'))
        all_goals (refine S.g rfl rfl fun K' k' => ?_; simp only [zz, reduceIte, Nat.reduceEqDiff, Nat.reduceAdd, f0, f1, f3, f4, f18, f20, f24]; refine k' _ _ ?_; clear k' K')
        all_goals iterate 3 (first | (refine S.y rfl rfl rfl rfl fun K' k' => ?_; simp only [zz, reduceIte, Nat.reduceEqDiff, Nat.reduceAdd, f0, f1, f3, f4, f18, f20, f24]; refine k' _ _ ?_; clear k' K') | ((first | refine S.x rfl rfl rfl rfl fun K' k' => ?_ | refine S.u rfl rfl rfl rfl fun K' k' => ?_); simp only [ze, reduceIte, Nat.reduceEqDiff]; refine k' _ _ ?_; clear k' K'))
        all_goals (refine S.g rfl rfl fun K' k' => ?_; simp only [zz, reduceIte, Nat.reduceEqDiff, Nat.reduceAdd, f0, f1, f3, f4, f18, f20, f24]; refine k' _ _ ?_; clear k' K')
        all_goals refine S.nil ?_
        all_goals simp only [ze, reduceIte, Nat.reduceEqDiff, Nat.reduceLT, Nat.reduceLeDiff, Nat.reduceAdd, reduceCtorEq, Nat.reduceMul, f0, f1, f3, f4, f18, f20, f24]
        all_goals apply_assumption
        refine AW.cond (b := true) (by simp [ev]; try omega) (fun hc => ?_) (fun hc => by cases hc)
        all_goals refine AW.reg0 ?_
        all_goals iterate 5 (refine S.g rfl rfl fun K' k' => ?_; simp only [zz, reduceIte, Nat.reduceEqDiff, Nat.reduceAdd, f0, f1, f3, f4, f18, f20]; refine k' _ _ ?_; clear k' K')
        all_goals (refine S.g rfl rfl fun K' k' => ?_; simp only [zz, reduceIte, Nat.reduceEqDiff, Nat.reduceLT, Nat.reduceLeDiff, Nat.reduceAdd, reduceCtorEq, Nat.reduceMul, f0, f1, f3, f4, f18, f20]; refine (ih l2 a st mid (by omega) (by omega) (by omega) (by rw [hs2.1]; omega) (by rw [hs2.1]; omega)).to fun v σ1 hv => ?_; obtain ⟨rfl, l3, hl3, rfl⟩ := hv <;> (refine k' _ _ ?_; clear k' K'))
        all_goals refine S.nil ?_
        all_goals simp only [ze, reduceIte, Nat.reduceEqDiff, Nat.reduceLT, Nat.reduceLeDiff, Nat.reduceAdd, reduceCtorEq, Nat.reduceMul, f0, f1, f3, f4, f18, f20]
        refine ⟨l3, ?_⟩; have hfin := hs2.trans hl3; (repeat' apply And.intro) <;> first | rfl | assumption | exact hfin.1 | exact hfin.2
      · refine AW.seq_k fun K20 h20 => ?_
        all_goals refine AW.reg0 ?_
        all_goals iterate 2 (refine S.g rfl rfl fun K' k' => ?_; simp only [zz, reduceIte, Nat.reduceEqDiff, Nat.reduceAdd, f0, f1, f3, f4, f18, f20, f24]; refine k' _ _ ?_; clear k' K')
        all_goals (refine S.g rfl rfl fun K' k' => ?_; simp only [zz, reduceIte, Nat.reduceEqDiff, Nat.reduceLT, Nat.reduceLeDiff, Nat.reduceAdd, reduceCtorEq, Nat.reduceMul, f0, f1, f3, f4, f18, f20, f24]; refine S.bool fun b a194 => ?_; cases b <;> (try (exfalso; first | exact Bool.noConfusion a194 | (have h := of_decide_eq_true a194; omega) | (have h := of_decide_eq_false a194; omega))) <;> (refine k' _ _ ?_; clear k' K'))
        all_goals (refine S.g rfl rfl fun K' k' => ?_; simp only [zz, reduceIte, Nat.reduceEqDiff, Nat.reduceAdd, f0, f1, f3, f4, f18, f20, f24]; refine k' _ _ ?_; clear k' K')
        all_goals iterate 3 (first | (refine S.y rfl rfl rfl rfl fun K' k' => ?_; simp only [zz, reduceIte, Nat.reduceEqDiff, Nat.reduceAdd, f0, f1, f3, f4, f18, f20, f24]; refine k' _ _ ?_; clear k' K') | ((first | refine S.x rfl rfl rfl rfl fun K' k' => ?_ | refine S.u rfl rfl rfl rfl fun K' k' => ?_); simp only [ze, reduceIte, Nat.reduceEqDiff]; refine k' _ _ ?_; clear k' K'))
        all_goals (refine S.g rfl rfl fun K' k' => ?_; simp only [zz, reduceIte, Nat.reduceEqDiff, Nat.reduceAdd, f0, f1, f3, f4, f18, f20, f24]; refine k' _ _ ?_; clear k' K')
        all_goals refine S.nil ?_
        all_goals simp only [ze, reduceIte, Nat.reduceEqDiff, Nat.reduceLT, Nat.reduceLeDiff, Nat.reduceAdd, reduceCtorEq, Nat.reduceMul, f0, f1, f3, f4, f18, f20, f24]
        all_goals apply_assumption
        refine AW.cond (b := false) (by simp [ev]; try omega) (fun hc => by cases hc) (fun hc => AW.skip ?_)
        all_goals simp only [zs, reduceIte, Nat.reduceEqDiff, Nat.reduceLT, Nat.reduceLeDiff, Nat.reduceAdd, reduceCtorEq, Nat.reduceMul]
        refine ⟨l2, ?_⟩; have hfin := hs2; (repeat' apply And.intro) <;> first | rfl | assumption | exact hfin.1 | exact hfin.2
    · refine AW.seq_k fun K21 h21 => ?_
      all_goals refine AW.reg0 ?_
      all_goals iterate 2 (refine S.g rfl rfl fun K' k' => ?_; simp only [zz, reduceIte, Nat.reduceEqDiff, Nat.reduceAdd, f0, f1, f3, f4, f18, f20, f24]; refine k' _ _ ?_; clear k' K')
      all_goals (refine S.g rfl rfl fun K' k' => ?_; simp only [zz, reduceIte, Nat.reduceEqDiff, Nat.reduceLT, Nat.reduceLeDiff, Nat.reduceAdd, reduceCtorEq, Nat.reduceMul, f0, f1, f3, f4, f18, f20, f24]; refine S.bool fun b a194 => ?_; cases b <;> (try (exfalso; first | exact Bool.noConfusion a194 | (have h := of_decide_eq_true a194; omega) | (have h := of_decide_eq_false a194; omega))) <;> (refine k' _ _ ?_; clear k' K'))
      all_goals (refine S.g rfl rfl fun K' k' => ?_; simp only [zz, reduceIte, Nat.reduceEqDiff, Nat.reduceAdd, f0, f1, f3, f4, f18, f20, f24]; refine k' _ _ ?_; clear k' K')
      all_goals iterate 3 (first | (refine S.y rfl rfl rfl rfl fun K' k' => ?_; simp only [zz, reduceIte, Nat.reduceEqDiff, Nat.reduceAdd, f0, f1, f3, f4, f18, f20, f24]; refine k' _ _ ?_; clear k' K') | ((first | refine S.x rfl rfl rfl rfl fun K' k' => ?_ | refine S.u rfl rfl rfl rfl fun K' k' => ?_); simp only [ze, reduceIte, Nat.reduceEqDiff]; refine k' _ _ ?_; clear k' K'))
      all_goals (refine S.g rfl rfl fun K' k' => ?_; simp only [zz, reduceIte, Nat.reduceEqDiff, Nat.reduceAdd, f0, f1, f3, f4, f18, f20, f24]; refine k' _ _ ?_; clear k' K')
      all_goals refine S.nil ?_
      all_goals simp only [ze, reduceIte, Nat.reduceEqDiff, Nat.reduceLT, Nat.reduceLeDiff, Nat.reduceAdd, reduceCtorEq, Nat.reduceMul, f0, f1, f3, f4, f18, f20, f24]
      all_goals apply_assumption
      refine AW.cond (b := false) (by simp [ev]; try omega) (fun hc => by cases hc) (fun hc => AW.skip ?_)
      all_goals simp only [zs, reduceIte, Nat.reduceEqDiff, Nat.reduceLT, Nat.reduceLeDiff, Nat.reduceAdd, reduceCtorEq, Nat.reduceMul]
      refine ⟨l2, ?_⟩; have hfin := hs2; (repeat' apply And.intro) <;> first | rfl | assumption | exact hfin.1 | exact hfin.2
  clear f0 f1 f3 f4 f18 f20 f24 hs2
  rintro s3 σ3 ⟨l3, f0, f3, f4, f18, f24, rfl, hs3⟩
  by_cases hc1 : mid < n - st
  · by_cases hc2 : n - st < b
    · refine AW.seq_k fun K22 h22 => ?_
      all_goals refine AW.reg0 ?_
      all_goals iterate 2 (refine S.g rfl rfl fun K' k' => ?_; simp only [zz, reduceIte, Nat.reduceEqDiff, Nat.reduceAdd, f0, f3, f4, f18, f24]; refine k' _ _ ?_; clear k' K')
      all_goals (refine S.g rfl rfl fun K' k' => ?_; simp only [zz, reduceIte, Nat.reduceEqDiff, Nat.reduceLT, Nat.reduceLeDiff, Nat.reduceAdd, reduceCtorEq, Nat.reduceMul, f0, f3, f4, f18, f24]; refine S.bool fun b a208 => ?_; cases b <;> (try (exfalso; first | exact Bool.noConfusion a208 | (have h := of_decide_eq_true a208; omega) | (have h := of_decide_eq_false a208; omega))) <;> (refine k' _ _ ?_; clear k' K'))
      all_goals (refine S.g rfl rfl fun K' k' => ?_; simp only [zz, reduceIte, Nat.reduceEqDiff, Nat.reduceAdd, f0, f3, f4, f18, f24]; refine k' _ _ ?_; clear k' K')
      all_goals iterate 3 (first | (refine S.y rfl rfl rfl rfl fun K' k' => ?_; simp only [zz, reduceIte, Nat.reduceEqDiff, Nat.reduceAdd, f0, f3, f4, f18, f24]; refine k' _ _ ?_; clear k' K') | ((first | refine S.x rfl rfl rfl rfl fun K' k' => ?_ | refine S.u rfl rfl rfl rfl fun K' k' => ?_); simp only [ze, reduceIte, Nat.reduceEqDiff]; refine k' _ _ ?_; clear k' K'))
      all_goals (refine S.g rfl rfl fun K' k' => ?_; simp only [zz, reduceIte, Nat.reduceEqDiff, Nat.reduceAdd, f0, f3, f4, f18, f24]; refine k' _ _ ?_; clear k' K')
      all_goals refine S.nil ?_
      all_goals simp only [ze, reduceIte, Nat.reduceEqDiff, Nat.reduceLT, Nat.reduceLeDiff, Nat.reduceAdd, reduceCtorEq, Nat.reduceMul, f0, f3, f4, f18, f24]
      all_goals apply_assumption
      refine AW.cond (b := true) (by simp [ev]; try omega) (fun hc => ?_) (fun hc => by cases hc)
      all_goals refine AW.reg0 ?_
      all_goals iterate 5 (refine S.g rfl rfl fun K' k' => ?_; simp only [zz, reduceIte, Nat.reduceEqDiff, Nat.reduceAdd, f0, f3, f4, f18, f24]; refine k' _ _ ?_; clear k' K')
      all_goals (refine S.g rfl rfl fun K' k' => ?_; simp only [zz, reduceIte, Nat.reduceEqDiff, Nat.reduceLT, Nat.reduceLeDiff, Nat.reduceAdd, reduceCtorEq, Nat.reduceMul, f0, f3, f4, f18, f24]; refine (ih l3 mid (n - st) b (by omega) (by omega) (by omega) (by rw [hs3.1]; omega) (by rw [hs3.1]; omega)).to fun v σ1 hv => ?_; obtain ⟨rfl, l4, hl4, rfl⟩ := hv <;> (refine k' _ _ ?_; clear k' K'))
      all_goals refine S.nil ?_
      all_goals simp only [ze, reduceIte, Nat.reduceEqDiff, Nat.reduceLT, Nat.reduceLeDiff, Nat.reduceAdd, reduceCtorEq, Nat.reduceMul, f0, f3, f4, f18, f24]
      exact ⟨rfl, l4, hs3.trans hl4, rfl⟩
    · refine AW.seq_k fun K23 h23 => ?_
      all_goals refine AW.reg0 ?_
      all_goals iterate 2 (refine S.g rfl rfl fun K' k' => ?_; simp only [zz, reduceIte, Nat.reduceEqDiff, Nat.reduceAdd, f0, f3, f4, f18, f24]; refine k' _ _ ?_; clear k' K')
      all_goals (refine S.g rfl rfl fun K' k' => ?_; simp only [zz, reduceIte, Nat.reduceEqDiff, Nat.reduceLT, Nat.reduceLeDiff, Nat.reduceAdd, reduceCtorEq, Nat.reduceMul, f0, f3, f4, f18, f24]; refine S.bool fun b a208 => ?_; cases b <;> (try (exfalso; first | exact Bool.noConfusion a208 | (have h := of_decide_eq_true a208; omega) | (have h := of_decide_eq_false a208; omega))) <;> (refine k' _ _ ?_; clear k' K'))
      all_goals (refine S.g rfl rfl fun K' k' => ?_; simp only [zz, reduceIte, Nat.reduceEqDiff, Nat.reduceAdd, f0, f3, f4, f18, f24]; refine k' _ _ ?_; clear k' K')
      all_goals iterate 3 (first | (refine S.y rfl rfl rfl rfl fun K' k' => ?_; simp only [zz, reduceIte, Nat.reduceEqDiff, Nat.reduceAdd, f0, f3, f4, f18, f24]; refine k' _ _ ?_; clear k' K') | ((first | refine S.x rfl rfl rfl rfl fun K' k' => ?_ | refine S.u rfl rfl rfl rfl fun K' k' => ?_); simp only [ze, reduceIte, Nat.reduceEqDiff]; refine k' _ _ ?_; clear k' K'))
      all_goals (refine S.g rfl rfl fun K' k' => ?_; simp only [zz, reduceIte, Nat.reduceEqDiff, Nat.reduceAdd, f0, f3, f4, f18, f24]; refine k' _ _ ?_; clear k' K')
      all_goals refine S.nil ?_
      all_goals simp only [ze, reduceIte, Nat.reduceEqDiff, Nat.reduceLT, Nat.reduceLeDiff, Nat.reduceAdd, reduceCtorEq, Nat.reduceMul, f0, f3, f4, f18, f24]
      all_goals apply_assumption
      refine AW.cond (b := false) (by simp [ev]; try omega) (fun hc => by cases hc) (fun hc => AW.skip ?_)
      all_goals simp only [zs, reduceIte, Nat.reduceEqDiff, Nat.reduceLT, Nat.reduceLeDiff, Nat.reduceAdd, reduceCtorEq, Nat.reduceMul]
      exact ⟨rfl, l3, hs3, rfl⟩
  · refine AW.seq_k fun K24 h24 => ?_
    all_goals refine AW.reg0 ?_
    all_goals iterate 2 (refine S.g rfl rfl fun K' k' => ?_; simp only [zz, reduceIte, Nat.reduceEqDiff, Nat.reduceAdd, f0, f3, f4, f18, f24]; refine k' _ _ ?_; clear k' K')
    all_goals (refine S.g rfl rfl fun K' k' => ?_; simp only [zz, reduceIte, Nat.reduceEqDiff, Nat.reduceLT, Nat.reduceLeDiff, Nat.reduceAdd, reduceCtorEq, Nat.reduceMul, f0, f3, f4, f18, f24]; refine S.bool fun b a208 => ?_; cases b <;> (try (exfalso; first | exact Bool.noConfusion a208 | (have h := of_decide_eq_true a208; omega) | (have h := of_decide_eq_false a208; omega))) <;> (refine k' _ _ ?_; clear k' K'))
    all_goals (refine S.g rfl rfl fun K' k' => ?_; simp only [zz, reduceIte, Nat.reduceEqDiff, Nat.reduceAdd, f0, f3, f4, f18, f24]; refine k' _ _ ?_; clear k' K')
    all_goals iterate 3 (first | (refine S.y rfl rfl rfl rfl fun K' k' => ?_; simp only [zz, reduceIte, Nat.reduceEqDiff, Nat.reduceAdd, f0, f3, f4, f18, f24]; refine k' _ _ ?_; clear k' K') | ((first | refine S.x rfl rfl rfl rfl fun K' k' => ?_ | refine S.u rfl rfl rfl rfl fun K' k' => ?_); simp only [ze, reduceIte, Nat.reduceEqDiff]; refine k' _ _ ?_; clear k' K'))
    all_goals (refine S.g rfl rfl fun K' k' => ?_; simp only [zz, reduceIte, Nat.reduceEqDiff, Nat.reduceAdd, f0, f3, f4, f18, f24]; refine k' _ _ ?_; clear k' K')
    all_goals refine S.nil ?_
    all_goals simp only [ze, reduceIte, Nat.reduceEqDiff, Nat.reduceLT, Nat.reduceLeDiff, Nat.reduceAdd, reduceCtorEq, Nat.reduceMul, f0, f3, f4, f18, f24]
    all_goals apply_assumption
    refine AW.cond (b := false) (by simp [ev]; try omega) (fun hc => by cases hc) (fun hc => AW.skip ?_)
    all_goals simp only [zs, reduceIte, Nat.reduceEqDiff, Nat.reduceLT, Nat.reduceLeDiff, Nat.reduceAdd, reduceCtorEq, Nat.reduceMul]
    exact ⟨rfl, l3, hs3, rfl⟩
end Go.Abs.M
namespace Go.Abs.M
open Go Go.Abs Go.Proofs
set_option maxRecDepth 20000
set_option linter.unusedSimpArgs false
set_option linter.unusedVariables false
theorem sink_sub (lo : Nat) : ∀ (j : Nat) (l0 l : List Bd), Sub l0 l → Sub l0 (sink lo j l) := by
  intro j
  induction j with
  | zero => exact fun _ _ h => h
  | succ j ih =>
    intro l0 l h
    simp only [sink]
    split
    · rename_i x y hx hy
      split
      · exact ih l0 _ (h.swap hx hy)
      · exact h
    · exact h
theorem insFrom_sub (lo : Nat) : ∀ (m i : Nat) (l0 l : List Bd), Sub l0 l → Sub l0 (insFrom lo l i m) := by
  intro m
  induction m with
  | zero => exact fun _ _ _ h => h
  | succ m ih =>
    intro i l0 l h
    simp only [insFrom, List.range'_succ, List.foldl_cons]
    exact ih (i + 1) l0 _ (sink_sub lo i l0 l h)
theorem insort_sub (lo hi : Nat) (l : List Bd) : Sub l (insort lo hi l) := insFrom_sub lo _ _ l l (Sub.refl l)
theorem stable_weak (l0 : List Bd) (k : Nat) (hn : l0.length < 2147483648) :
    ACalls Try.prog 104 [.gl k, .c (.int .i64 l0.length), .fn (.func 64) [] []] (hpB k l0) (hpS k l0) := by
  refine ACalls.intro Try.call104 Try.func104 rfl Try.ntmps104 Try.results104 (by simp) ?_
  refine AW.seq_k fun K1 h1 => ?_
  all_goals refine AW.reg0 ?_
  all_goals (refine S.g rfl rfl fun K' k' => ?_; simp only [zz, reduceIte, Nat.reduceEqDiff, Nat.reduceAdd]; refine k' _ _ ?_; clear k' K')
  all_goals refine S.nil ?_
  all_goals simp only [ze, reduceIte, Nat.reduceEqDiff, Nat.reduceLT, Nat.reduceLeDiff, Nat.reduceAdd, reduceCtorEq, Nat.reduceMul]
  all_goals apply_assumption
  refine AW.seq_k fun K2 h2 => ?_
  all_goals refine AW.reg0 ?_
  all_goals iterate 3 (refine S.g rfl rfl fun K' k' => ?_; simp only [zz, reduceIte, Nat.reduceEqDiff, Nat.reduceAdd]; refine k' _ _ ?_; clear k' K')
  all_goals refine S.nil ?_
  all_goals simp only [ze, reduceIte, Nat.reduceEqDiff, Nat.reduceLT, Nat.reduceLeDiff, Nat.reduceAdd, reduceCtorEq, Nat.reduceMul]
  all_goals apply_assumption
  refine AW.seq_j (fun s σ => ∃ a l', a ≤ l0.length ∧ s.t 0 = .gl k ∧ s.t 1 = .c (.int .i64 l0.length) ∧ s.t 2 = .fn (.func 64) [] [] ∧ s.t 6 = .c (.int .i64 ((20 : Nat) : Int)) ∧ s.t 7 = .c (.int .i64 (a : Nat)) ∧ σ = hpB k l' ∧ Sub l0 l') ?_ ?_
  · refine AW.block ?_   -- 0
    refine AW.loop (fun m s σ => ∃ a b l', m + a = l0.length ∧ b = a + 20 ∧ s.t 0 = .gl k ∧ s.t 1 = .c (.int .i64 l0.length) ∧ s.t 2 = .fn (.func 64) [] [] ∧ s.t 6 = .c (.int .i64 ((20 : Nat) : Int)) ∧ s.t 7 = .c (.int .i64 (a : Nat)) ∧ s.t 8 = .c (.int .i64 (b : Nat)) ∧ σ = hpB k l' ∧ Sub l0 l') l0.length ?_ ?_
    · refine ⟨0, 20, l0, rfl, rfl, ?_⟩
      all_goals simp only [zs, reduceIte, Nat.reduceEqDiff, Nat.reduceLT, Nat.reduceLeDiff, Nat.reduceAdd, reduceCtorEq, Nat.reduceMul]
      exact ⟨rfl, rfl, rfl, rfl, fun _ h => h⟩
    rintro m s σ ⟨a, b, l', hm, hab, e0, e1, e2, e6, e7, e8, rfl, hs⟩
    refine AW.seq_k fun K3 h3 => ?_
    refine AW.seq_k fun K4 h4 => ?_
    all_goals refine AW.reg0 ?_
    all_goals iterate 3 (refine S.g rfl rfl fun K' k' => ?_; simp only [zz, reduceIte, Nat.reduceEqDiff, Nat.reduceAdd, e1, e8]; refine k' _ _ ?_; clear k' K')
    all_goals refine S.nil ?_
    all_goals simp only [ze, reduceIte, Nat.reduceEqDiff, Nat.reduceLT, Nat.reduceLeDiff, Nat.reduceAdd, reduceCtorEq, Nat.reduceMul, e1, e8]
    all_goals apply_assumption
    refine AW.cond (b := decide (b ≤ l0.length)) (by simp [ev]) (fun hc => ?_) (fun hc => ?_)
    · have hc := of_decide_eq_true hc
      refine AW.skip ?_
      all_goals simp only [zs, reduceIte, Nat.reduceEqDiff, Nat.reduceLT, Nat.reduceLeDiff, Nat.reduceAdd, reduceCtorEq, Nat.reduceMul]
      all_goals apply_assumption
      have hw : IntKind.i64.wrap ((b : Int) + (20 : Nat)) = ((b + 20 : Nat) : Int) := by rw [wrap_small _ (by omega) (by omega)]; rfl
      refine AW.block ?_   -- 1
      refine AW.seq_k fun K5 h5 => ?_
      all_goals refine AW.reg0 ?_
      all_goals iterate 4 (refine S.g rfl rfl fun K' k' => ?_; simp only [zz, reduceIte, Nat.reduceEqDiff, Nat.reduceAdd, e0, e2, e7, e8]; refine k' _ _ ?_; clear k' K')
      all_goals (refine S.g rfl rfl fun K' k' => ?_; simp only [zz, reduceIte, Nat.reduceEqDiff, Nat.reduceLT, Nat.reduceLeDiff, Nat.reduceAdd, reduceCtorEq, Nat.reduceMul, e0, e2, e7, e8]; refine (insort_spec l' k a b (by omega) (by rw [hs.1]; omega) (by rw [hs.1]; omega)).to fun v σ1 hv => ?_; obtain ⟨rfl, rfl⟩ := hv <;> (refine k' _ _ ?_; clear k' K'))
      all_goals refine S.nil ?_
      all_goals simp only [ze, reduceIte, Nat.reduceEqDiff, Nat.reduceLT, Nat.reduceLeDiff, Nat.reduceAdd, reduceCtorEq, Nat.reduceMul, e0, e2, e7, e8]
      all_goals apply_assumption
      refine AW.seq_k fun K6 h6 => ?_
      all_goals refine AW.reg0 ?_
      all_goals iterate 2 (refine S.g rfl rfl fun K' k' => ?_; simp only [zz, reduceIte, Nat.reduceEqDiff, Nat.reduceAdd, e8]; refine k' _ _ ?_; clear k' K')
      all_goals refine S.nil ?_
      all_goals simp only [ze, reduceIte, Nat.reduceEqDiff, Nat.reduceLT, Nat.reduceLeDiff, Nat.reduceAdd, reduceCtorEq, Nat.reduceMul, e8]
      all_goals apply_assumption
      all_goals refine AW.reg0 ?_
      all_goals iterate 4 (refine S.g rfl rfl fun K' k' => ?_; simp only [zz, reduceIte, Nat.reduceEqDiff, Nat.reduceAdd, e8, e6, hw]; refine k' _ _ ?_; clear k' K')
      all_goals refine S.nil ?_
      all_goals simp only [ze, reduceIte, Nat.reduceEqDiff, Nat.reduceLT, Nat.reduceLeDiff, Nat.reduceAdd, reduceCtorEq, Nat.reduceMul, e8, e6, hw]
      exact ⟨m - 20, by omega, b, b + 20, _, by omega, rfl, e0, e1, e2, rfl, rfl, rfl, hs.trans (insort_sub a b l')⟩
    · have hc := of_decide_eq_false hc
      refine AW.exit ?_
      all_goals simp only [zs, reduceIte, Nat.reduceEqDiff, Nat.reduceLT, Nat.reduceLeDiff, Nat.reduceAdd, reduceCtorEq, Nat.reduceMul]
      exact ⟨a, l', by omega, e0, e1, e2, e6, e7, rfl, hs⟩
  rintro s0 σ0 ⟨a, l', ha, e0, e1, e2, e6, e7, rfl, hs⟩
  refine AW.seq_k fun K7 h7 => ?_
  all_goals refine AW.reg0 ?_
  all_goals iterate 4 (refine S.g rfl rfl fun K' k' => ?_; simp only [zz, reduceIte, Nat.reduceEqDiff, Nat.reduceAdd, e0, e1, e2, e7]; refine k' _ _ ?_; clear k' K')
  all_goals (refine S.g rfl rfl fun K' k' => ?_; simp only [zz, reduceIte, Nat.reduceEqDiff, Nat.reduceLT, Nat.reduceLeDiff, Nat.reduceAdd, reduceCtorEq, Nat.reduceMul, e0, e1, e2, e7]; refine (insort_spec l' k a l0.length (by omega) (by rw [hs.1]; omega) (by rw [hs.1]; omega)).to fun v σ1 hv => ?_; obtain ⟨rfl, rfl⟩ := hv <;> (refine k' _ _ ?_; clear k' K'))
  all_goals refine S.nil ?_
  all_goals simp only [ze, reduceIte, Nat.reduceEqDiff, Nat.reduceLT, Nat.reduceLeDiff, Nat.reduceAdd, reduceCtorEq, Nat.reduceMul, e0, e1, e2, e7]
  all_goals apply_assumption
  have hs2 := hs.trans (insort_sub a l0.length l')
  generalize insort a l0.length l' = l1 at hs2 ⊢
  clear hs
  refine AW.block ?_   -- 2
  refine AW.loop (fun m s σ => ∃ c l', m = l0.length - c ∧ 20 ≤ c ∧ c < 4294967296 ∧ s.t 0 = .gl k ∧ s.t 1 = .c (.int .i64 l0.length) ∧ s.t 2 = .fn (.func 64) [] [] ∧ s.t 6 = .c (.int .i64 (c : Nat)) ∧ σ = hpB k l' ∧ Sub l0 l') (l0.length - 20) ?_ ?_
  · refine ⟨20, l1, rfl, by omega, by omega, ?_⟩
    all_goals simp only [zs, reduceIte, Nat.reduceEqDiff, Nat.reduceLT, Nat.reduceLeDiff, Nat.reduceAdd, reduceCtorEq, Nat.reduceMul]
    exact ⟨e0, e1, e2, e6, hs2⟩
  clear e0 e1 e2 e6 e7 hs2 ha
  rintro m s σ ⟨c, l', hm, hc1, hc2, e0, e1, e2, e6, rfl, hs⟩
  refine AW.seq_k fun K8 h8 => ?_
  refine AW.seq_k fun K9 h9 => ?_
  all_goals refine AW.reg0 ?_
  all_goals iterate 3 (refine S.g rfl rfl fun K' k' => ?_; simp only [zz, reduceIte, Nat.reduceEqDiff, Nat.reduceAdd, e1, e6]; refine k' _ _ ?_; clear k' K')
  all_goals refine S.nil ?_
  all_goals simp only [ze, reduceIte, Nat.reduceEqDiff, Nat.reduceLT, Nat.reduceLeDiff, Nat.reduceAdd, reduceCtorEq, Nat.reduceMul, e1, e6]
  all_goals apply_assumption
  refine AW.cond (b := decide (c < l0.length)) (by simp [ev]) (fun hc => ?_) (fun hc => ?_)
  · have hc := of_decide_eq_true hc
    refine AW.skip ?_
    all_goals simp only [zs, reduceIte, Nat.reduceEqDiff, Nat.reduceLT, Nat.reduceLeDiff, Nat.reduceAdd, reduceCtorEq, Nat.reduceMul]
    all_goals apply_assumption
    have hw : IntKind.i64.wrap (2 * (c : Int)) = ((2 * c : Nat) : Int) := by rw [wrap_small _ (by omega) (by omega)]; rfl
    have hw' : IntKind.i64.wrap ((c : Int) * 2) = ((2 * c : Nat) : Int) := by rw [wrap_small _ (by omega) (by omega)]; omega
    refine AW.block ?_   -- 3
    refine AW.seq_k fun K10 h10 => ?_
    all_goals refine AW.reg0 ?_
    all_goals iterate 4 (refine S.g rfl rfl fun K' k' => ?_; simp only [zz, reduceIte, Nat.reduceEqDiff, Nat.reduceAdd, e6, hw]; refine k' _ _ ?_; clear k' K')
    all_goals refine S.nil ?_
    all_goals simp only [ze, reduceIte, Nat.reduceEqDiff, Nat.reduceLT, Nat.reduceLeDiff, Nat.reduceAdd, reduceCtorEq, Nat.reduceMul, e6, hw]
    all_goals apply_assumption
    refine AW.seq_j (fun s σ => ∃ a l', a ≤ l0.length ∧ s.t 0 = .gl k ∧ s.t 1 = .c (.int .i64 l0.length) ∧ s.t 2 = .fn (.func 64) [] [] ∧ s.t 6 = .c (.int .i64 (c : Nat)) ∧ s.t 7 = .c (.int .i64 (a : Nat)) ∧ σ = hpB k l' ∧ Sub l0 l') ?_ ?_
    · refine AW.block ?_   -- 4
      refine AW.loop (fun m s σ => ∃ a b l', m + a = l0.length ∧ b = a + 2 * c ∧ s.t 0 = .gl k ∧ s.t 1 = .c (.int .i64 l0.length) ∧ s.t 2 = .fn (.func 64) [] [] ∧ s.t 6 = .c (.int .i64 (c : Nat)) ∧ s.t 7 = .c (.int .i64 (a : Nat)) ∧ s.t 8 = .c (.int .i64 (b : Nat)) ∧ σ = hpB k l' ∧ Sub l0 l') l0.length ?_ ?_
      · refine ⟨0, 2 * c, l', rfl, by omega, ?_⟩
        all_goals simp only [zs, reduceIte, Nat.reduceEqDiff, Nat.reduceLT, Nat.reduceLeDiff, Nat.reduceAdd, reduceCtorEq, Nat.reduceMul]
        exact ⟨e0, e1, e2, e6, rfl, hs⟩
      clear hs e0 e1 e2 e6
      rintro m s σ ⟨a, b, l', hm, hab, e0, e1, e2, e6, e7, e8, rfl, hs⟩
      refine AW.seq_k fun K11 h11 => ?_
      refine AW.seq_k fun K12 h12 => ?_
      all_goals refine AW.reg0 ?_
      all_goals iterate 3 (refine S.g rfl rfl fun K' k' => ?_; simp only [zz, reduceIte, Nat.reduceEqDiff, Nat.reduceAdd, e1, e8]; refine k' _ _ ?_; clear k' K')
      all_goals refine S.nil ?_
      all_goals simp only [ze, reduceIte, Nat.reduceEqDiff, Nat.reduceLT, Nat.reduceLeDiff, Nat.reduceAdd, reduceCtorEq, Nat.reduceMul, e1, e8]
      all_goals apply_assumption
      refine AW.cond (b := decide (b ≤ l0.length)) (by simp [ev]) (fun hc => ?_) (fun hc => ?_)
      · have hc := of_decide_eq_true hc
        refine AW.skip ?_
        all_goals simp only [zs, reduceIte, Nat.reduceEqDiff, Nat.reduceLT, Nat.reduceLeDiff, Nat.reduceAdd, reduceCtorEq, Nat.reduceMul]
        all_goals apply_assumption
        have hw3 : IntKind.i64.wrap ((a : Int) + c) = ((a + c : Nat) : Int) := by rw [wrap_small _ (by omega) (by omega)]; rfl
        have hw4 : IntKind.i64.wrap ((b : Int) + (2 * c : Nat)) = ((b + 2 * c : Nat) : Int) := by rw [wrap_small _ (by omega) (by omega)]; rfl
        refine AW.block ?_   -- 5
        refine AW.seq_k fun K13 h13 => ?_
        all_goals refine AW.reg0 ?_
        all_goals iterate 7 (refine S.g rfl rfl fun K' k' => ?_; simp only [zz, reduceIte, Nat.reduceEqDiff, Nat.reduceAdd, e0, e2, e6, e7, e8, hw3]; refine k' _ _ ?_; clear k' K')
        all_goals (refine S.g rfl rfl fun K' k' => ?_; simp only [zz, reduceIte, Nat.reduceEqDiff, Nat.reduceLT, Nat.reduceLeDiff, Nat.reduceAdd, reduceCtorEq, Nat.reduceMul, e0, e2, e6, e7, e8, hw3]; refine (sym_weak k (b - a) l' a (a + c) b (by omega) (by omega) (by omega) (by rw [hs.1]; omega) (by rw [hs.1]; omega)).to fun v σ1 hv => ?_; obtain ⟨rfl, l3, hl3, rfl⟩ := hv <;> (refine k' _ _ ?_; clear k' K'))
        all_goals refine S.nil ?_
        all_goals simp only [ze, reduceIte, Nat.reduceEqDiff, Nat.reduceLT, Nat.reduceLeDiff, Nat.reduceAdd, reduceCtorEq, Nat.reduceMul, e0, e2, e6, e7, e8, hw3]
        all_goals apply_assumption
        refine AW.seq_k fun K14 h14 => ?_
        all_goals refine AW.reg0 ?_
        all_goals iterate 2 (refine S.g rfl rfl fun K' k' => ?_; simp only [zz, reduceIte, Nat.reduceEqDiff, Nat.reduceAdd, e8]; refine k' _ _ ?_; clear k' K')
        all_goals refine S.nil ?_
        all_goals simp only [ze, reduceIte, Nat.reduceEqDiff, Nat.reduceLT, Nat.reduceLeDiff, Nat.reduceAdd, reduceCtorEq, Nat.reduceMul, e8]
        all_goals apply_assumption
        all_goals refine AW.reg0 ?_
        all_goals iterate 5 (refine S.g rfl rfl fun K' k' => ?_; simp only [zz, reduceIte, Nat.reduceEqDiff, Nat.reduceAdd, e8, e6, hw, hw4]; refine k' _ _ ?_; clear k' K')
        all_goals refine S.nil ?_
        all_goals simp only [ze, reduceIte, Nat.reduceEqDiff, Nat.reduceLT, Nat.reduceLeDiff, Nat.reduceAdd, reduceCtorEq, Nat.reduceMul, e8, e6, hw, hw4]
        exact ⟨m - 2 * c, by omega, b, b + 2 * c, _, by omega, rfl, e0, e1, e2, rfl, rfl, rfl, hs.trans hl3⟩
      · have hc := of_decide_eq_false hc
        refine AW.exit ?_
        all_goals simp only [zs, reduceIte, Nat.reduceEqDiff, Nat.reduceLT, Nat.reduceLeDiff, Nat.reduceAdd, reduceCtorEq, Nat.reduceMul]
        exact ⟨a, l', by omega, e0, e1, e2, e6, e7, rfl, hs⟩
    clear hs e0 e1 e2 e6
    rintro s0 σ0 ⟨a, l', ha, e0, e1, e2, e6, e7, rfl, hs⟩
    have hw3 : IntKind.i64.wrap ((a : Int) + c) = ((a + c : Nat) : Int) := by rw [wrap_small _ (by omega) (by omega)]; rfl
    refine AW.seq_k fun K15 h15 => ?_
    refine AW.seq_k fun K16 h16 => ?_
    all_goals refine AW.reg0 ?_
    all_goals iterate 4 (refine S.g rfl rfl fun K' k' => ?_; simp only [zz, reduceIte, Nat.reduceEqDiff, Nat.reduceAdd, e6, e7, hw3]; refine k' _ _ ?_; clear k' K')
    all_goals refine S.nil ?_
    all_goals simp only [ze, reduceIte, Nat.reduceEqDiff, Nat.reduceLT, Nat.reduceLeDiff, Nat.reduceAdd, reduceCtorEq, Nat.reduceMul, e6, e7, hw3]
    all_goals apply_assumption
    refine AW.seq_k fun K17 h17 => ?_
    all_goals refine AW.reg0 ?_
    all_goals iterate 3 (refine S.g rfl rfl fun K' k' => ?_; simp only [zz, reduceIte, Nat.reduceEqDiff, Nat.reduceAdd, e1]; refine k' _ _ ?_; clear k' K')
    all_goals refine S.nil ?_
    all_goals simp only [ze, reduceIte, Nat.reduceEqDiff, Nat.reduceLT, Nat.reduceLeDiff, Nat.reduceAdd, reduceCtorEq, Nat.reduceMul, e1]
    all_goals apply_assumption
    refine AW.cond (b := decide (a + c < l0.length)) (by simp [ev]) (fun hd => ?_) (fun hd => ?_)
    · have hd := of_decide_eq_true hd
      all_goals refine AW.reg0 ?_
      all_goals iterate 5 (refine S.g rfl rfl fun K' k' => ?_; simp only [zz, reduceIte, Nat.reduceEqDiff, Nat.reduceAdd, e0, e1, e2, e7]; refine k' _ _ ?_; clear k' K')
      all_goals (refine S.g rfl rfl fun K' k' => ?_; simp only [zz, reduceIte, Nat.reduceEqDiff, Nat.reduceLT, Nat.reduceLeDiff, Nat.reduceAdd, reduceCtorEq, Nat.reduceMul, e0, e1, e2, e7]; refine (sym_weak k (l0.length - a) l' a (a + c) l0.length (by omega) (by omega) (by omega) (by rw [hs.1]; omega) (by rw [hs.1]; omega)).to fun v σ1 hv => ?_; obtain ⟨rfl, l3, hl3, rfl⟩ := hv <;> (refine k' _ _ ?_; clear k' K'))
      all_goals refine S.nil ?_
      all_goals simp only [ze, reduceIte, Nat.reduceEqDiff, Nat.reduceLT, Nat.reduceLeDiff, Nat.reduceAdd, reduceCtorEq, Nat.reduceMul, e0, e1, e2, e7]
      all_goals apply_assumption
      all_goals refine AW.reg0 ?_
      all_goals iterate 3 (refine S.g rfl rfl fun K' k' => ?_; simp only [zz, reduceIte, Nat.reduceEqDiff, Nat.reduceAdd, e6, hw']; refine k' _ _ ?_; clear k' K')
      all_goals refine S.nil ?_
      all_goals simp only [ze, reduceIte, Nat.reduceEqDiff, Nat.reduceLT, Nat.reduceLeDiff, Nat.reduceAdd, reduceCtorEq, Nat.reduceMul, e6, hw']
      exact ⟨m - c, by omega, 2 * c, _, by omega, by omega, by omega, e0, e1, e2, rfl, rfl, hs.trans hl3⟩
    · refine AW.skip ?_
      all_goals simp only [zs, reduceIte, Nat.reduceEqDiff, Nat.reduceLT, Nat.reduceLeDiff, Nat.reduceAdd, reduceCtorEq, Nat.reduceMul]
      all_goals apply_assumption
      all_goals refine AW.reg0 ?_
      all_goals iterate 3 (refine S.g rfl rfl fun K' k' => ?_; simp only [zz, reduceIte, Nat.reduceEqDiff, Nat.reduceAdd, e6, hw']; refine k' _ _ ?_; clear k' K')
      all_goals refine S.nil ?_
      all_goals simp only [ze, reduceIte, Nat.reduceEqDiff, Nat.reduceLT, Nat.reduceLeDiff, Nat.reduceAdd, reduceCtorEq, Nat.reduceMul, e6, hw']
      exact ⟨m - c, by omega, 2 * c, _, by omega, by omega, by omega, e0, e1, e2, rfl, rfl, hs⟩
  · refine AW.exit ?_
    all_goals simp only [zs, reduceIte, Nat.reduceEqDiff, Nat.reduceLT, Nat.reduceLeDiff, Nat.reduceAdd, reduceCtorEq, Nat.reduceMul]
    exact ⟨rfl, l', hs, rfl⟩
theorem sort_weak (l : List Bd) (k : Nat) (hn : l.length < 2147483648) :
    ACalls Try.prog 63 [.gl k, .fn (.func 64) [] []] (hpB k l) (hpS k l) := by
  refine ACalls.intro Try.call63 Try.func63 rfl Try.ntmps63 Try.results63 (by simp) ?_
  have hpb : (hpB k l).gr k = some ((42, 6), l.map encBd) := by simp [hpB]
  refine AW.mono (Q := thenS (fun s' σ' => ∃ l', Sub l l' ∧ σ' = hpB k l') (fun _ _ _ => False)) ?_ ?_
  · clear hpb; unfold hpB
    all_goals refine AW.reg0 ?_
    all_goals iterate 4 (refine S.g rfl rfl fun K' k' => ?_; simp only [zz, reduceIte, Nat.reduceEqDiff, Nat.reduceLT, Nat.reduceLeDiff, Nat.reduceAdd, reduceCtorEq, Nat.reduceMul, sl22, el22, ok42, sz42, ag42]; refine k' _ _ ?_; clear k' K')
    all_goals (refine S.g rfl rfl fun K' k' => ?_; simp only [zz, reduceIte, Nat.reduceEqDiff, Nat.reduceLT, Nat.reduceLeDiff, Nat.reduceAdd, reduceCtorEq, Nat.reduceMul]; refine (stable_weak l k (by omega)).to fun v σ1 hv => ?_; obtain ⟨rfl, l2, hl2, rfl⟩ := hv <;> (refine k' _ _ ?_; clear k' K'))
    all_goals refine S.nil ?_
    all_goals simp only [ze, reduceIte, Nat.reduceEqDiff, Nat.reduceLT, Nat.reduceLeDiff, Nat.reduceAdd, reduceCtorEq, Nat.reduceMul]
    exact ⟨l2, hl2, rfl⟩
  rintro e s σ hq
  cases e with
  | normal =>
    obtain ⟨l2, hl2, rfl⟩ : ∃ l', Sub l l' ∧ σ = hpB k l' := hq
    all_goals simp only [zs, reduceIte, Nat.reduceEqDiff, Nat.reduceLT, Nat.reduceLeDiff, Nat.reduceAdd, reduceCtorEq, Nat.reduceMul]
    exact ⟨rfl, l2, hl2, rfl⟩
  | _ => exact hq.elim
end Go.Abs.M
namespace Go.Abs.M
open Go Go.Abs Go.Proofs
set_option maxRecDepth 20000
set_option linter.unusedSimpArgs false
set_option linter.unusedVariables false
def mrg : List Bd → List Bd → List Bd
  | [], b => b
  | x :: a, [] => x :: a
  | x :: a, y :: b => if leS x.var y.var = true then x :: mrg a (y :: b) else y :: mrg (x :: a) b
termination_by a b => a.length + b.length
theorem mrg_nil (a : List Bd) : mrg a [] = a := by
  cases a <;> simp [mrg]
theorem mrg_len (a b : List Bd) : (mrg a b).length = a.length + b.length := by
  fun_induction mrg a b <;> simp_all <;> omega
theorem mrg_mem (a b : List Bd) : ∀ x ∈ mrg a b, x ∈ a ++ b := by
  fun_induction mrg a b
  · intro x hx; simpa using hx
  · intro x hx; simpa using hx
  · rename_i ih
    intro z hz
    rcases List.mem_cons.1 hz with rfl | hz
    · simp
    · have := ih z hz; simp at this ⊢; rcases this with h | h | h <;> simp_all
  · rename_i ih
    intro z hz
    rcases List.mem_cons.1 hz with rfl | hz
    · simp
    · have := ih z hz; simp at this ⊢; rcases this with h | h | h <;> simp [h]
/-- A list of the call's own, collected in the variable 't'. -/
def own (s : St) (σ : Hp) (t : Nat) (l : List Bd) : Prop := (l = [] ∧ s.t t = .c (.slice none 0 0) ∧ σ = Hp.empty) ∨ ∃ g, s.t t = .gl g ∧ σ = hpB g l
end Go.Abs.M
namespace Go.Abs.M
open Go Go.Abs Go.Proofs
set_option maxRecDepth 20000
set_option linter.unusedSimpArgs false
set_option linter.unusedVariables false
theorem insort_nil : PCalls Try.prog 128 [.c (.slice none 0 0), .c (.int .i64 0), .c (.int .i64 0), .fn (.func 64) [] []] (fun v => v = .tup []) := by
  refine PCalls.intro Try.call128 Try.func128 rfl Try.ntmps128 Try.results128 (by simp) ?_
  have hw1 : IntKind.i64.wrap ((0 : Int) + 1) = 1 := by rw [wrap_small _ (by omega) (by omega)]; rfl
  refine AW.seq_k fun K1 h1 => ?_
  all_goals refine AW.reg0 ?_
  all_goals iterate 3 (refine S.g rfl rfl fun K' k' => ?_; simp only [zz, reduceIte, Nat.reduceEqDiff, Nat.reduceAdd, hw1]; refine k' _ _ ?_; clear k' K')
  all_goals refine S.nil ?_
  all_goals simp only [ze, reduceIte, Nat.reduceEqDiff, Nat.reduceLT, Nat.reduceLeDiff, Nat.reduceAdd, reduceCtorEq, Nat.reduceMul, hw1]
  all_goals apply_assumption
  refine AW.block ?_   -- 0
  refine AW.loop (fun m s σ => s.t 2 = .c (.int .i64 0) ∧ s.t 8 = .c (.int .i64 1) ∧ σ = Hp.empty) 0 ?_ ?_
  · all_goals simp only [zs, reduceIte, Nat.reduceEqDiff, Nat.reduceLT, Nat.reduceLeDiff, Nat.reduceAdd, reduceCtorEq, Nat.reduceMul]
  rintro m s σ ⟨e2, e8, rfl⟩
  refine AW.seq_k fun K2 h2 => ?_
  refine AW.seq_k fun K3 h3 => ?_
  all_goals refine AW.reg0 ?_
  all_goals iterate 3 (refine S.g rfl rfl fun K' k' => ?_; simp only [zz, reduceIte, Nat.reduceEqDiff, Nat.reduceAdd, e2, e8]; refine k' _ _ ?_; clear k' K')
  all_goals refine S.nil ?_
  all_goals simp only [ze, reduceIte, Nat.reduceEqDiff, Nat.reduceLT, Nat.reduceLeDiff, Nat.reduceAdd, reduceCtorEq, Nat.reduceMul, e2, e8]
  all_goals apply_assumption
  refine AW.cond (b := false) (by simp [ev]) (fun hc => by cases hc) (fun hc => AW.exit ?_)
  all_goals simp only [zs, reduceIte, Nat.reduceEqDiff, Nat.reduceLT, Nat.reduceLeDiff, Nat.reduceAdd, reduceCtorEq, Nat.reduceMul]
  rfl
theorem stable_nil : PCalls Try.prog 104 [.c (.slice none 0 0), .c (.int .i64 0), .fn (.func 64) [] []] (fun v => v = .tup []) := by
  refine PCalls.intro Try.call104 Try.func104 rfl Try.ntmps104 Try.results104 (by simp) ?_
  refine AW.seq_k fun K1 h1 => ?_
  all_goals refine AW.reg0 ?_
  all_goals (refine S.g rfl rfl fun K' k' => ?_; simp only [zz, reduceIte, Nat.reduceEqDiff, Nat.reduceAdd]; refine k' _ _ ?_; clear k' K')
  all_goals refine S.nil ?_
  all_goals simp only [ze, reduceIte, Nat.reduceEqDiff, Nat.reduceLT, Nat.reduceLeDiff, Nat.reduceAdd, reduceCtorEq, Nat.reduceMul]
  all_goals apply_assumption
  refine AW.seq_k fun K2 h2 => ?_
  all_goals refine AW.reg0 ?_
  all_goals iterate 3 (refine S.g rfl rfl fun K' k' => ?_; simp only [zz, reduceIte, Nat.reduceEqDiff, Nat.reduceAdd]; refine k' _ _ ?_; clear k' K')
  all_goals refine S.nil ?_
  all_goals simp only [ze, reduceIte, Nat.reduceEqDiff, Nat.reduceLT, Nat.reduceLeDiff, Nat.reduceAdd, reduceCtorEq, Nat.reduceMul]
  all_goals apply_assumption
  refine AW.seq_k fun K3 h3 => ?_
  refine AW.block ?_   -- 0
  refine AW.loop (fun m s σ => σ = Hp.empty ∧ s.t 0 = .c (.slice none 0 0) ∧ s.t 1 = .c (.int .i64 0) ∧ s.t 2 = .fn (.func 64) [] [] ∧ s.t 6 = .c (.int .i64 20) ∧ s.t 7 = .c (.int .i64 0) ∧ s.t 8 = .c (.int .i64 20)) 0 ?_ ?_
  · all_goals simp only [zs, reduceIte, Nat.reduceEqDiff, Nat.reduceLT, Nat.reduceLeDiff, Nat.reduceAdd, reduceCtorEq, Nat.reduceMul]
  rintro m s σ ⟨rfl, e0, e1, e2, e6, e7, e8⟩
  refine AW.seq_k fun K4 h4 => ?_
  refine AW.seq_k fun K5 h5 => ?_
  all_goals refine AW.reg0 ?_
  all_goals iterate 3 (refine S.g rfl rfl fun K' k' => ?_; simp only [zz, reduceIte, Nat.reduceEqDiff, Nat.reduceAdd, e1, e8]; refine k' _ _ ?_; clear k' K')
  all_goals refine S.nil ?_
  all_goals simp only [ze, reduceIte, Nat.reduceEqDiff, Nat.reduceLT, Nat.reduceLeDiff, Nat.reduceAdd, reduceCtorEq, Nat.reduceMul, e1, e8]
  all_goals apply_assumption
  refine AW.cond (b := false) (by simp [ev]) (fun hc => by cases hc) (fun hc => AW.exit ?_)
  all_goals simp only [zs, reduceIte, Nat.reduceEqDiff, Nat.reduceLT, Nat.reduceLeDiff, Nat.reduceAdd, reduceCtorEq, Nat.reduceMul]
  all_goals apply_assumption
  refine AW.seq_k fun K6 h6 => ?_
  all_goals refine AW.region (T := { raw := fun d => d == 128 }) (fun _ _ h => by cases h) rfl ?_
  all_goals iterate 4 (refine S.g rfl rfl fun K' k' => ?_; simp only [zz, reduceIte, Nat.reduceEqDiff, Nat.reduceAdd, e0, e1, e2, e7]; refine k' _ _ ?_; clear k' K')
  all_goals (refine S.g rfl rfl fun K' k' => ?_; simp only [zz, reduceIte, Nat.reduceEqDiff, Nat.reduceLT, Nat.reduceLeDiff, Nat.reduceAdd, reduceCtorEq, Nat.reduceMul, e0, e1, e2, e7]; refine PCalls.eqto insort_nil ?_ <;> (refine k' _ _ ?_; clear k' K'))
  all_goals refine S.nil ?_
  all_goals simp only [ze, reduceIte, Nat.reduceEqDiff, Nat.reduceLT, Nat.reduceLeDiff, Nat.reduceAdd, reduceCtorEq, Nat.reduceMul, e0, e1, e2, e7]
  all_goals apply_assumption
  refine AW.block ?_   -- 2
  refine AW.loop (fun m s σ => σ = Hp.empty ∧ s.t 1 = .c (.int .i64 0) ∧ s.t 6 = .c (.int .i64 20)) 0 ?_ ?_
  · all_goals simp only [zs, reduceIte, Nat.reduceEqDiff, Nat.reduceLT, Nat.reduceLeDiff, Nat.reduceAdd, reduceCtorEq, Nat.reduceMul]
    exact ⟨e1, e6⟩
  rintro m2 s2 σ2 ⟨rfl, f1, f6⟩
  refine AW.seq_k fun K7 h7 => ?_
  refine AW.seq_k fun K8 h8 => ?_
  all_goals refine AW.reg0 ?_
  all_goals iterate 3 (refine S.g rfl rfl fun K' k' => ?_; simp only [zz, reduceIte, Nat.reduceEqDiff, Nat.reduceAdd, f1, f6]; refine k' _ _ ?_; clear k' K')
  all_goals refine S.nil ?_
  all_goals simp only [ze, reduceIte, Nat.reduceEqDiff, Nat.reduceLT, Nat.reduceLeDiff, Nat.reduceAdd, reduceCtorEq, Nat.reduceMul, f1, f6]
  all_goals apply_assumption
  refine AW.cond (b := false) (by simp [ev]) (fun hc => by cases hc) (fun hc => AW.exit ?_)
  all_goals simp only [zs, reduceIte, Nat.reduceEqDiff, Nat.reduceLT, Nat.reduceLeDiff, Nat.reduceAdd, reduceCtorEq, Nat.reduceMul]
  rfl
theorem sort_nil : PCalls Try.prog 63 [.c (.slice none 0 0), .fn (.func 64) [] []] (fun v => v = .tup []) := by
  refine PCalls.intro Try.call63 Try.func63 rfl Try.ntmps63 Try.results63 (by simp) ?_
  refine AW.mono (Q := thenS (fun s' σ' => σ' = Hp.empty) (fun _ _ _ => False)) ?_ ?_
  · skip
    all_goals refine AW.region (T := { raw := fun d => d == 104 }) (fun _ _ h => by cases h) rfl ?_
    all_goals iterate 4 (refine S.g rfl rfl fun K' k' => ?_; simp only [zz, reduceIte, Nat.reduceEqDiff, Nat.reduceLT, Nat.reduceLeDiff, Nat.reduceAdd, reduceCtorEq, Nat.reduceMul, sl22, el22, ok42, sz42, ag42]; refine k' _ _ ?_; clear k' K')
    all_goals (refine S.g rfl rfl fun K' k' => ?_; simp only [zz, reduceIte, Nat.reduceEqDiff, Nat.reduceLT, Nat.reduceLeDiff, Nat.reduceAdd, reduceCtorEq, Nat.reduceMul]; refine PCalls.eqto stable_nil ?_ <;> (refine k' _ _ ?_; clear k' K'))
    all_goals refine S.nil ?_
    all_goals simp only [ze, reduceIte, Nat.reduceEqDiff, Nat.reduceLT, Nat.reduceLeDiff, Nat.reduceAdd, reduceCtorEq, Nat.reduceMul]
  rintro e s σ hq
  cases e with
  | normal =>
    obtain rfl : σ = Hp.empty := hq
    all_goals simp only [zs, reduceIte, Nat.reduceEqDiff, Nat.reduceLT, Nat.reduceLeDiff, Nat.reduceAdd, reduceCtorEq, Nat.reduceMul]
    rfl
  | _ => exact hq.elim
theorem merge_nil : PCalls Try.prog 11 [.agg [.sl []], .agg [.sl []]] (fun v => v = .tup [.agg [.sl []], .c (.bool true)]) := by
  have hok : okP [] := fun _ h => by cases h
  have hpe : partErr [] = 0 := rfl
  refine PCalls.intro Try.call11 Try.func11 rfl Try.ntmps11 Try.results11 (by simp) ?_
  refine AW.seq_k fun K1 h1 => ?_
  all_goals refine AW.reg0 ?_
  all_goals iterate 4 (refine S.g rfl rfl fun K' k' => ?_; simp only [zz, reduceIte, Nat.reduceEqDiff, Nat.reduceLT, Nat.reduceLeDiff, Nat.reduceAdd, reduceCtorEq, Nat.reduceMul, ok24, sz24, ag24, zt24]; refine k' _ _ ?_; clear k' K')
  all_goals refine S.nil ?_
  all_goals simp only [ze, reduceIte, Nat.reduceEqDiff, Nat.reduceLT, Nat.reduceLeDiff, Nat.reduceAdd, reduceCtorEq, Nat.reduceMul]
  all_goals apply_assumption
  refine AW.seq_k fun K2 h2 => ?_
  refine AW.seq_k fun K3 h3 => ?_
  all_goals refine AW.reg0 ?_
  all_goals (refine S.g rfl rfl fun K' k' => ?_; simp only [zz, reduceIte, Nat.reduceEqDiff, Nat.reduceLT, Nat.reduceLeDiff, Nat.reduceAdd, reduceCtorEq, Nat.reduceMul, ok24, sz24, ag24, hpe]; refine k' _ _ ?_; clear k' K')
  all_goals (refine S.g rfl rfl fun K' k' => ?_; simp only [zz, reduceIte, Nat.reduceEqDiff, Nat.reduceLT, Nat.reduceLeDiff, Nat.reduceAdd, reduceCtorEq, Nat.reduceMul, hpe]; refine PCalls.eqto (check_part [] hok) ?_ <;> (refine k' _ _ ?_; clear k' K'))
  all_goals (refine S.g rfl rfl fun K' k' => ?_; simp only [zz, reduceIte, Nat.reduceEqDiff, Nat.reduceLT, Nat.reduceLeDiff, Nat.reduceAdd, reduceCtorEq, Nat.reduceMul, hpe]; refine S.bool fun b a9 => ?_; cases b <;> (try (exfalso; first | exact Bool.noConfusion a9 | (have h := of_decide_eq_true a9; omega) | (have h := of_decide_eq_false a9; omega))) <;> (refine k' _ _ ?_; clear k' K'))
  all_goals (refine S.g rfl rfl fun K' k' => ?_; simp only [zz, reduceIte, Nat.reduceEqDiff, Nat.reduceAdd, hpe]; refine k' _ _ ?_; clear k' K')
  all_goals (first | (refine S.y rfl rfl rfl rfl fun K' k' => ?_; simp only [zz, reduceIte, Nat.reduceEqDiff, Nat.reduceLT, Nat.reduceLeDiff, Nat.reduceAdd, reduceCtorEq, Nat.reduceMul, ok24, sz24, ag24, hpe]; refine k' _ _ ?_; clear k' K') | ((first | refine S.x rfl rfl rfl rfl fun K' k' => ?_ | refine S.u rfl rfl rfl rfl fun K' k' => ?_); simp only [ze, reduceIte, Nat.reduceEqDiff]; refine k' _ _ ?_; clear k' K'))
  all_goals (first | (refine S.y rfl rfl rfl rfl fun K' k' => ?_; simp only [zz, reduceIte, Nat.reduceEqDiff, Nat.reduceLT, Nat.reduceLeDiff, Nat.reduceAdd, reduceCtorEq, Nat.reduceMul, hpe]; refine PCalls.eqto (check_part [] hok) ?_ <;> (refine k' _ _ ?_; clear k' K')) | ((first | refine S.x rfl rfl rfl rfl fun K' k' => ?_ | refine S.u rfl rfl rfl rfl fun K' k' => ?_); simp only [ze, reduceIte, Nat.reduceEqDiff]; refine k' _ _ ?_; clear k' K'))
  all_goals (first | (refine S.y rfl rfl rfl rfl fun K' k' => ?_; simp only [zz, reduceIte, Nat.reduceEqDiff, Nat.reduceAdd, hpe]; refine k' _ _ ?_; clear k' K') | ((first | refine S.x rfl rfl rfl rfl fun K' k' => ?_ | refine S.u rfl rfl rfl rfl fun K' k' => ?_); simp only [ze, reduceIte, Nat.reduceEqDiff]; refine k' _ _ ?_; clear k' K'))
  all_goals (refine S.g rfl rfl fun K' k' => ?_; simp only [zz, reduceIte, Nat.reduceEqDiff, Nat.reduceAdd, hpe]; refine k' _ _ ?_; clear k' K')
  all_goals refine S.nil ?_
  all_goals simp only [ze, reduceIte, Nat.reduceEqDiff, Nat.reduceLT, Nat.reduceLeDiff, Nat.reduceAdd, reduceCtorEq, Nat.reduceMul, hpe]
  all_goals apply_assumption
  refine AW.cond (b := false) (by simp [ev]) (fun hc => by cases hc) (fun hc => AW.skip ?_)
  all_goals simp only [zs, reduceIte, Nat.reduceEqDiff, Nat.reduceLT, Nat.reduceLeDiff, Nat.reduceAdd, reduceCtorEq, Nat.reduceMul]
  all_goals apply_assumption
  have htot : tot [[], []] * 80 ≤ 140737488355328 := by simp [tot]
  refine AW.seq_k fun K4 h4 => ?_
  all_goals refine AW.reg0 ?_
  all_goals iterate 4 (refine S.g rfl rfl fun K' k' => ?_; simp only [zz, reduceIte, Nat.reduceEqDiff, Nat.reduceLT, Nat.reduceLeDiff, Nat.reduceAdd, reduceCtorEq, Nat.reduceMul, of24_0, ok22, sz22, ag22, List.flatten_cons, List.flatten_nil, List.nil_append, List.map_nil]; refine k' _ _ ?_; clear k' K')
  all_goals (refine S.g rfl rfl fun K' k' => ?_; simp only [zb, reduceIte, Nat.reduceEqDiff, Nat.reduceLT, Nat.reduceLeDiff, Nat.reduceAdd, reduceCtorEq, Nat.reduceMul, sl132, el132, ok22, sz22, ag22, zt22, by22, List.flatten_cons, List.flatten_nil, List.nil_append, List.map_nil]; refine ⟨rfl, (by simp), ?_⟩ <;> (refine k' _ _ ?_; clear k' K'))
  all_goals (refine S.g rfl rfl fun K' k' => ?_; simp only [zz, reduceIte, Nat.reduceEqDiff, Nat.reduceLT, Nat.reduceLeDiff, Nat.reduceAdd, reduceCtorEq, Nat.reduceMul, List.flatten_cons, List.flatten_nil, List.nil_append, List.map_nil]; refine PCalls.eqto (concat_frozen [[], []] (by simp) (by simp) htot) ?_ <;> (refine k' _ _ ?_; clear k' K'))
  all_goals (refine S.g rfl rfl fun K' k' => ?_; simp only [zz, reduceIte, Nat.reduceEqDiff, Nat.reduceLT, Nat.reduceLeDiff, Nat.reduceAdd, reduceCtorEq, Nat.reduceMul, zt24, pl24, List.flatten_cons, List.flatten_nil, List.nil_append, List.map_nil]; refine k' _ _ ?_; clear k' K')
  all_goals (refine S.g rfl rfl fun K' k' => ?_; simp only [zz, reduceIte, Nat.reduceEqDiff, Nat.reduceLT, Nat.reduceLeDiff, Nat.reduceAdd, reduceCtorEq, Nat.reduceMul, List.flatten_cons, List.flatten_nil, List.nil_append, List.map_nil]; refine ((clone_grow [] (by simp) (by simp)).to fun v σ1 hv => ?_); replace hv := hv.resolve_right (fun h => by obtain ⟨_, h, _⟩ := h; exact h rfl); obtain ⟨_, rfl, rfl⟩ := hv <;> (refine k' _ _ ?_; clear k' K'))
  all_goals iterate 2 (refine S.g rfl rfl fun K' k' => ?_; simp only [zz, reduceIte, Nat.reduceEqDiff, Nat.reduceLT, Nat.reduceLeDiff, Nat.reduceAdd, reduceCtorEq, Nat.reduceMul, zt24, ok24, sz24, ag24, List.flatten_cons, List.flatten_nil, List.nil_append, List.map_nil]; refine k' _ _ ?_; clear k' K')
  all_goals refine S.nil ?_
  all_goals simp only [ze, reduceIte, Nat.reduceEqDiff, Nat.reduceLT, Nat.reduceLeDiff, Nat.reduceAdd, reduceCtorEq, Nat.reduceMul, List.flatten_cons, List.flatten_nil, List.nil_append, List.map_nil]
  all_goals apply_assumption
  refine AW.seq_k fun K5 h5 => ?_
  all_goals refine AW.region (T := { raw := fun d => d == 63 }) (fun _ _ h => by cases h) rfl ?_
  all_goals iterate 2 (refine S.g rfl rfl fun K' k' => ?_; simp only [zz, reduceIte, Nat.reduceEqDiff, Nat.reduceLT, Nat.reduceLeDiff, Nat.reduceAdd, reduceCtorEq, Nat.reduceMul, of24_0, ok22, sz22, ag22]; refine k' _ _ ?_; clear k' K')
  all_goals (refine S.g rfl rfl fun K' k' => ?_; simp only [zz, reduceIte, Nat.reduceEqDiff, Nat.reduceLT, Nat.reduceLeDiff, Nat.reduceAdd, reduceCtorEq, Nat.reduceMul]; refine PCalls.eqto sort_nil ?_ <;> (refine k' _ _ ?_; clear k' K'))
  all_goals refine S.nil ?_
  all_goals simp only [ze, reduceIte, Nat.reduceEqDiff, Nat.reduceLT, Nat.reduceLeDiff, Nat.reduceAdd, reduceCtorEq, Nat.reduceMul]
  all_goals apply_assumption
  refine AW.seq_k fun K6 h6 => ?_
  refine AW.seq_k fun K7 h7 => ?_
  all_goals refine AW.reg0 ?_
  all_goals (refine S.g rfl rfl fun K' k' => ?_; simp only [zz, reduceIte, Nat.reduceEqDiff, Nat.reduceLT, Nat.reduceLeDiff, Nat.reduceAdd, reduceCtorEq, Nat.reduceMul, ok24, sz24, ag24, hpe]; refine k' _ _ ?_; clear k' K')
  all_goals (refine S.g rfl rfl fun K' k' => ?_; simp only [zz, reduceIte, Nat.reduceEqDiff, Nat.reduceLT, Nat.reduceLeDiff, Nat.reduceAdd, reduceCtorEq, Nat.reduceMul, hpe]; refine PCalls.eqto (check_part [] hok) ?_ <;> (refine k' _ _ ?_; clear k' K'))
  all_goals (refine S.g rfl rfl fun K' k' => ?_; simp only [zz, reduceIte, Nat.reduceEqDiff, Nat.reduceAdd, hpe]; refine k' _ _ ?_; clear k' K')
  all_goals refine S.nil ?_
  all_goals simp only [ze, reduceIte, Nat.reduceEqDiff, Nat.reduceLT, Nat.reduceLeDiff, Nat.reduceAdd, reduceCtorEq, Nat.reduceMul, hpe]
  all_goals apply_assumption
  refine AW.cond (b := false) (by simp [ev]) (fun hc => by cases hc) (fun hc => AW.skip ?_)
  all_goals simp only [zs, reduceIte, Nat.reduceEqDiff, Nat.reduceLT, Nat.reduceLeDiff, Nat.reduceAdd, reduceCtorEq, Nat.reduceMul]
  all_goals apply_assumption
  refine AW.seq_k fun K8 h8 => ?_
  all_goals refine AW.reg0 ?_
  all_goals iterate 3 (refine S.g rfl rfl fun K' k' => ?_; simp only [zz, reduceIte, Nat.reduceEqDiff, Nat.reduceLT, Nat.reduceLeDiff, Nat.reduceAdd, reduceCtorEq, Nat.reduceMul, ok24, sz24, ag24]; refine k' _ _ ?_; clear k' K')
  all_goals refine S.nil ?_
  all_goals simp only [ze, reduceIte, Nat.reduceEqDiff, Nat.reduceLT, Nat.reduceLeDiff, Nat.reduceAdd, reduceCtorEq, Nat.reduceMul]
  all_goals apply_assumption
  refine AW.ret ?_
  all_goals simp only [zs, reduceIte, Nat.reduceEqDiff, Nat.reduceLT, Nat.reduceLeDiff, Nat.reduceAdd, reduceCtorEq, Nat.reduceMul, qLoad, ok24, sz24, ag24, cut, List.drop_zero, List.take_succ_cons, List.take_zero, List.map]
end Go.Abs.M
namespace Go.Abs.M
open Go Go.Abs Go.Proofs
theorem bytesLess_eq' : ∀ (x y : List UInt8), Op.bytesLess x y = decide (x < y)
  | [], [] => by simp [Op.bytesLess]
  | _ :: _, [] => by simp [Op.bytesLess]
  | [], _ :: _ => by simp [Op.bytesLess]
  | a :: x, b :: y => by
    rw [Op.bytesLess, bytesLess_eq' x y]
    simp only [List.cons_lt_cons_iff]
    by_cases h1 : a < b <;> by_cases h2 : a = b <;> by_cases h3 : x < y <;> simp [h1, h2, h3]
theorem leS_iff (a b : ByteArray) : leS a b = true ↔ ¬ b.toList < a.toList := by
  simp only [leS, bytesLess_eq', Bool.or_eq_true, decide_eq_true_eq, beq_iff_eq]
  constructor
  · rintro (h | h)
    · exact List.lt_asymm h
    · rw [h]; exact List.lt_irrefl _
  · intro h
    have h : a.toList ≤ b.toList := h
    by_cases e : a.toList = b.toList
    · exact .inr e
    · rcases List.le_iff_lt_or_eq.1 h with h | h
      · exact .inl h
      · exact absurd h e
theorem leS_false (a b : ByteArray) : leS a b = false ↔ b.toList < a.toList := by
  rw [← Bool.not_eq_true, leS_iff, Decidable.not_not]
theorem leS_trans {a b c : ByteArray} (h : leS a b = true) (k : leS b c = true) : leS a c = true := by
  rw [leS_iff] at *
  exact List.le_trans (show a.toList ≤ b.toList from h) (show b.toList ≤ c.toList from k)
theorem leS_total {a b : ByteArray} (h : leS a b = false) : leS b a = true := by
  rw [leS_false] at h; rw [leS_iff]; exact List.lt_asymm h
theorem cmpS_neg (a b : ByteArray) : cmpS a b < 0 ↔ leS b a = false := by
  rw [leS_false]
  unfold cmpS
  rw [bytesLess_eq']
  by_cases h : a.toList < b.toList
  · simp [h]
  · simp only [h, decide_false, Bool.false_eq_true, if_false, Bool.false_or, iff_false]
    split <;> omega
def insL : List Bd → Bd → List Bd
  | [], y => [y]
  | x :: p, y => if leS x.var y.var = true then x :: insL p y else y :: x :: p
def Srt : List Bd → Prop
  | [] => True
  | x :: p => (∀ y ∈ p, leS x.var y.var = true) ∧ Srt p
theorem Srt.append {p q : List Bd} (h : Srt (p ++ q)) : Srt p ∧ Srt q ∧ ∀ x ∈ p, ∀ y ∈ q, leS x.var y.var = true := by
  induction p with
  | nil => exact ⟨trivial, h, fun x hx => by cases hx⟩
  | cons x p ih =>
    obtain ⟨h1, h2⟩ := h
    obtain ⟨a, b, c⟩ := ih h2
    refine ⟨⟨fun y hy => h1 y (List.mem_append_left _ hy), a⟩, b, fun z hz y hy => ?_⟩
    rcases List.mem_cons.1 hz with rfl | hz
    · exact h1 y (List.mem_append_right _ hy)
    · exact c z hz y hy
theorem insL_end {p : List Bd} {y : Bd} (h : ∀ x ∈ p, leS x.var y.var = true) : insL p y = p ++ [y] := by
  induction p with
  | nil => rfl
  | cons x p ih => simp only [insL]; rw [if_pos (h x List.mem_cons_self), ih (fun z hz => h z (List.mem_cons_of_mem _ hz))]; rfl
theorem insL_last {q : List Bd} {z y : Bd} (h : leS z.var y.var = false) : insL (q ++ [z]) y = insL q y ++ [z] := by
  induction q with
  | nil => simp [insL, h]
  | cons x q ih =>
    simp only [List.cons_append, insL]
    split
    · rw [ih]; rfl
    · rfl
theorem insL_mem {p : List Bd} {y z : Bd} : z ∈ insL p y ↔ z = y ∨ z ∈ p := by
  induction p with
  | nil => simp [insL]
  | cons x p ih =>
    simp only [insL]
    split
    · simp only [List.mem_cons, ih]
      constructor
      · rintro (h | h | h) <;> simp [h]
      · rintro (h | h | h) <;> simp [h]
    · simp only [List.mem_cons]
theorem insL_len (p : List Bd) (y : Bd) : (insL p y).length = p.length + 1 := by
  induction p with
  | nil => rfl
  | cons x p ih => simp only [insL]; split <;> simp [ih]
theorem insL_srt {p : List Bd} {y : Bd} (h : Srt p) : Srt (insL p y) := by
  induction p with
  | nil => exact ⟨(fun _ h => by cases h), trivial⟩
  | cons x p ih =>
    simp only [insL]
    split
    · rename_i hxy
      refine ⟨fun z hz => ?_, ih h.2⟩
      rcases insL_mem.1 hz with rfl | hz
      · exact hxy
      · exact h.1 z hz
    · rename_i hxy
      have hyx := leS_total (by simpa using hxy)
      refine ⟨fun z hz => ?_, h⟩
      rcases List.mem_cons.1 hz with rfl | hz
      · exact hyx
      · exact leS_trans hyx (h.1 z hz)
theorem sink_ins : ∀ (n : Nat) (p : List Bd) (y : Bd) (r : List Bd), p.length = n → Srt p → sink 0 n (p ++ y :: r) = insL p y ++ r := by
  intro n
  induction n with
  | zero => intro p y r hp _; rw [List.eq_nil_of_length_eq_zero hp]; rfl
  | succ n ih =>
    intro p y r hp hs
    obtain ⟨q, z, rfl⟩ : ∃ q z, p = q ++ [z] := by
      refine ⟨p.dropLast, p.getLast (by intro e; simp [e] at hp), ?_⟩
      exact (List.dropLast_concat_getLast _).symm
    have hq : q.length = n := by simpa using hp
    have g1 : (q ++ [z] ++ y :: r)[n + 1]? = some y := by simp [hq]
    have g2 : (q ++ [z] ++ y :: r)[n]? = some z := by simp [hq]
    simp only [sink, g1, g2]
    obtain ⟨hs1, hs2, hs3⟩ := hs.append
    by_cases hlt : cmpS y.var z.var < 0
    · rw [if_pos ⟨by omega, hlt⟩]
      have e : ((q ++ [z] ++ y :: r).set (n + 1) z).set n y = q ++ y :: (z :: r) := by
        subst hq
        simp
      rw [e, ih q y (z :: r) hq hs1, insL_last ((cmpS_neg _ _).1 hlt)]
      simp
    · rw [if_neg (fun h => hlt h.2)]
      have hzy : leS z.var y.var = true := by
        cases h : leS z.var y.var
        · exact absurd ((cmpS_neg _ _).2 h) hlt
        · rfl
      rw [insL_end (fun x hx => ?_)]
      · simp
      · rcases List.mem_append.1 hx with h | h
        · exact leS_trans (hs3 x h z (by simp)) hzy
        · simp at h; rw [h]; exact hzy
theorem insFrom_ins : ∀ (bs p r : List Bd), Srt p → insFrom 0 (p ++ (bs ++ r)) p.length bs.length = bs.foldl insL p ++ r := by
  intro bs
  induction bs with
  | nil => intro p r _; rfl
  | cons y bs ih =>
    intro p r hs
    have h := ih (insL p y) r (insL_srt hs)
    rw [insL_len] at h
    simp only [List.length_cons, insFrom, List.range'_succ, List.foldl_cons] at h ⊢
    rw [List.cons_append, sink_ins p.length p y (bs ++ r) rfl hs]
    exact h
theorem insort_eq (l : List Bd) : insort 0 l.length l = l.foldl insL [] := by
  cases l with
  | nil => rfl
  | cons x l =>
    have h := insFrom_ins l [x] [] ⟨(fun _ h => by cases h), trivial⟩
    simpa [insort, insL] using h
theorem foldl_skip {x : Bd} : ∀ {b a : List Bd}, (∀ y ∈ b, leS x.var y.var = true) → b.foldl insL (x :: a) = x :: b.foldl insL a := by
  intro b
  induction b with
  | nil => intro a _; rfl
  | cons y b ih =>
    intro a h
    simp only [List.foldl_cons, insL]
    rw [if_pos (h y List.mem_cons_self), ih (fun z hz => h z (List.mem_cons_of_mem _ hz))]
theorem foldl_srt : ∀ {b : List Bd}, Srt b → b.foldl insL [] = b := by
  intro b
  induction b with
  | nil => intro _; rfl
  | cons y b ih =>
    intro h
    simp only [List.foldl_cons, insL]
    rw [foldl_skip h.1, ih h.2]
theorem foldl_mrg (a b : List Bd) : Srt a → Srt b → b.foldl insL a = mrg a b := by
  fun_induction mrg a b
  · intro _ hb; exact foldl_srt hb
  · intro _ _; rfl
  · rename_i x a y b hxy ih
    intro ha hb
    rw [foldl_skip, ih ha.2 hb]
    intro z hz
    rcases List.mem_cons.1 hz with rfl | hz
    · exact hxy
    · exact leS_trans hxy (hb.1 z hz)
  · rename_i x a y b hxy ih
    intro ha hb
    rw [List.foldl_cons, insL, if_neg hxy, foldl_skip hb.1, ih ha hb.2]
theorem insort_mrg (a b : List Bd) (ha : Srt a) (hb : Srt b) : insort 0 (a ++ b).length (a ++ b) = mrg a b := by
  rw [insort_eq, List.foldl_append, foldl_srt ha, foldl_mrg a b ha hb]
theorem partFrom_srt (n : Nat) : ∀ (l : List Bd) (p : Option ByteArray) (sn : List (Int × Int)), partFrom n p sn l = 0 → Srt l ∧ ∀ q, p = some q → ∀ x ∈ l, leS q x.var = true := by
  intro l
  induction l with
  | nil => intro p sn _; exact ⟨trivial, fun _ _ _ h => by cases h⟩
  | cons x l ih =>
    intro p sn h
    simp only [partFrom] at h
    split at h
    · cases h
    · rename_i hx
      split at h
      · rename_i h1; exact absurd h h1
      · obtain ⟨h1, h2⟩ := ih _ _ h
        refine ⟨⟨fun y hy => h2 _ rfl y hy, h1⟩, fun q hq y hy => ?_⟩
        subst hq
        have hqx : leS q x.var = true := by
          cases e : leS x.var q
          · exact leS_total e
          · exact absurd (.inr (.inl (by simpa using e))) hx
        rcases List.mem_cons.1 hy with rfl | hy
        · exact hqx
        · exact leS_trans hqx (h2 _ rfl y hy)
theorem part_srt {l : List Bd} (h : partErr l = 0) : Srt l := by
  unfold partErr at h
  split at h
  · cases h
  · exact (partFrom_srt _ l none [] h).1
end Go.Abs.M
namespace Go.Abs.M
open Go Go.Abs Go.Proofs
set_option maxRecDepth 20000
set_option linter.unusedSimpArgs false
set_option linter.unusedVariables false
theorem merge_spec (a b : List Bd) (ha : okP a) (hb : okP b) (hat : ∀ x ∈ a ++ b, x.ev.attrs.length * 48 ≤ 140737488355328) :
    PCalls Try.prog 11 [.agg [.sl (a.map encBd)], .agg [.sl (b.map encBd)]] (fun v => v = mergeV a b (mrg a b)) := by
  have hab : okP (a ++ b) := fun x hx => by
    rcases List.mem_append.1 hx with h | h
    · exact ha x h
    · exact hb x h
  by_cases h0 : a ++ b = []
  · obtain ⟨rfl, rfl⟩ := List.append_eq_nil_iff.1 h0
    exact merge_nil.mono fun v h => by rw [h]; rw [mergeV, if_neg (by decide), mrg, if_neg (by decide)]; rfl
  by_cases hl : (a ++ b).length < 20
  · refine (merge_gen a b ha hb hat (fun p => p = mrg a b) ⟨_, rfl⟩ h0 fun hx k => (sort_small (a ++ b) k hl).mono fun v σ' h => ⟨h.1, _, ?_, ?_, h.2⟩).mono fun v h => ?_
    · intro x hx
      exact hab x ((insort_sub _ _ _).2 x hx)
    · exact insort_mrg a b (part_srt (Decidable.not_not.1 fun h => hx (.inl h))) (part_srt (Decidable.not_not.1 fun h => hx (.inr h)))
    · obtain ⟨p, rfl, rfl⟩ := h; rfl
  · refine (merge_gen a b ha hb hat (fun p => 12 < p.length) ⟨a ++ b, by omega⟩ h0 fun hx k => ?_).mono fun v h => ?_
    · have h1 : a.length ≤ 12 := by
        by_cases h : 12 < a.length
        · exact absurd (.inl (by simp [partErr, h])) hx
        · omega
      have h2 : b.length ≤ 12 := by
        by_cases h : 12 < b.length
        · exact absurd (.inr (by simp [partErr, h])) hx
        · omega
      refine (sort_weak (a ++ b) k (by rw [List.length_append]; omega)).mono fun v σ' h => ?_
      obtain ⟨h3, p, hp, h4⟩ := h
      exact ⟨h3, p, fun x hx => hab x (hp.2 x hx), by rw [hp.1]; omega, h4⟩
    · obtain ⟨p, hp, rfl⟩ := h
      have h1 : partErr p ≠ 0 := by simp [partErr, hp]
      have hm := mrg_len a b
      rw [List.length_append] at hl
      have h2 : partErr (mrg a b) ≠ 0 := by simp [partErr, show 12 < (mrg a b).length by omega]
      rw [mergeV, mergeV, if_pos h1, if_pos h2]
end Go.Abs.M
namespace Go.Abs.M
open Go Go.Abs Go.Proofs
def tN : ByteArray := ⟨#[116]⟩
def bA : Bd := ⟨⟨#[97]⟩, ⟨0, 1, 5, tN, []⟩⟩
def bB : Bd := ⟨⟨#[98]⟩, ⟨1, 0, 7, tN, []⟩⟩
def bC : Bd := ⟨⟨#[99]⟩, ⟨0, 1, 5, tN, []⟩⟩
theorem ba_list (x : UInt8) : (ByteArray.mk #[x]).toList = [x] := by simp
theorem leS_one (x y : UInt8) : leS ⟨#[x]⟩ ⟨#[y]⟩ = (decide (x < y) || x == y) := by
  simp only [leS, ba_list, Op.bytesLess]
  by_cases h : x < y <;> by_cases k : x = y <;> simp [h, k]
theorem named_A (n : Nat) : named n bA = true := by simp [named, bA, isName, nameL, nameC, letter, ByteArray.size]
theorem named_B (n : Nat) : named n bB = true := by simp [named, bB, isName, nameL, nameC, letter, ByteArray.size]
theorem named_C (n : Nat) : named n bC = true := by simp [named, bC, isName, nameL, nameC, letter, ByteArray.size]
theorem err_A : evErr bA.ev = 0 := by simp [evErr, bA, isName, nameL, nameC, letter, ByteArray.size, timeOk, attrsErr, attrsFrom, tN]
theorem err_B : evErr bB.ev = 0 := by simp [evErr, bB, isName, nameL, nameC, letter, ByteArray.size, timeOk, attrsErr, attrsFrom, tN]
theorem err_C : evErr bC.ev = 0 := by simp [evErr, bC, isName, nameL, nameC, letter, ByteArray.size, timeOk, attrsErr, attrsFrom, tN]
theorem part_A : partErr [bA] = 0 := by simp [partErr, partFrom, named_A, err_A]
theorem part_B : partErr [bB] = 0 := by simp [partErr, partFrom, named_B, err_B]
theorem part_C : partErr [bC] = 0 := by simp [partErr, partFrom, named_C, err_C]
theorem mrg_BA : mrg [bB] [bA] = [bA, bB] := by
  rw [mrg, if_neg (by simp [bA, bB, leS_one]), mrg_nil]
theorem mrg_AC : mrg [bA] [bC] = [bA, bC] := by
  rw [mrg, if_pos (by simp [bA, bC, leS_one]), mrg]
theorem part_AB : partErr [bA, bB] = 0 := by
  simp [partErr, partFrom, named_A, named_B, err_A, err_B]
  simp [bA, bB, leS_one]
theorem part_AC : partErr [bA, bC] ≠ 0 := by
  simp [partErr, partFrom, named_A, err_A]
  simp [bA, bC]
theorem ok_one' {b : Bd} (h1 : b.var.size < 4611686018427387904) (h2 : b.ev.type.size < 4611686018427387904) (h3 : b.ev.attrs = []) : okP [b] := by
  intro x hx
  simp at hx
  subst hx
  exact ⟨h1, ⟨h2, by rw [h3]; decide, by rw [h3]; intro a ha; cases ha⟩⟩
theorem ok_A : okP [bA] := ok_one' (by decide) (by decide) rfl
theorem ok_B : okP [bB] := ok_one' (by decide) (by decide) rfl
theorem ok_C : okP [bC] := ok_one' (by decide) (by decide) rfl
end Go.Abs.M
namespace Go.Abs.M
open Go Go.Abs Go.Proofs
set_option maxRecDepth 20000
set_option linter.unusedSimpArgs false
set_option linter.unusedVariables false
def partV (l : List Bd) : V := .tup [.agg [.sl (l.map encBd)], .c (.int .i64 0)]
theorem of_ok (b : Bd) (h : partErr [b] = 0) (ho : okP [b]) (hl : b.ev.attrs = []) : PCalls Try.prog 19 [.c (.string b.var), .agg (encEv b.ev)] (fun v => v = partV [b]) :=
  (of_spec b.var b.ev ho (by simp [hl])).mono fun v hv => by rw [hv]; exact if_neg (by rw [show (⟨b.var, b.ev⟩ : Bd) = b from rfl, h]; simp)
theorem merge_BA : PCalls Try.prog 11 [.agg [.sl ([bB].map encBd)], .agg [.sl ([bA].map encBd)]] (fun v => v = .tup [.agg [.sl ([bA, bB].map encBd)], .c (.bool true)]) :=
  (merge_spec [bB] [bA] ok_B ok_A (by simp [bA, bB])).mono fun v hv => by
    rw [hv, mrg_BA, mergeV, if_neg (by rw [part_A, part_B]; simp), if_neg (by rw [part_AB]; simp)]
theorem merge_AC : PCalls Try.prog 11 [.agg [.sl ([bA].map encBd)], .agg [.sl ([bC].map encBd)]] (fun v => v = noPart) :=
  (merge_spec [bA] [bC] ok_A ok_C (by simp [bA, bC])).mono fun v hv => by
    rw [hv, mrg_AC, mergeV, if_neg (by rw [part_A, part_C]; simp), if_pos part_AC]
theorem begun_spec : PCalls Try.prog 13 [] (fun v => v = .c (.bool true)) := by
  refine PCalls.intro Try.call13 Try.func13 rfl Try.ntmps13 Try.results13 (by simp) ?_
  have hbeg : beginOf [bA, bB] = 5 := by decide
  have hend : endOf [bA, bB] = 7 := by decide
  refine AW.seq_k fun K1 h1 => ?_
  all_goals refine AW.reg0 ?_
  all_goals (refine S.g rfl rfl fun K' k' => ?_; simp only [zz, reduceIte, Nat.reduceEqDiff, Nat.reduceAdd]; refine k' _ _ ?_; clear k' K')
  all_goals refine S.nil ?_
  all_goals simp only [ze, reduceIte, Nat.reduceEqDiff, Nat.reduceLT, Nat.reduceLeDiff, Nat.reduceAdd, reduceCtorEq, Nat.reduceMul]
  all_goals apply_assumption
  refine AW.seq_k fun K2 h2 => ?_
  all_goals refine AW.reg0 ?_
  all_goals (refine S.g rfl rfl fun K' k' => ?_; simp only [zz, reduceIte, Nat.reduceEqDiff, Nat.reduceLT, Nat.reduceLeDiff, Nat.reduceAdd, reduceCtorEq, Nat.reduceMul, zt33, pl33, partV]; refine k' _ _ ?_; clear k' K')
  all_goals (refine S.g rfl rfl fun K' k' => ?_; simp only [zz, reduceIte, Nat.reduceEqDiff, Nat.reduceLT, Nat.reduceLeDiff, Nat.reduceAdd, reduceCtorEq, Nat.reduceMul, zt36, pl36, partV]; refine k' _ _ ?_; clear k' K')
  all_goals (refine S.g rfl rfl fun K' k' => ?_; simp only [zz, reduceIte, Nat.reduceEqDiff, Nat.reduceLT, Nat.reduceLeDiff, Nat.reduceAdd, reduceCtorEq, Nat.reduceMul, partV]; refine PCalls.eqto (of_ok bA part_A ok_A rfl) ?_ <;> (refine k' _ _ ?_; clear k' K'))
  all_goals iterate 6 (refine S.g rfl rfl fun K' k' => ?_; simp only [zz, reduceIte, Nat.reduceEqDiff, Nat.reduceLT, Nat.reduceLeDiff, Nat.reduceAdd, reduceCtorEq, Nat.reduceMul, zt24, ok24, sz24, ag24, partV]; refine k' _ _ ?_; clear k' K')
  all_goals refine S.nil ?_
  all_goals simp only [ze, reduceIte, Nat.reduceEqDiff, Nat.reduceLT, Nat.reduceLeDiff, Nat.reduceAdd, reduceCtorEq, Nat.reduceMul, partV]
  all_goals apply_assumption
  refine AW.seq_k fun K3 h3 => ?_
  all_goals refine AW.reg0 ?_
  all_goals (refine S.g rfl rfl fun K' k' => ?_; simp only [zz, reduceIte, Nat.reduceEqDiff, Nat.reduceLT, Nat.reduceLeDiff, Nat.reduceAdd, reduceCtorEq, Nat.reduceMul, zt33, pl33, partV]; refine k' _ _ ?_; clear k' K')
  all_goals (refine S.g rfl rfl fun K' k' => ?_; simp only [zz, reduceIte, Nat.reduceEqDiff, Nat.reduceLT, Nat.reduceLeDiff, Nat.reduceAdd, reduceCtorEq, Nat.reduceMul, zt36, pl36, partV]; refine k' _ _ ?_; clear k' K')
  all_goals (refine S.g rfl rfl fun K' k' => ?_; simp only [zz, reduceIte, Nat.reduceEqDiff, Nat.reduceLT, Nat.reduceLeDiff, Nat.reduceAdd, reduceCtorEq, Nat.reduceMul, partV]; refine PCalls.eqto (of_ok bB part_B ok_B rfl) ?_ <;> (refine k' _ _ ?_; clear k' K'))
  all_goals iterate 6 (refine S.g rfl rfl fun K' k' => ?_; simp only [zz, reduceIte, Nat.reduceEqDiff, Nat.reduceLT, Nat.reduceLeDiff, Nat.reduceAdd, reduceCtorEq, Nat.reduceMul, zt24, ok24, sz24, ag24, partV]; refine k' _ _ ?_; clear k' K')
  all_goals refine S.nil ?_
  all_goals simp only [ze, reduceIte, Nat.reduceEqDiff, Nat.reduceLT, Nat.reduceLeDiff, Nat.reduceAdd, reduceCtorEq, Nat.reduceMul, partV]
  all_goals apply_assumption
  refine AW.seq_k fun K4 h4 => ?_
  all_goals refine AW.reg0 ?_
  all_goals (refine S.g rfl rfl fun K' k' => ?_; simp only [zz, reduceIte, Nat.reduceEqDiff, Nat.reduceLT, Nat.reduceLeDiff, Nat.reduceAdd, reduceCtorEq, Nat.reduceMul, zt33, pl33, partV]; refine k' _ _ ?_; clear k' K')
  all_goals (refine S.g rfl rfl fun K' k' => ?_; simp only [zz, reduceIte, Nat.reduceEqDiff, Nat.reduceLT, Nat.reduceLeDiff, Nat.reduceAdd, reduceCtorEq, Nat.reduceMul, zt36, pl36, partV]; refine k' _ _ ?_; clear k' K')
  all_goals (refine S.g rfl rfl fun K' k' => ?_; simp only [zz, reduceIte, Nat.reduceEqDiff, Nat.reduceLT, Nat.reduceLeDiff, Nat.reduceAdd, reduceCtorEq, Nat.reduceMul, partV]; refine PCalls.eqto (of_ok bC part_C ok_C rfl) ?_ <;> (refine k' _ _ ?_; clear k' K'))
  all_goals iterate 6 (refine S.g rfl rfl fun K' k' => ?_; simp only [zz, reduceIte, Nat.reduceEqDiff, Nat.reduceLT, Nat.reduceLeDiff, Nat.reduceAdd, reduceCtorEq, Nat.reduceMul, zt24, ok24, sz24, ag24, partV]; refine k' _ _ ?_; clear k' K')
  all_goals refine S.nil ?_
  all_goals simp only [ze, reduceIte, Nat.reduceEqDiff, Nat.reduceLT, Nat.reduceLeDiff, Nat.reduceAdd, reduceCtorEq, Nat.reduceMul, partV]
  all_goals apply_assumption
  refine AW.seq_k fun K5 h5 => ?_
  all_goals refine AW.reg0 ?_
  all_goals iterate 2 (refine S.g rfl rfl fun K' k' => ?_; simp only [zz, reduceIte, Nat.reduceEqDiff, Nat.reduceLT, Nat.reduceLeDiff, Nat.reduceAdd, reduceCtorEq, Nat.reduceMul, ok24, sz24, ag24, partV]; refine k' _ _ ?_; clear k' K')
  all_goals (refine S.g rfl rfl fun K' k' => ?_; simp only [zz, reduceIte, Nat.reduceEqDiff, Nat.reduceLT, Nat.reduceLeDiff, Nat.reduceAdd, reduceCtorEq, Nat.reduceMul, partV]; refine PCalls.eqto merge_BA ?_ <;> (refine k' _ _ ?_; clear k' K'))
  all_goals iterate 6 (refine S.g rfl rfl fun K' k' => ?_; simp only [zz, reduceIte, Nat.reduceEqDiff, Nat.reduceLT, Nat.reduceLeDiff, Nat.reduceAdd, reduceCtorEq, Nat.reduceMul, zt24, ok24, sz24, ag24, partV]; refine k' _ _ ?_; clear k' K')
  all_goals refine S.nil ?_
  all_goals simp only [ze, reduceIte, Nat.reduceEqDiff, Nat.reduceLT, Nat.reduceLeDiff, Nat.reduceAdd, reduceCtorEq, Nat.reduceMul, partV]
  all_goals apply_assumption
  refine AW.seq_k fun K6 h6 => ?_
  all_goals refine AW.reg0 ?_
  all_goals iterate 2 (refine S.g rfl rfl fun K' k' => ?_; simp only [zz, reduceIte, Nat.reduceEqDiff, Nat.reduceLT, Nat.reduceLeDiff, Nat.reduceAdd, reduceCtorEq, Nat.reduceMul, ok24, sz24, ag24, partV, noPart]; refine k' _ _ ?_; clear k' K')
  all_goals (refine S.g rfl rfl fun K' k' => ?_; simp only [zz, reduceIte, Nat.reduceEqDiff, Nat.reduceLT, Nat.reduceLeDiff, Nat.reduceAdd, reduceCtorEq, Nat.reduceMul, partV, noPart]; refine PCalls.eqto merge_AC ?_ <;> (refine k' _ _ ?_; clear k' K'))
  all_goals iterate 6 (refine S.g rfl rfl fun K' k' => ?_; simp only [zz, reduceIte, Nat.reduceEqDiff, Nat.reduceLT, Nat.reduceLeDiff, Nat.reduceAdd, reduceCtorEq, Nat.reduceMul, zt24, ok24, sz24, ag24, partV, noPart]; refine k' _ _ ?_; clear k' K')
  all_goals refine S.nil ?_
  all_goals simp only [ze, reduceIte, Nat.reduceEqDiff, Nat.reduceLT, Nat.reduceLeDiff, Nat.reduceAdd, reduceCtorEq, Nat.reduceMul, partV, noPart]
  all_goals apply_assumption
  refine AW.seq_k fun K7 h7 => ?_
  all_goals refine AW.reg0 ?_
  all_goals (refine S.g rfl rfl fun K' k' => ?_; simp only [zz, reduceIte, Nat.reduceEqDiff, Nat.reduceAdd, hbeg, hend, List.length_map]; refine k' _ _ ?_; clear k' K')
  all_goals (refine S.g rfl rfl fun K' k' => ?_; simp only [zz, reduceIte, Nat.reduceEqDiff, Nat.reduceLT, Nat.reduceLeDiff, Nat.reduceAdd, reduceCtorEq, Nat.reduceMul, hbeg, hend, List.length_map]; refine S.bool fun b a42 => ?_; cases b <;> (try (exfalso; first | exact Bool.noConfusion a42 | (have h := of_decide_eq_true a42; omega) | (have h := of_decide_eq_false a42; omega))) <;> (refine k' _ _ ?_; clear k' K'))
  all_goals (refine S.g rfl rfl fun K' k' => ?_; simp only [zz, reduceIte, Nat.reduceEqDiff, Nat.reduceAdd, hbeg, hend, List.length_map]; refine k' _ _ ?_; clear k' K')
  all_goals (first | (refine S.y rfl rfl rfl rfl fun K' k' => ?_; simp only [zz, reduceIte, Nat.reduceEqDiff, Nat.reduceAdd, hbeg, hend, List.length_map]; refine k' _ _ ?_; clear k' K') | ((first | refine S.x rfl rfl rfl rfl fun K' k' => ?_ | refine S.u rfl rfl rfl rfl fun K' k' => ?_); simp only [ze, reduceIte, Nat.reduceEqDiff]; refine k' _ _ ?_; clear k' K'))
  all_goals (first | (refine S.y rfl rfl rfl rfl fun K' k' => ?_; simp only [zz, reduceIte, Nat.reduceEqDiff, Nat.reduceLT, Nat.reduceLeDiff, Nat.reduceAdd, reduceCtorEq, Nat.reduceMul, hbeg, hend, List.length_map]; refine S.bool fun b a45 => ?_; cases b <;> (try (exfalso; first | exact Bool.noConfusion a45 | (have h := of_decide_eq_true a45; omega) | (have h := of_decide_eq_false a45; omega))) <;> (refine k' _ _ ?_; clear k' K')) | ((first | refine S.x rfl rfl rfl rfl fun K' k' => ?_ | refine S.u rfl rfl rfl rfl fun K' k' => ?_); simp only [ze, reduceIte, Nat.reduceEqDiff]; refine k' _ _ ?_; clear k' K'))
  all_goals iterate 2 (refine S.g rfl rfl fun K' k' => ?_; simp only [zz, reduceIte, Nat.reduceEqDiff, Nat.reduceAdd, hbeg, hend, List.length_map]; refine k' _ _ ?_; clear k' K')
  all_goals (first | (refine S.y rfl rfl rfl rfl fun K' k' => ?_; simp only [zz, reduceIte, Nat.reduceEqDiff, Nat.reduceAdd, hbeg, hend, List.length_map]; refine k' _ _ ?_; clear k' K') | ((first | refine S.x rfl rfl rfl rfl fun K' k' => ?_ | refine S.u rfl rfl rfl rfl fun K' k' => ?_); simp only [ze, reduceIte, Nat.reduceEqDiff]; refine k' _ _ ?_; clear k' K'))
  all_goals (first | (refine S.y rfl rfl rfl rfl fun K' k' => ?_; simp only [zz, reduceIte, Nat.reduceEqDiff, Nat.reduceLT, Nat.reduceLeDiff, Nat.reduceAdd, reduceCtorEq, Nat.reduceMul, hbeg, hend, List.length_map]; refine S.bool fun b a49 => ?_; cases b <;> (try (exfalso; first | exact Bool.noConfusion a49 | (have h := of_decide_eq_true a49; omega) | (have h := of_decide_eq_false a49; omega))) <;> (refine k' _ _ ?_; clear k' K')) | ((first | refine S.x rfl rfl rfl rfl fun K' k' => ?_ | refine S.u rfl rfl rfl rfl fun K' k' => ?_); simp only [ze, reduceIte, Nat.reduceEqDiff]; refine k' _ _ ?_; clear k' K'))
  all_goals iterate 2 (refine S.g rfl rfl fun K' k' => ?_; simp only [zz, reduceIte, Nat.reduceEqDiff, Nat.reduceAdd, hbeg, hend, List.length_map]; refine k' _ _ ?_; clear k' K')
  all_goals (first | (refine S.y rfl rfl rfl rfl fun K' k' => ?_; simp only [zz, reduceIte, Nat.reduceEqDiff, Nat.reduceAdd, hbeg, hend, List.length_map]; refine k' _ _ ?_; clear k' K') | ((first | refine S.x rfl rfl rfl rfl fun K' k' => ?_ | refine S.u rfl rfl rfl rfl fun K' k' => ?_); simp only [ze, reduceIte, Nat.reduceEqDiff]; refine k' _ _ ?_; clear k' K'))
  all_goals iterate 2 (refine S.g rfl rfl fun K' k' => ?_; simp only [zz, reduceIte, Nat.reduceEqDiff, Nat.reduceAdd, hbeg, hend, List.length_map]; refine k' _ _ ?_; clear k' K')
  all_goals iterate 2 (first | (refine S.y rfl rfl rfl rfl fun K' k' => ?_; simp only [zz, reduceIte, Nat.reduceEqDiff, Nat.reduceAdd, hbeg, hend, List.length_map]; refine k' _ _ ?_; clear k' K') | ((first | refine S.x rfl rfl rfl rfl fun K' k' => ?_ | refine S.u rfl rfl rfl rfl fun K' k' => ?_); simp only [ze, reduceIte, Nat.reduceEqDiff]; refine k' _ _ ?_; clear k' K'))
  all_goals iterate 2 (refine S.g rfl rfl fun K' k' => ?_; simp only [zz, reduceIte, Nat.reduceEqDiff, Nat.reduceAdd, hbeg, hend, List.length_map]; refine k' _ _ ?_; clear k' K')
  all_goals (first | (refine S.y rfl rfl rfl rfl fun K' k' => ?_; simp only [zz, reduceIte, Nat.reduceEqDiff, Nat.reduceLT, Nat.reduceLeDiff, Nat.reduceAdd, reduceCtorEq, Nat.reduceMul, ok24, sz24, ag24, hbeg, hend, List.length_map]; refine k' _ _ ?_; clear k' K') | ((first | refine S.x rfl rfl rfl rfl fun K' k' => ?_ | refine S.u rfl rfl rfl rfl fun K' k' => ?_); simp only [ze, reduceIte, Nat.reduceEqDiff]; refine k' _ _ ?_; clear k' K'))
  all_goals (first | (refine S.y rfl rfl rfl rfl fun K' k' => ?_; simp only [zz, reduceIte, Nat.reduceEqDiff, Nat.reduceLT, Nat.reduceLeDiff, Nat.reduceAdd, reduceCtorEq, Nat.reduceMul, hbeg, hend, List.length_map]; refine PCalls.eqto (begin_spec [bA, bB] (by simp)) ?_ <;> (refine k' _ _ ?_; clear k' K')) | ((first | refine S.x rfl rfl rfl rfl fun K' k' => ?_ | refine S.u rfl rfl rfl rfl fun K' k' => ?_); simp only [ze, reduceIte, Nat.reduceEqDiff]; refine k' _ _ ?_; clear k' K'))
  all_goals (first | (refine S.y rfl rfl rfl rfl fun K' k' => ?_; simp only [zz, reduceIte, Nat.reduceEqDiff, Nat.reduceLT, Nat.reduceLeDiff, Nat.reduceAdd, reduceCtorEq, Nat.reduceMul, hbeg, hend, List.length_map]; refine S.bool fun b a61 => ?_; cases b <;> (try (exfalso; first | exact Bool.noConfusion a61 | (have h := of_decide_eq_true a61; omega) | (have h := of_decide_eq_false a61; omega))) <;> (refine k' _ _ ?_; clear k' K')) | ((first | refine S.x rfl rfl rfl rfl fun K' k' => ?_ | refine S.u rfl rfl rfl rfl fun K' k' => ?_); simp only [ze, reduceIte, Nat.reduceEqDiff]; refine k' _ _ ?_; clear k' K'))
  all_goals iterate 2 (refine S.g rfl rfl fun K' k' => ?_; simp only [zz, reduceIte, Nat.reduceEqDiff, Nat.reduceAdd, hbeg, hend, List.length_map]; refine k' _ _ ?_; clear k' K')
  all_goals (first | (refine S.y rfl rfl rfl rfl fun K' k' => ?_; simp only [zz, reduceIte, Nat.reduceEqDiff, Nat.reduceLT, Nat.reduceLeDiff, Nat.reduceAdd, reduceCtorEq, Nat.reduceMul, ok24, sz24, ag24, hbeg, hend, List.length_map]; refine k' _ _ ?_; clear k' K') | ((first | refine S.x rfl rfl rfl rfl fun K' k' => ?_ | refine S.u rfl rfl rfl rfl fun K' k' => ?_); simp only [ze, reduceIte, Nat.reduceEqDiff]; refine k' _ _ ?_; clear k' K'))
  all_goals (first | (refine S.y rfl rfl rfl rfl fun K' k' => ?_; simp only [zz, reduceIte, Nat.reduceEqDiff, Nat.reduceLT, Nat.reduceLeDiff, Nat.reduceAdd, reduceCtorEq, Nat.reduceMul, hbeg, hend, List.length_map]; refine PCalls.eqto (end_spec [bA, bB] (by simp)) ?_ <;> (refine k' _ _ ?_; clear k' K')) | ((first | refine S.x rfl rfl rfl rfl fun K' k' => ?_ | refine S.u rfl rfl rfl rfl fun K' k' => ?_); simp only [ze, reduceIte, Nat.reduceEqDiff]; refine k' _ _ ?_; clear k' K'))
  all_goals (first | (refine S.y rfl rfl rfl rfl fun K' k' => ?_; simp only [zz, reduceIte, Nat.reduceEqDiff, Nat.reduceLT, Nat.reduceLeDiff, Nat.reduceAdd, reduceCtorEq, Nat.reduceMul, hbeg, hend, List.length_map]; refine S.bool fun b a66 => ?_; cases b <;> (try (exfalso; first | exact Bool.noConfusion a66 | (have h := of_decide_eq_true a66; omega) | (have h := of_decide_eq_false a66; omega))) <;> (refine k' _ _ ?_; clear k' K')) | ((first | refine S.x rfl rfl rfl rfl fun K' k' => ?_ | refine S.u rfl rfl rfl rfl fun K' k' => ?_); simp only [ze, reduceIte, Nat.reduceEqDiff]; refine k' _ _ ?_; clear k' K'))
  all_goals iterate 2 (refine S.g rfl rfl fun K' k' => ?_; simp only [zz, reduceIte, Nat.reduceEqDiff, Nat.reduceAdd, hbeg, hend, List.length_map]; refine k' _ _ ?_; clear k' K')
  all_goals iterate 4 (first | (refine S.y rfl rfl rfl rfl fun K' k' => ?_; simp only [zz, reduceIte, Nat.reduceEqDiff, Nat.reduceLT, Nat.reduceLeDiff, Nat.reduceAdd, reduceCtorEq, Nat.reduceMul, of24_0, ok22, sz22, ag22, sl22, el22, ok42, sz42, ag42, hbeg, hend, List.length_map]; refine k' _ _ ?_; clear k' K') | ((first | refine S.x rfl rfl rfl rfl fun K' k' => ?_ | refine S.u rfl rfl rfl rfl fun K' k' => ?_); simp only [ze, reduceIte, Nat.reduceEqDiff]; refine k' _ _ ?_; clear k' K'))
  all_goals iterate 2 (refine S.g rfl rfl fun K' k' => ?_; simp only [zz, reduceIte, Nat.reduceEqDiff, Nat.reduceAdd, hbeg, hend, List.length_map]; refine k' _ _ ?_; clear k' K')
  all_goals refine S.nil ?_
  all_goals simp only [ze, reduceIte, Nat.reduceEqDiff, Nat.reduceLT, Nat.reduceLeDiff, Nat.reduceAdd, reduceCtorEq, Nat.reduceMul, hbeg, hend, List.length_map]
  all_goals apply_assumption
  refine AW.ret ?_
  all_goals simp only [zs, reduceIte, Nat.reduceEqDiff, Nat.reduceLT, Nat.reduceLeDiff, Nat.reduceAdd, reduceCtorEq, Nat.reduceMul]
  all_goals rfl
end Go.Abs.M
namespace Go.Abs.M
open Go Go.Abs Go.Proofs
set_option maxRecDepth 20000
set_option linter.unusedSimpArgs false
set_option linter.unusedVariables false
/-- What a given part must be, for the contracts. -/
structure okI (l : List Bd) : Prop where
  ok : okP l
  attrs : ∀ x ∈ l, x.ev.attrs.length * 48 ≤ 140737488355328
  len : l.length * 80 ≤ 140737488355328
end Go.Abs.M
namespace Go.Abs.M
open Go Go.Abs Go.Proofs
set_option linter.unusedSimpArgs false
theorem co2 : Try.prog.cellsOf 2 = 1 := by kernel_rfl
theorem co3 : Try.prog.cellsOf 3 = 1 := by kernel_rfl
theorem co9 : Try.prog.cellsOf 9 = 1 := by kernel_rfl
theorem co22 : Try.prog.cellsOf 22 = 1 := by kernel_rfl
theorem co24 : Try.prog.cellsOf 24 = 1 := by kernel_rfl
theorem co33 : Try.prog.cellsOf 33 = 2 := by kernel_rfl
theorem co34 : Try.prog.cellsOf 34 = 1 := by kernel_rfl
theorem co36 : Try.prog.cellsOf 36 = 5 := by kernel_rfl
theorem co42 : Try.prog.cellsOf 42 = 6 := by kernel_rfl
theorem co141 : Try.prog.cellsOf 141 = 3 := by kernel_rfl
theorem co143 : Try.prog.cellsOf 143 = 4 := by kernel_rfl
theorem len1 {us : List V} (h : us.length = 1) : ∃ x0, us = [x0] := by
  match us, h with
  | [x0], _ => exact ⟨x0, rfl⟩
theorem len4 {us : List V} (h : us.length = 4) : ∃ x0 x1 x2 x3, us = [x0, x1, x2, x3] := by
  match us, h with
  | [x0, x1, x2, x3], _ => exact ⟨x0, x1, x2, x3, rfl⟩
theorem len5 {us : List V} (h : us.length = 5) : ∃ x0 x1 x2 x3 x4, us = [x0, x1, x2, x3, x4] := by
  match us, h with
  | [x0, x1, x2, x3, x4], _ => exact ⟨x0, x1, x2, x3, x4, rfl⟩
theorem len6 {us : List V} (h : us.length = 6) : ∃ x0 x1 x2 x3 x4 x5, us = [x0, x1, x2, x3, x4, x5] := by
  match us, h with
  | [x0, x1, x2, x3, x4, x5], _ => exact ⟨x0, x1, x2, x3, x4, x5, rfl⟩
theorem open_val {n : Nat} {x0 x1 x2 : V} (h : Fit Try.prog n 141 [x0, x1, x2]) : ∃ v : Val, [x0, x1, x2] = encVal v ∧ v.s.size ≤ reachBytes := by
  obtain ⟨_, m, _, hf⟩ := h.st Try.underlying141
  have h0 : Fit Try.prog m 3 (([x0, x1, x2].drop 0).take (Try.prog.cellsOf 3)) := hf 0 _ rfl
  have h1 : Fit Try.prog m 2 (([x0, x1, x2].drop 1).take (Try.prog.cellsOf 2)) := hf 1 _ rfl
  have h2 : Fit Try.prog m 9 (([x0, x1, x2].drop 2).take (Try.prog.cellsOf 9)) := hf 2 _ rfl
  simp only [co3, co2, co9, List.drop_zero, List.take_succ_cons, List.take_zero, List.drop_succ_cons] at h0 h1 h2
  obtain ⟨a, e0, _⟩ := h0.int Try.underlying3
  obtain ⟨b, e1, _⟩ := h1.int Try.underlying2
  obtain ⟨s, e2, hs⟩ := h2.str Try.underlying9
  simp only [List.cons.injEq, and_true] at e0 e1 e2
  exact ⟨⟨a, b, s⟩, by rw [e0, e1, e2]; rfl, hs⟩
def attrFits (a : Attr) : Prop := a.name.size ≤ reachBytes ∧ a.v.s.size ≤ reachBytes
theorem open_attr {n : Nat} {us : List V} (hl : us.length = 4) (h : Fit Try.prog n 143 us) : ∃ a : Attr, us = encAttr a ∧ attrFits a := by
  obtain ⟨_, m, _, hf⟩ := h.st Try.underlying143
  have h0 : Fit Try.prog m 9 ((us.drop 0).take (Try.prog.cellsOf 9)) := hf 0 _ rfl
  have h1 : Fit Try.prog m 141 ((us.drop 1).take (Try.prog.cellsOf 141)) := hf 1 _ rfl
  obtain ⟨x0, x1, x2, x3, rfl⟩ := len4 hl
  simp only [co9, co141, List.drop_zero, List.take_succ_cons, List.take_zero, List.drop_succ_cons] at h0 h1
  obtain ⟨s, e0, hs⟩ := h0.str Try.underlying9
  obtain ⟨v, e1, hv⟩ := open_val h1
  simp only [List.cons.injEq, and_true] at e0
  refine ⟨⟨s, v⟩, ?_, hs, hv⟩
  rw [e0, e1]; rfl
structure evFits (e : Ev) : Prop where
  type : e.type.size ≤ reachBytes
  len : e.attrs.length * 48 ≤ reachBytes
  attrs : ∀ a ∈ e.attrs, attrFits a
theorem open_ev {n : Nat} {us : List V} (hl : us.length = 5) (h : Fit Try.prog n 36 us) : ∃ e : Ev, us = encEv e ∧ evFits e := by
  obtain ⟨_, m, _, hf⟩ := h.st Try.underlying36
  have h0 : Fit Try.prog m 33 ((us.drop 0).take (Try.prog.cellsOf 33)) := hf 0 _ rfl
  have h1 : Fit Try.prog m 2 ((us.drop 2).take (Try.prog.cellsOf 2)) := hf 1 _ rfl
  have h2 : Fit Try.prog m 9 ((us.drop 3).take (Try.prog.cellsOf 9)) := hf 2 _ rfl
  have h3 : Fit Try.prog m 34 ((us.drop 4).take (Try.prog.cellsOf 34)) := hf 3 _ rfl
  obtain ⟨x0, x1, x2, x3, x4, rfl⟩ := len5 hl
  simp only [co33, co2, co9, co34, List.drop_zero, List.take_succ_cons, List.take_zero, List.drop_succ_cons] at h0 h1 h2 h3
  obtain ⟨_, m', _, hg⟩ := h0.st Try.underlying33
  have g0 : Fit Try.prog m' 3 (([x0, x1].drop 0).take (Try.prog.cellsOf 3)) := hg 0 _ rfl
  have g1 : Fit Try.prog m' 2 (([x0, x1].drop 1).take (Try.prog.cellsOf 2)) := hg 1 _ rfl
  simp only [co3, co2, List.drop_zero, List.take_succ_cons, List.take_zero, List.drop_succ_cons] at g0 g1
  obtain ⟨a, e0, _⟩ := g0.int Try.underlying3
  obtain ⟨b, e1, _⟩ := g1.int Try.underlying2
  obtain ⟨c, e2, _⟩ := h1.int Try.underlying2
  obtain ⟨s, e3, hs⟩ := h2.str Try.underlying9
  obtain ⟨es, e4, hes, k, _, hk⟩ := h3.sl Try.underlying34
  simp only [co143] at hk
  obtain ⟨l, rfl, hl⟩ := rows_of (f := encAttr) (p := attrFits) fun x hx => open_attr (hk x hx).1 (hk x hx).2
  simp only [List.cons.injEq, and_true] at e0 e1 e2 e3 e4
  refine ⟨⟨a, b, c, s, l⟩, by rw [e0, e1, e2, e3, e4]; rfl, hs, ?_, hl⟩
  rw [List.length_map, by143] at hes; exact hes
structure bdFits (b : Bd) : Prop where
  var : b.var.size ≤ reachBytes
  ev : evFits b.ev
theorem open_bd {n : Nat} {us : List V} (hl : us.length = 6) (h : Fit Try.prog n 42 us) : ∃ b : Bd, us = encBd b ∧ bdFits b := by
  obtain ⟨_, m, _, hf⟩ := h.st Try.underlying42
  have h0 : Fit Try.prog m 9 ((us.drop 0).take (Try.prog.cellsOf 9)) := hf 0 _ rfl
  have h1 : Fit Try.prog m 36 ((us.drop 1).take (Try.prog.cellsOf 36)) := hf 1 _ rfl
  obtain ⟨x0, x1, x2, x3, x4, x5, rfl⟩ := len6 hl
  simp only [co9, co36, List.drop_zero, List.take_succ_cons, List.take_zero, List.drop_succ_cons] at h0 h1
  obtain ⟨s, e0, hs⟩ := h0.str Try.underlying9
  obtain ⟨v, e1, hv⟩ := open_ev rfl h1
  simp only [List.cons.injEq, and_true] at e0
  refine ⟨⟨s, v⟩, ?_, hs, hv⟩
  rw [e0, e1]; rfl
theorem okI_of {l : List Bd} (h1 : ∀ b ∈ l, bdFits b) (h2 : l.length * 80 ≤ reachBytes) : okI l := by
  have hr : reachBytes = 140737488351232 := rfl
  refine ⟨fun b hb => ?_, fun b hb => ?_, by omega⟩
  · obtain ⟨k1, k2, k3, k4⟩ := h1 b hb
    exact ⟨by omega, ⟨by omega, by omega, fun a ha => by obtain ⟨h5, h6⟩ := k4 a ha; exact ⟨by omega, by omega⟩⟩⟩
  · obtain ⟨k1, k2, k3, k4⟩ := h1 b hb
    omega
theorem open_part {n : Nat} {us : List V} (hl : us.length = 1) (h : Fit Try.prog n 24 us) : ∃ l : List Bd, us = [.sl (l.map encBd)] ∧ okI l := by
  obtain ⟨_, m, _, hf⟩ := h.st Try.underlying24
  have h0 : Fit Try.prog m 22 ((us.drop 0).take (Try.prog.cellsOf 22)) := hf 0 _ rfl
  obtain ⟨x0, rfl⟩ := len1 hl
  simp only [co22, List.drop_zero, List.take_succ_cons, List.take_zero, List.drop_succ_cons] at h0
  obtain ⟨es, e4, hes, k, _, hk⟩ := h0.sl Try.underlying22
  simp only [co42] at hk
  obtain ⟨l, rfl, hl⟩ := rows_of (f := encBd) (p := bdFits) fun x hx => open_bd (hk x hx).1 (hk x hx).2
  refine ⟨l, e4, okI_of hl ?_⟩
  rw [List.length_map, by42] at hes; exact hes
/-- The types of plain data that the laws' arguments are made of. -/
def plainTs : List TypeId := [24, 22, 42, 9, 36, 33, 3, 2, 34, 143, 141, 64, 48, 5]
theorem plain_ok : plainB Try.prog plainTs = true := by kernel_rfl
theorem okWide_agg {P : Program} {W : World} {r : Reach} {base : Nat} {t : TypeId} {fs : Array Field} {v : Value} (hu : P.underlying t = some (.struct fs)) (h : Value.okWide P W r base t v) : ∃ cs, v = .agg cs ∧ cs.size = P.cellsOf t := by
  simp only [Value.okWide, hu] at h
  obtain ⟨cs, h1, h2, _⟩ := h
  exact ⟨cs, h1, h2⟩
end Go.Abs.M
namespace Go.Abs.M
open Go Go.Abs Go.Proofs
set_option maxRecDepth 20000
set_option linter.unusedSimpArgs false
set_option linter.unusedVariables false
/-- What the contracts want of a list. -/
structure okM (l : List Bd) : Prop where
  ok : okP l
  attrs : ∀ x ∈ l, x.ev.attrs.length * 48 ≤ 140737488355328
theorem okI.m {l : List Bd} (h : okI l) : okM l := ⟨h.ok, h.attrs⟩
theorem okM.mrg {a b : List Bd} (ha : okM a) (hb : okM b) : okM (mrg a b) := by
  refine ⟨fun x hx => ?_, fun x hx => ?_⟩ <;> rcases List.mem_append.1 (mrg_mem a b x hx) with h | h
  · exact ha.ok x h
  · exact hb.ok x h
  · exact ha.attrs x h
  · exact hb.attrs x h
end Go.Abs.M
namespace Go.Abs
open Go
section
variable {P : Program} {T : Tab} {B : Base} {n : Nat} {cx cx' : Cx} {s : St} {σ σ' : Hp} {a : Act} {w w' : World} {K : St → Hp → Prop}
inductive Tr where
  | nil
  | st (i k : Nat) (t : Tr)
  | fork (i : Nat) (a : Tr) (j : Nat) (b : Tr)
def Tr.len : Tr → Nat
  | .nil => 0
  | .st _ _ t => t.len + 1
  | .fork _ a _ _ => a.len + 1
def one (P : Program) (T : Tab) (n : Nat) (ops : List Oper) (ds : List (Option Nat)) (i k : Nat) (N : St → Hp → Prop) (s : St) (σ : Hp) : Prop :=
  match ops[i]? with
  | none => False
  | some o => dOK n o.dst ∧ (match k, o.op with
       | 1, .load _ x => gate ds s o.guard (steady T.sd (ev s x) = true) True
       | 1, _ => False
       | _, _ => True) ∧ gate ds s o.guard (semOp P T o N s σ) (N (s.putO o.dst (.c undef)) σ)
def semT (P : Program) (T : Tab) (n : Nat) (ops : List Oper) (ds : List (Option Nat)) : Tr → (St → Hp → Prop) → St → Hp → Prop
  | .nil, K => K
  | .st i k r, K => one P T n ops ds i k (semT P T n ops ds r K)
  | .fork i a j b, K => fun s σ => one P T n ops ds i 2 (semT P T n ops ds a K) s σ ∧ one P T n ops ds j 2 (semT P T n ops ds b K) s σ
/-- The list, written out first. -/
def forceL {α : Type} : List Bool → (List Bool → α) → α
  | [], k => k []
  | true :: l, k => forceL l fun m => k (true :: m)
  | false :: l, k => forceL l fun m => k (false :: m)
theorem forceL_eq {α : Type} : ∀ (l : List Bool) (k : List Bool → α), forceL l k = k l
  | [], _ => rfl
  | true :: l, k => by rw [forceL, forceL_eq l]
  | false :: l, k => by rw [forceL, forceL_eq l]
def setL : List Bool → Nat → List Bool
  | [], _ => []
  | _ :: l, 0 => true :: l
  | b :: l, i + 1 => b :: setL l i
theorem setL_eq : ∀ (l : List Bool) (i : Nat), setL l i = l.set i true
  | [], _ => rfl
  | _ :: _, 0 => rfl
  | b :: l, i + 1 => by rw [setL, setL_eq l i]; rfl
def zipR (q : Oper → Bool) : List Oper → List Bool → Nat → List Nat
  | o :: os, b :: ls, i => bif b then zipR q os ls (i + 1) else bif q o then i :: zipR q os ls (i + 1) else zipR q os ls (i + 1)
  | _, _, _ => []
theorem zipR_eq (q : Oper → Bool) : ∀ (os : List Oper) (ls : List Bool) (k : Nat), ls.length = os.length →
    zipR q os ls k = (List.range' k os.length).filter fun i => !ls.getD (i - k) true && ((os[i - k]?).map q).getD false
  | [], [], k, _ => rfl
  | o :: os, b :: ls, k, h => by
    have ih := zipR_eq q os ls (k + 1) (by simpa using h)
    have hf : (List.range' (k + 1) os.length).filter (fun i => !(b :: ls).getD (i - k) true && (((o :: os)[i - k]?).map q).getD false) = zipR q os ls (k + 1) := by
      rw [ih]
      refine List.filter_congr fun i hi => ?_
      obtain ⟨h1, _⟩ := List.mem_range'_1.1 hi
      rw [show i - k = (i - (k + 1)) + 1 by omega]
      simp
    rw [zipR, List.length_cons, List.range'_succ, List.filter_cons, hf]
    cases b <;> cases hq : q o <;> simp [hq]
def rdy (os : List Oper) (l : List Bool) : List Nat := zipR (fun o => o.after.toList.all fun e => !Region.binds .any e || l.getD e.on false) os l 0
theorem rdy_eq {os : List Oper} {l : List Bool} (h : l.length = os.length) : rdy os l = Region.ready .any ⟨os⟩ ⟨l⟩ := by
  unfold rdy Region.ready
  rw [zipR_eq _ _ _ _ h, List.range_eq_range']
  simp [Array.getD_eq_getD_getElem?, List.getD]
def zipA (q : Oper → Bool) (i : Nat) : List Oper → List Bool → Nat → Bool
  | o :: os, b :: ls, j => bif b then zipA q i os ls (j + 1) else (j == i || q o) && zipA q i os ls (j + 1)
  | _, _, _ => true
theorem zipA_eq (q : Oper → Bool) (i : Nat) : ∀ (os : List Oper) (ls : List Bool) (k : Nat), ls.length = os.length →
    zipA q i os ls k = (List.range' k os.length).all fun j => j == i || ls.getD (j - k) true || match os[j - k]? with | some o => q o | none => true
  | [], [], k, _ => rfl
  | o :: os, b :: ls, k, h => by
    have ih := zipA_eq q i os ls (k + 1) (by simpa using h)
    have hf : ((List.range' (k + 1) os.length).all fun j => j == i || (b :: ls).getD (j - k) true || match (o :: os)[j - k]? with | some o => q o | none => true) = zipA q i os ls (k + 1) := by
      rw [ih, Bool.eq_iff_iff, List.all_eq_true, List.all_eq_true]
      refine forall_congr' fun j => ⟨fun h hj => ?_, fun h hj => ?_⟩
      all_goals
        have h2 := h hj
        obtain ⟨h1, _⟩ := List.mem_range'_1.1 hj
        rw [show j - k = (j - (k + 1)) + 1 by omega] at *
        simpa using h2
    rw [zipA, List.length_cons, List.range'_succ, List.all_cons, hf]
    cases b <;> simp
def fre (os : List Oper) (l : List Bool) (i : Nat) : Bool :=
  match os[i]? with
  | none => false
  | some oi => zipA (fun oj => oj.after.toList.any (fun e => Region.binds .any e && e.on == i) || oi.apart ⟨os⟩ oj) i os l 0
theorem fre_eq {os : List Oper} {l : List Bool} (h : l.length = os.length) (i : Nat) : fre os l i = Region.free .any ⟨os⟩ ⟨l⟩ i := by
  unfold fre Region.free
  simp only [List.getElem?_toArray]
  cases os[i]? with
  | none => rfl
  | some oi =>
    simp only []
    rw [zipA_eq _ _ _ _ _ h, List.range_eq_range']
    simp [Array.getD_eq_getD_getElem?, List.getD]
    rfl
theorem setL_len (l : List Bool) (i : Nat) : (setL l i).length = l.length := by rw [setL_eq, List.length_set]
/-- The two orders of two, then the rest. -/
def Tr.of : List (Nat × Nat) → Tr
  | [] => .nil
  | (i, 3) :: (j, _) :: r => .fork i (.st j 2 (Tr.of r)) j (.st i 2 (Tr.of r))
  | (i, k) :: r => .st i k (Tr.of r)
section
variable {ops : List Oper} {i k d j : Nat} {r : Tr} {o : Oper} {ds : List (Option Nat)} {b : Bool}
theorem T.g (ho : ops[i]? = some o) (hs : stC T s k o.op) (hd : okd n o.dst = true) (hg : o.guard = none)
    (h : ∀ K' : St → Hp → Prop, (∀ s σ, semT P T n ops ds r K s σ → K' s σ) → semOp P T o K' s σ) : semT P T n ops ds (.st i k r) K s σ := by
  have := D.g (P := P) (T := T) (n := n) (s := s) (σ := σ) (K := semT P T n ops ds r K) (ds := ds) (ops := ops) (i := i) (k := k) (l := []) ho hs hd hg h
  exact this
theorem T.y (ho : ops[i]? = some o) (hs : stC T s k o.op) (hd : okd n o.dst = true) (hg : o.guard = some (j, b)) (hj : ds[j]? = some (some d)) (hb : s.t d = .c (.bool b))
    (h : ∀ K' : St → Hp → Prop, (∀ s σ, semT P T n ops ds r K s σ → K' s σ) → semOp P T o K' s σ) : semT P T n ops ds (.st i k r) K s σ := by
  have := D.y (P := P) (T := T) (n := n) (s := s) (σ := σ) (K := semT P T n ops ds r K) (ds := ds) (ops := ops) (i := i) (k := k) (l := []) ho hs hd hg hj hb h
  exact this
theorem T.x (ho : ops[i]? = some o) (hk : k = 1 → isLoad o.op = true) (hd : okd n o.dst = true) (hg : o.guard = some (j, b)) (hj : ds[j]? = some (some d)) (hb : s.t d = .c (.bool (!b)))
    (h : ∀ K' : St → Hp → Prop, (∀ s σ, semT P T n ops ds r K s σ → K' s σ) → K' (s.putO o.dst (.c undef)) σ) : semT P T n ops ds (.st i k r) K s σ := by
  have := D.x (P := P) (T := T) (n := n) (s := s) (σ := σ) (K := semT P T n ops ds r K) (ds := ds) (ops := ops) (i := i) (k := k) (l := []) ho hk hd hg hj hb h
  exact this
theorem T.u (ho : ops[i]? = some o) (hk : k = 1 → isLoad o.op = true) (hd : okd n o.dst = true) (hg : o.guard = some (j, b)) (hj : ds[j]? = some (some d)) (hb : s.t d = .c undef)
    (h : ∀ K' : St → Hp → Prop, (∀ s σ, semT P T n ops ds r K s σ → K' s σ) → K' (s.putO o.dst (.c undef)) σ) : semT P T n ops ds (.st i k r) K s σ := by
  have := D.u (P := P) (T := T) (n := n) (s := s) (σ := σ) (K := semT P T n ops ds r K) (ds := ds) (ops := ops) (i := i) (k := k) (l := []) ho hk hd hg hj hb h
  exact this
theorem T.nil (h : K s σ) : semT P T n ops ds .nil K s σ := h
/-- Only so much of the state is wanted from here on. -/
theorem T.cut {t : Tr} (J : St → Hp → Prop) (h : J s σ) (k : ∀ s σ, J s σ → semT P T n ops ds t K s σ) : semT P T n ops ds t K s σ := k s σ h
theorem D.cut {t : List (Nat × Nat)} (J : St → Hp → Prop) (h : J s σ) (k : ∀ s σ, J s σ → semD P T n ops ds t K s σ) : semD P T n ops ds t K s σ := k s σ h
theorem S.cut {r : List Oper} (J : St → Hp → Prop) (h : J s σ) (k : ∀ s σ, J s σ → semL P T n ds r K s σ) : semL P T n ds r K s σ := k s σ h
theorem AW.cut {c : Code} {Q : Exit → St → Hp → Prop} (J : St → Hp → Prop) (h : J s σ) (k : ∀ s σ, J s σ → AW P n c Q s σ) : AW P n c Q s σ := k s σ h
theorem T.fork {a c : Tr} (h1 : semT P T n ops ds (.st i 2 a) K s σ) (h2 : semT P T n ops ds (.st j 2 c) K s σ) : semT P T n ops ds (.fork i a j c) K s σ := ⟨h1, h2⟩
end
end
end Go.Abs
namespace Go.Abs.M
open Go Go.Abs Go.Proofs
set_option maxRecDepth 20000
set_option linter.unusedSimpArgs false
set_option linter.unusedVariables false
def cmpI (a b : Int) : Int := if a < b then -1 else if b < a then 1 else 0
theorem isnan_int (a : Int) : PCalls Try.prog 133 [.c (.int .i64 a)] (fun v => v = .c (.bool false)) := by
  refine PCalls.intro Try.call133 Try.func133 rfl Try.ntmps133 Try.results133 (by simp) ?_
  refine AW.seq_k fun K1 h1 => ?_
  all_goals refine AW.reg0 ?_
  all_goals (refine S.g rfl rfl fun K' k' => ?_; simp only [zz, reduceIte, Nat.reduceEqDiff, Nat.reduceAdd]; refine k' _ _ ?_; clear k' K')
  all_goals refine S.nil ?_
  all_goals simp only [ze, reduceIte, Nat.reduceEqDiff, Nat.reduceLT, Nat.reduceLeDiff, Nat.reduceAdd, reduceCtorEq, Nat.reduceMul]
  all_goals apply_assumption
  refine AW.seq_k fun K2 h2 => ?_
  all_goals refine AW.reg0 ?_
  all_goals iterate 4 (refine S.g rfl rfl fun K' k' => ?_; simp only [zz, reduceIte, Nat.reduceEqDiff, Nat.reduceAdd]; refine k' _ _ ?_; clear k' K')
  all_goals refine S.nil ?_
  all_goals simp only [ze, reduceIte, Nat.reduceEqDiff, Nat.reduceLT, Nat.reduceLeDiff, Nat.reduceAdd, reduceCtorEq, Nat.reduceMul]
  all_goals apply_assumption
  refine AW.ret ?_
  all_goals simp only [zs, reduceIte, Nat.reduceEqDiff, Nat.reduceLT, Nat.reduceLeDiff, Nat.reduceAdd, reduceCtorEq, Nat.reduceMul]
  all_goals simp
theorem compare_int (a b : Int) : PCalls Try.prog 114 [.c (.int .i64 a), .c (.int .i64 b)] (fun v => v = .c (.int .i64 (cmpI a b))) := by
  refine PCalls.intro Try.call114 Try.func114 rfl Try.ntmps114 Try.results114 (by simp) ?_
  refine AW.seq_k fun K1 h1 => ?_
  all_goals refine AW.reg0 ?_
  all_goals (refine S.g rfl rfl fun K' k' => ?_; simp only [zz, reduceIte, Nat.reduceEqDiff, Nat.reduceAdd]; refine k' _ _ ?_; clear k' K')
  all_goals refine S.nil ?_
  all_goals simp only [ze, reduceIte, Nat.reduceEqDiff, Nat.reduceLT, Nat.reduceLeDiff, Nat.reduceAdd, reduceCtorEq, Nat.reduceMul]
  all_goals apply_assumption
  refine AW.seq_k fun K2 h2 => ?_
  all_goals refine AW.reg0 ?_
  all_goals (refine S.g rfl rfl fun K' k' => ?_; simp only [zz, reduceIte, Nat.reduceEqDiff, Nat.reduceAdd]; refine k' _ _ ?_; clear k' K')
  all_goals (refine S.g rfl rfl fun K' k' => ?_; simp only [zz, reduceIte, Nat.reduceEqDiff, Nat.reduceLT, Nat.reduceLeDiff, Nat.reduceAdd, reduceCtorEq, Nat.reduceMul]; refine PCalls.eqto (isnan_int _) ?_ <;> (refine k' _ _ ?_; clear k' K'))
  all_goals (refine S.g rfl rfl fun K' k' => ?_; simp only [zz, reduceIte, Nat.reduceEqDiff, Nat.reduceAdd]; refine k' _ _ ?_; clear k' K')
  all_goals refine S.nil ?_
  all_goals simp only [ze, reduceIte, Nat.reduceEqDiff, Nat.reduceLT, Nat.reduceLeDiff, Nat.reduceAdd, reduceCtorEq, Nat.reduceMul]
  all_goals apply_assumption
  refine AW.seq_k fun K3 h3 => ?_
  all_goals refine AW.reg0 ?_
  all_goals (refine S.g rfl rfl fun K' k' => ?_; simp only [zz, reduceIte, Nat.reduceEqDiff, Nat.reduceAdd]; refine k' _ _ ?_; clear k' K')
  all_goals (refine S.g rfl rfl fun K' k' => ?_; simp only [zz, reduceIte, Nat.reduceEqDiff, Nat.reduceLT, Nat.reduceLeDiff, Nat.reduceAdd, reduceCtorEq, Nat.reduceMul]; refine PCalls.eqto (isnan_int _) ?_ <;> (refine k' _ _ ?_; clear k' K'))
  all_goals (refine S.g rfl rfl fun K' k' => ?_; simp only [zz, reduceIte, Nat.reduceEqDiff, Nat.reduceAdd]; refine k' _ _ ?_; clear k' K')
  all_goals refine S.nil ?_
  all_goals simp only [ze, reduceIte, Nat.reduceEqDiff, Nat.reduceLT, Nat.reduceLeDiff, Nat.reduceAdd, reduceCtorEq, Nat.reduceMul]
  all_goals apply_assumption
  refine AW.seq_k fun K4 h4 => ?_
  refine AW.seq_k fun K5 h5 => ?_
  all_goals refine AW.reg0 ?_
  all_goals (refine S.g rfl rfl fun K' k' => ?_; simp only [zz, reduceIte, Nat.reduceEqDiff, Nat.reduceAdd]; refine k' _ _ ?_; clear k' K')
  all_goals refine S.nil ?_
  all_goals simp only [ze, reduceIte, Nat.reduceEqDiff, Nat.reduceLT, Nat.reduceLeDiff, Nat.reduceAdd, reduceCtorEq, Nat.reduceMul]
  all_goals apply_assumption
  refine AW.cond (b := false) (by simp [ev]) (fun hc => by cases hc) (fun hc => AW.skip ?_)
  all_goals simp only [zs, reduceIte, Nat.reduceEqDiff, Nat.reduceLT, Nat.reduceLeDiff, Nat.reduceAdd, reduceCtorEq, Nat.reduceMul]
  all_goals apply_assumption
  refine AW.seq_k fun K6 h6 => ?_
  refine AW.seq_k fun K7 h7 => ?_
  all_goals refine AW.reg0 ?_
  all_goals (refine S.g rfl rfl fun K' k' => ?_; simp only [zz, reduceIte, Nat.reduceEqDiff, Nat.reduceAdd]; refine k' _ _ ?_; clear k' K')
  all_goals refine S.nil ?_
  all_goals simp only [ze, reduceIte, Nat.reduceEqDiff, Nat.reduceLT, Nat.reduceLeDiff, Nat.reduceAdd, reduceCtorEq, Nat.reduceMul]
  all_goals apply_assumption
  refine AW.cond (b := false) (by simp [ev]) (fun hc => by cases hc) (fun hc => AW.skip ?_)
  all_goals simp only [zs, reduceIte, Nat.reduceEqDiff, Nat.reduceLT, Nat.reduceLeDiff, Nat.reduceAdd, reduceCtorEq, Nat.reduceMul]
  all_goals apply_assumption
  refine AW.seq_k fun K8 h8 => ?_
  refine AW.seq_k fun K9 h9 => ?_
  all_goals refine AW.reg0 ?_
  all_goals iterate 3 (refine S.g rfl rfl fun K' k' => ?_; simp only [zz, reduceIte, Nat.reduceEqDiff, Nat.reduceAdd]; refine k' _ _ ?_; clear k' K')
  all_goals refine S.nil ?_
  all_goals simp only [ze, reduceIte, Nat.reduceEqDiff, Nat.reduceLT, Nat.reduceLeDiff, Nat.reduceAdd, reduceCtorEq, Nat.reduceMul]
  all_goals apply_assumption
  refine AW.cond (b := decide (a < b)) (by simp [ev]) (fun hc => ?_) (fun hc => ?_)
  · have hc := of_decide_eq_true hc
    refine AW.seq_k fun K10 h10 => ?_
    all_goals refine AW.reg0 ?_
    all_goals (refine S.g rfl rfl fun K' k' => ?_; simp only [zz, reduceIte, Nat.reduceEqDiff, Nat.reduceAdd]; refine k' _ _ ?_; clear k' K')
    all_goals refine S.nil ?_
    all_goals simp only [ze, reduceIte, Nat.reduceEqDiff, Nat.reduceLT, Nat.reduceLeDiff, Nat.reduceAdd, reduceCtorEq, Nat.reduceMul]
    all_goals apply_assumption
    refine AW.ret ?_
    all_goals simp only [zs, reduceIte, Nat.reduceEqDiff, Nat.reduceLT, Nat.reduceLeDiff, Nat.reduceAdd, reduceCtorEq, Nat.reduceMul]
    simp [cmpI, hc]
  · have hc := of_decide_eq_false hc
    refine AW.skip ?_
    all_goals simp only [zs, reduceIte, Nat.reduceEqDiff, Nat.reduceLT, Nat.reduceLeDiff, Nat.reduceAdd, reduceCtorEq, Nat.reduceMul]
    all_goals apply_assumption
    refine AW.seq_k fun K11 h11 => ?_
    refine AW.seq_k fun K12 h12 => ?_
    all_goals refine AW.reg0 ?_
    all_goals iterate 3 (refine S.g rfl rfl fun K' k' => ?_; simp only [zz, reduceIte, Nat.reduceEqDiff, Nat.reduceAdd]; refine k' _ _ ?_; clear k' K')
    all_goals refine S.nil ?_
    all_goals simp only [ze, reduceIte, Nat.reduceEqDiff, Nat.reduceLT, Nat.reduceLeDiff, Nat.reduceAdd, reduceCtorEq, Nat.reduceMul]
    all_goals apply_assumption
    refine AW.cond (b := decide (a > b)) (by simp [ev]) (fun hd => ?_) (fun hd => ?_)
    · have hd := of_decide_eq_true hd
      refine AW.seq_k fun K13 h13 => ?_
      all_goals refine AW.reg0 ?_
      all_goals (refine S.g rfl rfl fun K' k' => ?_; simp only [zz, reduceIte, Nat.reduceEqDiff, Nat.reduceAdd]; refine k' _ _ ?_; clear k' K')
      all_goals refine S.nil ?_
      all_goals simp only [ze, reduceIte, Nat.reduceEqDiff, Nat.reduceLT, Nat.reduceLeDiff, Nat.reduceAdd, reduceCtorEq, Nat.reduceMul]
      all_goals apply_assumption
      refine AW.ret ?_
      all_goals simp only [zs, reduceIte, Nat.reduceEqDiff, Nat.reduceLT, Nat.reduceLeDiff, Nat.reduceAdd, reduceCtorEq, Nat.reduceMul]
      rw [cmpI, if_neg hc, if_pos hd]
    · have hd := of_decide_eq_false hd
      refine AW.skip ?_
      all_goals simp only [zs, reduceIte, Nat.reduceEqDiff, Nat.reduceLT, Nat.reduceLeDiff, Nat.reduceAdd, reduceCtorEq, Nat.reduceMul]
      all_goals apply_assumption
      refine AW.seq_k fun K14 h14 => ?_
      all_goals refine AW.reg0 ?_
      all_goals (refine S.g rfl rfl fun K' k' => ?_; simp only [zz, reduceIte, Nat.reduceEqDiff, Nat.reduceAdd]; refine k' _ _ ?_; clear k' K')
      all_goals refine S.nil ?_
      all_goals simp only [ze, reduceIte, Nat.reduceEqDiff, Nat.reduceLT, Nat.reduceLeDiff, Nat.reduceAdd, reduceCtorEq, Nat.reduceMul]
      all_goals apply_assumption
      refine AW.ret ?_
      all_goals simp only [zs, reduceIte, Nat.reduceEqDiff, Nat.reduceLT, Nat.reduceLeDiff, Nat.reduceAdd, reduceCtorEq, Nat.reduceMul]
      rw [cmpI, if_neg hc, if_neg hd]
theorem isnan_i64 (a : Int) : PCalls Try.prog 134 [.c (.int .i64 a)] (fun v => v = .c (.bool false)) := by
  refine PCalls.intro Try.call134 Try.func134 rfl Try.ntmps134 Try.results134 (by simp) ?_
  refine AW.seq_k fun K1 h1 => ?_
  all_goals refine AW.reg0 ?_
  all_goals (refine S.g rfl rfl fun K' k' => ?_; simp only [zz, reduceIte, Nat.reduceEqDiff, Nat.reduceAdd]; refine k' _ _ ?_; clear k' K')
  all_goals refine S.nil ?_
  all_goals simp only [ze, reduceIte, Nat.reduceEqDiff, Nat.reduceLT, Nat.reduceLeDiff, Nat.reduceAdd, reduceCtorEq, Nat.reduceMul]
  all_goals apply_assumption
  refine AW.seq_k fun K2 h2 => ?_
  all_goals refine AW.reg0 ?_
  all_goals iterate 4 (refine S.g rfl rfl fun K' k' => ?_; simp only [zz, reduceIte, Nat.reduceEqDiff, Nat.reduceAdd]; refine k' _ _ ?_; clear k' K')
  all_goals refine S.nil ?_
  all_goals simp only [ze, reduceIte, Nat.reduceEqDiff, Nat.reduceLT, Nat.reduceLeDiff, Nat.reduceAdd, reduceCtorEq, Nat.reduceMul]
  all_goals apply_assumption
  refine AW.ret ?_
  all_goals simp only [zs, reduceIte, Nat.reduceEqDiff, Nat.reduceLT, Nat.reduceLeDiff, Nat.reduceAdd, reduceCtorEq, Nat.reduceMul]
  all_goals simp
theorem compare_i64 (a b : Int) : PCalls Try.prog 115 [.c (.int .i64 a), .c (.int .i64 b)] (fun v => v = .c (.int .i64 (cmpI a b))) := by
  refine PCalls.intro Try.call115 Try.func115 rfl Try.ntmps115 Try.results115 (by simp) ?_
  refine AW.seq_k fun K1 h1 => ?_
  all_goals refine AW.reg0 ?_
  all_goals (refine S.g rfl rfl fun K' k' => ?_; simp only [zz, reduceIte, Nat.reduceEqDiff, Nat.reduceAdd]; refine k' _ _ ?_; clear k' K')
  all_goals refine S.nil ?_
  all_goals simp only [ze, reduceIte, Nat.reduceEqDiff, Nat.reduceLT, Nat.reduceLeDiff, Nat.reduceAdd, reduceCtorEq, Nat.reduceMul]
  all_goals apply_assumption
  refine AW.seq_k fun K2 h2 => ?_
  all_goals refine AW.reg0 ?_
  all_goals (refine S.g rfl rfl fun K' k' => ?_; simp only [zz, reduceIte, Nat.reduceEqDiff, Nat.reduceAdd]; refine k' _ _ ?_; clear k' K')
  all_goals (refine S.g rfl rfl fun K' k' => ?_; simp only [zz, reduceIte, Nat.reduceEqDiff, Nat.reduceLT, Nat.reduceLeDiff, Nat.reduceAdd, reduceCtorEq, Nat.reduceMul]; refine PCalls.eqto (isnan_i64 _) ?_ <;> (refine k' _ _ ?_; clear k' K'))
  all_goals (refine S.g rfl rfl fun K' k' => ?_; simp only [zz, reduceIte, Nat.reduceEqDiff, Nat.reduceAdd]; refine k' _ _ ?_; clear k' K')
  all_goals refine S.nil ?_
  all_goals simp only [ze, reduceIte, Nat.reduceEqDiff, Nat.reduceLT, Nat.reduceLeDiff, Nat.reduceAdd, reduceCtorEq, Nat.reduceMul]
  all_goals apply_assumption
  refine AW.seq_k fun K3 h3 => ?_
  all_goals refine AW.reg0 ?_
  all_goals (refine S.g rfl rfl fun K' k' => ?_; simp only [zz, reduceIte, Nat.reduceEqDiff, Nat.reduceAdd]; refine k' _ _ ?_; clear k' K')
  all_goals (refine S.g rfl rfl fun K' k' => ?_; simp only [zz, reduceIte, Nat.reduceEqDiff, Nat.reduceLT, Nat.reduceLeDiff, Nat.reduceAdd, reduceCtorEq, Nat.reduceMul]; refine PCalls.eqto (isnan_i64 _) ?_ <;> (refine k' _ _ ?_; clear k' K'))
  all_goals (refine S.g rfl rfl fun K' k' => ?_; simp only [zz, reduceIte, Nat.reduceEqDiff, Nat.reduceAdd]; refine k' _ _ ?_; clear k' K')
  all_goals refine S.nil ?_
  all_goals simp only [ze, reduceIte, Nat.reduceEqDiff, Nat.reduceLT, Nat.reduceLeDiff, Nat.reduceAdd, reduceCtorEq, Nat.reduceMul]
  all_goals apply_assumption
  refine AW.seq_k fun K4 h4 => ?_
  refine AW.seq_k fun K5 h5 => ?_
  all_goals refine AW.reg0 ?_
  all_goals (refine S.g rfl rfl fun K' k' => ?_; simp only [zz, reduceIte, Nat.reduceEqDiff, Nat.reduceAdd]; refine k' _ _ ?_; clear k' K')
  all_goals refine S.nil ?_
  all_goals simp only [ze, reduceIte, Nat.reduceEqDiff, Nat.reduceLT, Nat.reduceLeDiff, Nat.reduceAdd, reduceCtorEq, Nat.reduceMul]
  all_goals apply_assumption
  refine AW.cond (b := false) (by simp [ev]) (fun hc => by cases hc) (fun hc => AW.skip ?_)
  all_goals simp only [zs, reduceIte, Nat.reduceEqDiff, Nat.reduceLT, Nat.reduceLeDiff, Nat.reduceAdd, reduceCtorEq, Nat.reduceMul]
  all_goals apply_assumption
  refine AW.seq_k fun K6 h6 => ?_
  refine AW.seq_k fun K7 h7 => ?_
  all_goals refine AW.reg0 ?_
  all_goals (refine S.g rfl rfl fun K' k' => ?_; simp only [zz, reduceIte, Nat.reduceEqDiff, Nat.reduceAdd]; refine k' _ _ ?_; clear k' K')
  all_goals refine S.nil ?_
  all_goals simp only [ze, reduceIte, Nat.reduceEqDiff, Nat.reduceLT, Nat.reduceLeDiff, Nat.reduceAdd, reduceCtorEq, Nat.reduceMul]
  all_goals apply_assumption
  refine AW.cond (b := false) (by simp [ev]) (fun hc => by cases hc) (fun hc => AW.skip ?_)
  all_goals simp only [zs, reduceIte, Nat.reduceEqDiff, Nat.reduceLT, Nat.reduceLeDiff, Nat.reduceAdd, reduceCtorEq, Nat.reduceMul]
  all_goals apply_assumption
  refine AW.seq_k fun K8 h8 => ?_
  refine AW.seq_k fun K9 h9 => ?_
  all_goals refine AW.reg0 ?_
  all_goals iterate 3 (refine S.g rfl rfl fun K' k' => ?_; simp only [zz, reduceIte, Nat.reduceEqDiff, Nat.reduceAdd]; refine k' _ _ ?_; clear k' K')
  all_goals refine S.nil ?_
  all_goals simp only [ze, reduceIte, Nat.reduceEqDiff, Nat.reduceLT, Nat.reduceLeDiff, Nat.reduceAdd, reduceCtorEq, Nat.reduceMul]
  all_goals apply_assumption
  refine AW.cond (b := decide (a < b)) (by simp [ev]) (fun hc => ?_) (fun hc => ?_)
  · have hc := of_decide_eq_true hc
    refine AW.seq_k fun K10 h10 => ?_
    all_goals refine AW.reg0 ?_
    all_goals (refine S.g rfl rfl fun K' k' => ?_; simp only [zz, reduceIte, Nat.reduceEqDiff, Nat.reduceAdd]; refine k' _ _ ?_; clear k' K')
    all_goals refine S.nil ?_
    all_goals simp only [ze, reduceIte, Nat.reduceEqDiff, Nat.reduceLT, Nat.reduceLeDiff, Nat.reduceAdd, reduceCtorEq, Nat.reduceMul]
    all_goals apply_assumption
    refine AW.ret ?_
    all_goals simp only [zs, reduceIte, Nat.reduceEqDiff, Nat.reduceLT, Nat.reduceLeDiff, Nat.reduceAdd, reduceCtorEq, Nat.reduceMul]
    simp [cmpI, hc]
  · have hc := of_decide_eq_false hc
    refine AW.skip ?_
    all_goals simp only [zs, reduceIte, Nat.reduceEqDiff, Nat.reduceLT, Nat.reduceLeDiff, Nat.reduceAdd, reduceCtorEq, Nat.reduceMul]
    all_goals apply_assumption
    refine AW.seq_k fun K11 h11 => ?_
    refine AW.seq_k fun K12 h12 => ?_
    all_goals refine AW.reg0 ?_
    all_goals iterate 3 (refine S.g rfl rfl fun K' k' => ?_; simp only [zz, reduceIte, Nat.reduceEqDiff, Nat.reduceAdd]; refine k' _ _ ?_; clear k' K')
    all_goals refine S.nil ?_
    all_goals simp only [ze, reduceIte, Nat.reduceEqDiff, Nat.reduceLT, Nat.reduceLeDiff, Nat.reduceAdd, reduceCtorEq, Nat.reduceMul]
    all_goals apply_assumption
    refine AW.cond (b := decide (a > b)) (by simp [ev]) (fun hd => ?_) (fun hd => ?_)
    · have hd := of_decide_eq_true hd
      refine AW.seq_k fun K13 h13 => ?_
      all_goals refine AW.reg0 ?_
      all_goals (refine S.g rfl rfl fun K' k' => ?_; simp only [zz, reduceIte, Nat.reduceEqDiff, Nat.reduceAdd]; refine k' _ _ ?_; clear k' K')
      all_goals refine S.nil ?_
      all_goals simp only [ze, reduceIte, Nat.reduceEqDiff, Nat.reduceLT, Nat.reduceLeDiff, Nat.reduceAdd, reduceCtorEq, Nat.reduceMul]
      all_goals apply_assumption
      refine AW.ret ?_
      all_goals simp only [zs, reduceIte, Nat.reduceEqDiff, Nat.reduceLT, Nat.reduceLeDiff, Nat.reduceAdd, reduceCtorEq, Nat.reduceMul]
      rw [cmpI, if_neg hc, if_pos hd]
    · have hd := of_decide_eq_false hd
      refine AW.skip ?_
      all_goals simp only [zs, reduceIte, Nat.reduceEqDiff, Nat.reduceLT, Nat.reduceLeDiff, Nat.reduceAdd, reduceCtorEq, Nat.reduceMul]
      all_goals apply_assumption
      refine AW.seq_k fun K14 h14 => ?_
      all_goals refine AW.reg0 ?_
      all_goals (refine S.g rfl rfl fun K' k' => ?_; simp only [zz, reduceIte, Nat.reduceEqDiff, Nat.reduceAdd]; refine k' _ _ ?_; clear k' K')
      all_goals refine S.nil ?_
      all_goals simp only [ze, reduceIte, Nat.reduceEqDiff, Nat.reduceLT, Nat.reduceLeDiff, Nat.reduceAdd, reduceCtorEq, Nat.reduceMul]
      all_goals apply_assumption
      refine AW.ret ?_
      all_goals simp only [zs, reduceIte, Nat.reduceEqDiff, Nat.reduceLT, Nat.reduceLeDiff, Nat.reduceAdd, reduceCtorEq, Nat.reduceMul]
      rw [cmpI, if_neg hc, if_neg hd]
def orI : List Int → Int
  | [] => 0
  | a :: l => if a ≠ 0 then a else orI l
theorem or_spec (l : List Int) (hl : l.length < 4611686018427387904) : PCalls Try.prog 84 [.sl (l.map encI)] (fun v => v = .c (.int .i64 (orI l))) := by
  refine PCalls.intro Try.call84 Try.func84 rfl Try.ntmps84 Try.results84 (by simp) ?_
  refine AW.seq_k fun K1 h1 => ?_
  all_goals refine AW.reg0 ?_
  all_goals (refine S.g rfl rfl fun K' k' => ?_; simp only [zz, reduceIte, Nat.reduceEqDiff, Nat.reduceAdd]; refine k' _ _ ?_; clear k' K')
  all_goals refine S.nil ?_
  all_goals simp only [ze, reduceIte, Nat.reduceEqDiff, Nat.reduceLT, Nat.reduceLeDiff, Nat.reduceAdd, reduceCtorEq, Nat.reduceMul]
  all_goals apply_assumption
  refine AW.seq_k fun K2 h2 => ?_
  all_goals refine AW.reg0 ?_
  all_goals (refine S.g rfl rfl fun K' k' => ?_; simp only [zz, reduceIte, Nat.reduceEqDiff, Nat.reduceAdd]; refine k' _ _ ?_; clear k' K')
  all_goals refine S.nil ?_
  all_goals simp only [ze, reduceIte, Nat.reduceEqDiff, Nat.reduceLT, Nat.reduceLeDiff, Nat.reduceAdd, reduceCtorEq, Nat.reduceMul]
  all_goals apply_assumption
  refine AW.seq_k fun K3 h3 => ?_
  refine AW.seq_k fun K4 h4 => ?_
  all_goals refine AW.reg0 ?_
  all_goals iterate 3 (refine S.g rfl rfl fun K' k' => ?_; simp only [zz, reduceIte, Nat.reduceEqDiff, Nat.reduceLT, Nat.reduceLeDiff, Nat.reduceAdd, reduceCtorEq, Nat.reduceMul, sl144, el144, ok3, sz3, ag3]; refine k' _ _ ?_; clear k' K')
  all_goals refine S.nil ?_
  all_goals simp only [ze, reduceIte, Nat.reduceEqDiff, Nat.reduceLT, Nat.reduceLeDiff, Nat.reduceAdd, reduceCtorEq, Nat.reduceMul]
  all_goals apply_assumption
  refine AW.block ?_   -- 0
  refine AW.loop (fun m s σ => σ = Hp.empty ∧ ∃ i : Nat, m + i = l.length ∧ s.t 3 = .c (.int .i64 0) ∧ s.t 6 = .sl (l.map encI) ∧ s.t 7 = .c (.int .i64 l.length) ∧ s.t 8 = .c (.int .i64 i) ∧ orI l = orI (l.drop i)) l.length ?_ ?_
  · refine ⟨rfl, 0, by simp, ?_⟩
    all_goals simp only [zs, reduceIte, Nat.reduceEqDiff, Nat.reduceLT, Nat.reduceLeDiff, Nat.reduceAdd, reduceCtorEq, Nat.reduceMul]
    simp
  rintro m s σ ⟨rfl, i, hm, e3, e6, e7, e8, hp⟩
  refine AW.seq_k fun K5 h5 => ?_
  all_goals refine AW.reg0 ?_
  all_goals (refine S.g rfl rfl fun K' k' => ?_; simp only [zz, reduceIte, Nat.reduceEqDiff, Nat.reduceAdd, e7, e8]; refine k' _ _ ?_; clear k' K')
  all_goals refine S.nil ?_
  all_goals simp only [ze, reduceIte, Nat.reduceEqDiff, Nat.reduceLT, Nat.reduceLeDiff, Nat.reduceAdd, reduceCtorEq, Nat.reduceMul, e7, e8]
  all_goals apply_assumption
  refine AW.seq_k fun K6 h6 => ?_
  refine AW.cond (b := decide (i < l.length)) (by simp [ev]) (fun hc => ?_) (fun hc => ?_)
  · refine AW.skip ?_
    all_goals simp only [zs, reduceIte, Nat.reduceEqDiff, Nat.reduceLT, Nat.reduceLeDiff, Nat.reduceAdd, reduceCtorEq, Nat.reduceMul]
    all_goals apply_assumption
    have hi : i < l.length := by simpa using hc
    have hg := getD_map (f := encI) hi
    have hd : l.drop i = l[i] :: l.drop (i + 1) := List.drop_eq_getElem_cons hi
    generalize ha : l[i] = a at hg hd
    have hw : IntKind.i64.wrap ((i : Int) + 1) = ((i + 1 : Nat) : Int) := by rw [wrap_small _ (by omega) (by omega)]; rfl
    rw [hd, orI] at hp
    refine AW.seq_k fun K7 h7 => ?_
    refine AW.block ?_   -- 1
    refine AW.seq_k fun K8 h8 => ?_
    all_goals refine AW.reg0 ?_
    all_goals iterate 3 (refine S.g rfl rfl fun K' k' => ?_; simp only [zz, reduceIte, Nat.reduceEqDiff, Nat.reduceLT, Nat.reduceLeDiff, Nat.reduceAdd, reduceCtorEq, Nat.reduceMul, sl144, el144, ok3, sz3, ag3, e6, e8, hi, hg, encI]; refine k' _ _ ?_; clear k' K')
    all_goals refine S.nil ?_
    all_goals simp only [ze, reduceIte, Nat.reduceEqDiff, Nat.reduceLT, Nat.reduceLeDiff, Nat.reduceAdd, reduceCtorEq, Nat.reduceMul, e6, e8, hi, hg, encI]
    all_goals apply_assumption
    refine AW.seq_k fun K9 h9 => ?_
    all_goals refine AW.reg0 ?_
    all_goals iterate 3 (refine S.g rfl rfl fun K' k' => ?_; simp only [zz, reduceIte, Nat.reduceEqDiff, Nat.reduceAdd, e3]; refine k' _ _ ?_; clear k' K')
    all_goals refine S.nil ?_
    all_goals simp only [ze, reduceIte, Nat.reduceEqDiff, Nat.reduceLT, Nat.reduceLeDiff, Nat.reduceAdd, reduceCtorEq, Nat.reduceMul, e3]
    all_goals apply_assumption
    refine AW.cond (b := a != 0) (by simp [ev]) (fun hx => ?_) (fun hx => ?_)
    · have hx : a ≠ 0 := by simpa using hx
      refine AW.seq_k fun K10 h10 => ?_
      all_goals refine AW.reg0 ?_
      all_goals iterate 2 (refine S.g rfl rfl fun K' k' => ?_; simp only [zz, reduceIte, Nat.reduceEqDiff, Nat.reduceAdd]; refine k' _ _ ?_; clear k' K')
      all_goals refine S.nil ?_
      all_goals simp only [ze, reduceIte, Nat.reduceEqDiff, Nat.reduceLT, Nat.reduceLeDiff, Nat.reduceAdd, reduceCtorEq, Nat.reduceMul]
      all_goals apply_assumption
      refine AW.ret ?_
      all_goals simp only [zs, reduceIte, Nat.reduceEqDiff, Nat.reduceLT, Nat.reduceLeDiff, Nat.reduceAdd, reduceCtorEq, Nat.reduceMul]
      rw [hp, if_pos hx]
    · have hx : ¬ a ≠ 0 := by simpa using hx
      rw [if_neg hx] at hp
      refine AW.skip ?_
      all_goals simp only [zs, reduceIte, Nat.reduceEqDiff, Nat.reduceLT, Nat.reduceLeDiff, Nat.reduceAdd, reduceCtorEq, Nat.reduceMul]
      all_goals apply_assumption
      all_goals refine AW.reg0 ?_
      all_goals iterate 2 (refine S.g rfl rfl fun K' k' => ?_; simp only [zz, reduceIte, Nat.reduceEqDiff, Nat.reduceAdd, e8, hw]; refine k' _ _ ?_; clear k' K')
      all_goals refine S.nil ?_
      all_goals simp only [ze, reduceIte, Nat.reduceEqDiff, Nat.reduceLT, Nat.reduceLeDiff, Nat.reduceAdd, reduceCtorEq, Nat.reduceMul, e8, hw]
      exact ⟨m - 1, by omega, i + 1, by omega, e3, e6, e7, rfl, hp⟩
  · refine AW.exit ?_
    all_goals simp only [zs, reduceIte, Nat.reduceEqDiff, Nat.reduceLT, Nat.reduceLeDiff, Nat.reduceAdd, reduceCtorEq, Nat.reduceMul]
    all_goals apply_assumption
    have hi : l.length ≤ i := by simpa using hc
    refine AW.seq_k fun K11 h11 => ?_
    all_goals refine AW.reg0 ?_
    all_goals iterate 2 (refine S.g rfl rfl fun K' k' => ?_; simp only [zz, reduceIte, Nat.reduceEqDiff, Nat.reduceAdd, e3]; refine k' _ _ ?_; clear k' K')
    all_goals refine S.nil ?_
    all_goals simp only [ze, reduceIte, Nat.reduceEqDiff, Nat.reduceLT, Nat.reduceLeDiff, Nat.reduceAdd, reduceCtorEq, Nat.reduceMul, e3]
    all_goals apply_assumption
    refine AW.ret ?_
    all_goals simp only [zs, reduceIte, Nat.reduceEqDiff, Nat.reduceLT, Nat.reduceLeDiff, Nat.reduceAdd, reduceCtorEq, Nat.reduceMul]
    rw [hp, List.drop_of_length_le hi]; rfl
def encId (p : Int × Int) : List V := [.c (.int .i64 p.1), .c (.int .i64 p.2)]
def cmpId (a b : Int × Int) : Int := orI [cmpI a.1 b.1, cmpI a.2 b.2]
theorem compare_id (a b : Int × Int) : PCalls Try.prog 85 [.agg (encId a), .agg (encId b)] (fun v => v = .c (.int .i64 (cmpId a b))) := by
  refine PCalls.intro Try.call85 Try.func85 rfl Try.ntmps85 Try.results85 (by simp) ?_
  refine AW.seq_k fun K1 h1 => ?_
  all_goals refine AW.reg0 ?_
  all_goals iterate 3 (refine S.g rfl rfl fun K' k' => ?_; simp only [zz, reduceIte, Nat.reduceEqDiff, Nat.reduceLT, Nat.reduceLeDiff, Nat.reduceAdd, reduceCtorEq, Nat.reduceMul, ok33, sz33, ag33, encId]; refine k' _ _ ?_; clear k' K')
  all_goals refine S.nil ?_
  all_goals simp only [ze, reduceIte, Nat.reduceEqDiff, Nat.reduceLT, Nat.reduceLeDiff, Nat.reduceAdd, reduceCtorEq, Nat.reduceMul, encId]
  all_goals apply_assumption
  refine AW.seq_k fun K2 h2 => ?_
  all_goals refine AW.draw (T := { sd := fun d => d == 2 || d == 3 }) (fun _ _ h => by cases h) mixedO [(0, 0), (2, 0), (5, 0), (7, 0), (1, 1), (3, 1), (6, 1), (8, 1), (4, 2), (9, 2), (10, 2), (11, 2), (12, 0)] rfl (by kernel_rfl) (by kernel_rfl) ?_
  all_goals iterate 4 (refine D.g rfl trivial rfl rfl fun K' k' => ?_; simp only [zz, reduceIte, Nat.reduceEqDiff, Nat.reduceLT, Nat.reduceLeDiff, Nat.reduceAdd, reduceCtorEq, Nat.reduceMul, of33_0, of33_1]; refine k' _ _ ?_; clear k' K')
  all_goals iterate 4 (refine D.g rfl rfl rfl rfl fun K' k' => ?_; simp only [zz, reduceIte, Nat.reduceEqDiff, Nat.reduceLT, Nat.reduceLeDiff, Nat.reduceAdd, reduceCtorEq, Nat.reduceMul, ok3, sz3, ag3, ok2, sz2, ag2]; refine k' _ _ ?_; clear k' K')
  all_goals (refine D.g rfl trivial rfl rfl fun K' k' => ?_; simp only [zz, reduceIte, Nat.reduceEqDiff, Nat.reduceLT, Nat.reduceLeDiff, Nat.reduceAdd, reduceCtorEq, Nat.reduceMul]; refine PCalls.eqto (compare_int _ _) ?_ <;> (refine k' _ _ ?_; clear k' K'))
  all_goals (refine D.g rfl trivial rfl rfl fun K' k' => ?_; simp only [zz, reduceIte, Nat.reduceEqDiff, Nat.reduceLT, Nat.reduceLeDiff, Nat.reduceAdd, reduceCtorEq, Nat.reduceMul]; refine PCalls.eqto (compare_i64 _ _) ?_ <;> (refine k' _ _ ?_; clear k' K'))
  all_goals (refine D.g rfl trivial rfl rfl fun K' k' => ?_; simp only [zb, reduceIte, Nat.reduceEqDiff, Nat.reduceLT, Nat.reduceLeDiff, Nat.reduceAdd, reduceCtorEq, Nat.reduceMul, sl144, el144, ok3, sz3, ag3, zt3, by3]; refine ⟨rfl, (by simp), ?_⟩ <;> (refine k' _ _ ?_; clear k' K'))
  all_goals (refine D.g rfl trivial rfl rfl fun K' k' => ?_; simp only [zz, reduceIte, Nat.reduceEqDiff, Nat.reduceLT, Nat.reduceLeDiff, Nat.reduceAdd, reduceCtorEq, Nat.reduceMul]; refine PCalls.eqto (or_spec [cmpI a.1 b.1, cmpI a.2 b.2] (by simp)) ?_ <;> (refine k' _ _ ?_; clear k' K'))
  all_goals (refine D.g rfl trivial rfl rfl fun K' k' => ?_; simp only [zz, reduceIte, Nat.reduceEqDiff, Nat.reduceAdd]; refine k' _ _ ?_; clear k' K')
  all_goals refine D.nil ?_
  all_goals simp only [ze, reduceIte, Nat.reduceEqDiff, Nat.reduceLT, Nat.reduceLeDiff, Nat.reduceAdd, reduceCtorEq, Nat.reduceMul]
  all_goals apply_assumption
  refine AW.ret ?_
  all_goals simp only [zs, reduceIte, Nat.reduceEqDiff, Nat.reduceLT, Nat.reduceLeDiff, Nat.reduceAdd, reduceCtorEq, Nat.reduceMul]
  all_goals rfl
end Go.Abs.M
namespace Go.Abs.M
open Go Go.Abs Go.Proofs
set_option maxRecDepth 20000
set_option linter.unusedSimpArgs false
set_option linter.unusedVariables false
def cmpBd (a b : Bd) : Int := orI [cmpS a.var b.var, cmpId (idOf a) (idOf b)]
def cmpL : List Bd → List Bd → Int
  | [], [] => 0
  | [], _ :: _ => -1
  | _ :: _, [] => 1
  | a :: l, b :: r => if cmpBd a b ≠ 0 then cmpBd a b else cmpL l r
theorem compare_bd (a b : Bd) : PCalls Try.prog 83 [.agg (encBd a), .agg (encBd b)] (fun v => v = .c (.int .i64 (cmpBd a b))) := by
  refine PCalls.intro Try.call83 Try.func83 rfl Try.ntmps83 Try.results83 (by simp) ?_
  refine AW.seq_k fun K1 h1 => ?_
  all_goals refine AW.reg0 ?_
  all_goals iterate 3 (refine S.g rfl rfl fun K' k' => ?_; simp only [zz, reduceIte, Nat.reduceEqDiff, Nat.reduceLT, Nat.reduceLeDiff, Nat.reduceAdd, reduceCtorEq, Nat.reduceMul, ok42, sz42, ag42, encBd]; refine k' _ _ ?_; clear k' K')
  all_goals refine S.nil ?_
  all_goals simp only [ze, reduceIte, Nat.reduceEqDiff, Nat.reduceLT, Nat.reduceLeDiff, Nat.reduceAdd, reduceCtorEq, Nat.reduceMul, encBd]
  all_goals apply_assumption
  refine AW.seq_k fun K2 h2 => ?_
  all_goals refine AW.draw (T := { sd := fun d => d == 2 || d == 3 }) (fun _ _ h => by cases h) mixedO [(0, 0), (2, 0), (5, 0), (6, 0), (8, 0), (9, 0), (1, 1), (3, 1), (7, 1), (10, 1), (4, 2), (11, 2), (12, 2), (13, 2), (14, 0)] rfl (by kernel_rfl) (by kernel_rfl) ?_
  all_goals iterate 6 (refine D.g rfl trivial rfl rfl fun K' k' => ?_; simp only [zz, reduceIte, Nat.reduceEqDiff, Nat.reduceLT, Nat.reduceLeDiff, Nat.reduceAdd, reduceCtorEq, Nat.reduceMul, of42_0, of42_1, of36_0]; refine k' _ _ ?_; clear k' K')
  all_goals iterate 4 (refine D.g rfl rfl rfl rfl fun K' k' => ?_; simp only [zz, reduceIte, Nat.reduceEqDiff, Nat.reduceLT, Nat.reduceLeDiff, Nat.reduceAdd, reduceCtorEq, Nat.reduceMul, ok9, sz9, ag9, ok33, sz33, ag33]; refine k' _ _ ?_; clear k' K')
  all_goals (refine D.g rfl trivial rfl rfl fun K' k' => ?_; simp only [zz, reduceIte, Nat.reduceEqDiff, Nat.reduceLT, Nat.reduceLeDiff, Nat.reduceAdd, reduceCtorEq, Nat.reduceMul]; refine PCalls.eqto (compare_str _ _) ?_ <;> (refine k' _ _ ?_; clear k' K'))
  all_goals (refine D.g rfl trivial rfl rfl fun K' k' => ?_; simp only [zz, reduceIte, Nat.reduceEqDiff, Nat.reduceLT, Nat.reduceLeDiff, Nat.reduceAdd, reduceCtorEq, Nat.reduceMul]; refine PCalls.eqto (compare_id (idOf a) (idOf b)) ?_ <;> (refine k' _ _ ?_; clear k' K'))
  all_goals (refine D.g rfl trivial rfl rfl fun K' k' => ?_; simp only [zb, reduceIte, Nat.reduceEqDiff, Nat.reduceLT, Nat.reduceLeDiff, Nat.reduceAdd, reduceCtorEq, Nat.reduceMul, sl144, el144, ok3, sz3, ag3, zt3, by3]; refine ⟨rfl, (by simp), ?_⟩ <;> (refine k' _ _ ?_; clear k' K'))
  all_goals (refine D.g rfl trivial rfl rfl fun K' k' => ?_; simp only [zz, reduceIte, Nat.reduceEqDiff, Nat.reduceLT, Nat.reduceLeDiff, Nat.reduceAdd, reduceCtorEq, Nat.reduceMul]; refine PCalls.eqto (or_spec [cmpS a.var b.var, cmpId (idOf a) (idOf b)] (by simp)) ?_ <;> (refine k' _ _ ?_; clear k' K'))
  all_goals (refine D.g rfl trivial rfl rfl fun K' k' => ?_; simp only [zz, reduceIte, Nat.reduceEqDiff, Nat.reduceAdd]; refine k' _ _ ?_; clear k' K')
  all_goals refine D.nil ?_
  all_goals simp only [ze, reduceIte, Nat.reduceEqDiff, Nat.reduceLT, Nat.reduceLeDiff, Nat.reduceAdd, reduceCtorEq, Nat.reduceMul]
  all_goals apply_assumption
  refine AW.ret ?_
  all_goals simp only [zs, reduceIte, Nat.reduceEqDiff, Nat.reduceLT, Nat.reduceLeDiff, Nat.reduceAdd, reduceCtorEq, Nat.reduceMul]
  all_goals rfl
theorem compareF (l r : List Bd) (hl : l.length < 4611686018427387904) : PCalls Try.prog 82 [.sl (l.map encBd), .sl (r.map encBd), .fn (.func 83) [] []] (fun v => v = .c (.int .i64 (cmpL l r))) := by
  refine PCalls.intro Try.call82 Try.func82 rfl Try.ntmps82 Try.results82 (by simp) ?_
  refine AW.seq_k fun K1 h1 => ?_
  all_goals refine AW.reg0 ?_
  all_goals (refine S.g rfl rfl fun K' k' => ?_; simp only [zz, reduceIte, Nat.reduceEqDiff, Nat.reduceAdd]; refine k' _ _ ?_; clear k' K')
  all_goals refine S.nil ?_
  all_goals simp only [ze, reduceIte, Nat.reduceEqDiff, Nat.reduceLT, Nat.reduceLeDiff, Nat.reduceAdd, reduceCtorEq, Nat.reduceMul]
  all_goals apply_assumption
  refine AW.seq_j (fun s σ => σ = Hp.empty ∧ s.t 0 = .sl (l.map encBd) ∧ s.t 1 = .sl (r.map encBd) ∧ l.length ≤ r.length ∧ cmpL l r = cmpL [] (r.drop l.length)) ?_ ?_
  · refine AW.seq_k fun K2 h2 => ?_
    all_goals refine AW.reg0 ?_
    all_goals iterate 3 (refine S.g rfl rfl fun K' k' => ?_; simp only [zz, reduceIte, Nat.reduceEqDiff, Nat.reduceLT, Nat.reduceLeDiff, Nat.reduceAdd, reduceCtorEq, Nat.reduceMul, sl22, el22, ok42, sz42, ag42]; refine k' _ _ ?_; clear k' K')
    all_goals refine S.nil ?_
    all_goals simp only [ze, reduceIte, Nat.reduceEqDiff, Nat.reduceLT, Nat.reduceLeDiff, Nat.reduceAdd, reduceCtorEq, Nat.reduceMul]
    all_goals apply_assumption
    refine AW.block ?_   -- 0
    refine AW.loop (fun m s σ => σ = Hp.empty ∧ ∃ i : Nat, m + i = l.length ∧ s.t 0 = .sl (l.map encBd) ∧ s.t 1 = .sl (r.map encBd) ∧ s.t 2 = .fn (.func 83) [] [] ∧ s.t 11 = .sl (l.map encBd) ∧ s.t 12 = .c (.int .i64 l.length) ∧ s.t 13 = .c (.int .i64 i) ∧ i ≤ r.length ∧ cmpL l r = cmpL (l.drop i) (r.drop i)) l.length ?_ ?_
    · refine ⟨rfl, 0, by simp, ?_⟩
      all_goals simp only [zs, reduceIte, Nat.reduceEqDiff, Nat.reduceLT, Nat.reduceLeDiff, Nat.reduceAdd, reduceCtorEq, Nat.reduceMul]
      simp
    rintro m s σ ⟨rfl, i, hm, e0, e1, e2, e11, e12, e13, hir, hp⟩
    refine AW.seq_k fun K3 h3 => ?_
    all_goals refine AW.reg0 ?_
    all_goals (refine S.g rfl rfl fun K' k' => ?_; simp only [zz, reduceIte, Nat.reduceEqDiff, Nat.reduceAdd, e12, e13]; refine k' _ _ ?_; clear k' K')
    all_goals refine S.nil ?_
    all_goals simp only [ze, reduceIte, Nat.reduceEqDiff, Nat.reduceLT, Nat.reduceLeDiff, Nat.reduceAdd, reduceCtorEq, Nat.reduceMul, e12, e13]
    all_goals apply_assumption
    refine AW.seq_k fun K4 h4 => ?_
    refine AW.cond (b := decide (i < l.length)) (by simp [ev]) (fun hc => ?_) (fun hc => ?_)
    · refine AW.skip ?_
      all_goals simp only [zs, reduceIte, Nat.reduceEqDiff, Nat.reduceLT, Nat.reduceLeDiff, Nat.reduceAdd, reduceCtorEq, Nat.reduceMul]
      all_goals apply_assumption
      have hi : i < l.length := by simpa using hc
      have hg := getD_map (f := encBd) hi
      have hd : l.drop i = l[i] :: l.drop (i + 1) := List.drop_eq_getElem_cons hi
      generalize ha : l[i] = a at hg hd
      have hw : IntKind.i64.wrap ((i : Int) + 1) = ((i + 1 : Nat) : Int) := by rw [wrap_small _ (by omega) (by omega)]; rfl
      refine AW.seq_k fun K5 h5 => ?_
      refine AW.block ?_   -- 1
      refine AW.seq_k fun K6 h6 => ?_
      all_goals refine AW.reg0 ?_
      all_goals iterate 6 (refine S.g rfl rfl fun K' k' => ?_; simp only [zz, reduceIte, Nat.reduceEqDiff, Nat.reduceLT, Nat.reduceLeDiff, Nat.reduceAdd, reduceCtorEq, Nat.reduceMul, sl22, el22, ok42, sz42, ag42, zt42, e11, e13, hi, hg, encBd]; refine k' _ _ ?_; clear k' K')
      all_goals refine S.nil ?_
      all_goals simp only [ze, reduceIte, Nat.reduceEqDiff, Nat.reduceLT, Nat.reduceLeDiff, Nat.reduceAdd, reduceCtorEq, Nat.reduceMul, e11, e13, hi, hg, encBd]
      all_goals apply_assumption
      refine AW.seq_k fun K7 h7 => ?_
      refine AW.seq_k fun K8 h8 => ?_
      all_goals refine AW.reg0 ?_
      all_goals iterate 4 (refine S.g rfl rfl fun K' k' => ?_; simp only [zz, reduceIte, Nat.reduceEqDiff, Nat.reduceLT, Nat.reduceLeDiff, Nat.reduceAdd, reduceCtorEq, Nat.reduceMul, sl22, el22, ok42, sz42, ag42, e1]; refine k' _ _ ?_; clear k' K')
      all_goals refine S.nil ?_
      all_goals simp only [ze, reduceIte, Nat.reduceEqDiff, Nat.reduceLT, Nat.reduceLeDiff, Nat.reduceAdd, reduceCtorEq, Nat.reduceMul, e1]
      all_goals apply_assumption
      refine AW.cond (b := decide ((i : Int) ≥ r.length)) (by simp [ev]) (fun hx => ?_) (fun hx => ?_)
      · have hx := of_decide_eq_true hx
        refine AW.seq_k fun K9 h9 => ?_
        all_goals refine AW.reg0 ?_
        all_goals (refine S.g rfl rfl fun K' k' => ?_; simp only [zz, reduceIte, Nat.reduceEqDiff, Nat.reduceAdd]; refine k' _ _ ?_; clear k' K')
        all_goals refine S.nil ?_
        all_goals simp only [ze, reduceIte, Nat.reduceEqDiff, Nat.reduceLT, Nat.reduceLeDiff, Nat.reduceAdd, reduceCtorEq, Nat.reduceMul]
        all_goals apply_assumption
        refine AW.ret ?_
        all_goals simp only [zs, reduceIte, Nat.reduceEqDiff, Nat.reduceLT, Nat.reduceLeDiff, Nat.reduceAdd, reduceCtorEq, Nat.reduceMul]
        rw [hp, hd, List.drop_of_length_le (show r.length ≤ i by omega)]; rfl
      · have hx := of_decide_eq_false hx
        have hj : i < r.length := by omega
        have hg2 := getD_map (f := encBd) hj
        have hd2 : r.drop i = r[i] :: r.drop (i + 1) := List.drop_eq_getElem_cons hj
        generalize hb : r[i] = b at hg2 hd2
        rw [hd, hd2, cmpL] at hp
        refine AW.skip ?_
        all_goals simp only [zs, reduceIte, Nat.reduceEqDiff, Nat.reduceLT, Nat.reduceLeDiff, Nat.reduceAdd, reduceCtorEq, Nat.reduceMul]
        all_goals apply_assumption
        refine AW.seq_k fun K10 h10 => ?_
        all_goals refine AW.reg0 ?_
        all_goals iterate 6 (refine S.g rfl rfl fun K' k' => ?_; simp only [zz, reduceIte, Nat.reduceEqDiff, Nat.reduceLT, Nat.reduceLeDiff, Nat.reduceAdd, reduceCtorEq, Nat.reduceMul, sl22, el22, ok42, sz42, ag42, zt42, e1, hj, hg2, encBd]; refine k' _ _ ?_; clear k' K')
        all_goals refine S.nil ?_
        all_goals simp only [ze, reduceIte, Nat.reduceEqDiff, Nat.reduceLT, Nat.reduceLeDiff, Nat.reduceAdd, reduceCtorEq, Nat.reduceMul, e1, hj, hg2, encBd]
        all_goals apply_assumption
        refine AW.seq_k fun K11 h11 => ?_
        all_goals refine AW.reg0 ?_
        all_goals iterate 3 (refine S.g rfl rfl fun K' k' => ?_; simp only [zz, reduceIte, Nat.reduceEqDiff, Nat.reduceLT, Nat.reduceLeDiff, Nat.reduceAdd, reduceCtorEq, Nat.reduceMul, ok42, sz42, ag42, e2, encBd]; refine k' _ _ ?_; clear k' K')
        all_goals (refine S.g rfl rfl fun K' k' => ?_; simp only [zz, reduceIte, Nat.reduceEqDiff, Nat.reduceLT, Nat.reduceLeDiff, Nat.reduceAdd, reduceCtorEq, Nat.reduceMul, e2, encBd]; refine PCalls.eqto (compare_bd a b) ?_ <;> (refine k' _ _ ?_; clear k' K'))
        all_goals (refine S.g rfl rfl fun K' k' => ?_; simp only [zz, reduceIte, Nat.reduceEqDiff, Nat.reduceAdd, e2, encBd]; refine k' _ _ ?_; clear k' K')
        all_goals refine S.nil ?_
        all_goals simp only [ze, reduceIte, Nat.reduceEqDiff, Nat.reduceLT, Nat.reduceLeDiff, Nat.reduceAdd, reduceCtorEq, Nat.reduceMul, e2, encBd]
        all_goals apply_assumption
        refine AW.seq_k fun K12 h12 => ?_
        all_goals refine AW.reg0 ?_
        all_goals iterate 2 (refine S.g rfl rfl fun K' k' => ?_; simp only [zz, reduceIte, Nat.reduceEqDiff, Nat.reduceAdd]; refine k' _ _ ?_; clear k' K')
        all_goals refine S.nil ?_
        all_goals simp only [ze, reduceIte, Nat.reduceEqDiff, Nat.reduceLT, Nat.reduceLeDiff, Nat.reduceAdd, reduceCtorEq, Nat.reduceMul]
        all_goals apply_assumption
        refine AW.cond (b := cmpBd a b != 0) (by simp [ev]) (fun hy => ?_) (fun hy => ?_)
        · have hy : cmpBd a b ≠ 0 := by simpa using hy
          refine AW.seq_k fun K13 h13 => ?_
          all_goals refine AW.reg0 ?_
          all_goals iterate 2 (refine S.g rfl rfl fun K' k' => ?_; simp only [zz, reduceIte, Nat.reduceEqDiff, Nat.reduceAdd]; refine k' _ _ ?_; clear k' K')
          all_goals refine S.nil ?_
          all_goals simp only [ze, reduceIte, Nat.reduceEqDiff, Nat.reduceLT, Nat.reduceLeDiff, Nat.reduceAdd, reduceCtorEq, Nat.reduceMul]
          all_goals apply_assumption
          refine AW.ret ?_
          all_goals simp only [zs, reduceIte, Nat.reduceEqDiff, Nat.reduceLT, Nat.reduceLeDiff, Nat.reduceAdd, reduceCtorEq, Nat.reduceMul]
          rw [hp, if_pos hy]
        · have hy : ¬ cmpBd a b ≠ 0 := by simpa using hy
          rw [if_neg hy] at hp
          refine AW.skip ?_
          all_goals simp only [zs, reduceIte, Nat.reduceEqDiff, Nat.reduceLT, Nat.reduceLeDiff, Nat.reduceAdd, reduceCtorEq, Nat.reduceMul]
          all_goals apply_assumption
          all_goals refine AW.reg0 ?_
          all_goals iterate 2 (refine S.g rfl rfl fun K' k' => ?_; simp only [zz, reduceIte, Nat.reduceEqDiff, Nat.reduceAdd, e13, hw, e0, e1, e2, e11, e12]; refine k' _ _ ?_; clear k' K')
          all_goals refine S.nil ?_
          all_goals simp only [ze, reduceIte, Nat.reduceEqDiff, Nat.reduceLT, Nat.reduceLeDiff, Nat.reduceAdd, reduceCtorEq, Nat.reduceMul, e13, hw, e0, e1, e2, e11, e12]
          exact ⟨m - 1, by omega, i + 1, by omega, rfl, by omega, hp⟩
    · refine AW.exit ?_
      all_goals simp only [zs, reduceIte, Nat.reduceEqDiff, Nat.reduceLT, Nat.reduceLeDiff, Nat.reduceAdd, reduceCtorEq, Nat.reduceMul]
      have hc := of_decide_eq_false hc
      have hil : i = l.length := by omega
      subst hil
      rw [List.drop_length] at hp
      exact ⟨e0, e1, hir, hp⟩
  rintro s σ ⟨rfl, e0, e1, hlr, hp⟩
  refine AW.seq_k fun K14 h14 => ?_
  refine AW.seq_k fun K15 h15 => ?_
  all_goals refine AW.reg0 ?_
  all_goals iterate 5 (refine S.g rfl rfl fun K' k' => ?_; simp only [zz, reduceIte, Nat.reduceEqDiff, Nat.reduceLT, Nat.reduceLeDiff, Nat.reduceAdd, reduceCtorEq, Nat.reduceMul, sl22, el22, ok42, sz42, ag42, e0, e1]; refine k' _ _ ?_; clear k' K')
  all_goals refine S.nil ?_
  all_goals simp only [ze, reduceIte, Nat.reduceEqDiff, Nat.reduceLT, Nat.reduceLeDiff, Nat.reduceAdd, reduceCtorEq, Nat.reduceMul, e0, e1]
  all_goals apply_assumption
  refine AW.cond (b := decide (l.length < r.length)) (by simp [ev]) (fun hc => ?_) (fun hc => ?_)
  · have hc := of_decide_eq_true hc
    refine AW.seq_k fun K16 h16 => ?_
    all_goals refine AW.reg0 ?_
    all_goals (refine S.g rfl rfl fun K' k' => ?_; simp only [zz, reduceIte, Nat.reduceEqDiff, Nat.reduceAdd]; refine k' _ _ ?_; clear k' K')
    all_goals refine S.nil ?_
    all_goals simp only [ze, reduceIte, Nat.reduceEqDiff, Nat.reduceLT, Nat.reduceLeDiff, Nat.reduceAdd, reduceCtorEq, Nat.reduceMul]
    all_goals apply_assumption
    refine AW.ret ?_
    all_goals simp only [zs, reduceIte, Nat.reduceEqDiff, Nat.reduceLT, Nat.reduceLeDiff, Nat.reduceAdd, reduceCtorEq, Nat.reduceMul]
    rw [hp, List.drop_eq_getElem_cons hc]; rfl
  · have hc := of_decide_eq_false hc
    refine AW.skip ?_
    all_goals simp only [zs, reduceIte, Nat.reduceEqDiff, Nat.reduceLT, Nat.reduceLeDiff, Nat.reduceAdd, reduceCtorEq, Nat.reduceMul]
    all_goals apply_assumption
    refine AW.seq_k fun K17 h17 => ?_
    all_goals refine AW.reg0 ?_
    all_goals (refine S.g rfl rfl fun K' k' => ?_; simp only [zz, reduceIte, Nat.reduceEqDiff, Nat.reduceAdd]; refine k' _ _ ?_; clear k' K')
    all_goals refine S.nil ?_
    all_goals simp only [ze, reduceIte, Nat.reduceEqDiff, Nat.reduceLT, Nat.reduceLeDiff, Nat.reduceAdd, reduceCtorEq, Nat.reduceMul]
    all_goals apply_assumption
    refine AW.ret ?_
    all_goals simp only [zs, reduceIte, Nat.reduceEqDiff, Nat.reduceLT, Nat.reduceLeDiff, Nat.reduceAdd, reduceCtorEq, Nat.reduceMul]
    rw [hp, List.drop_of_length_le (by omega)]; rfl
theorem compare_part (l r : List Bd) (hl : l.length < 4611686018427387904) : PCalls Try.prog 28 [.agg [.sl (l.map encBd)], .agg [.sl (r.map encBd)]] (fun v => v = .c (.int .i64 (cmpL l r))) := by
  refine PCalls.intro Try.call28 Try.func28 rfl Try.ntmps28 Try.results28 (by simp) ?_
  refine AW.seq_k fun K1 h1 => ?_
  all_goals refine AW.reg0 ?_
  all_goals iterate 3 (refine S.g rfl rfl fun K' k' => ?_; simp only [zz, reduceIte, Nat.reduceEqDiff, Nat.reduceLT, Nat.reduceLeDiff, Nat.reduceAdd, reduceCtorEq, Nat.reduceMul, ok24, sz24, ag24]; refine k' _ _ ?_; clear k' K')
  all_goals refine S.nil ?_
  all_goals simp only [ze, reduceIte, Nat.reduceEqDiff, Nat.reduceLT, Nat.reduceLeDiff, Nat.reduceAdd, reduceCtorEq, Nat.reduceMul]
  all_goals apply_assumption
  refine AW.seq_k fun K2 h2 => ?_
  all_goals refine AW.reg0 ?_
  all_goals iterate 4 (refine S.g rfl rfl fun K' k' => ?_; simp only [zz, reduceIte, Nat.reduceEqDiff, Nat.reduceLT, Nat.reduceLeDiff, Nat.reduceAdd, reduceCtorEq, Nat.reduceMul, of24_0, ok22, sz22, ag22]; refine k' _ _ ?_; clear k' K')
  all_goals (refine S.g rfl rfl fun K' k' => ?_; simp only [zz, reduceIte, Nat.reduceEqDiff, Nat.reduceLT, Nat.reduceLeDiff, Nat.reduceAdd, reduceCtorEq, Nat.reduceMul]; refine PCalls.eqto (compareF _ _ (by assumption)) ?_ <;> (refine k' _ _ ?_; clear k' K'))
  all_goals (refine S.g rfl rfl fun K' k' => ?_; simp only [zz, reduceIte, Nat.reduceEqDiff, Nat.reduceAdd]; refine k' _ _ ?_; clear k' K')
  all_goals refine S.nil ?_
  all_goals simp only [ze, reduceIte, Nat.reduceEqDiff, Nat.reduceLT, Nat.reduceLeDiff, Nat.reduceAdd, reduceCtorEq, Nat.reduceMul]
  all_goals apply_assumption
  refine AW.ret ?_
  all_goals simp only [zs, reduceIte, Nat.reduceEqDiff, Nat.reduceLT, Nat.reduceLeDiff, Nat.reduceAdd, reduceCtorEq, Nat.reduceMul]
end Go.Abs.M
namespace Go.Abs.M
open Go Go.Abs Go.Proofs
set_option linter.unusedSimpArgs false
def inI64 (n : Int) : Prop := -9223372036854775808 ≤ n ∧ n ≤ 9223372036854775807
theorem wrapI (n : Int) (h0 : -9223372036854775808 ≤ n) (h1 : n ≤ 9223372036854775807) : IntKind.i64.wrap n = n := by
  simp [IntKind.wrap, IntKind.signed, IntKind.bits, Int.bmod]; omega
end Go.Abs.M
namespace Go.Abs.M
open Go Go.Abs Go.Proofs
set_option linter.unusedSimpArgs false
set_option maxRecDepth 20000
theorem by24' : Try.prog.bytesOf 24 = 24 := by kernel_rfl
theorem inI64_of {x : Int} (h : (Lit.int .i64 x).wf = true) : inI64 x := by
  simp [Lit.wf, IntKind.min, IntKind.max, IntKind.signed, IntKind.bits] at h
  unfold inI64; omega
theorem ev_time {n : Nat} {e : Ev} (h : Fit Try.prog n 36 (encEv e)) : inI64 e.time := by
  obtain ⟨_, m, _, hf⟩ := h.st Try.underlying36
  have h1 : Fit Try.prog m 2 (((encEv e).drop 2).take (Try.prog.cellsOf 2)) := hf 1 _ rfl
  rw [co2] at h1
  obtain ⟨x, hx, hw⟩ := h1.int Try.underlying2
  simp [encEv] at hx
  rw [hx]; exact inI64_of hw
theorem bd_time {n : Nat} {b : Bd} (h : Fit Try.prog n 42 (encBd b)) : inI64 b.ev.time := by
  obtain ⟨_, m, _, hf⟩ := h.st Try.underlying42
  have h1 : Fit Try.prog m 36 (((encBd b).drop 1).take (Try.prog.cellsOf 36)) := hf 1 _ rfl
  have h2 : ((encBd b).drop 1).take (Try.prog.cellsOf 36) = encEv b.ev := by rw [co36]; rfl
  rw [h2] at h1
  exact ev_time h1
theorem part_time {n : Nat} {l : List Bd} (h : Fit Try.prog n 24 [.sl (l.map encBd)]) : ∀ b ∈ l, inI64 b.ev.time := by
  obtain ⟨_, m, _, hf⟩ := h.st Try.underlying24
  have h0 : Fit Try.prog m 22 (([V.sl (l.map encBd)].drop 0).take (Try.prog.cellsOf 22)) := hf 0 _ rfl
  simp only [co22, List.drop_zero, List.take_succ_cons, List.take_zero, List.drop_succ_cons] at h0
  obtain ⟨es, e4, hes, k, _, hk⟩ := h0.sl Try.underlying22
  simp only [List.cons.injEq, V.sl.injEq, and_true] at e4
  subst e4
  exact fun b hb => bd_time (hk _ (List.mem_map.2 ⟨b, hb, rfl⟩)).2
structure okT (l : List Bd) : Prop where
  i : okI l
  time : ∀ b ∈ l, inI64 b.ev.time
theorem flat_of {t : TypeId} {W : World} {base : Nat} {v : Value} (hu : (∃ k, Try.prog.underlying t = some (.int k)) ∨ Try.prog.underlying t = some .string ∨ ∃ e, Try.prog.underlying t = some (.slice e)) (hval : Value.okWide Try.prog W .any base t v) : ∀ cs, v ≠ .agg cs := by
  rintro cs rfl
  rcases hu with ⟨k, hu⟩ | hu | ⟨e, hu⟩ <;> simp [Value.okWide, Cell.okWide, Cell.ok, hu] at hval
section
variable {H : Type} {enc : TypeId × Value → H} {W : World} {base : Nat} {v : Value} {d : DataW H} {ps : List MemPlace}
theorem arg_partT (hval : Value.okWide Try.prog W .any base 24 v)
    (h : DataW.Trod enc Try.prog W 0 (fun _ => true) true 24 v d ps) (hw : ∀ n ∈ d.weights Try.prog 24, n ≤ reachBytes) : ∃ l : List Bd, VR W (cx0 W) (.agg [.sl (l.map encBd)]) v ∧ okT l := by
  have hm : (24 : TypeId) ∈ plainTs := by unfold plainTs; exact List.mem_cons_self
  obtain ⟨n, us, h1, h2⟩ := open_arg (P := Try.prog) (t := 24) plainTs plain_ok hm h hw
  have hsh : ∃ cs, v = .agg cs ∧ cs.size = 1 := by
    obtain ⟨cs, h3, h4⟩ := okWide_agg Try.underlying24 hval
    exact ⟨cs, h3, by rw [h4]; exact co24⟩
  obtain ⟨cs, rfl, hcs⟩ := hsh
  have hl : us.length = 1 := by rw [h1.1]; simpa [Value.cells] using hcs
  obtain ⟨l, rfl, hok⟩ := open_part hl h2
  exact ⟨l, VR.of_row h1, hok, part_time h2⟩
def encB (x : Nat) : List V := [.c (.int .u8 x)]
def encP (l : List Bd) : List V := [.sl (l.map encBd)]
theorem arg_parts (hval : Value.okWide Try.prog W .any base 64 v)
    (h : DataW.Trod enc Try.prog W 0 (fun _ => true) true 64 v d ps) (hw : ∀ n ∈ d.weights Try.prog 64, n ≤ reachBytes) : ∃ l : List (List Bd), VR W (cx0 W) (.sl (l.map encP)) v ∧ (∀ x ∈ l, okT x) ∧ l.length * 24 ≤ reachBytes := by
  have hm : (64 : TypeId) ∈ plainTs := by decide
  obtain ⟨n, us, h1, h2⟩ := open_arg (P := Try.prog) (t := 64) plainTs plain_ok hm h hw
  obtain ⟨es, rfl, hes, m, _, hk⟩ := h2.sl Try.underlying64
  obtain ⟨l, rfl, hl⟩ := rows_of (f := encP) (p := okT) (es := es) fun x hx => by
    obtain ⟨l, rfl, hok⟩ := open_part ((hk x hx).1.trans co24) (hk x hx).2
    exact ⟨l, rfl, hok, part_time (hk _ hx).2⟩
  exact ⟨l, VR.of_cell h1 (flat_of (.inr (.inr ⟨_, Try.underlying64⟩)) hval), hl, by simpa [by24'] using hes⟩
end
end Go.Abs.M
namespace Go.Abs.M
open Go Go.Abs Go.Proofs Go.RowKit Go.Lib
set_option linter.unusedVariables false
set_option linter.unusedSimpArgs false
def base0 (cx : Cx) (σ : Hp) (w : World) : Base := { cx := cx, F := σ.own cx, w := w, g := fun k => ∃ y, σ.gr k = some y, o := fun g => ∃ y, σ.obj g = some y }
theorem foot0 (cx : Cx) (σ : Hp) : foot cx σ (fun _ => none) = σ.own cx := by
  funext g
  refine propext ⟨fun hg => ?_, fun hg => .inl hg⟩
  rcases hg with hg | ⟨d, c, hd, _⟩
  · exact hg
  · cases hd
/-- A heap alone, as a frame. -/
theorem SR.heap0 {cx : Cx} {σ : Hp} {w : World} (hH : HR cx σ w) : SR (base0 cx σ w) 0 cx (enterS []) σ { tmps := #[], defers := [] } w := by
  refine ⟨rfl, Marks.nil, fun _ => rfl, fun t => .junk _, hH, ⟨fun d c hd => (by cases hd), fun d c hd => (by cases hd), fun d e c c' hd => (by cases hd)⟩, ?_, fun k x hk => .inl ⟨x, hk⟩, fun g x hk => .inl ⟨x, hk⟩, fun g hs => hs.elim, fun g hs => hs.elim, fun d c hd => (by cases hd)⟩
  show Ext cx (σ.own cx) w cx (foot cx σ fun _ => none) w
  rw [foot0]; exact .refl _ _ _
theorem SR.left0 {cx cx' : Cx} {σ σ' : Hp} {w w' : World} {a : Act} (h : SR (base0 cx σ w) 0 cx' (enterS []) σ' a w') : Left cx σ w cx' σ' w' :=
  ⟨h.heap, ⟨h.ext.os, h.ext.tape, h.ext.output, h.ext.size, h.ext.block, h.ext.le, h.ext.inew, fun g hg => h.ext.fnew g (.inl hg)⟩, h.gnew, h.onew⟩
/-- slices.Insert of one element, with lists of the call's own. -/
theorem insert_at {σ : Hp} {lv x : V} {ok : Option Nat} {es : List (List V)} {i k3 : Nat} (hd : dstE σ 24 1 lv = some (ok, es)) (h3 : σ.gr k3 = some ((24, 1), [[x]])) (hk : ok ≠ some k3) (hi : i ≤ es.length) (hn : (es.length + 1) * 24 ≤ 140737488355328) :
    ACalls Try.prog 97 [lv, .c (.int .i64 (i : Nat)), .gl k3] σ (fun v σ' => ∃ k', v = .gl k' ∧ (σ.delO ok).gr k' = none ∧ σ' = (σ.delO ok).setGr k' (some ((24, 1), es.take i ++ [x] :: es.drop i))) := by
  refine ⟨Try.call97, fun cx w xs hH ha => ?_⟩
  obtain ⟨x0, x1, x2, rfl⟩ : ∃ x0 x1 x2, xs = [x0, x1, x2] := by
    obtain ⟨hl, _⟩ := ha
    match xs, hl with
    | [a, b, c], _ => exact ⟨a, b, c, rfl⟩
  have a0 := ha.2 0 _ _ rfl rfl
  have a1 := ha.2 1 _ _ rfl rfl
  have a2 := ha.2 2 _ _ rfl rfl
  obtain ⟨ys, hown, hys, hel, hone, hblk⟩ := dst_row hH (.v a0) hd
  have e1 : x1 = .int .i64 (i : Nat) := by cases a1; rfl
  obtain ⟨hk3, hz3, hel3, zs, hown3, hzs⟩ := hH.gr k3 _ _ h3
  simp only at hz3 hown3
  rw [hz3] at hown3
  have e2 : x2 = cx.M k3 := by cases a2; rfl
  obtain ⟨h, c3, cur3, hM, _, hb3, hc3, hm3, hcs3, htk3⟩ : ∃ g cap cur, cx.M k3 = .slice (some ⟨g, 0, none⟩) 1 cap ∧ 0 ≤ g ∧ w.heap[g]? = some (.cells cur 24 (0, 0)) ∧ 1 ≤ cap ∧ cap ≤ maxLen ∧ cur.size = cap * 1 ∧ cur.toList.take (1 * 1) = zs := by
    rcases hown3.2 with ⟨_, e⟩ | ⟨g, cap, cur, r⟩
    · simp at e
    · exact ⟨g, cap, cur, by simpa using r⟩
  obtain ⟨u, rfl⟩ : ∃ u, zs = [u] := List.length_eq_one_iff.1 (by rw [← hzs.1]; rfl)
  have hu : cur3[0]? = some u := by
    have : (cur3.toList.take (1 * 1))[0]? = some u := by rw [htk3]; rfl
    rw [List.getElem?_take] at this
    simpa using this
  have h1u : u.oneCell' = true := hzs.2.1 u (by simp)
  have hne : x0.ownBlock ≠ some h := fun e => by
    have hb := hblk h e
    rcases ok with _ | k
    · exact hb.2 hb.1
    · apply hb.2
      refine .inr ⟨k3, ((24, 1), [[x]]), ?_, by rw [hM]; rfl⟩
      show (σ.setGr k none).gr k3 = _
      have : k3 ≠ k := fun e => hk (by rw [e])
      simp [Hp.setGr, this, h3]
  subst e1
  rw [hM] at e2
  subst e2
  refine (ins_own x0 es.length i h c3 ys u cur3 w hi hown hn hys.2.1 hb3 hu h1u hne).mono fun e w' ⟨v', he, ho, hg, hb⟩ => ?_
  subst he
  have hfl : (es.take i ++ [x] :: es.drop i).flatten = es.flatten.take i ++ x :: es.flatten.drop i := by
    have t1 := flatten_take (es := es) (sz := 1) (i := i) (fun e he => by simpa using hel e he)
    have t2 : es.flatten = (es.take i).flatten ++ (es.drop i).flatten := by rw [← List.flatten_append, List.take_append_drop]
    rw [Nat.mul_one] at t1
    have tl : (es.take i).flatten.length = i := by
      rw [t1, List.length_take]
      have : es.flatten.length = es.length := by rw [hys.1, hown.1, Nat.mul_one]
      omega
    have t3 : es.flatten.drop i = (es.drop i).flatten := by rw [t2, List.drop_left' tl]
    rw [List.flatten_append, List.flatten_cons, t1, t3]; rfl
  have hyl : ys.length = es.length := by rw [hown.1, Nat.mul_one]
  have hvs : VRs w cx (es.take i ++ [x] :: es.drop i).flatten (ys.take i ++ u :: ys.drop i) := by
    rw [hfl]
    have hx : VR w cx x u := hzs.2.2 0 _ _ rfl rfl
    refine ⟨by simp [hys.1], fun y hy => ?_, fun j v y hv hy => ?_⟩
    · rcases List.mem_append.1 hy with h | h
      · exact hys.2.1 y (List.mem_of_mem_take h)
      · rcases List.mem_cons.1 h with rfl | h
        · exact h1u
        · exact hys.2.1 y (List.mem_of_mem_drop h)
    · have hl1 : (es.flatten.take i).length = i := by rw [List.length_take, hys.1]; omega
      have hl2 : (ys.take i).length = i := by rw [List.length_take]; omega
      rcases Nat.lt_trichotomy j i with hj | hj | hj
      · rw [List.getElem?_append_left (by omega), List.getElem?_take, if_pos hj] at hv hy
        exact hys.2.2 j v y hv hy
      · subst hj
        rw [List.getElem?_append_right (by omega), hl1, Nat.sub_self] at hv
        rw [List.getElem?_append_right (by omega), hl2, Nat.sub_self] at hy
        simp at hv hy
        subst hv; subst hy
        exact hx
      · obtain ⟨q, rfl⟩ : ∃ q, j = i + (q + 1) := ⟨j - i - 1, by omega⟩
        rw [List.getElem?_append_right (by omega), hl1, Nat.add_sub_cancel_left, List.getElem?_cons_succ, List.getElem?_drop] at hv
        rw [List.getElem?_append_right (by omega), hl2, Nat.add_sub_cancel_left, List.getElem?_cons_succ, List.getElem?_drop] at hy
        exact hys.2.2 _ v y hv hy
  have hlen : (es.take i ++ [x] :: es.drop i).length = es.length + 1 := by simp; omega
  have hs := (SR.heap0 hH).grown (ok := ok) (T := 24) (sz := 1) (v := x0) (v' := v') (es' := es.take i ++ [x] :: es.drop i) hblk (by rw [hlen]; exact ho) hg (hb.imp id .inl) hvs
    (fun e he => by
      rcases List.mem_append.1 he with h | h
      · exact hel e (List.mem_of_mem_take h)
      · rcases List.mem_cons.1 h with rfl | h
        · rfl
        · exact hel e (List.mem_of_mem_drop h))
  have hsome : v'.oneCell' = true := by
    rcases ho.2 with ⟨e, _⟩ | ⟨g, cap, cur, e, _⟩ <;> rw [e] <;> rfl
  refine ⟨.gl cx.nm, v', _, _, rfl, ?_, SR.left0 hs, cx.nm, rfl, delO_new ok hH, rfl⟩
  have := VR.gl (w := w') (cx := cx.addG v' 1) (k := cx.nm) (Nat.lt_succ_self _) (by rw [Cx.addG_M]; exact hsome)
  rwa [Cx.addG_M] at this
end Go.Abs.M
set_option linter.unusedVariables false
set_option linter.unusedSimpArgs false
namespace Go.Abs.M
open Go Go.Abs Go.Proofs
/-- A way of comparing that is a total order. -/
structure Tri {α : Type} (c : α → α → Int) : Prop where
  flip : ∀ a b, c b a = - c a b
  trans : ∀ a b d, c a b ≤ 0 → c b d ≤ 0 → c a d ≤ 0
  small : ∀ a b, -1 ≤ c a b ∧ c a b ≤ 1
namespace Tri
variable {α β : Type} {c c' : α → α → Int}
theorem refl (h : Tri c) (a : α) : c a a = 0 := by have := h.flip a a; omega
theorem lt_le (h : Tri c) {a b d : α} (h1 : c a b < 0) (h2 : c b d ≤ 0) : c a d < 0 := by
  by_cases k : c a d < 0
  · exact k
  · have e := h.flip a d
    have := h.trans b d a h2 (by omega)
    have e2 := h.flip a b
    omega
theorem le_lt (h : Tri c) {a b d : α} (h1 : c a b ≤ 0) (h2 : c b d < 0) : c a d < 0 := by
  by_cases k : c a d < 0
  · exact k
  · have e := h.flip a d
    have := h.trans d a b (by omega) h1
    have e2 := h.flip b d
    omega
theorem lex (h : Tri c) (h' : Tri c') : Tri (fun a b => if c a b ≠ 0 then c a b else c' a b) := by
  refine ⟨fun a b => ?_, fun a b d h1 h2 => ?_, fun a b => ?_⟩
  · have e := h.flip a b
    have e' := h'.flip a b
    split <;> split <;> omega
  · 
    have k1 : c a b ≤ 0 := by split at h1 <;> omega
    have k2 : c b d ≤ 0 := by split at h2 <;> omega
    have k3 := h.trans a b d k1 k2
    split
    · exact k3
    · rename_i e
      have e : c a d = 0 := by omega
      have z1 : c a b = 0 := by
        by_cases k : c a b = 0
        · exact k
        · have := h.lt_le (a := a) (b := b) (d := d) (by omega) k2; omega
      have z2 : c b d = 0 := by
        by_cases k : c b d = 0
        · exact k
        · have := h.le_lt (a := a) (b := b) (d := d) k1 (by omega); omega
      rw [if_neg (by simp [z1])] at h1
      rw [if_neg (by simp [z2])] at h2
      exact h'.trans a b d h1 h2
  · have e := h.small a b
    have e' := h'.small a b
    split <;> omega
theorem on (h : Tri c) (f : β → α) : Tri (fun a b => c (f a) (f b)) := ⟨fun a b => h.flip _ _, fun a b d => h.trans _ _ _, fun a b => h.small _ _⟩
end Tri
theorem tri_I : Tri cmpI := by
  refine ⟨fun a b => ?_, fun a b d => ?_, fun a b => ?_⟩ <;> simp only [cmpI] <;> repeat' split <;> omega
theorem cmpS_cases (a b : ByteArray) : (cmpS a b = -1 ∧ a.toList < b.toList) ∨ (cmpS a b = 0 ∧ a.toList = b.toList) ∨ (cmpS a b = 1 ∧ b.toList < a.toList) := by
  unfold cmpS
  rw [bytesLess_eq']
  by_cases h : a.toList < b.toList
  · simp [h]
  · by_cases e : a.toList = b.toList
    · simp [e, List.lt_irrefl]
    · have : b.toList < a.toList := by
        rcases List.le_iff_lt_or_eq.1 (show b.toList ≤ a.toList from h) with h1 | h1
        · exact h1
        · exact absurd h1.symm e
      simp [h, e, this]
theorem tri_S : Tri cmpS := by
  refine ⟨fun a b => ?_, fun a b d h1 h2 => ?_, fun a b => ?_⟩
  · rcases cmpS_cases a b with ⟨h1, h2⟩ | ⟨h1, h2⟩ | ⟨h1, h2⟩ <;> rcases cmpS_cases b a with ⟨k1, k2⟩ | ⟨k1, k2⟩ | ⟨k1, k2⟩ <;> rw [h1, k1] <;>
      first
        | omega
        | exact absurd k2 (List.lt_asymm h2)
        | exact absurd k2 (by rw [h2]; exact List.lt_irrefl _)
        | exact absurd h2 (by rw [k2]; exact List.lt_irrefl _)
  · rcases cmpS_cases a d with ⟨k1, _⟩ | ⟨k1, _⟩ | ⟨_, k2⟩
    · omega
    · omega
    · exfalso
      have e1 : ¬ b.toList < a.toList := fun hh => by
        rcases cmpS_cases a b with ⟨_, h⟩ | ⟨_, h⟩ | ⟨h, _⟩
        · exact List.lt_asymm h hh
        · rw [h] at hh; exact List.lt_irrefl _ hh
        · omega
      have e2 : ¬ d.toList < b.toList := fun hh => by
        rcases cmpS_cases b d with ⟨_, h⟩ | ⟨_, h⟩ | ⟨h, _⟩
        · exact List.lt_asymm h hh
        · rw [h] at hh; exact List.lt_irrefl _ hh
        · omega
      exact List.le_trans (show a.toList ≤ b.toList from e1) (show b.toList ≤ d.toList from e2) k2
  · rcases cmpS_cases a b with ⟨h, _⟩ | ⟨h, _⟩ | ⟨h, _⟩ <;> omega
theorem orI2 (x y : Int) : orI [x, y] = if x ≠ 0 then x else y := by
  simp only [orI]
  split
  · rfl
  · split
    · rfl
    · omega
theorem tri_Id : Tri cmpId := by
  have : cmpId = fun a b : Int × Int => if cmpI a.1 b.1 ≠ 0 then cmpI a.1 b.1 else cmpI a.2 b.2 := by funext a b; exact orI2 _ _
  rw [this]
  exact (tri_I.on Prod.fst).lex (tri_I.on Prod.snd)
theorem tri_Bd : Tri cmpBd := by
  have : cmpBd = fun a b : Bd => if cmpS a.var b.var ≠ 0 then cmpS a.var b.var else cmpId (idOf a) (idOf b) := by funext a b; exact orI2 _ _
  rw [this]
  exact (tri_S.on Bd.var).lex (tri_Id.on idOf)
theorem tri_L : Tri cmpL := by
  have fl : ∀ a b, cmpL b a = - cmpL a b := by
    intro a
    induction a with
    | nil => intro b; cases b <;> rfl
    | cons x l ih =>
      intro b
      cases b with
      | nil => rfl
      | cons y r =>
        have e := tri_Bd.flip x y
        have := ih r
        simp only [cmpL]
        split <;> split <;> omega
  refine ⟨fl, ?_, ?_⟩
  · intro a
    induction a with
    | nil => intro b d _ _; cases d <;> simp [cmpL]
    | cons x l ih =>
      intro b d h1 h2
      cases b with
      | nil => simp [cmpL] at h1
      | cons y r =>
        cases d with
        | nil => simp [cmpL] at h2
        | cons z q =>
          simp only [cmpL] at h1 h2 ⊢
          have k1 : cmpBd x y ≤ 0 := by split at h1 <;> omega
          have k2 : cmpBd y z ≤ 0 := by split at h2 <;> omega
          have k3 := tri_Bd.trans x y z k1 k2
          split
          · exact k3
          · have z1 : cmpBd x y = 0 := by
              by_cases k : cmpBd x y = 0
              · exact k
              · have := tri_Bd.lt_le (a := x) (b := y) (d := z) (by omega) k2; omega
            have z2 : cmpBd y z = 0 := by
              by_cases k : cmpBd y z = 0
              · exact k
              · have := tri_Bd.le_lt (a := x) (b := y) (d := z) k1 (by omega); omega
            rw [if_neg (by simp [z1])] at h1
            rw [if_neg (by simp [z2])] at h2
            exact ih r q h1 h2
  · intro a
    induction a with
    | nil => intro b; cases b <;> simp [cmpL]
    | cons x l ih =>
      intro b
      cases b with
      | nil => simp [cmpL]
      | cons y r =>
        have e := tri_Bd.small x y
        have := ih r
        simp only [cmpL]
        split <;> omega
def SrtL (rows : List (List Bd)) : Prop := rows.Pairwise (fun a b => cmpL a b < 0)
/-- Where a row belongs. -/
structure AtL (rows : List (List Bd)) (x : List Bd) (i : Nat) : Prop where
  lt : ∀ j y, rows[j]? = some y → j < i → cmpL y x < 0
  ge : ∀ j y, rows[j]? = some y → i ≤ j → 0 ≤ cmpL y x
def hasL (rows : List (List Bd)) (x : List Bd) : Bool := rows.any (fun y => cmpL y x == 0)
def insL' (rows : List (List Bd)) (x : List Bd) : List (List Bd) := rows.takeWhile (fun y => decide (cmpL y x < 0)) ++ x :: rows.dropWhile (fun y => decide (cmpL y x < 0))
def addL (rows : List (List Bd)) (x : List Bd) : List (List Bd) := if partErr x = 0 ∧ hasL rows x = false then insL' rows x else rows
theorem SrtL.get {rows : List (List Bd)} (h : SrtL rows) {i j : Nat} {x y : List Bd} (hx : rows[i]? = some x) (hy : rows[j]? = some y) (hij : i < j) : cmpL x y < 0 := by
  obtain ⟨hi, rfl⟩ := List.getElem?_eq_some_iff.1 hx
  obtain ⟨hj, rfl⟩ := List.getElem?_eq_some_iff.1 hy
  exact List.pairwise_iff_getElem.1 h i j hi hj hij
theorem takeWhile_at {α : Type} {p : α → Bool} : ∀ {l : List α} {i : Nat}, i ≤ l.length → (∀ j y, l[j]? = some y → j < i → p y = true) → (∀ j y, l[j]? = some y → i ≤ j → p y = false) → l.takeWhile p = l.take i ∧ l.dropWhile p = l.drop i
  | [], i, _, _, _ => by simp
  | a :: l, 0, _, _, h2 => by
    have := h2 0 a rfl (Nat.le_refl _)
    simp [this]
  | a :: l, i + 1, hi, h1, h2 => by
    have ha := h1 0 a rfl (by omega)
    obtain ⟨e1, e2⟩ := takeWhile_at (p := p) (l := l) (i := i) (by simpa using hi) (fun j y hy hj => h1 (j + 1) y (by simpa using hy) (by omega)) (fun j y hy hj => h2 (j + 1) y (by simpa using hy) (by omega))
    simp [ha, e1, e2]
theorem AtL.ins {rows : List (List Bd)} {x : List Bd} {i : Nat} (h : AtL rows x i) (hi : i ≤ rows.length) : insL' rows x = rows.take i ++ x :: rows.drop i := by
  obtain ⟨e1, e2⟩ := takeWhile_at (p := fun y => decide (cmpL y x < 0)) hi (fun j y hy hj => by simpa using h.lt j y hy hj) (fun j y hy hj => by have := h.ge j y hy hj; simp; omega)
  rw [insL', e1, e2]
theorem AtL.has {rows : List (List Bd)} {x : List Bd} {i : Nat} (hs : SrtL rows) (h : AtL rows x i) : hasL rows x = true ↔ ∃ y, rows[i]? = some y ∧ cmpL y x = 0 := by
  constructor
  · intro hh
    obtain ⟨y, hy, he⟩ := List.any_eq_true.1 hh
    have he : cmpL y x = 0 := by simpa using he
    obtain ⟨j, hj⟩ := List.getElem?_of_mem hy
    rcases Nat.lt_trichotomy j i with hji | hji | hji
    · have := h.lt j y hj hji; omega
    · subst hji; exact ⟨y, hj, he⟩
    · exfalso
      have hjl := (List.getElem?_eq_some_iff.1 hj).1
      have hil : rows[i]? = some rows[i] := List.getElem?_eq_getElem (by omega)
      have k1 := hs.get hil hj hji
      have k2 := h.ge i _ hil (Nat.le_refl _)
      have k3 := tri_L.lt_le k1 (by omega : cmpL y x ≤ 0)
      omega
  · rintro ⟨y, hy, he⟩
    exact List.any_eq_true.2 ⟨y, List.mem_of_getElem? hy, by simp [he]⟩
theorem SrtL.ins {rows : List (List Bd)} {x : List Bd} {i : Nat} (hs : SrtL rows) (h : AtL rows x i) (hn : hasL rows x = false) : SrtL (rows.take i ++ x :: rows.drop i) := by
  have low : ∀ y ∈ rows.take i, cmpL y x < 0 := fun y hy => by
    obtain ⟨j, hj⟩ := List.getElem?_of_mem hy
    rw [List.getElem?_take] at hj
    split at hj
    · rename_i hji; exact h.lt j y hj hji
    · cases hj
  have high : ∀ y ∈ rows.drop i, cmpL x y < 0 := fun y hy => by
    obtain ⟨j, hj⟩ := List.getElem?_of_mem hy
    rw [List.getElem?_drop] at hj
    have k := h.ge _ y hj (by omega)
    have k2 : cmpL y x ≠ 0 := fun e => by
      have : hasL rows x = true := List.any_eq_true.2 ⟨y, List.mem_of_getElem? hj, by simp [e]⟩
      rw [hn] at this; cases this
    have := tri_L.flip y x
    omega
  have hs2 : SrtL (rows.take i ++ rows.drop i) := by rw [List.take_append_drop]; exact hs
  obtain ⟨s1, s2, s3⟩ := List.pairwise_append.1 hs2
  refine List.pairwise_append.2 ⟨s1, List.pairwise_cons.2 ⟨high, s2⟩, fun a ha b hb => ?_⟩
  rcases List.mem_cons.1 hb with rfl | hb
  · exact low a ha
  · exact s3 a ha b hb
theorem SrtL.at {rows : List (List Bd)} (hs : SrtL rows) (x : List Bd) : AtL rows x (rows.takeWhile (fun y => decide (cmpL y x < 0))).length := by
  induction rows with
  | nil => exact ⟨fun j y h => by simp at h, fun j y h => by simp at h⟩
  | cons a l ih =>
    obtain ⟨h1, h2⟩ := List.pairwise_cons.1 hs
    by_cases ha : cmpL a x < 0
    · have ih := ih h2
      rw [List.takeWhile_cons_of_pos (by simpa using ha), List.length_cons]
      refine ⟨fun j y hy hj => ?_, fun j y hy hj => ?_⟩
      · cases j with
        | zero => simp at hy; subst hy; exact ha
        | succ j => exact ih.lt j y (by simpa using hy) (by omega)
      · cases j with
        | zero => omega
        | succ j => exact ih.ge j y (by simpa using hy) (by omega)
    · rw [List.takeWhile_cons_of_neg (by simpa using ha)]
      refine ⟨fun j y hy hj => by simp at hj, fun j y hy hj => ?_⟩
      cases j with
      | zero => simp at hy; subst hy; omega
      | succ j =>
        have hm := h1 y (List.mem_of_getElem? (by simpa using hy))
        by_cases k : 0 ≤ cmpL y x
        · exact k
        · have := tri_L.lt_le hm (by omega : cmpL y x ≤ 0); omega
theorem insL'_at (rows : List (List Bd)) (x : List Bd) : insL' rows x = rows.take (rows.takeWhile (fun y => decide (cmpL y x < 0))).length ++ x :: rows.drop (rows.takeWhile (fun y => decide (cmpL y x < 0))).length := by
  have h := List.takeWhile_append_dropWhile (p := fun y => decide (cmpL y x < 0)) (l := rows)
  unfold insL'
  generalize rows.takeWhile (fun y => decide (cmpL y x < 0)) = a at h ⊢
  generalize rows.dropWhile (fun y => decide (cmpL y x < 0)) = b at h ⊢
  subst h
  simp
theorem addL_srt {rows : List (List Bd)} {x : List Bd} (hs : SrtL rows) : SrtL (addL rows x) := by
  unfold addL
  split
  · rename_i h
    rw [insL'_at]
    exact hs.ins (hs.at x) h.2
  · exact hs
theorem addL_len (rows : List (List Bd)) (x : List Bd) : (addL rows x).length ≤ rows.length + 1 := by
  unfold addL
  split
  · rw [insL'_at]; simp; omega
  · omega
theorem insL'_mem (rows : List (List Bd)) (x y : List Bd) : y ∈ insL' rows x → y = x ∨ y ∈ rows := by
  rw [insL'_at]
  intro h
  rcases List.mem_append.1 h with h | h
  · exact .inr (List.mem_of_mem_take h)
  · rcases List.mem_cons.1 h with h | h
    · exact .inl h
    · exact .inr (List.mem_of_mem_drop h)
theorem addL_mem {rows : List (List Bd)} {x y : List Bd} (h : y ∈ addL rows x) : y = x ∨ y ∈ rows := by
  unfold addL at h
  split at h
  · exact insL'_mem _ _ _ h
  · exact .inr h
theorem hasL_self {rows : List (List Bd)} {x : List Bd} (h : x ∈ rows) : hasL rows x = true := List.any_eq_true.2 ⟨x, h, by simp [tri_L.refl x]⟩
end Go.Abs.M
