import Derived.Test.YtmhamgllanihoaaSsc
namespace Go.Abs.M
open Go Go.Abs Go.Proofs
set_option maxRecDepth 20000
set_option linter.unusedSimpArgs false
set_option linter.unusedVariables false
def cmpS (a b : ByteArray) : Int := if Op.bytesLess a.toList b.toList then -1 else if (Op.bytesLess a.toList b.toList || a.toList == b.toList) then 0 else 1
theorem isnan_spec (a : ByteArray) : PCalls Try.prog 105 [.c (.string a)] (fun v => v = .c (.bool false)) := by
  refine PCalls.intro Try.call105 Try.func105 rfl Try.ntmps105 Try.results105 (by simp) ?_
  refine AW.seq_k fun K1 h1 => ?_
  all_goals refine AW.reg0 ?_
  all_goals (refine S.g rfl rfl fun K' k' => ?_; simp only [zz, reduceIte, Nat.reduceEqDiff, Nat.reduceAdd]; refine k' _ _ ?_; clear k' K')
  all_goals refine S.nil ?_
  all_goals simp only [ze, reduceIte, Nat.reduceEqDiff, Nat.reduceLT, Nat.reduceLeDiff, Nat.reduceAdd, reduceCtorEq, Nat.reduceMul]
  all_goals apply_assumption
  refine AW.seq_k fun K2 h2 => ?_
  all_goals refine AW.reg0 ?_
  all_goals iterate 4 (refine S.g rfl rfl fun K' k' => ?_; simp only [zz, reduceIte, Nat.reduceEqDiff, Nat.reduceAdd]; refine k' _ _ ?_; clear k' K')
  all_goals refine S.nil ?_
  all_goals simp only [ze, reduceIte, Nat.reduceEqDiff, Nat.reduceLT, Nat.reduceLeDiff, Nat.reduceAdd, reduceCtorEq, Nat.reduceMul]
  all_goals apply_assumption
  refine AW.ret ?_
  all_goals simp only [zs, reduceIte, Nat.reduceEqDiff, Nat.reduceLT, Nat.reduceLeDiff, Nat.reduceAdd, reduceCtorEq, Nat.reduceMul]
  all_goals simp
theorem compare_str (a b : ByteArray) : PCalls Try.prog 65 [.c (.string a), .c (.string b)] (fun v => v = .c (.int .i64 (cmpS a b))) := by
  refine PCalls.intro Try.call65 Try.func65 rfl Try.ntmps65 Try.results65 (by simp) ?_
  refine AW.seq_k fun K1 h1 => ?_
  all_goals refine AW.reg0 ?_
  all_goals (refine S.g rfl rfl fun K' k' => ?_; simp only [zz, reduceIte, Nat.reduceEqDiff, Nat.reduceAdd]; refine k' _ _ ?_; clear k' K')
  all_goals refine S.nil ?_
  all_goals simp only [ze, reduceIte, Nat.reduceEqDiff, Nat.reduceLT, Nat.reduceLeDiff, Nat.reduceAdd, reduceCtorEq, Nat.reduceMul]
  all_goals apply_assumption
  refine AW.seq_k fun K2 h2 => ?_
  all_goals refine AW.reg0 ?_
  all_goals (refine S.g rfl rfl fun K' k' => ?_; simp only [zz, reduceIte, Nat.reduceEqDiff, Nat.reduceAdd]; refine k' _ _ ?_; clear k' K')
  all_goals (refine S.g rfl rfl fun K' k' => ?_; simp only [zz, reduceIte, Nat.reduceEqDiff, Nat.reduceLT, Nat.reduceLeDiff, Nat.reduceAdd, reduceCtorEq, Nat.reduceMul]; refine PCalls.eqto (isnan_spec _) ?_ <;> (refine k' _ _ ?_; clear k' K'))
  all_goals (refine S.g rfl rfl fun K' k' => ?_; simp only [zz, reduceIte, Nat.reduceEqDiff, Nat.reduceAdd]; refine k' _ _ ?_; clear k' K')
  all_goals refine S.nil ?_
  all_goals simp only [ze, reduceIte, Nat.reduceEqDiff, Nat.reduceLT, Nat.reduceLeDiff, Nat.reduceAdd, reduceCtorEq, Nat.reduceMul]
  all_goals apply_assumption
  refine AW.seq_k fun K3 h3 => ?_
  all_goals refine AW.reg0 ?_
  all_goals (refine S.g rfl rfl fun K' k' => ?_; simp only [zz, reduceIte, Nat.reduceEqDiff, Nat.reduceAdd]; refine k' _ _ ?_; clear k' K')
  all_goals (refine S.g rfl rfl fun K' k' => ?_; simp only [zz, reduceIte, Nat.reduceEqDiff, Nat.reduceLT, Nat.reduceLeDiff, Nat.reduceAdd, reduceCtorEq, Nat.reduceMul]; refine PCalls.eqto (isnan_spec _) ?_ <;> (refine k' _ _ ?_; clear k' K'))
  all_goals (refine S.g rfl rfl fun K' k' => ?_; simp only [zz, reduceIte, Nat.reduceEqDiff, Nat.reduceAdd]; refine k' _ _ ?_; clear k' K')
  all_goals refine S.nil ?_
  all_goals simp only [ze, reduceIte, Nat.reduceEqDiff, Nat.reduceLT, Nat.reduceLeDiff, Nat.reduceAdd, reduceCtorEq, Nat.reduceMul]
  all_goals apply_assumption
  refine AW.seq_k fun K4 h4 => ?_
  refine AW.seq_k fun K5 h5 => ?_
  all_goals refine AW.reg0 ?_
  all_goals (refine S.g rfl rfl fun K' k' => ?_; simp only [zz, reduceIte, Nat.reduceEqDiff, Nat.reduceAdd]; refine k' _ _ ?_; clear k' K')
  all_goals refine S.nil ?_
  all_goals simp only [ze, reduceIte, Nat.reduceEqDiff, Nat.reduceLT, Nat.reduceLeDiff, Nat.reduceAdd, reduceCtorEq, Nat.reduceMul]
  all_goals apply_assumption
  refine AW.cond (b := false) (by simp [ev]) (fun hc => by cases hc) (fun hc => ?_)
  refine AW.skip ?_
  all_goals simp only [zs, reduceIte, Nat.reduceEqDiff, Nat.reduceLT, Nat.reduceLeDiff, Nat.reduceAdd, reduceCtorEq, Nat.reduceMul]
  all_goals apply_assumption
  refine AW.seq_k fun K6 h6 => ?_
  refine AW.seq_k fun K7 h7 => ?_
  all_goals refine AW.reg0 ?_
  all_goals (refine S.g rfl rfl fun K' k' => ?_; simp only [zz, reduceIte, Nat.reduceEqDiff, Nat.reduceAdd]; refine k' _ _ ?_; clear k' K')
  all_goals refine S.nil ?_
  all_goals simp only [ze, reduceIte, Nat.reduceEqDiff, Nat.reduceLT, Nat.reduceLeDiff, Nat.reduceAdd, reduceCtorEq, Nat.reduceMul]
  all_goals apply_assumption
  refine AW.cond (b := false) (by simp [ev]) (fun hc => by cases hc) (fun hc => ?_)
  refine AW.skip ?_
  all_goals simp only [zs, reduceIte, Nat.reduceEqDiff, Nat.reduceLT, Nat.reduceLeDiff, Nat.reduceAdd, reduceCtorEq, Nat.reduceMul]
  all_goals apply_assumption
  refine AW.seq_k fun K8 h8 => ?_
  refine AW.seq_k fun K9 h9 => ?_
  all_goals refine AW.reg0 ?_
  all_goals iterate 3 (refine S.g rfl rfl fun K' k' => ?_; simp only [zz, reduceIte, Nat.reduceEqDiff, Nat.reduceAdd]; refine k' _ _ ?_; clear k' K')
  all_goals refine S.nil ?_
  all_goals simp only [ze, reduceIte, Nat.reduceEqDiff, Nat.reduceLT, Nat.reduceLeDiff, Nat.reduceAdd, reduceCtorEq, Nat.reduceMul]
  all_goals apply_assumption
  refine AW.cond (b := Op.bytesLess a.toList b.toList) (by simp [ev]) (fun hc => ?_) (fun hc => ?_)
  · refine AW.seq_k fun K10 h10 => ?_
    all_goals refine AW.reg0 ?_
    all_goals (refine S.g rfl rfl fun K' k' => ?_; simp only [zz, reduceIte, Nat.reduceEqDiff, Nat.reduceAdd]; refine k' _ _ ?_; clear k' K')
    all_goals refine S.nil ?_
    all_goals simp only [ze, reduceIte, Nat.reduceEqDiff, Nat.reduceLT, Nat.reduceLeDiff, Nat.reduceAdd, reduceCtorEq, Nat.reduceMul]
    all_goals apply_assumption
    refine AW.ret ?_
    all_goals simp only [zs, reduceIte, Nat.reduceEqDiff, Nat.reduceLT, Nat.reduceLeDiff, Nat.reduceAdd, reduceCtorEq, Nat.reduceMul]
    simp [cmpS, hc]
  · refine AW.skip ?_
    all_goals simp only [zs, reduceIte, Nat.reduceEqDiff, Nat.reduceLT, Nat.reduceLeDiff, Nat.reduceAdd, reduceCtorEq, Nat.reduceMul]
    all_goals apply_assumption
    refine AW.seq_k fun K11 h11 => ?_
    refine AW.seq_k fun K12 h12 => ?_
    all_goals refine AW.reg0 ?_
    all_goals iterate 3 (refine S.g rfl rfl fun K' k' => ?_; simp only [zz, reduceIte, Nat.reduceEqDiff, Nat.reduceAdd]; refine k' _ _ ?_; clear k' K')
    all_goals refine S.nil ?_
    all_goals simp only [ze, reduceIte, Nat.reduceEqDiff, Nat.reduceLT, Nat.reduceLeDiff, Nat.reduceAdd, reduceCtorEq, Nat.reduceMul]
    all_goals apply_assumption
    refine AW.cond (b := !(Op.bytesLess a.toList b.toList || a.toList == b.toList)) (by simp [ev]) (fun hc2 => ?_) (fun hc2 => ?_)
    · refine AW.seq_k fun K13 h13 => ?_
      all_goals refine AW.reg0 ?_
      all_goals (refine S.g rfl rfl fun K' k' => ?_; simp only [zz, reduceIte, Nat.reduceEqDiff, Nat.reduceAdd]; refine k' _ _ ?_; clear k' K')
      all_goals refine S.nil ?_
      all_goals simp only [ze, reduceIte, Nat.reduceEqDiff, Nat.reduceLT, Nat.reduceLeDiff, Nat.reduceAdd, reduceCtorEq, Nat.reduceMul]
      all_goals apply_assumption
      refine AW.ret ?_
      all_goals simp only [zs, reduceIte, Nat.reduceEqDiff, Nat.reduceLT, Nat.reduceLeDiff, Nat.reduceAdd, reduceCtorEq, Nat.reduceMul]
      rw [Bool.not_eq_true'] at hc2
      rw [cmpS, if_neg (by rw [hc]; simp), if_neg (by rw [hc2]; simp)]
    · refine AW.skip ?_
      all_goals simp only [zs, reduceIte, Nat.reduceEqDiff, Nat.reduceLT, Nat.reduceLeDiff, Nat.reduceAdd, reduceCtorEq, Nat.reduceMul]
      all_goals apply_assumption
      refine AW.seq_k fun K14 h14 => ?_
      all_goals refine AW.reg0 ?_
      all_goals (refine S.g rfl rfl fun K' k' => ?_; simp only [zz, reduceIte, Nat.reduceEqDiff, Nat.reduceAdd]; refine k' _ _ ?_; clear k' K')
      all_goals refine S.nil ?_
      all_goals simp only [ze, reduceIte, Nat.reduceEqDiff, Nat.reduceLT, Nat.reduceLeDiff, Nat.reduceAdd, reduceCtorEq, Nat.reduceMul]
      all_goals apply_assumption
      refine AW.ret ?_
      all_goals simp only [zs, reduceIte, Nat.reduceEqDiff, Nat.reduceLT, Nat.reduceLeDiff, Nat.reduceAdd, reduceCtorEq, Nat.reduceMul]
      rw [Bool.not_eq_false'] at hc2
      rw [cmpS, if_neg (by rw [hc]; simp), if_pos hc2]
theorem less_spec (a b : Bd) : PCalls Try.prog 64 [.agg (encBd a), .agg (encBd b)] (fun v => v = .c (.int .i64 (cmpS a.var b.var))) := by
  refine PCalls.intro Try.call64 Try.func64 rfl Try.ntmps64 Try.results64 (by simp) ?_
  refine AW.seq_k fun K1 h1 => ?_
  all_goals refine AW.reg0 ?_
  all_goals iterate 3 (refine S.g rfl rfl fun K' k' => ?_; simp only [zz, reduceIte, Nat.reduceEqDiff, Nat.reduceLT, Nat.reduceLeDiff, Nat.reduceAdd, reduceCtorEq, Nat.reduceMul, ok42, sz42, ag42, encBd]; refine k' _ _ ?_; clear k' K')
  all_goals refine S.nil ?_
  all_goals simp only [ze, reduceIte, Nat.reduceEqDiff, Nat.reduceLT, Nat.reduceLeDiff, Nat.reduceAdd, reduceCtorEq, Nat.reduceMul, encBd]
  all_goals apply_assumption
  refine AW.seq_k fun K2 h2 => ?_
  all_goals refine AW.reg0 ?_
  all_goals iterate 4 (refine S.g rfl rfl fun K' k' => ?_; simp only [zz, reduceIte, Nat.reduceEqDiff, Nat.reduceLT, Nat.reduceLeDiff, Nat.reduceAdd, reduceCtorEq, Nat.reduceMul, of42_0, ok9, sz9, ag9]; refine k' _ _ ?_; clear k' K')
  all_goals (refine S.g rfl rfl fun K' k' => ?_; simp only [zz, reduceIte, Nat.reduceEqDiff, Nat.reduceLT, Nat.reduceLeDiff, Nat.reduceAdd, reduceCtorEq, Nat.reduceMul]; refine PCalls.eqto (compare_str _ _) ?_ <;> (refine k' _ _ ?_; clear k' K'))
  all_goals (refine S.g rfl rfl fun K' k' => ?_; simp only [zz, reduceIte, Nat.reduceEqDiff, Nat.reduceAdd]; refine k' _ _ ?_; clear k' K')
  all_goals refine S.nil ?_
  all_goals simp only [ze, reduceIte, Nat.reduceEqDiff, Nat.reduceLT, Nat.reduceLeDiff, Nat.reduceAdd, reduceCtorEq, Nat.reduceMul]
  all_goals apply_assumption
  refine AW.ret ?_
  all_goals simp only [zs, reduceIte, Nat.reduceEqDiff, Nat.reduceLT, Nat.reduceLeDiff, Nat.reduceAdd, reduceCtorEq, Nat.reduceMul]
/-- slices.Grow of nil: an empty list that may grow. -/
theorem grow_spec (n : Nat) (hn : n * 80 ≤ 140737488355328) : ACalls Try.prog 103 [.c (.slice none 0 0), .c (.int .i64 n)] Hp.empty (fun v σ' => (v = .c (.slice none 0 0) ∧ σ' = Hp.empty ∧ n = 0) ∨ ∃ k, v = .gl k ∧ σ' = Hp.empty.setGr k (some ((42, 6), []))) := by
  refine ACalls.introR Try.call103 Try.func103 rfl Try.ntmps103 Try.results103 (by simp) ?_
  refine AW.seq_k fun K1 h1 => ?_
  all_goals refine AW.reg0 ?_
  all_goals (refine S.g rfl rfl fun K' k' => ?_; simp only [zz, reduceIte, Nat.reduceEqDiff, Nat.reduceAdd]; refine k' _ _ ?_; clear k' K')
  all_goals refine S.nil ?_
  all_goals simp only [ze, reduceIte, Nat.reduceEqDiff, Nat.reduceLT, Nat.reduceLeDiff, Nat.reduceAdd, reduceCtorEq, Nat.reduceMul]
  all_goals apply_assumption
  refine AW.seq_k fun K2 h2 => ?_
  refine AW.seq_k fun K3 h3 => ?_
  all_goals refine AW.reg0 ?_
  all_goals iterate 2 (refine S.g rfl rfl fun K' k' => ?_; simp only [zz, reduceIte, Nat.reduceEqDiff, Nat.reduceAdd]; refine k' _ _ ?_; clear k' K')
  all_goals refine S.nil ?_
  all_goals simp only [ze, reduceIte, Nat.reduceEqDiff, Nat.reduceLT, Nat.reduceLeDiff, Nat.reduceAdd, reduceCtorEq, Nat.reduceMul]
  all_goals apply_assumption
  refine AW.cond (b := decide ((n : Int) < 0)) (by simp [ev]) (fun hc => ?_) (fun hc => ?_)
  · have := of_decide_eq_true hc; omega
  refine AW.skip ?_
  all_goals simp only [zs, reduceIte, Nat.reduceEqDiff, Nat.reduceLT, Nat.reduceLeDiff, Nat.reduceAdd, reduceCtorEq, Nat.reduceMul]
  all_goals apply_assumption
  have hw : IntKind.i64.wrap ((n : Int) - 0) = (n : Int) := by rw [wrap_small _ (by omega) (by omega)]; omega
  have hw0 : IntKind.i64.wrap (0 - ((0 : Nat) : Int)) = 0 := by rw [wrap_small _ (by omega) (by omega)]; rfl
  refine AW.seq_k fun K4 h4 => ?_
  refine AW.seq_k fun K5 h5 => ?_
  all_goals refine AW.reg0 ?_
  all_goals iterate 8 (refine S.g rfl rfl fun K' k' => ?_; simp only [zz, reduceIte, Nat.reduceEqDiff, Nat.reduceLT, Nat.reduceLeDiff, Nat.reduceAdd, reduceCtorEq, Nat.reduceMul, sl22, el22, ok42, sz42, ag42, hw, hw0]; refine k' _ _ ?_; clear k' K')
  all_goals refine S.nil ?_
  all_goals simp only [ze, reduceIte, Nat.reduceEqDiff, Nat.reduceLT, Nat.reduceLeDiff, Nat.reduceAdd, reduceCtorEq, Nat.reduceMul, hw, hw0]
  all_goals apply_assumption
  refine AW.seq_k fun K6 h6 => ?_
  all_goals refine AW.reg0 ?_
  all_goals iterate 2 (refine S.g rfl rfl fun K' k' => ?_; simp only [zz, reduceIte, Nat.reduceEqDiff, Nat.reduceAdd]; refine k' _ _ ?_; clear k' K')
  all_goals refine S.nil ?_
  all_goals simp only [ze, reduceIte, Nat.reduceEqDiff, Nat.reduceLT, Nat.reduceLeDiff, Nat.reduceAdd, reduceCtorEq, Nat.reduceMul]
  all_goals apply_assumption
  refine AW.cond (b := decide ((n : Int) > 0)) (by simp [ev]) (fun hc => ?_) (fun hc => ?_)
  · have hn0 : 0 < n := by have := of_decide_eq_true hc; omega
    all_goals refine AW.reg0 ?_
    all_goals iterate 5 (refine S.g rfl rfl fun K' k' => ?_; simp only [zz, reduceIte, Nat.reduceEqDiff, Nat.reduceLT, Nat.reduceLeDiff, Nat.reduceAdd, reduceCtorEq, Nat.reduceMul, sl22, el22, ok42, sz42, ag42]; refine k' _ _ ?_; clear k' K')
    all_goals (refine S.g rfl rfl fun K' k' => ?_; simp only [zz, reduceIte, Nat.reduceEqDiff, Nat.reduceLT, Nat.reduceLeDiff, Nat.reduceAdd, reduceCtorEq, Nat.reduceMul, sl22, el22, ok42, sz42, ag42, zt42, by42, (Try.underlying3), TypeDesc.int.injEq]; (first | refine ⟨by omega, by unfold maxLen; omega, by unfold reach; omega, fun k1 hk1 => ?_⟩ | refine ⟨rfl, by omega, by unfold maxLen; omega, by unfold reach; omega, fun k1 hk1 => ?_⟩) <;> (refine k' _ _ ?_; clear k' K'))
    all_goals iterate 2 (refine S.g rfl rfl fun K' k' => ?_; simp only [zz, reduceIte, Nat.reduceEqDiff, Nat.reduceLT, Nat.reduceLeDiff, Nat.reduceAdd, reduceCtorEq, Nat.reduceMul, sl22, el22, ok42, sz42, ag42]; refine k' _ _ ?_; clear k' K')
    all_goals (refine S.g rfl rfl fun K' k' => ?_; simp only [zz, reduceIte, Nat.reduceEqDiff, Nat.reduceLT, Nat.reduceLeDiff, Nat.reduceAdd, reduceCtorEq, Nat.reduceMul, sl22, el22, ok42, sz42, ag42]; (first | refine ⟨Nat.zero_le _, fun k2 hk2 => ?_⟩ | refine fun k2 hk2 => ?_) <;> (refine k' _ _ ?_; clear k' K'))
    all_goals (refine S.g rfl rfl fun K' k' => ?_; simp only [zz, reduceIte, Nat.reduceEqDiff, Nat.reduceAdd]; refine k' _ _ ?_; clear k' K')
    all_goals refine S.nil ?_
    all_goals simp only [ze, reduceIte, Nat.reduceEqDiff, Nat.reduceLT, Nat.reduceLeDiff, Nat.reduceAdd, reduceCtorEq, Nat.reduceMul]
    all_goals apply_assumption
    refine AW.seq_k fun K7 h7 => ?_
    all_goals refine AW.reg0 ?_
    all_goals iterate 2 (refine S.g rfl rfl fun K' k' => ?_; simp only [zz, reduceIte, Nat.reduceEqDiff, Nat.reduceAdd]; refine k' _ _ ?_; clear k' K')
    all_goals refine S.nil ?_
    all_goals simp only [ze, reduceIte, Nat.reduceEqDiff, Nat.reduceLT, Nat.reduceLeDiff, Nat.reduceAdd, reduceCtorEq, Nat.reduceMul]
    all_goals apply_assumption
    refine AW.ret ?_
    all_goals simp only [zs, reduceIte, Nat.reduceEqDiff, Nat.reduceLT, Nat.reduceLeDiff, Nat.reduceAdd, reduceCtorEq, Nat.reduceMul]
    exact .inr ⟨k2, rfl, rfl⟩
  · have hn0 : n = 0 := by have := of_decide_eq_false hc; omega
    refine AW.skip ?_
    all_goals simp only [zs, reduceIte, Nat.reduceEqDiff, Nat.reduceLT, Nat.reduceLeDiff, Nat.reduceAdd, reduceCtorEq, Nat.reduceMul]
    all_goals apply_assumption
    refine AW.seq_k fun K8 h8 => ?_
    all_goals refine AW.reg0 ?_
    all_goals iterate 2 (refine S.g rfl rfl fun K' k' => ?_; simp only [zz, reduceIte, Nat.reduceEqDiff, Nat.reduceAdd]; refine k' _ _ ?_; clear k' K')
    all_goals refine S.nil ?_
    all_goals simp only [ze, reduceIte, Nat.reduceEqDiff, Nat.reduceLT, Nat.reduceLeDiff, Nat.reduceAdd, reduceCtorEq, Nat.reduceMul]
    all_goals apply_assumption
    refine AW.ret ?_
    all_goals simp only [zs, reduceIte, Nat.reduceEqDiff, Nat.reduceLT, Nat.reduceLeDiff, Nat.reduceAdd, reduceCtorEq, Nat.reduceMul]
    exact .inl hn0
end Go.Abs.M
namespace Go.Abs.M
open Go Go.Abs Go.Proofs
set_option maxRecDepth 20000
set_option linter.unusedSimpArgs false
set_option linter.unusedVariables false
def encL (l : List Bd) : List V := [.sl (l.map encBd)]
def tot (ls : List (List Bd)) : Nat := (ls.map List.length).sum
theorem tot_snoc (ls : List (List Bd)) (l : List Bd) : tot (ls ++ [l]) = tot ls + l.length := by simp [tot]
theorem tot_take (ls : List (List Bd)) (i : Nat) : tot (ls.take i) ≤ tot ls := by
  have : tot ls = tot (ls.take i) + tot (ls.drop i) := by
    simp only [tot, List.map_take, List.map_drop]
    rw [← List.sum_append, List.take_append_drop]
  omega
theorem flat_tot (ls : List (List Bd)) : ls.flatten.length = tot ls := by simp [tot, List.length_flatten]
end Go.Abs.M
namespace Go.Abs.M
open Go Go.Abs Go.Proofs
set_option maxRecDepth 20000
set_option linter.unusedSimpArgs false
set_option linter.unusedVariables false
theorem of_spec (nm : ByteArray) (e : Ev) (hp : okP [⟨nm, e⟩]) (hl : e.attrs.length * 48 ≤ 140737488355328) : PCalls Try.prog 19 [.c (.string nm), .agg (encEv e)]
    (fun v => v = if partErr [⟨nm, e⟩] ≠ 0 then .tup [.agg [.sl []], .c (.int .i64 (partErr [⟨nm, e⟩]))] else .tup [.agg [.sl ([(⟨nm, e⟩ : Bd)].map encBd)], .c (.int .i64 0)]) := by
  refine PCalls.intro Try.call19 Try.func19 rfl Try.ntmps19 Try.results19 (by simp) ?_
  refine AW.seq_k fun K1 h1 => ?_
  all_goals refine AW.reg0 ?_
  all_goals iterate 3 (refine S.g rfl rfl fun K' k' => ?_; simp only [zz, reduceIte, Nat.reduceEqDiff, Nat.reduceLT, Nat.reduceLeDiff, Nat.reduceAdd, reduceCtorEq, Nat.reduceMul, ok36, sz36, ag36, zt24, encEv]; refine k' _ _ ?_; clear k' K')
  all_goals refine S.nil ?_
  all_goals simp only [ze, reduceIte, Nat.reduceEqDiff, Nat.reduceLT, Nat.reduceLeDiff, Nat.reduceAdd, reduceCtorEq, Nat.reduceMul, encEv]
  all_goals apply_assumption
  refine AW.seq_k fun K2 h2 => ?_
  all_goals refine AW.reg0 ?_
  all_goals iterate 2 (refine S.g rfl rfl fun K' k' => ?_; simp only [zz, reduceIte, Nat.reduceEqDiff, Nat.reduceLT, Nat.reduceLeDiff, Nat.reduceAdd, reduceCtorEq, Nat.reduceMul, ok36, sz36, ag36, encEv]; refine k' _ _ ?_; clear k' K')
  all_goals (refine S.g rfl rfl fun K' k' => ?_; simp only [zz, reduceIte, Nat.reduceEqDiff, Nat.reduceLT, Nat.reduceLeDiff, Nat.reduceAdd, reduceCtorEq, Nat.reduceMul, encEv]; refine PCalls.eqto (clone_ev _ (by assumption)) ?_ <;> (refine k' _ _ ?_; clear k' K'))
  all_goals (refine S.g rfl rfl fun K' k' => ?_; simp only [zz, reduceIte, Nat.reduceEqDiff, Nat.reduceLT, Nat.reduceLeDiff, Nat.reduceAdd, reduceCtorEq, Nat.reduceMul, zt42, pl42, encEv]; refine k' _ _ ?_; clear k' K')
  all_goals (refine S.g rfl rfl fun K' k' => ?_; simp only [zb, reduceIte, Nat.reduceEqDiff, Nat.reduceLT, Nat.reduceLeDiff, Nat.reduceAdd, reduceCtorEq, Nat.reduceMul, sl22, el22, ok42, sz42, ag42, zt42, by42, encEv]; refine k' _ _ ?_; clear k' K')
  all_goals (refine S.g rfl rfl fun K' k' => ?_; simp only [zz, reduceIte, Nat.reduceEqDiff, Nat.reduceLT, Nat.reduceLeDiff, Nat.reduceAdd, reduceCtorEq, Nat.reduceMul, zt24, pl24, encEv]; refine k' _ _ ?_; clear k' K')
  all_goals iterate 2 (refine S.g rfl rfl fun K' k' => ?_; simp only [zz, reduceIte, Nat.reduceEqDiff, Nat.reduceLT, Nat.reduceLeDiff, Nat.reduceAdd, reduceCtorEq, Nat.reduceMul, zt24, ok24, sz24, ag24, encEv]; refine k' _ _ ?_; clear k' K')
  all_goals refine S.nil ?_
  all_goals simp only [ze, reduceIte, Nat.reduceEqDiff, Nat.reduceLT, Nat.reduceLeDiff, Nat.reduceAdd, reduceCtorEq, Nat.reduceMul, encEv]
  all_goals apply_assumption
  refine AW.seq_k fun K3 h3 => ?_
  refine AW.seq_k fun K4 h4 => ?_
  all_goals refine AW.reg0 ?_
  all_goals (refine S.g rfl rfl fun K' k' => ?_; simp only [zz, reduceIte, Nat.reduceEqDiff, Nat.reduceLT, Nat.reduceLeDiff, Nat.reduceAdd, reduceCtorEq, Nat.reduceMul, ok24, sz24, ag24]; refine k' _ _ ?_; clear k' K')
  all_goals (refine S.g rfl rfl fun K' k' => ?_; simp only [zz, reduceIte, Nat.reduceEqDiff, Nat.reduceLT, Nat.reduceLeDiff, Nat.reduceAdd, reduceCtorEq, Nat.reduceMul]; refine PCalls.eqto (check_part [⟨nm, e⟩] (by assumption)) ?_ <;> (refine k' _ _ ?_; clear k' K'))
  all_goals (refine S.g rfl rfl fun K' k' => ?_; simp only [zz, reduceIte, Nat.reduceEqDiff, Nat.reduceAdd]; refine k' _ _ ?_; clear k' K')
  all_goals refine S.nil ?_
  all_goals simp only [ze, reduceIte, Nat.reduceEqDiff, Nat.reduceLT, Nat.reduceLeDiff, Nat.reduceAdd, reduceCtorEq, Nat.reduceMul]
  all_goals apply_assumption
  refine AW.seq_k fun K5 h5 => ?_
  all_goals refine AW.reg0 ?_
  all_goals iterate 2 (refine S.g rfl rfl fun K' k' => ?_; simp only [zz, reduceIte, Nat.reduceEqDiff, Nat.reduceAdd]; refine k' _ _ ?_; clear k' K')
  all_goals refine S.nil ?_
  all_goals simp only [ze, reduceIte, Nat.reduceEqDiff, Nat.reduceLT, Nat.reduceLeDiff, Nat.reduceAdd, reduceCtorEq, Nat.reduceMul]
  all_goals apply_assumption
  refine AW.cond (b := partErr [⟨nm, e⟩] != 0) (by simp [ev]) (fun hc => ?_) (fun hc => ?_)
  · have hx : partErr [⟨nm, e⟩] ≠ 0 := by simpa using hc
    refine AW.seq_k fun K6 h6 => ?_
    all_goals refine AW.reg0 ?_
    all_goals (refine S.g rfl rfl fun K' k' => ?_; simp only [zz, reduceIte, Nat.reduceEqDiff, Nat.reduceLT, Nat.reduceLeDiff, Nat.reduceAdd, reduceCtorEq, Nat.reduceMul, zt24, pl24]; refine k' _ _ ?_; clear k' K')
    all_goals iterate 3 (refine S.g rfl rfl fun K' k' => ?_; simp only [zz, reduceIte, Nat.reduceEqDiff, Nat.reduceLT, Nat.reduceLeDiff, Nat.reduceAdd, reduceCtorEq, Nat.reduceMul, ok24, sz24, ag24]; refine k' _ _ ?_; clear k' K')
    all_goals refine S.nil ?_
    all_goals simp only [ze, reduceIte, Nat.reduceEqDiff, Nat.reduceLT, Nat.reduceLeDiff, Nat.reduceAdd, reduceCtorEq, Nat.reduceMul]
    all_goals apply_assumption
    refine AW.ret ?_
    all_goals simp only [zs, reduceIte, Nat.reduceEqDiff, Nat.reduceLT, Nat.reduceLeDiff, Nat.reduceAdd, reduceCtorEq, Nat.reduceMul, qLoad, ok24, sz24, ag24, cut, List.drop_zero, List.take_succ_cons, List.take_zero, List.map]
    exact (if_pos hx).symm
  · have hx : ¬ partErr [⟨nm, e⟩] ≠ 0 := by simpa using hc
    refine AW.skip ?_
    all_goals simp only [zs, reduceIte, Nat.reduceEqDiff, Nat.reduceLT, Nat.reduceLeDiff, Nat.reduceAdd, reduceCtorEq, Nat.reduceMul]
    all_goals apply_assumption
    refine AW.seq_k fun K7 h7 => ?_
    all_goals refine AW.reg0 ?_
    all_goals iterate 3 (refine S.g rfl rfl fun K' k' => ?_; simp only [zz, reduceIte, Nat.reduceEqDiff, Nat.reduceLT, Nat.reduceLeDiff, Nat.reduceAdd, reduceCtorEq, Nat.reduceMul, ok24, sz24, ag24]; refine k' _ _ ?_; clear k' K')
    all_goals refine S.nil ?_
    all_goals simp only [ze, reduceIte, Nat.reduceEqDiff, Nat.reduceLT, Nat.reduceLeDiff, Nat.reduceAdd, reduceCtorEq, Nat.reduceMul]
    all_goals apply_assumption
    refine AW.ret ?_
    all_goals simp only [zs, reduceIte, Nat.reduceEqDiff, Nat.reduceLT, Nat.reduceLeDiff, Nat.reduceAdd, reduceCtorEq, Nat.reduceMul, qLoad, ok24, sz24, ag24, cut, List.drop_zero, List.take_succ_cons, List.take_zero, List.map, encBd]
    exact (if_neg hx).symm
def encI (n : Int) : List V := [.c (.int .i64 n)]
theorem len_int (l : List Int) : ∀ (e : List V), e ∈ l.map encI → e.length = 1 := fun e he => by
  obtain ⟨a, _, rfl⟩ := List.mem_map.1 he; rfl
theorem times_spec (l : List Bd) (hn : l.length * 80 ≤ 140737488355328) : PCalls Try.prog 80 [.agg [.sl (l.map encBd)]] (fun v => v = .sl ((l.map (·.ev.time)).map encI)) := by
  refine PCalls.intro Try.call80 Try.func80 rfl Try.ntmps80 Try.results80 (by simp) ?_
  refine AW.seq_k fun K1 h1 => ?_
  all_goals refine AW.reg0 ?_
  all_goals iterate 2 (refine S.g rfl rfl fun K' k' => ?_; simp only [zz, reduceIte, Nat.reduceEqDiff, Nat.reduceLT, Nat.reduceLeDiff, Nat.reduceAdd, reduceCtorEq, Nat.reduceMul, ok24, sz24, ag24]; refine k' _ _ ?_; clear k' K')
  all_goals refine S.nil ?_
  all_goals simp only [ze, reduceIte, Nat.reduceEqDiff, Nat.reduceLT, Nat.reduceLeDiff, Nat.reduceAdd, reduceCtorEq, Nat.reduceMul]
  all_goals apply_assumption
  refine AW.seq_k fun K2 h2 => ?_
  all_goals refine AW.reg0 ?_
  all_goals (refine S.g rfl rfl fun K' k' => ?_; simp only [zz, reduceIte, Nat.reduceEqDiff, Nat.reduceAdd]; refine k' _ _ ?_; clear k' K')
  all_goals refine S.nil ?_
  all_goals simp only [ze, reduceIte, Nat.reduceEqDiff, Nat.reduceLT, Nat.reduceLeDiff, Nat.reduceAdd, reduceCtorEq, Nat.reduceMul]
  all_goals apply_assumption
  refine AW.seq_k fun K3 h3 => ?_
  refine AW.seq_k fun K4 h4 => ?_
  all_goals refine AW.reg0 ?_
  all_goals iterate 4 (refine S.g rfl rfl fun K' k' => ?_; simp only [zz, reduceIte, Nat.reduceEqDiff, Nat.reduceLT, Nat.reduceLeDiff, Nat.reduceAdd, reduceCtorEq, Nat.reduceMul, of24_0, ok22, sz22, ag22, sl22, el22, ok42, sz42, ag42]; refine k' _ _ ?_; clear k' K')
  all_goals refine S.nil ?_
  all_goals simp only [ze, reduceIte, Nat.reduceEqDiff, Nat.reduceLT, Nat.reduceLeDiff, Nat.reduceAdd, reduceCtorEq, Nat.reduceMul]
  all_goals apply_assumption
  refine AW.block ?_   -- 0
  refine AW.loop (fun m s σ => ∃ i : Nat, m + i = l.length ∧ s.t 7 = .sl (l.map encBd) ∧ s.t 8 = .c (.int .i64 l.length) ∧ s.t 9 = .c (.int .i64 i) ∧
    ((i = 0 ∧ s.t 3 = .c (.slice none 0 0) ∧ σ = Hp.empty) ∨ ∃ k, s.t 3 = .gl k ∧ σ = Hp.empty.setGr k (some ((2, 1), ((l.take i).map (·.ev.time)).map encI)))) l.length ?_ ?_
  · refine ⟨0, by simp, ?_⟩
    all_goals simp only [zs, reduceIte, Nat.reduceEqDiff, Nat.reduceLT, Nat.reduceLeDiff, Nat.reduceAdd, reduceCtorEq, Nat.reduceMul]
    simp
  rintro m s σ ⟨i, hm, e7, e8, e9, hk⟩
  refine AW.seq_k fun K5 h5 => ?_
  all_goals refine AW.reg0 ?_
  all_goals (refine S.g rfl rfl fun K' k' => ?_; simp only [zz, reduceIte, Nat.reduceEqDiff, Nat.reduceAdd, e9, e8]; refine k' _ _ ?_; clear k' K')
  all_goals refine S.nil ?_
  all_goals simp only [ze, reduceIte, Nat.reduceEqDiff, Nat.reduceLT, Nat.reduceLeDiff, Nat.reduceAdd, reduceCtorEq, Nat.reduceMul, e9, e8]
  all_goals apply_assumption
  refine AW.seq_k fun K6 h6 => ?_
  refine AW.cond (b := decide (i < l.length)) (by simp [ev]) (fun hc => ?_) (fun hc => ?_)
  · refine AW.skip ?_
    all_goals simp only [zs, reduceIte, Nat.reduceEqDiff, Nat.reduceLT, Nat.reduceLeDiff, Nat.reduceAdd, reduceCtorEq, Nat.reduceMul]
    all_goals apply_assumption
    have hi : i < l.length := by simpa using hc
    have hg := getD_map (f := encBd) hi
    have htk : l.take (i + 1) = l.take i ++ [l[i]] := by rw [List.take_append_getElem]
    generalize ha : l[i] = a at hg htk
    have hw : IntKind.i64.wrap ((i : Int) + 1) = ((i + 1 : Nat) : Int) := by rw [wrap_small _ (by omega) (by omega)]; rfl
    have htl : (l.take i).length = i := by rw [List.length_take]; omega
    refine AW.seq_k fun K7 h7 => ?_
    refine AW.block ?_   -- 1
    refine AW.seq_k fun K8 h8 => ?_
    all_goals refine AW.reg0 ?_
    all_goals iterate 4 (refine S.g rfl rfl fun K' k' => ?_; simp only [zz, reduceIte, Nat.reduceEqDiff, Nat.reduceLT, Nat.reduceLeDiff, Nat.reduceAdd, reduceCtorEq, Nat.reduceMul, sl22, el22, ok42, sz42, ag42, zt42, e7, e9, hi, hg, encBd]; refine k' _ _ ?_; clear k' K')
    all_goals refine S.nil ?_
    all_goals simp only [ze, reduceIte, Nat.reduceEqDiff, Nat.reduceLT, Nat.reduceLeDiff, Nat.reduceAdd, reduceCtorEq, Nat.reduceMul, e7, e9, hi, hg, encBd]
    all_goals apply_assumption
    rcases hk with ⟨rfl, e3, rfl⟩ | ⟨k, e3, rfl⟩
    · skip
      all_goals refine AW.reg0 ?_
      all_goals iterate 4 (refine S.g rfl rfl fun K' k' => ?_; simp only [zz, reduceIte, Nat.reduceEqDiff, Nat.reduceLT, Nat.reduceLeDiff, Nat.reduceAdd, reduceCtorEq, Nat.reduceMul, of42_1, of36_1, ok2, sz2, ag2, e3]; refine k' _ _ ?_; clear k' K')
      all_goals (refine S.g rfl rfl fun K' k' => ?_; simp only [zb, reduceIte, Nat.reduceEqDiff, Nat.reduceLT, Nat.reduceLeDiff, Nat.reduceAdd, reduceCtorEq, Nat.reduceMul, sl108, el108, ok2, sz2, ag2, zt2, by2, e3]; refine k' _ _ ?_; clear k' K')
      all_goals (refine S.g rfl rfl fun K' k' => ?_; simp only [zz, reduceIte, Nat.reduceEqDiff, Nat.reduceLT, Nat.reduceLeDiff, Nat.reduceAdd, reduceCtorEq, Nat.reduceMul, sl108, el108, ok2, sz2, ag2, zt2, by2, e3]; refine ⟨len_int [a.ev.time], by unfold maxLen; omega, by unfold reach; omega, fun k2 hk2 => ?_⟩ <;> (refine k' _ _ ?_; clear k' K'))
      all_goals (refine S.g rfl rfl fun K' k' => ?_; simp only [zz, reduceIte, Nat.reduceEqDiff, Nat.reduceAdd, e3]; refine k' _ _ ?_; clear k' K')
      all_goals refine S.nil ?_
      all_goals simp only [ze, reduceIte, Nat.reduceEqDiff, Nat.reduceLT, Nat.reduceLeDiff, Nat.reduceAdd, reduceCtorEq, Nat.reduceMul, e3]
      all_goals apply_assumption
      all_goals refine AW.reg0 ?_
      all_goals iterate 2 (refine S.g rfl rfl fun K' k' => ?_; simp only [zz, reduceIte, Nat.reduceEqDiff, Nat.reduceAdd, e9, hw, e7, e8]; refine k' _ _ ?_; clear k' K')
      all_goals refine S.nil ?_
      all_goals simp only [ze, reduceIte, Nat.reduceEqDiff, Nat.reduceLT, Nat.reduceLeDiff, Nat.reduceAdd, reduceCtorEq, Nat.reduceMul, e9, hw, e7, e8]
      refine ⟨m - 1, by omega, 1, by omega, rfl, .inr ⟨k2, rfl, ?_⟩⟩
      rw [show l.take 1 = [] ++ [a] from htk]; rfl
    · skip
      all_goals refine AW.reg0 ?_
      all_goals iterate 4 (refine S.g rfl rfl fun K' k' => ?_; simp only [zz, reduceIte, Nat.reduceEqDiff, Nat.reduceLT, Nat.reduceLeDiff, Nat.reduceAdd, reduceCtorEq, Nat.reduceMul, of42_1, of36_1, ok2, sz2, ag2, e3, htl]; refine k' _ _ ?_; clear k' K')
      all_goals (refine S.g rfl rfl fun K' k' => ?_; simp only [zb, reduceIte, Nat.reduceEqDiff, Nat.reduceLT, Nat.reduceLeDiff, Nat.reduceAdd, reduceCtorEq, Nat.reduceMul, sl108, el108, ok2, sz2, ag2, zt2, by2, e3, htl]; refine k' _ _ ?_; clear k' K')
      all_goals (refine S.g rfl rfl fun K' k' => ?_; simp only [zz, reduceIte, Nat.reduceEqDiff, Nat.reduceLT, Nat.reduceLeDiff, Nat.reduceAdd, reduceCtorEq, Nat.reduceMul, sl108, el108, ok2, sz2, ag2, zt2, by2, e3, htl]; refine ⟨len_int [a.ev.time], by unfold maxLen; omega, by unfold reach; omega, fun k2 hk2 => ?_⟩ <;> (refine k' _ _ ?_; clear k' K'))
      all_goals (refine S.g rfl rfl fun K' k' => ?_; simp only [zz, reduceIte, Nat.reduceEqDiff, Nat.reduceAdd, e3, htl]; refine k' _ _ ?_; clear k' K')
      all_goals refine S.nil ?_
      all_goals simp only [ze, reduceIte, Nat.reduceEqDiff, Nat.reduceLT, Nat.reduceLeDiff, Nat.reduceAdd, reduceCtorEq, Nat.reduceMul, e3, htl]
      all_goals apply_assumption
      all_goals refine AW.reg0 ?_
      all_goals iterate 2 (refine S.g rfl rfl fun K' k' => ?_; simp only [zz, reduceIte, Nat.reduceEqDiff, Nat.reduceAdd, e9, hw, e7, e8]; refine k' _ _ ?_; clear k' K')
      all_goals refine S.nil ?_
      all_goals simp only [ze, reduceIte, Nat.reduceEqDiff, Nat.reduceLT, Nat.reduceLeDiff, Nat.reduceAdd, reduceCtorEq, Nat.reduceMul, e9, hw, e7, e8]
      refine ⟨m - 1, by omega, i + 1, by omega, rfl, .inr ⟨k2, rfl, ?_⟩⟩
      rw [htk, List.map_append, List.map_append]
      rfl
  · refine AW.exit ?_
    all_goals simp only [zs, reduceIte, Nat.reduceEqDiff, Nat.reduceLT, Nat.reduceLeDiff, Nat.reduceAdd, reduceCtorEq, Nat.reduceMul]
    -- EXIT 0
    all_goals apply_assumption
    have hi : l.length ≤ i := by simpa using hc
    rcases hk with ⟨rfl, e3, rfl⟩ | ⟨k, e3, rfl⟩
    · have h0 : l = [] := List.eq_nil_of_length_eq_zero (by omega)
      refine AW.seq_k fun K9 h9 => ?_
      all_goals refine AW.reg0 ?_
      all_goals iterate 2 (refine S.g rfl rfl fun K' k' => ?_; simp only [zz, reduceIte, Nat.reduceEqDiff, Nat.reduceAdd, e3]; refine k' _ _ ?_; clear k' K')
      all_goals refine S.nil ?_
      all_goals simp only [ze, reduceIte, Nat.reduceEqDiff, Nat.reduceLT, Nat.reduceLeDiff, Nat.reduceAdd, reduceCtorEq, Nat.reduceMul, e3]
      all_goals apply_assumption
      refine AW.ret ?_
      all_goals simp only [zs, reduceIte, Nat.reduceEqDiff, Nat.reduceLT, Nat.reduceLeDiff, Nat.reduceAdd, reduceCtorEq, Nat.reduceMul, h0, List.map]
    · rw [List.take_of_length_le hi]
      refine AW.seq_k fun K10 h10 => ?_
      all_goals refine AW.reg0 ?_
      all_goals iterate 2 (refine S.g rfl rfl fun K' k' => ?_; simp only [zz, reduceIte, Nat.reduceEqDiff, Nat.reduceAdd, e3]; refine k' _ _ ?_; clear k' K')
      all_goals refine S.nil ?_
      all_goals simp only [ze, reduceIte, Nat.reduceEqDiff, Nat.reduceLT, Nat.reduceLeDiff, Nat.reduceAdd, reduceCtorEq, Nat.reduceMul, e3]
      all_goals apply_assumption
      refine AW.freeze (k := k) (T := (2, 1)) (es := (l.map (·.ev.time)).map encI) (by simp only [Hp.setGr_gr, if_true]) (AW.bare (AW.ret ?_))
      all_goals simp only [zs, reduceIte, Nat.reduceEqDiff, Nat.reduceLT, Nat.reduceLeDiff, Nat.reduceAdd, reduceCtorEq, Nat.reduceMul, fzV, fz1, St.fz_t, St.fz_l]
end Go.Abs.M
namespace Go.Abs.M
open Go Go.Abs Go.Proofs
set_option maxRecDepth 20000
set_option linter.unusedSimpArgs false
set_option linter.unusedVariables false
def minL (a : Int) (r : List Int) : Int := r.foldl (fun m b => if b < m then b else m) a
theorem min_spec (a : Int) (r : List Int) (hn : r.length < 4611686018427387904) : PCalls Try.prog 79 [.sl ((a :: r).map encI)] (fun v => v = .c (.int .i64 (minL a r))) := by
  refine PCalls.intro Try.call79 Try.func79 rfl Try.ntmps79 Try.results79 (by simp) ?_
  have hlen : (a :: r).length = r.length + 1 := rfl
  have hg0 : ((a :: r).map encI).getD 0 [] = encI a := rfl
  have hlm : ((a :: r).map encI).length = r.length + 1 := by simp
  generalize hes : (a :: r).map encI = es at hg0 hlm ⊢
  refine AW.seq_k fun K1 h1 => ?_
  all_goals refine AW.reg0 ?_
  all_goals (refine S.g rfl rfl fun K' k' => ?_; simp only [zz, reduceIte, Nat.reduceEqDiff, Nat.reduceAdd]; refine k' _ _ ?_; clear k' K')
  all_goals refine S.nil ?_
  all_goals simp only [ze, reduceIte, Nat.reduceEqDiff, Nat.reduceLT, Nat.reduceLeDiff, Nat.reduceAdd, reduceCtorEq, Nat.reduceMul]
  all_goals apply_assumption
  have hw0 : IntKind.i64.wrap ((r.length : Int) + 1) = ((r.length + 1 : Nat) : Int) := by rw [wrap_small _ (by omega) (by omega)]; rfl
  refine AW.seq_k fun K2 h2 => ?_
  refine AW.seq_k fun K3 h3 => ?_
  all_goals refine AW.reg0 ?_
  all_goals iterate 3 (refine S.g rfl rfl fun K' k' => ?_; simp only [zz, reduceIte, Nat.reduceEqDiff, Nat.reduceLT, Nat.reduceLeDiff, Nat.reduceAdd, reduceCtorEq, Nat.reduceMul, sl108, el108, ok2, sz2, ag2, hlm]; refine k' _ _ ?_; clear k' K')
  all_goals refine S.nil ?_
  all_goals simp only [ze, reduceIte, Nat.reduceEqDiff, Nat.reduceLT, Nat.reduceLeDiff, Nat.reduceAdd, reduceCtorEq, Nat.reduceMul, hlm]
  all_goals apply_assumption
  refine AW.cond (b := decide (((r.length + 1 : Nat) : Int) < 1)) (by simp [ev]) (fun hc => ?_) (fun hc => ?_)
  · have := of_decide_eq_true hc; omega
  refine AW.skip ?_
  all_goals simp only [zs, reduceIte, Nat.reduceEqDiff, Nat.reduceLT, Nat.reduceLeDiff, Nat.reduceAdd, reduceCtorEq, Nat.reduceMul]
  all_goals apply_assumption
  have h00 : (0 : Int) < ((r.length + 1 : Nat) : Int) := by omega
  refine AW.seq_k fun K4 h4 => ?_
  all_goals refine AW.reg0 ?_
  all_goals iterate 4 (refine S.g rfl rfl fun K' k' => ?_; simp only [zz, reduceIte, Nat.reduceEqDiff, Nat.reduceLT, Nat.reduceLeDiff, Nat.reduceAdd, reduceCtorEq, Nat.reduceMul, sl108, el108, ok2, sz2, ag2, hlm, hg0, encI, h00, Int.toNat_zero, Int.le_refl]; refine k' _ _ ?_; clear k' K')
  all_goals refine S.nil ?_
  all_goals simp only [ze, reduceIte, Nat.reduceEqDiff, Nat.reduceLT, Nat.reduceLeDiff, Nat.reduceAdd, reduceCtorEq, Nat.reduceMul, hlm, hg0, encI, h00, Int.toNat_zero, Int.le_refl]
  all_goals apply_assumption
  refine AW.seq_k fun K5 h5 => ?_
  refine AW.seq_k fun K6 h6 => ?_
  all_goals refine AW.reg0 ?_
  all_goals (refine S.g rfl rfl fun K' k' => ?_; simp only [zz, reduceIte, Nat.reduceEqDiff, Nat.reduceAdd]; refine k' _ _ ?_; clear k' K')
  all_goals refine S.nil ?_
  all_goals simp only [ze, reduceIte, Nat.reduceEqDiff, Nat.reduceLT, Nat.reduceLeDiff, Nat.reduceAdd, reduceCtorEq, Nat.reduceMul]
  all_goals apply_assumption
  refine AW.block ?_   -- 0
  refine AW.loop (fun m s σ => σ = Hp.empty ∧ ∃ j : Nat, m + j = r.length ∧ s.t 0 = .sl es ∧ s.t 4 = .c (.int .i64 ((j + 1 : Nat) : Int)) ∧ s.t 3 = .c (.int .i64 (minL a (r.take j)))) r.length ?_ ?_
  · refine ⟨rfl, 0, by simp, ?_⟩
    all_goals simp only [zs, reduceIte, Nat.reduceEqDiff, Nat.reduceLT, Nat.reduceLeDiff, Nat.reduceAdd, reduceCtorEq, Nat.reduceMul]
    exact ⟨rfl, rfl⟩
  rintro m s σ ⟨rfl, j, hm, e0, e4, e3⟩
  refine AW.seq_k fun K7 h7 => ?_
  refine AW.seq_k fun K8 h8 => ?_
  all_goals refine AW.reg0 ?_
  all_goals iterate 4 (refine S.g rfl rfl fun K' k' => ?_; simp only [zz, reduceIte, Nat.reduceEqDiff, Nat.reduceLT, Nat.reduceLeDiff, Nat.reduceAdd, reduceCtorEq, Nat.reduceMul, sl108, el108, ok2, sz2, ag2, e0, e4, hlm]; refine k' _ _ ?_; clear k' K')
  all_goals refine S.nil ?_
  all_goals simp only [ze, reduceIte, Nat.reduceEqDiff, Nat.reduceLT, Nat.reduceLeDiff, Nat.reduceAdd, reduceCtorEq, Nat.reduceMul, e0, e4, hlm]
  all_goals apply_assumption
  refine AW.cond (b := decide (j + 1 < r.length + 1)) (by simp [ev]) (fun hc => ?_) (fun hc => ?_)
  · refine AW.skip ?_
    all_goals simp only [zs, reduceIte, Nat.reduceEqDiff, Nat.reduceLT, Nat.reduceLeDiff, Nat.reduceAdd, reduceCtorEq, Nat.reduceMul]
    all_goals apply_assumption
    have hj : j < r.length := by have := of_decide_eq_true hc; omega
    have hj1 : j + 1 < r.length + 1 := by omega
    have hg : es.getD (j + 1) [] = encI r[j] := by rw [← hes]; simp [hj]
    have htk : r.take (j + 1) = r.take j ++ [r[j]] := by rw [List.take_append_getElem]
    have hw : IntKind.i64.wrap (((j + 1 : Nat) : Int) + 1) = ((j + 1 + 1 : Nat) : Int) := by rw [wrap_small _ (by omega) (by omega)]; rfl
    generalize hb : r[j] = b at hg htk
    refine AW.seq_k fun K9 h9 => ?_
    refine AW.block ?_   -- 1
    all_goals refine AW.reg0 ?_
    all_goals iterate 7 (refine S.g rfl rfl fun K' k' => ?_; simp only [zz, reduceIte, Nat.reduceEqDiff, Nat.reduceLT, Nat.reduceLeDiff, Nat.reduceAdd, reduceCtorEq, Nat.reduceMul, sl108, el108, ok2, sz2, ag2, e0, e4, e3, hlm, hg, encI, hj1]; refine k' _ _ ?_; clear k' K')
    all_goals refine S.nil ?_
    all_goals simp only [ze, reduceIte, Nat.reduceEqDiff, Nat.reduceLT, Nat.reduceLeDiff, Nat.reduceAdd, reduceCtorEq, Nat.reduceMul, e0, e4, e3, hlm, hg, encI, hj1]
    all_goals apply_assumption
    all_goals refine AW.reg0 ?_
    all_goals iterate 3 (refine S.g rfl rfl fun K' k' => ?_; simp only [zz, reduceIte, Nat.reduceEqDiff, Nat.reduceAdd, e4, hw]; refine k' _ _ ?_; clear k' K')
    all_goals refine S.nil ?_
    all_goals simp only [ze, reduceIte, Nat.reduceEqDiff, Nat.reduceLT, Nat.reduceLeDiff, Nat.reduceAdd, reduceCtorEq, Nat.reduceMul, e4, hw]
    refine ⟨m - 1, by omega, j + 1, by omega, e0, rfl, ?_⟩
    rw [htk]
    simp only [minL, List.foldl_append, List.foldl_cons, List.foldl_nil]
    first | done | rfl | (congr 1)
  · refine AW.exit ?_
    all_goals simp only [zs, reduceIte, Nat.reduceEqDiff, Nat.reduceLT, Nat.reduceLeDiff, Nat.reduceAdd, reduceCtorEq, Nat.reduceMul]
    -- EXIT 0
    all_goals apply_assumption
    have hj : r.length ≤ j := by have := of_decide_eq_false hc; omega
    rw [List.take_of_length_le hj] at e3
    refine AW.seq_k fun K10 h10 => ?_
    all_goals refine AW.reg0 ?_
    all_goals iterate 2 (refine S.g rfl rfl fun K' k' => ?_; simp only [zz, reduceIte, Nat.reduceEqDiff, Nat.reduceAdd, e3]; refine k' _ _ ?_; clear k' K')
    all_goals refine S.nil ?_
    all_goals simp only [ze, reduceIte, Nat.reduceEqDiff, Nat.reduceLT, Nat.reduceLeDiff, Nat.reduceAdd, reduceCtorEq, Nat.reduceMul, e3]
    all_goals apply_assumption
    refine AW.ret ?_
    all_goals simp only [zs, reduceIte, Nat.reduceEqDiff, Nat.reduceLT, Nat.reduceLeDiff, Nat.reduceAdd, reduceCtorEq, Nat.reduceMul]
def maxL (a : Int) (r : List Int) : Int := r.foldl (fun m b => if m < b then b else m) a
theorem max_spec (a : Int) (r : List Int) (hn : r.length < 4611686018427387904) : PCalls Try.prog 81 [.sl ((a :: r).map encI)] (fun v => v = .c (.int .i64 (maxL a r))) := by
  refine PCalls.intro Try.call81 Try.func81 rfl Try.ntmps81 Try.results81 (by simp) ?_
  have hlen : (a :: r).length = r.length + 1 := rfl
  have hg0 : ((a :: r).map encI).getD 0 [] = encI a := rfl
  have hlm : ((a :: r).map encI).length = r.length + 1 := by simp
  generalize hes : (a :: r).map encI = es at hg0 hlm ⊢
  refine AW.seq_k fun K1 h1 => ?_
  all_goals refine AW.reg0 ?_
  all_goals (refine S.g rfl rfl fun K' k' => ?_; simp only [zz, reduceIte, Nat.reduceEqDiff, Nat.reduceAdd]; refine k' _ _ ?_; clear k' K')
  all_goals refine S.nil ?_
  all_goals simp only [ze, reduceIte, Nat.reduceEqDiff, Nat.reduceLT, Nat.reduceLeDiff, Nat.reduceAdd, reduceCtorEq, Nat.reduceMul]
  all_goals apply_assumption
  have hw0 : IntKind.i64.wrap ((r.length : Int) + 1) = ((r.length + 1 : Nat) : Int) := by rw [wrap_small _ (by omega) (by omega)]; rfl
  refine AW.seq_k fun K2 h2 => ?_
  refine AW.seq_k fun K3 h3 => ?_
  all_goals refine AW.reg0 ?_
  all_goals iterate 3 (refine S.g rfl rfl fun K' k' => ?_; simp only [zz, reduceIte, Nat.reduceEqDiff, Nat.reduceLT, Nat.reduceLeDiff, Nat.reduceAdd, reduceCtorEq, Nat.reduceMul, sl108, el108, ok2, sz2, ag2, hlm]; refine k' _ _ ?_; clear k' K')
  all_goals refine S.nil ?_
  all_goals simp only [ze, reduceIte, Nat.reduceEqDiff, Nat.reduceLT, Nat.reduceLeDiff, Nat.reduceAdd, reduceCtorEq, Nat.reduceMul, hlm]
  all_goals apply_assumption
  refine AW.cond (b := decide (((r.length + 1 : Nat) : Int) < 1)) (by simp [ev]) (fun hc => ?_) (fun hc => ?_)
  · have := of_decide_eq_true hc; omega
  refine AW.skip ?_
  all_goals simp only [zs, reduceIte, Nat.reduceEqDiff, Nat.reduceLT, Nat.reduceLeDiff, Nat.reduceAdd, reduceCtorEq, Nat.reduceMul]
  all_goals apply_assumption
  have h00 : (0 : Int) < ((r.length + 1 : Nat) : Int) := by omega
  refine AW.seq_k fun K4 h4 => ?_
  all_goals refine AW.reg0 ?_
  all_goals iterate 4 (refine S.g rfl rfl fun K' k' => ?_; simp only [zz, reduceIte, Nat.reduceEqDiff, Nat.reduceLT, Nat.reduceLeDiff, Nat.reduceAdd, reduceCtorEq, Nat.reduceMul, sl108, el108, ok2, sz2, ag2, hlm, hg0, encI, h00, Int.toNat_zero, Int.le_refl]; refine k' _ _ ?_; clear k' K')
  all_goals refine S.nil ?_
  all_goals simp only [ze, reduceIte, Nat.reduceEqDiff, Nat.reduceLT, Nat.reduceLeDiff, Nat.reduceAdd, reduceCtorEq, Nat.reduceMul, hlm, hg0, encI, h00, Int.toNat_zero, Int.le_refl]
  all_goals apply_assumption
  refine AW.seq_k fun K5 h5 => ?_
  refine AW.seq_k fun K6 h6 => ?_
  all_goals refine AW.reg0 ?_
  all_goals (refine S.g rfl rfl fun K' k' => ?_; simp only [zz, reduceIte, Nat.reduceEqDiff, Nat.reduceAdd]; refine k' _ _ ?_; clear k' K')
  all_goals refine S.nil ?_
  all_goals simp only [ze, reduceIte, Nat.reduceEqDiff, Nat.reduceLT, Nat.reduceLeDiff, Nat.reduceAdd, reduceCtorEq, Nat.reduceMul]
  all_goals apply_assumption
  refine AW.block ?_   -- 0
  refine AW.loop (fun m s σ => σ = Hp.empty ∧ ∃ j : Nat, m + j = r.length ∧ s.t 0 = .sl es ∧ s.t 4 = .c (.int .i64 ((j + 1 : Nat) : Int)) ∧ s.t 3 = .c (.int .i64 (maxL a (r.take j)))) r.length ?_ ?_
  · refine ⟨rfl, 0, by simp, ?_⟩
    all_goals simp only [zs, reduceIte, Nat.reduceEqDiff, Nat.reduceLT, Nat.reduceLeDiff, Nat.reduceAdd, reduceCtorEq, Nat.reduceMul]
    exact ⟨rfl, rfl⟩
  rintro m s σ ⟨rfl, j, hm, e0, e4, e3⟩
  refine AW.seq_k fun K7 h7 => ?_
  refine AW.seq_k fun K8 h8 => ?_
  all_goals refine AW.reg0 ?_
  all_goals iterate 4 (refine S.g rfl rfl fun K' k' => ?_; simp only [zz, reduceIte, Nat.reduceEqDiff, Nat.reduceLT, Nat.reduceLeDiff, Nat.reduceAdd, reduceCtorEq, Nat.reduceMul, sl108, el108, ok2, sz2, ag2, e0, e4, hlm]; refine k' _ _ ?_; clear k' K')
  all_goals refine S.nil ?_
  all_goals simp only [ze, reduceIte, Nat.reduceEqDiff, Nat.reduceLT, Nat.reduceLeDiff, Nat.reduceAdd, reduceCtorEq, Nat.reduceMul, e0, e4, hlm]
  all_goals apply_assumption
  refine AW.cond (b := decide (j + 1 < r.length + 1)) (by simp [ev]) (fun hc => ?_) (fun hc => ?_)
  · refine AW.skip ?_
    all_goals simp only [zs, reduceIte, Nat.reduceEqDiff, Nat.reduceLT, Nat.reduceLeDiff, Nat.reduceAdd, reduceCtorEq, Nat.reduceMul]
    all_goals apply_assumption
    have hj : j < r.length := by have := of_decide_eq_true hc; omega
    have hj1 : j + 1 < r.length + 1 := by omega
    have hg : es.getD (j + 1) [] = encI r[j] := by rw [← hes]; simp [hj]
    have htk : r.take (j + 1) = r.take j ++ [r[j]] := by rw [List.take_append_getElem]
    have hw : IntKind.i64.wrap (((j + 1 : Nat) : Int) + 1) = ((j + 1 + 1 : Nat) : Int) := by rw [wrap_small _ (by omega) (by omega)]; rfl
    generalize hb : r[j] = b at hg htk
    refine AW.seq_k fun K9 h9 => ?_
    refine AW.block ?_   -- 1
    all_goals refine AW.reg0 ?_
    all_goals iterate 7 (refine S.g rfl rfl fun K' k' => ?_; simp only [zz, reduceIte, Nat.reduceEqDiff, Nat.reduceLT, Nat.reduceLeDiff, Nat.reduceAdd, reduceCtorEq, Nat.reduceMul, sl108, el108, ok2, sz2, ag2, e0, e4, e3, hlm, hg, encI, hj1]; refine k' _ _ ?_; clear k' K')
    all_goals refine S.nil ?_
    all_goals simp only [ze, reduceIte, Nat.reduceEqDiff, Nat.reduceLT, Nat.reduceLeDiff, Nat.reduceAdd, reduceCtorEq, Nat.reduceMul, e0, e4, e3, hlm, hg, encI, hj1]
    all_goals apply_assumption
    all_goals refine AW.reg0 ?_
    all_goals iterate 3 (refine S.g rfl rfl fun K' k' => ?_; simp only [zz, reduceIte, Nat.reduceEqDiff, Nat.reduceAdd, e4, hw]; refine k' _ _ ?_; clear k' K')
    all_goals refine S.nil ?_
    all_goals simp only [ze, reduceIte, Nat.reduceEqDiff, Nat.reduceLT, Nat.reduceLeDiff, Nat.reduceAdd, reduceCtorEq, Nat.reduceMul, e4, hw]
    refine ⟨m - 1, by omega, j + 1, by omega, e0, rfl, ?_⟩
    rw [htk]
    simp only [maxL, List.foldl_append, List.foldl_cons, List.foldl_nil]
    first | done | rfl | (congr 1)
  · refine AW.exit ?_
    all_goals simp only [zs, reduceIte, Nat.reduceEqDiff, Nat.reduceLT, Nat.reduceLeDiff, Nat.reduceAdd, reduceCtorEq, Nat.reduceMul]
    -- EXIT 0
    all_goals apply_assumption
    have hj : r.length ≤ j := by have := of_decide_eq_false hc; omega
    rw [List.take_of_length_le hj] at e3
    refine AW.seq_k fun K10 h10 => ?_
    all_goals refine AW.reg0 ?_
    all_goals iterate 2 (refine S.g rfl rfl fun K' k' => ?_; simp only [zz, reduceIte, Nat.reduceEqDiff, Nat.reduceAdd, e3]; refine k' _ _ ?_; clear k' K')
    all_goals refine S.nil ?_
    all_goals simp only [ze, reduceIte, Nat.reduceEqDiff, Nat.reduceLT, Nat.reduceLeDiff, Nat.reduceAdd, reduceCtorEq, Nat.reduceMul, e3]
    all_goals apply_assumption
    refine AW.ret ?_
    all_goals simp only [zs, reduceIte, Nat.reduceEqDiff, Nat.reduceLT, Nat.reduceLeDiff, Nat.reduceAdd, reduceCtorEq, Nat.reduceMul]
end Go.Abs.M
namespace Go.Abs.M
open Go Go.Abs Go.Proofs
set_option maxRecDepth 20000
set_option linter.unusedSimpArgs false
set_option linter.unusedVariables false
def beginOf (l : List Bd) : Int := match l.map (·.ev.time) with
  | [] => 0
  | a :: r => minL a r
theorem begin_spec (l : List Bd) (hn : l.length * 80 ≤ 140737488355328) : PCalls Try.prog 22 [.agg [.sl (l.map encBd)]] (fun v => v = .c (.int .i64 (beginOf l))) := by
  refine PCalls.intro Try.call22 Try.func22 rfl Try.ntmps22 Try.results22 (by simp) ?_
  refine AW.seq_k fun K1 h1 => ?_
  all_goals refine AW.reg0 ?_
  all_goals iterate 2 (refine S.g rfl rfl fun K' k' => ?_; simp only [zz, reduceIte, Nat.reduceEqDiff, Nat.reduceLT, Nat.reduceLeDiff, Nat.reduceAdd, reduceCtorEq, Nat.reduceMul, ok24, sz24, ag24]; refine k' _ _ ?_; clear k' K')
  all_goals refine S.nil ?_
  all_goals simp only [ze, reduceIte, Nat.reduceEqDiff, Nat.reduceLT, Nat.reduceLeDiff, Nat.reduceAdd, reduceCtorEq, Nat.reduceMul]
  all_goals apply_assumption
  refine AW.seq_k fun K2 h2 => ?_
  refine AW.seq_k fun K3 h3 => ?_
  all_goals refine AW.reg0 ?_
  all_goals iterate 4 (refine S.g rfl rfl fun K' k' => ?_; simp only [zz, reduceIte, Nat.reduceEqDiff, Nat.reduceLT, Nat.reduceLeDiff, Nat.reduceAdd, reduceCtorEq, Nat.reduceMul, of24_0, ok22, sz22, ag22, sl22, el22, ok42, sz42, ag42]; refine k' _ _ ?_; clear k' K')
  all_goals refine S.nil ?_
  all_goals simp only [ze, reduceIte, Nat.reduceEqDiff, Nat.reduceLT, Nat.reduceLeDiff, Nat.reduceAdd, reduceCtorEq, Nat.reduceMul]
  all_goals apply_assumption
  refine AW.cond (b := ((l.length : Int) == 0)) (by simp [ev]) (fun hc => ?_) (fun hc => ?_)
  · refine AW.seq_k fun K4 h4 => ?_
    all_goals refine AW.reg0 ?_
    all_goals (refine S.g rfl rfl fun K' k' => ?_; simp only [zz, reduceIte, Nat.reduceEqDiff, Nat.reduceAdd]; refine k' _ _ ?_; clear k' K')
    all_goals refine S.nil ?_
    all_goals simp only [ze, reduceIte, Nat.reduceEqDiff, Nat.reduceLT, Nat.reduceLeDiff, Nat.reduceAdd, reduceCtorEq, Nat.reduceMul]
    all_goals apply_assumption
    refine AW.ret ?_
    all_goals simp only [zs, reduceIte, Nat.reduceEqDiff, Nat.reduceLT, Nat.reduceLeDiff, Nat.reduceAdd, reduceCtorEq, Nat.reduceMul]
    have h0 : l = [] := List.eq_nil_of_length_eq_zero (by have h := beq_iff_eq.mp hc; omega)
    simp [h0, beginOf]
  · refine AW.skip ?_
    all_goals simp only [zs, reduceIte, Nat.reduceEqDiff, Nat.reduceLT, Nat.reduceLeDiff, Nat.reduceAdd, reduceCtorEq, Nat.reduceMul]
    all_goals apply_assumption
    cases l with
    | nil => simp at hc
    | cons b r =>
    have hr : r.length + 1 = (b :: r).length := rfl
    have hn2 : (r.length + 1) * 80 ≤ 140737488355328 := hn
    refine AW.seq_k fun K5 h5 => ?_
    all_goals refine AW.reg0 ?_
    all_goals (refine S.g rfl rfl fun K' k' => ?_; simp only [zz, reduceIte, Nat.reduceEqDiff, Nat.reduceLT, Nat.reduceLeDiff, Nat.reduceAdd, reduceCtorEq, Nat.reduceMul, ok24, sz24, ag24]; refine k' _ _ ?_; clear k' K')
    all_goals (refine S.g rfl rfl fun K' k' => ?_; simp only [zz, reduceIte, Nat.reduceEqDiff, Nat.reduceLT, Nat.reduceLeDiff, Nat.reduceAdd, reduceCtorEq, Nat.reduceMul]; refine PCalls.eqto (times_spec (b :: r) hn) ?_ <;> (refine k' _ _ ?_; clear k' K'))
    all_goals (refine S.g rfl rfl fun K' k' => ?_; simp only [zz, reduceIte, Nat.reduceEqDiff, Nat.reduceLT, Nat.reduceLeDiff, Nat.reduceAdd, reduceCtorEq, Nat.reduceMul]; refine PCalls.eqto (min_spec b.ev.time (r.map (fun x : Bd => x.ev.time)) (by rw [List.length_map]; omega)) ?_ <;> (refine k' _ _ ?_; clear k' K'))
    all_goals (refine S.g rfl rfl fun K' k' => ?_; simp only [zz, reduceIte, Nat.reduceEqDiff, Nat.reduceAdd]; refine k' _ _ ?_; clear k' K')
    all_goals refine S.nil ?_
    all_goals simp only [ze, reduceIte, Nat.reduceEqDiff, Nat.reduceLT, Nat.reduceLeDiff, Nat.reduceAdd, reduceCtorEq, Nat.reduceMul]
    all_goals apply_assumption
    refine AW.ret ?_
    all_goals simp only [zs, reduceIte, Nat.reduceEqDiff, Nat.reduceLT, Nat.reduceLeDiff, Nat.reduceAdd, reduceCtorEq, Nat.reduceMul]
    rfl
def endOf (l : List Bd) : Int := match l.map (·.ev.time) with
  | [] => 0
  | a :: r => maxL a r
theorem end_spec (l : List Bd) (hn : l.length * 80 ≤ 140737488355328) : PCalls Try.prog 24 [.agg [.sl (l.map encBd)]] (fun v => v = .c (.int .i64 (endOf l))) := by
  refine PCalls.intro Try.call24 Try.func24 rfl Try.ntmps24 Try.results24 (by simp) ?_
  refine AW.seq_k fun K1 h1 => ?_
  all_goals refine AW.reg0 ?_
  all_goals iterate 2 (refine S.g rfl rfl fun K' k' => ?_; simp only [zz, reduceIte, Nat.reduceEqDiff, Nat.reduceLT, Nat.reduceLeDiff, Nat.reduceAdd, reduceCtorEq, Nat.reduceMul, ok24, sz24, ag24]; refine k' _ _ ?_; clear k' K')
  all_goals refine S.nil ?_
  all_goals simp only [ze, reduceIte, Nat.reduceEqDiff, Nat.reduceLT, Nat.reduceLeDiff, Nat.reduceAdd, reduceCtorEq, Nat.reduceMul]
  all_goals apply_assumption
  refine AW.seq_k fun K2 h2 => ?_
  refine AW.seq_k fun K3 h3 => ?_
  all_goals refine AW.reg0 ?_
  all_goals iterate 4 (refine S.g rfl rfl fun K' k' => ?_; simp only [zz, reduceIte, Nat.reduceEqDiff, Nat.reduceLT, Nat.reduceLeDiff, Nat.reduceAdd, reduceCtorEq, Nat.reduceMul, of24_0, ok22, sz22, ag22, sl22, el22, ok42, sz42, ag42]; refine k' _ _ ?_; clear k' K')
  all_goals refine S.nil ?_
  all_goals simp only [ze, reduceIte, Nat.reduceEqDiff, Nat.reduceLT, Nat.reduceLeDiff, Nat.reduceAdd, reduceCtorEq, Nat.reduceMul]
  all_goals apply_assumption
  refine AW.cond (b := ((l.length : Int) == 0)) (by simp [ev]) (fun hc => ?_) (fun hc => ?_)
  · refine AW.seq_k fun K4 h4 => ?_
    all_goals refine AW.reg0 ?_
    all_goals (refine S.g rfl rfl fun K' k' => ?_; simp only [zz, reduceIte, Nat.reduceEqDiff, Nat.reduceAdd]; refine k' _ _ ?_; clear k' K')
    all_goals refine S.nil ?_
    all_goals simp only [ze, reduceIte, Nat.reduceEqDiff, Nat.reduceLT, Nat.reduceLeDiff, Nat.reduceAdd, reduceCtorEq, Nat.reduceMul]
    all_goals apply_assumption
    refine AW.ret ?_
    all_goals simp only [zs, reduceIte, Nat.reduceEqDiff, Nat.reduceLT, Nat.reduceLeDiff, Nat.reduceAdd, reduceCtorEq, Nat.reduceMul]
    have h0 : l = [] := List.eq_nil_of_length_eq_zero (by have h := beq_iff_eq.mp hc; omega)
    simp [h0, endOf]
  · refine AW.skip ?_
    all_goals simp only [zs, reduceIte, Nat.reduceEqDiff, Nat.reduceLT, Nat.reduceLeDiff, Nat.reduceAdd, reduceCtorEq, Nat.reduceMul]
    all_goals apply_assumption
    cases l with
    | nil => simp at hc
    | cons b r =>
    have hr : r.length + 1 = (b :: r).length := rfl
    have hn2 : (r.length + 1) * 80 ≤ 140737488355328 := hn
    refine AW.seq_k fun K5 h5 => ?_
    all_goals refine AW.reg0 ?_
    all_goals (refine S.g rfl rfl fun K' k' => ?_; simp only [zz, reduceIte, Nat.reduceEqDiff, Nat.reduceLT, Nat.reduceLeDiff, Nat.reduceAdd, reduceCtorEq, Nat.reduceMul, ok24, sz24, ag24]; refine k' _ _ ?_; clear k' K')
    all_goals (refine S.g rfl rfl fun K' k' => ?_; simp only [zz, reduceIte, Nat.reduceEqDiff, Nat.reduceLT, Nat.reduceLeDiff, Nat.reduceAdd, reduceCtorEq, Nat.reduceMul]; refine PCalls.eqto (times_spec (b :: r) hn) ?_ <;> (refine k' _ _ ?_; clear k' K'))
    all_goals (refine S.g rfl rfl fun K' k' => ?_; simp only [zz, reduceIte, Nat.reduceEqDiff, Nat.reduceLT, Nat.reduceLeDiff, Nat.reduceAdd, reduceCtorEq, Nat.reduceMul]; refine PCalls.eqto (max_spec b.ev.time (r.map (fun x : Bd => x.ev.time)) (by rw [List.length_map]; omega)) ?_ <;> (refine k' _ _ ?_; clear k' K'))
    all_goals (refine S.g rfl rfl fun K' k' => ?_; simp only [zz, reduceIte, Nat.reduceEqDiff, Nat.reduceAdd]; refine k' _ _ ?_; clear k' K')
    all_goals refine S.nil ?_
    all_goals simp only [ze, reduceIte, Nat.reduceEqDiff, Nat.reduceLT, Nat.reduceLeDiff, Nat.reduceAdd, reduceCtorEq, Nat.reduceMul]
    all_goals apply_assumption
    refine AW.ret ?_
    all_goals simp only [zs, reduceIte, Nat.reduceEqDiff, Nat.reduceLT, Nat.reduceLeDiff, Nat.reduceAdd, reduceCtorEq, Nat.reduceMul]
    rfl
end Go.Abs.M
namespace Go.Abs.M
open Go Go.Abs Go.Proofs
set_option maxRecDepth 20000
set_option linter.unusedSimpArgs false
set_option linter.unusedVariables false
/-- One round of the insertion sort: the element at j goes down to where it belongs. -/
def sink (lo : Nat) : Nat → List Bd → List Bd
  | 0, l => l
  | j + 1, l => match l[j + 1]?, l[j]? with
    | some x, some y => if lo < j + 1 ∧ cmpS x.var y.var < 0 then sink lo j ((l.set (j + 1) y).set j x) else l
    | _, _ => l
theorem sink_stay {lo j : Nat} {l : List Bd} {x y : Bd} (hx : l[j]? = some x) (hy : l[j-1]? = some y) (h : ¬ cmpS x.var y.var < 0) : sink lo j l = l := by
  cases j with
  | zero => rfl
  | succ q =>
    rw [Nat.add_sub_cancel] at hy
    simp [sink, hx, hy, h]
theorem sink_low {lo j : Nat} {l : List Bd} (h : ¬ lo < j) : sink lo j l = l := by
  cases j with
  | zero => rfl
  | succ q =>
    simp only [sink]
    split
    · rw [if_neg (fun e => h e.1)]
    · rfl
theorem sink_go {lo j : Nat} {l : List Bd} {x y : Bd} (hl : lo < j) (hx : l[j]? = some x) (hy : l[j-1]? = some y) (h : cmpS x.var y.var < 0) : sink lo j l = sink lo (j - 1) ((l.set j y).set (j - 1) x) := by
  cases j with
  | zero => omega
  | succ q =>
    rw [Nat.add_sub_cancel] at hy
    simp [sink, hx, hy, h, hl]
def insFrom (lo : Nat) (l : List Bd) (i m : Nat) : List Bd := (List.range' i m).foldl (fun l i => sink lo i l) l
def insort (lo hi : Nat) (l : List Bd) : List Bd := insFrom lo l (lo + 1) (hi - (lo + 1))
def hpB (k : Nat) (l : List Bd) : Hp := Hp.empty.setGr k (some ((42, 6), l.map encBd))
theorem insort_spec (l : List Bd) (k lo hi : Nat) (hlo : lo ≤ hi) (hhi : hi ≤ l.length) (hn : l.length < 4611686018427387904) :
    ACalls Try.prog 128 [.gl k, .c (.int .i64 lo), .c (.int .i64 hi), .fn (.func 64) [] []] (hpB k l) (fun v σ' => v = .tup [] ∧ σ' = hpB k (insort lo hi l)) := by
  refine ACalls.intro Try.call128 Try.func128 rfl Try.ntmps128 Try.results128 (by simp) ?_
  have hw1 : IntKind.i64.wrap ((lo : Int) + 1) = ((lo + 1 : Nat) : Int) := by rw [wrap_small _ (by omega) (by omega)]; rfl
  refine AW.seq_k fun K1 h1 => ?_
  all_goals refine AW.reg0 ?_
  all_goals iterate 3 (refine S.g rfl rfl fun K' k' => ?_; simp only [zz, reduceIte, Nat.reduceEqDiff, Nat.reduceAdd, hw1]; refine k' _ _ ?_; clear k' K')
  all_goals refine S.nil ?_
  all_goals simp only [ze, reduceIte, Nat.reduceEqDiff, Nat.reduceLT, Nat.reduceLeDiff, Nat.reduceAdd, reduceCtorEq, Nat.reduceMul, hw1]
  all_goals apply_assumption
  refine AW.block ?_   -- 0
  refine AW.loop (fun m s σ => ∃ i l', m + i = hi + 1 + lo ∧ lo + 1 ≤ i ∧ s.t 0 = .gl k ∧ s.t 1 = .c (.int .i64 lo) ∧ s.t 2 = .c (.int .i64 hi) ∧ s.t 3 = .fn (.func 64) [] [] ∧ s.t 8 = .c (.int .i64 (i : Nat)) ∧
    σ = hpB k l' ∧ l'.length = l.length ∧ insort lo hi l = insFrom lo l' i (hi - i)) hi ?_ ?_
  · refine ⟨lo + 1, l, by omega, Nat.le_refl _, ?_⟩
    all_goals simp only [zs, reduceIte, Nat.reduceEqDiff, Nat.reduceLT, Nat.reduceLeDiff, Nat.reduceAdd, reduceCtorEq, Nat.reduceMul]
    simp [insort]
  rintro m s σ ⟨i, l', hm, hi1, e0, e1, e2, e3, e8, rfl, hl', hp⟩
  refine AW.seq_k fun K2 h2 => ?_
  refine AW.seq_k fun K3 h3 => ?_
  all_goals refine AW.reg0 ?_
  all_goals iterate 3 (refine S.g rfl rfl fun K' k' => ?_; simp only [zz, reduceIte, Nat.reduceEqDiff, Nat.reduceAdd, e2, e8]; refine k' _ _ ?_; clear k' K')
  all_goals refine S.nil ?_
  all_goals simp only [ze, reduceIte, Nat.reduceEqDiff, Nat.reduceLT, Nat.reduceLeDiff, Nat.reduceAdd, reduceCtorEq, Nat.reduceMul, e2, e8]
  all_goals apply_assumption
  refine AW.cond (b := decide (i < hi)) (by simp [ev]) (fun hc => ?_) (fun hc => ?_)
  · refine AW.skip ?_
    all_goals simp only [zs, reduceIte, Nat.reduceEqDiff, Nat.reduceLT, Nat.reduceLeDiff, Nat.reduceAdd, reduceCtorEq, Nat.reduceMul]
    all_goals apply_assumption
    have hih : i < hi := by simpa using hc
    refine AW.seq_k fun K4 h4 => ?_
    refine AW.block ?_   -- 1
    refine AW.seq_k fun K5 h5 => ?_
    all_goals refine AW.reg0 ?_
    all_goals iterate 2 (refine S.g rfl rfl fun K' k' => ?_; simp only [zz, reduceIte, Nat.reduceEqDiff, Nat.reduceAdd, e8]; refine k' _ _ ?_; clear k' K')
    all_goals refine S.nil ?_
    all_goals simp only [ze, reduceIte, Nat.reduceEqDiff, Nat.reduceLT, Nat.reduceLeDiff, Nat.reduceAdd, reduceCtorEq, Nat.reduceMul, e8]
    all_goals apply_assumption
    refine AW.block ?_   -- 2
    refine AW.loop (fun m s σ => ∃ j l2, m = j ∧ j ≤ i ∧ s.t 0 = .gl k ∧ s.t 1 = .c (.int .i64 lo) ∧ s.t 2 = .c (.int .i64 hi) ∧ s.t 3 = .fn (.func 64) [] [] ∧ s.t 8 = .c (.int .i64 (i : Nat)) ∧ s.t 9 = .c (.int .i64 (j : Nat)) ∧
      σ = hpB k l2 ∧ l2.length = l.length ∧ sink lo i l' = sink lo j l2) i ?_ ?_
    · refine ⟨i, l', rfl, Nat.le_refl _, ?_⟩
      all_goals simp only [zs, reduceIte, Nat.reduceEqDiff, Nat.reduceLT, Nat.reduceLeDiff, Nat.reduceAdd, reduceCtorEq, Nat.reduceMul]
      refine ⟨e0, e1, e2, e3, e8, ?_⟩
      simp [hl']
    rintro j s2 σ2 ⟨_, l2, rfl, hji, f0, f1, f2, f3, f8, f9, rfl, hl2, hs⟩
    refine AW.seq_k fun K6 h6 => ?_
    refine AW.seq_j (fun s' σ' => σ' = hpB k l2 ∧ s'.t 0 = .gl k ∧ s'.t 1 = .c (.int .i64 lo) ∧ s'.t 2 = .c (.int .i64 hi) ∧ s'.t 3 = .fn (.func 64) [] [] ∧ s'.t 8 = .c (.int .i64 (i : Nat)) ∧ s'.t 9 = .c (.int .i64 (j : Nat)) ∧
      ∃ b, s'.t 34 = .c (.bool b) ∧ (b = true → lo < j ∧ ∃ x y : Bd, l2[j]? = some x ∧ l2[j-1]? = some y ∧ cmpS x.var y.var < 0) ∧ (b = false → sink lo j l2 = l2)) ?_ ?_
    · clear hp hs
      have hpb : (hpB k l2).gr k = some ((42, 6), l2.map encBd) := by simp [hpB]
      by_cases hlj : lo < j
      · have hj1 : j < l2.length := by omega
        have hj2 : j - 1 < l2.length := by omega
        have hg1 := getD_map (f := encBd) hj1
        have hg2 := getD_map (f := encBd) hj2
        have hx : l2[j]? = some l2[j] := List.getElem?_eq_getElem hj1
        have hy : l2[j-1]? = some l2[j-1] := List.getElem?_eq_getElem hj2
        generalize l2[j] = x at hg1 hx
        generalize l2[j-1] = y at hg2 hy
        have hw : IntKind.i64.wrap ((j : Int) - 1) = ((j - 1 : Nat) : Int) := by rw [wrap_small _ (by omega) (by omega)]; omega
        generalize hsg : hpB k l2 = σ0 at hpb ⊢
        all_goals refine AW.draw2 (T := { sd := fun _ => false }) (fun _ _ h => by cases h) mixedO [(0, 0), (1, 0), (2, 0), (3, 0), (4, 0), (5, 0), (6, 0), (7, 0), (9, 0), (10, 0), (11, 0), (12, 0)] 8 13 [(14, 2), (15, 0), (16, 0)] #[true, true, true, true, true, true, true, true, false, true, true, true, true, false, false, false, false] rfl (by kernel_rfl) (by kernel_rfl) (by kernel_rfl) (by kernel_rfl) (by kernel_rfl) ?_
        all_goals iterate 2 (refine D.g rfl trivial rfl rfl fun K' k' => ?_; simp only [zz, reduceIte, Nat.reduceEqDiff, Nat.reduceAdd, f0, f1, f3, f9, hpb, hj1, hj2, hg1, hg2, hw, encBd]; refine k' _ _ ?_; clear k' K')
        all_goals (refine D.g rfl trivial rfl rfl fun K' k' => ?_; simp only [zz, reduceIte, Nat.reduceEqDiff, Nat.reduceLT, Nat.reduceLeDiff, Nat.reduceAdd, reduceCtorEq, Nat.reduceMul, f0, f1, f3, f9, hpb, hj1, hj2, hg1, hg2, hw, encBd]; refine S.bool fun b a20 => ?_; cases b <;> (try (exfalso; first | exact Bool.noConfusion a20 | (have h := of_decide_eq_true a20; omega) | (have h := of_decide_eq_false a20; omega))) <;> (refine k' _ _ ?_; clear k' K'))
        all_goals (refine D.g rfl trivial rfl rfl fun K' k' => ?_; simp only [zz, reduceIte, Nat.reduceEqDiff, Nat.reduceAdd, f0, f1, f3, f9, hpb, hj1, hj2, hg1, hg2, hw, encBd]; refine k' _ _ ?_; clear k' K')
        all_goals iterate 8 (first | (refine D.y rfl trivial rfl rfl rfl rfl fun K' k' => ?_; simp only [zz, reduceIte, Nat.reduceEqDiff, Nat.reduceLT, Nat.reduceLeDiff, Nat.reduceAdd, reduceCtorEq, Nat.reduceMul, sl22, el22, ok42, sz42, ag42, f0, f1, f3, f9, hpb, hj1, hj2, hg1, hg2, hw, encBd]; refine k' _ _ ?_; clear k' K') | ((first | refine D.x rfl (fun h => by cases h) rfl rfl rfl rfl fun K' k' => ?_ | refine D.u rfl (fun h => by cases h) rfl rfl rfl rfl fun K' k' => ?_); simp only [ze, reduceIte, Nat.reduceEqDiff]; refine k' _ _ ?_; clear k' K'))
        all_goals refine D.nil ⟨?_, ?_⟩
        all_goals iterate 2 (first | (refine D.y rfl trivial rfl rfl rfl rfl fun K' k' => ?_; simp only [zz, reduceIte, Nat.reduceEqDiff, Nat.reduceLT, Nat.reduceLeDiff, Nat.reduceAdd, reduceCtorEq, Nat.reduceMul, ok42, sz42, ag42, f0, f1, f3, f9, hpb, hj1, hj2, hg1, hg2, hw, encBd]; refine k' _ _ ?_; clear k' K') | ((first | refine D.x rfl (fun h => by cases h) rfl rfl rfl rfl fun K' k' => ?_ | refine D.u rfl (fun h => by cases h) rfl rfl rfl rfl fun K' k' => ?_); simp only [ze, reduceIte, Nat.reduceEqDiff]; refine k' _ _ ?_; clear k' K'))
        all_goals (first | (refine D.y rfl trivial rfl rfl rfl rfl fun K' k' => ?_; simp only [zz, reduceIte, Nat.reduceEqDiff, Nat.reduceLT, Nat.reduceLeDiff, Nat.reduceAdd, reduceCtorEq, Nat.reduceMul, f0, f1, f3, f9, hpb, hj1, hj2, hg1, hg2, hw, encBd]; refine PCalls.eqto (less_spec x y) ?_ <;> (refine k' _ _ ?_; clear k' K')) | ((first | refine D.x rfl (fun h => by cases h) rfl rfl rfl rfl fun K' k' => ?_ | refine D.u rfl (fun h => by cases h) rfl rfl rfl rfl fun K' k' => ?_); simp only [ze, reduceIte, Nat.reduceEqDiff]; refine k' _ _ ?_; clear k' K'))
        all_goals (first | (refine D.y rfl trivial rfl rfl rfl rfl fun K' k' => ?_; simp only [zz, reduceIte, Nat.reduceEqDiff, Nat.reduceAdd, f0, f1, f3, f9, hpb, hj1, hj2, hg1, hg2, hw, encBd]; refine k' _ _ ?_; clear k' K') | ((first | refine D.x rfl (fun h => by cases h) rfl rfl rfl rfl fun K' k' => ?_ | refine D.u rfl (fun h => by cases h) rfl rfl rfl rfl fun K' k' => ?_); simp only [ze, reduceIte, Nat.reduceEqDiff]; refine k' _ _ ?_; clear k' K'))
        all_goals (refine D.g rfl trivial rfl rfl fun K' k' => ?_; simp only [zz, reduceIte, Nat.reduceEqDiff, Nat.reduceAdd, f0, f1, f3, f9, hpb, hj1, hj2, hg1, hg2, hw, encBd]; refine k' _ _ ?_; clear k' K')
        all_goals refine D.nil ?_
        all_goals simp only [ze, reduceIte, Nat.reduceEqDiff, Nat.reduceLT, Nat.reduceLeDiff, Nat.reduceAdd, reduceCtorEq, Nat.reduceMul, f0, f1, f3, f9, hpb, hj1, hj2, hg1, hg2, hw, encBd]
        all_goals exact ⟨f2, f8, _, rfl, fun h => ⟨hlj, x, y, hx, hy, of_decide_eq_true h⟩, fun h => sink_stay hx hy (of_decide_eq_false h)⟩
      · generalize hsg : hpB k l2 = σ0 at hpb ⊢
        all_goals refine AW.draw2 (T := { sd := fun _ => false }) (fun _ _ h => by cases h) mixedO [(0, 0), (1, 0), (2, 0), (3, 0), (4, 0), (5, 0), (6, 0), (7, 0), (9, 0), (10, 0), (11, 0), (12, 0)] 8 13 [(14, 2), (15, 0), (16, 0)] #[true, true, true, true, true, true, true, true, false, true, true, true, true, false, false, false, false] rfl (by kernel_rfl) (by kernel_rfl) (by kernel_rfl) (by kernel_rfl) (by kernel_rfl) ?_
        all_goals iterate 2 (refine D.g rfl trivial rfl rfl fun K' k' => ?_; simp only [zz, reduceIte, Nat.reduceEqDiff, Nat.reduceAdd, f0, f1, f3, f9]; refine k' _ _ ?_; clear k' K')
        all_goals (refine D.g rfl trivial rfl rfl fun K' k' => ?_; simp only [zz, reduceIte, Nat.reduceEqDiff, Nat.reduceLT, Nat.reduceLeDiff, Nat.reduceAdd, reduceCtorEq, Nat.reduceMul, f0, f1, f3, f9]; refine S.bool fun b a20 => ?_; cases b <;> (try (exfalso; first | exact Bool.noConfusion a20 | (have h := of_decide_eq_true a20; omega) | (have h := of_decide_eq_false a20; omega))) <;> (refine k' _ _ ?_; clear k' K'))
        all_goals (refine D.g rfl trivial rfl rfl fun K' k' => ?_; simp only [zz, reduceIte, Nat.reduceEqDiff, Nat.reduceAdd, f0, f1, f3, f9]; refine k' _ _ ?_; clear k' K')
        all_goals iterate 8 (first | (refine D.y rfl trivial rfl rfl rfl rfl fun K' k' => ?_; simp only [zz, reduceIte, Nat.reduceEqDiff, Nat.reduceLT, Nat.reduceLeDiff, Nat.reduceAdd, reduceCtorEq, Nat.reduceMul, sl22, el22, ok42, sz42, ag42, f0, f1, f3, f9]; refine k' _ _ ?_; clear k' K') | ((first | refine D.x rfl (fun h => by cases h) rfl rfl rfl rfl fun K' k' => ?_ | refine D.u rfl (fun h => by cases h) rfl rfl rfl rfl fun K' k' => ?_); simp only [ze, reduceIte, Nat.reduceEqDiff]; refine k' _ _ ?_; clear k' K'))
        all_goals refine D.nil ⟨?_, ?_⟩
        all_goals iterate 2 (first | (refine D.y rfl trivial rfl rfl rfl rfl fun K' k' => ?_; simp only [zz, reduceIte, Nat.reduceEqDiff, Nat.reduceLT, Nat.reduceLeDiff, Nat.reduceAdd, reduceCtorEq, Nat.reduceMul, ok42, sz42, ag42, f0, f1, f3, f9]; refine k' _ _ ?_; clear k' K') | ((first | refine D.x rfl (fun h => by cases h) rfl rfl rfl rfl fun K' k' => ?_ | refine D.u rfl (fun h => by cases h) rfl rfl rfl rfl fun K' k' => ?_); simp only [ze, reduceIte, Nat.reduceEqDiff]; refine k' _ _ ?_; clear k' K'))
        all_goals (first | (refine D.y rfl trivial rfl rfl rfl rfl fun K' k' => ?_; simp only [zz, reduceIte, Nat.reduceEqDiff, Nat.reduceLT, Nat.reduceLeDiff, Nat.reduceAdd, reduceCtorEq, Nat.reduceMul, f0, f1, f3, f9]; refine PCalls.eqto (less_spec x y) ?_ <;> (refine k' _ _ ?_; clear k' K')) | ((first | refine D.x rfl (fun h => by cases h) rfl rfl rfl rfl fun K' k' => ?_ | refine D.u rfl (fun h => by cases h) rfl rfl rfl rfl fun K' k' => ?_); simp only [ze, reduceIte, Nat.reduceEqDiff]; refine k' _ _ ?_; clear k' K'))
        all_goals (first | (refine D.y rfl trivial rfl rfl rfl rfl fun K' k' => ?_; simp only [zz, reduceIte, Nat.reduceEqDiff, Nat.reduceAdd, f0, f1, f3, f9]; refine k' _ _ ?_; clear k' K') | ((first | refine D.x rfl (fun h => by cases h) rfl rfl rfl rfl fun K' k' => ?_ | refine D.u rfl (fun h => by cases h) rfl rfl rfl rfl fun K' k' => ?_); simp only [ze, reduceIte, Nat.reduceEqDiff]; refine k' _ _ ?_; clear k' K'))
        all_goals (refine D.g rfl trivial rfl rfl fun K' k' => ?_; simp only [zz, reduceIte, Nat.reduceEqDiff, Nat.reduceAdd, f0, f1, f3, f9]; refine k' _ _ ?_; clear k' K')
        all_goals refine D.nil ?_
        all_goals simp only [ze, reduceIte, Nat.reduceEqDiff, Nat.reduceLT, Nat.reduceLeDiff, Nat.reduceAdd, reduceCtorEq, Nat.reduceMul, f0, f1, f3, f9]
        all_goals exact ⟨f2, f8, _, rfl, (fun h => by cases h), fun _ => sink_low hlj⟩
    rintro s3 σ3 ⟨rfl, g0, g1, g2, g3, g8, g9, b, g34, hbt, hbf⟩
    refine AW.cond (b := b) g34 (fun hb => AW.skip ?_) (fun hb => AW.exit ?_)
    · all_goals simp only [zs, reduceIte, Nat.reduceEqDiff, Nat.reduceLT, Nat.reduceLeDiff, Nat.reduceAdd, reduceCtorEq, Nat.reduceMul]
      all_goals apply_assumption
      obtain ⟨hlj, x, y, hx, hy, hlt⟩ := hbt hb
      have hs2 := sink_go hlj hx hy hlt
      have hj1 : j < l2.length := (List.getElem?_eq_some_iff.1 hx).1
      have hj2 : j - 1 < l2.length := by omega
      have hg1 : (l2.map encBd).getD j [] = encBd x := by rw [getD_map hj1, (List.getElem?_eq_some_iff.1 hx).2]
      have hg2 : (l2.map encBd).getD (j - 1) [] = encBd y := by rw [getD_map hj2, (List.getElem?_eq_some_iff.1 hy).2]
      have hgs : ∀ v, ((l2.map encBd).set j v).getD (j - 1) [] = encBd y := fun v => by
        rw [← hg2]; simp [List.getD, List.getElem?_set, show j ≠ j - 1 by omega]
      have hw : IntKind.i64.wrap ((j : Int) - 1) = ((j - 1 : Nat) : Int) := by rw [wrap_small _ (by omega) (by omega)]; omega
      have hpb : hpB k l2 = Hp.empty.setGr k (some ((42, 6), l2.map encBd)) := rfl
      rw [hpb]
      refine AW.seq_k fun K7 h7 => ?_
      refine AW.block ?_   -- 3
      refine AW.mono (Q := thenS (fun s' σ' => σ' = hpB k ((l2.set j y).set (j - 1) x) ∧ s'.t 0 = .gl k ∧ s'.t 1 = .c (.int .i64 lo) ∧ s'.t 2 = .c (.int .i64 hi) ∧ s'.t 3 = .fn (.func 64) [] [] ∧ s'.t 8 = .c (.int .i64 (i : Nat)) ∧ s'.t 9 = .c (.int .i64 (j : Nat))) (fun _ _ _ => False)) ?_ ?_
      · skip
        all_goals refine AW.draw2 (T := { sd := fun _ => false }) (fun _ _ h => by cases h) mixedO [(0, 0), (1, 0), (2, 0), (3, 0), (4, 0), (5, 0), (6, 0), (7, 0), (8, 0), (10, 0), (11, 0), (12, 0)] 9 13 [(14, 0), (15, 2), (16, 0), (17, 2)] #[true, true, true, true, true, true, true, true, true, false, true, true, true, false, false, false, false, false] rfl (by kernel_rfl) (by kernel_rfl) (by kernel_rfl) (by kernel_rfl) (by kernel_rfl) ?_
        all_goals iterate 12 (refine D.g rfl trivial rfl rfl fun K' k' => ?_; simp only [zz, reduceIte, Nat.reduceEqDiff, Nat.reduceLT, Nat.reduceLeDiff, Nat.reduceAdd, reduceCtorEq, Nat.reduceMul, sl22, el22, ok42, sz42, ag42, g0, g1, g2, g3, g8, g9, hj1, hj2, hg1, hg2, hgs, hw, encBd, List.length_set]; refine k' _ _ ?_; clear k' K')
        all_goals refine D.nil ⟨?_, ?_⟩
        all_goals iterate 6 (refine D.g rfl trivial rfl rfl fun K' k' => ?_; simp only [zz, reduceIte, Nat.reduceEqDiff, Nat.reduceLT, Nat.reduceLeDiff, Nat.reduceAdd, reduceCtorEq, Nat.reduceMul, ok42, sz42, ag42, sl22, el22, g0, g1, g2, g3, g8, g9, hj1, hj2, hg1, hg2, hgs, hw, encBd, List.length_set]; refine k' _ _ ?_; clear k' K')
        all_goals refine D.nil ?_
        all_goals simp only [ze, reduceIte, Nat.reduceEqDiff, Nat.reduceLT, Nat.reduceLeDiff, Nat.reduceAdd, reduceCtorEq, Nat.reduceMul, g0, g1, g2, g3, g8, g9, hj1, hj2, hg1, hg2, hgs, hw, encBd, List.length_set]
        all_goals simp [hpB, encBd, List.map_set]
      rintro e s4 σ4 hq
      cases e with
      | normal =>
        obtain ⟨rfl, q0, q1, q2, q3, q8, q9⟩ := hq
        all_goals simp only [zs, reduceIte, Nat.reduceEqDiff, Nat.reduceLT, Nat.reduceLeDiff, Nat.reduceAdd, reduceCtorEq, Nat.reduceMul]
        all_goals apply_assumption
        all_goals refine AW.reg0 ?_
        all_goals iterate 3 (refine S.g rfl rfl fun K' k' => ?_; simp only [zz, reduceIte, Nat.reduceEqDiff, Nat.reduceAdd, q9, hw]; refine k' _ _ ?_; clear k' K')
        all_goals refine S.nil ?_
        all_goals simp only [ze, reduceIte, Nat.reduceEqDiff, Nat.reduceLT, Nat.reduceLeDiff, Nat.reduceAdd, reduceCtorEq, Nat.reduceMul, q9, hw]
        refine ⟨j - 1, by omega, j - 1, (l2.set j y).set (j - 1) x, rfl, by omega, q0, q1, q2, q3, q8, rfl, rfl, by simp [hl2], ?_⟩
        rw [hs, hs2]
      | _ => exact hq.elim
    · all_goals simp only [zs, reduceIte, Nat.reduceEqDiff, Nat.reduceLT, Nat.reduceLeDiff, Nat.reduceAdd, reduceCtorEq, Nat.reduceMul]
      all_goals apply_assumption
      have hw : IntKind.i64.wrap ((i : Int) + 1) = ((i + 1 : Nat) : Int) := by rw [wrap_small _ (by omega) (by omega)]; rfl
      all_goals refine AW.reg0 ?_
      all_goals iterate 3 (refine S.g rfl rfl fun K' k' => ?_; simp only [zz, reduceIte, Nat.reduceEqDiff, Nat.reduceAdd, g8, hw]; refine k' _ _ ?_; clear k' K')
      all_goals refine S.nil ?_
      all_goals simp only [ze, reduceIte, Nat.reduceEqDiff, Nat.reduceLT, Nat.reduceLeDiff, Nat.reduceAdd, reduceCtorEq, Nat.reduceMul, g8, hw]
      refine ⟨m - 1, by omega, i + 1, l2, by omega, by omega, g0, g1, g2, g3, rfl, rfl, hl2, ?_⟩
      rw [hp, show hi - i = (hi - (i + 1)) + 1 by omega]
      simp only [insFrom, List.range'_succ, List.foldl_cons]
      rw [hs, hbf hb]
  · refine AW.exit ?_
    all_goals simp only [zs, reduceIte, Nat.reduceEqDiff, Nat.reduceLT, Nat.reduceLeDiff, Nat.reduceAdd, reduceCtorEq, Nat.reduceMul]
    -- EXIT 0
    have hih : hi ≤ i := by simpa using hc
    have h0 : hi - i = 0 := by omega
    rw [h0] at hp
    rw [hp]; exact ⟨rfl, rfl⟩
end Go.Abs.M
namespace Go.Abs.M
open Go Go.Abs Go.Proofs
set_option maxRecDepth 20000
set_option linter.unusedSimpArgs false
set_option linter.unusedVariables false
theorem stable_small (l : List Bd) (k : Nat) (hn : l.length < 20) :
    ACalls Try.prog 104 [.gl k, .c (.int .i64 l.length), .fn (.func 64) [] []] (hpB k l) (fun v σ' => v = .tup [] ∧ σ' = hpB k (insort 0 l.length l)) := by
  refine ACalls.intro Try.call104 Try.func104 rfl Try.ntmps104 Try.results104 (by simp) ?_
  refine AW.seq_k fun K1 h1 => ?_
  all_goals refine AW.reg0 ?_
  all_goals (refine S.g rfl rfl fun K' k' => ?_; simp only [zz, reduceIte, Nat.reduceEqDiff, Nat.reduceAdd]; refine k' _ _ ?_; clear k' K')
  all_goals refine S.nil ?_
  all_goals simp only [ze, reduceIte, Nat.reduceEqDiff, Nat.reduceLT, Nat.reduceLeDiff, Nat.reduceAdd, reduceCtorEq, Nat.reduceMul]
  all_goals apply_assumption
  refine AW.seq_k fun K2 h2 => ?_
  all_goals refine AW.reg0 ?_
  all_goals iterate 3 (refine S.g rfl rfl fun K' k' => ?_; simp only [zz, reduceIte, Nat.reduceEqDiff, Nat.reduceAdd]; refine k' _ _ ?_; clear k' K')
  all_goals refine S.nil ?_
  all_goals simp only [ze, reduceIte, Nat.reduceEqDiff, Nat.reduceLT, Nat.reduceLeDiff, Nat.reduceAdd, reduceCtorEq, Nat.reduceMul]
  all_goals apply_assumption
  refine AW.seq_k fun K3 h3 => ?_
  refine AW.block ?_   -- 0
  refine AW.loop (fun m s σ => σ = hpB k l ∧ s.t 0 = .gl k ∧ s.t 1 = .c (.int .i64 l.length) ∧ s.t 2 = .fn (.func 64) [] [] ∧ s.t 6 = .c (.int .i64 20) ∧ s.t 7 = .c (.int .i64 ((0 : Nat) : Int)) ∧ s.t 8 = .c (.int .i64 20)) 0 ?_ ?_
  · refine ⟨rfl, ?_⟩
    all_goals simp only [zs, reduceIte, Nat.reduceEqDiff, Nat.reduceLT, Nat.reduceLeDiff, Nat.reduceAdd, reduceCtorEq, Nat.reduceMul]
    simp
  rintro m s σ ⟨rfl, e0, e1, e2, e6, e7, e8⟩
  refine AW.seq_k fun K4 h4 => ?_
  refine AW.seq_k fun K5 h5 => ?_
  all_goals refine AW.reg0 ?_
  all_goals iterate 3 (refine S.g rfl rfl fun K' k' => ?_; simp only [zz, reduceIte, Nat.reduceEqDiff, Nat.reduceAdd, e1, e8]; refine k' _ _ ?_; clear k' K')
  all_goals refine S.nil ?_
  all_goals simp only [ze, reduceIte, Nat.reduceEqDiff, Nat.reduceLT, Nat.reduceLeDiff, Nat.reduceAdd, reduceCtorEq, Nat.reduceMul, e1, e8]
  all_goals apply_assumption
  refine AW.cond (b := decide ((20 : Int) ≤ l.length)) (by simp [ev]) (fun hc => ?_) (fun hc => ?_)
  · have := of_decide_eq_true hc; omega
  refine AW.exit ?_
  all_goals simp only [zs, reduceIte, Nat.reduceEqDiff, Nat.reduceLT, Nat.reduceLeDiff, Nat.reduceAdd, reduceCtorEq, Nat.reduceMul]
  all_goals apply_assumption
  refine AW.seq_k fun K6 h6 => ?_
  all_goals refine AW.reg0 ?_
  all_goals iterate 4 (refine S.g rfl rfl fun K' k' => ?_; simp only [zz, reduceIte, Nat.reduceEqDiff, Nat.reduceAdd, e0, e1, e2, e7]; refine k' _ _ ?_; clear k' K')
  all_goals (refine S.g rfl rfl fun K' k' => ?_; simp only [zz, reduceIte, Nat.reduceEqDiff, Nat.reduceLT, Nat.reduceLeDiff, Nat.reduceAdd, reduceCtorEq, Nat.reduceMul, e0, e1, e2, e7]; refine (insort_spec l k 0 l.length (Nat.zero_le _) (Nat.le_refl _) (by omega)).to fun v σ1 hv => ?_; obtain ⟨rfl, rfl⟩ := hv <;> (refine k' _ _ ?_; clear k' K'))
  all_goals refine S.nil ?_
  all_goals simp only [ze, reduceIte, Nat.reduceEqDiff, Nat.reduceLT, Nat.reduceLeDiff, Nat.reduceAdd, reduceCtorEq, Nat.reduceMul, e0, e1, e2, e7]
  all_goals apply_assumption
  refine AW.block ?_   -- 2
  refine AW.loop (fun m s σ => σ = hpB k (insort 0 l.length l) ∧ s.t 1 = .c (.int .i64 l.length) ∧ s.t 6 = .c (.int .i64 20)) 0 ?_ ?_
  · refine ⟨rfl, ?_⟩
    all_goals simp only [zs, reduceIte, Nat.reduceEqDiff, Nat.reduceLT, Nat.reduceLeDiff, Nat.reduceAdd, reduceCtorEq, Nat.reduceMul]
    first | exact ⟨e1, e6⟩ | exact ⟨e1, e6, trivial⟩ | simp [e1, e6]
  rintro m2 s2 σ2 ⟨rfl, f1, f6⟩
  refine AW.seq_k fun K7 h7 => ?_
  refine AW.seq_k fun K8 h8 => ?_
  all_goals refine AW.reg0 ?_
  all_goals iterate 3 (refine S.g rfl rfl fun K' k' => ?_; simp only [zz, reduceIte, Nat.reduceEqDiff, Nat.reduceAdd, f1, f6]; refine k' _ _ ?_; clear k' K')
  all_goals refine S.nil ?_
  all_goals simp only [ze, reduceIte, Nat.reduceEqDiff, Nat.reduceLT, Nat.reduceLeDiff, Nat.reduceAdd, reduceCtorEq, Nat.reduceMul, f1, f6]
  all_goals apply_assumption
  refine AW.cond (b := decide ((20 : Int) < l.length)) (by simp [ev]) (fun hc => ?_) (fun hc => ?_)
  · have := of_decide_eq_true hc; omega
  refine AW.exit ?_
  all_goals simp only [zs, reduceIte, Nat.reduceEqDiff, Nat.reduceLT, Nat.reduceLeDiff, Nat.reduceAdd, reduceCtorEq, Nat.reduceMul]
  first | exact ⟨rfl, rfl⟩ | rfl
end Go.Abs.M
namespace Go.Abs.M
open Go Go.Abs Go.Proofs
set_option maxRecDepth 20000
set_option linter.unusedSimpArgs false
set_option linter.unusedVariables false
theorem sort_small (l : List Bd) (k : Nat) (hn : l.length < 20) :
    ACalls Try.prog 63 [.gl k, .fn (.func 64) [] []] (hpB k l) (fun v σ' => v = .tup [] ∧ σ' = hpB k (insort 0 l.length l)) := by
  refine ACalls.intro Try.call63 Try.func63 rfl Try.ntmps63 Try.results63 (by simp) ?_
  have hpb : (hpB k l).gr k = some ((42, 6), l.map encBd) := by simp [hpB]
  refine AW.mono (Q := thenS (fun s' σ' => σ' = hpB k (insort 0 l.length l)) (fun _ _ _ => False)) ?_ ?_
  · clear hpb; unfold hpB
    all_goals refine AW.reg0 ?_
    all_goals iterate 4 (refine S.g rfl rfl fun K' k' => ?_; simp only [zz, reduceIte, Nat.reduceEqDiff, Nat.reduceLT, Nat.reduceLeDiff, Nat.reduceAdd, reduceCtorEq, Nat.reduceMul, sl22, el22, ok42, sz42, ag42]; refine k' _ _ ?_; clear k' K')
    all_goals (refine S.g rfl rfl fun K' k' => ?_; simp only [zz, reduceIte, Nat.reduceEqDiff, Nat.reduceLT, Nat.reduceLeDiff, Nat.reduceAdd, reduceCtorEq, Nat.reduceMul]; refine (stable_small l k hn).to fun v σ1 hv => ?_; obtain ⟨rfl, rfl⟩ := hv <;> (refine k' _ _ ?_; clear k' K'))
    all_goals refine S.nil ?_
    all_goals simp only [ze, reduceIte, Nat.reduceEqDiff, Nat.reduceLT, Nat.reduceLeDiff, Nat.reduceAdd, reduceCtorEq, Nat.reduceMul]
    all_goals rfl
  rintro e s σ hq
  cases e with
  | normal =>
    have hq : σ = hpB k (insort 0 l.length l) := hq
    subst hq
    all_goals simp only [zs, reduceIte, Nat.reduceEqDiff, Nat.reduceLT, Nat.reduceLeDiff, Nat.reduceAdd, reduceCtorEq, Nat.reduceMul]
    first | exact ⟨rfl, rfl⟩ | rfl
  | _ => exact hq.elim
end Go.Abs.M
namespace Go.Abs.M
open Go Go.Abs Go.Proofs
set_option maxRecDepth 20000
set_option linter.unusedSimpArgs false
set_option linter.unusedVariables false
theorem concat_frozen (ls : List (List Bd)) (h0 : ls ≠ []) (hn : ls.length < 4611686018427387904) (ht : tot ls * 80 ≤ 140737488355328) :
    PCalls Try.prog 62 [.sl (ls.map encL)] (fun v => v = .sl (ls.flatten.map encBd)) := by
  refine PCalls.intro Try.call62 Try.func62 rfl Try.ntmps62 Try.results62 (by simp) ?_
  refine AW.seq_k fun K1 h1 => ?_
  all_goals refine AW.reg0 ?_
  all_goals (refine S.g rfl rfl fun K' k' => ?_; simp only [zz, reduceIte, Nat.reduceEqDiff, Nat.reduceAdd]; refine k' _ _ ?_; clear k' K')
  all_goals refine S.nil ?_
  all_goals simp only [ze, reduceIte, Nat.reduceEqDiff, Nat.reduceLT, Nat.reduceLeDiff, Nat.reduceAdd, reduceCtorEq, Nat.reduceMul]
  all_goals apply_assumption
  refine AW.seq_k fun K2 h2 => ?_
  all_goals refine AW.reg0 ?_
  all_goals (refine S.g rfl rfl fun K' k' => ?_; simp only [zz, reduceIte, Nat.reduceEqDiff, Nat.reduceAdd]; refine k' _ _ ?_; clear k' K')
  all_goals refine S.nil ?_
  all_goals simp only [ze, reduceIte, Nat.reduceEqDiff, Nat.reduceLT, Nat.reduceLeDiff, Nat.reduceAdd, reduceCtorEq, Nat.reduceMul]
  all_goals apply_assumption
  refine AW.seq_j (fun s' σ' => σ' = Hp.empty ∧ s'.t 0 = .sl (ls.map encL) ∧ s'.t 3 = .c (.int .i64 (tot ls))) ?_ ?_
  · refine AW.seq_k fun K3 h3 => ?_
    all_goals refine AW.reg0 ?_
    all_goals iterate 3 (refine S.g rfl rfl fun K' k' => ?_; simp only [zz, reduceIte, Nat.reduceEqDiff, Nat.reduceLT, Nat.reduceLeDiff, Nat.reduceAdd, reduceCtorEq, Nat.reduceMul, sl132, el132, ok22, sz22, ag22]; refine k' _ _ ?_; clear k' K')
    all_goals refine S.nil ?_
    all_goals simp only [ze, reduceIte, Nat.reduceEqDiff, Nat.reduceLT, Nat.reduceLeDiff, Nat.reduceAdd, reduceCtorEq, Nat.reduceMul]
    all_goals apply_assumption
    refine AW.block ?_   -- 0
    refine AW.loop (fun m s σ => σ = Hp.empty ∧ ∃ i : Nat, m + i = ls.length ∧ s.t 0 = .sl (ls.map encL) ∧ s.t 9 = .sl (ls.map encL) ∧ s.t 10 = .c (.int .i64 ls.length) ∧ s.t 11 = .c (.int .i64 i) ∧ s.t 3 = .c (.int .i64 (tot (ls.take i)))) ls.length ?_ ?_
    · refine ⟨rfl, 0, by simp, ?_⟩
      all_goals simp only [zs, reduceIte, Nat.reduceEqDiff, Nat.reduceLT, Nat.reduceLeDiff, Nat.reduceAdd, reduceCtorEq, Nat.reduceMul]
      simp [tot]
    rintro m s σ ⟨rfl, i, hm, e0, e9, e10, e11, e3⟩
    refine AW.seq_k fun K4 h4 => ?_
    all_goals refine AW.reg0 ?_
    all_goals (refine S.g rfl rfl fun K' k' => ?_; simp only [zz, reduceIte, Nat.reduceEqDiff, Nat.reduceAdd, e10, e11]; refine k' _ _ ?_; clear k' K')
    all_goals refine S.nil ?_
    all_goals simp only [ze, reduceIte, Nat.reduceEqDiff, Nat.reduceLT, Nat.reduceLeDiff, Nat.reduceAdd, reduceCtorEq, Nat.reduceMul, e10, e11]
    all_goals apply_assumption
    refine AW.seq_k fun K5 h5 => ?_
    refine AW.cond (b := decide (i < ls.length)) (by simp [ev]) (fun hc => ?_) (fun hc => ?_)
    · refine AW.skip ?_
      all_goals simp only [zs, reduceIte, Nat.reduceEqDiff, Nat.reduceLT, Nat.reduceLeDiff, Nat.reduceAdd, reduceCtorEq, Nat.reduceMul]
      all_goals apply_assumption
      have hi : i < ls.length := by simpa using hc
      have hg := getD_map (f := encL) hi
      have htk : ls.take (i + 1) = ls.take i ++ [ls[i]] := by rw [List.take_append_getElem]
      generalize ha : ls[i] = a at hg htk
      have hle : tot (ls.take (i + 1)) ≤ tot ls := tot_take ls (i + 1)
      rw [htk, tot_snoc] at hle
      have hw : IntKind.i64.wrap ((i : Int) + 1) = ((i + 1 : Nat) : Int) := by rw [wrap_small _ (by omega) (by omega)]; rfl
      have hw2 : IntKind.i64.wrap ((tot (ls.take i) : Int) + a.length) = ((tot (ls.take i) + a.length : Nat) : Int) := by rw [wrap_small _ (by omega) (by omega)]; omega
      refine AW.seq_k fun K6 h6 => ?_
      refine AW.block ?_   -- 1
      refine AW.seq_k fun K7 h7 => ?_
      all_goals refine AW.reg0 ?_
      all_goals iterate 3 (refine S.g rfl rfl fun K' k' => ?_; simp only [zz, reduceIte, Nat.reduceEqDiff, Nat.reduceLT, Nat.reduceLeDiff, Nat.reduceAdd, reduceCtorEq, Nat.reduceMul, sl132, el132, ok22, sz22, ag22, e9, e11, hi, hg, encL]; refine k' _ _ ?_; clear k' K')
      all_goals refine S.nil ?_
      all_goals simp only [ze, reduceIte, Nat.reduceEqDiff, Nat.reduceLT, Nat.reduceLeDiff, Nat.reduceAdd, reduceCtorEq, Nat.reduceMul, e9, e11, hi, hg, encL]
      all_goals apply_assumption
      refine AW.seq_k fun K8 h8 => ?_
      all_goals refine AW.reg0 ?_
      all_goals iterate 5 (refine S.g rfl rfl fun K' k' => ?_; simp only [zz, reduceIte, Nat.reduceEqDiff, Nat.reduceLT, Nat.reduceLeDiff, Nat.reduceAdd, reduceCtorEq, Nat.reduceMul, sl22, el22, ok42, sz42, ag42, e3, hw2]; refine k' _ _ ?_; clear k' K')
      all_goals refine S.nil ?_
      all_goals simp only [ze, reduceIte, Nat.reduceEqDiff, Nat.reduceLT, Nat.reduceLeDiff, Nat.reduceAdd, reduceCtorEq, Nat.reduceMul, e3, hw2]
      all_goals apply_assumption
      refine AW.seq_k fun K9 h9 => ?_
      all_goals refine AW.reg0 ?_
      all_goals iterate 2 (refine S.g rfl rfl fun K' k' => ?_; simp only [zz, reduceIte, Nat.reduceEqDiff, Nat.reduceAdd]; refine k' _ _ ?_; clear k' K')
      all_goals refine S.nil ?_
      all_goals simp only [ze, reduceIte, Nat.reduceEqDiff, Nat.reduceLT, Nat.reduceLeDiff, Nat.reduceAdd, reduceCtorEq, Nat.reduceMul]
      all_goals apply_assumption
      refine AW.cond (b := decide (((tot (ls.take i) + a.length : Nat) : Int) < 0)) (by simp [ev]) (fun hc => ?_) (fun hc => ?_)
      · have := of_decide_eq_true hc; omega
      refine AW.skip ?_
      all_goals simp only [zs, reduceIte, Nat.reduceEqDiff, Nat.reduceLT, Nat.reduceLeDiff, Nat.reduceAdd, reduceCtorEq, Nat.reduceMul]
      all_goals apply_assumption
      all_goals refine AW.reg0 ?_
      all_goals iterate 2 (refine S.g rfl rfl fun K' k' => ?_; simp only [zz, reduceIte, Nat.reduceEqDiff, Nat.reduceAdd, e11, hw]; refine k' _ _ ?_; clear k' K')
      all_goals refine S.nil ?_
      all_goals simp only [ze, reduceIte, Nat.reduceEqDiff, Nat.reduceLT, Nat.reduceLeDiff, Nat.reduceAdd, reduceCtorEq, Nat.reduceMul, e11, hw]
      refine ⟨m - 1, by omega, i + 1, by omega, e0, e9, e10, rfl, ?_⟩
      rw [htk, tot_snoc]
    · refine AW.exit ?_
      all_goals simp only [zs, reduceIte, Nat.reduceEqDiff, Nat.reduceLT, Nat.reduceLeDiff, Nat.reduceAdd, reduceCtorEq, Nat.reduceMul]
      have hi : ls.length ≤ i := by simpa using hc
      rw [List.take_of_length_le hi] at e3
      exact ⟨e0, e3⟩
  rintro s0 σ0 ⟨rfl, e0, e3⟩
  refine AW.seq_j (fun s' σ' => s'.t 0 = .sl (ls.map encL) ∧ ((s'.t 6 = .c (.slice none 0 0) ∧ σ' = Hp.empty) ∨ ∃ k, s'.t 6 = .gl k ∧ σ' = Hp.empty.setGr k (some ((42, 6), [])))) ?_ ?_
  · skip
    all_goals refine AW.region (T := { raw := fun d => d == 103 }) (fun _ _ h => by cases h) rfl ?_
    all_goals (refine S.g rfl rfl fun K' k' => ?_; simp only [zz, reduceIte, Nat.reduceEqDiff, Nat.reduceAdd, e0, e3]; refine k' _ _ ?_; clear k' K')
    all_goals (refine S.g rfl rfl fun K' k' => ?_; simp only [zz, reduceIte, Nat.reduceEqDiff, Nat.reduceLT, Nat.reduceLeDiff, Nat.reduceAdd, reduceCtorEq, Nat.reduceMul, e0, e3]; refine (grow_spec _ ht).mono fun v σ1 hv => ?_ <;> (refine k' _ _ ?_; clear k' K'))
    all_goals (refine S.g rfl rfl fun K' k' => ?_; simp only [zz, reduceIte, Nat.reduceEqDiff, Nat.reduceAdd, e0, e3]; refine k' _ _ ?_; clear k' K')
    all_goals refine S.nil ?_
    all_goals simp only [ze, reduceIte, Nat.reduceEqDiff, Nat.reduceLT, Nat.reduceLeDiff, Nat.reduceAdd, reduceCtorEq, Nat.reduceMul, e0, e3]
    rcases hv with ⟨h1, h2, _⟩ | h
    · exact .inl ⟨h1, h2⟩
    · exact .inr h
  rintro s1 σ1 ⟨f0, hv⟩
  refine AW.seq_k fun K10 h10 => ?_
  refine AW.seq_k fun K11 h11 => ?_
  all_goals refine AW.reg0 ?_
  all_goals iterate 3 (refine S.g rfl rfl fun K' k' => ?_; simp only [zz, reduceIte, Nat.reduceEqDiff, Nat.reduceLT, Nat.reduceLeDiff, Nat.reduceAdd, reduceCtorEq, Nat.reduceMul, sl132, el132, ok22, sz22, ag22, f0]; refine k' _ _ ?_; clear k' K')
  all_goals refine S.nil ?_
  all_goals simp only [ze, reduceIte, Nat.reduceEqDiff, Nat.reduceLT, Nat.reduceLeDiff, Nat.reduceAdd, reduceCtorEq, Nat.reduceMul, f0]
  all_goals apply_assumption
  refine AW.block ?_   -- 2
  refine AW.loop (fun m s σ => ∃ i : Nat, m + i = ls.length ∧ s.t 25 = .sl (ls.map encL) ∧ s.t 26 = .c (.int .i64 ls.length) ∧ s.t 27 = .c (.int .i64 i) ∧
    ((i = 0 ∧ s.t 6 = .c (.slice none 0 0) ∧ σ = Hp.empty) ∨ ∃ k, s.t 6 = .gl k ∧ σ = Hp.empty.setGr k (some ((42, 6), (ls.take i).flatten.map encBd)))) ls.length ?_ ?_
  · refine ⟨0, by simp, ?_⟩
    all_goals simp only [zs, reduceIte, Nat.reduceEqDiff, Nat.reduceLT, Nat.reduceLeDiff, Nat.reduceAdd, reduceCtorEq, Nat.reduceMul]
    refine ⟨by simp, ?_⟩
    rcases hv with ⟨h1, h2⟩ | ⟨k, h1, h2⟩
    · exact .inl ⟨h1, h2⟩
    · exact .inr ⟨k, h1, by rw [h2]; rfl⟩
  rintro m s σ ⟨i, hm, e25, e26, e27, hk⟩
  refine AW.seq_k fun K12 h12 => ?_
  all_goals refine AW.reg0 ?_
  all_goals (refine S.g rfl rfl fun K' k' => ?_; simp only [zz, reduceIte, Nat.reduceEqDiff, Nat.reduceAdd, e26, e27]; refine k' _ _ ?_; clear k' K')
  all_goals refine S.nil ?_
  all_goals simp only [ze, reduceIte, Nat.reduceEqDiff, Nat.reduceLT, Nat.reduceLeDiff, Nat.reduceAdd, reduceCtorEq, Nat.reduceMul, e26, e27]
  all_goals apply_assumption
  refine AW.seq_k fun K13 h13 => ?_
  refine AW.cond (b := decide (i < ls.length)) (by simp [ev]) (fun hc => ?_) (fun hc => ?_)
  · refine AW.skip ?_
    all_goals simp only [zs, reduceIte, Nat.reduceEqDiff, Nat.reduceLT, Nat.reduceLeDiff, Nat.reduceAdd, reduceCtorEq, Nat.reduceMul]
    all_goals apply_assumption
    have hi : i < ls.length := by simpa using hc
    have hg := getD_map (f := encL) hi
    have htk : ls.take (i + 1) = ls.take i ++ [ls[i]] := by rw [List.take_append_getElem]
    generalize ha : ls[i] = a at hg htk
    have hle : tot (ls.take (i + 1)) ≤ tot ls := tot_take ls (i + 1)
    rw [htk, tot_snoc] at hle
    have hw : IntKind.i64.wrap ((i : Int) + 1) = ((i + 1 : Nat) : Int) := by rw [wrap_small _ (by omega) (by omega)]; rfl
    have hfl : (ls.take i).flatten.length = tot (ls.take i) := flat_tot _
    refine AW.seq_k fun K14 h14 => ?_
    refine AW.block ?_   -- 3
    rcases hk with ⟨rfl, e6, rfl⟩ | ⟨k, e6, rfl⟩
    · refine AW.seq_k fun K15 h15 => ?_
      all_goals refine AW.reg0 ?_
      all_goals iterate 3 (refine S.g rfl rfl fun K' k' => ?_; simp only [zz, reduceIte, Nat.reduceEqDiff, Nat.reduceLT, Nat.reduceLeDiff, Nat.reduceAdd, reduceCtorEq, Nat.reduceMul, sl132, el132, ok22, sz22, ag22, e25, e27, hi, hg, encL]; refine k' _ _ ?_; clear k' K')
      all_goals refine S.nil ?_
      all_goals simp only [ze, reduceIte, Nat.reduceEqDiff, Nat.reduceLT, Nat.reduceLeDiff, Nat.reduceAdd, reduceCtorEq, Nat.reduceMul, e25, e27, hi, hg, encL]
      all_goals apply_assumption
      all_goals refine AW.reg0 ?_
      all_goals iterate 2 (refine S.g rfl rfl fun K' k' => ?_; simp only [zz, reduceIte, Nat.reduceEqDiff, Nat.reduceAdd, e6]; refine k' _ _ ?_; clear k' K')
      all_goals (refine S.g rfl rfl fun K' k' => ?_; simp only [zz, reduceIte, Nat.reduceEqDiff, Nat.reduceLT, Nat.reduceLeDiff, Nat.reduceAdd, reduceCtorEq, Nat.reduceMul, sl22, el22, ok42, sz42, ag42, zt42, by42, e6]; refine ⟨len_bd _, by unfold maxLen; omega, by unfold reach; omega, fun k2 hk2 => ?_⟩ <;> (refine k' _ _ ?_; clear k' K'))
      all_goals (refine S.g rfl rfl fun K' k' => ?_; simp only [zz, reduceIte, Nat.reduceEqDiff, Nat.reduceAdd, e6]; refine k' _ _ ?_; clear k' K')
      all_goals refine S.nil ?_
      all_goals simp only [ze, reduceIte, Nat.reduceEqDiff, Nat.reduceLT, Nat.reduceLeDiff, Nat.reduceAdd, reduceCtorEq, Nat.reduceMul, e6]
      all_goals apply_assumption
      all_goals refine AW.reg0 ?_
      all_goals iterate 2 (refine S.g rfl rfl fun K' k' => ?_; simp only [zz, reduceIte, Nat.reduceEqDiff, Nat.reduceAdd, e27, hw, e25, e26]; refine k' _ _ ?_; clear k' K')
      all_goals refine S.nil ?_
      all_goals simp only [ze, reduceIte, Nat.reduceEqDiff, Nat.reduceLT, Nat.reduceLeDiff, Nat.reduceAdd, reduceCtorEq, Nat.reduceMul, e27, hw, e25, e26]
      refine ⟨m - 1, by omega, 1, by omega, rfl, .inr ⟨k2, rfl, ?_⟩⟩
      rw [show ls.take 1 = [] ++ [a] from htk]; simp
    · refine AW.seq_k fun K16 h16 => ?_
      all_goals refine AW.reg0 ?_
      all_goals iterate 3 (refine S.g rfl rfl fun K' k' => ?_; simp only [zz, reduceIte, Nat.reduceEqDiff, Nat.reduceLT, Nat.reduceLeDiff, Nat.reduceAdd, reduceCtorEq, Nat.reduceMul, sl132, el132, ok22, sz22, ag22, e25, e27, hi, hg, encL]; refine k' _ _ ?_; clear k' K')
      all_goals refine S.nil ?_
      all_goals simp only [ze, reduceIte, Nat.reduceEqDiff, Nat.reduceLT, Nat.reduceLeDiff, Nat.reduceAdd, reduceCtorEq, Nat.reduceMul, e25, e27, hi, hg, encL]
      all_goals apply_assumption
      all_goals refine AW.reg0 ?_
      all_goals iterate 2 (refine S.g rfl rfl fun K' k' => ?_; simp only [zz, reduceIte, Nat.reduceEqDiff, Nat.reduceAdd, e6, hfl]; refine k' _ _ ?_; clear k' K')
      all_goals (refine S.g rfl rfl fun K' k' => ?_; simp only [zz, reduceIte, Nat.reduceEqDiff, Nat.reduceLT, Nat.reduceLeDiff, Nat.reduceAdd, reduceCtorEq, Nat.reduceMul, sl22, el22, ok42, sz42, ag42, zt42, by42, e6, hfl]; refine ⟨len_bd _, by unfold maxLen; omega, by unfold reach; omega, fun k2 hk2 => ?_⟩ <;> (refine k' _ _ ?_; clear k' K'))
      all_goals (refine S.g rfl rfl fun K' k' => ?_; simp only [zz, reduceIte, Nat.reduceEqDiff, Nat.reduceAdd, e6, hfl]; refine k' _ _ ?_; clear k' K')
      all_goals refine S.nil ?_
      all_goals simp only [ze, reduceIte, Nat.reduceEqDiff, Nat.reduceLT, Nat.reduceLeDiff, Nat.reduceAdd, reduceCtorEq, Nat.reduceMul, e6, hfl]
      all_goals apply_assumption
      all_goals refine AW.reg0 ?_
      all_goals iterate 2 (refine S.g rfl rfl fun K' k' => ?_; simp only [zz, reduceIte, Nat.reduceEqDiff, Nat.reduceAdd, e27, hw, e25, e26]; refine k' _ _ ?_; clear k' K')
      all_goals refine S.nil ?_
      all_goals simp only [ze, reduceIte, Nat.reduceEqDiff, Nat.reduceLT, Nat.reduceLeDiff, Nat.reduceAdd, reduceCtorEq, Nat.reduceMul, e27, hw, e25, e26]
      refine ⟨m - 1, by omega, i + 1, by omega, rfl, .inr ⟨k2, rfl, ?_⟩⟩
      rw [htk, List.flatten_append, List.map_append]; simp
  · refine AW.exit ?_
    all_goals simp only [zs, reduceIte, Nat.reduceEqDiff, Nat.reduceLT, Nat.reduceLeDiff, Nat.reduceAdd, reduceCtorEq, Nat.reduceMul]
    -- EXIT 2
    all_goals apply_assumption
    have hi : ls.length ≤ i := by simpa using hc
    rcases hk with ⟨rfl, e6, rfl⟩ | ⟨k, e6, rfl⟩
    · exact absurd (List.eq_nil_of_length_eq_zero (by omega)) h0
    rw [List.take_of_length_le hi]
    refine AW.seq_k fun K17 h17 => ?_
    all_goals refine AW.reg0 ?_
    all_goals iterate 2 (refine S.g rfl rfl fun K' k' => ?_; simp only [zz, reduceIte, Nat.reduceEqDiff, Nat.reduceAdd, e6]; refine k' _ _ ?_; clear k' K')
    all_goals refine S.nil ?_
    all_goals simp only [ze, reduceIte, Nat.reduceEqDiff, Nat.reduceLT, Nat.reduceLeDiff, Nat.reduceAdd, reduceCtorEq, Nat.reduceMul, e6]
    all_goals apply_assumption
    refine AW.freeze (k := k) (T := (42, 6)) (es := ls.flatten.map encBd) (by simp only [Hp.setGr_gr, if_true]) (AW.bare (AW.ret ?_))
    all_goals simp only [zs, reduceIte, Nat.reduceEqDiff, Nat.reduceLT, Nat.reduceLeDiff, Nat.reduceAdd, reduceCtorEq, Nat.reduceMul, fzV, fz1, St.fz_t, St.fz_l]
end Go.Abs.M
namespace Go.Abs.M
open Go Go.Abs Go.Proofs
set_option maxRecDepth 20000
set_option linter.unusedSimpArgs false
set_option linter.unusedVariables false
theorem clone_grow (l : List Bd) (hl : ∀ b ∈ l, b.ev.attrs.length * 48 ≤ 140737488355328) (hn : l.length * 80 ≤ 140737488355328) : ACalls Try.prog 30 [.agg [.sl (l.map encBd)]] Hp.empty (fun v σ' => (l = [] ∧ v = .agg [.c (.slice none 0 0)] ∧ σ' = Hp.empty) ∨ ∃ k, l ≠ [] ∧ v = .agg [.gl k] ∧ σ' = hpB k l) := by
  refine ACalls.introR Try.call30 Try.func30 rfl Try.ntmps30 Try.results30 (by simp) ?_
  refine AW.seq_k fun K1 h1 => ?_
  all_goals refine AW.reg0 ?_
  all_goals iterate 2 (refine S.g rfl rfl fun K' k' => ?_; simp only [zz, reduceIte, Nat.reduceEqDiff, Nat.reduceLT, Nat.reduceLeDiff, Nat.reduceAdd, reduceCtorEq, Nat.reduceMul, ok24, sz24, ag24, zt24]; refine k' _ _ ?_; clear k' K')
  all_goals refine S.nil ?_
  all_goals simp only [ze, reduceIte, Nat.reduceEqDiff, Nat.reduceLT, Nat.reduceLeDiff, Nat.reduceAdd, reduceCtorEq, Nat.reduceMul]
  all_goals apply_assumption
  refine AW.seq_k fun K2 h2 => ?_
  all_goals refine AW.reg0 ?_
  all_goals (refine S.g rfl rfl fun K' k' => ?_; simp only [zz, reduceIte, Nat.reduceEqDiff, Nat.reduceAdd]; refine k' _ _ ?_; clear k' K')
  all_goals refine S.nil ?_
  all_goals simp only [ze, reduceIte, Nat.reduceEqDiff, Nat.reduceLT, Nat.reduceLeDiff, Nat.reduceAdd, reduceCtorEq, Nat.reduceMul]
  all_goals apply_assumption
  refine AW.seq_k fun K3 h3 => ?_
  refine AW.seq_k fun K4 h4 => ?_
  all_goals refine AW.reg0 ?_
  all_goals iterate 4 (refine S.g rfl rfl fun K' k' => ?_; simp only [zz, reduceIte, Nat.reduceEqDiff, Nat.reduceLT, Nat.reduceLeDiff, Nat.reduceAdd, reduceCtorEq, Nat.reduceMul, of24_0, ok22, sz22, ag22, sl22, el22, ok42, sz42, ag42]; refine k' _ _ ?_; clear k' K')
  all_goals refine S.nil ?_
  all_goals simp only [ze, reduceIte, Nat.reduceEqDiff, Nat.reduceLT, Nat.reduceLeDiff, Nat.reduceAdd, reduceCtorEq, Nat.reduceMul]
  all_goals apply_assumption
  refine AW.block ?_   -- 0
  refine AW.loop (fun m s σ => ∃ i : Nat, m + i = l.length ∧ s.t 1 = .lp 1 0 ∧ s.l 1 = some [.sl (l.map encBd)] ∧ s.t 2 = .lp 2 0 ∧ s.l 2 = some [.c (.slice none 0 0)] ∧ s.t 7 = .sl (l.map encBd) ∧ s.t 8 = .c (.int .i64 l.length) ∧ s.t 9 = .c (.int .i64 i) ∧
    ((i = 0 ∧ s.t 3 = .c (.slice none 0 0) ∧ σ = Hp.empty) ∨ ∃ k, i ≠ 0 ∧ s.t 3 = .gl k ∧ σ = Hp.empty.setGr k (some ((42, 6), (l.take i).map encBd)))) l.length ?_ ?_
  · refine ⟨0, by simp, ?_⟩
    all_goals simp only [zs, reduceIte, Nat.reduceEqDiff, Nat.reduceLT, Nat.reduceLeDiff, Nat.reduceAdd, reduceCtorEq, Nat.reduceMul]
    simp
  rintro m s σ ⟨i, hm, e1, l1, e2, l2, e7, e8, e9, hk⟩
  refine AW.seq_k fun K5 h5 => ?_
  all_goals refine AW.reg0 ?_
  all_goals (refine S.g rfl rfl fun K' k' => ?_; simp only [zz, reduceIte, Nat.reduceEqDiff, Nat.reduceAdd, e9, e8]; refine k' _ _ ?_; clear k' K')
  all_goals refine S.nil ?_
  all_goals simp only [ze, reduceIte, Nat.reduceEqDiff, Nat.reduceLT, Nat.reduceLeDiff, Nat.reduceAdd, reduceCtorEq, Nat.reduceMul, e9, e8]
  all_goals apply_assumption
  refine AW.seq_k fun K6 h6 => ?_
  refine AW.cond (b := decide (i < l.length)) (by simp [ev]) (fun hc => ?_) (fun hc => ?_)
  · refine AW.skip ?_
    all_goals simp only [zs, reduceIte, Nat.reduceEqDiff, Nat.reduceLT, Nat.reduceLeDiff, Nat.reduceAdd, reduceCtorEq, Nat.reduceMul]
    all_goals apply_assumption
    have hi : i < l.length := by simpa using hc
    have hg := getD_map (f := encBd) hi
    have htk : l.take (i + 1) = l.take i ++ [l[i]] := by rw [List.take_append_getElem]
    have hmem := hl _ (List.getElem_mem hi)
    generalize ha : l[i] = a at hg htk hmem
    refine AW.seq_k fun K7 h7 => ?_
    refine AW.block ?_   -- 1
    refine AW.seq_k fun K8 h8 => ?_
    all_goals refine AW.reg0 ?_
    all_goals iterate 4 (refine S.g rfl rfl fun K' k' => ?_; simp only [zz, reduceIte, Nat.reduceEqDiff, Nat.reduceLT, Nat.reduceLeDiff, Nat.reduceAdd, reduceCtorEq, Nat.reduceMul, sl22, el22, ok42, sz42, ag42, zt42, e7, e9, hi, hg, encBd]; refine k' _ _ ?_; clear k' K')
    all_goals refine S.nil ?_
    all_goals simp only [ze, reduceIte, Nat.reduceEqDiff, Nat.reduceLT, Nat.reduceLeDiff, Nat.reduceAdd, reduceCtorEq, Nat.reduceMul, e7, e9, hi, hg, encBd]
    all_goals apply_assumption
    rcases hk with ⟨rfl, e3, rfl⟩ | ⟨k, hi0, e3, rfl⟩
    · skip
      all_goals refine AW.draw (T := { sd := fun d => d == 5 }) (fun _ _ h => by cases h) mixedO [(0, 0), (1, 0), (3, 0), (2, 1), (4, 1), (5, 2), (6, 0), (7, 2), (8, 2), (9, 0)] rfl (by kernel_rfl) (by kernel_rfl) ?_
      all_goals iterate 3 (refine D.g rfl trivial rfl rfl fun K' k' => ?_; simp only [zz, reduceIte, Nat.reduceEqDiff, Nat.reduceLT, Nat.reduceLeDiff, Nat.reduceAdd, reduceCtorEq, Nat.reduceMul, of42_0, of42_1, e3, encEv]; refine k' _ _ ?_; clear k' K')
      all_goals iterate 2 (refine D.g rfl (by first | rfl | (simp only [stC, ze, reduceIte, Nat.reduceEqDiff, e3, encEv]; done) | (simp only [stC, ze, reduceIte, Nat.reduceEqDiff, e3, encEv]; rfl)) rfl rfl fun K' k' => ?_; simp only [zz, reduceIte, Nat.reduceEqDiff, Nat.reduceLT, Nat.reduceLeDiff, Nat.reduceAdd, reduceCtorEq, Nat.reduceMul, ok9, sz9, ag9, ok36, sz36, ag36, e3, encEv]; refine k' _ _ ?_; clear k' K')
      all_goals (refine D.g rfl trivial rfl rfl fun K' k' => ?_; simp only [zz, reduceIte, Nat.reduceEqDiff, Nat.reduceLT, Nat.reduceLeDiff, Nat.reduceAdd, reduceCtorEq, Nat.reduceMul, e3, encEv]; refine PCalls.eqto (clone_ev _ (by assumption)) ?_ <;> (refine k' _ _ ?_; clear k' K'))
      all_goals (refine D.g rfl trivial rfl rfl fun K' k' => ?_; simp only [zz, reduceIte, Nat.reduceEqDiff, Nat.reduceLT, Nat.reduceLeDiff, Nat.reduceAdd, reduceCtorEq, Nat.reduceMul, zt42, pl42, e3, encEv]; refine k' _ _ ?_; clear k' K')
      all_goals (refine D.g rfl trivial rfl rfl fun K' k' => ?_; simp only [zb, reduceIte, Nat.reduceEqDiff, Nat.reduceLT, Nat.reduceLeDiff, Nat.reduceAdd, reduceCtorEq, Nat.reduceMul, sl22, el22, ok42, sz42, ag42, zt42, by42, e3, encEv]; refine k' _ _ ?_; clear k' K')
      all_goals (refine D.g rfl trivial rfl rfl fun K' k' => ?_; simp only [zz, reduceIte, Nat.reduceEqDiff, Nat.reduceLT, Nat.reduceLeDiff, Nat.reduceAdd, reduceCtorEq, Nat.reduceMul, sl22, el22, ok42, sz42, ag42, zt42, by42, e3, encEv]; refine ⟨len_bd [a], by unfold maxLen; omega, by unfold reach; omega, fun k2 hk2 => ?_⟩ <;> (refine k' _ _ ?_; clear k' K'))
      all_goals (refine D.g rfl trivial rfl rfl fun K' k' => ?_; simp only [zz, reduceIte, Nat.reduceEqDiff, Nat.reduceAdd, e3, encEv]; refine k' _ _ ?_; clear k' K')
      all_goals refine D.nil ?_
      all_goals simp only [ze, reduceIte, Nat.reduceEqDiff, Nat.reduceLT, Nat.reduceLeDiff, Nat.reduceAdd, reduceCtorEq, Nat.reduceMul, e3, encEv]
      all_goals apply_assumption
      have hw : IntKind.i64.wrap (((0 : Nat) : Int) + 1) = ((0 + 1 : Nat) : Int) := by rw [wrap_small _ (by omega) (by omega)]; rfl
      all_goals refine AW.reg0 ?_
      all_goals iterate 2 (refine S.g rfl rfl fun K' k' => ?_; simp only [zz, reduceIte, Nat.reduceEqDiff, Nat.reduceAdd, e9, hw, e1, e2, e7, e8, l1, l2]; refine k' _ _ ?_; clear k' K')
      all_goals refine S.nil ?_
      all_goals simp only [ze, reduceIte, Nat.reduceEqDiff, Nat.reduceLT, Nat.reduceLeDiff, Nat.reduceAdd, reduceCtorEq, Nat.reduceMul, e9, hw, e1, e2, e7, e8, l1, l2]
      refine ⟨m - 1, by omega, 1, by omega, rfl, .inr ⟨k2, by omega, rfl, ?_⟩⟩
      rw [show l.take 1 = [] ++ [a] from htk]; rfl
    · have htl : (l.take i).length = i := by rw [List.length_take]; omega
      all_goals refine AW.draw (T := { sd := fun d => d == 5 }) (fun _ _ h => by cases h) mixedO [(0, 0), (1, 0), (3, 0), (2, 1), (4, 1), (5, 2), (6, 0), (7, 2), (8, 2), (9, 0)] rfl (by kernel_rfl) (by kernel_rfl) ?_
      all_goals iterate 3 (refine D.g rfl trivial rfl rfl fun K' k' => ?_; simp only [zz, reduceIte, Nat.reduceEqDiff, Nat.reduceLT, Nat.reduceLeDiff, Nat.reduceAdd, reduceCtorEq, Nat.reduceMul, of42_0, of42_1, e3, encEv, htl]; refine k' _ _ ?_; clear k' K')
      all_goals iterate 2 (refine D.g rfl (by first | rfl | (simp only [stC, ze, reduceIte, Nat.reduceEqDiff, e3, encEv, htl]; done) | (simp only [stC, ze, reduceIte, Nat.reduceEqDiff, e3, encEv, htl]; rfl)) rfl rfl fun K' k' => ?_; simp only [zz, reduceIte, Nat.reduceEqDiff, Nat.reduceLT, Nat.reduceLeDiff, Nat.reduceAdd, reduceCtorEq, Nat.reduceMul, ok9, sz9, ag9, ok36, sz36, ag36, e3, encEv, htl]; refine k' _ _ ?_; clear k' K')
      all_goals (refine D.g rfl trivial rfl rfl fun K' k' => ?_; simp only [zz, reduceIte, Nat.reduceEqDiff, Nat.reduceLT, Nat.reduceLeDiff, Nat.reduceAdd, reduceCtorEq, Nat.reduceMul, e3, encEv, htl]; refine PCalls.eqto (clone_ev _ (by assumption)) ?_ <;> (refine k' _ _ ?_; clear k' K'))
      all_goals (refine D.g rfl trivial rfl rfl fun K' k' => ?_; simp only [zz, reduceIte, Nat.reduceEqDiff, Nat.reduceLT, Nat.reduceLeDiff, Nat.reduceAdd, reduceCtorEq, Nat.reduceMul, zt42, pl42, e3, encEv, htl]; refine k' _ _ ?_; clear k' K')
      all_goals (refine D.g rfl trivial rfl rfl fun K' k' => ?_; simp only [zb, reduceIte, Nat.reduceEqDiff, Nat.reduceLT, Nat.reduceLeDiff, Nat.reduceAdd, reduceCtorEq, Nat.reduceMul, sl22, el22, ok42, sz42, ag42, zt42, by42, e3, encEv, htl]; refine k' _ _ ?_; clear k' K')
      all_goals (refine D.g rfl trivial rfl rfl fun K' k' => ?_; simp only [zz, reduceIte, Nat.reduceEqDiff, Nat.reduceLT, Nat.reduceLeDiff, Nat.reduceAdd, reduceCtorEq, Nat.reduceMul, sl22, el22, ok42, sz42, ag42, zt42, by42, e3, encEv, htl]; refine ⟨len_bd [a], by unfold maxLen; omega, by unfold reach; omega, fun k2 hk2 => ?_⟩ <;> (refine k' _ _ ?_; clear k' K'))
      all_goals (refine D.g rfl trivial rfl rfl fun K' k' => ?_; simp only [zz, reduceIte, Nat.reduceEqDiff, Nat.reduceAdd, e3, encEv, htl]; refine k' _ _ ?_; clear k' K')
      all_goals refine D.nil ?_
      all_goals simp only [ze, reduceIte, Nat.reduceEqDiff, Nat.reduceLT, Nat.reduceLeDiff, Nat.reduceAdd, reduceCtorEq, Nat.reduceMul, e3, encEv, htl]
      all_goals apply_assumption
      have hw : IntKind.i64.wrap ((i : Int) + 1) = ((i + 1 : Nat) : Int) := by rw [wrap_small _ (by omega) (by omega)]; rfl
      all_goals refine AW.reg0 ?_
      all_goals iterate 2 (refine S.g rfl rfl fun K' k' => ?_; simp only [zz, reduceIte, Nat.reduceEqDiff, Nat.reduceAdd, e9, hw, e1, e2, e7, e8, l1, l2]; refine k' _ _ ?_; clear k' K')
      all_goals refine S.nil ?_
      all_goals simp only [ze, reduceIte, Nat.reduceEqDiff, Nat.reduceLT, Nat.reduceLeDiff, Nat.reduceAdd, reduceCtorEq, Nat.reduceMul, e9, hw, e1, e2, e7, e8, l1, l2]
      refine ⟨m - 1, by omega, i + 1, by omega, rfl, .inr ⟨k2, by omega, rfl, ?_⟩⟩
      rw [htk, List.map_append]
      simp [encBd]
  · refine AW.exit ?_
    all_goals simp only [zs, reduceIte, Nat.reduceEqDiff, Nat.reduceLT, Nat.reduceLeDiff, Nat.reduceAdd, reduceCtorEq, Nat.reduceMul]
    -- EXIT 0
    -- BEHIND THE LOOP
    all_goals apply_assumption
    have hi : l.length ≤ i := by simpa using hc
    rcases hk with ⟨rfl, e3, rfl⟩ | ⟨k, hi0, e3, rfl⟩
    · have h0 : l = [] := List.eq_nil_of_length_eq_zero (by omega)
      refine AW.seq_k fun K9 h9 => ?_
      all_goals refine AW.reg0 ?_
      all_goals (refine S.g rfl rfl fun K' k' => ?_; simp only [zz, reduceIte, Nat.reduceEqDiff, Nat.reduceAdd, e3, e2, l2]; refine k' _ _ ?_; clear k' K')
      all_goals (refine S.g rfl rfl fun K' k' => ?_; simp only [zz, reduceIte, Nat.reduceEqDiff, Nat.reduceLT, Nat.reduceLeDiff, Nat.reduceAdd, reduceCtorEq, Nat.reduceMul, zt24, pl24, e3, e2, l2]; refine k' _ _ ?_; clear k' K')
      all_goals (refine S.g rfl rfl fun K' k' => ?_; simp only [zz, reduceIte, Nat.reduceEqDiff, Nat.reduceLT, Nat.reduceLeDiff, Nat.reduceAdd, reduceCtorEq, Nat.reduceMul, ok24, sz24, ag24, e3, e2, l2]; refine k' _ _ ?_; clear k' K')
      all_goals refine S.nil ?_
      all_goals simp only [ze, reduceIte, Nat.reduceEqDiff, Nat.reduceLT, Nat.reduceLeDiff, Nat.reduceAdd, reduceCtorEq, Nat.reduceMul, e3, e2, l2]
      all_goals apply_assumption
      refine AW.ret ?_
      all_goals simp only [zs, reduceIte, Nat.reduceEqDiff, Nat.reduceLT, Nat.reduceLeDiff, Nat.reduceAdd, reduceCtorEq, Nat.reduceMul, qLoad, ok24, sz24, ag24, cut, List.drop_zero, List.take_succ_cons, List.take_zero, e2]
      exact .inl h0
    · rw [List.take_of_length_le hi]
      refine AW.seq_k fun K10 h10 => ?_
      all_goals refine AW.reg0 ?_
      all_goals (refine S.g rfl rfl fun K' k' => ?_; simp only [zz, reduceIte, Nat.reduceEqDiff, Nat.reduceAdd, e3, e2, l2]; refine k' _ _ ?_; clear k' K')
      all_goals (refine S.g rfl rfl fun K' k' => ?_; simp only [zz, reduceIte, Nat.reduceEqDiff, Nat.reduceLT, Nat.reduceLeDiff, Nat.reduceAdd, reduceCtorEq, Nat.reduceMul, zt24, pl24, e3, e2, l2]; refine k' _ _ ?_; clear k' K')
      all_goals (refine S.g rfl rfl fun K' k' => ?_; simp only [zz, reduceIte, Nat.reduceEqDiff, Nat.reduceLT, Nat.reduceLeDiff, Nat.reduceAdd, reduceCtorEq, Nat.reduceMul, ok24, sz24, ag24, e3, e2, l2]; refine k' _ _ ?_; clear k' K')
      all_goals refine S.nil ?_
      all_goals simp only [ze, reduceIte, Nat.reduceEqDiff, Nat.reduceLT, Nat.reduceLeDiff, Nat.reduceAdd, reduceCtorEq, Nat.reduceMul, e3, e2, l2]
      all_goals apply_assumption
      refine AW.ret ?_
      all_goals simp only [zs, reduceIte, Nat.reduceEqDiff, Nat.reduceLT, Nat.reduceLeDiff, Nat.reduceAdd, reduceCtorEq, Nat.reduceMul, qLoad, ok24, sz24, ag24, cut, List.drop_zero, List.take_succ_cons, List.take_zero, e2]
      exact .inr ⟨k, fun e => by subst e; simp at hm; omega, rfl, rfl⟩
end Go.Abs.M
namespace Go.Abs.M
open Go Go.Abs Go.Proofs
set_option maxRecDepth 20000
set_option linter.unusedSimpArgs false
set_option linter.unusedVariables false
def noPart : V := .tup [.agg [.sl []], .c (.bool false)]
/-- What Merge says, where 'p' is the two's bounds, sorted. -/
def mergeV (a b p : List Bd) : V := if partErr a ≠ 0 ∨ partErr b ≠ 0 then noPart else if partErr p ≠ 0 then noPart else .tup [.agg [.sl (p.map encBd)], .c (.bool true)]
theorem merge_gen (a b : List Bd) (ha : okP a) (hb : okP b) (hat : ∀ x ∈ a ++ b, x.ev.attrs.length * 48 ≤ 140737488355328) (G : List Bd → Prop) (hG : ∃ p, G p) (hne : a ++ b ≠ [])
    (hS : ¬ (partErr a ≠ 0 ∨ partErr b ≠ 0) → ∀ k, ACalls Try.prog 63 [.gl k, .fn (.func 64) [] []] (hpB k (a ++ b)) (fun v σ' => v = .tup [] ∧ ∃ p, okP p ∧ G p ∧ σ' = hpB k p)) :
    PCalls Try.prog 11 [.agg [.sl (a.map encBd)], .agg [.sl (b.map encBd)]] (fun v => ∃ p, G p ∧ v = mergeV a b p) := by
  refine PCalls.intro Try.call11 Try.func11 rfl Try.ntmps11 Try.results11 (by simp) ?_
  refine AW.seq_k fun K1 h1 => ?_
  all_goals refine AW.reg0 ?_
  all_goals iterate 4 (refine S.g rfl rfl fun K' k' => ?_; simp only [zz, reduceIte, Nat.reduceEqDiff, Nat.reduceLT, Nat.reduceLeDiff, Nat.reduceAdd, reduceCtorEq, Nat.reduceMul, ok24, sz24, ag24, zt24]; refine k' _ _ ?_; clear k' K')
  all_goals refine S.nil ?_
  all_goals simp only [ze, reduceIte, Nat.reduceEqDiff, Nat.reduceLT, Nat.reduceLeDiff, Nat.reduceAdd, reduceCtorEq, Nat.reduceMul]
  all_goals apply_assumption
  refine AW.seq_k fun K2 h2 => ?_
  refine AW.seq_j (fun s' σ' => σ' = Hp.empty ∧ s'.t 2 = .lp 2 0 ∧ s'.l 2 = some [.sl (a.map encBd)] ∧ s'.t 3 = .lp 3 0 ∧ s'.l 3 = some [.sl (b.map encBd)] ∧ s'.t 4 = .lp 4 0 ∧ s'.l 4 = some [.c (.slice none 0 0)] ∧ s'.t 14 = .c (.bool (decide (partErr a ≠ 0 ∨ partErr b ≠ 0)))) ?_ ?_
  · skip
    all_goals refine AW.reg0 ?_
    all_goals (refine S.g rfl rfl fun K' k' => ?_; simp only [zz, reduceIte, Nat.reduceEqDiff, Nat.reduceLT, Nat.reduceLeDiff, Nat.reduceAdd, reduceCtorEq, Nat.reduceMul, ok24, sz24, ag24]; refine k' _ _ ?_; clear k' K')
    all_goals (refine S.g rfl rfl fun K' k' => ?_; simp only [zz, reduceIte, Nat.reduceEqDiff, Nat.reduceLT, Nat.reduceLeDiff, Nat.reduceAdd, reduceCtorEq, Nat.reduceMul]; refine PCalls.eqto (check_part a ha) ?_ <;> (refine k' _ _ ?_; clear k' K'))
    all_goals (refine S.g rfl rfl fun K' k' => ?_; simp only [zz, reduceIte, Nat.reduceEqDiff, Nat.reduceLT, Nat.reduceLeDiff, Nat.reduceAdd, reduceCtorEq, Nat.reduceMul]; refine S.bool fun b a9 => ?_; cases b <;> (try (exfalso; first | exact Bool.noConfusion a9 | (have h := of_decide_eq_true a9; omega) | (have h := of_decide_eq_false a9; omega))) <;> (refine k' _ _ ?_; clear k' K'))
    all_goals (refine S.g rfl rfl fun K' k' => ?_; simp only [zz, reduceIte, Nat.reduceEqDiff, Nat.reduceAdd]; refine k' _ _ ?_; clear k' K')
    all_goals (first | (refine S.y rfl rfl rfl rfl fun K' k' => ?_; simp only [zz, reduceIte, Nat.reduceEqDiff, Nat.reduceLT, Nat.reduceLeDiff, Nat.reduceAdd, reduceCtorEq, Nat.reduceMul, ok24, sz24, ag24]; refine k' _ _ ?_; clear k' K') | ((first | refine S.x rfl rfl rfl rfl fun K' k' => ?_ | refine S.u rfl rfl rfl rfl fun K' k' => ?_); simp only [ze, reduceIte, Nat.reduceEqDiff]; refine k' _ _ ?_; clear k' K'))
    all_goals (first | (refine S.y rfl rfl rfl rfl fun K' k' => ?_; simp only [zz, reduceIte, Nat.reduceEqDiff, Nat.reduceLT, Nat.reduceLeDiff, Nat.reduceAdd, reduceCtorEq, Nat.reduceMul]; refine PCalls.eqto (check_part b hb) ?_ <;> (refine k' _ _ ?_; clear k' K')) | ((first | refine S.x rfl rfl rfl rfl fun K' k' => ?_ | refine S.u rfl rfl rfl rfl fun K' k' => ?_); simp only [ze, reduceIte, Nat.reduceEqDiff]; refine k' _ _ ?_; clear k' K'))
    all_goals (first | (refine S.y rfl rfl rfl rfl fun K' k' => ?_; simp only [zz, reduceIte, Nat.reduceEqDiff, Nat.reduceAdd]; refine k' _ _ ?_; clear k' K') | ((first | refine S.x rfl rfl rfl rfl fun K' k' => ?_ | refine S.u rfl rfl rfl rfl fun K' k' => ?_); simp only [ze, reduceIte, Nat.reduceEqDiff]; refine k' _ _ ?_; clear k' K'))
    all_goals (refine S.g rfl rfl fun K' k' => ?_; simp only [zz, reduceIte, Nat.reduceEqDiff, Nat.reduceAdd]; refine k' _ _ ?_; clear k' K')
    all_goals refine S.nil ?_
    all_goals simp only [ze, reduceIte, Nat.reduceEqDiff, Nat.reduceLT, Nat.reduceLeDiff, Nat.reduceAdd, reduceCtorEq, Nat.reduceMul]
    all_goals simp_all
    by_cases h0 : partErr b = 0 <;> simp [h0]
  rintro s σ ⟨rfl, e2, l2, e3, l3, e4, l4, e14⟩
  refine AW.cond (b := _) e14 (fun hc => ?_) (fun hc => ?_)
  · have hx := of_decide_eq_true hc
    refine AW.seq_k fun K3 h3 => ?_
    all_goals refine AW.reg0 ?_
    all_goals (refine S.g rfl rfl fun K' k' => ?_; simp only [zz, reduceIte, Nat.reduceEqDiff, Nat.reduceLT, Nat.reduceLeDiff, Nat.reduceAdd, reduceCtorEq, Nat.reduceMul, zt24, pl24, e4, l4]; refine k' _ _ ?_; clear k' K')
    all_goals iterate 2 (refine S.g rfl rfl fun K' k' => ?_; simp only [zz, reduceIte, Nat.reduceEqDiff, Nat.reduceLT, Nat.reduceLeDiff, Nat.reduceAdd, reduceCtorEq, Nat.reduceMul, ok24, sz24, ag24, e4, l4]; refine k' _ _ ?_; clear k' K')
    all_goals refine S.nil ?_
    all_goals simp only [ze, reduceIte, Nat.reduceEqDiff, Nat.reduceLT, Nat.reduceLeDiff, Nat.reduceAdd, reduceCtorEq, Nat.reduceMul, e4, l4]
    all_goals apply_assumption
    refine AW.ret ?_
    all_goals simp only [zs, reduceIte, Nat.reduceEqDiff, Nat.reduceLT, Nat.reduceLeDiff, Nat.reduceAdd, reduceCtorEq, Nat.reduceMul, qLoad, ok24, sz24, ag24, cut, List.drop_zero, List.take_succ_cons, List.take_zero, List.map, e4]
    obtain ⟨p0, hp0⟩ := hG
    refine ⟨p0, hp0, ?_⟩
    rw [mergeV, if_pos hx]; rfl
  · have hx := of_decide_eq_false hc
    refine AW.skip ?_
    all_goals simp only [zs, reduceIte, Nat.reduceEqDiff, Nat.reduceLT, Nat.reduceLeDiff, Nat.reduceAdd, reduceCtorEq, Nat.reduceMul]
    all_goals apply_assumption
    have hla : a.length ≤ 12 := by
      by_cases h : 12 < a.length
      · exact absurd (.inl (by simp [partErr, h])) hx
      · omega
    have hlb : b.length ≤ 12 := by
      by_cases h : 12 < b.length
      · exact absurd (.inr (by simp [partErr, h])) hx
      · omega
    have htot : tot [a, b] * 80 ≤ 140737488355328 := by simp only [tot, List.map_cons, List.map_nil, List.sum_cons, List.sum_nil]; omega
    have hlen : (a ++ b).length * 80 ≤ 140737488355328 := by rw [List.length_append]; omega
    have hfl : [a, b].flatten = a ++ b := by simp
    refine AW.seq_k fun K4 h4 => ?_
    all_goals refine AW.reg0 ?_
    all_goals iterate 4 (refine S.g rfl rfl fun K' k' => ?_; simp only [zz, reduceIte, Nat.reduceEqDiff, Nat.reduceLT, Nat.reduceLeDiff, Nat.reduceAdd, reduceCtorEq, Nat.reduceMul, of24_0, ok22, sz22, ag22, e2, l2, e3, l3, e4, l4, hfl]; refine k' _ _ ?_; clear k' K')
    all_goals (refine S.g rfl rfl fun K' k' => ?_; simp only [zb, reduceIte, Nat.reduceEqDiff, Nat.reduceLT, Nat.reduceLeDiff, Nat.reduceAdd, reduceCtorEq, Nat.reduceMul, sl132, el132, ok22, sz22, ag22, zt22, by22, e2, l2, e3, l3, e4, l4, hfl]; refine ⟨rfl, (by simp), ?_⟩ <;> (refine k' _ _ ?_; clear k' K'))
    all_goals (refine S.g rfl rfl fun K' k' => ?_; simp only [zz, reduceIte, Nat.reduceEqDiff, Nat.reduceLT, Nat.reduceLeDiff, Nat.reduceAdd, reduceCtorEq, Nat.reduceMul, e2, l2, e3, l3, e4, l4, hfl]; refine PCalls.eqto (concat_frozen [a, b] (by simp) (by simp) htot) ?_ <;> (refine k' _ _ ?_; clear k' K'))
    all_goals (refine S.g rfl rfl fun K' k' => ?_; simp only [zz, reduceIte, Nat.reduceEqDiff, Nat.reduceLT, Nat.reduceLeDiff, Nat.reduceAdd, reduceCtorEq, Nat.reduceMul, zt24, pl24, e2, l2, e3, l3, e4, l4, hfl]; refine k' _ _ ?_; clear k' K')
    all_goals (refine S.g rfl rfl fun K' k' => ?_; simp only [zz, reduceIte, Nat.reduceEqDiff, Nat.reduceLT, Nat.reduceLeDiff, Nat.reduceAdd, reduceCtorEq, Nat.reduceMul, e2, l2, e3, l3, e4, l4, hfl]; refine ((clone_grow (a ++ b) hat hlen).to fun v σ1 hv => ?_); obtain ⟨k, _, rfl, rfl⟩ := hv.resolve_left (fun h => hne h.1) <;> (refine k' _ _ ?_; clear k' K'))
    all_goals iterate 2 (refine S.g rfl rfl fun K' k' => ?_; simp only [zz, reduceIte, Nat.reduceEqDiff, Nat.reduceLT, Nat.reduceLeDiff, Nat.reduceAdd, reduceCtorEq, Nat.reduceMul, zt24, ok24, sz24, ag24, e2, l2, e3, l3, e4, l4, hfl]; refine k' _ _ ?_; clear k' K')
    all_goals refine S.nil ?_
    all_goals simp only [ze, reduceIte, Nat.reduceEqDiff, Nat.reduceLT, Nat.reduceLeDiff, Nat.reduceAdd, reduceCtorEq, Nat.reduceMul, e2, l2, e3, l3, e4, l4, hfl]
    all_goals apply_assumption
    refine AW.seq_k fun K5 h5 => ?_
    all_goals refine AW.reg0 ?_
    all_goals iterate 2 (refine S.g rfl rfl fun K' k' => ?_; simp only [zz, reduceIte, Nat.reduceEqDiff, Nat.reduceLT, Nat.reduceLeDiff, Nat.reduceAdd, reduceCtorEq, Nat.reduceMul, of24_0, ok22, sz22, ag22]; refine k' _ _ ?_; clear k' K')
    all_goals (refine S.g rfl rfl fun K' k' => ?_; simp only [zz, reduceIte, Nat.reduceEqDiff, Nat.reduceLT, Nat.reduceLeDiff, Nat.reduceAdd, reduceCtorEq, Nat.reduceMul]; refine (hS hx k).to fun v σ1 hv => ?_; obtain ⟨rfl, p, hpo, hgp, rfl⟩ := hv <;> (refine k' _ _ ?_; clear k' K'))
    all_goals refine S.nil ?_
    all_goals simp only [ze, reduceIte, Nat.reduceEqDiff, Nat.reduceLT, Nat.reduceLeDiff, Nat.reduceAdd, reduceCtorEq, Nat.reduceMul]
    all_goals apply_assumption
    refine AW.freeze (k := k) (T := (42, 6)) (es := p.map encBd) (by simp [hpB]) ?_
    have hem : (hpB k p).setGr k none = Hp.empty := by simp [hpB]
    rw [hem]
    refine AW.seq_j (fun s' σ' => σ' = Hp.empty ∧ s'.t 6 = .lp 6 0 ∧ s'.l 6 = some [.sl (p.map encBd)] ∧ s'.t 4 = .lp 4 0 ∧ s'.l 4 = some [.c (.slice none 0 0)] ∧ partErr p = 0) ?_ ?_
    · refine AW.seq_j (fun s' σ' => σ' = Hp.empty ∧ s'.t 6 = .lp 6 0 ∧ s'.l 6 = some [.sl (p.map encBd)] ∧ s'.t 4 = .lp 4 0 ∧ s'.l 4 = some [.c (.slice none 0 0)] ∧ s'.t 29 = .c (.bool (partErr p != 0))) ?_ ?_
      · skip
        all_goals refine AW.reg0 ?_
        all_goals (refine S.g rfl rfl fun K' k' => ?_; simp only [zz, reduceIte, Nat.reduceEqDiff, Nat.reduceLT, Nat.reduceLeDiff, Nat.reduceAdd, reduceCtorEq, Nat.reduceMul, ok24, sz24, ag24, St.fz_t, St.fz_l, fzV, fz1, Option.map_some, List.map, e4, l4]; refine k' _ _ ?_; clear k' K')
        all_goals (refine S.g rfl rfl fun K' k' => ?_; simp only [zz, reduceIte, Nat.reduceEqDiff, Nat.reduceLT, Nat.reduceLeDiff, Nat.reduceAdd, reduceCtorEq, Nat.reduceMul, St.fz_t, St.fz_l, fzV, fz1, Option.map_some, List.map, e4, l4]; refine PCalls.eqto (check_part p hpo) ?_ <;> (refine k' _ _ ?_; clear k' K'))
        all_goals (refine S.g rfl rfl fun K' k' => ?_; simp only [zz, reduceIte, Nat.reduceEqDiff, Nat.reduceAdd, St.fz_t, St.fz_l, fzV, fz1, Option.map_some, List.map, e4, l4]; refine k' _ _ ?_; clear k' K')
        all_goals refine S.nil ?_
        all_goals simp only [ze, reduceIte, Nat.reduceEqDiff, Nat.reduceLT, Nat.reduceLeDiff, Nat.reduceAdd, reduceCtorEq, Nat.reduceMul, St.fz_t, St.fz_l, fzV, fz1, Option.map_some, List.map, e4, l4]
      rintro s2 σ2 ⟨rfl, f6, k6, f4, k4, f29⟩
      refine AW.cond (b := partErr p != 0) f29 (fun hc2 => ?_) (fun hc2 => ?_)
      · have hy : partErr p ≠ 0 := by simpa using hc2
        refine AW.seq_k fun K6 h6 => ?_
        all_goals refine AW.reg0 ?_
        all_goals (refine S.g rfl rfl fun K' k' => ?_; simp only [zz, reduceIte, Nat.reduceEqDiff, Nat.reduceLT, Nat.reduceLeDiff, Nat.reduceAdd, reduceCtorEq, Nat.reduceMul, zt24, pl24, f4, k4]; refine k' _ _ ?_; clear k' K')
        all_goals iterate 2 (refine S.g rfl rfl fun K' k' => ?_; simp only [zz, reduceIte, Nat.reduceEqDiff, Nat.reduceLT, Nat.reduceLeDiff, Nat.reduceAdd, reduceCtorEq, Nat.reduceMul, ok24, sz24, ag24, f4, k4]; refine k' _ _ ?_; clear k' K')
        all_goals refine S.nil ?_
        all_goals simp only [ze, reduceIte, Nat.reduceEqDiff, Nat.reduceLT, Nat.reduceLeDiff, Nat.reduceAdd, reduceCtorEq, Nat.reduceMul, f4, k4]
        all_goals apply_assumption
        refine AW.ret ?_
        all_goals simp only [zs, reduceIte, Nat.reduceEqDiff, Nat.reduceLT, Nat.reduceLeDiff, Nat.reduceAdd, reduceCtorEq, Nat.reduceMul, qLoad, ok24, sz24, ag24, cut, List.drop_zero, List.take_succ_cons, List.take_zero, List.map, f4]
        refine ⟨p, hgp, ?_⟩
        rw [mergeV, if_neg hx, if_pos hy]; rfl
      · have hy : partErr p = 0 := by simpa using hc2
        refine AW.skip ?_
        all_goals simp only [zs, reduceIte, Nat.reduceEqDiff, Nat.reduceLT, Nat.reduceLeDiff, Nat.reduceAdd, reduceCtorEq, Nat.reduceMul]
        exact ⟨f6, k6, f4, k4, hy⟩
    rintro s2 σ2 ⟨rfl, f6, k6, f4, k4, hy⟩
    refine AW.seq_k fun K7 h7 => ?_
    all_goals refine AW.reg0 ?_
    all_goals iterate 3 (refine S.g rfl rfl fun K' k' => ?_; simp only [zz, reduceIte, Nat.reduceEqDiff, Nat.reduceLT, Nat.reduceLeDiff, Nat.reduceAdd, reduceCtorEq, Nat.reduceMul, ok24, sz24, ag24, f6, k6, f4, k4]; refine k' _ _ ?_; clear k' K')
    all_goals refine S.nil ?_
    all_goals simp only [ze, reduceIte, Nat.reduceEqDiff, Nat.reduceLT, Nat.reduceLeDiff, Nat.reduceAdd, reduceCtorEq, Nat.reduceMul, f6, k6, f4, k4]
    all_goals apply_assumption
    refine AW.ret ?_
    all_goals simp only [zs, reduceIte, Nat.reduceEqDiff, Nat.reduceLT, Nat.reduceLeDiff, Nat.reduceAdd, reduceCtorEq, Nat.reduceMul, qLoad, ok24, sz24, ag24, cut, List.drop_zero, List.take_succ_cons, List.take_zero, List.map, f4]
    refine ⟨p, hgp, ?_⟩
    rw [mergeV, if_neg hx, if_neg (fun e => e hy)]
end Go.Abs.M
namespace Go.Abs.M
open Go Go.Abs Go.Proofs
set_option maxRecDepth 20000
set_option linter.unusedSimpArgs false
set_option linter.unusedVariables false
/-- As many, and none that was not there. -/
def Sub (l0 l : List Bd) : Prop := l.length = l0.length ∧ ∀ x ∈ l, x ∈ l0
theorem Sub.refl (l : List Bd) : Sub l l := ⟨rfl, fun _ h => h⟩
theorem Sub.trans {a b c : List Bd} (h : Sub a b) (k : Sub b c) : Sub a c := ⟨k.1.trans h.1, fun x hx => h.2 x (k.2 x hx)⟩
theorem Sub.swap {l0 l : List Bd} {i j : Nat} {x y : Bd} (h : Sub l0 l) (hx : l[i]? = some x) (hy : l[j]? = some y) : Sub l0 ((l.set i y).set j x) := by
  refine ⟨by simp [h.1], fun z hz => ?_⟩
  rcases List.mem_or_eq_of_mem_set hz with hz | rfl
  · rcases List.mem_or_eq_of_mem_set hz with hz | rfl
    · exact h.2 z hz
    · exact h.2 _ (List.mem_of_getElem? hy)
  · exact h.2 _ (List.mem_of_getElem? hx)
def hpS (k : Nat) (l0 : List Bd) (v : V) (σ' : Hp) : Prop := v = .tup [] ∧ ∃ l', Sub l0 l' ∧ σ' = hpB k l'
theorem swapRange_weak (l0 : List Bd) (k a b n : Nat) (hab : a ≠ b) (ha : a + n ≤ l0.length) (hb : b + n ≤ l0.length) (hn : l0.length < 4611686018427387904) :
    ACalls Try.prog 159 [.gl k, .c (.int .i64 a), .c (.int .i64 b), .c (.int .i64 n), .fn (.func 64) [] []] (hpB k l0) (hpS k l0) := by
  refine ACalls.intro Try.call159 Try.func159 rfl Try.ntmps159 Try.results159 (by simp) ?_
  refine AW.seq_k fun K1 h1 => ?_
  all_goals refine AW.reg0 ?_
  all_goals (refine S.g rfl rfl fun K' k' => ?_; simp only [zz, reduceIte, Nat.reduceEqDiff, Nat.reduceAdd]; refine k' _ _ ?_; clear k' K')
  all_goals refine S.nil ?_
  all_goals simp only [ze, reduceIte, Nat.reduceEqDiff, Nat.reduceLT, Nat.reduceLeDiff, Nat.reduceAdd, reduceCtorEq, Nat.reduceMul]
  all_goals apply_assumption
  refine AW.block ?_   -- 0
  refine AW.loop (fun m s σ => ∃ i l', m + i = n ∧ s.t 0 = .gl k ∧ s.t 1 = .c (.int .i64 a) ∧ s.t 2 = .c (.int .i64 b) ∧ s.t 3 = .c (.int .i64 n) ∧ s.t 10 = .c (.int .i64 (i : Nat)) ∧
    σ = hpB k l' ∧ Sub l0 l') n ?_ ?_
  · refine ⟨0, l0, by omega, ?_⟩
    all_goals simp only [zs, reduceIte, Nat.reduceEqDiff, Nat.reduceLT, Nat.reduceLeDiff, Nat.reduceAdd, reduceCtorEq, Nat.reduceMul]
    exact ⟨rfl, Sub.refl _⟩
  rintro m s σ ⟨i, l', hm, e0, e1, e2, e3, e10, rfl, hl'⟩
  refine AW.seq_k fun K2 h2 => ?_
  refine AW.seq_k fun K3 h3 => ?_
  all_goals refine AW.reg0 ?_
  all_goals iterate 3 (refine S.g rfl rfl fun K' k' => ?_; simp only [zz, reduceIte, Nat.reduceEqDiff, Nat.reduceAdd, e10, e3]; refine k' _ _ ?_; clear k' K')
  all_goals refine S.nil ?_
  all_goals simp only [ze, reduceIte, Nat.reduceEqDiff, Nat.reduceLT, Nat.reduceLeDiff, Nat.reduceAdd, reduceCtorEq, Nat.reduceMul, e10, e3]
  all_goals apply_assumption
  refine AW.cond (b := decide (i < n)) (by simp [ev]) (fun hc => ?_) (fun hc => ?_)
  · refine AW.skip ?_
    all_goals simp only [zs, reduceIte, Nat.reduceEqDiff, Nat.reduceLT, Nat.reduceLeDiff, Nat.reduceAdd, reduceCtorEq, Nat.reduceMul]
    all_goals apply_assumption
    have hin : i < n := by simpa using hc
    have hj1 : a + i < l'.length := by rw [hl'.1]; omega
    have hj2 : b + i < l'.length := by rw [hl'.1]; omega
    have hg1 := getD_map (f := encBd) hj1
    have hg2 := getD_map (f := encBd) hj2
    have hx : l'[a+i]? = some l'[a+i] := List.getElem?_eq_getElem hj1
    have hy : l'[b+i]? = some l'[b+i] := List.getElem?_eq_getElem hj2
    generalize l'[a+i] = x at hg1 hx
    generalize l'[b+i] = y at hg2 hy
    have hsub := hl'.swap hx hy
    have hgs : ∀ v, ((l'.map encBd).set (a + i) v).getD (b + i) [] = encBd y := fun v => by
      rw [← hg2]; simp [List.getD, List.getElem?_set, hab]
    have hw1 : IntKind.i64.wrap ((a : Int) + i) = ((a + i : Nat) : Int) := by rw [wrap_small _ (by omega) (by omega)]; rfl
    have hw2 : IntKind.i64.wrap ((b : Int) + i) = ((b + i : Nat) : Int) := by rw [wrap_small _ (by omega) (by omega)]; rfl
    have hpb : hpB k l' = Hp.empty.setGr k (some ((42, 6), l'.map encBd)) := rfl
    rw [hpb]
    refine AW.seq_k fun K4 h4 => ?_
    refine AW.block ?_   -- 1
    refine AW.mono (Q := thenS (fun s' σ' => σ' = hpB k ((l'.set (a + i) y).set (b + i) x) ∧ s'.t 0 = .gl k ∧ s'.t 1 = .c (.int .i64 a) ∧ s'.t 2 = .c (.int .i64 b) ∧ s'.t 3 = .c (.int .i64 n) ∧ s'.t 10 = .c (.int .i64 (i : Nat))) (fun _ _ _ => False)) ?_ ?_
    · skip
      all_goals refine AW.draw2 (T := { sd := fun _ => false }) (fun _ _ h => by cases h) mixedO [(0, 0), (1, 0), (2, 0), (3, 0), (4, 0), (5, 0), (6, 0), (7, 0), (8, 0), (9, 0), (10, 0), (11, 0), (12, 0), (14, 0), (15, 0), (16, 0), (17, 0), (18, 0)] 13 19 [(20, 0), (21, 2), (22, 0), (23, 2)] #[true, true, true, true, true, true, true, true, true, true, true, true, true, false, true, true, true, true, true, false, false, false, false, false] rfl (by kernel_rfl) (by kernel_rfl) (by kernel_rfl) (by kernel_rfl) (by kernel_rfl) ?_
      all_goals iterate 18 (refine D.g rfl trivial rfl rfl fun K' k' => ?_; simp only [zz, reduceIte, Nat.reduceEqDiff, Nat.reduceLT, Nat.reduceLeDiff, Nat.reduceAdd, reduceCtorEq, Nat.reduceMul, sl22, el22, ok42, sz42, ag42, e0, e1, e2, e3, e10, hj1, hj2, hg1, hg2, hgs, hw1, hw2, encBd, List.length_set]; refine k' _ _ ?_; clear k' K')
      all_goals refine D.nil ⟨?_, ?_⟩
      all_goals iterate 6 (refine D.g rfl trivial rfl rfl fun K' k' => ?_; simp only [zz, reduceIte, Nat.reduceEqDiff, Nat.reduceLT, Nat.reduceLeDiff, Nat.reduceAdd, reduceCtorEq, Nat.reduceMul, ok42, sz42, ag42, sl22, el22, e0, e1, e2, e3, e10, hj1, hj2, hg1, hg2, hgs, hw1, hw2, encBd, List.length_set]; refine k' _ _ ?_; clear k' K')
      all_goals refine D.nil ?_
      all_goals simp only [ze, reduceIte, Nat.reduceEqDiff, Nat.reduceLT, Nat.reduceLeDiff, Nat.reduceAdd, reduceCtorEq, Nat.reduceMul, e0, e1, e2, e3, e10, hj1, hj2, hg1, hg2, hgs, hw1, hw2, encBd, List.length_set]
      all_goals simp [hpB, encBd, List.map_set]
    rintro e s4 σ4 hq
    cases e with
    | normal =>
      obtain ⟨rfl, q0, q1, q2, q3, q10⟩ := hq
      have hw : IntKind.i64.wrap ((i : Int) + 1) = ((i + 1 : Nat) : Int) := by rw [wrap_small _ (by omega) (by omega)]; rfl
      all_goals simp only [zs, reduceIte, Nat.reduceEqDiff, Nat.reduceLT, Nat.reduceLeDiff, Nat.reduceAdd, reduceCtorEq, Nat.reduceMul]
      all_goals apply_assumption
      all_goals refine AW.reg0 ?_
      all_goals iterate 3 (refine S.g rfl rfl fun K' k' => ?_; simp only [zz, reduceIte, Nat.reduceEqDiff, Nat.reduceAdd, q10, hw]; refine k' _ _ ?_; clear k' K')
      all_goals refine S.nil ?_
      all_goals simp only [ze, reduceIte, Nat.reduceEqDiff, Nat.reduceLT, Nat.reduceLeDiff, Nat.reduceAdd, reduceCtorEq, Nat.reduceMul, q10, hw]
      exact ⟨m - 1, by omega, i + 1, _, by omega, q0, q1, q2, q3, rfl, rfl, hsub⟩
    | _ => exact hq.elim
  · refine AW.exit ?_
    all_goals simp only [zs, reduceIte, Nat.reduceEqDiff, Nat.reduceLT, Nat.reduceLeDiff, Nat.reduceAdd, reduceCtorEq, Nat.reduceMul]
    exact ⟨rfl, l', hl', rfl⟩
theorem rotate_weak (l0 : List Bd) (k a m0 b : Nat) (ham : a < m0) (hmb : m0 < b) (hb : b ≤ l0.length) (hn : l0.length < 4611686018427387904) :
    ACalls Try.prog 147 [.gl k, .c (.int .i64 a), .c (.int .i64 m0), .c (.int .i64 b), .fn (.func 64) [] []] (hpB k l0) (hpS k l0) := by
  refine ACalls.intro Try.call147 Try.func147 rfl Try.ntmps147 Try.results147 (by simp) ?_
  have hw1 : IntKind.i64.wrap ((m0 : Int) - a) = ((m0 - a : Nat) : Int) := by rw [wrap_small _ (by omega) (by omega)]; omega
  have hw2 : IntKind.i64.wrap ((b : Int) - m0) = ((b - m0 : Nat) : Int) := by rw [wrap_small _ (by omega) (by omega)]; omega
  refine AW.seq_k fun K1 h1 => ?_
  all_goals refine AW.reg0 ?_
  all_goals iterate 4 (refine S.g rfl rfl fun K' k' => ?_; simp only [zz, reduceIte, Nat.reduceEqDiff, Nat.reduceAdd, hw1]; refine k' _ _ ?_; clear k' K')
  all_goals refine S.nil ?_
  all_goals simp only [ze, reduceIte, Nat.reduceEqDiff, Nat.reduceLT, Nat.reduceLeDiff, Nat.reduceAdd, reduceCtorEq, Nat.reduceMul, hw1]
  all_goals apply_assumption
  refine AW.seq_k fun K2 h2 => ?_
  all_goals refine AW.reg0 ?_
  all_goals iterate 4 (refine S.g rfl rfl fun K' k' => ?_; simp only [zz, reduceIte, Nat.reduceEqDiff, Nat.reduceAdd, hw2]; refine k' _ _ ?_; clear k' K')
  all_goals refine S.nil ?_
  all_goals simp only [ze, reduceIte, Nat.reduceEqDiff, Nat.reduceLT, Nat.reduceLeDiff, Nat.reduceAdd, reduceCtorEq, Nat.reduceMul, hw2]
  all_goals apply_assumption
  refine AW.seq_k fun K3 h3 => ?_
  refine AW.block ?_   -- 0
  refine AW.loop (fun m s σ => ∃ i j l', m = i + j ∧ 0 < i ∧ 0 < j ∧ i ≤ m0 ∧ m0 + j ≤ l0.length ∧ s.t 0 = .gl k ∧ s.t 2 = .c (.int .i64 m0) ∧ s.t 4 = .fn (.func 64) [] [] ∧ s.t 10 = .c (.int .i64 (i : Nat)) ∧ s.t 11 = .c (.int .i64 (j : Nat)) ∧
    σ = hpB k l' ∧ Sub l0 l') (m0 - a + (b - m0)) ?_ ?_
  · refine ⟨m0 - a, b - m0, l0, by omega, by omega, by omega, by omega, by omega, ?_⟩
    all_goals simp only [zs, reduceIte, Nat.reduceEqDiff, Nat.reduceLT, Nat.reduceLeDiff, Nat.reduceAdd, reduceCtorEq, Nat.reduceMul]
    exact ⟨rfl, fun _ h => h⟩
  rintro m s σ ⟨i, j, l', hm, hi0, hj0, him, hjm, e0, e2, e4, e10, e11, rfl, hl'⟩
  have hw3 : IntKind.i64.wrap ((m0 : Int) - i) = ((m0 - i : Nat) : Int) := by rw [wrap_small _ (by omega) (by omega)]; omega
  refine AW.seq_k fun K4 h4 => ?_
  refine AW.seq_k fun K5 h5 => ?_
  all_goals refine AW.reg0 ?_
  all_goals iterate 3 (refine S.g rfl rfl fun K' k' => ?_; simp only [zz, reduceIte, Nat.reduceEqDiff, Nat.reduceAdd, e10, e11]; refine k' _ _ ?_; clear k' K')
  all_goals refine S.nil ?_
  all_goals simp only [ze, reduceIte, Nat.reduceEqDiff, Nat.reduceLT, Nat.reduceLeDiff, Nat.reduceAdd, reduceCtorEq, Nat.reduceMul, e10, e11]
  all_goals apply_assumption
  refine AW.cond (b := (i : Int) != j) (by simp [ev]) (fun hc => ?_) (fun hc => ?_)
  · refine AW.skip ?_
    all_goals simp only [zs, reduceIte, Nat.reduceEqDiff, Nat.reduceLT, Nat.reduceLeDiff, Nat.reduceAdd, reduceCtorEq, Nat.reduceMul]
    all_goals apply_assumption
    refine AW.block ?_   -- 1
    refine AW.seq_k fun K6 h6 => ?_
    all_goals refine AW.reg0 ?_
    all_goals iterate 3 (refine S.g rfl rfl fun K' k' => ?_; simp only [zz, reduceIte, Nat.reduceEqDiff, Nat.reduceAdd, e10, e11]; refine k' _ _ ?_; clear k' K')
    all_goals refine S.nil ?_
    all_goals simp only [ze, reduceIte, Nat.reduceEqDiff, Nat.reduceLT, Nat.reduceLeDiff, Nat.reduceAdd, reduceCtorEq, Nat.reduceMul, e10, e11]
    all_goals apply_assumption
    refine AW.cond (b := decide ((i : Int) > j)) (by simp [ev]) (fun hd => ?_) (fun hd => ?_)
    · have hd := of_decide_eq_true hd
      have hw4 : IntKind.i64.wrap ((i : Int) - j) = ((i - j : Nat) : Int) := by rw [wrap_small _ (by omega) (by omega)]; omega
      refine AW.seq_k fun K7 h7 => ?_
      all_goals refine AW.reg0 ?_
      all_goals iterate 7 (refine S.g rfl rfl fun K' k' => ?_; simp only [zz, reduceIte, Nat.reduceEqDiff, Nat.reduceAdd, e0, e2, e4, e10, e11, hw3]; refine k' _ _ ?_; clear k' K')
      all_goals (refine S.g rfl rfl fun K' k' => ?_; simp only [zz, reduceIte, Nat.reduceEqDiff, Nat.reduceLT, Nat.reduceLeDiff, Nat.reduceAdd, reduceCtorEq, Nat.reduceMul, e0, e2, e4, e10, e11, hw3]; refine (swapRange_weak l' k (m0 - i) m0 j (by omega) (by rw [hl'.1]; omega) (by rw [hl'.1]; omega) (by rw [hl'.1]; omega)).to fun v σ1 hv => ?_; obtain ⟨rfl, l2, hl2, rfl⟩ := hv <;> (refine k' _ _ ?_; clear k' K'))
      all_goals refine S.nil ?_
      all_goals simp only [ze, reduceIte, Nat.reduceEqDiff, Nat.reduceLT, Nat.reduceLeDiff, Nat.reduceAdd, reduceCtorEq, Nat.reduceMul, e0, e2, e4, e10, e11, hw3]
      all_goals apply_assumption
      all_goals refine AW.reg0 ?_
      all_goals iterate 4 (refine S.g rfl rfl fun K' k' => ?_; simp only [zz, reduceIte, Nat.reduceEqDiff, Nat.reduceAdd, e10, e11, hw4]; refine k' _ _ ?_; clear k' K')
      all_goals refine S.nil ?_
      all_goals simp only [ze, reduceIte, Nat.reduceEqDiff, Nat.reduceLT, Nat.reduceLeDiff, Nat.reduceAdd, reduceCtorEq, Nat.reduceMul, e10, e11, hw4]
      exact ⟨m - j, by omega, i - j, j, l2, by omega, by omega, by omega, by omega, by omega, e0, e2, e4, rfl, rfl, rfl, hl'.trans hl2⟩
    · have hd := of_decide_eq_false hd
      have hne : i ≠ j := fun e => by subst e; simp at hc
      have hw5 : IntKind.i64.wrap ((m0 : Int) + j) = ((m0 + j : Nat) : Int) := by rw [wrap_small _ (by omega) (by omega)]; rfl
      have hw6 : IntKind.i64.wrap (((m0 + j : Nat) : Int) - i) = ((m0 + j - i : Nat) : Int) := by rw [wrap_small _ (by omega) (by omega)]; omega
      have hw4 : IntKind.i64.wrap ((j : Int) - i) = ((j - i : Nat) : Int) := by rw [wrap_small _ (by omega) (by omega)]; omega
      refine AW.seq_k fun K8 h8 => ?_
      all_goals refine AW.reg0 ?_
      all_goals iterate 11 (refine S.g rfl rfl fun K' k' => ?_; simp only [zz, reduceIte, Nat.reduceEqDiff, Nat.reduceAdd, e0, e2, e4, e10, e11, hw3, hw5, hw6]; refine k' _ _ ?_; clear k' K')
      all_goals (refine S.g rfl rfl fun K' k' => ?_; simp only [zz, reduceIte, Nat.reduceEqDiff, Nat.reduceLT, Nat.reduceLeDiff, Nat.reduceAdd, reduceCtorEq, Nat.reduceMul, e0, e2, e4, e10, e11, hw3, hw5, hw6]; refine (swapRange_weak l' k (m0 - i) (m0 + j - i) i (by omega) (by rw [hl'.1]; omega) (by rw [hl'.1]; omega) (by rw [hl'.1]; omega)).to fun v σ1 hv => ?_; obtain ⟨rfl, l2, hl2, rfl⟩ := hv <;> (refine k' _ _ ?_; clear k' K'))
      all_goals refine S.nil ?_
      all_goals simp only [ze, reduceIte, Nat.reduceEqDiff, Nat.reduceLT, Nat.reduceLeDiff, Nat.reduceAdd, reduceCtorEq, Nat.reduceMul, e0, e2, e4, e10, e11, hw3, hw5, hw6]
      all_goals apply_assumption
      all_goals refine AW.reg0 ?_
      all_goals iterate 4 (refine S.g rfl rfl fun K' k' => ?_; simp only [zz, reduceIte, Nat.reduceEqDiff, Nat.reduceAdd, e10, e11, hw4]; refine k' _ _ ?_; clear k' K')
      all_goals refine S.nil ?_
      all_goals simp only [ze, reduceIte, Nat.reduceEqDiff, Nat.reduceLT, Nat.reduceLeDiff, Nat.reduceAdd, reduceCtorEq, Nat.reduceMul, e10, e11, hw4]
      exact ⟨m - i, by omega, i, j - i, l2, by omega, by omega, by omega, by omega, by omega, e0, e2, e4, rfl, rfl, rfl, hl'.trans hl2⟩
  · refine AW.exit ?_
    all_goals simp only [zs, reduceIte, Nat.reduceEqDiff, Nat.reduceLT, Nat.reduceLeDiff, Nat.reduceAdd, reduceCtorEq, Nat.reduceMul]
    all_goals apply_assumption
    have hij : (i : Int) = j := by simpa using hc
    have hij : i = j := by omega
    all_goals refine AW.reg0 ?_
    all_goals iterate 7 (refine S.g rfl rfl fun K' k' => ?_; simp only [zz, reduceIte, Nat.reduceEqDiff, Nat.reduceAdd, e0, e2, e4, e10, hw3]; refine k' _ _ ?_; clear k' K')
    all_goals (refine S.g rfl rfl fun K' k' => ?_; simp only [zz, reduceIte, Nat.reduceEqDiff, Nat.reduceLT, Nat.reduceLeDiff, Nat.reduceAdd, reduceCtorEq, Nat.reduceMul, e0, e2, e4, e10, hw3]; refine (swapRange_weak l' k (m0 - i) m0 i (by omega) (by rw [hl'.1]; omega) (by rw [hl'.1]; omega) (by rw [hl'.1]; omega)).to fun v σ1 hv => ?_; obtain ⟨rfl, l2, hl2, rfl⟩ := hv <;> (refine k' _ _ ?_; clear k' K'))
    all_goals refine S.nil ?_
    all_goals simp only [ze, reduceIte, Nat.reduceEqDiff, Nat.reduceLT, Nat.reduceLeDiff, Nat.reduceAdd, reduceCtorEq, Nat.reduceMul, e0, e2, e4, e10, hw3]
    exact ⟨rfl, l2, hl'.trans hl2, rfl⟩
end Go.Abs.M
namespace Go.Abs.M
open Go Go.Abs Go.Proofs
set_option maxRecDepth 20000
set_option linter.unusedSimpArgs false
set_option linter.unusedVariables false
theorem half_u (n : Nat) (h : n < 9223372036854775808) : IntKind.u64.wrap (n : Int) = (n : Int) := by
  simp [IntKind.wrap, IntKind.signed, IntKind.bits]; omega
theorem half_s (n : Nat) : (n : Int).fdiv (2 ^ (min (Int.toNat 1) IntKind.u64.bits)) = ((n / 2 : Nat) : Int) := by
  have : (n : Int).fdiv 2 = (n : Int) / 2 := Int.fdiv_eq_ediv_of_nonneg _ (by decide)
  simp [IntKind.bits, this]
theorem get_bd {l : List Bd} {i : Nat} (h : i < l.length) : ∃ x, l[i]? = some x ∧ (l.map encBd).getD i [] = encBd x := ⟨l[i], List.getElem?_eq_getElem h, getD_map h⟩
theorem sym_one (l0 : List Bd) (k a m0 b : Nat) (ham : a + 1 = m0) (hmb : m0 < b) (hb : b ≤ l0.length) (hn : l0.length < 2147483648) :
    ACalls Try.prog 129 [.gl k, .c (.int .i64 a), .c (.int .i64 m0), .c (.int .i64 b), .fn (.func 64) [] []] (hpB k l0) (hpS k l0) := by
  refine ACalls.intro Try.call129 Try.func129 rfl Try.ntmps129 Try.results129 (by simp) ?_
  have hw1 : IntKind.i64.wrap ((m0 : Int) - a) = 1 := by rw [wrap_small _ (by omega) (by omega)]; omega
  refine AW.seq_k fun K1 h1 => ?_
  refine AW.seq_k fun K2 h2 => ?_
  all_goals refine AW.reg0 ?_
  all_goals iterate 4 (refine S.g rfl rfl fun K' k' => ?_; simp only [zz, reduceIte, Nat.reduceEqDiff, Nat.reduceAdd, hw1]; refine k' _ _ ?_; clear k' K')
  all_goals refine S.nil ?_
  all_goals simp only [ze, reduceIte, Nat.reduceEqDiff, Nat.reduceLT, Nat.reduceLeDiff, Nat.reduceAdd, reduceCtorEq, Nat.reduceMul, hw1]
  all_goals apply_assumption
  refine AW.cond (b := true) (by simp [ev]) (fun hc => ?_) (fun hc => by cases hc)
  refine AW.seq_k fun K3 h3 => ?_
  all_goals refine AW.reg0 ?_
  all_goals iterate 2 (refine S.g rfl rfl fun K' k' => ?_; simp only [zz, reduceIte, Nat.reduceEqDiff, Nat.reduceAdd]; refine k' _ _ ?_; clear k' K')
  all_goals refine S.nil ?_
  all_goals simp only [ze, reduceIte, Nat.reduceEqDiff, Nat.reduceLT, Nat.reduceLeDiff, Nat.reduceAdd, reduceCtorEq, Nat.reduceMul]
  all_goals apply_assumption
  refine AW.seq_k fun K4 h4 => ?_
  all_goals refine AW.reg0 ?_
  all_goals iterate 2 (refine S.g rfl rfl fun K' k' => ?_; simp only [zz, reduceIte, Nat.reduceEqDiff, Nat.reduceAdd]; refine k' _ _ ?_; clear k' K')
  all_goals refine S.nil ?_
  all_goals simp only [ze, reduceIte, Nat.reduceEqDiff, Nat.reduceLT, Nat.reduceLeDiff, Nat.reduceAdd, reduceCtorEq, Nat.reduceMul]
  all_goals apply_assumption
  refine AW.seq_j (fun s σ => ∃ i l', m0 ≤ i ∧ i ≤ b ∧ s.t 0 = .gl k ∧ s.t 1 = .c (.int .i64 a) ∧ s.t 10 = .c (.int .i64 (i : Nat)) ∧ σ = hpB k l' ∧ Sub l0 l') ?_ ?_
  · refine AW.block ?_   -- 0
    refine AW.loop (fun m s σ => ∃ i j, m = j - i ∧ m0 ≤ i ∧ i ≤ j ∧ j ≤ b ∧ s.t 0 = .gl k ∧ s.t 1 = .c (.int .i64 a) ∧ s.t 4 = .fn (.func 64) [] [] ∧ s.t 10 = .c (.int .i64 (i : Nat)) ∧ s.t 11 = .c (.int .i64 (j : Nat)) ∧ σ = hpB k l0) (b - m0) ?_ ?_
    · refine ⟨m0, b, rfl, by omega, by omega, by omega, ?_⟩
      all_goals simp only [zs, reduceIte, Nat.reduceEqDiff, Nat.reduceLT, Nat.reduceLeDiff, Nat.reduceAdd, reduceCtorEq, Nat.reduceMul]
    rintro m s σ ⟨i, j, hm, hi, hij, hj, e0, e1, e4, e10, e11, rfl⟩
    refine AW.seq_k fun K5 h5 => ?_
    refine AW.seq_k fun K6 h6 => ?_
    all_goals refine AW.reg0 ?_
    all_goals iterate 3 (refine S.g rfl rfl fun K' k' => ?_; simp only [zz, reduceIte, Nat.reduceEqDiff, Nat.reduceAdd, e10, e11]; refine k' _ _ ?_; clear k' K')
    all_goals refine S.nil ?_
    all_goals simp only [ze, reduceIte, Nat.reduceEqDiff, Nat.reduceLT, Nat.reduceLeDiff, Nat.reduceAdd, reduceCtorEq, Nat.reduceMul, e10, e11]
    all_goals apply_assumption
    refine AW.cond (b := decide (i < j)) (by simp [ev]) (fun hc => ?_) (fun hc => ?_)
    · refine AW.skip ?_
      all_goals simp only [zs, reduceIte, Nat.reduceEqDiff, Nat.reduceLT, Nat.reduceLeDiff, Nat.reduceAdd, reduceCtorEq, Nat.reduceMul]
      all_goals apply_assumption
      have hc := of_decide_eq_true hc
      have hw2 : IntKind.i64.wrap ((i : Int) + j) = ((i + j : Nat) : Int) := by rw [wrap_small _ (by omega) (by omega)]; rfl
      have hu := half_u (i + j) (by omega)
      have hs := half_s (i + j)
      have hw3 : IntKind.i64.wrap (((i + j) / 2 : Nat) : Int) = (((i + j) / 2 : Nat) : Int) := wrap_small _ (by omega) (by omega)
      have hh1 : i ≤ (i + j) / 2 := by omega
      have hh2 : (i + j) / 2 < j := by omega
      generalize (i + j) / 2 = h at *
      refine AW.block ?_   -- 1
      refine AW.seq_k fun K7 h7 => ?_
      all_goals refine AW.reg0 ?_
      all_goals iterate 7 (refine S.g rfl rfl fun K' k' => ?_; simp only [zz, reduceIte, Nat.reduceEqDiff, Nat.reduceAdd, cv3_130, cv130_3, e10, e11, hw2, hu, hs, hw3, Int.reduceLE]; refine k' _ _ ?_; clear k' K')
      all_goals refine S.nil ?_
      all_goals simp only [ze, reduceIte, Nat.reduceEqDiff, Nat.reduceLT, Nat.reduceLeDiff, Nat.reduceAdd, reduceCtorEq, Nat.reduceMul, e10, e11, hw2, hu, hs, hw3, Int.reduceLE]
      all_goals apply_assumption
      have hpb : (hpB k l0).gr k = some ((42, 6), l0.map encBd) := by simp [hpB]
      have hj1 : h < l0.length := by omega
      have hj2 : a < l0.length := by omega
      obtain ⟨x, hx, hg1⟩ := get_bd hj1
      obtain ⟨y, hy, hg2⟩ := get_bd hj2
      have hw4 : IntKind.i64.wrap ((h : Int) + 1) = ((h + 1 : Nat) : Int) := by rw [wrap_small _ (by omega) (by omega)]; rfl
      generalize hsg : hpB k l0 = σ0 at hpb ⊢
      refine AW.seq_j (fun s' σ' => σ' = σ0 ∧ s'.t 0 = .gl k ∧ s'.t 1 = .c (.int .i64 a) ∧ s'.t 4 = .fn (.func 64) [] [] ∧ s'.t 10 = .c (.int .i64 (i : Nat)) ∧ s'.t 11 = .c (.int .i64 (j : Nat)) ∧ s'.t 12 = .c (.int .i64 (h : Nat)) ∧ ∃ b, s'.t 50 = .c (.bool b)) ?_ ?_
      · skip
        all_goals refine AW.draw2 (T := { sd := fun _ => false }) (fun _ _ h => by cases h) mixedO [(0, 0), (1, 0), (2, 0), (3, 0), (5, 0), (6, 0), (7, 0)] 4 8 [(9, 2), (10, 0)] #[true, true, true, true, false, true, true, true, false, false, false] rfl (by kernel_rfl) (by kernel_rfl) (by kernel_rfl) (by kernel_rfl) (by kernel_rfl) ?_
        all_goals iterate 7 (refine D.g rfl trivial rfl rfl fun K' k' => ?_; simp only [zz, reduceIte, Nat.reduceEqDiff, Nat.reduceLT, Nat.reduceLeDiff, Nat.reduceAdd, reduceCtorEq, Nat.reduceMul, sl22, el22, ok42, sz42, ag42, e0, e1, e4, hpb, hj1, hj2, hg1, hg2, encBd]; refine k' _ _ ?_; clear k' K')
        all_goals refine D.nil ⟨?_, ?_⟩
        all_goals iterate 2 (refine D.g rfl trivial rfl rfl fun K' k' => ?_; simp only [zz, reduceIte, Nat.reduceEqDiff, Nat.reduceLT, Nat.reduceLeDiff, Nat.reduceAdd, reduceCtorEq, Nat.reduceMul, ok42, sz42, ag42, e0, e1, e4, hpb, hj1, hj2, hg1, hg2, encBd]; refine k' _ _ ?_; clear k' K')
        all_goals (refine D.g rfl trivial rfl rfl fun K' k' => ?_; simp only [zz, reduceIte, Nat.reduceEqDiff, Nat.reduceLT, Nat.reduceLeDiff, Nat.reduceAdd, reduceCtorEq, Nat.reduceMul, e0, e1, e4, hpb, hj1, hj2, hg1, hg2, encBd]; refine PCalls.eqto (less_spec x y) ?_ <;> (refine k' _ _ ?_; clear k' K'))
        all_goals (refine D.g rfl trivial rfl rfl fun K' k' => ?_; simp only [zz, reduceIte, Nat.reduceEqDiff, Nat.reduceAdd, e0, e1, e4, hpb, hj1, hj2, hg1, hg2, encBd]; refine k' _ _ ?_; clear k' K')
        all_goals refine D.nil ?_
        all_goals simp only [ze, reduceIte, Nat.reduceEqDiff, Nat.reduceLT, Nat.reduceLeDiff, Nat.reduceAdd, reduceCtorEq, Nat.reduceMul, e0, e1, e4, hpb, hj1, hj2, hg1, hg2, encBd]
        all_goals exact ⟨e10, e11, _, rfl⟩
      rintro s3 σ3 ⟨rfl, g0, g1, g4, g10, g11, g12, b2, g50⟩
      refine AW.cond (b := b2) g50 (fun hd => ?_) (fun hd => ?_)
      · skip
        all_goals refine AW.reg0 ?_
        all_goals iterate 3 (refine S.g rfl rfl fun K' k' => ?_; simp only [zz, reduceIte, Nat.reduceEqDiff, Nat.reduceAdd, g12, hw4]; refine k' _ _ ?_; clear k' K')
        all_goals refine S.nil ?_
        all_goals simp only [ze, reduceIte, Nat.reduceEqDiff, Nat.reduceLT, Nat.reduceLeDiff, Nat.reduceAdd, reduceCtorEq, Nat.reduceMul, g12, hw4]
        exact ⟨j - (h + 1), by omega, h + 1, j, rfl, by omega, by omega, hj, g0, g1, g4, rfl, g11⟩
      · skip
        all_goals refine AW.reg0 ?_
        all_goals iterate 2 (refine S.g rfl rfl fun K' k' => ?_; simp only [zz, reduceIte, Nat.reduceEqDiff, Nat.reduceAdd, g12]; refine k' _ _ ?_; clear k' K')
        all_goals refine S.nil ?_
        all_goals simp only [ze, reduceIte, Nat.reduceEqDiff, Nat.reduceLT, Nat.reduceLeDiff, Nat.reduceAdd, reduceCtorEq, Nat.reduceMul, g12]
        exact ⟨h - i, by omega, i, h, rfl, by omega, by omega, by omega, g0, g1, g4, g10, rfl⟩
    · refine AW.exit ?_
      all_goals simp only [zs, reduceIte, Nat.reduceEqDiff, Nat.reduceLT, Nat.reduceLeDiff, Nat.reduceAdd, reduceCtorEq, Nat.reduceMul]
      have hc := of_decide_eq_false hc
      exact ⟨i, l0, hi, by omega, e0, e1, e10, rfl, Sub.refl _⟩
  rintro s1 σ1 ⟨i, l1, hi, hib, f0, f1, f10, rfl, hs1⟩
  refine AW.seq_k fun K8 h8 => ?_
  refine AW.seq_k fun K9 h9 => ?_
  all_goals refine AW.reg0 ?_
  all_goals iterate 2 (refine S.g rfl rfl fun K' k' => ?_; simp only [zz, reduceIte, Nat.reduceEqDiff, Nat.reduceAdd, f1]; refine k' _ _ ?_; clear k' K')
  all_goals refine S.nil ?_
  all_goals simp only [ze, reduceIte, Nat.reduceEqDiff, Nat.reduceLT, Nat.reduceLeDiff, Nat.reduceAdd, reduceCtorEq, Nat.reduceMul, f1]
  all_goals apply_assumption
  have hw5 : IntKind.i64.wrap ((i : Int) - 1) = ((i - 1 : Nat) : Int) := by rw [wrap_small _ (by omega) (by omega)]; omega
  refine AW.block ?_   -- 2
  refine AW.loop (fun m s σ => ∃ q l', m + q = i - 1 ∧ a ≤ q ∧ s.t 0 = .gl k ∧ s.t 10 = .c (.int .i64 (i : Nat)) ∧ s.t 13 = .c (.int .i64 (q : Nat)) ∧ σ = hpB k l' ∧ Sub l0 l') (i - 1 - a) ?_ ?_
  · refine ⟨a, l1, by omega, by omega, ?_⟩
    all_goals simp only [zs, reduceIte, Nat.reduceEqDiff, Nat.reduceLT, Nat.reduceLeDiff, Nat.reduceAdd, reduceCtorEq, Nat.reduceMul]
    exact ⟨f0, f10, hs1⟩
  rintro m s σ ⟨q, l', hm, hq, e0, e10, e13, rfl, hs⟩
  refine AW.seq_k fun K10 h10 => ?_
  refine AW.seq_k fun K11 h11 => ?_
  all_goals refine AW.reg0 ?_
  all_goals iterate 4 (refine S.g rfl rfl fun K' k' => ?_; simp only [zz, reduceIte, Nat.reduceEqDiff, Nat.reduceAdd, e10, e13, hw5]; refine k' _ _ ?_; clear k' K')
  all_goals refine S.nil ?_
  all_goals simp only [ze, reduceIte, Nat.reduceEqDiff, Nat.reduceLT, Nat.reduceLeDiff, Nat.reduceAdd, reduceCtorEq, Nat.reduceMul, e10, e13, hw5]
  all_goals apply_assumption
  refine AW.cond (b := decide (q < i - 1)) (by simp [ev]) (fun hc => ?_) (fun hc => ?_)
  · refine AW.skip ?_
    all_goals simp only [zs, reduceIte, Nat.reduceEqDiff, Nat.reduceLT, Nat.reduceLeDiff, Nat.reduceAdd, reduceCtorEq, Nat.reduceMul]
    all_goals apply_assumption
    have hc := of_decide_eq_true hc
    have hw : IntKind.i64.wrap ((q : Int) + 1) = ((q + 1 : Nat) : Int) := by rw [wrap_small _ (by omega) (by omega)]; rfl
    have hl1 := hs.1
    have hj1 : q < l'.length := by omega
    have hj2 : q + 1 < l'.length := by omega
    obtain ⟨x, hx, hg1⟩ := get_bd hj1
    obtain ⟨y, hy, hg2⟩ := get_bd hj2
    have hsub := hs.swap hx hy
    have hgs : ∀ v, ((l'.map encBd).set q v).getD (q + 1) [] = encBd y := fun v => by
      rw [← hg2]; simp [List.getD, List.getElem?_set]
    have hpb : hpB k l' = Hp.empty.setGr k (some ((42, 6), l'.map encBd)) := rfl
    rw [hpb]
    refine AW.seq_k fun K12 h12 => ?_
    refine AW.block ?_   -- 3
    refine AW.mono (Q := thenS (fun s' σ' => σ' = hpB k ((l'.set q y).set (q + 1) x) ∧ s'.t 0 = .gl k ∧ s'.t 10 = .c (.int .i64 (i : Nat)) ∧ s'.t 13 = .c (.int .i64 (q : Nat))) (fun _ _ _ => False)) ?_ ?_
    · skip
      all_goals refine AW.draw2 (T := { sd := fun _ => false }) (fun _ _ h => by cases h) mixedO [(0, 0), (1, 0), (2, 0), (3, 0), (4, 0), (5, 0), (6, 0), (7, 0), (8, 0), (10, 0), (11, 0), (12, 0)] 9 13 [(14, 0), (15, 2), (16, 0), (17, 2)] #[true, true, true, true, true, true, true, true, true, false, true, true, true, false, false, false, false, false] rfl (by kernel_rfl) (by kernel_rfl) (by kernel_rfl) (by kernel_rfl) (by kernel_rfl) ?_
      all_goals iterate 12 (refine D.g rfl trivial rfl rfl fun K' k' => ?_; simp only [zz, reduceIte, Nat.reduceEqDiff, Nat.reduceLT, Nat.reduceLeDiff, Nat.reduceAdd, reduceCtorEq, Nat.reduceMul, sl22, el22, ok42, sz42, ag42, e0, e10, e13, hj1, hj2, hg1, hg2, hgs, hw, encBd, List.length_set]; refine k' _ _ ?_; clear k' K')
      all_goals refine D.nil ⟨?_, ?_⟩
      all_goals iterate 6 (refine D.g rfl trivial rfl rfl fun K' k' => ?_; simp only [zz, reduceIte, Nat.reduceEqDiff, Nat.reduceLT, Nat.reduceLeDiff, Nat.reduceAdd, reduceCtorEq, Nat.reduceMul, ok42, sz42, ag42, sl22, el22, e0, e10, e13, hj1, hj2, hg1, hg2, hgs, hw, encBd, List.length_set]; refine k' _ _ ?_; clear k' K')
      all_goals refine D.nil ?_
      all_goals simp only [ze, reduceIte, Nat.reduceEqDiff, Nat.reduceLT, Nat.reduceLeDiff, Nat.reduceAdd, reduceCtorEq, Nat.reduceMul, e0, e10, e13, hj1, hj2, hg1, hg2, hgs, hw, encBd, List.length_set]
      all_goals simp [hpB, encBd, List.map_set]
    rintro e s4 σ4 hq
    cases e with
    | normal =>
      obtain ⟨rfl, q0, q10, q13⟩ := hq
      all_goals simp only [zs, reduceIte, Nat.reduceEqDiff, Nat.reduceLT, Nat.reduceLeDiff, Nat.reduceAdd, reduceCtorEq, Nat.reduceMul]
      all_goals apply_assumption
      all_goals refine AW.reg0 ?_
      all_goals iterate 3 (refine S.g rfl rfl fun K' k' => ?_; simp only [zz, reduceIte, Nat.reduceEqDiff, Nat.reduceAdd, q13, hw]; refine k' _ _ ?_; clear k' K')
      all_goals refine S.nil ?_
      all_goals simp only [ze, reduceIte, Nat.reduceEqDiff, Nat.reduceLT, Nat.reduceLeDiff, Nat.reduceAdd, reduceCtorEq, Nat.reduceMul, q13, hw]
      exact ⟨m - 1, by omega, q + 1, _, by omega, by omega, q0, q10, rfl, rfl, hsub⟩
    | _ => exact hq.elim
  · refine AW.exit ?_
    all_goals simp only [zs, reduceIte, Nat.reduceEqDiff, Nat.reduceLT, Nat.reduceLeDiff, Nat.reduceAdd, reduceCtorEq, Nat.reduceMul]
    all_goals apply_assumption
    refine AW.ret ?_
    all_goals simp only [zs, reduceIte, Nat.reduceEqDiff, Nat.reduceLT, Nat.reduceLeDiff, Nat.reduceAdd, reduceCtorEq, Nat.reduceMul]
    exact ⟨rfl, l', hs, rfl⟩
end Go.Abs.M
namespace Go.Abs.M
open Go Go.Abs Go.Proofs
set_option maxRecDepth 20000
set_option linter.unusedSimpArgs false
set_option linter.unusedVariables false
theorem sym_two (l0 : List Bd) (k a m0 b : Nat) (ham : a + 1 < m0) (hmb : m0 + 1 = b) (hb : b ≤ l0.length) (hn : l0.length < 2147483648) :
    ACalls Try.prog 129 [.gl k, .c (.int .i64 a), .c (.int .i64 m0), .c (.int .i64 b), .fn (.func 64) [] []] (hpB k l0) (hpS k l0) := by
  refine ACalls.intro Try.call129 Try.func129 rfl Try.ntmps129 Try.results129 (by simp) ?_
  have hw1 : IntKind.i64.wrap ((m0 : Int) - a) = ((m0 - a : Nat) : Int) := by rw [wrap_small _ (by omega) (by omega)]; omega
  have hw2 : IntKind.i64.wrap ((b : Int) - m0) = 1 := by rw [wrap_small _ (by omega) (by omega)]; omega
  have h1 : (((m0 - a : Nat) : Int) == 1) = false := by simp; omega
  refine AW.seq_k fun K1 h1 => ?_
  refine AW.seq_k fun K2 h2 => ?_
  all_goals refine AW.reg0 ?_
  all_goals iterate 4 (refine S.g rfl rfl fun K' k' => ?_; simp only [zz, reduceIte, Nat.reduceEqDiff, Nat.reduceAdd, hw1, h1]; refine k' _ _ ?_; clear k' K')
  all_goals refine S.nil ?_
  all_goals simp only [ze, reduceIte, Nat.reduceEqDiff, Nat.reduceLT, Nat.reduceLeDiff, Nat.reduceAdd, reduceCtorEq, Nat.reduceMul, hw1, h1]
  all_goals apply_assumption
  refine AW.cond (b := false) (by simp [ev]; try omega) (fun hc => by cases hc) (fun hc => AW.skip ?_)
  all_goals simp only [zs, reduceIte, Nat.reduceEqDiff, Nat.reduceLT, Nat.reduceLeDiff, Nat.reduceAdd, reduceCtorEq, Nat.reduceMul]
  all_goals apply_assumption
  refine AW.seq_k fun K3 h3 => ?_
  refine AW.seq_k fun K4 h4 => ?_
  all_goals refine AW.reg0 ?_
  all_goals iterate 4 (refine S.g rfl rfl fun K' k' => ?_; simp only [zz, reduceIte, Nat.reduceEqDiff, Nat.reduceAdd, hw2]; refine k' _ _ ?_; clear k' K')
  all_goals refine S.nil ?_
  all_goals simp only [ze, reduceIte, Nat.reduceEqDiff, Nat.reduceLT, Nat.reduceLeDiff, Nat.reduceAdd, reduceCtorEq, Nat.reduceMul, hw2]
  all_goals apply_assumption
  refine AW.cond (b := true) (by simp [ev]) (fun hc => ?_) (fun hc => by cases hc)
  refine AW.seq_k fun K5 h5 => ?_
  all_goals refine AW.reg0 ?_
  all_goals iterate 2 (refine S.g rfl rfl fun K' k' => ?_; simp only [zz, reduceIte, Nat.reduceEqDiff, Nat.reduceAdd]; refine k' _ _ ?_; clear k' K')
  all_goals refine S.nil ?_
  all_goals simp only [ze, reduceIte, Nat.reduceEqDiff, Nat.reduceLT, Nat.reduceLeDiff, Nat.reduceAdd, reduceCtorEq, Nat.reduceMul]
  all_goals apply_assumption
  refine AW.seq_k fun K6 h6 => ?_
  all_goals refine AW.reg0 ?_
  all_goals iterate 2 (refine S.g rfl rfl fun K' k' => ?_; simp only [zz, reduceIte, Nat.reduceEqDiff, Nat.reduceAdd]; refine k' _ _ ?_; clear k' K')
  all_goals refine S.nil ?_
  all_goals simp only [ze, reduceIte, Nat.reduceEqDiff, Nat.reduceLT, Nat.reduceLeDiff, Nat.reduceAdd, reduceCtorEq, Nat.reduceMul]
  all_goals apply_assumption
  refine AW.seq_j (fun s σ => ∃ i l', a ≤ i ∧ i ≤ m0 ∧ s.t 0 = .gl k ∧ s.t 2 = .c (.int .i64 m0) ∧ s.t 14 = .c (.int .i64 (i : Nat)) ∧ σ = hpB k l' ∧ Sub l0 l') ?_ ?_
  · refine AW.block ?_   -- 0
    refine AW.loop (fun m s σ => ∃ i j, m = j - i ∧ a ≤ i ∧ i ≤ j ∧ j ≤ m0 ∧ s.t 0 = .gl k ∧ s.t 2 = .c (.int .i64 m0) ∧ s.t 4 = .fn (.func 64) [] [] ∧ s.t 14 = .c (.int .i64 (i : Nat)) ∧ s.t 15 = .c (.int .i64 (j : Nat)) ∧ σ = hpB k l0) (m0 - a) ?_ ?_
    · refine ⟨a, m0, rfl, by omega, by omega, by omega, ?_⟩
      all_goals simp only [zs, reduceIte, Nat.reduceEqDiff, Nat.reduceLT, Nat.reduceLeDiff, Nat.reduceAdd, reduceCtorEq, Nat.reduceMul]
    rintro m s σ ⟨i, j, hm, hi, hij, hj, e0, e2, e4, e10, e11, rfl⟩
    refine AW.seq_k fun K7 h7 => ?_
    refine AW.seq_k fun K8 h8 => ?_
    all_goals refine AW.reg0 ?_
    all_goals iterate 3 (refine S.g rfl rfl fun K' k' => ?_; simp only [zz, reduceIte, Nat.reduceEqDiff, Nat.reduceAdd, e10, e11]; refine k' _ _ ?_; clear k' K')
    all_goals refine S.nil ?_
    all_goals simp only [ze, reduceIte, Nat.reduceEqDiff, Nat.reduceLT, Nat.reduceLeDiff, Nat.reduceAdd, reduceCtorEq, Nat.reduceMul, e10, e11]
    all_goals apply_assumption
    refine AW.cond (b := decide (i < j)) (by simp [ev]) (fun hc => ?_) (fun hc => ?_)
    · refine AW.skip ?_
      all_goals simp only [zs, reduceIte, Nat.reduceEqDiff, Nat.reduceLT, Nat.reduceLeDiff, Nat.reduceAdd, reduceCtorEq, Nat.reduceMul]
      all_goals apply_assumption
      have hc := of_decide_eq_true hc
      have hw2 : IntKind.i64.wrap ((i : Int) + j) = ((i + j : Nat) : Int) := by rw [wrap_small _ (by omega) (by omega)]; rfl
      have hu := half_u (i + j) (by omega)
      have hs := half_s (i + j)
      have hw3 : IntKind.i64.wrap (((i + j) / 2 : Nat) : Int) = (((i + j) / 2 : Nat) : Int) := wrap_small _ (by omega) (by omega)
      have hh1 : i ≤ (i + j) / 2 := by omega
      have hh2 : (i + j) / 2 < j := by omega
      generalize (i + j) / 2 = h at *
      refine AW.block ?_   -- 1
      refine AW.seq_k fun K9 h9 => ?_
      all_goals refine AW.reg0 ?_
      all_goals iterate 7 (refine S.g rfl rfl fun K' k' => ?_; simp only [zz, reduceIte, Nat.reduceEqDiff, Nat.reduceAdd, cv3_130, cv130_3, e10, e11, hw2, hu, hs, hw3, Int.reduceLE]; refine k' _ _ ?_; clear k' K')
      all_goals refine S.nil ?_
      all_goals simp only [ze, reduceIte, Nat.reduceEqDiff, Nat.reduceLT, Nat.reduceLeDiff, Nat.reduceAdd, reduceCtorEq, Nat.reduceMul, e10, e11, hw2, hu, hs, hw3, Int.reduceLE]
      all_goals apply_assumption
      have hpb : (hpB k l0).gr k = some ((42, 6), l0.map encBd) := by simp [hpB]
      have hj1 : m0 < l0.length := by omega
      have hj2 : h < l0.length := by omega
      obtain ⟨x, hx, hg1⟩ := get_bd hj1
      obtain ⟨y, hy, hg2⟩ := get_bd hj2
      have hw4 : IntKind.i64.wrap ((h : Int) + 1) = ((h + 1 : Nat) : Int) := by rw [wrap_small _ (by omega) (by omega)]; rfl
      generalize hsg : hpB k l0 = σ0 at hpb ⊢
      refine AW.seq_j (fun s' σ' => σ' = σ0 ∧ s'.t 0 = .gl k ∧ s'.t 2 = .c (.int .i64 m0) ∧ s'.t 4 = .fn (.func 64) [] [] ∧ s'.t 14 = .c (.int .i64 (i : Nat)) ∧ s'.t 15 = .c (.int .i64 (j : Nat)) ∧ s'.t 16 = .c (.int .i64 (h : Nat)) ∧ ∃ b, s'.t 103 = .c (.bool b)) ?_ ?_
      · skip
        all_goals refine AW.draw2 (T := { sd := fun _ => false }) (fun _ _ h => by cases h) mixedO [(0, 0), (1, 0), (2, 0), (3, 0), (5, 0), (6, 0), (7, 0)] 4 8 [(9, 2), (10, 0), (11, 0)] #[true, true, true, true, false, true, true, true, false, false, false, false] rfl (by kernel_rfl) (by kernel_rfl) (by kernel_rfl) (by kernel_rfl) (by kernel_rfl) ?_
        all_goals iterate 7 (refine D.g rfl trivial rfl rfl fun K' k' => ?_; simp only [zz, reduceIte, Nat.reduceEqDiff, Nat.reduceLT, Nat.reduceLeDiff, Nat.reduceAdd, reduceCtorEq, Nat.reduceMul, sl22, el22, ok42, sz42, ag42, e0, e2, e4, hpb, hj1, hj2, hg1, hg2, encBd]; refine k' _ _ ?_; clear k' K')
        all_goals refine D.nil ⟨?_, ?_⟩
        all_goals iterate 2 (refine D.g rfl trivial rfl rfl fun K' k' => ?_; simp only [zz, reduceIte, Nat.reduceEqDiff, Nat.reduceLT, Nat.reduceLeDiff, Nat.reduceAdd, reduceCtorEq, Nat.reduceMul, ok42, sz42, ag42, e0, e2, e4, hpb, hj1, hj2, hg1, hg2, encBd]; refine k' _ _ ?_; clear k' K')
        all_goals (refine D.g rfl trivial rfl rfl fun K' k' => ?_; simp only [zz, reduceIte, Nat.reduceEqDiff, Nat.reduceLT, Nat.reduceLeDiff, Nat.reduceAdd, reduceCtorEq, Nat.reduceMul, e0, e2, e4, hpb, hj1, hj2, hg1, hg2, encBd]; refine PCalls.eqto (less_spec x y) ?_ <;> (refine k' _ _ ?_; clear k' K'))
        all_goals iterate 2 (refine D.g rfl trivial rfl rfl fun K' k' => ?_; simp only [zz, reduceIte, Nat.reduceEqDiff, Nat.reduceAdd, e0, e2, e4, hpb, hj1, hj2, hg1, hg2, encBd]; refine k' _ _ ?_; clear k' K')
        all_goals refine D.nil ?_
        all_goals simp only [ze, reduceIte, Nat.reduceEqDiff, Nat.reduceLT, Nat.reduceLeDiff, Nat.reduceAdd, reduceCtorEq, Nat.reduceMul, e0, e2, e4, hpb, hj1, hj2, hg1, hg2, encBd]
        all_goals exact ⟨e10, e11, _, rfl⟩
      rintro s3 σ3 ⟨rfl, g0, g2, g4, g10, g11, g12, b2, g50⟩
      refine AW.cond (b := b2) g50 (fun hd => ?_) (fun hd => ?_)
      · skip
        all_goals refine AW.reg0 ?_
        all_goals iterate 3 (refine S.g rfl rfl fun K' k' => ?_; simp only [zz, reduceIte, Nat.reduceEqDiff, Nat.reduceAdd, g12, hw4]; refine k' _ _ ?_; clear k' K')
        all_goals refine S.nil ?_
        all_goals simp only [ze, reduceIte, Nat.reduceEqDiff, Nat.reduceLT, Nat.reduceLeDiff, Nat.reduceAdd, reduceCtorEq, Nat.reduceMul, g12, hw4]
        exact ⟨j - (h + 1), by omega, h + 1, j, rfl, by omega, by omega, hj, g0, g2, g4, rfl, g11⟩
      · skip
        all_goals refine AW.reg0 ?_
        all_goals iterate 2 (refine S.g rfl rfl fun K' k' => ?_; simp only [zz, reduceIte, Nat.reduceEqDiff, Nat.reduceAdd, g12]; refine k' _ _ ?_; clear k' K')
        all_goals refine S.nil ?_
        all_goals simp only [ze, reduceIte, Nat.reduceEqDiff, Nat.reduceLT, Nat.reduceLeDiff, Nat.reduceAdd, reduceCtorEq, Nat.reduceMul, g12]
        exact ⟨h - i, by omega, i, h, rfl, by omega, by omega, by omega, g0, g2, g4, g10, rfl⟩
    · refine AW.exit ?_
      all_goals simp only [zs, reduceIte, Nat.reduceEqDiff, Nat.reduceLT, Nat.reduceLeDiff, Nat.reduceAdd, reduceCtorEq, Nat.reduceMul]
      have hc := of_decide_eq_false hc
      exact ⟨i, l0, hi, by omega, e0, e2, e10, rfl, Sub.refl _⟩
  rintro s1 σ1 ⟨i, l1, hi, hib, f0, f2, f10, rfl, hs1⟩
  refine AW.seq_k fun K10 h10 => ?_
  refine AW.seq_k fun K11 h11 => ?_
  all_goals refine AW.reg0 ?_
  all_goals iterate 2 (refine S.g rfl rfl fun K' k' => ?_; simp only [zz, reduceIte, Nat.reduceEqDiff, Nat.reduceAdd, f2]; refine k' _ _ ?_; clear k' K')
  all_goals refine S.nil ?_
  all_goals simp only [ze, reduceIte, Nat.reduceEqDiff, Nat.reduceLT, Nat.reduceLeDiff, Nat.reduceAdd, reduceCtorEq, Nat.reduceMul, f2]
  all_goals apply_assumption
  refine AW.block ?_   -- 2
  refine AW.loop (fun m s σ => ∃ q l', m = q ∧ i ≤ q ∧ q ≤ m0 ∧ s.t 0 = .gl k ∧ s.t 14 = .c (.int .i64 (i : Nat)) ∧ s.t 17 = .c (.int .i64 (q : Nat)) ∧ σ = hpB k l' ∧ Sub l0 l') m0 ?_ ?_
  · refine ⟨m0, l1, rfl, by omega, by omega, ?_⟩
    all_goals simp only [zs, reduceIte, Nat.reduceEqDiff, Nat.reduceLT, Nat.reduceLeDiff, Nat.reduceAdd, reduceCtorEq, Nat.reduceMul]
    exact ⟨f0, f10, hs1⟩
  rintro m s σ ⟨q, l', rfl, hq1, hq2, e0, e10, e13, rfl, hs⟩
  refine AW.seq_k fun K12 h12 => ?_
  refine AW.seq_k fun K13 h13 => ?_
  all_goals refine AW.reg0 ?_
  all_goals iterate 3 (refine S.g rfl rfl fun K' k' => ?_; simp only [zz, reduceIte, Nat.reduceEqDiff, Nat.reduceAdd, e10, e13]; refine k' _ _ ?_; clear k' K')
  all_goals refine S.nil ?_
  all_goals simp only [ze, reduceIte, Nat.reduceEqDiff, Nat.reduceLT, Nat.reduceLeDiff, Nat.reduceAdd, reduceCtorEq, Nat.reduceMul, e10, e13]
  all_goals apply_assumption
  refine AW.cond (b := decide ((m : Int) > i)) (by simp [ev]) (fun hc => ?_) (fun hc => ?_)
  · refine AW.skip ?_
    all_goals simp only [zs, reduceIte, Nat.reduceEqDiff, Nat.reduceLT, Nat.reduceLeDiff, Nat.reduceAdd, reduceCtorEq, Nat.reduceMul]
    all_goals apply_assumption
    have hc := of_decide_eq_true hc
    have hw : IntKind.i64.wrap ((m : Int) - 1) = ((m - 1 : Nat) : Int) := by rw [wrap_small _ (by omega) (by omega)]; omega
    have hl1 := hs.1
    have hj1 : m < l'.length := by omega
    have hj2 : m - 1 < l'.length := by omega
    obtain ⟨x, hx, hg1⟩ := get_bd hj1
    obtain ⟨y, hy, hg2⟩ := get_bd hj2
    have hsub := hs.swap hx hy
    have hgs : ∀ v, ((l'.map encBd).set m v).getD (m - 1) [] = encBd y := fun v => by
      rw [← hg2]; simp [List.getD, List.getElem?_set, show m ≠ m - 1 by omega]
    have hpb : hpB k l' = Hp.empty.setGr k (some ((42, 6), l'.map encBd)) := rfl
    rw [hpb]
    refine AW.seq_k fun K14 h14 => ?_
    refine AW.block ?_   -- 3
    refine AW.mono (Q := thenS (fun s' σ' => σ' = hpB k ((l'.set m y).set (m - 1) x) ∧ s'.t 0 = .gl k ∧ s'.t 14 = .c (.int .i64 (i : Nat)) ∧ s'.t 17 = .c (.int .i64 (m : Nat))) (fun _ _ _ => False)) ?_ ?_
    · skip
      all_goals refine AW.draw2 (T := { sd := fun _ => false }) (fun _ _ h => by cases h) mixedO [(0, 0), (1, 0), (2, 0), (3, 0), (4, 0), (5, 0), (6, 0), (7, 0), (8, 0), (10, 0), (11, 0), (12, 0)] 9 13 [(14, 0), (15, 2), (16, 0), (17, 2)] #[true, true, true, true, true, true, true, true, true, false, true, true, true, false, false, false, false, false] rfl (by kernel_rfl) (by kernel_rfl) (by kernel_rfl) (by kernel_rfl) (by kernel_rfl) ?_
      all_goals iterate 12 (refine D.g rfl trivial rfl rfl fun K' k' => ?_; simp only [zz, reduceIte, Nat.reduceEqDiff, Nat.reduceLT, Nat.reduceLeDiff, Nat.reduceAdd, reduceCtorEq, Nat.reduceMul, sl22, el22, ok42, sz42, ag42, e0, e10, e13, hj1, hj2, hg1, hg2, hgs, hw, encBd, List.length_set]; refine k' _ _ ?_; clear k' K')
      all_goals refine D.nil ⟨?_, ?_⟩
      all_goals iterate 6 (refine D.g rfl trivial rfl rfl fun K' k' => ?_; simp only [zz, reduceIte, Nat.reduceEqDiff, Nat.reduceLT, Nat.reduceLeDiff, Nat.reduceAdd, reduceCtorEq, Nat.reduceMul, ok42, sz42, ag42, sl22, el22, e0, e10, e13, hj1, hj2, hg1, hg2, hgs, hw, encBd, List.length_set]; refine k' _ _ ?_; clear k' K')
      all_goals refine D.nil ?_
      all_goals simp only [ze, reduceIte, Nat.reduceEqDiff, Nat.reduceLT, Nat.reduceLeDiff, Nat.reduceAdd, reduceCtorEq, Nat.reduceMul, e0, e10, e13, hj1, hj2, hg1, hg2, hgs, hw, encBd, List.length_set]
      all_goals simp [hpB, encBd, List.map_set]
    rintro e s4 σ4 hq
    cases e with
    | normal =>
      obtain ⟨rfl, q0, q10, q13⟩ := hq
      all_goals simp only [zs, reduceIte, Nat.reduceEqDiff, Nat.reduceLT, Nat.reduceLeDiff, Nat.reduceAdd, reduceCtorEq, Nat.reduceMul]
      all_goals apply_assumption
      all_goals refine AW.reg0 ?_
      all_goals iterate 3 (refine S.g rfl rfl fun K' k' => ?_; simp only [zz, reduceIte, Nat.reduceEqDiff, Nat.reduceAdd, q13, hw]; refine k' _ _ ?_; clear k' K')
      all_goals refine S.nil ?_
      all_goals simp only [ze, reduceIte, Nat.reduceEqDiff, Nat.reduceLT, Nat.reduceLeDiff, Nat.reduceAdd, reduceCtorEq, Nat.reduceMul, q13, hw]
      exact ⟨m - 1, by omega, m - 1, _, rfl, by omega, by omega, q0, q10, rfl, rfl, hsub⟩
    | _ => exact hq.elim
  · refine AW.exit ?_
    all_goals simp only [zs, reduceIte, Nat.reduceEqDiff, Nat.reduceLT, Nat.reduceLeDiff, Nat.reduceAdd, reduceCtorEq, Nat.reduceMul]
    all_goals apply_assumption
    refine AW.ret ?_
    all_goals simp only [zs, reduceIte, Nat.reduceEqDiff, Nat.reduceLT, Nat.reduceLeDiff, Nat.reduceAdd, reduceCtorEq, Nat.reduceMul]
    exact ⟨rfl, l', hs, rfl⟩
theorem sym_weak (k : Nat) : ∀ (d : Nat) (l0 : List Bd) (a m0 b : Nat), b - a ≤ d → a < m0 → m0 < b → b ≤ l0.length → l0.length < 2147483648 →
    ACalls Try.prog 129 [.gl k, .c (.int .i64 a), .c (.int .i64 m0), .c (.int .i64 b), .fn (.func 64) [] []] (hpB k l0) (hpS k l0) := by
  intro d
  induction d with
  | zero => intro l0 a m0 b hd h1 h2; omega
  | succ d ih =>
  intro l0 a m0 b hd ham hmb hb hn
  by_cases hA : a + 1 = m0
  · exact sym_one l0 k a m0 b hA hmb hb hn
  by_cases hB : m0 + 1 = b
  · exact sym_two l0 k a m0 b (by omega) hB hb hn
  refine ACalls.intro Try.call129 Try.func129 rfl Try.ntmps129 Try.results129 (by simp) ?_
  have hw1 : IntKind.i64.wrap ((m0 : Int) - a) = ((m0 - a : Nat) : Int) := by rw [wrap_small _ (by omega) (by omega)]; omega
  have hw2 : IntKind.i64.wrap ((b : Int) - m0) = ((b - m0 : Nat) : Int) := by rw [wrap_small _ (by omega) (by omega)]; omega
  have h1 : (((m0 - a : Nat) : Int) == 1) = false := by simp; omega
  have h2 : (((b - m0 : Nat) : Int) == 1) = false := by simp; omega
  have hw4 : IntKind.i64.wrap ((a : Int) + b) = ((a + b : Nat) : Int) := by rw [wrap_small _ (by omega) (by omega)]; rfl
  have hu := half_u (a + b) (by omega)
  have hs := half_s (a + b)
  have hw5 : IntKind.i64.wrap (((a + b) / 2 : Nat) : Int) = (((a + b) / 2 : Nat) : Int) := wrap_small _ (by omega) (by omega)
  have hm1 : a + b ≤ 2 * ((a + b) / 2) + 1 := by omega
  have hm2 : 2 * ((a + b) / 2) ≤ a + b := by omega
  generalize (a + b) / 2 = mid at *
  have hw6 : IntKind.i64.wrap ((mid : Int) + m0) = ((mid + m0 : Nat) : Int) := by rw [wrap_small _ (by omega) (by omega)]; rfl
  obtain ⟨n, hnn⟩ : ∃ n, n = mid + m0 := ⟨_, rfl⟩
  rw [← hnn] at hw6
  have hw7 : IntKind.i64.wrap ((n : Int) - 1) = ((n - 1 : Nat) : Int) := by rw [wrap_small _ (by omega) (by omega)]; omega
  refine AW.seq_k fun K1 h1 => ?_
  refine AW.seq_k fun K2 h2 => ?_
  all_goals refine AW.reg0 ?_
  all_goals iterate 4 (refine S.g rfl rfl fun K' k' => ?_; simp only [zz, reduceIte, Nat.reduceEqDiff, Nat.reduceAdd, hw1, h1]; refine k' _ _ ?_; clear k' K')
  all_goals refine S.nil ?_
  all_goals simp only [ze, reduceIte, Nat.reduceEqDiff, Nat.reduceLT, Nat.reduceLeDiff, Nat.reduceAdd, reduceCtorEq, Nat.reduceMul, hw1, h1]
  all_goals apply_assumption
  refine AW.cond (b := false) (by simp [ev]; try omega) (fun hc => by cases hc) (fun hc => AW.skip ?_)
  all_goals simp only [zs, reduceIte, Nat.reduceEqDiff, Nat.reduceLT, Nat.reduceLeDiff, Nat.reduceAdd, reduceCtorEq, Nat.reduceMul]
  all_goals apply_assumption
  refine AW.seq_k fun K3 h3 => ?_
  refine AW.seq_k fun K4 h4 => ?_
  all_goals refine AW.reg0 ?_
  all_goals iterate 4 (refine S.g rfl rfl fun K' k' => ?_; simp only [zz, reduceIte, Nat.reduceEqDiff, Nat.reduceAdd, hw2, h2]; refine k' _ _ ?_; clear k' K')
  all_goals refine S.nil ?_
  all_goals simp only [ze, reduceIte, Nat.reduceEqDiff, Nat.reduceLT, Nat.reduceLeDiff, Nat.reduceAdd, reduceCtorEq, Nat.reduceMul, hw2, h2]
  all_goals apply_assumption
  refine AW.cond (b := false) (by simp [ev]; try omega) (fun hc => by cases hc) (fun hc => AW.skip ?_)
  all_goals simp only [zs, reduceIte, Nat.reduceEqDiff, Nat.reduceLT, Nat.reduceLeDiff, Nat.reduceAdd, reduceCtorEq, Nat.reduceMul]
  all_goals apply_assumption
  refine AW.seq_k fun K5 h5 => ?_
  all_goals refine AW.reg0 ?_
  all_goals iterate 7 (refine S.g rfl rfl fun K' k' => ?_; simp only [zz, reduceIte, Nat.reduceEqDiff, Nat.reduceAdd, cv3_130, cv130_3, hw4, hu, hs, hw5, Int.reduceLE]; refine k' _ _ ?_; clear k' K')
  all_goals refine S.nil ?_
  all_goals simp only [ze, reduceIte, Nat.reduceEqDiff, Nat.reduceLT, Nat.reduceLeDiff, Nat.reduceAdd, reduceCtorEq, Nat.reduceMul, hw4, hu, hs, hw5, Int.reduceLE]
  all_goals apply_assumption
  refine AW.seq_k fun K6 h6 => ?_
  all_goals refine AW.reg0 ?_
  all_goals iterate 4 (refine S.g rfl rfl fun K' k' => ?_; simp only [zz, reduceIte, Nat.reduceEqDiff, Nat.reduceAdd, hw6]; refine k' _ _ ?_; clear k' K')
  all_goals refine S.nil ?_
  all_goals simp only [ze, reduceIte, Nat.reduceEqDiff, Nat.reduceLT, Nat.reduceLeDiff, Nat.reduceAdd, reduceCtorEq, Nat.reduceMul, hw6]
  all_goals apply_assumption
  refine AW.seq_k fun K7 h7 => ?_
  all_goals refine AW.reg0 ?_
  all_goals iterate 2 (refine S.g rfl rfl fun K' k' => ?_; simp only [zz, reduceIte, Nat.reduceEqDiff, Nat.reduceAdd]; refine k' _ _ ?_; clear k' K')
  all_goals refine S.nil ?_
  all_goals simp only [ze, reduceIte, Nat.reduceEqDiff, Nat.reduceLT, Nat.reduceLeDiff, Nat.reduceAdd, reduceCtorEq, Nat.reduceMul]
  all_goals apply_assumption
  refine AW.seq_j (fun s σ => ∃ st r, a ≤ st ∧ st ≤ r ∧ r ≤ mid ∧ r ≤ m0 ∧ n ≤ b + st ∧ s.t 0 = .gl k ∧ s.t 1 = .c (.int .i64 a) ∧ s.t 2 = .c (.int .i64 m0) ∧ s.t 3 = .c (.int .i64 b) ∧ s.t 4 = .fn (.func 64) [] [] ∧ s.t 18 = .c (.int .i64 mid) ∧ s.t 19 = .c (.int .i64 n) ∧
    s.t 20 = .c (.int .i64 (st : Nat)) ∧ s.t 21 = .c (.int .i64 (r : Nat)) ∧ σ = hpB k l0) ?_ ?_
  · refine AW.seq_k fun K8 h8 => ?_
    all_goals refine AW.reg0 ?_
    all_goals iterate 3 (refine S.g rfl rfl fun K' k' => ?_; simp only [zz, reduceIte, Nat.reduceEqDiff, Nat.reduceAdd]; refine k' _ _ ?_; clear k' K')
    all_goals refine S.nil ?_
    all_goals simp only [ze, reduceIte, Nat.reduceEqDiff, Nat.reduceLT, Nat.reduceLeDiff, Nat.reduceAdd, reduceCtorEq, Nat.reduceMul]
    all_goals apply_assumption
    refine AW.cond (b := decide ((m0 : Int) > mid)) (by simp [ev]) (fun hc => ?_) (fun hc => ?_)
    · have hc := of_decide_eq_true hc
      have hw8 : IntKind.i64.wrap ((n : Int) - b) = ((n - b : Nat) : Int) := by rw [wrap_small _ (by omega) (by omega)]; omega
      refine AW.seq_k fun K9 h9 => ?_
      all_goals refine AW.reg0 ?_
      all_goals iterate 4 (refine S.g rfl rfl fun K' k' => ?_; simp only [zz, reduceIte, Nat.reduceEqDiff, Nat.reduceAdd, hw8]; refine k' _ _ ?_; clear k' K')
      all_goals refine S.nil ?_
      all_goals simp only [ze, reduceIte, Nat.reduceEqDiff, Nat.reduceLT, Nat.reduceLeDiff, Nat.reduceAdd, reduceCtorEq, Nat.reduceMul, hw8]
      all_goals apply_assumption
      all_goals refine AW.reg0 ?_
      all_goals iterate 2 (refine S.g rfl rfl fun K' k' => ?_; simp only [zz, reduceIte, Nat.reduceEqDiff, Nat.reduceAdd]; refine k' _ _ ?_; clear k' K')
      all_goals refine S.nil ?_
      all_goals simp only [ze, reduceIte, Nat.reduceEqDiff, Nat.reduceLT, Nat.reduceLeDiff, Nat.reduceAdd, reduceCtorEq, Nat.reduceMul]
      exact ⟨n - b, mid, by omega, by omega, by omega, by omega, by omega, rfl, rfl⟩
    · have hc := of_decide_eq_false hc
      refine AW.seq_k fun K10 h10 => ?_
      all_goals refine AW.reg0 ?_
      all_goals iterate 2 (refine S.g rfl rfl fun K' k' => ?_; simp only [zz, reduceIte, Nat.reduceEqDiff, Nat.reduceAdd]; refine k' _ _ ?_; clear k' K')
      all_goals refine S.nil ?_
      all_goals simp only [ze, reduceIte, Nat.reduceEqDiff, Nat.reduceLT, Nat.reduceLeDiff, Nat.reduceAdd, reduceCtorEq, Nat.reduceMul]
      all_goals apply_assumption
      all_goals refine AW.reg0 ?_
      all_goals iterate 2 (refine S.g rfl rfl fun K' k' => ?_; simp only [zz, reduceIte, Nat.reduceEqDiff, Nat.reduceAdd]; refine k' _ _ ?_; clear k' K')
      all_goals refine S.nil ?_
      all_goals simp only [ze, reduceIte, Nat.reduceEqDiff, Nat.reduceLT, Nat.reduceLeDiff, Nat.reduceAdd, reduceCtorEq, Nat.reduceMul]
      exact ⟨a, m0, by omega, by omega, by omega, by omega, by omega, rfl, rfl⟩
  rintro s0 σ0 ⟨st0, r0, hg1, hg2, hg3, hg4, hg5, g0, g1, g2, g3, g4, g18, g19, g20, g21, rfl⟩
  refine AW.seq_k fun K11 h11 => ?_
  all_goals refine AW.reg0 ?_
  all_goals iterate 3 (refine S.g rfl rfl fun K' k' => ?_; simp only [zz, reduceIte, Nat.reduceEqDiff, Nat.reduceAdd, g19, hw7]; refine k' _ _ ?_; clear k' K')
  all_goals refine S.nil ?_
  all_goals simp only [ze, reduceIte, Nat.reduceEqDiff, Nat.reduceLT, Nat.reduceLeDiff, Nat.reduceAdd, reduceCtorEq, Nat.reduceMul, g19, hw7]
  all_goals apply_assumption
  refine AW.seq_j (fun s σ => ∃ st l', a ≤ st ∧ st ≤ mid ∧ st ≤ m0 ∧ n ≤ b + st ∧ s.t 0 = .gl k ∧ s.t 1 = .c (.int .i64 a) ∧ s.t 2 = .c (.int .i64 m0) ∧ s.t 3 = .c (.int .i64 b) ∧ s.t 4 = .fn (.func 64) [] [] ∧ s.t 18 = .c (.int .i64 mid) ∧ s.t 19 = .c (.int .i64 n) ∧
    s.t 20 = .c (.int .i64 (st : Nat)) ∧ σ = hpB k l' ∧ Sub l0 l') ?_ ?_
  · refine AW.block ?_   -- 8
    refine AW.loop (fun m s σ => ∃ st r, m = r - st ∧ a ≤ st ∧ st ≤ r ∧ r ≤ mid ∧ r ≤ m0 ∧ n ≤ b + st ∧ s.t 0 = .gl k ∧ s.t 1 = .c (.int .i64 a) ∧ s.t 2 = .c (.int .i64 m0) ∧ s.t 3 = .c (.int .i64 b) ∧ s.t 4 = .fn (.func 64) [] [] ∧ s.t 18 = .c (.int .i64 mid) ∧ s.t 19 = .c (.int .i64 n) ∧
      s.t 20 = .c (.int .i64 (st : Nat)) ∧ s.t 21 = .c (.int .i64 (r : Nat)) ∧ s.t 22 = .c (.int .i64 ((n - 1 : Nat) : Int)) ∧ σ = hpB k l0) (r0 - st0) ?_ ?_
    · refine ⟨st0, r0, rfl, hg1, hg2, hg3, hg4, hg5, ?_⟩
      all_goals simp only [zs, reduceIte, Nat.reduceEqDiff, Nat.reduceLT, Nat.reduceLeDiff, Nat.reduceAdd, reduceCtorEq, Nat.reduceMul]
      exact ⟨g0, g1, g2, g3, g4, g18, g19, g20, g21⟩
    rintro m s σ ⟨i, j, hm, hi, hij, hj, hj', hnb, e0, e1, e2, e3, e4, e18, e19, e10, e11, e22, rfl⟩
    refine AW.seq_k fun K12 h12 => ?_
    refine AW.seq_k fun K13 h13 => ?_
    all_goals refine AW.reg0 ?_
    all_goals iterate 3 (refine S.g rfl rfl fun K' k' => ?_; simp only [zz, reduceIte, Nat.reduceEqDiff, Nat.reduceAdd, e10, e11]; refine k' _ _ ?_; clear k' K')
    all_goals refine S.nil ?_
    all_goals simp only [ze, reduceIte, Nat.reduceEqDiff, Nat.reduceLT, Nat.reduceLeDiff, Nat.reduceAdd, reduceCtorEq, Nat.reduceMul, e10, e11]
    all_goals apply_assumption
    refine AW.cond (b := decide (i < j)) (by simp [ev]) (fun hc => ?_) (fun hc => ?_)
    · refine AW.skip ?_
      all_goals simp only [zs, reduceIte, Nat.reduceEqDiff, Nat.reduceLT, Nat.reduceLeDiff, Nat.reduceAdd, reduceCtorEq, Nat.reduceMul]
      all_goals apply_assumption
      have hc := of_decide_eq_true hc
      have hw2 : IntKind.i64.wrap ((i : Int) + j) = ((i + j : Nat) : Int) := by rw [wrap_small _ (by omega) (by omega)]; rfl
      have hu := half_u (i + j) (by omega)
      have hs := half_s (i + j)
      have hw3 : IntKind.i64.wrap (((i + j) / 2 : Nat) : Int) = (((i + j) / 2 : Nat) : Int) := wrap_small _ (by omega) (by omega)
      have hh1 : i ≤ (i + j) / 2 := by omega
      have hh2 : (i + j) / 2 < j := by omega
      generalize (i + j) / 2 = h at *
      refine AW.block ?_   -- 1
      refine AW.seq_k fun K14 h14 => ?_
      all_goals refine AW.reg0 ?_
      all_goals iterate 7 (refine S.g rfl rfl fun K' k' => ?_; simp only [zz, reduceIte, Nat.reduceEqDiff, Nat.reduceAdd, cv3_130, cv130_3, e10, e11, hw2, hu, hs, hw3, Int.reduceLE]; refine k' _ _ ?_; clear k' K')
      all_goals refine S.nil ?_
      all_goals simp only [ze, reduceIte, Nat.reduceEqDiff, Nat.reduceLT, Nat.reduceLeDiff, Nat.reduceAdd, reduceCtorEq, Nat.reduceMul, e10, e11, hw2, hu, hs, hw3, Int.reduceLE]
      all_goals apply_assumption
      have hpb : (hpB k l0).gr k = some ((42, 6), l0.map encBd) := by simp [hpB]
      have hw8 : IntKind.i64.wrap (((n - 1 : Nat) : Int) - h) = ((n - 1 - h : Nat) : Int) := by rw [wrap_small _ (by omega) (by omega)]; omega
      have hj1 : n - 1 - h < l0.length := by omega
      have hj2 : h < l0.length := by omega
      obtain ⟨x, hx, hg1⟩ := get_bd hj1
      obtain ⟨y, hy, hg2⟩ := get_bd hj2
      have hw4 : IntKind.i64.wrap ((h : Int) + 1) = ((h + 1 : Nat) : Int) := by rw [wrap_small _ (by omega) (by omega)]; rfl
      generalize hsg : hpB k l0 = σ0 at hpb ⊢
      refine AW.seq_j (fun s' σ' => σ' = σ0 ∧ s'.t 0 = .gl k ∧ s'.t 1 = .c (.int .i64 a) ∧ s'.t 2 = .c (.int .i64 m0) ∧ s'.t 3 = .c (.int .i64 b) ∧ s'.t 4 = .fn (.func 64) [] [] ∧ s'.t 18 = .c (.int .i64 mid) ∧ s'.t 19 = .c (.int .i64 n) ∧ s'.t 20 = .c (.int .i64 (i : Nat)) ∧ s'.t 21 = .c (.int .i64 (j : Nat)) ∧ s'.t 22 = .c (.int .i64 ((n - 1 : Nat) : Int)) ∧ s'.t 23 = .c (.int .i64 (h : Nat)) ∧ ∃ b, s'.t 171 = .c (.bool b)) ?_ ?_
      · skip
        all_goals refine AW.draw2 (T := { sd := fun _ => false }) (fun _ _ h => by cases h) mixedO [(0, 0), (1, 0), (2, 0), (3, 0), (4, 0), (5, 0), (7, 0), (8, 0), (9, 0)] 6 10 [(11, 2), (12, 0), (13, 0)] #[true, true, true, true, true, true, false, true, true, true, false, false, false, false] rfl (by kernel_rfl) (by kernel_rfl) (by kernel_rfl) (by kernel_rfl) (by kernel_rfl) ?_
        all_goals iterate 9 (refine D.g rfl trivial rfl rfl fun K' k' => ?_; simp only [zz, reduceIte, Nat.reduceEqDiff, Nat.reduceLT, Nat.reduceLeDiff, Nat.reduceAdd, reduceCtorEq, Nat.reduceMul, sl22, el22, ok42, sz42, ag42, e0, e22, e4, hpb, hj1, hj2, hg1, hg2, hw8, encBd]; refine k' _ _ ?_; clear k' K')
        all_goals refine D.nil ⟨?_, ?_⟩
        all_goals iterate 2 (refine D.g rfl trivial rfl rfl fun K' k' => ?_; simp only [zz, reduceIte, Nat.reduceEqDiff, Nat.reduceLT, Nat.reduceLeDiff, Nat.reduceAdd, reduceCtorEq, Nat.reduceMul, ok42, sz42, ag42, e0, e22, e4, hpb, hj1, hj2, hg1, hg2, hw8, encBd]; refine k' _ _ ?_; clear k' K')
        all_goals (refine D.g rfl trivial rfl rfl fun K' k' => ?_; simp only [zz, reduceIte, Nat.reduceEqDiff, Nat.reduceLT, Nat.reduceLeDiff, Nat.reduceAdd, reduceCtorEq, Nat.reduceMul, e0, e22, e4, hpb, hj1, hj2, hg1, hg2, hw8, encBd]; refine PCalls.eqto (less_spec x y) ?_ <;> (refine k' _ _ ?_; clear k' K'))
        all_goals iterate 2 (refine D.g rfl trivial rfl rfl fun K' k' => ?_; simp only [zz, reduceIte, Nat.reduceEqDiff, Nat.reduceAdd, e0, e22, e4, hpb, hj1, hj2, hg1, hg2, hw8, encBd]; refine k' _ _ ?_; clear k' K')
        all_goals refine D.nil ?_
        all_goals simp only [ze, reduceIte, Nat.reduceEqDiff, Nat.reduceLT, Nat.reduceLeDiff, Nat.reduceAdd, reduceCtorEq, Nat.reduceMul, e0, e22, e4, hpb, hj1, hj2, hg1, hg2, hw8, encBd]
        all_goals exact ⟨e1, e2, e3, e18, e19, e10, e11, _, rfl⟩
      rintro s3 σ3 ⟨rfl, g0, g1, g2, g3, g4, g18, g19, g10, g11, g22, g12, b2, g50⟩
      refine AW.cond (b := b2) g50 (fun hd => ?_) (fun hd => ?_)
      · skip
        all_goals refine AW.reg0 ?_
        all_goals iterate 3 (refine S.g rfl rfl fun K' k' => ?_; simp only [zz, reduceIte, Nat.reduceEqDiff, Nat.reduceAdd, g12, hw4]; refine k' _ _ ?_; clear k' K')
        all_goals refine S.nil ?_
        all_goals simp only [ze, reduceIte, Nat.reduceEqDiff, Nat.reduceLT, Nat.reduceLeDiff, Nat.reduceAdd, reduceCtorEq, Nat.reduceMul, g12, hw4]
        exact ⟨j - (h + 1), by omega, h + 1, j, rfl, by omega, by omega, hj, hj', by omega, g0, g1, g2, g3, g4, g18, g19, rfl, g11, g22⟩
      · skip
        all_goals refine AW.reg0 ?_
        all_goals iterate 2 (refine S.g rfl rfl fun K' k' => ?_; simp only [zz, reduceIte, Nat.reduceEqDiff, Nat.reduceAdd, g12]; refine k' _ _ ?_; clear k' K')
        all_goals refine S.nil ?_
        all_goals simp only [ze, reduceIte, Nat.reduceEqDiff, Nat.reduceLT, Nat.reduceLeDiff, Nat.reduceAdd, reduceCtorEq, Nat.reduceMul, g12]
        exact ⟨h - i, by omega, i, h, rfl, by omega, by omega, by omega, by omega, by omega, g0, g1, g2, g3, g4, g18, g19, g10, rfl, g22⟩
    · refine AW.exit ?_
      all_goals simp only [zs, reduceIte, Nat.reduceEqDiff, Nat.reduceLT, Nat.reduceLeDiff, Nat.reduceAdd, reduceCtorEq, Nat.reduceMul]
      have hc := of_decide_eq_false hc
      exact ⟨i, l0, hi, by omega, by omega, hnb, e0, e1, e2, e3, e4, e18, e19, e10, rfl, Sub.refl _⟩
  rintro s1 σ1 ⟨st, l1, hi1, hi2, hi3, hi4, f0, f1, f2, f3, f4, f18, f19, f20, rfl, hs1⟩
  have hw8 : IntKind.i64.wrap ((n : Int) - st) = ((n - st : Nat) : Int) := by rw [wrap_small _ (by omega) (by omega)]; omega
  refine AW.seq_k fun K15 h15 => ?_
  all_goals refine AW.reg0 ?_
  all_goals iterate 4 (refine S.g rfl rfl fun K' k' => ?_; simp only [zz, reduceIte, Nat.reduceEqDiff, Nat.reduceAdd, f19, f20, hw8]; refine k' _ _ ?_; clear k' K')
  all_goals refine S.nil ?_
  all_goals simp only [ze, reduceIte, Nat.reduceEqDiff, Nat.reduceLT, Nat.reduceLeDiff, Nat.reduceAdd, reduceCtorEq, Nat.reduceMul, f19, f20, hw8]
  all_goals apply_assumption
  refine AW.seq_j (fun s σ => ∃ l', s.t 0 = .gl k ∧ s.t 1 = .c (.int .i64 a) ∧ s.t 3 = .c (.int .i64 b) ∧ s.t 4 = .fn (.func 64) [] [] ∧ s.t 18 = .c (.int .i64 mid) ∧ s.t 20 = .c (.int .i64 (st : Nat)) ∧ s.t 24 = .c (.int .i64 ((n - st : Nat) : Int)) ∧ σ = hpB k l' ∧ Sub l0 l') ?_ ?_
  · by_cases hc1 : st < m0
    · by_cases hc2 : m0 < n - st
      · refine AW.seq_k fun K16 h16 => ?_
        all_goals refine AW.reg0 ?_
        all_goals iterate 2 (refine S.g rfl rfl fun K' k' => ?_; simp only [zz, reduceIte, Nat.reduceEqDiff, Nat.reduceAdd, f0, f1, f2, f3, f4, f18, f20]; refine k' _ _ ?_; clear k' K')
        all_goals (refine S.g rfl rfl fun K' k' => ?_; simp only [zz, reduceIte, Nat.reduceEqDiff, Nat.reduceLT, Nat.reduceLeDiff, Nat.reduceAdd, reduceCtorEq, Nat.reduceMul, f0, f1, f2, f3, f4, f18, f20]; refine S.bool fun b a180 => ?_; cases b <;> (try (exfalso; first | exact Bool.noConfusion a180 | (have h := of_decide_eq_true a180; omega) | (have h := of_decide_eq_false a180; omega))) <;> (refine k' _ _ ?_; clear k' K'))
        all_goals (refine S.g rfl rfl fun K' k' => ?_; simp only [zz, reduceIte, Nat.reduceEqDiff, Nat.reduceAdd, f0, f1, f2, f3, f4, f18, f20]; refine k' _ _ ?_; clear k' K')
        all_goals iterate 3 (first | (refine S.y rfl rfl rfl rfl fun K' k' => ?_; simp only [zz, reduceIte, Nat.reduceEqDiff, Nat.reduceAdd, f0, f1, f2, f3, f4, f18, f20]; refine k' _ _ ?_; clear k' K') | ((first | refine S.x rfl rfl rfl rfl fun K' k' => ?_ | refine S.u rfl rfl rfl rfl fun K' k' => ?_); simp only [ze, reduceIte, Nat.reduceEqDiff]; refine k' _ _ ?_; clear k' K'))
        all_goals (refine S.g rfl rfl fun K' k' => ?_; simp only [zz, reduceIte, Nat.reduceEqDiff, Nat.reduceAdd, f0, f1, f2, f3, f4, f18, f20]; refine k' _ _ ?_; clear k' K')
        all_goals refine S.nil ?_
        all_goals simp only [ze, reduceIte, Nat.reduceEqDiff, Nat.reduceLT, Nat.reduceLeDiff, Nat.reduceAdd, reduceCtorEq, Nat.reduceMul, f0, f1, f2, f3, f4, f18, f20]
        all_goals apply_assumption
        refine AW.cond (b := true) (by simp [ev]; try omega) (fun hc => ?_) (fun hc => by cases hc)
        all_goals refine AW.reg0 ?_
        all_goals iterate 5 (refine S.g rfl rfl fun K' k' => ?_; simp only [zz, reduceIte, Nat.reduceEqDiff, Nat.reduceAdd, f0, f1, f2, f3, f4, f18, f20]; refine k' _ _ ?_; clear k' K')
        all_goals (refine S.g rfl rfl fun K' k' => ?_; simp only [zz, reduceIte, Nat.reduceEqDiff, Nat.reduceLT, Nat.reduceLeDiff, Nat.reduceAdd, reduceCtorEq, Nat.reduceMul, f0, f1, f2, f3, f4, f18, f20]; refine (rotate_weak l1 k st m0 (n - st) (by omega) (by omega) (by rw [hs1.1]; omega) (by rw [hs1.1]; omega)).to fun v σ1 hv => ?_; obtain ⟨rfl, l2, hl2, rfl⟩ := hv <;> (refine k' _ _ ?_; clear k' K'))
        all_goals refine S.nil ?_
        all_goals simp only [ze, reduceIte, Nat.reduceEqDiff, Nat.reduceLT, Nat.reduceLeDiff, Nat.reduceAdd, reduceCtorEq, Nat.reduceMul, f0, f1, f2, f3, f4, f18, f20]
        refine ⟨l2, ?_⟩; have hfin := hs1.trans hl2; (repeat' apply And.intro) <;> first | rfl | assumption | exact hfin.1 | exact hfin.2
      · refine AW.seq_k fun K17 h17 => ?_
        all_goals refine AW.reg0 ?_
        all_goals iterate 2 (refine S.g rfl rfl fun K' k' => ?_; simp only [zz, reduceIte, Nat.reduceEqDiff, Nat.reduceAdd, f0, f1, f2, f3, f4, f18, f20]; refine k' _ _ ?_; clear k' K')
        all_goals (refine S.g rfl rfl fun K' k' => ?_; simp only [zz, reduceIte, Nat.reduceEqDiff, Nat.reduceLT, Nat.reduceLeDiff, Nat.reduceAdd, reduceCtorEq, Nat.reduceMul, f0, f1, f2, f3, f4, f18, f20]; refine S.bool fun b a180 => ?_; cases b <;> (try (exfalso; first | exact Bool.noConfusion a180 | (have h := of_decide_eq_true a180; omega) | (have h := of_decide_eq_false a180; omega))) <;> (refine k' _ _ ?_; clear k' K'))
        all_goals (refine S.g rfl rfl fun K' k' => ?_; simp only [zz, reduceIte, Nat.reduceEqDiff, Nat.reduceAdd, f0, f1, f2, f3, f4, f18, f20]; refine k' _ _ ?_; clear k' K')
        all_goals iterate 3 (first | (refine S.y rfl rfl rfl rfl fun K' k' => ?_; simp only [zz, reduceIte, Nat.reduceEqDiff, Nat.reduceAdd, f0, f1, f2, f3, f4, f18, f20]; refine k' _ _ ?_; clear k' K') | ((first | refine S.x rfl rfl rfl rfl fun K' k' => ?_ | refine S.u rfl rfl rfl rfl fun K' k' => ?_); simp only [ze, reduceIte, Nat.reduceEqDiff]; refine k' _ _ ?_; clear k' K'))
        all_goals (refine S.g rfl rfl fun K' k' => ?_; simp only [zz, reduceIte, Nat.reduceEqDiff, Nat.reduceAdd, f0, f1, f2, f3, f4, f18, f20]; refine k' _ _ ?_; clear k' K')
        all_goals refine S.nil ?_
        all_goals simp only [ze, reduceIte, Nat.reduceEqDiff, Nat.reduceLT, Nat.reduceLeDiff, Nat.reduceAdd, reduceCtorEq, Nat.reduceMul, f0, f1, f2, f3, f4, f18, f20]
        all_goals apply_assumption
        refine AW.cond (b := false) (by simp [ev]; try omega) (fun hc => by cases hc) (fun hc => AW.skip ?_)
        all_goals simp only [zs, reduceIte, Nat.reduceEqDiff, Nat.reduceLT, Nat.reduceLeDiff, Nat.reduceAdd, reduceCtorEq, Nat.reduceMul]
        refine ⟨l1, ?_⟩; have hfin := hs1; (repeat' apply And.intro) <;> first | rfl | assumption | exact hfin.1 | exact hfin.2
    · refine AW.seq_k fun K18 h18 => ?_
      all_goals refine AW.reg0 ?_
      all_goals iterate 2 (refine S.g rfl rfl fun K' k' => ?_; simp only [zz, reduceIte, Nat.reduceEqDiff, Nat.reduceAdd, f0, f1, f2, f3, f4, f18, f20]; refine k' _ _ ?_; clear k' K')
      all_goals (refine S.g rfl rfl fun K' k' => ?_; simp only [zz, reduceIte, Nat.reduceEqDiff, Nat.reduceLT, Nat.reduceLeDiff, Nat.reduceAdd, reduceCtorEq, Nat.reduceMul, f0, f1, f2, f3, f4, f18, f20]; refine S.bool fun b a180 => ?_; cases b <;> (try (exfalso; first | exact Bool.noConfusion a180 | (have h := of_decide_eq_true a180; omega) | (have h := of_decide_eq_false a180; omega))) <;> (refine k' _ _ ?_; clear k' K'))
      all_goals (refine S.g rfl rfl fun K' k' => ?_; simp only [zz, reduceIte, Nat.reduceEqDiff, Nat.reduceAdd, f0, f1, f2, f3, f4, f18, f20]; refine k' _ _ ?_; clear k' K')
      all_goals iterate 3 (first | (refine S.y rfl rfl rfl rfl fun K' k' => ?_; simp only [zz, reduceIte, Nat.reduceEqDiff, Nat.reduceAdd, f0, f1, f2, f3, f4, f18, f20]; refine k' _ _ ?_; clear k' K') | ((first | refine S.x rfl rfl rfl rfl fun K' k' => ?_ | refine S.u rfl rfl rfl rfl fun K' k' => ?_); simp only [ze, reduceIte, Nat.reduceEqDiff]; refine k' _ _ ?_; clear k' K'))
      all_goals (refine S.g rfl rfl fun K' k' => ?_; simp only [zz, reduceIte, Nat.reduceEqDiff, Nat.reduceAdd, f0, f1, f2, f3, f4, f18, f20]; refine k' _ _ ?_; clear k' K')
      all_goals refine S.nil ?_
      all_goals simp only [ze, reduceIte, Nat.reduceEqDiff, Nat.reduceLT, Nat.reduceLeDiff, Nat.reduceAdd, reduceCtorEq, Nat.reduceMul, f0, f1, f2, f3, f4, f18, f20]
      all_goals apply_assumption
      refine AW.cond (b := false) (by simp [ev]; try omega) (fun hc => by cases hc) (fun hc => AW.skip ?_)
      all_goals simp only [zs, reduceIte, Nat.reduceEqDiff, Nat.reduceLT, Nat.reduceLeDiff, Nat.reduceAdd, reduceCtorEq, Nat.reduceMul]
      refine ⟨l1, ?_⟩; have hfin := hs1; (repeat' apply And.intro) <;> first | rfl | assumption | exact hfin.1 | exact hfin.2
  clear f0 f1 f2 f3 f4 f18 f19 f20 hs1
  rintro s2 σ2 ⟨l2, f0, f1, f3, f4, f18, f20, f24, rfl, hs2⟩
  refine AW.seq_j (fun s σ => ∃ l', s.t 0 = .gl k ∧ s.t 3 = .c (.int .i64 b) ∧ s.t 4 = .fn (.func 64) [] [] ∧ s.t 18 = .c (.int .i64 mid) ∧ s.t 24 = .c (.int .i64 ((n - st : Nat) : Int)) ∧ σ = hpB k l' ∧ Sub l0 l') ?_ ?_
  · by_cases hc1 : a < st
    · by_cases hc2 : st < mid
      · refine AW.seq_k fun K19 h19 => ?_
        all_goals refine AW.reg0 ?_
        all_goals iterate 2 (refine S.g rfl rfl fun K' k' => ?_; simp only [zz, reduceIte, Nat.reduceEqDiff, Nat.reduceAdd, f0, f1, f3, f4, f18, f20, f24]; refine k' _ _ ?_; clear k' K')
        all_goals (refine S.g rfl rfl fun K' k' => ?_; simp only [zz, reduceIte, Nat.reduceEqDiff, Nat.reduceLT, Nat.reduceLeDiff, Nat.reduceAdd, reduceCtorEq, Nat.reduceMul, f0, f1, f3, f4, f18, f20, f24]; refine S.bool fun b a194 => ?_; cases b <;> (try (exfalso; first | exact Bool.noConfusion a194 | (have h := of_decide_eq_true a194; omega) | (have h := of_decide_eq_false a194; omega))) <;> (refine k' _ _ ?_; clear k' K'))
        all_goals (refine S.g rfl rfl fun K' k' => ?_; simp only [zz, reduceIte, Nat.reduceEqDiff, Nat.reduceAdd, f0, f1, f3, f4, f18, f20, f24]; refine k' _ _ ?_; clear k' K')
        all_goals iterate 3 (first | (refine S.y rfl rfl rfl rfl fun K' k' => ?_; simp only [zz, reduceIte, Nat.reduceEqDiff, Nat.reduceAdd, f0, f1, f3, f4, f18, f20, f24]; refine k' _ _ ?_; clear k' K') | ((first | refine S.x rfl rfl rfl rfl fun K' k' => ?_ | refine S.u rfl rfl rfl rfl fun K' k' => ?_); simp only [ze, reduceIte, Nat.reduceEqDiff]; refine k' _ _ ?_; clear k' K'))
        all_goals (refine S.g rfl rfl fun K' k' => ?_; simp only [zz, reduceIte, Nat.reduceEqDiff, Nat.reduceAdd, f0, f1, f3, f4, f18, f20, f24]; refine k' _ _ ?_; clear k' K')
        all_goals refine S.nil ?_
        all_goals simp only [ze, reduceIte, Nat.reduceEqDiff, Nat.reduceLT, Nat.reduceLeDiff, Nat.reduceAdd, reduceCtorEq, Nat.reduceMul, f0, f1, f3, f4, f18, f20, f24]
        all_goals apply_assumption
        refine AW.cond (b := true) (by simp [ev]; try omega) (fun hc => ?_) (fun hc => by cases hc)
        all_goals refine AW.reg0 ?_
        all_goals iterate 5 (refine S.g rfl rfl fun K' k' => ?_; simp only [zz, reduceIte, Nat.reduceEqDiff, Nat.reduceAdd, f0, f1, f3, f4, f18, f20]; refine k' _ _ ?_; clear k' K')
        all_goals (refine S.g rfl rfl fun K' k' => ?_; simp only [zz, reduceIte, Nat.reduceEqDiff, Nat.reduceLT, Nat.reduceLeDiff, Nat.reduceAdd, reduceCtorEq, Nat.reduceMul, f0, f1, f3, f4, f18, f20]; refine (ih l2 a st mid (by omega) (by omega) (by omega) (by rw [hs2.1]; omega) (by rw [hs2.1]; omega)).to fun v σ1 hv => ?_; obtain ⟨rfl, l3, hl3, rfl⟩ := hv <;> (refine k' _ _ ?_; clear k' K'))
        all_goals refine S.nil ?_
        all_goals simp only [ze, reduceIte, Nat.reduceEqDiff, Nat.reduceLT, Nat.reduceLeDiff, Nat.reduceAdd, reduceCtorEq, Nat.reduceMul, f0, f1, f3, f4, f18, f20]
        refine ⟨l3, ?_⟩; have hfin := hs2.trans hl3; (repeat' apply And.intro) <;> first | rfl | assumption | exact hfin.1 | exact hfin.2
      · refine AW.seq_k fun K20 h20 => ?_
        all_goals refine AW.reg0 ?_
        all_goals iterate 2 (refine S.g rfl rfl fun K' k' => ?_; simp only [zz, reduceIte, Nat.reduceEqDiff, Nat.reduceAdd, f0, f1, f3, f4, f18, f20, f24]; refine k' _ _ ?_; clear k' K')
        all_goals (refine S.g rfl rfl fun K' k' => ?_; simp only [zz, reduceIte, Nat.reduceEqDiff, Nat.reduceLT, Nat.reduceLeDiff, Nat.reduceAdd, reduceCtorEq, Nat.reduceMul, f0, f1, f3, f4, f18, f20, f24]; refine S.bool fun b a194 => ?_; cases b <;> (try (exfalso; first | exact Bool.noConfusion a194 | (have h := of_decide_eq_true a194; omega) | (have h := of_decide_eq_false a194; omega))) <;> (refine k' _ _ ?_; clear k' K'))
        all_goals (refine S.g rfl rfl fun K' k' => ?_; simp only [zz, reduceIte, Nat.reduceEqDiff, Nat.reduceAdd, f0, f1, f3, f4, f18, f20, f24]; refine k' _ _ ?_; clear k' K')
        all_goals iterate 3 (first | (refine S.y rfl rfl rfl rfl fun K' k' => ?_; simp only [zz, reduceIte, Nat.reduceEqDiff, Nat.reduceAdd, f0, f1, f3, f4, f18, f20, f24]; refine k' _ _ ?_; clear k' K') | ((first | refine S.x rfl rfl rfl rfl fun K' k' => ?_ | refine S.u rfl rfl rfl rfl fun K' k' => ?_); simp only [ze, reduceIte, Nat.reduceEqDiff]; refine k' _ _ ?_; clear k' K'))
        all_goals (refine S.g rfl rfl fun K' k' => ?_; simp only [zz, reduceIte, Nat.reduceEqDiff, Nat.reduceAdd, f0, f1, f3, f4, f18, f20, f24]; refine k' _ _ ?_; clear k' K')
        all_goals refine S.nil ?_
        all_goals simp only [ze, reduceIte, Nat.reduceEqDiff, Nat.reduceLT, Nat.reduceLeDiff, Nat.reduceAdd, reduceCtorEq, Nat.reduceMul, f0, f1, f3, f4, f18, f20, f24]
        all_goals apply_assumption
        refine AW.cond (b := false) (by simp [ev]; try omega) (fun hc => by cases hc) (fun hc => AW.skip ?_)
        all_goals simp only [zs, reduceIte, Nat.reduceEqDiff, Nat.reduceLT, Nat.reduceLeDiff, Nat.reduceAdd, reduceCtorEq, Nat.reduceMul]
        refine ⟨l2, ?_⟩; have hfin := hs2; (repeat' apply And.intro) <;> first | rfl | assumption | exact hfin.1 | exact hfin.2
    · refine AW.seq_k fun K21 h21 => ?_
      all_goals refine AW.reg0 ?_
      all_goals iterate 2 (refine S.g rfl rfl fun K' k' => ?_; simp only [zz, reduceIte, Nat.reduceEqDiff, Nat.reduceAdd, f0, f1, f3, f4, f18, f20, f24]; refine k' _ _ ?_; clear k' K')
      all_goals (refine S.g rfl rfl fun K' k' => ?_; simp only [zz, reduceIte, Nat.reduceEqDiff, Nat.reduceLT, Nat.reduceLeDiff, Nat.reduceAdd, reduceCtorEq, Nat.reduceMul, f0, f1, f3, f4, f18, f20, f24]; refine S.bool fun b a194 => ?_; cases b <;> (try (exfalso; first | exact Bool.noConfusion a194 | (have h := of_decide_eq_true a194; omega) | (have h := of_decide_eq_false a194; omega))) <;> (refine k' _ _ ?_; clear k' K'))
      all_goals (refine S.g rfl rfl fun K' k' => ?_; simp only [zz, reduceIte, Nat.reduceEqDiff, Nat.reduceAdd, f0, f1, f3, f4, f18, f20, f24]; refine k' _ _ ?_; clear k' K')
      all_goals iterate 3 (first | (refine S.y rfl rfl rfl rfl fun K' k' => ?_; simp only [zz, reduceIte, Nat.reduceEqDiff, Nat.reduceAdd, f0, f1, f3, f4, f18, f20, f24]; refine k' _ _ ?_; clear k' K') | ((first | refine S.x rfl rfl rfl rfl fun K' k' => ?_ | refine S.u rfl rfl rfl rfl fun K' k' => ?_); simp only [ze, reduceIte, Nat.reduceEqDiff]; refine k' _ _ ?_; clear k' K'))
      all_goals (refine S.g rfl rfl fun K' k' => ?_; simp only [zz, reduceIte, Nat.reduceEqDiff, Nat.reduceAdd, f0, f1, f3, f4, f18, f20, f24]; refine k' _ _ ?_; clear k' K')
      all_goals refine S.nil ?_
      all_goals simp only [ze, reduceIte, Nat.reduceEqDiff, Nat.reduceLT, Nat.reduceLeDiff, Nat.reduceAdd, reduceCtorEq, Nat.reduceMul, f0, f1, f3, f4, f18, f20, f24]
      all_goals apply_assumption
      refine AW.cond (b := false) (by simp [ev]; try omega) (fun hc => by cases hc) (fun hc => AW.skip ?_)
      all_goals simp only [zs, reduceIte, Nat.reduceEqDiff, Nat.reduceLT, Nat.reduceLeDiff, Nat.reduceAdd, reduceCtorEq, Nat.reduceMul]
      refine ⟨l2, ?_⟩; have hfin := hs2; (repeat' apply And.intro) <;> first | rfl | assumption | exact hfin.1 | exact hfin.2
  clear f0 f1 f3 f4 f18 f20 f24 hs2
  rintro s3 σ3 ⟨l3, f0, f3, f4, f18, f24, rfl, hs3⟩
  by_cases hc1 : mid < n - st
  · by_cases hc2 : n - st < b
    · refine AW.seq_k fun K22 h22 => ?_
      all_goals refine AW.reg0 ?_
      all_goals iterate 2 (refine S.g rfl rfl fun K' k' => ?_; simp only [zz, reduceIte, Nat.reduceEqDiff, Nat.reduceAdd, f0, f3, f4, f18, f24]; refine k' _ _ ?_; clear k' K')
      all_goals (refine S.g rfl rfl fun K' k' => ?_; simp only [zz, reduceIte, Nat.reduceEqDiff, Nat.reduceLT, Nat.reduceLeDiff, Nat.reduceAdd, reduceCtorEq, Nat.reduceMul, f0, f3, f4, f18, f24]; refine S.bool fun b a208 => ?_; cases b <;> (try (exfalso; first | exact Bool.noConfusion a208 | (have h := of_decide_eq_true a208; omega) | (have h := of_decide_eq_false a208; omega))) <;> (refine k' _ _ ?_; clear k' K'))
      all_goals (refine S.g rfl rfl fun K' k' => ?_; simp only [zz, reduceIte, Nat.reduceEqDiff, Nat.reduceAdd, f0, f3, f4, f18, f24]; refine k' _ _ ?_; clear k' K')
      all_goals iterate 3 (first | (refine S.y rfl rfl rfl rfl fun K' k' => ?_; simp only [zz, reduceIte, Nat.reduceEqDiff, Nat.reduceAdd, f0, f3, f4, f18, f24]; refine k' _ _ ?_; clear k' K') | ((first | refine S.x rfl rfl rfl rfl fun K' k' => ?_ | refine S.u rfl rfl rfl rfl fun K' k' => ?_); simp only [ze, reduceIte, Nat.reduceEqDiff]; refine k' _ _ ?_; clear k' K'))
      all_goals (refine S.g rfl rfl fun K' k' => ?_; simp only [zz, reduceIte, Nat.reduceEqDiff, Nat.reduceAdd, f0, f3, f4, f18, f24]; refine k' _ _ ?_; clear k' K')
      all_goals refine S.nil ?_
      all_goals simp only [ze, reduceIte, Nat.reduceEqDiff, Nat.reduceLT, Nat.reduceLeDiff, Nat.reduceAdd, reduceCtorEq, Nat.reduceMul, f0, f3, f4, f18, f24]
      all_goals apply_assumption
      refine AW.cond (b := true) (by simp [ev]; try omega) (fun hc => ?_) (fun hc => by cases hc)
      all_goals refine AW.reg0 ?_
      all_goals iterate 5 (refine S.g rfl rfl fun K' k' => ?_; simp only [zz, reduceIte, Nat.reduceEqDiff, Nat.reduceAdd, f0, f3, f4, f18, f24]; refine k' _ _ ?_; clear k' K')
      all_goals (refine S.g rfl rfl fun K' k' => ?_; simp only [zz, reduceIte, Nat.reduceEqDiff, Nat.reduceLT, Nat.reduceLeDiff, Nat.reduceAdd, reduceCtorEq, Nat.reduceMul, f0, f3, f4, f18, f24]; refine (ih l3 mid (n - st) b (by omega) (by omega) (by omega) (by rw [hs3.1]; omega) (by rw [hs3.1]; omega)).to fun v σ1 hv => ?_; obtain ⟨rfl, l4, hl4, rfl⟩ := hv <;> (refine k' _ _ ?_; clear k' K'))
      all_goals refine S.nil ?_
      all_goals simp only [ze, reduceIte, Nat.reduceEqDiff, Nat.reduceLT, Nat.reduceLeDiff, Nat.reduceAdd, reduceCtorEq, Nat.reduceMul, f0, f3, f4, f18, f24]
      exact ⟨rfl, l4, hs3.trans hl4, rfl⟩
    · refine AW.seq_k fun K23 h23 => ?_
      all_goals refine AW.reg0 ?_
      all_goals iterate 2 (refine S.g rfl rfl fun K' k' => ?_; simp only [zz, reduceIte, Nat.reduceEqDiff, Nat.reduceAdd, f0, f3, f4, f18, f24]; refine k' _ _ ?_; clear k' K')
      all_goals (refine S.g rfl rfl fun K' k' => ?_; simp only [zz, reduceIte, Nat.reduceEqDiff, Nat.reduceLT, Nat.reduceLeDiff, Nat.reduceAdd, reduceCtorEq, Nat.reduceMul, f0, f3, f4, f18, f24]; refine S.bool fun b a208 => ?_; cases b <;> (try (exfalso; first | exact Bool.noConfusion a208 | (have h := of_decide_eq_true a208; omega) | (have h := of_decide_eq_false a208; omega))) <;> (refine k' _ _ ?_; clear k' K'))
      all_goals (refine S.g rfl rfl fun K' k' => ?_; simp only [zz, reduceIte, Nat.reduceEqDiff, Nat.reduceAdd, f0, f3, f4, f18, f24]; refine k' _ _ ?_; clear k' K')
      all_goals iterate 3 (first | (refine S.y rfl rfl rfl rfl fun K' k' => ?_; simp only [zz, reduceIte, Nat.reduceEqDiff, Nat.reduceAdd, f0, f3, f4, f18, f24]; refine k' _ _ ?_; clear k' K') | ((first | refine S.x rfl rfl rfl rfl fun K' k' => ?_ | refine S.u rfl rfl rfl rfl fun K' k' => ?_); simp only [ze, reduceIte, Nat.reduceEqDiff]; refine k' _ _ ?_; clear k' K'))
      all_goals (refine S.g rfl rfl fun K' k' => ?_; simp only [zz, reduceIte, Nat.reduceEqDiff, Nat.reduceAdd, f0, f3, f4, f18, f24]; refine k' _ _ ?_; clear k' K')
      all_goals refine S.nil ?_
      all_goals simp only [ze, reduceIte, Nat.reduceEqDiff, Nat.reduceLT, Nat.reduceLeDiff, Nat.reduceAdd, reduceCtorEq, Nat.reduceMul, f0, f3, f4, f18, f24]
      all_goals apply_assumption
      refine AW.cond (b := false) (by simp [ev]; try omega) (fun hc => by cases hc) (fun hc => AW.skip ?_)
      all_goals simp only [zs, reduceIte, Nat.reduceEqDiff, Nat.reduceLT, Nat.reduceLeDiff, Nat.reduceAdd, reduceCtorEq, Nat.reduceMul]
      exact ⟨rfl, l3, hs3, rfl⟩
  · refine AW.seq_k fun K24 h24 => ?_
    all_goals refine AW.reg0 ?_
    all_goals iterate 2 (refine S.g rfl rfl fun K' k' => ?_; simp only [zz, reduceIte, Nat.reduceEqDiff, Nat.reduceAdd, f0, f3, f4, f18, f24]; refine k' _ _ ?_; clear k' K')
    all_goals (refine S.g rfl rfl fun K' k' => ?_; simp only [zz, reduceIte, Nat.reduceEqDiff, Nat.reduceLT, Nat.reduceLeDiff, Nat.reduceAdd, reduceCtorEq, Nat.reduceMul, f0, f3, f4, f18, f24]; refine S.bool fun b a208 => ?_; cases b <;> (try (exfalso; first | exact Bool.noConfusion a208 | (have h := of_decide_eq_true a208; omega) | (have h := of_decide_eq_false a208; omega))) <;> (refine k' _ _ ?_; clear k' K'))
    all_goals (refine S.g rfl rfl fun K' k' => ?_; simp only [zz, reduceIte, Nat.reduceEqDiff, Nat.reduceAdd, f0, f3, f4, f18, f24]; refine k' _ _ ?_; clear k' K')
    all_goals iterate 3 (first | (refine S.y rfl rfl rfl rfl fun K' k' => ?_; simp only [zz, reduceIte, Nat.reduceEqDiff, Nat.reduceAdd, f0, f3, f4, f18, f24]; refine k' _ _ ?_; clear k' K') | ((first | refine S.x rfl rfl rfl rfl fun K' k' => ?_ | refine S.u rfl rfl rfl rfl fun K' k' => ?_); simp only [ze, reduceIte, Nat.reduceEqDiff]; refine k' _ _ ?_; clear k' K'))
    all_goals (refine S.g rfl rfl fun K' k' => ?_; simp only [zz, reduceIte, Nat.reduceEqDiff, Nat.reduceAdd, f0, f3, f4, f18, f24]; refine k' _ _ ?_; clear k' K')
    all_goals refine S.nil ?_
    all_goals simp only [ze, reduceIte, Nat.reduceEqDiff, Nat.reduceLT, Nat.reduceLeDiff, Nat.reduceAdd, reduceCtorEq, Nat.reduceMul, f0, f3, f4, f18, f24]
    all_goals apply_assumption
    refine AW.cond (b := false) (by simp [ev]; try omega) (fun hc => by cases hc) (fun hc => AW.skip ?_)
    all_goals simp only [zs, reduceIte, Nat.reduceEqDiff, Nat.reduceLT, Nat.reduceLeDiff, Nat.reduceAdd, reduceCtorEq, Nat.reduceMul]
    exact ⟨rfl, l3, hs3, rfl⟩
end Go.Abs.M
namespace Go.Abs.M
open Go Go.Abs Go.Proofs
set_option maxRecDepth 20000
set_option linter.unusedSimpArgs false
set_option linter.unusedVariables false
theorem sink_sub (lo : Nat) : ∀ (j : Nat) (l0 l : List Bd), Sub l0 l → Sub l0 (sink lo j l) := by
  intro j
  induction j with
  | zero => exact fun _ _ h => h
  | succ j ih =>
    intro l0 l h
    simp only [sink]
    split
    · rename_i x y hx hy
      split
      · exact ih l0 _ (h.swap hx hy)
      · exact h
    · exact h
theorem insFrom_sub (lo : Nat) : ∀ (m i : Nat) (l0 l : List Bd), Sub l0 l → Sub l0 (insFrom lo l i m) := by
  intro m
  induction m with
  | zero => exact fun _ _ _ h => h
  | succ m ih =>
    intro i l0 l h
    simp only [insFrom, List.range'_succ, List.foldl_cons]
    exact ih (i + 1) l0 _ (sink_sub lo i l0 l h)
theorem insort_sub (lo hi : Nat) (l : List Bd) : Sub l (insort lo hi l) := insFrom_sub lo _ _ l l (Sub.refl l)
theorem stable_weak (l0 : List Bd) (k : Nat) (hn : l0.length < 2147483648) :
    ACalls Try.prog 104 [.gl k, .c (.int .i64 l0.length), .fn (.func 64) [] []] (hpB k l0) (hpS k l0) := by
  refine ACalls.intro Try.call104 Try.func104 rfl Try.ntmps104 Try.results104 (by simp) ?_
  refine AW.seq_k fun K1 h1 => ?_
  all_goals refine AW.reg0 ?_
  all_goals (refine S.g rfl rfl fun K' k' => ?_; simp only [zz, reduceIte, Nat.reduceEqDiff, Nat.reduceAdd]; refine k' _ _ ?_; clear k' K')
  all_goals refine S.nil ?_
  all_goals simp only [ze, reduceIte, Nat.reduceEqDiff, Nat.reduceLT, Nat.reduceLeDiff, Nat.reduceAdd, reduceCtorEq, Nat.reduceMul]
  all_goals apply_assumption
  refine AW.seq_k fun K2 h2 => ?_
  all_goals refine AW.reg0 ?_
  all_goals iterate 3 (refine S.g rfl rfl fun K' k' => ?_; simp only [zz, reduceIte, Nat.reduceEqDiff, Nat.reduceAdd]; refine k' _ _ ?_; clear k' K')
  all_goals refine S.nil ?_
  all_goals simp only [ze, reduceIte, Nat.reduceEqDiff, Nat.reduceLT, Nat.reduceLeDiff, Nat.reduceAdd, reduceCtorEq, Nat.reduceMul]
  all_goals apply_assumption
  refine AW.seq_j (fun s σ => ∃ a l', a ≤ l0.length ∧ s.t 0 = .gl k ∧ s.t 1 = .c (.int .i64 l0.length) ∧ s.t 2 = .fn (.func 64) [] [] ∧ s.t 6 = .c (.int .i64 ((20 : Nat) : Int)) ∧ s.t 7 = .c (.int .i64 (a : Nat)) ∧ σ = hpB k l' ∧ Sub l0 l') ?_ ?_
  · refine AW.block ?_   -- 0
    refine AW.loop (fun m s σ => ∃ a b l', m + a = l0.length ∧ b = a + 20 ∧ s.t 0 = .gl k ∧ s.t 1 = .c (.int .i64 l0.length) ∧ s.t 2 = .fn (.func 64) [] [] ∧ s.t 6 = .c (.int .i64 ((20 : Nat) : Int)) ∧ s.t 7 = .c (.int .i64 (a : Nat)) ∧ s.t 8 = .c (.int .i64 (b : Nat)) ∧ σ = hpB k l' ∧ Sub l0 l') l0.length ?_ ?_
    · refine ⟨0, 20, l0, rfl, rfl, ?_⟩
      all_goals simp only [zs, reduceIte, Nat.reduceEqDiff, Nat.reduceLT, Nat.reduceLeDiff, Nat.reduceAdd, reduceCtorEq, Nat.reduceMul]
      exact ⟨rfl, rfl, rfl, rfl, fun _ h => h⟩
    rintro m s σ ⟨a, b, l', hm, hab, e0, e1, e2, e6, e7, e8, rfl, hs⟩
    refine AW.seq_k fun K3 h3 => ?_
    refine AW.seq_k fun K4 h4 => ?_
    all_goals refine AW.reg0 ?_
    all_goals iterate 3 (refine S.g rfl rfl fun K' k' => ?_; simp only [zz, reduceIte, Nat.reduceEqDiff, Nat.reduceAdd, e1, e8]; refine k' _ _ ?_; clear k' K')
    all_goals refine S.nil ?_
    all_goals simp only [ze, reduceIte, Nat.reduceEqDiff, Nat.reduceLT, Nat.reduceLeDiff, Nat.reduceAdd, reduceCtorEq, Nat.reduceMul, e1, e8]
    all_goals apply_assumption
    refine AW.cond (b := decide (b ≤ l0.length)) (by simp [ev]) (fun hc => ?_) (fun hc => ?_)
    · have hc := of_decide_eq_true hc
      refine AW.skip ?_
      all_goals simp only [zs, reduceIte, Nat.reduceEqDiff, Nat.reduceLT, Nat.reduceLeDiff, Nat.reduceAdd, reduceCtorEq, Nat.reduceMul]
      all_goals apply_assumption
      have hw : IntKind.i64.wrap ((b : Int) + (20 : Nat)) = ((b + 20 : Nat) : Int) := by rw [wrap_small _ (by omega) (by omega)]; rfl
      refine AW.block ?_   -- 1
      refine AW.seq_k fun K5 h5 => ?_
      all_goals refine AW.reg0 ?_
      all_goals iterate 4 (refine S.g rfl rfl fun K' k' => ?_; simp only [zz, reduceIte, Nat.reduceEqDiff, Nat.reduceAdd, e0, e2, e7, e8]; refine k' _ _ ?_; clear k' K')
      all_goals (refine S.g rfl rfl fun K' k' => ?_; simp only [zz, reduceIte, Nat.reduceEqDiff, Nat.reduceLT, Nat.reduceLeDiff, Nat.reduceAdd, reduceCtorEq, Nat.reduceMul, e0, e2, e7, e8]; refine (insort_spec l' k a b (by omega) (by rw [hs.1]; omega) (by rw [hs.1]; omega)).to fun v σ1 hv => ?_; obtain ⟨rfl, rfl⟩ := hv <;> (refine k' _ _ ?_; clear k' K'))
      all_goals refine S.nil ?_
      all_goals simp only [ze, reduceIte, Nat.reduceEqDiff, Nat.reduceLT, Nat.reduceLeDiff, Nat.reduceAdd, reduceCtorEq, Nat.reduceMul, e0, e2, e7, e8]
      all_goals apply_assumption
      refine AW.seq_k fun K6 h6 => ?_
      all_goals refine AW.reg0 ?_
      all_goals iterate 2 (refine S.g rfl rfl fun K' k' => ?_; simp only [zz, reduceIte, Nat.reduceEqDiff, Nat.reduceAdd, e8]; refine k' _ _ ?_; clear k' K')
      all_goals refine S.nil ?_
      all_goals simp only [ze, reduceIte, Nat.reduceEqDiff, Nat.reduceLT, Nat.reduceLeDiff, Nat.reduceAdd, reduceCtorEq, Nat.reduceMul, e8]
      all_goals apply_assumption
      all_goals refine AW.reg0 ?_
      all_goals iterate 4 (refine S.g rfl rfl fun K' k' => ?_; simp only [zz, reduceIte, Nat.reduceEqDiff, Nat.reduceAdd, e8, e6, hw]; refine k' _ _ ?_; clear k' K')
      all_goals refine S.nil ?_
      all_goals simp only [ze, reduceIte, Nat.reduceEqDiff, Nat.reduceLT, Nat.reduceLeDiff, Nat.reduceAdd, reduceCtorEq, Nat.reduceMul, e8, e6, hw]
      exact ⟨m - 20, by omega, b, b + 20, _, by omega, rfl, e0, e1, e2, rfl, rfl, rfl, hs.trans (insort_sub a b l')⟩
    · have hc := of_decide_eq_false hc
      refine AW.exit ?_
      all_goals simp only [zs, reduceIte, Nat.reduceEqDiff, Nat.reduceLT, Nat.reduceLeDiff, Nat.reduceAdd, reduceCtorEq, Nat.reduceMul]
      exact ⟨a, l', by omega, e0, e1, e2, e6, e7, rfl, hs⟩
  rintro s0 σ0 ⟨a, l', ha, e0, e1, e2, e6, e7, rfl, hs⟩
  refine AW.seq_k fun K7 h7 => ?_
  all_goals refine AW.reg0 ?_
  all_goals iterate 4 (refine S.g rfl rfl fun K' k' => ?_; simp only [zz, reduceIte, Nat.reduceEqDiff, Nat.reduceAdd, e0, e1, e2, e7]; refine k' _ _ ?_; clear k' K')
  all_goals (refine S.g rfl rfl fun K' k' => ?_; simp only [zz, reduceIte, Nat.reduceEqDiff, Nat.reduceLT, Nat.reduceLeDiff, Nat.reduceAdd, reduceCtorEq, Nat.reduceMul, e0, e1, e2, e7]; refine (insort_spec l' k a l0.length (by omega) (by rw [hs.1]; omega) (by rw [hs.1]; omega)).to fun v σ1 hv => ?_; obtain ⟨rfl, rfl⟩ := hv <;> (refine k' _ _ ?_; clear k' K'))
  all_goals refine S.nil ?_
  all_goals simp only [ze, reduceIte, Nat.reduceEqDiff, Nat.reduceLT, Nat.reduceLeDiff, Nat.reduceAdd, reduceCtorEq, Nat.reduceMul, e0, e1, e2, e7]
  all_goals apply_assumption
  have hs2 := hs.trans (insort_sub a l0.length l')
  generalize insort a l0.length l' = l1 at hs2 ⊢
  clear hs
  refine AW.block ?_   -- 2
  refine AW.loop (fun m s σ => ∃ c l', m = l0.length - c ∧ 20 ≤ c ∧ c < 4294967296 ∧ s.t 0 = .gl k ∧ s.t 1 = .c (.int .i64 l0.length) ∧ s.t 2 = .fn (.func 64) [] [] ∧ s.t 6 = .c (.int .i64 (c : Nat)) ∧ σ = hpB k l' ∧ Sub l0 l') (l0.length - 20) ?_ ?_
  · refine ⟨20, l1, rfl, by omega, by omega, ?_⟩
    all_goals simp only [zs, reduceIte, Nat.reduceEqDiff, Nat.reduceLT, Nat.reduceLeDiff, Nat.reduceAdd, reduceCtorEq, Nat.reduceMul]
    exact ⟨e0, e1, e2, e6, hs2⟩
  clear e0 e1 e2 e6 e7 hs2 ha
  rintro m s σ ⟨c, l', hm, hc1, hc2, e0, e1, e2, e6, rfl, hs⟩
  refine AW.seq_k fun K8 h8 => ?_
  refine AW.seq_k fun K9 h9 => ?_
  all_goals refine AW.reg0 ?_
  all_goals iterate 3 (refine S.g rfl rfl fun K' k' => ?_; simp only [zz, reduceIte, Nat.reduceEqDiff, Nat.reduceAdd, e1, e6]; refine k' _ _ ?_; clear k' K')
  all_goals refine S.nil ?_
  all_goals simp only [ze, reduceIte, Nat.reduceEqDiff, Nat.reduceLT, Nat.reduceLeDiff, Nat.reduceAdd, reduceCtorEq, Nat.reduceMul, e1, e6]
  all_goals apply_assumption
  refine AW.cond (b := decide (c < l0.length)) (by simp [ev]) (fun hc => ?_) (fun hc => ?_)
  · have hc := of_decide_eq_true hc
    refine AW.skip ?_
    all_goals simp only [zs, reduceIte, Nat.reduceEqDiff, Nat.reduceLT, Nat.reduceLeDiff, Nat.reduceAdd, reduceCtorEq, Nat.reduceMul]
    all_goals apply_assumption
    have hw : IntKind.i64.wrap (2 * (c : Int)) = ((2 * c : Nat) : Int) := by rw [wrap_small _ (by omega) (by omega)]; rfl
    have hw' : IntKind.i64.wrap ((c : Int) * 2) = ((2 * c : Nat) : Int) := by rw [wrap_small _ (by omega) (by omega)]; omega
    refine AW.block ?_   -- 3
    refine AW.seq_k fun K10 h10 => ?_
    all_goals refine AW.reg0 ?_
    all_goals iterate 4 (refine S.g rfl rfl fun K' k' => ?_; simp only [zz, reduceIte, Nat.reduceEqDiff, Nat.reduceAdd, e6, hw]; refine k' _ _ ?_; clear k' K')
    all_goals refine S.nil ?_
    all_goals simp only [ze, reduceIte, Nat.reduceEqDiff, Nat.reduceLT, Nat.reduceLeDiff, Nat.reduceAdd, reduceCtorEq, Nat.reduceMul, e6, hw]
    all_goals apply_assumption
    refine AW.seq_j (fun s σ => ∃ a l', a ≤ l0.length ∧ s.t 0 = .gl k ∧ s.t 1 = .c (.int .i64 l0.length) ∧ s.t 2 = .fn (.func 64) [] [] ∧ s.t 6 = .c (.int .i64 (c : Nat)) ∧ s.t 7 = .c (.int .i64 (a : Nat)) ∧ σ = hpB k l' ∧ Sub l0 l') ?_ ?_
    · refine AW.block ?_   -- 4
      refine AW.loop (fun m s σ => ∃ a b l', m + a = l0.length ∧ b = a + 2 * c ∧ s.t 0 = .gl k ∧ s.t 1 = .c (.int .i64 l0.length) ∧ s.t 2 = .fn (.func 64) [] [] ∧ s.t 6 = .c (.int .i64 (c : Nat)) ∧ s.t 7 = .c (.int .i64 (a : Nat)) ∧ s.t 8 = .c (.int .i64 (b : Nat)) ∧ σ = hpB k l' ∧ Sub l0 l') l0.length ?_ ?_
      · refine ⟨0, 2 * c, l', rfl, by omega, ?_⟩
        all_goals simp only [zs, reduceIte, Nat.reduceEqDiff, Nat.reduceLT, Nat.reduceLeDiff, Nat.reduceAdd, reduceCtorEq, Nat.reduceMul]
        exact ⟨e0, e1, e2, e6, rfl, hs⟩
      clear hs e0 e1 e2 e6
      rintro m s σ ⟨a, b, l', hm, hab, e0, e1, e2, e6, e7, e8, rfl, hs⟩
      refine AW.seq_k fun K11 h11 => ?_
      refine AW.seq_k fun K12 h12 => ?_
      all_goals refine AW.reg0 ?_
      all_goals iterate 3 (refine S.g rfl rfl fun K' k' => ?_; simp only [zz, reduceIte, Nat.reduceEqDiff, Nat.reduceAdd, e1, e8]; refine k' _ _ ?_; clear k' K')
      all_goals refine S.nil ?_
      all_goals simp only [ze, reduceIte, Nat.reduceEqDiff, Nat.reduceLT, Nat.reduceLeDiff, Nat.reduceAdd, reduceCtorEq, Nat.reduceMul, e1, e8]
      all_goals apply_assumption
      refine AW.cond (b := decide (b ≤ l0.length)) (by simp [ev]) (fun hc => ?_) (fun hc => ?_)
      · have hc := of_decide_eq_true hc
        refine AW.skip ?_
        all_goals simp only [zs, reduceIte, Nat.reduceEqDiff, Nat.reduceLT, Nat.reduceLeDiff, Nat.reduceAdd, reduceCtorEq, Nat.reduceMul]
        all_goals apply_assumption
        have hw3 : IntKind.i64.wrap ((a : Int) + c) = ((a + c : Nat) : Int) := by rw [wrap_small _ (by omega) (by omega)]; rfl
        have hw4 : IntKind.i64.wrap ((b : Int) + (2 * c : Nat)) = ((b + 2 * c : Nat) : Int) := by rw [wrap_small _ (by omega) (by omega)]; rfl
        refine AW.block ?_   -- 5
        refine AW.seq_k fun K13 h13 => ?_
        all_goals refine AW.reg0 ?_
        all_goals iterate 7 (refine S.g rfl rfl fun K' k' => ?_; simp only [zz, reduceIte, Nat.reduceEqDiff, Nat.reduceAdd, e0, e2, e6, e7, e8, hw3]; refine k' _ _ ?_; clear k' K')
        all_goals (refine S.g rfl rfl fun K' k' => ?_; simp only [zz, reduceIte, Nat.reduceEqDiff, Nat.reduceLT, Nat.reduceLeDiff, Nat.reduceAdd, reduceCtorEq, Nat.reduceMul, e0, e2, e6, e7, e8, hw3]; refine (sym_weak k (b - a) l' a (a + c) b (by omega) (by omega) (by omega) (by rw [hs.1]; omega) (by rw [hs.1]; omega)).to fun v σ1 hv => ?_; obtain ⟨rfl, l3, hl3, rfl⟩ := hv <;> (refine k' _ _ ?_; clear k' K'))
        all_goals refine S.nil ?_
        all_goals simp only [ze, reduceIte, Nat.reduceEqDiff, Nat.reduceLT, Nat.reduceLeDiff, Nat.reduceAdd, reduceCtorEq, Nat.reduceMul, e0, e2, e6, e7, e8, hw3]
        all_goals apply_assumption
        refine AW.seq_k fun K14 h14 => ?_
        all_goals refine AW.reg0 ?_
        all_goals iterate 2 (refine S.g rfl rfl fun K' k' => ?_; simp only [zz, reduceIte, Nat.reduceEqDiff, Nat.reduceAdd, e8]; refine k' _ _ ?_; clear k' K')
        all_goals refine S.nil ?_
        all_goals simp only [ze, reduceIte, Nat.reduceEqDiff, Nat.reduceLT, Nat.reduceLeDiff, Nat.reduceAdd, reduceCtorEq, Nat.reduceMul, e8]
        all_goals apply_assumption
        all_goals refine AW.reg0 ?_
        all_goals iterate 5 (refine S.g rfl rfl fun K' k' => ?_; simp only [zz, reduceIte, Nat.reduceEqDiff, Nat.reduceAdd, e8, e6, hw, hw4]; refine k' _ _ ?_; clear k' K')
        all_goals refine S.nil ?_
        all_goals simp only [ze, reduceIte, Nat.reduceEqDiff, Nat.reduceLT, Nat.reduceLeDiff, Nat.reduceAdd, reduceCtorEq, Nat.reduceMul, e8, e6, hw, hw4]
        exact ⟨m - 2 * c, by omega, b, b + 2 * c, _, by omega, rfl, e0, e1, e2, rfl, rfl, rfl, hs.trans hl3⟩
      · have hc := of_decide_eq_false hc
        refine AW.exit ?_
        all_goals simp only [zs, reduceIte, Nat.reduceEqDiff, Nat.reduceLT, Nat.reduceLeDiff, Nat.reduceAdd, reduceCtorEq, Nat.reduceMul]
        exact ⟨a, l', by omega, e0, e1, e2, e6, e7, rfl, hs⟩
    clear hs e0 e1 e2 e6
    rintro s0 σ0 ⟨a, l', ha, e0, e1, e2, e6, e7, rfl, hs⟩
    have hw3 : IntKind.i64.wrap ((a : Int) + c) = ((a + c : Nat) : Int) := by rw [wrap_small _ (by omega) (by omega)]; rfl
    refine AW.seq_k fun K15 h15 => ?_
    refine AW.seq_k fun K16 h16 => ?_
    all_goals refine AW.reg0 ?_
    all_goals iterate 4 (refine S.g rfl rfl fun K' k' => ?_; simp only [zz, reduceIte, Nat.reduceEqDiff, Nat.reduceAdd, e6, e7, hw3]; refine k' _ _ ?_; clear k' K')
    all_goals refine S.nil ?_
    all_goals simp only [ze, reduceIte, Nat.reduceEqDiff, Nat.reduceLT, Nat.reduceLeDiff, Nat.reduceAdd, reduceCtorEq, Nat.reduceMul, e6, e7, hw3]
    all_goals apply_assumption
    refine AW.seq_k fun K17 h17 => ?_
    all_goals refine AW.reg0 ?_
    all_goals iterate 3 (refine S.g rfl rfl fun K' k' => ?_; simp only [zz, reduceIte, Nat.reduceEqDiff, Nat.reduceAdd, e1]; refine k' _ _ ?_; clear k' K')
    all_goals refine S.nil ?_
    all_goals simp only [ze, reduceIte, Nat.reduceEqDiff, Nat.reduceLT, Nat.reduceLeDiff, Nat.reduceAdd, reduceCtorEq, Nat.reduceMul, e1]
    all_goals apply_assumption
    refine AW.cond (b := decide (a + c < l0.length)) (by simp [ev]) (fun hd => ?_) (fun hd => ?_)
    · have hd := of_decide_eq_true hd
      all_goals refine AW.reg0 ?_
      all_goals iterate 5 (refine S.g rfl rfl fun K' k' => ?_; simp only [zz, reduceIte, Nat.reduceEqDiff, Nat.reduceAdd, e0, e1, e2, e7]; refine k' _ _ ?_; clear k' K')
      all_goals (refine S.g rfl rfl fun K' k' => ?_; simp only [zz, reduceIte, Nat.reduceEqDiff, Nat.reduceLT, Nat.reduceLeDiff, Nat.reduceAdd, reduceCtorEq, Nat.reduceMul, e0, e1, e2, e7]; refine (sym_weak k (l0.length - a) l' a (a + c) l0.length (by omega) (by omega) (by omega) (by rw [hs.1]; omega) (by rw [hs.1]; omega)).to fun v σ1 hv => ?_; obtain ⟨rfl, l3, hl3, rfl⟩ := hv <;> (refine k' _ _ ?_; clear k' K'))
      all_goals refine S.nil ?_
      all_goals simp only [ze, reduceIte, Nat.reduceEqDiff, Nat.reduceLT, Nat.reduceLeDiff, Nat.reduceAdd, reduceCtorEq, Nat.reduceMul, e0, e1, e2, e7]
      all_goals apply_assumption
      all_goals refine AW.reg0 ?_
      all_goals iterate 3 (refine S.g rfl rfl fun K' k' => ?_; simp only [zz, reduceIte, Nat.reduceEqDiff, Nat.reduceAdd, e6, hw']; refine k' _ _ ?_; clear k' K')
      all_goals refine S.nil ?_
      all_goals simp only [ze, reduceIte, Nat.reduceEqDiff, Nat.reduceLT, Nat.reduceLeDiff, Nat.reduceAdd, reduceCtorEq, Nat.reduceMul, e6, hw']
      exact ⟨m - c, by omega, 2 * c, _, by omega, by omega, by omega, e0, e1, e2, rfl, rfl, hs.trans hl3⟩
    · refine AW.skip ?_
      all_goals simp only [zs, reduceIte, Nat.reduceEqDiff, Nat.reduceLT, Nat.reduceLeDiff, Nat.reduceAdd, reduceCtorEq, Nat.reduceMul]
      all_goals apply_assumption
      all_goals refine AW.reg0 ?_
      all_goals iterate 3 (refine S.g rfl rfl fun K' k' => ?_; simp only [zz, reduceIte, Nat.reduceEqDiff, Nat.reduceAdd, e6, hw']; refine k' _ _ ?_; clear k' K')
      all_goals refine S.nil ?_
      all_goals simp only [ze, reduceIte, Nat.reduceEqDiff, Nat.reduceLT, Nat.reduceLeDiff, Nat.reduceAdd, reduceCtorEq, Nat.reduceMul, e6, hw']
      exact ⟨m - c, by omega, 2 * c, _, by omega, by omega, by omega, e0, e1, e2, rfl, rfl, hs⟩
  · refine AW.exit ?_
    all_goals simp only [zs, reduceIte, Nat.reduceEqDiff, Nat.reduceLT, Nat.reduceLeDiff, Nat.reduceAdd, reduceCtorEq, Nat.reduceMul]
    exact ⟨rfl, l', hs, rfl⟩
theorem sort_weak (l : List Bd) (k : Nat) (hn : l.length < 2147483648) :
    ACalls Try.prog 63 [.gl k, .fn (.func 64) [] []] (hpB k l) (hpS k l) := by
  refine ACalls.intro Try.call63 Try.func63 rfl Try.ntmps63 Try.results63 (by simp) ?_
  have hpb : (hpB k l).gr k = some ((42, 6), l.map encBd) := by simp [hpB]
  refine AW.mono (Q := thenS (fun s' σ' => ∃ l', Sub l l' ∧ σ' = hpB k l') (fun _ _ _ => False)) ?_ ?_
  · clear hpb; unfold hpB
    all_goals refine AW.reg0 ?_
    all_goals iterate 4 (refine S.g rfl rfl fun K' k' => ?_; simp only [zz, reduceIte, Nat.reduceEqDiff, Nat.reduceLT, Nat.reduceLeDiff, Nat.reduceAdd, reduceCtorEq, Nat.reduceMul, sl22, el22, ok42, sz42, ag42]; refine k' _ _ ?_; clear k' K')
    all_goals (refine S.g rfl rfl fun K' k' => ?_; simp only [zz, reduceIte, Nat.reduceEqDiff, Nat.reduceLT, Nat.reduceLeDiff, Nat.reduceAdd, reduceCtorEq, Nat.reduceMul]; refine (stable_weak l k (by omega)).to fun v σ1 hv => ?_; obtain ⟨rfl, l2, hl2, rfl⟩ := hv <;> (refine k' _ _ ?_; clear k' K'))
    all_goals refine S.nil ?_
    all_goals simp only [ze, reduceIte, Nat.reduceEqDiff, Nat.reduceLT, Nat.reduceLeDiff, Nat.reduceAdd, reduceCtorEq, Nat.reduceMul]
    exact ⟨l2, hl2, rfl⟩
  rintro e s σ hq
  cases e with
  | normal =>
    obtain ⟨l2, hl2, rfl⟩ : ∃ l', Sub l l' ∧ σ = hpB k l' := hq
    all_goals simp only [zs, reduceIte, Nat.reduceEqDiff, Nat.reduceLT, Nat.reduceLeDiff, Nat.reduceAdd, reduceCtorEq, Nat.reduceMul]
    exact ⟨rfl, l2, hl2, rfl⟩
  | _ => exact hq.elim
end Go.Abs.M
namespace Go.Abs.M
open Go Go.Abs Go.Proofs
set_option maxRecDepth 20000
set_option linter.unusedSimpArgs false
set_option linter.unusedVariables false
def mrg : List Bd → List Bd → List Bd
  | [], b => b
  | x :: a, [] => x :: a
  | x :: a, y :: b => if leS x.var y.var = true then x :: mrg a (y :: b) else y :: mrg (x :: a) b
termination_by a b => a.length + b.length
theorem mrg_nil (a : List Bd) : mrg a [] = a := by
  cases a <;> simp [mrg]
theorem mrg_len (a b : List Bd) : (mrg a b).length = a.length + b.length := by
  fun_induction mrg a b <;> simp_all <;> omega
theorem mrg_mem (a b : List Bd) : ∀ x ∈ mrg a b, x ∈ a ++ b := by
  fun_induction mrg a b
  · intro x hx; simpa using hx
  · intro x hx; simpa using hx
  · rename_i ih
    intro z hz
    rcases List.mem_cons.1 hz with rfl | hz
    · simp
    · have := ih z hz; simp at this ⊢; rcases this with h | h | h <;> simp_all
  · rename_i ih
    intro z hz
    rcases List.mem_cons.1 hz with rfl | hz
    · simp
    · have := ih z hz; simp at this ⊢; rcases this with h | h | h <;> simp [h]
/-- A list of the call's own, collected in the variable 't'. -/
def own (s : St) (σ : Hp) (t : Nat) (l : List Bd) : Prop := (l = [] ∧ s.t t = .c (.slice none 0 0) ∧ σ = Hp.empty) ∨ ∃ g, s.t t = .gl g ∧ σ = hpB g l
end Go.Abs.M
