import Derived.Test.YtmhamgllanihoaaSsd
import Derived.Laws.Append
import Derived.RangeFuncCalls
namespace Go.Abs.M
open Go Go.Abs Go.Proofs
set_option maxRecDepth 20000
set_option linter.unusedSimpArgs false
set_option linter.unusedVariables false
theorem insort_nil : PCalls Try.prog 128 [.c (.slice none 0 0), .c (.int .i64 0), .c (.int .i64 0), .fn (.func 64) [] []] (fun v => v = .tup []) := by
  refine PCalls.intro Try.call128 Try.func128 rfl Try.ntmps128 Try.results128 (by simp) ?_
  have hw1 : IntKind.i64.wrap ((0 : Int) + 1) = 1 := by rw [wrap_small _ (by omega) (by omega)]; rfl
  refine AW.seq_k fun K1 h1 => ?_
  all_goals refine AW.reg0 ?_
  all_goals iterate 3 (refine S.g rfl rfl fun K' k' => ?_; simp only [zz, reduceIte, Nat.reduceEqDiff, Nat.reduceAdd, hw1]; refine k' _ _ ?_; clear k' K')
  all_goals refine S.nil ?_
  all_goals simp only [ze, reduceIte, Nat.reduceEqDiff, Nat.reduceLT, Nat.reduceLeDiff, Nat.reduceAdd, reduceCtorEq, Nat.reduceMul, hw1]
  all_goals apply_assumption
  refine AW.block ?_   -- 0
  refine AW.loop (fun m s σ => s.t 2 = .c (.int .i64 0) ∧ s.t 8 = .c (.int .i64 1) ∧ σ = Hp.empty) 0 ?_ ?_
  · all_goals simp only [zs, reduceIte, Nat.reduceEqDiff, Nat.reduceLT, Nat.reduceLeDiff, Nat.reduceAdd, reduceCtorEq, Nat.reduceMul]
  rintro m s σ ⟨e2, e8, rfl⟩
  refine AW.seq_k fun K2 h2 => ?_
  refine AW.seq_k fun K3 h3 => ?_
  all_goals refine AW.reg0 ?_
  all_goals iterate 3 (refine S.g rfl rfl fun K' k' => ?_; simp only [zz, reduceIte, Nat.reduceEqDiff, Nat.reduceAdd, e2, e8]; refine k' _ _ ?_; clear k' K')
  all_goals refine S.nil ?_
  all_goals simp only [ze, reduceIte, Nat.reduceEqDiff, Nat.reduceLT, Nat.reduceLeDiff, Nat.reduceAdd, reduceCtorEq, Nat.reduceMul, e2, e8]
  all_goals apply_assumption
  refine AW.cond (b := false) (by simp [ev]) (fun hc => by cases hc) (fun hc => AW.exit ?_)
  all_goals simp only [zs, reduceIte, Nat.reduceEqDiff, Nat.reduceLT, Nat.reduceLeDiff, Nat.reduceAdd, reduceCtorEq, Nat.reduceMul]
  rfl
theorem stable_nil : PCalls Try.prog 104 [.c (.slice none 0 0), .c (.int .i64 0), .fn (.func 64) [] []] (fun v => v = .tup []) := by
  refine PCalls.intro Try.call104 Try.func104 rfl Try.ntmps104 Try.results104 (by simp) ?_
  refine AW.seq_k fun K1 h1 => ?_
  all_goals refine AW.reg0 ?_
  all_goals (refine S.g rfl rfl fun K' k' => ?_; simp only [zz, reduceIte, Nat.reduceEqDiff, Nat.reduceAdd]; refine k' _ _ ?_; clear k' K')
  all_goals refine S.nil ?_
  all_goals simp only [ze, reduceIte, Nat.reduceEqDiff, Nat.reduceLT, Nat.reduceLeDiff, Nat.reduceAdd, reduceCtorEq, Nat.reduceMul]
  all_goals apply_assumption
  refine AW.seq_k fun K2 h2 => ?_
  all_goals refine AW.reg0 ?_
  all_goals iterate 3 (refine S.g rfl rfl fun K' k' => ?_; simp only [zz, reduceIte, Nat.reduceEqDiff, Nat.reduceAdd]; refine k' _ _ ?_; clear k' K')
  all_goals refine S.nil ?_
  all_goals simp only [ze, reduceIte, Nat.reduceEqDiff, Nat.reduceLT, Nat.reduceLeDiff, Nat.reduceAdd, reduceCtorEq, Nat.reduceMul]
  all_goals apply_assumption
  refine AW.seq_k fun K3 h3 => ?_
  refine AW.block ?_   -- 0
  refine AW.loop (fun m s σ => σ = Hp.empty ∧ s.t 0 = .c (.slice none 0 0) ∧ s.t 1 = .c (.int .i64 0) ∧ s.t 2 = .fn (.func 64) [] [] ∧ s.t 6 = .c (.int .i64 20) ∧ s.t 7 = .c (.int .i64 0) ∧ s.t 8 = .c (.int .i64 20)) 0 ?_ ?_
  · all_goals simp only [zs, reduceIte, Nat.reduceEqDiff, Nat.reduceLT, Nat.reduceLeDiff, Nat.reduceAdd, reduceCtorEq, Nat.reduceMul]
  rintro m s σ ⟨rfl, e0, e1, e2, e6, e7, e8⟩
  refine AW.seq_k fun K4 h4 => ?_
  refine AW.seq_k fun K5 h5 => ?_
  all_goals refine AW.reg0 ?_
  all_goals iterate 3 (refine S.g rfl rfl fun K' k' => ?_; simp only [zz, reduceIte, Nat.reduceEqDiff, Nat.reduceAdd, e1, e8]; refine k' _ _ ?_; clear k' K')
  all_goals refine S.nil ?_
  all_goals simp only [ze, reduceIte, Nat.reduceEqDiff, Nat.reduceLT, Nat.reduceLeDiff, Nat.reduceAdd, reduceCtorEq, Nat.reduceMul, e1, e8]
  all_goals apply_assumption
  refine AW.cond (b := false) (by simp [ev]) (fun hc => by cases hc) (fun hc => AW.exit ?_)
  all_goals simp only [zs, reduceIte, Nat.reduceEqDiff, Nat.reduceLT, Nat.reduceLeDiff, Nat.reduceAdd, reduceCtorEq, Nat.reduceMul]
  all_goals apply_assumption
  refine AW.seq_k fun K6 h6 => ?_
  all_goals refine AW.region (T := { raw := fun d => d == 128 }) (fun _ _ h => by cases h) rfl ?_
  all_goals iterate 4 (refine S.g rfl rfl fun K' k' => ?_; simp only [zz, reduceIte, Nat.reduceEqDiff, Nat.reduceAdd, e0, e1, e2, e7]; refine k' _ _ ?_; clear k' K')
  all_goals (refine S.g rfl rfl fun K' k' => ?_; simp only [zz, reduceIte, Nat.reduceEqDiff, Nat.reduceLT, Nat.reduceLeDiff, Nat.reduceAdd, reduceCtorEq, Nat.reduceMul, e0, e1, e2, e7]; refine PCalls.eqto insort_nil ?_ <;> (refine k' _ _ ?_; clear k' K'))
  all_goals refine S.nil ?_
  all_goals simp only [ze, reduceIte, Nat.reduceEqDiff, Nat.reduceLT, Nat.reduceLeDiff, Nat.reduceAdd, reduceCtorEq, Nat.reduceMul, e0, e1, e2, e7]
  all_goals apply_assumption
  refine AW.block ?_   -- 2
  refine AW.loop (fun m s σ => σ = Hp.empty ∧ s.t 1 = .c (.int .i64 0) ∧ s.t 6 = .c (.int .i64 20)) 0 ?_ ?_
  · all_goals simp only [zs, reduceIte, Nat.reduceEqDiff, Nat.reduceLT, Nat.reduceLeDiff, Nat.reduceAdd, reduceCtorEq, Nat.reduceMul]
    exact ⟨e1, e6⟩
  rintro m2 s2 σ2 ⟨rfl, f1, f6⟩
  refine AW.seq_k fun K7 h7 => ?_
  refine AW.seq_k fun K8 h8 => ?_
  all_goals refine AW.reg0 ?_
  all_goals iterate 3 (refine S.g rfl rfl fun K' k' => ?_; simp only [zz, reduceIte, Nat.reduceEqDiff, Nat.reduceAdd, f1, f6]; refine k' _ _ ?_; clear k' K')
  all_goals refine S.nil ?_
  all_goals simp only [ze, reduceIte, Nat.reduceEqDiff, Nat.reduceLT, Nat.reduceLeDiff, Nat.reduceAdd, reduceCtorEq, Nat.reduceMul, f1, f6]
  all_goals apply_assumption
  refine AW.cond (b := false) (by simp [ev]) (fun hc => by cases hc) (fun hc => AW.exit ?_)
  all_goals simp only [zs, reduceIte, Nat.reduceEqDiff, Nat.reduceLT, Nat.reduceLeDiff, Nat.reduceAdd, reduceCtorEq, Nat.reduceMul]
  rfl
theorem sort_nil : PCalls Try.prog 63 [.c (.slice none 0 0), .fn (.func 64) [] []] (fun v => v = .tup []) := by
  refine PCalls.intro Try.call63 Try.func63 rfl Try.ntmps63 Try.results63 (by simp) ?_
  refine AW.mono (Q := thenS (fun s' σ' => σ' = Hp.empty) (fun _ _ _ => False)) ?_ ?_
  · skip
    all_goals refine AW.region (T := { raw := fun d => d == 104 }) (fun _ _ h => by cases h) rfl ?_
    all_goals iterate 4 (refine S.g rfl rfl fun K' k' => ?_; simp only [zz, reduceIte, Nat.reduceEqDiff, Nat.reduceLT, Nat.reduceLeDiff, Nat.reduceAdd, reduceCtorEq, Nat.reduceMul, sl22, el22, ok42, sz42, ag42]; refine k' _ _ ?_; clear k' K')
    all_goals (refine S.g rfl rfl fun K' k' => ?_; simp only [zz, reduceIte, Nat.reduceEqDiff, Nat.reduceLT, Nat.reduceLeDiff, Nat.reduceAdd, reduceCtorEq, Nat.reduceMul]; refine PCalls.eqto stable_nil ?_ <;> (refine k' _ _ ?_; clear k' K'))
    all_goals refine S.nil ?_
    all_goals simp only [ze, reduceIte, Nat.reduceEqDiff, Nat.reduceLT, Nat.reduceLeDiff, Nat.reduceAdd, reduceCtorEq, Nat.reduceMul]
  rintro e s σ hq
  cases e with
  | normal =>
    obtain rfl : σ = Hp.empty := hq
    all_goals simp only [zs, reduceIte, Nat.reduceEqDiff, Nat.reduceLT, Nat.reduceLeDiff, Nat.reduceAdd, reduceCtorEq, Nat.reduceMul]
    rfl
  | _ => exact hq.elim
theorem merge_nil : PCalls Try.prog 11 [.agg [.sl []], .agg [.sl []]] (fun v => v = .tup [.agg [.sl []], .c (.bool true)]) := by
  have hok : okP [] := fun _ h => by cases h
  have hpe : partErr [] = 0 := rfl
  refine PCalls.intro Try.call11 Try.func11 rfl Try.ntmps11 Try.results11 (by simp) ?_
  refine AW.seq_k fun K1 h1 => ?_
  all_goals refine AW.reg0 ?_
  all_goals iterate 4 (refine S.g rfl rfl fun K' k' => ?_; simp only [zz, reduceIte, Nat.reduceEqDiff, Nat.reduceLT, Nat.reduceLeDiff, Nat.reduceAdd, reduceCtorEq, Nat.reduceMul, ok24, sz24, ag24, zt24]; refine k' _ _ ?_; clear k' K')
  all_goals refine S.nil ?_
  all_goals simp only [ze, reduceIte, Nat.reduceEqDiff, Nat.reduceLT, Nat.reduceLeDiff, Nat.reduceAdd, reduceCtorEq, Nat.reduceMul]
  all_goals apply_assumption
  refine AW.seq_k fun K2 h2 => ?_
  refine AW.seq_k fun K3 h3 => ?_
  all_goals refine AW.reg0 ?_
  all_goals (refine S.g rfl rfl fun K' k' => ?_; simp only [zz, reduceIte, Nat.reduceEqDiff, Nat.reduceLT, Nat.reduceLeDiff, Nat.reduceAdd, reduceCtorEq, Nat.reduceMul, ok24, sz24, ag24, hpe]; refine k' _ _ ?_; clear k' K')
  all_goals (refine S.g rfl rfl fun K' k' => ?_; simp only [zz, reduceIte, Nat.reduceEqDiff, Nat.reduceLT, Nat.reduceLeDiff, Nat.reduceAdd, reduceCtorEq, Nat.reduceMul, hpe]; refine PCalls.eqto (check_part [] hok) ?_ <;> (refine k' _ _ ?_; clear k' K'))
  all_goals (refine S.g rfl rfl fun K' k' => ?_; simp only [zz, reduceIte, Nat.reduceEqDiff, Nat.reduceLT, Nat.reduceLeDiff, Nat.reduceAdd, reduceCtorEq, Nat.reduceMul, hpe]; refine S.bool fun b a9 => ?_; cases b <;> (try (exfalso; first | exact Bool.noConfusion a9 | (have h := of_decide_eq_true a9; omega) | (have h := of_decide_eq_false a9; omega))) <;> (refine k' _ _ ?_; clear k' K'))
  all_goals (refine S.g rfl rfl fun K' k' => ?_; simp only [zz, reduceIte, Nat.reduceEqDiff, Nat.reduceAdd, hpe]; refine k' _ _ ?_; clear k' K')
  all_goals (first | (refine S.y rfl rfl rfl rfl fun K' k' => ?_; simp only [zz, reduceIte, Nat.reduceEqDiff, Nat.reduceLT, Nat.reduceLeDiff, Nat.reduceAdd, reduceCtorEq, Nat.reduceMul, ok24, sz24, ag24, hpe]; refine k' _ _ ?_; clear k' K') | ((first | refine S.x rfl rfl rfl rfl fun K' k' => ?_ | refine S.u rfl rfl rfl rfl fun K' k' => ?_); simp only [ze, reduceIte, Nat.reduceEqDiff]; refine k' _ _ ?_; clear k' K'))
  all_goals (first | (refine S.y rfl rfl rfl rfl fun K' k' => ?_; simp only [zz, reduceIte, Nat.reduceEqDiff, Nat.reduceLT, Nat.reduceLeDiff, Nat.reduceAdd, reduceCtorEq, Nat.reduceMul, hpe]; refine PCalls.eqto (check_part [] hok) ?_ <;> (refine k' _ _ ?_; clear k' K')) | ((first | refine S.x rfl rfl rfl rfl fun K' k' => ?_ | refine S.u rfl rfl rfl rfl fun K' k' => ?_); simp only [ze, reduceIte, Nat.reduceEqDiff]; refine k' _ _ ?_; clear k' K'))
  all_goals (first | (refine S.y rfl rfl rfl rfl fun K' k' => ?_; simp only [zz, reduceIte, Nat.reduceEqDiff, Nat.reduceAdd, hpe]; refine k' _ _ ?_; clear k' K') | ((first | refine S.x rfl rfl rfl rfl fun K' k' => ?_ | refine S.u rfl rfl rfl rfl fun K' k' => ?_); simp only [ze, reduceIte, Nat.reduceEqDiff]; refine k' _ _ ?_; clear k' K'))
  all_goals (refine S.g rfl rfl fun K' k' => ?_; simp only [zz, reduceIte, Nat.reduceEqDiff, Nat.reduceAdd, hpe]; refine k' _ _ ?_; clear k' K')
  all_goals refine S.nil ?_
  all_goals simp only [ze, reduceIte, Nat.reduceEqDiff, Nat.reduceLT, Nat.reduceLeDiff, Nat.reduceAdd, reduceCtorEq, Nat.reduceMul, hpe]
  all_goals apply_assumption
  refine AW.cond (b := false) (by simp [ev]) (fun hc => by cases hc) (fun hc => AW.skip ?_)
  all_goals simp only [zs, reduceIte, Nat.reduceEqDiff, Nat.reduceLT, Nat.reduceLeDiff, Nat.reduceAdd, reduceCtorEq, Nat.reduceMul]
  all_goals apply_assumption
  have htot : tot [[], []] * 80 ≤ 140737488355328 := by simp [tot]
  refine AW.seq_k fun K4 h4 => ?_
  all_goals refine AW.reg0 ?_
  all_goals iterate 4 (refine S.g rfl rfl fun K' k' => ?_; simp only [zz, reduceIte, Nat.reduceEqDiff, Nat.reduceLT, Nat.reduceLeDiff, Nat.reduceAdd, reduceCtorEq, Nat.reduceMul, of24_0, ok22, sz22, ag22, List.flatten_cons, List.flatten_nil, List.nil_append, List.map_nil]; refine k' _ _ ?_; clear k' K')
  all_goals (refine S.g rfl rfl fun K' k' => ?_; simp only [zb, reduceIte, Nat.reduceEqDiff, Nat.reduceLT, Nat.reduceLeDiff, Nat.reduceAdd, reduceCtorEq, Nat.reduceMul, sl132, el132, ok22, sz22, ag22, zt22, by22, List.flatten_cons, List.flatten_nil, List.nil_append, List.map_nil]; refine ⟨rfl, (by simp), ?_⟩ <;> (refine k' _ _ ?_; clear k' K'))
  all_goals (refine S.g rfl rfl fun K' k' => ?_; simp only [zz, reduceIte, Nat.reduceEqDiff, Nat.reduceLT, Nat.reduceLeDiff, Nat.reduceAdd, reduceCtorEq, Nat.reduceMul, List.flatten_cons, List.flatten_nil, List.nil_append, List.map_nil]; refine PCalls.eqto (concat_frozen [[], []] (by simp) (by simp) htot) ?_ <;> (refine k' _ _ ?_; clear k' K'))
  all_goals (refine S.g rfl rfl fun K' k' => ?_; simp only [zz, reduceIte, Nat.reduceEqDiff, Nat.reduceLT, Nat.reduceLeDiff, Nat.reduceAdd, reduceCtorEq, Nat.reduceMul, zt24, pl24, List.flatten_cons, List.flatten_nil, List.nil_append, List.map_nil]; refine k' _ _ ?_; clear k' K')
  all_goals (refine S.g rfl rfl fun K' k' => ?_; simp only [zz, reduceIte, Nat.reduceEqDiff, Nat.reduceLT, Nat.reduceLeDiff, Nat.reduceAdd, reduceCtorEq, Nat.reduceMul, List.flatten_cons, List.flatten_nil, List.nil_append, List.map_nil]; refine ((clone_grow [] (by simp) (by simp)).to fun v σ1 hv => ?_); replace hv := hv.resolve_right (fun h => by obtain ⟨_, h, _⟩ := h; exact h rfl); obtain ⟨_, rfl, rfl⟩ := hv <;> (refine k' _ _ ?_; clear k' K'))
  all_goals iterate 2 (refine S.g rfl rfl fun K' k' => ?_; simp only [zz, reduceIte, Nat.reduceEqDiff, Nat.reduceLT, Nat.reduceLeDiff, Nat.reduceAdd, reduceCtorEq, Nat.reduceMul, zt24, ok24, sz24, ag24, List.flatten_cons, List.flatten_nil, List.nil_append, List.map_nil]; refine k' _ _ ?_; clear k' K')
  all_goals refine S.nil ?_
  all_goals simp only [ze, reduceIte, Nat.reduceEqDiff, Nat.reduceLT, Nat.reduceLeDiff, Nat.reduceAdd, reduceCtorEq, Nat.reduceMul, List.flatten_cons, List.flatten_nil, List.nil_append, List.map_nil]
  all_goals apply_assumption
  refine AW.seq_k fun K5 h5 => ?_
  all_goals refine AW.region (T := { raw := fun d => d == 63 }) (fun _ _ h => by cases h) rfl ?_
  all_goals iterate 2 (refine S.g rfl rfl fun K' k' => ?_; simp only [zz, reduceIte, Nat.reduceEqDiff, Nat.reduceLT, Nat.reduceLeDiff, Nat.reduceAdd, reduceCtorEq, Nat.reduceMul, of24_0, ok22, sz22, ag22]; refine k' _ _ ?_; clear k' K')
  all_goals (refine S.g rfl rfl fun K' k' => ?_; simp only [zz, reduceIte, Nat.reduceEqDiff, Nat.reduceLT, Nat.reduceLeDiff, Nat.reduceAdd, reduceCtorEq, Nat.reduceMul]; refine PCalls.eqto sort_nil ?_ <;> (refine k' _ _ ?_; clear k' K'))
  all_goals refine S.nil ?_
  all_goals simp only [ze, reduceIte, Nat.reduceEqDiff, Nat.reduceLT, Nat.reduceLeDiff, Nat.reduceAdd, reduceCtorEq, Nat.reduceMul]
  all_goals apply_assumption
  refine AW.seq_k fun K6 h6 => ?_
  refine AW.seq_k fun K7 h7 => ?_
  all_goals refine AW.reg0 ?_
  all_goals (refine S.g rfl rfl fun K' k' => ?_; simp only [zz, reduceIte, Nat.reduceEqDiff, Nat.reduceLT, Nat.reduceLeDiff, Nat.reduceAdd, reduceCtorEq, Nat.reduceMul, ok24, sz24, ag24, hpe]; refine k' _ _ ?_; clear k' K')
  all_goals (refine S.g rfl rfl fun K' k' => ?_; simp only [zz, reduceIte, Nat.reduceEqDiff, Nat.reduceLT, Nat.reduceLeDiff, Nat.reduceAdd, reduceCtorEq, Nat.reduceMul, hpe]; refine PCalls.eqto (check_part [] hok) ?_ <;> (refine k' _ _ ?_; clear k' K'))
  all_goals (refine S.g rfl rfl fun K' k' => ?_; simp only [zz, reduceIte, Nat.reduceEqDiff, Nat.reduceAdd, hpe]; refine k' _ _ ?_; clear k' K')
  all_goals refine S.nil ?_
  all_goals simp only [ze, reduceIte, Nat.reduceEqDiff, Nat.reduceLT, Nat.reduceLeDiff, Nat.reduceAdd, reduceCtorEq, Nat.reduceMul, hpe]
  all_goals apply_assumption
  refine AW.cond (b := false) (by simp [ev]) (fun hc => by cases hc) (fun hc => AW.skip ?_)
  all_goals simp only [zs, reduceIte, Nat.reduceEqDiff, Nat.reduceLT, Nat.reduceLeDiff, Nat.reduceAdd, reduceCtorEq, Nat.reduceMul]
  all_goals apply_assumption
  refine AW.seq_k fun K8 h8 => ?_
  all_goals refine AW.reg0 ?_
  all_goals iterate 3 (refine S.g rfl rfl fun K' k' => ?_; simp only [zz, reduceIte, Nat.reduceEqDiff, Nat.reduceLT, Nat.reduceLeDiff, Nat.reduceAdd, reduceCtorEq, Nat.reduceMul, ok24, sz24, ag24]; refine k' _ _ ?_; clear k' K')
  all_goals refine S.nil ?_
  all_goals simp only [ze, reduceIte, Nat.reduceEqDiff, Nat.reduceLT, Nat.reduceLeDiff, Nat.reduceAdd, reduceCtorEq, Nat.reduceMul]
  all_goals apply_assumption
  refine AW.ret ?_
  all_goals simp only [zs, reduceIte, Nat.reduceEqDiff, Nat.reduceLT, Nat.reduceLeDiff, Nat.reduceAdd, reduceCtorEq, Nat.reduceMul, qLoad, ok24, sz24, ag24, cut, List.drop_zero, List.take_succ_cons, List.take_zero, List.map]
end Go.Abs.M
namespace Go.Abs.M
open Go Go.Abs Go.Proofs
theorem bytesLess_eq' : ∀ (x y : List UInt8), Op.bytesLess x y = decide (x < y)
  | [], [] => by simp [Op.bytesLess]
  | _ :: _, [] => by simp [Op.bytesLess]
  | [], _ :: _ => by simp [Op.bytesLess]
  | a :: x, b :: y => by
    rw [Op.bytesLess, bytesLess_eq' x y]
    simp only [List.cons_lt_cons_iff]
    by_cases h1 : a < b <;> by_cases h2 : a = b <;> by_cases h3 : x < y <;> simp [h1, h2, h3]
theorem leS_iff (a b : ByteArray) : leS a b = true ↔ ¬ b.toList < a.toList := by
  simp only [leS, bytesLess_eq', Bool.or_eq_true, decide_eq_true_eq, beq_iff_eq]
  constructor
  · rintro (h | h)
    · exact List.lt_asymm h
    · rw [h]; exact List.lt_irrefl _
  · intro h
    have h : a.toList ≤ b.toList := h
    by_cases e : a.toList = b.toList
    · exact .inr e
    · rcases List.le_iff_lt_or_eq.1 h with h | h
      · exact .inl h
      · exact absurd h e
theorem leS_false (a b : ByteArray) : leS a b = false ↔ b.toList < a.toList := by
  rw [← Bool.not_eq_true, leS_iff, Decidable.not_not]
theorem leS_trans {a b c : ByteArray} (h : leS a b = true) (k : leS b c = true) : leS a c = true := by
  rw [leS_iff] at *
  exact List.le_trans (show a.toList ≤ b.toList from h) (show b.toList ≤ c.toList from k)
theorem leS_total {a b : ByteArray} (h : leS a b = false) : leS b a = true := by
  rw [leS_false] at h; rw [leS_iff]; exact List.lt_asymm h
theorem cmpS_neg (a b : ByteArray) : cmpS a b < 0 ↔ leS b a = false := by
  rw [leS_false]
  unfold cmpS
  rw [bytesLess_eq']
  by_cases h : a.toList < b.toList
  · simp [h]
  · simp only [h, decide_false, Bool.false_eq_true, if_false, Bool.false_or, iff_false]
    split <;> omega
def insL : List Bd → Bd → List Bd
  | [], y => [y]
  | x :: p, y => if leS x.var y.var = true then x :: insL p y else y :: x :: p
def Srt : List Bd → Prop
  | [] => True
  | x :: p => (∀ y ∈ p, leS x.var y.var = true) ∧ Srt p
theorem Srt.append {p q : List Bd} (h : Srt (p ++ q)) : Srt p ∧ Srt q ∧ ∀ x ∈ p, ∀ y ∈ q, leS x.var y.var = true := by
  induction p with
  | nil => exact ⟨trivial, h, fun x hx => by cases hx⟩
  | cons x p ih =>
    obtain ⟨h1, h2⟩ := h
    obtain ⟨a, b, c⟩ := ih h2
    refine ⟨⟨fun y hy => h1 y (List.mem_append_left _ hy), a⟩, b, fun z hz y hy => ?_⟩
    rcases List.mem_cons.1 hz with rfl | hz
    · exact h1 y (List.mem_append_right _ hy)
    · exact c z hz y hy
theorem insL_end {p : List Bd} {y : Bd} (h : ∀ x ∈ p, leS x.var y.var = true) : insL p y = p ++ [y] := by
  induction p with
  | nil => rfl
  | cons x p ih => simp only [insL]; rw [if_pos (h x List.mem_cons_self), ih (fun z hz => h z (List.mem_cons_of_mem _ hz))]; rfl
theorem insL_last {q : List Bd} {z y : Bd} (h : leS z.var y.var = false) : insL (q ++ [z]) y = insL q y ++ [z] := by
  induction q with
  | nil => simp [insL, h]
  | cons x q ih =>
    simp only [List.cons_append, insL]
    split
    · rw [ih]; rfl
    · rfl
theorem insL_mem {p : List Bd} {y z : Bd} : z ∈ insL p y ↔ z = y ∨ z ∈ p := by
  induction p with
  | nil => simp [insL]
  | cons x p ih =>
    simp only [insL]
    split
    · simp only [List.mem_cons, ih]
      constructor
      · rintro (h | h | h) <;> simp [h]
      · rintro (h | h | h) <;> simp [h]
    · simp only [List.mem_cons]
theorem insL_len (p : List Bd) (y : Bd) : (insL p y).length = p.length + 1 := by
  induction p with
  | nil => rfl
  | cons x p ih => simp only [insL]; split <;> simp [ih]
theorem insL_srt {p : List Bd} {y : Bd} (h : Srt p) : Srt (insL p y) := by
  induction p with
  | nil => exact ⟨(fun _ h => by cases h), trivial⟩
  | cons x p ih =>
    simp only [insL]
    split
    · rename_i hxy
      refine ⟨fun z hz => ?_, ih h.2⟩
      rcases insL_mem.1 hz with rfl | hz
      · exact hxy
      · exact h.1 z hz
    · rename_i hxy
      have hyx := leS_total (by simpa using hxy)
      refine ⟨fun z hz => ?_, h⟩
      rcases List.mem_cons.1 hz with rfl | hz
      · exact hyx
      · exact leS_trans hyx (h.1 z hz)
theorem sink_ins : ∀ (n : Nat) (p : List Bd) (y : Bd) (r : List Bd), p.length = n → Srt p → sink 0 n (p ++ y :: r) = insL p y ++ r := by
  intro n
  induction n with
  | zero => intro p y r hp _; rw [List.eq_nil_of_length_eq_zero hp]; rfl
  | succ n ih =>
    intro p y r hp hs
    obtain ⟨q, z, rfl⟩ : ∃ q z, p = q ++ [z] := by
      refine ⟨p.dropLast, p.getLast (by intro e; simp [e] at hp), ?_⟩
      exact (List.dropLast_concat_getLast _).symm
    have hq : q.length = n := by simpa using hp
    have g1 : (q ++ [z] ++ y :: r)[n + 1]? = some y := by simp [hq]
    have g2 : (q ++ [z] ++ y :: r)[n]? = some z := by simp [hq]
    simp only [sink, g1, g2]
    obtain ⟨hs1, hs2, hs3⟩ := hs.append
    by_cases hlt : cmpS y.var z.var < 0
    · rw [if_pos ⟨by omega, hlt⟩]
      have e : ((q ++ [z] ++ y :: r).set (n + 1) z).set n y = q ++ y :: (z :: r) := by
        subst hq
        simp
      rw [e, ih q y (z :: r) hq hs1, insL_last ((cmpS_neg _ _).1 hlt)]
      simp
    · rw [if_neg (fun h => hlt h.2)]
      have hzy : leS z.var y.var = true := by
        cases h : leS z.var y.var
        · exact absurd ((cmpS_neg _ _).2 h) hlt
        · rfl
      rw [insL_end (fun x hx => ?_)]
      · simp
      · rcases List.mem_append.1 hx with h | h
        · exact leS_trans (hs3 x h z (by simp)) hzy
        · simp at h; rw [h]; exact hzy
theorem insFrom_ins : ∀ (bs p r : List Bd), Srt p → insFrom 0 (p ++ (bs ++ r)) p.length bs.length = bs.foldl insL p ++ r := by
  intro bs
  induction bs with
  | nil => intro p r _; rfl
  | cons y bs ih =>
    intro p r hs
    have h := ih (insL p y) r (insL_srt hs)
    rw [insL_len] at h
    simp only [List.length_cons, insFrom, List.range'_succ, List.foldl_cons] at h ⊢
    rw [List.cons_append, sink_ins p.length p y (bs ++ r) rfl hs]
    exact h
theorem insort_eq (l : List Bd) : insort 0 l.length l = l.foldl insL [] := by
  cases l with
  | nil => rfl
  | cons x l =>
    have h := insFrom_ins l [x] [] ⟨(fun _ h => by cases h), trivial⟩
    simpa [insort, insL] using h
theorem foldl_skip {x : Bd} : ∀ {b a : List Bd}, (∀ y ∈ b, leS x.var y.var = true) → b.foldl insL (x :: a) = x :: b.foldl insL a := by
  intro b
  induction b with
  | nil => intro a _; rfl
  | cons y b ih =>
    intro a h
    simp only [List.foldl_cons, insL]
    rw [if_pos (h y List.mem_cons_self), ih (fun z hz => h z (List.mem_cons_of_mem _ hz))]
theorem foldl_srt : ∀ {b : List Bd}, Srt b → b.foldl insL [] = b := by
  intro b
  induction b with
  | nil => intro _; rfl
  | cons y b ih =>
    intro h
    simp only [List.foldl_cons, insL]
    rw [foldl_skip h.1, ih h.2]
theorem foldl_mrg (a b : List Bd) : Srt a → Srt b → b.foldl insL a = mrg a b := by
  fun_induction mrg a b
  · intro _ hb; exact foldl_srt hb
  · intro _ _; rfl
  · rename_i x a y b hxy ih
    intro ha hb
    rw [foldl_skip, ih ha.2 hb]
    intro z hz
    rcases List.mem_cons.1 hz with rfl | hz
    · exact hxy
    · exact leS_trans hxy (hb.1 z hz)
  · rename_i x a y b hxy ih
    intro ha hb
    rw [List.foldl_cons, insL, if_neg hxy, foldl_skip hb.1, ih ha hb.2]
theorem insort_mrg (a b : List Bd) (ha : Srt a) (hb : Srt b) : insort 0 (a ++ b).length (a ++ b) = mrg a b := by
  rw [insort_eq, List.foldl_append, foldl_srt ha, foldl_mrg a b ha hb]
theorem partFrom_srt (n : Nat) : ∀ (l : List Bd) (p : Option ByteArray) (sn : List (Int × Int)), partFrom n p sn l = 0 → Srt l ∧ ∀ q, p = some q → ∀ x ∈ l, leS q x.var = true := by
  intro l
  induction l with
  | nil => intro p sn _; exact ⟨trivial, fun _ _ _ h => by cases h⟩
  | cons x l ih =>
    intro p sn h
    simp only [partFrom] at h
    split at h
    · cases h
    · rename_i hx
      split at h
      · rename_i h1; exact absurd h h1
      · obtain ⟨h1, h2⟩ := ih _ _ h
        refine ⟨⟨fun y hy => h2 _ rfl y hy, h1⟩, fun q hq y hy => ?_⟩
        subst hq
        have hqx : leS q x.var = true := by
          cases e : leS x.var q
          · exact leS_total e
          · exact absurd (.inr (.inl (by simpa using e))) hx
        rcases List.mem_cons.1 hy with rfl | hy
        · exact hqx
        · exact leS_trans hqx (h2 _ rfl y hy)
theorem part_srt {l : List Bd} (h : partErr l = 0) : Srt l := by
  unfold partErr at h
  split at h
  · cases h
  · exact (partFrom_srt _ l none [] h).1
end Go.Abs.M
namespace Go.Abs.M
open Go Go.Abs Go.Proofs
set_option maxRecDepth 20000
set_option linter.unusedSimpArgs false
set_option linter.unusedVariables false
theorem merge_spec (a b : List Bd) (ha : okP a) (hb : okP b) (hat : ∀ x ∈ a ++ b, x.ev.attrs.length * 48 ≤ 140737488355328) :
    PCalls Try.prog 11 [.agg [.sl (a.map encBd)], .agg [.sl (b.map encBd)]] (fun v => v = mergeV a b (mrg a b)) := by
  have hab : okP (a ++ b) := fun x hx => by
    rcases List.mem_append.1 hx with h | h
    · exact ha x h
    · exact hb x h
  by_cases h0 : a ++ b = []
  · obtain ⟨rfl, rfl⟩ := List.append_eq_nil_iff.1 h0
    exact merge_nil.mono fun v h => by rw [h]; rw [mergeV, if_neg (by decide), mrg, if_neg (by decide)]; rfl
  by_cases hl : (a ++ b).length < 20
  · refine (merge_gen a b ha hb hat (fun p => p = mrg a b) ⟨_, rfl⟩ h0 fun hx k => (sort_small (a ++ b) k hl).mono fun v σ' h => ⟨h.1, _, ?_, ?_, h.2⟩).mono fun v h => ?_
    · intro x hx
      exact hab x ((insort_sub _ _ _).2 x hx)
    · exact insort_mrg a b (part_srt (Decidable.not_not.1 fun h => hx (.inl h))) (part_srt (Decidable.not_not.1 fun h => hx (.inr h)))
    · obtain ⟨p, rfl, rfl⟩ := h; rfl
  · refine (merge_gen a b ha hb hat (fun p => 12 < p.length) ⟨a ++ b, by omega⟩ h0 fun hx k => ?_).mono fun v h => ?_
    · have h1 : a.length ≤ 12 := by
        by_cases h : 12 < a.length
        · exact absurd (.inl (by simp [partErr, h])) hx
        · omega
      have h2 : b.length ≤ 12 := by
        by_cases h : 12 < b.length
        · exact absurd (.inr (by simp [partErr, h])) hx
        · omega
      refine (sort_weak (a ++ b) k (by rw [List.length_append]; omega)).mono fun v σ' h => ?_
      obtain ⟨h3, p, hp, h4⟩ := h
      exact ⟨h3, p, fun x hx => hab x (hp.2 x hx), by rw [hp.1]; omega, h4⟩
    · obtain ⟨p, hp, rfl⟩ := h
      have h1 : partErr p ≠ 0 := by simp [partErr, hp]
      have hm := mrg_len a b
      rw [List.length_append] at hl
      have h2 : partErr (mrg a b) ≠ 0 := by simp [partErr, show 12 < (mrg a b).length by omega]
      rw [mergeV, mergeV, if_pos h1, if_pos h2]
end Go.Abs.M
namespace Go.Abs.M
open Go Go.Abs Go.Proofs
def tN : ByteArray := ⟨#[116]⟩
def bA : Bd := ⟨⟨#[97]⟩, ⟨0, 1, 5, tN, []⟩⟩
def bB : Bd := ⟨⟨#[98]⟩, ⟨1, 0, 7, tN, []⟩⟩
def bC : Bd := ⟨⟨#[99]⟩, ⟨0, 1, 5, tN, []⟩⟩
theorem ba_list (x : UInt8) : (ByteArray.mk #[x]).toList = [x] := by simp
theorem leS_one (x y : UInt8) : leS ⟨#[x]⟩ ⟨#[y]⟩ = (decide (x < y) || x == y) := by
  simp only [leS, ba_list, Op.bytesLess]
  by_cases h : x < y <;> by_cases k : x = y <;> simp [h, k]
theorem named_A (n : Nat) : named n bA = true := by simp [named, bA, isName, nameL, nameC, letter, ByteArray.size]
theorem named_B (n : Nat) : named n bB = true := by simp [named, bB, isName, nameL, nameC, letter, ByteArray.size]
theorem named_C (n : Nat) : named n bC = true := by simp [named, bC, isName, nameL, nameC, letter, ByteArray.size]
theorem err_A : evErr bA.ev = 0 := by simp [evErr, bA, isName, nameL, nameC, letter, ByteArray.size, timeOk, attrsErr, attrsFrom, tN]
theorem err_B : evErr bB.ev = 0 := by simp [evErr, bB, isName, nameL, nameC, letter, ByteArray.size, timeOk, attrsErr, attrsFrom, tN]
theorem err_C : evErr bC.ev = 0 := by simp [evErr, bC, isName, nameL, nameC, letter, ByteArray.size, timeOk, attrsErr, attrsFrom, tN]
theorem part_A : partErr [bA] = 0 := by simp [partErr, partFrom, named_A, err_A]
theorem part_B : partErr [bB] = 0 := by simp [partErr, partFrom, named_B, err_B]
theorem part_C : partErr [bC] = 0 := by simp [partErr, partFrom, named_C, err_C]
theorem mrg_BA : mrg [bB] [bA] = [bA, bB] := by
  rw [mrg, if_neg (by simp [bA, bB, leS_one]), mrg_nil]
theorem mrg_AC : mrg [bA] [bC] = [bA, bC] := by
  rw [mrg, if_pos (by simp [bA, bC, leS_one]), mrg]
theorem part_AB : partErr [bA, bB] = 0 := by
  simp [partErr, partFrom, named_A, named_B, err_A, err_B]
  simp [bA, bB, leS_one]
theorem part_AC : partErr [bA, bC] ≠ 0 := by
  simp [partErr, partFrom, named_A, err_A]
  simp [bA, bC]
theorem ok_one' {b : Bd} (h1 : b.var.size < 4611686018427387904) (h2 : b.ev.type.size < 4611686018427387904) (h3 : b.ev.attrs = []) : okP [b] := by
  intro x hx
  simp at hx
  subst hx
  exact ⟨h1, ⟨h2, by rw [h3]; decide, by rw [h3]; intro a ha; cases ha⟩⟩
theorem ok_A : okP [bA] := ok_one' (by decide) (by decide) rfl
theorem ok_B : okP [bB] := ok_one' (by decide) (by decide) rfl
theorem ok_C : okP [bC] := ok_one' (by decide) (by decide) rfl
end Go.Abs.M
namespace Go.Abs.M
open Go Go.Abs Go.Proofs
set_option maxRecDepth 20000
set_option linter.unusedSimpArgs false
set_option linter.unusedVariables false
def partV (l : List Bd) : V := .tup [.agg [.sl (l.map encBd)], .c (.int .i64 0)]
theorem of_ok (b : Bd) (h : partErr [b] = 0) (ho : okP [b]) (hl : b.ev.attrs = []) : PCalls Try.prog 19 [.c (.string b.var), .agg (encEv b.ev)] (fun v => v = partV [b]) :=
  (of_spec b.var b.ev ho (by simp [hl])).mono fun v hv => by rw [hv]; exact if_neg (by rw [show (⟨b.var, b.ev⟩ : Bd) = b from rfl, h]; simp)
theorem merge_BA : PCalls Try.prog 11 [.agg [.sl ([bB].map encBd)], .agg [.sl ([bA].map encBd)]] (fun v => v = .tup [.agg [.sl ([bA, bB].map encBd)], .c (.bool true)]) :=
  (merge_spec [bB] [bA] ok_B ok_A (by simp [bA, bB])).mono fun v hv => by
    rw [hv, mrg_BA, mergeV, if_neg (by rw [part_A, part_B]; simp), if_neg (by rw [part_AB]; simp)]
theorem merge_AC : PCalls Try.prog 11 [.agg [.sl ([bA].map encBd)], .agg [.sl ([bC].map encBd)]] (fun v => v = noPart) :=
  (merge_spec [bA] [bC] ok_A ok_C (by simp [bA, bC])).mono fun v hv => by
    rw [hv, mrg_AC, mergeV, if_neg (by rw [part_A, part_C]; simp), if_pos part_AC]
theorem begun_spec : PCalls Try.prog 13 [] (fun v => v = .c (.bool true)) := by
  refine PCalls.intro Try.call13 Try.func13 rfl Try.ntmps13 Try.results13 (by simp) ?_
  have hbeg : beginOf [bA, bB] = 5 := by decide
  have hend : endOf [bA, bB] = 7 := by decide
  refine AW.seq_k fun K1 h1 => ?_
  all_goals refine AW.reg0 ?_
  all_goals (refine S.g rfl rfl fun K' k' => ?_; simp only [zz, reduceIte, Nat.reduceEqDiff, Nat.reduceAdd]; refine k' _ _ ?_; clear k' K')
  all_goals refine S.nil ?_
  all_goals simp only [ze, reduceIte, Nat.reduceEqDiff, Nat.reduceLT, Nat.reduceLeDiff, Nat.reduceAdd, reduceCtorEq, Nat.reduceMul]
  all_goals apply_assumption
  refine AW.seq_k fun K2 h2 => ?_
  all_goals refine AW.reg0 ?_
  all_goals (refine S.g rfl rfl fun K' k' => ?_; simp only [zz, reduceIte, Nat.reduceEqDiff, Nat.reduceLT, Nat.reduceLeDiff, Nat.reduceAdd, reduceCtorEq, Nat.reduceMul, zt33, pl33, partV]; refine k' _ _ ?_; clear k' K')
  all_goals (refine S.g rfl rfl fun K' k' => ?_; simp only [zz, reduceIte, Nat.reduceEqDiff, Nat.reduceLT, Nat.reduceLeDiff, Nat.reduceAdd, reduceCtorEq, Nat.reduceMul, zt36, pl36, partV]; refine k' _ _ ?_; clear k' K')
  all_goals (refine S.g rfl rfl fun K' k' => ?_; simp only [zz, reduceIte, Nat.reduceEqDiff, Nat.reduceLT, Nat.reduceLeDiff, Nat.reduceAdd, reduceCtorEq, Nat.reduceMul, partV]; refine PCalls.eqto (of_ok bA part_A ok_A rfl) ?_ <;> (refine k' _ _ ?_; clear k' K'))
  all_goals iterate 6 (refine S.g rfl rfl fun K' k' => ?_; simp only [zz, reduceIte, Nat.reduceEqDiff, Nat.reduceLT, Nat.reduceLeDiff, Nat.reduceAdd, reduceCtorEq, Nat.reduceMul, zt24, ok24, sz24, ag24, partV]; refine k' _ _ ?_; clear k' K')
  all_goals refine S.nil ?_
  all_goals simp only [ze, reduceIte, Nat.reduceEqDiff, Nat.reduceLT, Nat.reduceLeDiff, Nat.reduceAdd, reduceCtorEq, Nat.reduceMul, partV]
  all_goals apply_assumption
  refine AW.seq_k fun K3 h3 => ?_
  all_goals refine AW.reg0 ?_
  all_goals (refine S.g rfl rfl fun K' k' => ?_; simp only [zz, reduceIte, Nat.reduceEqDiff, Nat.reduceLT, Nat.reduceLeDiff, Nat.reduceAdd, reduceCtorEq, Nat.reduceMul, zt33, pl33, partV]; refine k' _ _ ?_; clear k' K')
  all_goals (refine S.g rfl rfl fun K' k' => ?_; simp only [zz, reduceIte, Nat.reduceEqDiff, Nat.reduceLT, Nat.reduceLeDiff, Nat.reduceAdd, reduceCtorEq, Nat.reduceMul, zt36, pl36, partV]; refine k' _ _ ?_; clear k' K')
  all_goals (refine S.g rfl rfl fun K' k' => ?_; simp only [zz, reduceIte, Nat.reduceEqDiff, Nat.reduceLT, Nat.reduceLeDiff, Nat.reduceAdd, reduceCtorEq, Nat.reduceMul, partV]; refine PCalls.eqto (of_ok bB part_B ok_B rfl) ?_ <;> (refine k' _ _ ?_; clear k' K'))
  all_goals iterate 6 (refine S.g rfl rfl fun K' k' => ?_; simp only [zz, reduceIte, Nat.reduceEqDiff, Nat.reduceLT, Nat.reduceLeDiff, Nat.reduceAdd, reduceCtorEq, Nat.reduceMul, zt24, ok24, sz24, ag24, partV]; refine k' _ _ ?_; clear k' K')
  all_goals refine S.nil ?_
  all_goals simp only [ze, reduceIte, Nat.reduceEqDiff, Nat.reduceLT, Nat.reduceLeDiff, Nat.reduceAdd, reduceCtorEq, Nat.reduceMul, partV]
  all_goals apply_assumption
  refine AW.seq_k fun K4 h4 => ?_
  all_goals refine AW.reg0 ?_
  all_goals (refine S.g rfl rfl fun K' k' => ?_; simp only [zz, reduceIte, Nat.reduceEqDiff, Nat.reduceLT, Nat.reduceLeDiff, Nat.reduceAdd, reduceCtorEq, Nat.reduceMul, zt33, pl33, partV]; refine k' _ _ ?_; clear k' K')
  all_goals (refine S.g rfl rfl fun K' k' => ?_; simp only [zz, reduceIte, Nat.reduceEqDiff, Nat.reduceLT, Nat.reduceLeDiff, Nat.reduceAdd, reduceCtorEq, Nat.reduceMul, zt36, pl36, partV]; refine k' _ _ ?_; clear k' K')
  all_goals (refine S.g rfl rfl fun K' k' => ?_; simp only [zz, reduceIte, Nat.reduceEqDiff, Nat.reduceLT, Nat.reduceLeDiff, Nat.reduceAdd, reduceCtorEq, Nat.reduceMul, partV]; refine PCalls.eqto (of_ok bC part_C ok_C rfl) ?_ <;> (refine k' _ _ ?_; clear k' K'))
  all_goals iterate 6 (refine S.g rfl rfl fun K' k' => ?_; simp only [zz, reduceIte, Nat.reduceEqDiff, Nat.reduceLT, Nat.reduceLeDiff, Nat.reduceAdd, reduceCtorEq, Nat.reduceMul, zt24, ok24, sz24, ag24, partV]; refine k' _ _ ?_; clear k' K')
  all_goals refine S.nil ?_
  all_goals simp only [ze, reduceIte, Nat.reduceEqDiff, Nat.reduceLT, Nat.reduceLeDiff, Nat.reduceAdd, reduceCtorEq, Nat.reduceMul, partV]
  all_goals apply_assumption
  refine AW.seq_k fun K5 h5 => ?_
  all_goals refine AW.reg0 ?_
  all_goals iterate 2 (refine S.g rfl rfl fun K' k' => ?_; simp only [zz, reduceIte, Nat.reduceEqDiff, Nat.reduceLT, Nat.reduceLeDiff, Nat.reduceAdd, reduceCtorEq, Nat.reduceMul, ok24, sz24, ag24, partV]; refine k' _ _ ?_; clear k' K')
  all_goals (refine S.g rfl rfl fun K' k' => ?_; simp only [zz, reduceIte, Nat.reduceEqDiff, Nat.reduceLT, Nat.reduceLeDiff, Nat.reduceAdd, reduceCtorEq, Nat.reduceMul, partV]; refine PCalls.eqto merge_BA ?_ <;> (refine k' _ _ ?_; clear k' K'))
  all_goals iterate 6 (refine S.g rfl rfl fun K' k' => ?_; simp only [zz, reduceIte, Nat.reduceEqDiff, Nat.reduceLT, Nat.reduceLeDiff, Nat.reduceAdd, reduceCtorEq, Nat.reduceMul, zt24, ok24, sz24, ag24, partV]; refine k' _ _ ?_; clear k' K')
  all_goals refine S.nil ?_
  all_goals simp only [ze, reduceIte, Nat.reduceEqDiff, Nat.reduceLT, Nat.reduceLeDiff, Nat.reduceAdd, reduceCtorEq, Nat.reduceMul, partV]
  all_goals apply_assumption
  refine AW.seq_k fun K6 h6 => ?_
  all_goals refine AW.reg0 ?_
  all_goals iterate 2 (refine S.g rfl rfl fun K' k' => ?_; simp only [zz, reduceIte, Nat.reduceEqDiff, Nat.reduceLT, Nat.reduceLeDiff, Nat.reduceAdd, reduceCtorEq, Nat.reduceMul, ok24, sz24, ag24, partV, noPart]; refine k' _ _ ?_; clear k' K')
  all_goals (refine S.g rfl rfl fun K' k' => ?_; simp only [zz, reduceIte, Nat.reduceEqDiff, Nat.reduceLT, Nat.reduceLeDiff, Nat.reduceAdd, reduceCtorEq, Nat.reduceMul, partV, noPart]; refine PCalls.eqto merge_AC ?_ <;> (refine k' _ _ ?_; clear k' K'))
  all_goals iterate 6 (refine S.g rfl rfl fun K' k' => ?_; simp only [zz, reduceIte, Nat.reduceEqDiff, Nat.reduceLT, Nat.reduceLeDiff, Nat.reduceAdd, reduceCtorEq, Nat.reduceMul, zt24, ok24, sz24, ag24, partV, noPart]; refine k' _ _ ?_; clear k' K')
  all_goals refine S.nil ?_
  all_goals simp only [ze, reduceIte, Nat.reduceEqDiff, Nat.reduceLT, Nat.reduceLeDiff, Nat.reduceAdd, reduceCtorEq, Nat.reduceMul, partV, noPart]
  all_goals apply_assumption
  refine AW.seq_k fun K7 h7 => ?_
  all_goals refine AW.reg0 ?_
  all_goals (refine S.g rfl rfl fun K' k' => ?_; simp only [zz, reduceIte, Nat.reduceEqDiff, Nat.reduceAdd, hbeg, hend, List.length_map]; refine k' _ _ ?_; clear k' K')
  all_goals (refine S.g rfl rfl fun K' k' => ?_; simp only [zz, reduceIte, Nat.reduceEqDiff, Nat.reduceLT, Nat.reduceLeDiff, Nat.reduceAdd, reduceCtorEq, Nat.reduceMul, hbeg, hend, List.length_map]; refine S.bool fun b a42 => ?_; cases b <;> (try (exfalso; first | exact Bool.noConfusion a42 | (have h := of_decide_eq_true a42; omega) | (have h := of_decide_eq_false a42; omega))) <;> (refine k' _ _ ?_; clear k' K'))
  all_goals (refine S.g rfl rfl fun K' k' => ?_; simp only [zz, reduceIte, Nat.reduceEqDiff, Nat.reduceAdd, hbeg, hend, List.length_map]; refine k' _ _ ?_; clear k' K')
  all_goals (first | (refine S.y rfl rfl rfl rfl fun K' k' => ?_; simp only [zz, reduceIte, Nat.reduceEqDiff, Nat.reduceAdd, hbeg, hend, List.length_map]; refine k' _ _ ?_; clear k' K') | ((first | refine S.x rfl rfl rfl rfl fun K' k' => ?_ | refine S.u rfl rfl rfl rfl fun K' k' => ?_); simp only [ze, reduceIte, Nat.reduceEqDiff]; refine k' _ _ ?_; clear k' K'))
  all_goals (first | (refine S.y rfl rfl rfl rfl fun K' k' => ?_; simp only [zz, reduceIte, Nat.reduceEqDiff, Nat.reduceLT, Nat.reduceLeDiff, Nat.reduceAdd, reduceCtorEq, Nat.reduceMul, hbeg, hend, List.length_map]; refine S.bool fun b a45 => ?_; cases b <;> (try (exfalso; first | exact Bool.noConfusion a45 | (have h := of_decide_eq_true a45; omega) | (have h := of_decide_eq_false a45; omega))) <;> (refine k' _ _ ?_; clear k' K')) | ((first | refine S.x rfl rfl rfl rfl fun K' k' => ?_ | refine S.u rfl rfl rfl rfl fun K' k' => ?_); simp only [ze, reduceIte, Nat.reduceEqDiff]; refine k' _ _ ?_; clear k' K'))
  all_goals iterate 2 (refine S.g rfl rfl fun K' k' => ?_; simp only [zz, reduceIte, Nat.reduceEqDiff, Nat.reduceAdd, hbeg, hend, List.length_map]; refine k' _ _ ?_; clear k' K')
  all_goals (first | (refine S.y rfl rfl rfl rfl fun K' k' => ?_; simp only [zz, reduceIte, Nat.reduceEqDiff, Nat.reduceAdd, hbeg, hend, List.length_map]; refine k' _ _ ?_; clear k' K') | ((first | refine S.x rfl rfl rfl rfl fun K' k' => ?_ | refine S.u rfl rfl rfl rfl fun K' k' => ?_); simp only [ze, reduceIte, Nat.reduceEqDiff]; refine k' _ _ ?_; clear k' K'))
  all_goals (first | (refine S.y rfl rfl rfl rfl fun K' k' => ?_; simp only [zz, reduceIte, Nat.reduceEqDiff, Nat.reduceLT, Nat.reduceLeDiff, Nat.reduceAdd, reduceCtorEq, Nat.reduceMul, hbeg, hend, List.length_map]; refine S.bool fun b a49 => ?_; cases b <;> (try (exfalso; first | exact Bool.noConfusion a49 | (have h := of_decide_eq_true a49; omega) | (have h := of_decide_eq_false a49; omega))) <;> (refine k' _ _ ?_; clear k' K')) | ((first | refine S.x rfl rfl rfl rfl fun K' k' => ?_ | refine S.u rfl rfl rfl rfl fun K' k' => ?_); simp only [ze, reduceIte, Nat.reduceEqDiff]; refine k' _ _ ?_; clear k' K'))
  all_goals iterate 2 (refine S.g rfl rfl fun K' k' => ?_; simp only [zz, reduceIte, Nat.reduceEqDiff, Nat.reduceAdd, hbeg, hend, List.length_map]; refine k' _ _ ?_; clear k' K')
  all_goals (first | (refine S.y rfl rfl rfl rfl fun K' k' => ?_; simp only [zz, reduceIte, Nat.reduceEqDiff, Nat.reduceAdd, hbeg, hend, List.length_map]; refine k' _ _ ?_; clear k' K') | ((first | refine S.x rfl rfl rfl rfl fun K' k' => ?_ | refine S.u rfl rfl rfl rfl fun K' k' => ?_); simp only [ze, reduceIte, Nat.reduceEqDiff]; refine k' _ _ ?_; clear k' K'))
  all_goals iterate 2 (refine S.g rfl rfl fun K' k' => ?_; simp only [zz, reduceIte, Nat.reduceEqDiff, Nat.reduceAdd, hbeg, hend, List.length_map]; refine k' _ _ ?_; clear k' K')
  all_goals iterate 2 (first | (refine S.y rfl rfl rfl rfl fun K' k' => ?_; simp only [zz, reduceIte, Nat.reduceEqDiff, Nat.reduceAdd, hbeg, hend, List.length_map]; refine k' _ _ ?_; clear k' K') | ((first | refine S.x rfl rfl rfl rfl fun K' k' => ?_ | refine S.u rfl rfl rfl rfl fun K' k' => ?_); simp only [ze, reduceIte, Nat.reduceEqDiff]; refine k' _ _ ?_; clear k' K'))
  all_goals iterate 2 (refine S.g rfl rfl fun K' k' => ?_; simp only [zz, reduceIte, Nat.reduceEqDiff, Nat.reduceAdd, hbeg, hend, List.length_map]; refine k' _ _ ?_; clear k' K')
  all_goals (first | (refine S.y rfl rfl rfl rfl fun K' k' => ?_; simp only [zz, reduceIte, Nat.reduceEqDiff, Nat.reduceLT, Nat.reduceLeDiff, Nat.reduceAdd, reduceCtorEq, Nat.reduceMul, ok24, sz24, ag24, hbeg, hend, List.length_map]; refine k' _ _ ?_; clear k' K') | ((first | refine S.x rfl rfl rfl rfl fun K' k' => ?_ | refine S.u rfl rfl rfl rfl fun K' k' => ?_); simp only [ze, reduceIte, Nat.reduceEqDiff]; refine k' _ _ ?_; clear k' K'))
  all_goals (first | (refine S.y rfl rfl rfl rfl fun K' k' => ?_; simp only [zz, reduceIte, Nat.reduceEqDiff, Nat.reduceLT, Nat.reduceLeDiff, Nat.reduceAdd, reduceCtorEq, Nat.reduceMul, hbeg, hend, List.length_map]; refine PCalls.eqto (begin_spec [bA, bB] (by simp)) ?_ <;> (refine k' _ _ ?_; clear k' K')) | ((first | refine S.x rfl rfl rfl rfl fun K' k' => ?_ | refine S.u rfl rfl rfl rfl fun K' k' => ?_); simp only [ze, reduceIte, Nat.reduceEqDiff]; refine k' _ _ ?_; clear k' K'))
  all_goals (first | (refine S.y rfl rfl rfl rfl fun K' k' => ?_; simp only [zz, reduceIte, Nat.reduceEqDiff, Nat.reduceLT, Nat.reduceLeDiff, Nat.reduceAdd, reduceCtorEq, Nat.reduceMul, hbeg, hend, List.length_map]; refine S.bool fun b a61 => ?_; cases b <;> (try (exfalso; first | exact Bool.noConfusion a61 | (have h := of_decide_eq_true a61; omega) | (have h := of_decide_eq_false a61; omega))) <;> (refine k' _ _ ?_; clear k' K')) | ((first | refine S.x rfl rfl rfl rfl fun K' k' => ?_ | refine S.u rfl rfl rfl rfl fun K' k' => ?_); simp only [ze, reduceIte, Nat.reduceEqDiff]; refine k' _ _ ?_; clear k' K'))
  all_goals iterate 2 (refine S.g rfl rfl fun K' k' => ?_; simp only [zz, reduceIte, Nat.reduceEqDiff, Nat.reduceAdd, hbeg, hend, List.length_map]; refine k' _ _ ?_; clear k' K')
  all_goals (first | (refine S.y rfl rfl rfl rfl fun K' k' => ?_; simp only [zz, reduceIte, Nat.reduceEqDiff, Nat.reduceLT, Nat.reduceLeDiff, Nat.reduceAdd, reduceCtorEq, Nat.reduceMul, ok24, sz24, ag24, hbeg, hend, List.length_map]; refine k' _ _ ?_; clear k' K') | ((first | refine S.x rfl rfl rfl rfl fun K' k' => ?_ | refine S.u rfl rfl rfl rfl fun K' k' => ?_); simp only [ze, reduceIte, Nat.reduceEqDiff]; refine k' _ _ ?_; clear k' K'))
  all_goals (first | (refine S.y rfl rfl rfl rfl fun K' k' => ?_; simp only [zz, reduceIte, Nat.reduceEqDiff, Nat.reduceLT, Nat.reduceLeDiff, Nat.reduceAdd, reduceCtorEq, Nat.reduceMul, hbeg, hend, List.length_map]; refine PCalls.eqto (end_spec [bA, bB] (by simp)) ?_ <;> (refine k' _ _ ?_; clear k' K')) | ((first | refine S.x rfl rfl rfl rfl fun K' k' => ?_ | refine S.u rfl rfl rfl rfl fun K' k' => ?_); simp only [ze, reduceIte, Nat.reduceEqDiff]; refine k' _ _ ?_; clear k' K'))
  all_goals (first | (refine S.y rfl rfl rfl rfl fun K' k' => ?_; simp only [zz, reduceIte, Nat.reduceEqDiff, Nat.reduceLT, Nat.reduceLeDiff, Nat.reduceAdd, reduceCtorEq, Nat.reduceMul, hbeg, hend, List.length_map]; refine S.bool fun b a66 => ?_; cases b <;> (try (exfalso; first | exact Bool.noConfusion a66 | (have h := of_decide_eq_true a66; omega) | (have h := of_decide_eq_false a66; omega))) <;> (refine k' _ _ ?_; clear k' K')) | ((first | refine S.x rfl rfl rfl rfl fun K' k' => ?_ | refine S.u rfl rfl rfl rfl fun K' k' => ?_); simp only [ze, reduceIte, Nat.reduceEqDiff]; refine k' _ _ ?_; clear k' K'))
  all_goals iterate 2 (refine S.g rfl rfl fun K' k' => ?_; simp only [zz, reduceIte, Nat.reduceEqDiff, Nat.reduceAdd, hbeg, hend, List.length_map]; refine k' _ _ ?_; clear k' K')
  all_goals iterate 4 (first | (refine S.y rfl rfl rfl rfl fun K' k' => ?_; simp only [zz, reduceIte, Nat.reduceEqDiff, Nat.reduceLT, Nat.reduceLeDiff, Nat.reduceAdd, reduceCtorEq, Nat.reduceMul, of24_0, ok22, sz22, ag22, sl22, el22, ok42, sz42, ag42, hbeg, hend, List.length_map]; refine k' _ _ ?_; clear k' K') | ((first | refine S.x rfl rfl rfl rfl fun K' k' => ?_ | refine S.u rfl rfl rfl rfl fun K' k' => ?_); simp only [ze, reduceIte, Nat.reduceEqDiff]; refine k' _ _ ?_; clear k' K'))
  all_goals iterate 2 (refine S.g rfl rfl fun K' k' => ?_; simp only [zz, reduceIte, Nat.reduceEqDiff, Nat.reduceAdd, hbeg, hend, List.length_map]; refine k' _ _ ?_; clear k' K')
  all_goals refine S.nil ?_
  all_goals simp only [ze, reduceIte, Nat.reduceEqDiff, Nat.reduceLT, Nat.reduceLeDiff, Nat.reduceAdd, reduceCtorEq, Nat.reduceMul, hbeg, hend, List.length_map]
  all_goals apply_assumption
  refine AW.ret ?_
  all_goals simp only [zs, reduceIte, Nat.reduceEqDiff, Nat.reduceLT, Nat.reduceLeDiff, Nat.reduceAdd, reduceCtorEq, Nat.reduceMul]
  all_goals rfl
end Go.Abs.M
namespace Go.Abs.M
open Go Go.Abs Go.Proofs
set_option maxRecDepth 20000
set_option linter.unusedSimpArgs false
set_option linter.unusedVariables false
theorem allEq_refl {α : Type} {f : α → α → Bool} (h : ∀ x, f x x = true) : ∀ l : List α, allEq f l l = true
  | [] => rfl
  | x :: l => by simp [allEq, h, allEq_refl h l]
theorem eqAttr_refl (a : Attr) : eqAttr a a = true := by simp [eqAttr]
theorem eqEv_refl (a : Ev) : eqEv a a = true := by simp [eqEv, allEq_refl eqAttr_refl]
theorem eqBd_refl (a : Bd) : eqBd a a = true := by simp [eqBd, eqEv_refl]
/-- What a given part must be, for the contracts. -/
structure okI (l : List Bd) : Prop where
  ok : okP l
  attrs : ∀ x ∈ l, x.ev.attrs.length * 48 ≤ 140737488355328
  len : l.length * 80 ≤ 140737488355328
end Go.Abs.M
namespace Go.Abs.M
open Go Go.Abs Go.Proofs
set_option linter.unusedSimpArgs false
theorem co2 : Try.prog.cellsOf 2 = 1 := by kernel_rfl
theorem co3 : Try.prog.cellsOf 3 = 1 := by kernel_rfl
theorem co9 : Try.prog.cellsOf 9 = 1 := by kernel_rfl
theorem co22 : Try.prog.cellsOf 22 = 1 := by kernel_rfl
theorem co24 : Try.prog.cellsOf 24 = 1 := by kernel_rfl
theorem co33 : Try.prog.cellsOf 33 = 2 := by kernel_rfl
theorem co34 : Try.prog.cellsOf 34 = 1 := by kernel_rfl
theorem co36 : Try.prog.cellsOf 36 = 5 := by kernel_rfl
theorem co42 : Try.prog.cellsOf 42 = 6 := by kernel_rfl
theorem co141 : Try.prog.cellsOf 141 = 3 := by kernel_rfl
theorem co143 : Try.prog.cellsOf 143 = 4 := by kernel_rfl
theorem len1 {us : List V} (h : us.length = 1) : ∃ x0, us = [x0] := by
  match us, h with
  | [x0], _ => exact ⟨x0, rfl⟩
theorem len4 {us : List V} (h : us.length = 4) : ∃ x0 x1 x2 x3, us = [x0, x1, x2, x3] := by
  match us, h with
  | [x0, x1, x2, x3], _ => exact ⟨x0, x1, x2, x3, rfl⟩
theorem len5 {us : List V} (h : us.length = 5) : ∃ x0 x1 x2 x3 x4, us = [x0, x1, x2, x3, x4] := by
  match us, h with
  | [x0, x1, x2, x3, x4], _ => exact ⟨x0, x1, x2, x3, x4, rfl⟩
theorem len6 {us : List V} (h : us.length = 6) : ∃ x0 x1 x2 x3 x4 x5, us = [x0, x1, x2, x3, x4, x5] := by
  match us, h with
  | [x0, x1, x2, x3, x4, x5], _ => exact ⟨x0, x1, x2, x3, x4, x5, rfl⟩
theorem open_val {n : Nat} {x0 x1 x2 : V} (h : Fit Try.prog n 141 [x0, x1, x2]) : ∃ v : Val, [x0, x1, x2] = encVal v ∧ v.s.size ≤ reachBytes := by
  obtain ⟨_, m, _, hf⟩ := h.st Try.underlying141
  have h0 : Fit Try.prog m 3 (([x0, x1, x2].drop 0).take (Try.prog.cellsOf 3)) := hf 0 _ rfl
  have h1 : Fit Try.prog m 2 (([x0, x1, x2].drop 1).take (Try.prog.cellsOf 2)) := hf 1 _ rfl
  have h2 : Fit Try.prog m 9 (([x0, x1, x2].drop 2).take (Try.prog.cellsOf 9)) := hf 2 _ rfl
  simp only [co3, co2, co9, List.drop_zero, List.take_succ_cons, List.take_zero, List.drop_succ_cons] at h0 h1 h2
  obtain ⟨a, e0, _⟩ := h0.int Try.underlying3
  obtain ⟨b, e1, _⟩ := h1.int Try.underlying2
  obtain ⟨s, e2, hs⟩ := h2.str Try.underlying9
  simp only [List.cons.injEq, and_true] at e0 e1 e2
  exact ⟨⟨a, b, s⟩, by rw [e0, e1, e2]; rfl, hs⟩
def attrFits (a : Attr) : Prop := a.name.size ≤ reachBytes ∧ a.v.s.size ≤ reachBytes
theorem open_attr {n : Nat} {us : List V} (hl : us.length = 4) (h : Fit Try.prog n 143 us) : ∃ a : Attr, us = encAttr a ∧ attrFits a := by
  obtain ⟨_, m, _, hf⟩ := h.st Try.underlying143
  have h0 : Fit Try.prog m 9 ((us.drop 0).take (Try.prog.cellsOf 9)) := hf 0 _ rfl
  have h1 : Fit Try.prog m 141 ((us.drop 1).take (Try.prog.cellsOf 141)) := hf 1 _ rfl
  obtain ⟨x0, x1, x2, x3, rfl⟩ := len4 hl
  simp only [co9, co141, List.drop_zero, List.take_succ_cons, List.take_zero, List.drop_succ_cons] at h0 h1
  obtain ⟨s, e0, hs⟩ := h0.str Try.underlying9
  obtain ⟨v, e1, hv⟩ := open_val h1
  simp only [List.cons.injEq, and_true] at e0
  refine ⟨⟨s, v⟩, ?_, hs, hv⟩
  rw [e0, e1]; rfl
structure evFits (e : Ev) : Prop where
  type : e.type.size ≤ reachBytes
  len : e.attrs.length * 48 ≤ reachBytes
  attrs : ∀ a ∈ e.attrs, attrFits a
theorem open_ev {n : Nat} {us : List V} (hl : us.length = 5) (h : Fit Try.prog n 36 us) : ∃ e : Ev, us = encEv e ∧ evFits e := by
  obtain ⟨_, m, _, hf⟩ := h.st Try.underlying36
  have h0 : Fit Try.prog m 33 ((us.drop 0).take (Try.prog.cellsOf 33)) := hf 0 _ rfl
  have h1 : Fit Try.prog m 2 ((us.drop 2).take (Try.prog.cellsOf 2)) := hf 1 _ rfl
  have h2 : Fit Try.prog m 9 ((us.drop 3).take (Try.prog.cellsOf 9)) := hf 2 _ rfl
  have h3 : Fit Try.prog m 34 ((us.drop 4).take (Try.prog.cellsOf 34)) := hf 3 _ rfl
  obtain ⟨x0, x1, x2, x3, x4, rfl⟩ := len5 hl
  simp only [co33, co2, co9, co34, List.drop_zero, List.take_succ_cons, List.take_zero, List.drop_succ_cons] at h0 h1 h2 h3
  obtain ⟨_, m', _, hg⟩ := h0.st Try.underlying33
  have g0 : Fit Try.prog m' 3 (([x0, x1].drop 0).take (Try.prog.cellsOf 3)) := hg 0 _ rfl
  have g1 : Fit Try.prog m' 2 (([x0, x1].drop 1).take (Try.prog.cellsOf 2)) := hg 1 _ rfl
  simp only [co3, co2, List.drop_zero, List.take_succ_cons, List.take_zero, List.drop_succ_cons] at g0 g1
  obtain ⟨a, e0, _⟩ := g0.int Try.underlying3
  obtain ⟨b, e1, _⟩ := g1.int Try.underlying2
  obtain ⟨c, e2, _⟩ := h1.int Try.underlying2
  obtain ⟨s, e3, hs⟩ := h2.str Try.underlying9
  obtain ⟨es, e4, hes, k, _, hk⟩ := h3.sl Try.underlying34
  simp only [co143] at hk
  obtain ⟨l, rfl, hl⟩ := rows_of (f := encAttr) (p := attrFits) fun x hx => open_attr (hk x hx).1 (hk x hx).2
  simp only [List.cons.injEq, and_true] at e0 e1 e2 e3 e4
  refine ⟨⟨a, b, c, s, l⟩, by rw [e0, e1, e2, e3, e4]; rfl, hs, ?_, hl⟩
  rw [List.length_map, by143] at hes; exact hes
structure bdFits (b : Bd) : Prop where
  var : b.var.size ≤ reachBytes
  ev : evFits b.ev
theorem open_bd {n : Nat} {us : List V} (hl : us.length = 6) (h : Fit Try.prog n 42 us) : ∃ b : Bd, us = encBd b ∧ bdFits b := by
  obtain ⟨_, m, _, hf⟩ := h.st Try.underlying42
  have h0 : Fit Try.prog m 9 ((us.drop 0).take (Try.prog.cellsOf 9)) := hf 0 _ rfl
  have h1 : Fit Try.prog m 36 ((us.drop 1).take (Try.prog.cellsOf 36)) := hf 1 _ rfl
  obtain ⟨x0, x1, x2, x3, x4, x5, rfl⟩ := len6 hl
  simp only [co9, co36, List.drop_zero, List.take_succ_cons, List.take_zero, List.drop_succ_cons] at h0 h1
  obtain ⟨s, e0, hs⟩ := h0.str Try.underlying9
  obtain ⟨v, e1, hv⟩ := open_ev rfl h1
  simp only [List.cons.injEq, and_true] at e0
  refine ⟨⟨s, v⟩, ?_, hs, hv⟩
  rw [e0, e1]; rfl
theorem okI_of {l : List Bd} (h1 : ∀ b ∈ l, bdFits b) (h2 : l.length * 80 ≤ reachBytes) : okI l := by
  have hr : reachBytes = 140737488351232 := rfl
  refine ⟨fun b hb => ?_, fun b hb => ?_, by omega⟩
  · obtain ⟨k1, k2, k3, k4⟩ := h1 b hb
    exact ⟨by omega, ⟨by omega, by omega, fun a ha => by obtain ⟨h5, h6⟩ := k4 a ha; exact ⟨by omega, by omega⟩⟩⟩
  · obtain ⟨k1, k2, k3, k4⟩ := h1 b hb
    omega
theorem open_part {n : Nat} {us : List V} (hl : us.length = 1) (h : Fit Try.prog n 24 us) : ∃ l : List Bd, us = [.sl (l.map encBd)] ∧ okI l := by
  obtain ⟨_, m, _, hf⟩ := h.st Try.underlying24
  have h0 : Fit Try.prog m 22 ((us.drop 0).take (Try.prog.cellsOf 22)) := hf 0 _ rfl
  obtain ⟨x0, rfl⟩ := len1 hl
  simp only [co22, List.drop_zero, List.take_succ_cons, List.take_zero, List.drop_succ_cons] at h0
  obtain ⟨es, e4, hes, k, _, hk⟩ := h0.sl Try.underlying22
  simp only [co42] at hk
  obtain ⟨l, rfl, hl⟩ := rows_of (f := encBd) (p := bdFits) fun x hx => open_bd (hk x hx).1 (hk x hx).2
  refine ⟨l, e4, okI_of hl ?_⟩
  rw [List.length_map, by42] at hes; exact hes
/-- The types of plain data that the laws' arguments are made of. -/
def plainTs : List TypeId := [24, 22, 42, 9, 36, 33, 3, 2, 34, 143, 141, 64, 48, 5]
theorem plain_ok : plainB Try.prog plainTs = true := by kernel_rfl
end Go.Abs.M
namespace Go.Abs.M
open Go Go.Abs Go.Proofs
set_option maxRecDepth 20000
set_option linter.unusedSimpArgs false
set_option linter.unusedVariables false
/-- What the contracts want of a list. -/
structure okM (l : List Bd) : Prop where
  ok : okP l
  attrs : ∀ x ∈ l, x.ev.attrs.length * 48 ≤ 140737488355328
theorem okI.m {l : List Bd} (h : okI l) : okM l := ⟨h.ok, h.attrs⟩
theorem okM.mrg {a b : List Bd} (ha : okM a) (hb : okM b) : okM (mrg a b) := by
  refine ⟨fun x hx => ?_, fun x hx => ?_⟩ <;> rcases List.mem_append.1 (mrg_mem a b x hx) with h | h
  · exact ha.ok x h
  · exact hb.ok x h
  · exact ha.attrs x h
  · exact hb.attrs x h
end Go.Abs.M
namespace Go.Abs
open Go
section
variable {P : Program} {T : Tab} {B : Base} {n : Nat} {cx cx' : Cx} {s : St} {σ σ' : Hp} {a : Act} {w w' : World} {K : St → Hp → Prop}
inductive Tr where
  | nil
  | st (i k : Nat) (t : Tr)
  | fork (i : Nat) (a : Tr) (j : Nat) (b : Tr)
def Tr.len : Tr → Nat
  | .nil => 0
  | .st _ _ t => t.len + 1
  | .fork _ a _ _ => a.len + 1
def one (P : Program) (T : Tab) (n : Nat) (ops : List Oper) (ds : List (Option Nat)) (i k : Nat) (N : St → Hp → Prop) (s : St) (σ : Hp) : Prop :=
  match ops[i]? with
  | none => False
  | some o => dOK n o.dst ∧ (match k, o.op with
       | 1, .load _ x => gate ds s o.guard (steady T.sd (ev s x) = true) True
       | 1, _ => False
       | _, _ => True) ∧ gate ds s o.guard (semOp P T o N s σ) (N (s.putO o.dst (.c undef)) σ)
def semT (P : Program) (T : Tab) (n : Nat) (ops : List Oper) (ds : List (Option Nat)) : Tr → (St → Hp → Prop) → St → Hp → Prop
  | .nil, K => K
  | .st i k r, K => one P T n ops ds i k (semT P T n ops ds r K)
  | .fork i a j b, K => fun s σ => one P T n ops ds i 2 (semT P T n ops ds a K) s σ ∧ one P T n ops ds j 2 (semT P T n ops ds b K) s σ
/-- The list, written out first. -/
def forceL {α : Type} : List Bool → (List Bool → α) → α
  | [], k => k []
  | true :: l, k => forceL l fun m => k (true :: m)
  | false :: l, k => forceL l fun m => k (false :: m)
theorem forceL_eq {α : Type} : ∀ (l : List Bool) (k : List Bool → α), forceL l k = k l
  | [], _ => rfl
  | true :: l, k => by rw [forceL, forceL_eq l]
  | false :: l, k => by rw [forceL, forceL_eq l]
def setL : List Bool → Nat → List Bool
  | [], _ => []
  | _ :: l, 0 => true :: l
  | b :: l, i + 1 => b :: setL l i
theorem setL_eq : ∀ (l : List Bool) (i : Nat), setL l i = l.set i true
  | [], _ => rfl
  | _ :: _, 0 => rfl
  | b :: l, i + 1 => by rw [setL, setL_eq l i]; rfl
def zipR (q : Oper → Bool) : List Oper → List Bool → Nat → List Nat
  | o :: os, b :: ls, i => bif b then zipR q os ls (i + 1) else bif q o then i :: zipR q os ls (i + 1) else zipR q os ls (i + 1)
  | _, _, _ => []
theorem zipR_eq (q : Oper → Bool) : ∀ (os : List Oper) (ls : List Bool) (k : Nat), ls.length = os.length →
    zipR q os ls k = (List.range' k os.length).filter fun i => !ls.getD (i - k) true && ((os[i - k]?).map q).getD false
  | [], [], k, _ => rfl
  | o :: os, b :: ls, k, h => by
    have ih := zipR_eq q os ls (k + 1) (by simpa using h)
    have hf : (List.range' (k + 1) os.length).filter (fun i => !(b :: ls).getD (i - k) true && (((o :: os)[i - k]?).map q).getD false) = zipR q os ls (k + 1) := by
      rw [ih]
      refine List.filter_congr fun i hi => ?_
      obtain ⟨h1, _⟩ := List.mem_range'_1.1 hi
      rw [show i - k = (i - (k + 1)) + 1 by omega]
      simp
    rw [zipR, List.length_cons, List.range'_succ, List.filter_cons, hf]
    cases b <;> cases hq : q o <;> simp [hq]
def rdy (os : List Oper) (l : List Bool) : List Nat := zipR (fun o => o.after.toList.all fun e => !Region.binds .any e || l.getD e.on false) os l 0
theorem rdy_eq {os : List Oper} {l : List Bool} (h : l.length = os.length) : rdy os l = Region.ready .any ⟨os⟩ ⟨l⟩ := by
  unfold rdy Region.ready
  rw [zipR_eq _ _ _ _ h, List.range_eq_range']
  simp [Array.getD_eq_getD_getElem?, List.getD]
def zipA (q : Oper → Bool) (i : Nat) : List Oper → List Bool → Nat → Bool
  | o :: os, b :: ls, j => bif b then zipA q i os ls (j + 1) else (j == i || q o) && zipA q i os ls (j + 1)
  | _, _, _ => true
theorem zipA_eq (q : Oper → Bool) (i : Nat) : ∀ (os : List Oper) (ls : List Bool) (k : Nat), ls.length = os.length →
    zipA q i os ls k = (List.range' k os.length).all fun j => j == i || ls.getD (j - k) true || match os[j - k]? with | some o => q o | none => true
  | [], [], k, _ => rfl
  | o :: os, b :: ls, k, h => by
    have ih := zipA_eq q i os ls (k + 1) (by simpa using h)
    have hf : ((List.range' (k + 1) os.length).all fun j => j == i || (b :: ls).getD (j - k) true || match (o :: os)[j - k]? with | some o => q o | none => true) = zipA q i os ls (k + 1) := by
      rw [ih, Bool.eq_iff_iff, List.all_eq_true, List.all_eq_true]
      refine forall_congr' fun j => ⟨fun h hj => ?_, fun h hj => ?_⟩
      all_goals
        have h2 := h hj
        obtain ⟨h1, _⟩ := List.mem_range'_1.1 hj
        rw [show j - k = (j - (k + 1)) + 1 by omega] at *
        simpa using h2
    rw [zipA, List.length_cons, List.range'_succ, List.all_cons, hf]
    cases b <;> simp
def fre (os : List Oper) (l : List Bool) (i : Nat) : Bool :=
  match os[i]? with
  | none => false
  | some oi => zipA (fun oj => oj.after.toList.any (fun e => Region.binds .any e && e.on == i) || oi.apart ⟨os⟩ oj) i os l 0
theorem fre_eq {os : List Oper} {l : List Bool} (h : l.length = os.length) (i : Nat) : fre os l i = Region.free .any ⟨os⟩ ⟨l⟩ i := by
  unfold fre Region.free
  simp only [List.getElem?_toArray]
  cases os[i]? with
  | none => rfl
  | some oi =>
    simp only []
    rw [zipA_eq _ _ _ _ _ h, List.range_eq_range']
    simp [Array.getD_eq_getD_getElem?, List.getD]
    rfl
theorem setL_len (l : List Bool) (i : Nat) : (setL l i).length = l.length := by rw [setL_eq, List.length_set]
/-- The two orders of two, then the rest. -/
def Tr.of : List (Nat × Nat) → Tr
  | [] => .nil
  | (i, 3) :: (j, _) :: r => .fork i (.st j 2 (Tr.of r)) j (.st i 2 (Tr.of r))
  | (i, k) :: r => .st i k (Tr.of r)
section
variable {ops : List Oper} {i k d j : Nat} {r : Tr} {o : Oper} {ds : List (Option Nat)} {b : Bool}
theorem T.g (ho : ops[i]? = some o) (hs : stC T s k o.op) (hd : okd n o.dst = true) (hg : o.guard = none)
    (h : ∀ K' : St → Hp → Prop, (∀ s σ, semT P T n ops ds r K s σ → K' s σ) → semOp P T o K' s σ) : semT P T n ops ds (.st i k r) K s σ := by
  have := D.g (P := P) (T := T) (n := n) (s := s) (σ := σ) (K := semT P T n ops ds r K) (ds := ds) (ops := ops) (i := i) (k := k) (l := []) ho hs hd hg h
  exact this
theorem T.y (ho : ops[i]? = some o) (hs : stC T s k o.op) (hd : okd n o.dst = true) (hg : o.guard = some (j, b)) (hj : ds[j]? = some (some d)) (hb : s.t d = .c (.bool b))
    (h : ∀ K' : St → Hp → Prop, (∀ s σ, semT P T n ops ds r K s σ → K' s σ) → semOp P T o K' s σ) : semT P T n ops ds (.st i k r) K s σ := by
  have := D.y (P := P) (T := T) (n := n) (s := s) (σ := σ) (K := semT P T n ops ds r K) (ds := ds) (ops := ops) (i := i) (k := k) (l := []) ho hs hd hg hj hb h
  exact this
theorem T.x (ho : ops[i]? = some o) (hk : k = 1 → isLoad o.op = true) (hd : okd n o.dst = true) (hg : o.guard = some (j, b)) (hj : ds[j]? = some (some d)) (hb : s.t d = .c (.bool (!b)))
    (h : ∀ K' : St → Hp → Prop, (∀ s σ, semT P T n ops ds r K s σ → K' s σ) → K' (s.putO o.dst (.c undef)) σ) : semT P T n ops ds (.st i k r) K s σ := by
  have := D.x (P := P) (T := T) (n := n) (s := s) (σ := σ) (K := semT P T n ops ds r K) (ds := ds) (ops := ops) (i := i) (k := k) (l := []) ho hk hd hg hj hb h
  exact this
theorem T.u (ho : ops[i]? = some o) (hk : k = 1 → isLoad o.op = true) (hd : okd n o.dst = true) (hg : o.guard = some (j, b)) (hj : ds[j]? = some (some d)) (hb : s.t d = .c undef)
    (h : ∀ K' : St → Hp → Prop, (∀ s σ, semT P T n ops ds r K s σ → K' s σ) → K' (s.putO o.dst (.c undef)) σ) : semT P T n ops ds (.st i k r) K s σ := by
  have := D.u (P := P) (T := T) (n := n) (s := s) (σ := σ) (K := semT P T n ops ds r K) (ds := ds) (ops := ops) (i := i) (k := k) (l := []) ho hk hd hg hj hb h
  exact this
theorem T.nil (h : K s σ) : semT P T n ops ds .nil K s σ := h
/-- Only so much of the state is wanted from here on. -/
theorem T.cut {t : Tr} (J : St → Hp → Prop) (h : J s σ) (k : ∀ s σ, J s σ → semT P T n ops ds t K s σ) : semT P T n ops ds t K s σ := k s σ h
theorem D.cut {t : List (Nat × Nat)} (J : St → Hp → Prop) (h : J s σ) (k : ∀ s σ, J s σ → semD P T n ops ds t K s σ) : semD P T n ops ds t K s σ := k s σ h
theorem S.cut {r : List Oper} (J : St → Hp → Prop) (h : J s σ) (k : ∀ s σ, J s σ → semL P T n ds r K s σ) : semL P T n ds r K s σ := k s σ h
theorem AW.cut {c : Code} {Q : Exit → St → Hp → Prop} (J : St → Hp → Prop) (h : J s σ) (k : ∀ s σ, J s σ → AW P n c Q s σ) : AW P n c Q s σ := k s σ h
theorem T.fork {a c : Tr} (h1 : semT P T n ops ds (.st i 2 a) K s σ) (h2 : semT P T n ops ds (.st j 2 c) K s σ) : semT P T n ops ds (.fork i a j c) K s σ := ⟨h1, h2⟩
end
end
end Go.Abs
namespace Go.Abs.M
open Go Go.Abs Go.Proofs
set_option maxRecDepth 20000
set_option linter.unusedSimpArgs false
set_option linter.unusedVariables false
def cmpI (a b : Int) : Int := if a < b then -1 else if b < a then 1 else 0
theorem isnan_int (a : Int) : PCalls Try.prog 133 [.c (.int .i64 a)] (fun v => v = .c (.bool false)) := by
  refine PCalls.intro Try.call133 Try.func133 rfl Try.ntmps133 Try.results133 (by simp) ?_
  refine AW.seq_k fun K1 h1 => ?_
  all_goals refine AW.reg0 ?_
  all_goals (refine S.g rfl rfl fun K' k' => ?_; simp only [zz, reduceIte, Nat.reduceEqDiff, Nat.reduceAdd]; refine k' _ _ ?_; clear k' K')
  all_goals refine S.nil ?_
  all_goals simp only [ze, reduceIte, Nat.reduceEqDiff, Nat.reduceLT, Nat.reduceLeDiff, Nat.reduceAdd, reduceCtorEq, Nat.reduceMul]
  all_goals apply_assumption
  refine AW.seq_k fun K2 h2 => ?_
  all_goals refine AW.reg0 ?_
  all_goals iterate 4 (refine S.g rfl rfl fun K' k' => ?_; simp only [zz, reduceIte, Nat.reduceEqDiff, Nat.reduceAdd]; refine k' _ _ ?_; clear k' K')
  all_goals refine S.nil ?_
  all_goals simp only [ze, reduceIte, Nat.reduceEqDiff, Nat.reduceLT, Nat.reduceLeDiff, Nat.reduceAdd, reduceCtorEq, Nat.reduceMul]
  all_goals apply_assumption
  refine AW.ret ?_
  all_goals simp only [zs, reduceIte, Nat.reduceEqDiff, Nat.reduceLT, Nat.reduceLeDiff, Nat.reduceAdd, reduceCtorEq, Nat.reduceMul]
  all_goals simp
theorem compare_int (a b : Int) : PCalls Try.prog 114 [.c (.int .i64 a), .c (.int .i64 b)] (fun v => v = .c (.int .i64 (cmpI a b))) := by
  refine PCalls.intro Try.call114 Try.func114 rfl Try.ntmps114 Try.results114 (by simp) ?_
  refine AW.seq_k fun K1 h1 => ?_
  all_goals refine AW.reg0 ?_
  all_goals (refine S.g rfl rfl fun K' k' => ?_; simp only [zz, reduceIte, Nat.reduceEqDiff, Nat.reduceAdd]; refine k' _ _ ?_; clear k' K')
  all_goals refine S.nil ?_
  all_goals simp only [ze, reduceIte, Nat.reduceEqDiff, Nat.reduceLT, Nat.reduceLeDiff, Nat.reduceAdd, reduceCtorEq, Nat.reduceMul]
  all_goals apply_assumption
  refine AW.seq_k fun K2 h2 => ?_
  all_goals refine AW.reg0 ?_
  all_goals (refine S.g rfl rfl fun K' k' => ?_; simp only [zz, reduceIte, Nat.reduceEqDiff, Nat.reduceAdd]; refine k' _ _ ?_; clear k' K')
  all_goals (refine S.g rfl rfl fun K' k' => ?_; simp only [zz, reduceIte, Nat.reduceEqDiff, Nat.reduceLT, Nat.reduceLeDiff, Nat.reduceAdd, reduceCtorEq, Nat.reduceMul]; refine PCalls.eqto (isnan_int _) ?_ <;> (refine k' _ _ ?_; clear k' K'))
  all_goals (refine S.g rfl rfl fun K' k' => ?_; simp only [zz, reduceIte, Nat.reduceEqDiff, Nat.reduceAdd]; refine k' _ _ ?_; clear k' K')
  all_goals refine S.nil ?_
  all_goals simp only [ze, reduceIte, Nat.reduceEqDiff, Nat.reduceLT, Nat.reduceLeDiff, Nat.reduceAdd, reduceCtorEq, Nat.reduceMul]
  all_goals apply_assumption
  refine AW.seq_k fun K3 h3 => ?_
  all_goals refine AW.reg0 ?_
  all_goals (refine S.g rfl rfl fun K' k' => ?_; simp only [zz, reduceIte, Nat.reduceEqDiff, Nat.reduceAdd]; refine k' _ _ ?_; clear k' K')
  all_goals (refine S.g rfl rfl fun K' k' => ?_; simp only [zz, reduceIte, Nat.reduceEqDiff, Nat.reduceLT, Nat.reduceLeDiff, Nat.reduceAdd, reduceCtorEq, Nat.reduceMul]; refine PCalls.eqto (isnan_int _) ?_ <;> (refine k' _ _ ?_; clear k' K'))
  all_goals (refine S.g rfl rfl fun K' k' => ?_; simp only [zz, reduceIte, Nat.reduceEqDiff, Nat.reduceAdd]; refine k' _ _ ?_; clear k' K')
  all_goals refine S.nil ?_
  all_goals simp only [ze, reduceIte, Nat.reduceEqDiff, Nat.reduceLT, Nat.reduceLeDiff, Nat.reduceAdd, reduceCtorEq, Nat.reduceMul]
  all_goals apply_assumption
  refine AW.seq_k fun K4 h4 => ?_
  refine AW.seq_k fun K5 h5 => ?_
  all_goals refine AW.reg0 ?_
  all_goals (refine S.g rfl rfl fun K' k' => ?_; simp only [zz, reduceIte, Nat.reduceEqDiff, Nat.reduceAdd]; refine k' _ _ ?_; clear k' K')
  all_goals refine S.nil ?_
  all_goals simp only [ze, reduceIte, Nat.reduceEqDiff, Nat.reduceLT, Nat.reduceLeDiff, Nat.reduceAdd, reduceCtorEq, Nat.reduceMul]
  all_goals apply_assumption
  refine AW.cond (b := false) (by simp [ev]) (fun hc => by cases hc) (fun hc => AW.skip ?_)
  all_goals simp only [zs, reduceIte, Nat.reduceEqDiff, Nat.reduceLT, Nat.reduceLeDiff, Nat.reduceAdd, reduceCtorEq, Nat.reduceMul]
  all_goals apply_assumption
  refine AW.seq_k fun K6 h6 => ?_
  refine AW.seq_k fun K7 h7 => ?_
  all_goals refine AW.reg0 ?_
  all_goals (refine S.g rfl rfl fun K' k' => ?_; simp only [zz, reduceIte, Nat.reduceEqDiff, Nat.reduceAdd]; refine k' _ _ ?_; clear k' K')
  all_goals refine S.nil ?_
  all_goals simp only [ze, reduceIte, Nat.reduceEqDiff, Nat.reduceLT, Nat.reduceLeDiff, Nat.reduceAdd, reduceCtorEq, Nat.reduceMul]
  all_goals apply_assumption
  refine AW.cond (b := false) (by simp [ev]) (fun hc => by cases hc) (fun hc => AW.skip ?_)
  all_goals simp only [zs, reduceIte, Nat.reduceEqDiff, Nat.reduceLT, Nat.reduceLeDiff, Nat.reduceAdd, reduceCtorEq, Nat.reduceMul]
  all_goals apply_assumption
  refine AW.seq_k fun K8 h8 => ?_
  refine AW.seq_k fun K9 h9 => ?_
  all_goals refine AW.reg0 ?_
  all_goals iterate 3 (refine S.g rfl rfl fun K' k' => ?_; simp only [zz, reduceIte, Nat.reduceEqDiff, Nat.reduceAdd]; refine k' _ _ ?_; clear k' K')
  all_goals refine S.nil ?_
  all_goals simp only [ze, reduceIte, Nat.reduceEqDiff, Nat.reduceLT, Nat.reduceLeDiff, Nat.reduceAdd, reduceCtorEq, Nat.reduceMul]
  all_goals apply_assumption
  refine AW.cond (b := decide (a < b)) (by simp [ev]) (fun hc => ?_) (fun hc => ?_)
  · have hc := of_decide_eq_true hc
    refine AW.seq_k fun K10 h10 => ?_
    all_goals refine AW.reg0 ?_
    all_goals (refine S.g rfl rfl fun K' k' => ?_; simp only [zz, reduceIte, Nat.reduceEqDiff, Nat.reduceAdd]; refine k' _ _ ?_; clear k' K')
    all_goals refine S.nil ?_
    all_goals simp only [ze, reduceIte, Nat.reduceEqDiff, Nat.reduceLT, Nat.reduceLeDiff, Nat.reduceAdd, reduceCtorEq, Nat.reduceMul]
    all_goals apply_assumption
    refine AW.ret ?_
    all_goals simp only [zs, reduceIte, Nat.reduceEqDiff, Nat.reduceLT, Nat.reduceLeDiff, Nat.reduceAdd, reduceCtorEq, Nat.reduceMul]
    simp [cmpI, hc]
  · have hc := of_decide_eq_false hc
    refine AW.skip ?_
    all_goals simp only [zs, reduceIte, Nat.reduceEqDiff, Nat.reduceLT, Nat.reduceLeDiff, Nat.reduceAdd, reduceCtorEq, Nat.reduceMul]
    all_goals apply_assumption
    refine AW.seq_k fun K11 h11 => ?_
    refine AW.seq_k fun K12 h12 => ?_
    all_goals refine AW.reg0 ?_
    all_goals iterate 3 (refine S.g rfl rfl fun K' k' => ?_; simp only [zz, reduceIte, Nat.reduceEqDiff, Nat.reduceAdd]; refine k' _ _ ?_; clear k' K')
    all_goals refine S.nil ?_
    all_goals simp only [ze, reduceIte, Nat.reduceEqDiff, Nat.reduceLT, Nat.reduceLeDiff, Nat.reduceAdd, reduceCtorEq, Nat.reduceMul]
    all_goals apply_assumption
    refine AW.cond (b := decide (a > b)) (by simp [ev]) (fun hd => ?_) (fun hd => ?_)
    · have hd := of_decide_eq_true hd
      refine AW.seq_k fun K13 h13 => ?_
      all_goals refine AW.reg0 ?_
      all_goals (refine S.g rfl rfl fun K' k' => ?_; simp only [zz, reduceIte, Nat.reduceEqDiff, Nat.reduceAdd]; refine k' _ _ ?_; clear k' K')
      all_goals refine S.nil ?_
      all_goals simp only [ze, reduceIte, Nat.reduceEqDiff, Nat.reduceLT, Nat.reduceLeDiff, Nat.reduceAdd, reduceCtorEq, Nat.reduceMul]
      all_goals apply_assumption
      refine AW.ret ?_
      all_goals simp only [zs, reduceIte, Nat.reduceEqDiff, Nat.reduceLT, Nat.reduceLeDiff, Nat.reduceAdd, reduceCtorEq, Nat.reduceMul]
      rw [cmpI, if_neg hc, if_pos hd]
    · have hd := of_decide_eq_false hd
      refine AW.skip ?_
      all_goals simp only [zs, reduceIte, Nat.reduceEqDiff, Nat.reduceLT, Nat.reduceLeDiff, Nat.reduceAdd, reduceCtorEq, Nat.reduceMul]
      all_goals apply_assumption
      refine AW.seq_k fun K14 h14 => ?_
      all_goals refine AW.reg0 ?_
      all_goals (refine S.g rfl rfl fun K' k' => ?_; simp only [zz, reduceIte, Nat.reduceEqDiff, Nat.reduceAdd]; refine k' _ _ ?_; clear k' K')
      all_goals refine S.nil ?_
      all_goals simp only [ze, reduceIte, Nat.reduceEqDiff, Nat.reduceLT, Nat.reduceLeDiff, Nat.reduceAdd, reduceCtorEq, Nat.reduceMul]
      all_goals apply_assumption
      refine AW.ret ?_
      all_goals simp only [zs, reduceIte, Nat.reduceEqDiff, Nat.reduceLT, Nat.reduceLeDiff, Nat.reduceAdd, reduceCtorEq, Nat.reduceMul]
      rw [cmpI, if_neg hc, if_neg hd]
theorem isnan_i64 (a : Int) : PCalls Try.prog 134 [.c (.int .i64 a)] (fun v => v = .c (.bool false)) := by
  refine PCalls.intro Try.call134 Try.func134 rfl Try.ntmps134 Try.results134 (by simp) ?_
  refine AW.seq_k fun K1 h1 => ?_
  all_goals refine AW.reg0 ?_
  all_goals (refine S.g rfl rfl fun K' k' => ?_; simp only [zz, reduceIte, Nat.reduceEqDiff, Nat.reduceAdd]; refine k' _ _ ?_; clear k' K')
  all_goals refine S.nil ?_
  all_goals simp only [ze, reduceIte, Nat.reduceEqDiff, Nat.reduceLT, Nat.reduceLeDiff, Nat.reduceAdd, reduceCtorEq, Nat.reduceMul]
  all_goals apply_assumption
  refine AW.seq_k fun K2 h2 => ?_
  all_goals refine AW.reg0 ?_
  all_goals iterate 4 (refine S.g rfl rfl fun K' k' => ?_; simp only [zz, reduceIte, Nat.reduceEqDiff, Nat.reduceAdd]; refine k' _ _ ?_; clear k' K')
  all_goals refine S.nil ?_
  all_goals simp only [ze, reduceIte, Nat.reduceEqDiff, Nat.reduceLT, Nat.reduceLeDiff, Nat.reduceAdd, reduceCtorEq, Nat.reduceMul]
  all_goals apply_assumption
  refine AW.ret ?_
  all_goals simp only [zs, reduceIte, Nat.reduceEqDiff, Nat.reduceLT, Nat.reduceLeDiff, Nat.reduceAdd, reduceCtorEq, Nat.reduceMul]
  all_goals simp
theorem compare_i64 (a b : Int) : PCalls Try.prog 115 [.c (.int .i64 a), .c (.int .i64 b)] (fun v => v = .c (.int .i64 (cmpI a b))) := by
  refine PCalls.intro Try.call115 Try.func115 rfl Try.ntmps115 Try.results115 (by simp) ?_
  refine AW.seq_k fun K1 h1 => ?_
  all_goals refine AW.reg0 ?_
  all_goals (refine S.g rfl rfl fun K' k' => ?_; simp only [zz, reduceIte, Nat.reduceEqDiff, Nat.reduceAdd]; refine k' _ _ ?_; clear k' K')
  all_goals refine S.nil ?_
  all_goals simp only [ze, reduceIte, Nat.reduceEqDiff, Nat.reduceLT, Nat.reduceLeDiff, Nat.reduceAdd, reduceCtorEq, Nat.reduceMul]
  all_goals apply_assumption
  refine AW.seq_k fun K2 h2 => ?_
  all_goals refine AW.reg0 ?_
  all_goals (refine S.g rfl rfl fun K' k' => ?_; simp only [zz, reduceIte, Nat.reduceEqDiff, Nat.reduceAdd]; refine k' _ _ ?_; clear k' K')
  all_goals (refine S.g rfl rfl fun K' k' => ?_; simp only [zz, reduceIte, Nat.reduceEqDiff, Nat.reduceLT, Nat.reduceLeDiff, Nat.reduceAdd, reduceCtorEq, Nat.reduceMul]; refine PCalls.eqto (isnan_i64 _) ?_ <;> (refine k' _ _ ?_; clear k' K'))
  all_goals (refine S.g rfl rfl fun K' k' => ?_; simp only [zz, reduceIte, Nat.reduceEqDiff, Nat.reduceAdd]; refine k' _ _ ?_; clear k' K')
  all_goals refine S.nil ?_
  all_goals simp only [ze, reduceIte, Nat.reduceEqDiff, Nat.reduceLT, Nat.reduceLeDiff, Nat.reduceAdd, reduceCtorEq, Nat.reduceMul]
  all_goals apply_assumption
  refine AW.seq_k fun K3 h3 => ?_
  all_goals refine AW.reg0 ?_
  all_goals (refine S.g rfl rfl fun K' k' => ?_; simp only [zz, reduceIte, Nat.reduceEqDiff, Nat.reduceAdd]; refine k' _ _ ?_; clear k' K')
  all_goals (refine S.g rfl rfl fun K' k' => ?_; simp only [zz, reduceIte, Nat.reduceEqDiff, Nat.reduceLT, Nat.reduceLeDiff, Nat.reduceAdd, reduceCtorEq, Nat.reduceMul]; refine PCalls.eqto (isnan_i64 _) ?_ <;> (refine k' _ _ ?_; clear k' K'))
  all_goals (refine S.g rfl rfl fun K' k' => ?_; simp only [zz, reduceIte, Nat.reduceEqDiff, Nat.reduceAdd]; refine k' _ _ ?_; clear k' K')
  all_goals refine S.nil ?_
  all_goals simp only [ze, reduceIte, Nat.reduceEqDiff, Nat.reduceLT, Nat.reduceLeDiff, Nat.reduceAdd, reduceCtorEq, Nat.reduceMul]
  all_goals apply_assumption
  refine AW.seq_k fun K4 h4 => ?_
  refine AW.seq_k fun K5 h5 => ?_
  all_goals refine AW.reg0 ?_
  all_goals (refine S.g rfl rfl fun K' k' => ?_; simp only [zz, reduceIte, Nat.reduceEqDiff, Nat.reduceAdd]; refine k' _ _ ?_; clear k' K')
  all_goals refine S.nil ?_
  all_goals simp only [ze, reduceIte, Nat.reduceEqDiff, Nat.reduceLT, Nat.reduceLeDiff, Nat.reduceAdd, reduceCtorEq, Nat.reduceMul]
  all_goals apply_assumption
  refine AW.cond (b := false) (by simp [ev]) (fun hc => by cases hc) (fun hc => AW.skip ?_)
  all_goals simp only [zs, reduceIte, Nat.reduceEqDiff, Nat.reduceLT, Nat.reduceLeDiff, Nat.reduceAdd, reduceCtorEq, Nat.reduceMul]
  all_goals apply_assumption
  refine AW.seq_k fun K6 h6 => ?_
  refine AW.seq_k fun K7 h7 => ?_
  all_goals refine AW.reg0 ?_
  all_goals (refine S.g rfl rfl fun K' k' => ?_; simp only [zz, reduceIte, Nat.reduceEqDiff, Nat.reduceAdd]; refine k' _ _ ?_; clear k' K')
  all_goals refine S.nil ?_
  all_goals simp only [ze, reduceIte, Nat.reduceEqDiff, Nat.reduceLT, Nat.reduceLeDiff, Nat.reduceAdd, reduceCtorEq, Nat.reduceMul]
  all_goals apply_assumption
  refine AW.cond (b := false) (by simp [ev]) (fun hc => by cases hc) (fun hc => AW.skip ?_)
  all_goals simp only [zs, reduceIte, Nat.reduceEqDiff, Nat.reduceLT, Nat.reduceLeDiff, Nat.reduceAdd, reduceCtorEq, Nat.reduceMul]
  all_goals apply_assumption
  refine AW.seq_k fun K8 h8 => ?_
  refine AW.seq_k fun K9 h9 => ?_
  all_goals refine AW.reg0 ?_
  all_goals iterate 3 (refine S.g rfl rfl fun K' k' => ?_; simp only [zz, reduceIte, Nat.reduceEqDiff, Nat.reduceAdd]; refine k' _ _ ?_; clear k' K')
  all_goals refine S.nil ?_
  all_goals simp only [ze, reduceIte, Nat.reduceEqDiff, Nat.reduceLT, Nat.reduceLeDiff, Nat.reduceAdd, reduceCtorEq, Nat.reduceMul]
  all_goals apply_assumption
  refine AW.cond (b := decide (a < b)) (by simp [ev]) (fun hc => ?_) (fun hc => ?_)
  · have hc := of_decide_eq_true hc
    refine AW.seq_k fun K10 h10 => ?_
    all_goals refine AW.reg0 ?_
    all_goals (refine S.g rfl rfl fun K' k' => ?_; simp only [zz, reduceIte, Nat.reduceEqDiff, Nat.reduceAdd]; refine k' _ _ ?_; clear k' K')
    all_goals refine S.nil ?_
    all_goals simp only [ze, reduceIte, Nat.reduceEqDiff, Nat.reduceLT, Nat.reduceLeDiff, Nat.reduceAdd, reduceCtorEq, Nat.reduceMul]
    all_goals apply_assumption
    refine AW.ret ?_
    all_goals simp only [zs, reduceIte, Nat.reduceEqDiff, Nat.reduceLT, Nat.reduceLeDiff, Nat.reduceAdd, reduceCtorEq, Nat.reduceMul]
    simp [cmpI, hc]
  · have hc := of_decide_eq_false hc
    refine AW.skip ?_
    all_goals simp only [zs, reduceIte, Nat.reduceEqDiff, Nat.reduceLT, Nat.reduceLeDiff, Nat.reduceAdd, reduceCtorEq, Nat.reduceMul]
    all_goals apply_assumption
    refine AW.seq_k fun K11 h11 => ?_
    refine AW.seq_k fun K12 h12 => ?_
    all_goals refine AW.reg0 ?_
    all_goals iterate 3 (refine S.g rfl rfl fun K' k' => ?_; simp only [zz, reduceIte, Nat.reduceEqDiff, Nat.reduceAdd]; refine k' _ _ ?_; clear k' K')
    all_goals refine S.nil ?_
    all_goals simp only [ze, reduceIte, Nat.reduceEqDiff, Nat.reduceLT, Nat.reduceLeDiff, Nat.reduceAdd, reduceCtorEq, Nat.reduceMul]
    all_goals apply_assumption
    refine AW.cond (b := decide (a > b)) (by simp [ev]) (fun hd => ?_) (fun hd => ?_)
    · have hd := of_decide_eq_true hd
      refine AW.seq_k fun K13 h13 => ?_
      all_goals refine AW.reg0 ?_
      all_goals (refine S.g rfl rfl fun K' k' => ?_; simp only [zz, reduceIte, Nat.reduceEqDiff, Nat.reduceAdd]; refine k' _ _ ?_; clear k' K')
      all_goals refine S.nil ?_
      all_goals simp only [ze, reduceIte, Nat.reduceEqDiff, Nat.reduceLT, Nat.reduceLeDiff, Nat.reduceAdd, reduceCtorEq, Nat.reduceMul]
      all_goals apply_assumption
      refine AW.ret ?_
      all_goals simp only [zs, reduceIte, Nat.reduceEqDiff, Nat.reduceLT, Nat.reduceLeDiff, Nat.reduceAdd, reduceCtorEq, Nat.reduceMul]
      rw [cmpI, if_neg hc, if_pos hd]
    · have hd := of_decide_eq_false hd
      refine AW.skip ?_
      all_goals simp only [zs, reduceIte, Nat.reduceEqDiff, Nat.reduceLT, Nat.reduceLeDiff, Nat.reduceAdd, reduceCtorEq, Nat.reduceMul]
      all_goals apply_assumption
      refine AW.seq_k fun K14 h14 => ?_
      all_goals refine AW.reg0 ?_
      all_goals (refine S.g rfl rfl fun K' k' => ?_; simp only [zz, reduceIte, Nat.reduceEqDiff, Nat.reduceAdd]; refine k' _ _ ?_; clear k' K')
      all_goals refine S.nil ?_
      all_goals simp only [ze, reduceIte, Nat.reduceEqDiff, Nat.reduceLT, Nat.reduceLeDiff, Nat.reduceAdd, reduceCtorEq, Nat.reduceMul]
      all_goals apply_assumption
      refine AW.ret ?_
      all_goals simp only [zs, reduceIte, Nat.reduceEqDiff, Nat.reduceLT, Nat.reduceLeDiff, Nat.reduceAdd, reduceCtorEq, Nat.reduceMul]
      rw [cmpI, if_neg hc, if_neg hd]
def orI : List Int → Int
  | [] => 0
  | a :: l => if a ≠ 0 then a else orI l
theorem or_spec (l : List Int) (hl : l.length < 4611686018427387904) : PCalls Try.prog 84 [.sl (l.map encI)] (fun v => v = .c (.int .i64 (orI l))) := by
  refine PCalls.intro Try.call84 Try.func84 rfl Try.ntmps84 Try.results84 (by simp) ?_
  refine AW.seq_k fun K1 h1 => ?_
  all_goals refine AW.reg0 ?_
  all_goals (refine S.g rfl rfl fun K' k' => ?_; simp only [zz, reduceIte, Nat.reduceEqDiff, Nat.reduceAdd]; refine k' _ _ ?_; clear k' K')
  all_goals refine S.nil ?_
  all_goals simp only [ze, reduceIte, Nat.reduceEqDiff, Nat.reduceLT, Nat.reduceLeDiff, Nat.reduceAdd, reduceCtorEq, Nat.reduceMul]
  all_goals apply_assumption
  refine AW.seq_k fun K2 h2 => ?_
  all_goals refine AW.reg0 ?_
  all_goals (refine S.g rfl rfl fun K' k' => ?_; simp only [zz, reduceIte, Nat.reduceEqDiff, Nat.reduceAdd]; refine k' _ _ ?_; clear k' K')
  all_goals refine S.nil ?_
  all_goals simp only [ze, reduceIte, Nat.reduceEqDiff, Nat.reduceLT, Nat.reduceLeDiff, Nat.reduceAdd, reduceCtorEq, Nat.reduceMul]
  all_goals apply_assumption
  refine AW.seq_k fun K3 h3 => ?_
  refine AW.seq_k fun K4 h4 => ?_
  all_goals refine AW.reg0 ?_
  all_goals iterate 3 (refine S.g rfl rfl fun K' k' => ?_; simp only [zz, reduceIte, Nat.reduceEqDiff, Nat.reduceLT, Nat.reduceLeDiff, Nat.reduceAdd, reduceCtorEq, Nat.reduceMul, sl144, el144, ok3, sz3, ag3]; refine k' _ _ ?_; clear k' K')
  all_goals refine S.nil ?_
  all_goals simp only [ze, reduceIte, Nat.reduceEqDiff, Nat.reduceLT, Nat.reduceLeDiff, Nat.reduceAdd, reduceCtorEq, Nat.reduceMul]
  all_goals apply_assumption
  refine AW.block ?_   -- 0
  refine AW.loop (fun m s σ => σ = Hp.empty ∧ ∃ i : Nat, m + i = l.length ∧ s.t 3 = .c (.int .i64 0) ∧ s.t 6 = .sl (l.map encI) ∧ s.t 7 = .c (.int .i64 l.length) ∧ s.t 8 = .c (.int .i64 i) ∧ orI l = orI (l.drop i)) l.length ?_ ?_
  · refine ⟨rfl, 0, by simp, ?_⟩
    all_goals simp only [zs, reduceIte, Nat.reduceEqDiff, Nat.reduceLT, Nat.reduceLeDiff, Nat.reduceAdd, reduceCtorEq, Nat.reduceMul]
    simp
  rintro m s σ ⟨rfl, i, hm, e3, e6, e7, e8, hp⟩
  refine AW.seq_k fun K5 h5 => ?_
  all_goals refine AW.reg0 ?_
  all_goals (refine S.g rfl rfl fun K' k' => ?_; simp only [zz, reduceIte, Nat.reduceEqDiff, Nat.reduceAdd, e7, e8]; refine k' _ _ ?_; clear k' K')
  all_goals refine S.nil ?_
  all_goals simp only [ze, reduceIte, Nat.reduceEqDiff, Nat.reduceLT, Nat.reduceLeDiff, Nat.reduceAdd, reduceCtorEq, Nat.reduceMul, e7, e8]
  all_goals apply_assumption
  refine AW.seq_k fun K6 h6 => ?_
  refine AW.cond (b := decide (i < l.length)) (by simp [ev]) (fun hc => ?_) (fun hc => ?_)
  · refine AW.skip ?_
    all_goals simp only [zs, reduceIte, Nat.reduceEqDiff, Nat.reduceLT, Nat.reduceLeDiff, Nat.reduceAdd, reduceCtorEq, Nat.reduceMul]
    all_goals apply_assumption
    have hi : i < l.length := by simpa using hc
    have hg := getD_map (f := encI) hi
    have hd : l.drop i = l[i] :: l.drop (i + 1) := List.drop_eq_getElem_cons hi
    generalize ha : l[i] = a at hg hd
    have hw : IntKind.i64.wrap ((i : Int) + 1) = ((i + 1 : Nat) : Int) := by rw [wrap_small _ (by omega) (by omega)]; rfl
    rw [hd, orI] at hp
    refine AW.seq_k fun K7 h7 => ?_
    refine AW.block ?_   -- 1
    refine AW.seq_k fun K8 h8 => ?_
    all_goals refine AW.reg0 ?_
    all_goals iterate 3 (refine S.g rfl rfl fun K' k' => ?_; simp only [zz, reduceIte, Nat.reduceEqDiff, Nat.reduceLT, Nat.reduceLeDiff, Nat.reduceAdd, reduceCtorEq, Nat.reduceMul, sl144, el144, ok3, sz3, ag3, e6, e8, hi, hg, encI]; refine k' _ _ ?_; clear k' K')
    all_goals refine S.nil ?_
    all_goals simp only [ze, reduceIte, Nat.reduceEqDiff, Nat.reduceLT, Nat.reduceLeDiff, Nat.reduceAdd, reduceCtorEq, Nat.reduceMul, e6, e8, hi, hg, encI]
    all_goals apply_assumption
    refine AW.seq_k fun K9 h9 => ?_
    all_goals refine AW.reg0 ?_
    all_goals iterate 3 (refine S.g rfl rfl fun K' k' => ?_; simp only [zz, reduceIte, Nat.reduceEqDiff, Nat.reduceAdd, e3]; refine k' _ _ ?_; clear k' K')
    all_goals refine S.nil ?_
    all_goals simp only [ze, reduceIte, Nat.reduceEqDiff, Nat.reduceLT, Nat.reduceLeDiff, Nat.reduceAdd, reduceCtorEq, Nat.reduceMul, e3]
    all_goals apply_assumption
    refine AW.cond (b := a != 0) (by simp [ev]) (fun hx => ?_) (fun hx => ?_)
    · have hx : a ≠ 0 := by simpa using hx
      refine AW.seq_k fun K10 h10 => ?_
      all_goals refine AW.reg0 ?_
      all_goals iterate 2 (refine S.g rfl rfl fun K' k' => ?_; simp only [zz, reduceIte, Nat.reduceEqDiff, Nat.reduceAdd]; refine k' _ _ ?_; clear k' K')
      all_goals refine S.nil ?_
      all_goals simp only [ze, reduceIte, Nat.reduceEqDiff, Nat.reduceLT, Nat.reduceLeDiff, Nat.reduceAdd, reduceCtorEq, Nat.reduceMul]
      all_goals apply_assumption
      refine AW.ret ?_
      all_goals simp only [zs, reduceIte, Nat.reduceEqDiff, Nat.reduceLT, Nat.reduceLeDiff, Nat.reduceAdd, reduceCtorEq, Nat.reduceMul]
      rw [hp, if_pos hx]
    · have hx : ¬ a ≠ 0 := by simpa using hx
      rw [if_neg hx] at hp
      refine AW.skip ?_
      all_goals simp only [zs, reduceIte, Nat.reduceEqDiff, Nat.reduceLT, Nat.reduceLeDiff, Nat.reduceAdd, reduceCtorEq, Nat.reduceMul]
      all_goals apply_assumption
      all_goals refine AW.reg0 ?_
      all_goals iterate 2 (refine S.g rfl rfl fun K' k' => ?_; simp only [zz, reduceIte, Nat.reduceEqDiff, Nat.reduceAdd, e8, hw]; refine k' _ _ ?_; clear k' K')
      all_goals refine S.nil ?_
      all_goals simp only [ze, reduceIte, Nat.reduceEqDiff, Nat.reduceLT, Nat.reduceLeDiff, Nat.reduceAdd, reduceCtorEq, Nat.reduceMul, e8, hw]
      exact ⟨m - 1, by omega, i + 1, by omega, e3, e6, e7, rfl, hp⟩
  · refine AW.exit ?_
    all_goals simp only [zs, reduceIte, Nat.reduceEqDiff, Nat.reduceLT, Nat.reduceLeDiff, Nat.reduceAdd, reduceCtorEq, Nat.reduceMul]
    all_goals apply_assumption
    have hi : l.length ≤ i := by simpa using hc
    refine AW.seq_k fun K11 h11 => ?_
    all_goals refine AW.reg0 ?_
    all_goals iterate 2 (refine S.g rfl rfl fun K' k' => ?_; simp only [zz, reduceIte, Nat.reduceEqDiff, Nat.reduceAdd, e3]; refine k' _ _ ?_; clear k' K')
    all_goals refine S.nil ?_
    all_goals simp only [ze, reduceIte, Nat.reduceEqDiff, Nat.reduceLT, Nat.reduceLeDiff, Nat.reduceAdd, reduceCtorEq, Nat.reduceMul, e3]
    all_goals apply_assumption
    refine AW.ret ?_
    all_goals simp only [zs, reduceIte, Nat.reduceEqDiff, Nat.reduceLT, Nat.reduceLeDiff, Nat.reduceAdd, reduceCtorEq, Nat.reduceMul]
    rw [hp, List.drop_of_length_le hi]; rfl
def encId (p : Int × Int) : List V := [.c (.int .i64 p.1), .c (.int .i64 p.2)]
def cmpId (a b : Int × Int) : Int := orI [cmpI a.1 b.1, cmpI a.2 b.2]
theorem compare_id (a b : Int × Int) : PCalls Try.prog 85 [.agg (encId a), .agg (encId b)] (fun v => v = .c (.int .i64 (cmpId a b))) := by
  refine PCalls.intro Try.call85 Try.func85 rfl Try.ntmps85 Try.results85 (by simp) ?_
  refine AW.seq_k fun K1 h1 => ?_
  all_goals refine AW.reg0 ?_
  all_goals iterate 3 (refine S.g rfl rfl fun K' k' => ?_; simp only [zz, reduceIte, Nat.reduceEqDiff, Nat.reduceLT, Nat.reduceLeDiff, Nat.reduceAdd, reduceCtorEq, Nat.reduceMul, ok33, sz33, ag33, encId]; refine k' _ _ ?_; clear k' K')
  all_goals refine S.nil ?_
  all_goals simp only [ze, reduceIte, Nat.reduceEqDiff, Nat.reduceLT, Nat.reduceLeDiff, Nat.reduceAdd, reduceCtorEq, Nat.reduceMul, encId]
  all_goals apply_assumption
  refine AW.seq_k fun K2 h2 => ?_
  all_goals refine AW.draw (T := { sd := fun d => d == 2 || d == 3 }) (fun _ _ h => by cases h) mixedO [(0, 0), (2, 0), (5, 0), (7, 0), (1, 1), (3, 1), (6, 1), (8, 1), (4, 2), (9, 2), (10, 2), (11, 2), (12, 0)] rfl (by kernel_rfl) (by kernel_rfl) ?_
  all_goals iterate 4 (refine D.g rfl trivial rfl rfl fun K' k' => ?_; simp only [zz, reduceIte, Nat.reduceEqDiff, Nat.reduceLT, Nat.reduceLeDiff, Nat.reduceAdd, reduceCtorEq, Nat.reduceMul, of33_0, of33_1]; refine k' _ _ ?_; clear k' K')
  all_goals iterate 4 (refine D.g rfl rfl rfl rfl fun K' k' => ?_; simp only [zz, reduceIte, Nat.reduceEqDiff, Nat.reduceLT, Nat.reduceLeDiff, Nat.reduceAdd, reduceCtorEq, Nat.reduceMul, ok3, sz3, ag3, ok2, sz2, ag2]; refine k' _ _ ?_; clear k' K')
  all_goals (refine D.g rfl trivial rfl rfl fun K' k' => ?_; simp only [zz, reduceIte, Nat.reduceEqDiff, Nat.reduceLT, Nat.reduceLeDiff, Nat.reduceAdd, reduceCtorEq, Nat.reduceMul]; refine PCalls.eqto (compare_int _ _) ?_ <;> (refine k' _ _ ?_; clear k' K'))
  all_goals (refine D.g rfl trivial rfl rfl fun K' k' => ?_; simp only [zz, reduceIte, Nat.reduceEqDiff, Nat.reduceLT, Nat.reduceLeDiff, Nat.reduceAdd, reduceCtorEq, Nat.reduceMul]; refine PCalls.eqto (compare_i64 _ _) ?_ <;> (refine k' _ _ ?_; clear k' K'))
  all_goals (refine D.g rfl trivial rfl rfl fun K' k' => ?_; simp only [zb, reduceIte, Nat.reduceEqDiff, Nat.reduceLT, Nat.reduceLeDiff, Nat.reduceAdd, reduceCtorEq, Nat.reduceMul, sl144, el144, ok3, sz3, ag3, zt3, by3]; refine ⟨rfl, (by simp), ?_⟩ <;> (refine k' _ _ ?_; clear k' K'))
  all_goals (refine D.g rfl trivial rfl rfl fun K' k' => ?_; simp only [zz, reduceIte, Nat.reduceEqDiff, Nat.reduceLT, Nat.reduceLeDiff, Nat.reduceAdd, reduceCtorEq, Nat.reduceMul]; refine PCalls.eqto (or_spec [cmpI a.1 b.1, cmpI a.2 b.2] (by simp)) ?_ <;> (refine k' _ _ ?_; clear k' K'))
  all_goals (refine D.g rfl trivial rfl rfl fun K' k' => ?_; simp only [zz, reduceIte, Nat.reduceEqDiff, Nat.reduceAdd]; refine k' _ _ ?_; clear k' K')
  all_goals refine D.nil ?_
  all_goals simp only [ze, reduceIte, Nat.reduceEqDiff, Nat.reduceLT, Nat.reduceLeDiff, Nat.reduceAdd, reduceCtorEq, Nat.reduceMul]
  all_goals apply_assumption
  refine AW.ret ?_
  all_goals simp only [zs, reduceIte, Nat.reduceEqDiff, Nat.reduceLT, Nat.reduceLeDiff, Nat.reduceAdd, reduceCtorEq, Nat.reduceMul]
  all_goals rfl
theorem cmpId_eq (a b : Int × Int) : (if a.1 < b.1 ∨ a.1 = b.1 ∧ a.2 < b.2 then -1 else if a = b then 0 else 1) = cmpId a b := by
  obtain ⟨a1, a2⟩ := a
  obtain ⟨b1, b2⟩ := b
  simp only [cmpId, orI, cmpI, Prod.mk.injEq]
  by_cases h1 : a1 < b1
  · simp [h1]
  · by_cases h2 : b1 < a1
    · have : a1 ≠ b1 := by omega
      simp [h1, h2, this]
    · have : a1 = b1 := by omega
      subst this
      by_cases h3 : a2 < b2
      · simp [h3]
      · by_cases h4 : b2 < a2
        · have : a2 ≠ b2 := by omega
          simp [h3, h4, this]
        · have : a2 = b2 := by omega
          subst this; simp
theorem rcompare_id (a b : Int × Int) : PCalls Try.prog 86 [.agg (encId a), .agg (encId b)] (fun v => v = .c (.int .i64 (cmpId a b))) := by
  refine PCalls.intro Try.call86 Try.func86 rfl Try.ntmps86 Try.results86 (by simp) ?_
  refine AW.seq_k fun K1 h1 => ?_
  all_goals refine AW.reg0 ?_
  all_goals iterate 3 (refine S.g rfl rfl fun K' k' => ?_; simp only [zz, reduceIte, Nat.reduceEqDiff, Nat.reduceLT, Nat.reduceLeDiff, Nat.reduceAdd, reduceCtorEq, Nat.reduceMul, ok33, sz33, ag33, encId]; refine k' _ _ ?_; clear k' K')
  all_goals refine S.nil ?_
  all_goals simp only [ze, reduceIte, Nat.reduceEqDiff, Nat.reduceLT, Nat.reduceLeDiff, Nat.reduceAdd, reduceCtorEq, Nat.reduceMul, encId]
  all_goals apply_assumption
  refine AW.seq_k fun K2 h2 => ?_
  refine AW.block ?_   -- 0
  refine AW.seq_j (fun s' σ' => σ' = Hp.empty ∧ s'.t 2 = .lp 2 0 ∧ s'.l 2 = some [.c (.int .i64 a.1), .c (.int .i64 a.2)] ∧ s'.t 3 = .lp 3 0 ∧ s'.l 3 = some [.c (.int .i64 b.1), .c (.int .i64 b.2)] ∧ s'.t 5 = .c (.bool (decide (a.1 < b.1 ∨ a.1 = b.1 ∧ a.2 < b.2)))) ?_ ?_
  · skip
    all_goals refine AW.reg0 ?_
    all_goals iterate 4 (refine S.g rfl rfl fun K' k' => ?_; simp only [zz, reduceIte, Nat.reduceEqDiff, Nat.reduceLT, Nat.reduceLeDiff, Nat.reduceAdd, reduceCtorEq, Nat.reduceMul, of33_0, ok3, sz3, ag3]; refine k' _ _ ?_; clear k' K')
    all_goals (refine S.g rfl rfl fun K' k' => ?_; simp only [zz, reduceIte, Nat.reduceEqDiff, Nat.reduceLT, Nat.reduceLeDiff, Nat.reduceAdd, reduceCtorEq, Nat.reduceMul]; refine S.bool fun b a10 => ?_; cases b <;> (try (exfalso; first | exact Bool.noConfusion a10 | (have h := of_decide_eq_true a10; omega) | (have h := of_decide_eq_false a10; omega))) <;> (refine k' _ _ ?_; clear k' K'))
    all_goals (refine S.g rfl rfl fun K' k' => ?_; simp only [zz, reduceIte, Nat.reduceEqDiff, Nat.reduceAdd]; refine k' _ _ ?_; clear k' K')
    all_goals iterate 4 (first | (refine S.y rfl rfl rfl rfl fun K' k' => ?_; simp only [zz, reduceIte, Nat.reduceEqDiff, Nat.reduceLT, Nat.reduceLeDiff, Nat.reduceAdd, reduceCtorEq, Nat.reduceMul, of33_0, ok3, sz3, ag3]; refine k' _ _ ?_; clear k' K') | ((first | refine S.x rfl rfl rfl rfl fun K' k' => ?_ | refine S.u rfl rfl rfl rfl fun K' k' => ?_); simp only [ze, reduceIte, Nat.reduceEqDiff]; refine k' _ _ ?_; clear k' K'))
    all_goals (first | (refine S.y rfl rfl rfl rfl fun K' k' => ?_; simp only [zz, reduceIte, Nat.reduceEqDiff, Nat.reduceLT, Nat.reduceLeDiff, Nat.reduceAdd, reduceCtorEq, Nat.reduceMul]; refine S.bool fun b a16 => ?_; cases b <;> (try (exfalso; first | exact Bool.noConfusion a16 | (have h := of_decide_eq_true a16; omega) | (have h := of_decide_eq_false a16; omega))) <;> (refine k' _ _ ?_; clear k' K')) | ((first | refine S.x rfl rfl rfl rfl fun K' k' => ?_ | refine S.u rfl rfl rfl rfl fun K' k' => ?_); simp only [ze, reduceIte, Nat.reduceEqDiff]; refine k' _ _ ?_; clear k' K'))
    all_goals iterate 7 (first | (refine S.y rfl rfl rfl rfl fun K' k' => ?_; simp only [zz, reduceIte, Nat.reduceEqDiff, Nat.reduceLT, Nat.reduceLeDiff, Nat.reduceAdd, reduceCtorEq, Nat.reduceMul, of33_1, ok2, sz2, ag2]; refine k' _ _ ?_; clear k' K') | ((first | refine S.x rfl rfl rfl rfl fun K' k' => ?_ | refine S.u rfl rfl rfl rfl fun K' k' => ?_); simp only [ze, reduceIte, Nat.reduceEqDiff]; refine k' _ _ ?_; clear k' K'))
    all_goals iterate 2 (refine S.g rfl rfl fun K' k' => ?_; simp only [zz, reduceIte, Nat.reduceEqDiff, Nat.reduceAdd]; refine k' _ _ ?_; clear k' K')
    all_goals refine S.nil ?_
    all_goals simp only [ze, reduceIte, Nat.reduceEqDiff, Nat.reduceLT, Nat.reduceLeDiff, Nat.reduceAdd, reduceCtorEq, Nat.reduceMul]
    all_goals (try simp only [beq_eq_false_iff_ne, decide_eq_true_eq, decide_eq_false_iff_not, beq_iff_eq, ne_eq, Bool.not_eq_true', Bool.not_eq_false', bne_iff_ne, bne_eq_false_iff_eq] at *)
    all_goals (try simp only [V.c.injEq, Value.bool.injEq, Value.int.injEq, true_and])
    all_goals first | done | rfl | omega | ((rw [Bool.eq_iff_iff]; simp only [beq_eq_false_iff_ne, decide_eq_true_eq, decide_eq_false_iff_not, beq_iff_eq, ne_eq, Bool.not_eq_true', Bool.not_eq_false', bne_iff_ne, bne_eq_false_iff_eq, Bool.false_or, Bool.true_or, Bool.or_false, Bool.or_true, Bool.false_and, Bool.and_false, Bool.true_and, Bool.and_true, Bool.not_true, Bool.not_false, Bool.or_eq_false_iff, Bool.and_eq_false_iff, Bool.or_eq_true, Bool.and_eq_true, Bool.false_eq_true, Bool.true_eq_false, true_iff, iff_true, false_iff, iff_false]) <;> omega)
  rintro s σ ⟨rfl, e2, l2, e3, l3, e5⟩
  refine AW.cond (b := _) e5 (fun hc => ?_) (fun hc => ?_)
  · have hc := of_decide_eq_true hc
    refine AW.seq_k fun K3 h3 => ?_
    all_goals refine AW.reg0 ?_
    all_goals (refine S.g rfl rfl fun K' k' => ?_; simp only [zz, reduceIte, Nat.reduceEqDiff, Nat.reduceAdd]; refine k' _ _ ?_; clear k' K')
    all_goals refine S.nil ?_
    all_goals simp only [ze, reduceIte, Nat.reduceEqDiff, Nat.reduceLT, Nat.reduceLeDiff, Nat.reduceAdd, reduceCtorEq, Nat.reduceMul]
    all_goals apply_assumption
    refine AW.ret ?_
    all_goals simp only [zs, reduceIte, Nat.reduceEqDiff, Nat.reduceLT, Nat.reduceLeDiff, Nat.reduceAdd, reduceCtorEq, Nat.reduceMul]
    rw [← cmpId_eq, if_pos hc]
  · have hc := of_decide_eq_false hc
    refine AW.seq_k fun K4 h4 => ?_
    all_goals refine AW.region (T := { eqk := eqTab }) (eqTab_ok) rfl ?_
    all_goals iterate 4 (refine S.g rfl rfl fun K' k' => ?_; simp only [zz, reduceIte, Nat.reduceEqDiff, Nat.reduceLT, Nat.reduceLeDiff, Nat.reduceAdd, reduceCtorEq, Nat.reduceMul, ok33, sz33, ag33, eqk33, fitsAll, SK.fits, cellsEq, cellEq, e2, l2, e3, l3]; refine k' _ _ ?_; clear k' K')
    all_goals refine S.nil ?_
    all_goals simp only [ze, reduceIte, Nat.reduceEqDiff, Nat.reduceLT, Nat.reduceLeDiff, Nat.reduceAdd, reduceCtorEq, Nat.reduceMul, e2, l2, e3, l3]
    all_goals apply_assumption
    refine AW.cond (b := decide (a = b)) (by simp [ev, Prod.ext_iff]; rfl) (fun hd => ?_) (fun hd => ?_)
    · have hd := of_decide_eq_true hd
      refine AW.seq_k fun K5 h5 => ?_
      all_goals refine AW.reg0 ?_
      all_goals (refine S.g rfl rfl fun K' k' => ?_; simp only [zz, reduceIte, Nat.reduceEqDiff, Nat.reduceAdd]; refine k' _ _ ?_; clear k' K')
      all_goals refine S.nil ?_
      all_goals simp only [ze, reduceIte, Nat.reduceEqDiff, Nat.reduceLT, Nat.reduceLeDiff, Nat.reduceAdd, reduceCtorEq, Nat.reduceMul]
      all_goals apply_assumption
      refine AW.ret ?_
      all_goals simp only [zs, reduceIte, Nat.reduceEqDiff, Nat.reduceLT, Nat.reduceLeDiff, Nat.reduceAdd, reduceCtorEq, Nat.reduceMul]
      rw [← cmpId_eq, if_neg hc, if_pos hd]
    · have hd := of_decide_eq_false hd
      refine AW.skip ?_
      all_goals simp only [zs, reduceIte, Nat.reduceEqDiff, Nat.reduceLT, Nat.reduceLeDiff, Nat.reduceAdd, reduceCtorEq, Nat.reduceMul]
      all_goals apply_assumption
      refine AW.seq_k fun K6 h6 => ?_
      all_goals refine AW.reg0 ?_
      all_goals (refine S.g rfl rfl fun K' k' => ?_; simp only [zz, reduceIte, Nat.reduceEqDiff, Nat.reduceAdd]; refine k' _ _ ?_; clear k' K')
      all_goals refine S.nil ?_
      all_goals simp only [ze, reduceIte, Nat.reduceEqDiff, Nat.reduceLT, Nat.reduceLeDiff, Nat.reduceAdd, reduceCtorEq, Nat.reduceMul]
      all_goals apply_assumption
      refine AW.ret ?_
      all_goals simp only [zs, reduceIte, Nat.reduceEqDiff, Nat.reduceLT, Nat.reduceLeDiff, Nat.reduceAdd, reduceCtorEq, Nat.reduceMul]
      rw [← cmpId_eq, if_neg hc, if_neg hd]
end Go.Abs.M
namespace Go.Abs.M
open Go Go.Abs Go.Proofs
set_option maxRecDepth 20000
set_option linter.unusedSimpArgs false
set_option linter.unusedVariables false
def cmpBd (a b : Bd) : Int := orI [cmpS a.var b.var, cmpId (idOf a) (idOf b)]
def cmpL : List Bd → List Bd → Int
  | [], [] => 0
  | [], _ :: _ => -1
  | _ :: _, [] => 1
  | a :: l, b :: r => if cmpBd a b ≠ 0 then cmpBd a b else cmpL l r
theorem compare_bd (a b : Bd) : PCalls Try.prog 83 [.agg (encBd a), .agg (encBd b)] (fun v => v = .c (.int .i64 (cmpBd a b))) := by
  refine PCalls.intro Try.call83 Try.func83 rfl Try.ntmps83 Try.results83 (by simp) ?_
  refine AW.seq_k fun K1 h1 => ?_
  all_goals refine AW.reg0 ?_
  all_goals iterate 3 (refine S.g rfl rfl fun K' k' => ?_; simp only [zz, reduceIte, Nat.reduceEqDiff, Nat.reduceLT, Nat.reduceLeDiff, Nat.reduceAdd, reduceCtorEq, Nat.reduceMul, ok42, sz42, ag42, encBd]; refine k' _ _ ?_; clear k' K')
  all_goals refine S.nil ?_
  all_goals simp only [ze, reduceIte, Nat.reduceEqDiff, Nat.reduceLT, Nat.reduceLeDiff, Nat.reduceAdd, reduceCtorEq, Nat.reduceMul, encBd]
  all_goals apply_assumption
  refine AW.seq_k fun K2 h2 => ?_
  all_goals refine AW.draw (T := { sd := fun d => d == 2 || d == 3 }) (fun _ _ h => by cases h) mixedO [(0, 0), (2, 0), (5, 0), (6, 0), (8, 0), (9, 0), (1, 1), (3, 1), (7, 1), (10, 1), (4, 2), (11, 2), (12, 2), (13, 2), (14, 0)] rfl (by kernel_rfl) (by kernel_rfl) ?_
  all_goals iterate 6 (refine D.g rfl trivial rfl rfl fun K' k' => ?_; simp only [zz, reduceIte, Nat.reduceEqDiff, Nat.reduceLT, Nat.reduceLeDiff, Nat.reduceAdd, reduceCtorEq, Nat.reduceMul, of42_0, of42_1, of36_0]; refine k' _ _ ?_; clear k' K')
  all_goals iterate 4 (refine D.g rfl rfl rfl rfl fun K' k' => ?_; simp only [zz, reduceIte, Nat.reduceEqDiff, Nat.reduceLT, Nat.reduceLeDiff, Nat.reduceAdd, reduceCtorEq, Nat.reduceMul, ok9, sz9, ag9, ok33, sz33, ag33]; refine k' _ _ ?_; clear k' K')
  all_goals (refine D.g rfl trivial rfl rfl fun K' k' => ?_; simp only [zz, reduceIte, Nat.reduceEqDiff, Nat.reduceLT, Nat.reduceLeDiff, Nat.reduceAdd, reduceCtorEq, Nat.reduceMul]; refine PCalls.eqto (compare_str _ _) ?_ <;> (refine k' _ _ ?_; clear k' K'))
  all_goals (refine D.g rfl trivial rfl rfl fun K' k' => ?_; simp only [zz, reduceIte, Nat.reduceEqDiff, Nat.reduceLT, Nat.reduceLeDiff, Nat.reduceAdd, reduceCtorEq, Nat.reduceMul]; refine PCalls.eqto (compare_id (idOf a) (idOf b)) ?_ <;> (refine k' _ _ ?_; clear k' K'))
  all_goals (refine D.g rfl trivial rfl rfl fun K' k' => ?_; simp only [zb, reduceIte, Nat.reduceEqDiff, Nat.reduceLT, Nat.reduceLeDiff, Nat.reduceAdd, reduceCtorEq, Nat.reduceMul, sl144, el144, ok3, sz3, ag3, zt3, by3]; refine ⟨rfl, (by simp), ?_⟩ <;> (refine k' _ _ ?_; clear k' K'))
  all_goals (refine D.g rfl trivial rfl rfl fun K' k' => ?_; simp only [zz, reduceIte, Nat.reduceEqDiff, Nat.reduceLT, Nat.reduceLeDiff, Nat.reduceAdd, reduceCtorEq, Nat.reduceMul]; refine PCalls.eqto (or_spec [cmpS a.var b.var, cmpId (idOf a) (idOf b)] (by simp)) ?_ <;> (refine k' _ _ ?_; clear k' K'))
  all_goals (refine D.g rfl trivial rfl rfl fun K' k' => ?_; simp only [zz, reduceIte, Nat.reduceEqDiff, Nat.reduceAdd]; refine k' _ _ ?_; clear k' K')
  all_goals refine D.nil ?_
  all_goals simp only [ze, reduceIte, Nat.reduceEqDiff, Nat.reduceLT, Nat.reduceLeDiff, Nat.reduceAdd, reduceCtorEq, Nat.reduceMul]
  all_goals apply_assumption
  refine AW.ret ?_
  all_goals simp only [zs, reduceIte, Nat.reduceEqDiff, Nat.reduceLT, Nat.reduceLeDiff, Nat.reduceAdd, reduceCtorEq, Nat.reduceMul]
  all_goals rfl
theorem compareF (l r : List Bd) (hl : l.length < 4611686018427387904) : PCalls Try.prog 82 [.sl (l.map encBd), .sl (r.map encBd), .fn (.func 83) [] []] (fun v => v = .c (.int .i64 (cmpL l r))) := by
  refine PCalls.intro Try.call82 Try.func82 rfl Try.ntmps82 Try.results82 (by simp) ?_
  refine AW.seq_k fun K1 h1 => ?_
  all_goals refine AW.reg0 ?_
  all_goals (refine S.g rfl rfl fun K' k' => ?_; simp only [zz, reduceIte, Nat.reduceEqDiff, Nat.reduceAdd]; refine k' _ _ ?_; clear k' K')
  all_goals refine S.nil ?_
  all_goals simp only [ze, reduceIte, Nat.reduceEqDiff, Nat.reduceLT, Nat.reduceLeDiff, Nat.reduceAdd, reduceCtorEq, Nat.reduceMul]
  all_goals apply_assumption
  refine AW.seq_j (fun s σ => σ = Hp.empty ∧ s.t 0 = .sl (l.map encBd) ∧ s.t 1 = .sl (r.map encBd) ∧ l.length ≤ r.length ∧ cmpL l r = cmpL [] (r.drop l.length)) ?_ ?_
  · refine AW.seq_k fun K2 h2 => ?_
    all_goals refine AW.reg0 ?_
    all_goals iterate 3 (refine S.g rfl rfl fun K' k' => ?_; simp only [zz, reduceIte, Nat.reduceEqDiff, Nat.reduceLT, Nat.reduceLeDiff, Nat.reduceAdd, reduceCtorEq, Nat.reduceMul, sl22, el22, ok42, sz42, ag42]; refine k' _ _ ?_; clear k' K')
    all_goals refine S.nil ?_
    all_goals simp only [ze, reduceIte, Nat.reduceEqDiff, Nat.reduceLT, Nat.reduceLeDiff, Nat.reduceAdd, reduceCtorEq, Nat.reduceMul]
    all_goals apply_assumption
    refine AW.block ?_   -- 0
    refine AW.loop (fun m s σ => σ = Hp.empty ∧ ∃ i : Nat, m + i = l.length ∧ s.t 0 = .sl (l.map encBd) ∧ s.t 1 = .sl (r.map encBd) ∧ s.t 2 = .fn (.func 83) [] [] ∧ s.t 11 = .sl (l.map encBd) ∧ s.t 12 = .c (.int .i64 l.length) ∧ s.t 13 = .c (.int .i64 i) ∧ i ≤ r.length ∧ cmpL l r = cmpL (l.drop i) (r.drop i)) l.length ?_ ?_
    · refine ⟨rfl, 0, by simp, ?_⟩
      all_goals simp only [zs, reduceIte, Nat.reduceEqDiff, Nat.reduceLT, Nat.reduceLeDiff, Nat.reduceAdd, reduceCtorEq, Nat.reduceMul]
      simp
    rintro m s σ ⟨rfl, i, hm, e0, e1, e2, e11, e12, e13, hir, hp⟩
    refine AW.seq_k fun K3 h3 => ?_
    all_goals refine AW.reg0 ?_
    all_goals (refine S.g rfl rfl fun K' k' => ?_; simp only [zz, reduceIte, Nat.reduceEqDiff, Nat.reduceAdd, e12, e13]; refine k' _ _ ?_; clear k' K')
    all_goals refine S.nil ?_
    all_goals simp only [ze, reduceIte, Nat.reduceEqDiff, Nat.reduceLT, Nat.reduceLeDiff, Nat.reduceAdd, reduceCtorEq, Nat.reduceMul, e12, e13]
    all_goals apply_assumption
    refine AW.seq_k fun K4 h4 => ?_
    refine AW.cond (b := decide (i < l.length)) (by simp [ev]) (fun hc => ?_) (fun hc => ?_)
    · refine AW.skip ?_
      all_goals simp only [zs, reduceIte, Nat.reduceEqDiff, Nat.reduceLT, Nat.reduceLeDiff, Nat.reduceAdd, reduceCtorEq, Nat.reduceMul]
      all_goals apply_assumption
      have hi : i < l.length := by simpa using hc
      have hg := getD_map (f := encBd) hi
      have hd : l.drop i = l[i] :: l.drop (i + 1) := List.drop_eq_getElem_cons hi
      generalize ha : l[i] = a at hg hd
      have hw : IntKind.i64.wrap ((i : Int) + 1) = ((i + 1 : Nat) : Int) := by rw [wrap_small _ (by omega) (by omega)]; rfl
      refine AW.seq_k fun K5 h5 => ?_
      refine AW.block ?_   -- 1
      refine AW.seq_k fun K6 h6 => ?_
      all_goals refine AW.reg0 ?_
      all_goals iterate 6 (refine S.g rfl rfl fun K' k' => ?_; simp only [zz, reduceIte, Nat.reduceEqDiff, Nat.reduceLT, Nat.reduceLeDiff, Nat.reduceAdd, reduceCtorEq, Nat.reduceMul, sl22, el22, ok42, sz42, ag42, zt42, e11, e13, hi, hg, encBd]; refine k' _ _ ?_; clear k' K')
      all_goals refine S.nil ?_
      all_goals simp only [ze, reduceIte, Nat.reduceEqDiff, Nat.reduceLT, Nat.reduceLeDiff, Nat.reduceAdd, reduceCtorEq, Nat.reduceMul, e11, e13, hi, hg, encBd]
      all_goals apply_assumption
      refine AW.seq_k fun K7 h7 => ?_
      refine AW.seq_k fun K8 h8 => ?_
      all_goals refine AW.reg0 ?_
      all_goals iterate 4 (refine S.g rfl rfl fun K' k' => ?_; simp only [zz, reduceIte, Nat.reduceEqDiff, Nat.reduceLT, Nat.reduceLeDiff, Nat.reduceAdd, reduceCtorEq, Nat.reduceMul, sl22, el22, ok42, sz42, ag42, e1]; refine k' _ _ ?_; clear k' K')
      all_goals refine S.nil ?_
      all_goals simp only [ze, reduceIte, Nat.reduceEqDiff, Nat.reduceLT, Nat.reduceLeDiff, Nat.reduceAdd, reduceCtorEq, Nat.reduceMul, e1]
      all_goals apply_assumption
      refine AW.cond (b := decide ((i : Int) ≥ r.length)) (by simp [ev]) (fun hx => ?_) (fun hx => ?_)
      · have hx := of_decide_eq_true hx
        refine AW.seq_k fun K9 h9 => ?_
        all_goals refine AW.reg0 ?_
        all_goals (refine S.g rfl rfl fun K' k' => ?_; simp only [zz, reduceIte, Nat.reduceEqDiff, Nat.reduceAdd]; refine k' _ _ ?_; clear k' K')
        all_goals refine S.nil ?_
        all_goals simp only [ze, reduceIte, Nat.reduceEqDiff, Nat.reduceLT, Nat.reduceLeDiff, Nat.reduceAdd, reduceCtorEq, Nat.reduceMul]
        all_goals apply_assumption
        refine AW.ret ?_
        all_goals simp only [zs, reduceIte, Nat.reduceEqDiff, Nat.reduceLT, Nat.reduceLeDiff, Nat.reduceAdd, reduceCtorEq, Nat.reduceMul]
        rw [hp, hd, List.drop_of_length_le (show r.length ≤ i by omega)]; rfl
      · have hx := of_decide_eq_false hx
        have hj : i < r.length := by omega
        have hg2 := getD_map (f := encBd) hj
        have hd2 : r.drop i = r[i] :: r.drop (i + 1) := List.drop_eq_getElem_cons hj
        generalize hb : r[i] = b at hg2 hd2
        rw [hd, hd2, cmpL] at hp
        refine AW.skip ?_
        all_goals simp only [zs, reduceIte, Nat.reduceEqDiff, Nat.reduceLT, Nat.reduceLeDiff, Nat.reduceAdd, reduceCtorEq, Nat.reduceMul]
        all_goals apply_assumption
        refine AW.seq_k fun K10 h10 => ?_
        all_goals refine AW.reg0 ?_
        all_goals iterate 6 (refine S.g rfl rfl fun K' k' => ?_; simp only [zz, reduceIte, Nat.reduceEqDiff, Nat.reduceLT, Nat.reduceLeDiff, Nat.reduceAdd, reduceCtorEq, Nat.reduceMul, sl22, el22, ok42, sz42, ag42, zt42, e1, hj, hg2, encBd]; refine k' _ _ ?_; clear k' K')
        all_goals refine S.nil ?_
        all_goals simp only [ze, reduceIte, Nat.reduceEqDiff, Nat.reduceLT, Nat.reduceLeDiff, Nat.reduceAdd, reduceCtorEq, Nat.reduceMul, e1, hj, hg2, encBd]
        all_goals apply_assumption
        refine AW.seq_k fun K11 h11 => ?_
        all_goals refine AW.reg0 ?_
        all_goals iterate 3 (refine S.g rfl rfl fun K' k' => ?_; simp only [zz, reduceIte, Nat.reduceEqDiff, Nat.reduceLT, Nat.reduceLeDiff, Nat.reduceAdd, reduceCtorEq, Nat.reduceMul, ok42, sz42, ag42, e2, encBd]; refine k' _ _ ?_; clear k' K')
        all_goals (refine S.g rfl rfl fun K' k' => ?_; simp only [zz, reduceIte, Nat.reduceEqDiff, Nat.reduceLT, Nat.reduceLeDiff, Nat.reduceAdd, reduceCtorEq, Nat.reduceMul, e2, encBd]; refine PCalls.eqto (compare_bd a b) ?_ <;> (refine k' _ _ ?_; clear k' K'))
        all_goals (refine S.g rfl rfl fun K' k' => ?_; simp only [zz, reduceIte, Nat.reduceEqDiff, Nat.reduceAdd, e2, encBd]; refine k' _ _ ?_; clear k' K')
        all_goals refine S.nil ?_
        all_goals simp only [ze, reduceIte, Nat.reduceEqDiff, Nat.reduceLT, Nat.reduceLeDiff, Nat.reduceAdd, reduceCtorEq, Nat.reduceMul, e2, encBd]
        all_goals apply_assumption
        refine AW.seq_k fun K12 h12 => ?_
        all_goals refine AW.reg0 ?_
        all_goals iterate 2 (refine S.g rfl rfl fun K' k' => ?_; simp only [zz, reduceIte, Nat.reduceEqDiff, Nat.reduceAdd]; refine k' _ _ ?_; clear k' K')
        all_goals refine S.nil ?_
        all_goals simp only [ze, reduceIte, Nat.reduceEqDiff, Nat.reduceLT, Nat.reduceLeDiff, Nat.reduceAdd, reduceCtorEq, Nat.reduceMul]
        all_goals apply_assumption
        refine AW.cond (b := cmpBd a b != 0) (by simp [ev]) (fun hy => ?_) (fun hy => ?_)
        · have hy : cmpBd a b ≠ 0 := by simpa using hy
          refine AW.seq_k fun K13 h13 => ?_
          all_goals refine AW.reg0 ?_
          all_goals iterate 2 (refine S.g rfl rfl fun K' k' => ?_; simp only [zz, reduceIte, Nat.reduceEqDiff, Nat.reduceAdd]; refine k' _ _ ?_; clear k' K')
          all_goals refine S.nil ?_
          all_goals simp only [ze, reduceIte, Nat.reduceEqDiff, Nat.reduceLT, Nat.reduceLeDiff, Nat.reduceAdd, reduceCtorEq, Nat.reduceMul]
          all_goals apply_assumption
          refine AW.ret ?_
          all_goals simp only [zs, reduceIte, Nat.reduceEqDiff, Nat.reduceLT, Nat.reduceLeDiff, Nat.reduceAdd, reduceCtorEq, Nat.reduceMul]
          rw [hp, if_pos hy]
        · have hy : ¬ cmpBd a b ≠ 0 := by simpa using hy
          rw [if_neg hy] at hp
          refine AW.skip ?_
          all_goals simp only [zs, reduceIte, Nat.reduceEqDiff, Nat.reduceLT, Nat.reduceLeDiff, Nat.reduceAdd, reduceCtorEq, Nat.reduceMul]
          all_goals apply_assumption
          all_goals refine AW.reg0 ?_
          all_goals iterate 2 (refine S.g rfl rfl fun K' k' => ?_; simp only [zz, reduceIte, Nat.reduceEqDiff, Nat.reduceAdd, e13, hw, e0, e1, e2, e11, e12]; refine k' _ _ ?_; clear k' K')
          all_goals refine S.nil ?_
          all_goals simp only [ze, reduceIte, Nat.reduceEqDiff, Nat.reduceLT, Nat.reduceLeDiff, Nat.reduceAdd, reduceCtorEq, Nat.reduceMul, e13, hw, e0, e1, e2, e11, e12]
          exact ⟨m - 1, by omega, i + 1, by omega, rfl, by omega, hp⟩
    · refine AW.exit ?_
      all_goals simp only [zs, reduceIte, Nat.reduceEqDiff, Nat.reduceLT, Nat.reduceLeDiff, Nat.reduceAdd, reduceCtorEq, Nat.reduceMul]
      have hc := of_decide_eq_false hc
      have hil : i = l.length := by omega
      subst hil
      rw [List.drop_length] at hp
      exact ⟨e0, e1, hir, hp⟩
  rintro s σ ⟨rfl, e0, e1, hlr, hp⟩
  refine AW.seq_k fun K14 h14 => ?_
  refine AW.seq_k fun K15 h15 => ?_
  all_goals refine AW.reg0 ?_
  all_goals iterate 5 (refine S.g rfl rfl fun K' k' => ?_; simp only [zz, reduceIte, Nat.reduceEqDiff, Nat.reduceLT, Nat.reduceLeDiff, Nat.reduceAdd, reduceCtorEq, Nat.reduceMul, sl22, el22, ok42, sz42, ag42, e0, e1]; refine k' _ _ ?_; clear k' K')
  all_goals refine S.nil ?_
  all_goals simp only [ze, reduceIte, Nat.reduceEqDiff, Nat.reduceLT, Nat.reduceLeDiff, Nat.reduceAdd, reduceCtorEq, Nat.reduceMul, e0, e1]
  all_goals apply_assumption
  refine AW.cond (b := decide (l.length < r.length)) (by simp [ev]) (fun hc => ?_) (fun hc => ?_)
  · have hc := of_decide_eq_true hc
    refine AW.seq_k fun K16 h16 => ?_
    all_goals refine AW.reg0 ?_
    all_goals (refine S.g rfl rfl fun K' k' => ?_; simp only [zz, reduceIte, Nat.reduceEqDiff, Nat.reduceAdd]; refine k' _ _ ?_; clear k' K')
    all_goals refine S.nil ?_
    all_goals simp only [ze, reduceIte, Nat.reduceEqDiff, Nat.reduceLT, Nat.reduceLeDiff, Nat.reduceAdd, reduceCtorEq, Nat.reduceMul]
    all_goals apply_assumption
    refine AW.ret ?_
    all_goals simp only [zs, reduceIte, Nat.reduceEqDiff, Nat.reduceLT, Nat.reduceLeDiff, Nat.reduceAdd, reduceCtorEq, Nat.reduceMul]
    rw [hp, List.drop_eq_getElem_cons hc]; rfl
  · have hc := of_decide_eq_false hc
    refine AW.skip ?_
    all_goals simp only [zs, reduceIte, Nat.reduceEqDiff, Nat.reduceLT, Nat.reduceLeDiff, Nat.reduceAdd, reduceCtorEq, Nat.reduceMul]
    all_goals apply_assumption
    refine AW.seq_k fun K17 h17 => ?_
    all_goals refine AW.reg0 ?_
    all_goals (refine S.g rfl rfl fun K' k' => ?_; simp only [zz, reduceIte, Nat.reduceEqDiff, Nat.reduceAdd]; refine k' _ _ ?_; clear k' K')
    all_goals refine S.nil ?_
    all_goals simp only [ze, reduceIte, Nat.reduceEqDiff, Nat.reduceLT, Nat.reduceLeDiff, Nat.reduceAdd, reduceCtorEq, Nat.reduceMul]
    all_goals apply_assumption
    refine AW.ret ?_
    all_goals simp only [zs, reduceIte, Nat.reduceEqDiff, Nat.reduceLT, Nat.reduceLeDiff, Nat.reduceAdd, reduceCtorEq, Nat.reduceMul]
    rw [hp, List.drop_of_length_le (by omega)]; rfl
theorem compare_part (l r : List Bd) (hl : l.length < 4611686018427387904) : PCalls Try.prog 28 [.agg [.sl (l.map encBd)], .agg [.sl (r.map encBd)]] (fun v => v = .c (.int .i64 (cmpL l r))) := by
  refine PCalls.intro Try.call28 Try.func28 rfl Try.ntmps28 Try.results28 (by simp) ?_
  refine AW.seq_k fun K1 h1 => ?_
  all_goals refine AW.reg0 ?_
  all_goals iterate 3 (refine S.g rfl rfl fun K' k' => ?_; simp only [zz, reduceIte, Nat.reduceEqDiff, Nat.reduceLT, Nat.reduceLeDiff, Nat.reduceAdd, reduceCtorEq, Nat.reduceMul, ok24, sz24, ag24]; refine k' _ _ ?_; clear k' K')
  all_goals refine S.nil ?_
  all_goals simp only [ze, reduceIte, Nat.reduceEqDiff, Nat.reduceLT, Nat.reduceLeDiff, Nat.reduceAdd, reduceCtorEq, Nat.reduceMul]
  all_goals apply_assumption
  refine AW.seq_k fun K2 h2 => ?_
  all_goals refine AW.reg0 ?_
  all_goals iterate 4 (refine S.g rfl rfl fun K' k' => ?_; simp only [zz, reduceIte, Nat.reduceEqDiff, Nat.reduceLT, Nat.reduceLeDiff, Nat.reduceAdd, reduceCtorEq, Nat.reduceMul, of24_0, ok22, sz22, ag22]; refine k' _ _ ?_; clear k' K')
  all_goals (refine S.g rfl rfl fun K' k' => ?_; simp only [zz, reduceIte, Nat.reduceEqDiff, Nat.reduceLT, Nat.reduceLeDiff, Nat.reduceAdd, reduceCtorEq, Nat.reduceMul]; refine PCalls.eqto (compareF _ _ (by assumption)) ?_ <;> (refine k' _ _ ?_; clear k' K'))
  all_goals (refine S.g rfl rfl fun K' k' => ?_; simp only [zz, reduceIte, Nat.reduceEqDiff, Nat.reduceAdd]; refine k' _ _ ?_; clear k' K')
  all_goals refine S.nil ?_
  all_goals simp only [ze, reduceIte, Nat.reduceEqDiff, Nat.reduceLT, Nat.reduceLeDiff, Nat.reduceAdd, reduceCtorEq, Nat.reduceMul]
  all_goals apply_assumption
  refine AW.ret ?_
  all_goals simp only [zs, reduceIte, Nat.reduceEqDiff, Nat.reduceLT, Nat.reduceLeDiff, Nat.reduceAdd, reduceCtorEq, Nat.reduceMul]
end Go.Abs.M
namespace Go.Abs.M
open Go Go.Abs Go.Proofs
set_option maxRecDepth 20000
set_option linter.unusedSimpArgs false
set_option linter.unusedVariables false
theorem rcompare_part (l r : List Bd) (hl : l.length < 4611686018427387904) : PCalls Try.prog 29 [.agg [.sl (l.map encBd)], .agg [.sl (r.map encBd)]] (fun v => v = .c (.int .i64 (cmpL l r))) := by
  refine PCalls.intro Try.call29 Try.func29 rfl Try.ntmps29 Try.results29 (by simp) ?_
  refine AW.seq_k fun K1 h1 => ?_
  all_goals refine AW.reg0 ?_
  all_goals iterate 3 (refine S.g rfl rfl fun K' k' => ?_; simp only [zz, reduceIte, Nat.reduceEqDiff, Nat.reduceLT, Nat.reduceLeDiff, Nat.reduceAdd, reduceCtorEq, Nat.reduceMul, ok24, sz24, ag24]; refine k' _ _ ?_; clear k' K')
  all_goals refine S.nil ?_
  all_goals simp only [ze, reduceIte, Nat.reduceEqDiff, Nat.reduceLT, Nat.reduceLeDiff, Nat.reduceAdd, reduceCtorEq, Nat.reduceMul]
  all_goals apply_assumption
  refine AW.seq_j (fun s σ => σ = Hp.empty ∧ s.t 2 = .lp 2 0 ∧ s.l 2 = some [.sl (l.map encBd)] ∧ s.t 3 = .lp 3 0 ∧ s.l 3 = some [.sl (r.map encBd)] ∧ ∃ i : Nat, (l.length ≤ i ∨ r.length ≤ i) ∧ i ≤ l.length ∧ i ≤ r.length ∧ cmpL l r = cmpL (l.drop i) (r.drop i)) ?_ ?_
  · refine AW.seq_k fun K2 h2 => ?_
    all_goals refine AW.reg0 ?_
    all_goals (refine S.g rfl rfl fun K' k' => ?_; simp only [zz, reduceIte, Nat.reduceEqDiff, Nat.reduceAdd]; refine k' _ _ ?_; clear k' K')
    all_goals refine S.nil ?_
    all_goals simp only [ze, reduceIte, Nat.reduceEqDiff, Nat.reduceLT, Nat.reduceLeDiff, Nat.reduceAdd, reduceCtorEq, Nat.reduceMul]
    all_goals apply_assumption
    refine AW.block ?_   -- 0
    refine AW.loop (fun m s σ => σ = Hp.empty ∧ ∃ i : Nat, m + i = l.length ∧ s.t 2 = .lp 2 0 ∧ s.l 2 = some [.sl (l.map encBd)] ∧ s.t 3 = .lp 3 0 ∧ s.l 3 = some [.sl (r.map encBd)] ∧ s.t 5 = .c (.int .i64 i) ∧ i ≤ r.length ∧ cmpL l r = cmpL (l.drop i) (r.drop i)) l.length ?_ ?_
    · refine ⟨rfl, 0, by simp, ?_⟩
      all_goals simp only [zs, reduceIte, Nat.reduceEqDiff, Nat.reduceLT, Nat.reduceLeDiff, Nat.reduceAdd, reduceCtorEq, Nat.reduceMul]
      simp
    rintro m s σ ⟨rfl, i, hm, e2, l2, e3, l3, e5, hir, hp⟩
    refine AW.seq_k fun K3 h3 => ?_
    refine AW.seq_j (fun s' σ => σ = Hp.empty ∧ s'.t 2 = .lp 2 0 ∧ s'.l 2 = some [.sl (l.map encBd)] ∧ s'.t 3 = .lp 3 0 ∧ s'.l 3 = some [.sl (r.map encBd)] ∧ s'.t 5 = .c (.int .i64 i) ∧ s'.t 20 = .c (.bool (decide (i < l.length ∧ i < r.length)))) ?_ ?_
    · clear hp
      all_goals refine AW.reg0 ?_
      all_goals iterate 4 (refine S.g rfl rfl fun K' k' => ?_; simp only [zz, reduceIte, Nat.reduceEqDiff, Nat.reduceLT, Nat.reduceLeDiff, Nat.reduceAdd, reduceCtorEq, Nat.reduceMul, of24_0, ok22, sz22, ag22, sl22, el22, ok42, sz42, ag42, e2, l2, e3, l3, e5]; refine k' _ _ ?_; clear k' K')
      all_goals (refine S.g rfl rfl fun K' k' => ?_; simp only [zz, reduceIte, Nat.reduceEqDiff, Nat.reduceLT, Nat.reduceLeDiff, Nat.reduceAdd, reduceCtorEq, Nat.reduceMul, e2, l2, e3, l3, e5]; refine S.bool fun b a13 => ?_; cases b <;> (try (exfalso; first | exact Bool.noConfusion a13 | (have h := of_decide_eq_true a13; omega) | (have h := of_decide_eq_false a13; omega))) <;> (refine k' _ _ ?_; clear k' K'))
      all_goals (refine S.g rfl rfl fun K' k' => ?_; simp only [zz, reduceIte, Nat.reduceEqDiff, Nat.reduceAdd, e2, l2, e3, l3, e5]; refine k' _ _ ?_; clear k' K')
      all_goals iterate 5 (first | (refine S.y rfl rfl rfl rfl fun K' k' => ?_; simp only [zz, reduceIte, Nat.reduceEqDiff, Nat.reduceLT, Nat.reduceLeDiff, Nat.reduceAdd, reduceCtorEq, Nat.reduceMul, of24_0, ok22, sz22, ag22, sl22, el22, ok42, sz42, ag42, e2, l2, e3, l3, e5]; refine k' _ _ ?_; clear k' K') | ((first | refine S.x rfl rfl rfl rfl fun K' k' => ?_ | refine S.u rfl rfl rfl rfl fun K' k' => ?_); simp only [ze, reduceIte, Nat.reduceEqDiff]; refine k' _ _ ?_; clear k' K'))
      all_goals (refine S.g rfl rfl fun K' k' => ?_; simp only [zz, reduceIte, Nat.reduceEqDiff, Nat.reduceAdd, e2, l2, e3, l3, e5]; refine k' _ _ ?_; clear k' K')
      all_goals refine S.nil ?_
      all_goals simp only [ze, reduceIte, Nat.reduceEqDiff, Nat.reduceLT, Nat.reduceLeDiff, Nat.reduceAdd, reduceCtorEq, Nat.reduceMul, e2, l2, e3, l3, e5]
      all_goals (simp only [decide_eq_true_eq, decide_eq_false_iff_not] at a13; simp [a13]; try omega)
    clear e2 l2 e3 l3 e5
    rintro s σ ⟨rfl, e2, l2, e3, l3, e5, e20⟩
    refine AW.cond (b := _) e20 (fun hc => ?_) (fun hc => ?_)
    · obtain ⟨hi, hj⟩ := of_decide_eq_true hc
      refine AW.skip ?_
      all_goals simp only [zs, reduceIte, Nat.reduceEqDiff, Nat.reduceLT, Nat.reduceLeDiff, Nat.reduceAdd, reduceCtorEq, Nat.reduceMul]
      all_goals apply_assumption
      have hg := getD_map (f := encBd) hi
      have hg2 := getD_map (f := encBd) hj
      have hd : l.drop i = l[i] :: l.drop (i + 1) := List.drop_eq_getElem_cons hi
      have hd2 : r.drop i = r[i] :: r.drop (i + 1) := List.drop_eq_getElem_cons hj
      generalize ha : l[i] = a at hg hd
      generalize hb : r[i] = b at hg2 hd2
      rw [hd, hd2, cmpL] at hp
      have hw : IntKind.i64.wrap ((i : Int) + 1) = ((i + 1 : Nat) : Int) := by rw [wrap_small _ (by omega) (by omega)]; rfl
      refine AW.seq_k fun K4 h4 => ?_
      refine AW.block ?_   -- 1
      refine AW.seq_k fun K5 h5 => ?_
      all_goals refine AW.reg0 ?_
      all_goals iterate 7 (refine S.g rfl rfl fun K' k' => ?_; simp only [zz, reduceIte, Nat.reduceEqDiff, Nat.reduceLT, Nat.reduceLeDiff, Nat.reduceAdd, reduceCtorEq, Nat.reduceMul, of24_0, ok22, sz22, ag22, sl22, el22, ok42, sz42, ag42, zt42, e2, l2, e5, hi, hg, encBd]; refine k' _ _ ?_; clear k' K')
      all_goals refine S.nil ?_
      all_goals simp only [ze, reduceIte, Nat.reduceEqDiff, Nat.reduceLT, Nat.reduceLeDiff, Nat.reduceAdd, reduceCtorEq, Nat.reduceMul, e2, l2, e5, hi, hg, encBd]
      all_goals apply_assumption
      refine AW.seq_k fun K6 h6 => ?_
      all_goals refine AW.reg0 ?_
      all_goals iterate 7 (refine S.g rfl rfl fun K' k' => ?_; simp only [zz, reduceIte, Nat.reduceEqDiff, Nat.reduceLT, Nat.reduceLeDiff, Nat.reduceAdd, reduceCtorEq, Nat.reduceMul, of24_0, ok22, sz22, ag22, sl22, el22, ok42, sz42, ag42, zt42, e3, l3, e5, hj, hg2, encBd]; refine k' _ _ ?_; clear k' K')
      all_goals refine S.nil ?_
      all_goals simp only [ze, reduceIte, Nat.reduceEqDiff, Nat.reduceLT, Nat.reduceLeDiff, Nat.reduceAdd, reduceCtorEq, Nat.reduceMul, e3, l3, e5, hj, hg2, encBd]
      all_goals apply_assumption
      refine AW.seq_k fun K7 h7 => ?_
      refine AW.seq_k fun K8 h8 => ?_
      all_goals refine AW.reg0 ?_
      all_goals iterate 5 (refine S.g rfl rfl fun K' k' => ?_; simp only [zz, reduceIte, Nat.reduceEqDiff, Nat.reduceLT, Nat.reduceLeDiff, Nat.reduceAdd, reduceCtorEq, Nat.reduceMul, of42_0, ok9, sz9, ag9, encBd]; refine k' _ _ ?_; clear k' K')
      all_goals refine S.nil ?_
      all_goals simp only [ze, reduceIte, Nat.reduceEqDiff, Nat.reduceLT, Nat.reduceLeDiff, Nat.reduceAdd, reduceCtorEq, Nat.reduceMul, encBd]
      all_goals apply_assumption
      refine AW.cond (b := Op.bytesLess a.var.toList b.var.toList) (by simp [ev]) (fun hx => ?_) (fun hx => ?_)
      · refine AW.seq_k fun K9 h9 => ?_
        all_goals refine AW.reg0 ?_
        all_goals (refine S.g rfl rfl fun K' k' => ?_; simp only [zz, reduceIte, Nat.reduceEqDiff, Nat.reduceAdd]; refine k' _ _ ?_; clear k' K')
        all_goals refine S.nil ?_
        all_goals simp only [ze, reduceIte, Nat.reduceEqDiff, Nat.reduceLT, Nat.reduceLeDiff, Nat.reduceAdd, reduceCtorEq, Nat.reduceMul]
        all_goals apply_assumption
        refine AW.ret ?_
        all_goals simp only [zs, reduceIte, Nat.reduceEqDiff, Nat.reduceLT, Nat.reduceLeDiff, Nat.reduceAdd, reduceCtorEq, Nat.reduceMul]
        have : cmpBd a b = -1 := by simp [cmpBd, orI, cmpS, hx]
        rw [hp, this]; simp
      · refine AW.skip ?_
        all_goals simp only [zs, reduceIte, Nat.reduceEqDiff, Nat.reduceLT, Nat.reduceLeDiff, Nat.reduceAdd, reduceCtorEq, Nat.reduceMul]
        all_goals apply_assumption
        refine AW.seq_k fun K10 h10 => ?_
        refine AW.seq_k fun K11 h11 => ?_
        all_goals refine AW.reg0 ?_
        all_goals iterate 5 (refine S.g rfl rfl fun K' k' => ?_; simp only [zz, reduceIte, Nat.reduceEqDiff, Nat.reduceLT, Nat.reduceLeDiff, Nat.reduceAdd, reduceCtorEq, Nat.reduceMul, of42_0, ok9, sz9, ag9, encBd]; refine k' _ _ ?_; clear k' K')
        all_goals refine S.nil ?_
        all_goals simp only [ze, reduceIte, Nat.reduceEqDiff, Nat.reduceLT, Nat.reduceLeDiff, Nat.reduceAdd, reduceCtorEq, Nat.reduceMul, encBd]
        all_goals apply_assumption
        refine AW.cond (b := !(Op.bytesLess a.var.toList b.var.toList || a.var.toList == b.var.toList)) (by simp [ev]) (fun hy => ?_) (fun hy => ?_)
        · refine AW.seq_k fun K12 h12 => ?_
          all_goals refine AW.reg0 ?_
          all_goals (refine S.g rfl rfl fun K' k' => ?_; simp only [zz, reduceIte, Nat.reduceEqDiff, Nat.reduceAdd]; refine k' _ _ ?_; clear k' K')
          all_goals refine S.nil ?_
          all_goals simp only [ze, reduceIte, Nat.reduceEqDiff, Nat.reduceLT, Nat.reduceLeDiff, Nat.reduceAdd, reduceCtorEq, Nat.reduceMul]
          all_goals apply_assumption
          refine AW.ret ?_
          all_goals simp only [zs, reduceIte, Nat.reduceEqDiff, Nat.reduceLT, Nat.reduceLeDiff, Nat.reduceAdd, reduceCtorEq, Nat.reduceMul]
          rw [Bool.not_eq_true'] at hy
          have hs : cmpS a.var b.var = 1 := by unfold cmpS; rw [if_neg (by rw [hx]; simp), if_neg (by rw [hy]; simp)]
          have : cmpBd a b = 1 := by simp [cmpBd, orI, hs]
          rw [hp, this]; simp
        · rw [Bool.not_eq_false'] at hy
          have hs : cmpS a.var b.var = 0 := by simp only [cmpS]; rw [if_neg (by rw [hx]; simp), if_pos hy]
          have hq : cmpBd a b = cmpId (idOf a) (idOf b) := by
            simp only [cmpBd, orI, hs]
            by_cases hz : cmpId (idOf a) (idOf b) = 0 <;> simp [hz]
          rw [hq] at hp
          refine AW.skip ?_
          all_goals simp only [zs, reduceIte, Nat.reduceEqDiff, Nat.reduceLT, Nat.reduceLeDiff, Nat.reduceAdd, reduceCtorEq, Nat.reduceMul]
          all_goals apply_assumption
          refine AW.seq_k fun K13 h13 => ?_
          all_goals refine AW.reg0 ?_
          all_goals iterate 6 (refine S.g rfl rfl fun K' k' => ?_; simp only [zz, reduceIte, Nat.reduceEqDiff, Nat.reduceLT, Nat.reduceLeDiff, Nat.reduceAdd, reduceCtorEq, Nat.reduceMul, of42_1, of36_0, ok33, sz33, ag33, encBd]; refine k' _ _ ?_; clear k' K')
          all_goals (refine S.g rfl rfl fun K' k' => ?_; simp only [zz, reduceIte, Nat.reduceEqDiff, Nat.reduceLT, Nat.reduceLeDiff, Nat.reduceAdd, reduceCtorEq, Nat.reduceMul, encBd]; refine PCalls.eqto (rcompare_id (idOf a) (idOf b)) ?_ <;> (refine k' _ _ ?_; clear k' K'))
          all_goals (refine S.g rfl rfl fun K' k' => ?_; simp only [zz, reduceIte, Nat.reduceEqDiff, Nat.reduceAdd, encBd]; refine k' _ _ ?_; clear k' K')
          all_goals refine S.nil ?_
          all_goals simp only [ze, reduceIte, Nat.reduceEqDiff, Nat.reduceLT, Nat.reduceLeDiff, Nat.reduceAdd, reduceCtorEq, Nat.reduceMul, encBd]
          all_goals apply_assumption
          refine AW.seq_k fun K14 h14 => ?_
          all_goals refine AW.reg0 ?_
          all_goals iterate 2 (refine S.g rfl rfl fun K' k' => ?_; simp only [zz, reduceIte, Nat.reduceEqDiff, Nat.reduceAdd]; refine k' _ _ ?_; clear k' K')
          all_goals refine S.nil ?_
          all_goals simp only [ze, reduceIte, Nat.reduceEqDiff, Nat.reduceLT, Nat.reduceLeDiff, Nat.reduceAdd, reduceCtorEq, Nat.reduceMul]
          all_goals apply_assumption
          refine AW.cond (b := cmpId (idOf a) (idOf b) != 0) (by simp [ev]) (fun hz => ?_) (fun hz => ?_)
          · have hz : cmpId (idOf a) (idOf b) ≠ 0 := by simpa using hz
            refine AW.seq_k fun K15 h15 => ?_
            all_goals refine AW.reg0 ?_
            all_goals iterate 2 (refine S.g rfl rfl fun K' k' => ?_; simp only [zz, reduceIte, Nat.reduceEqDiff, Nat.reduceAdd]; refine k' _ _ ?_; clear k' K')
            all_goals refine S.nil ?_
            all_goals simp only [ze, reduceIte, Nat.reduceEqDiff, Nat.reduceLT, Nat.reduceLeDiff, Nat.reduceAdd, reduceCtorEq, Nat.reduceMul]
            all_goals apply_assumption
            refine AW.ret ?_
            all_goals simp only [zs, reduceIte, Nat.reduceEqDiff, Nat.reduceLT, Nat.reduceLeDiff, Nat.reduceAdd, reduceCtorEq, Nat.reduceMul]
            rw [hp, if_pos hz]
          · have hz : ¬ cmpId (idOf a) (idOf b) ≠ 0 := by simpa using hz
            rw [if_neg hz] at hp
            refine AW.skip ?_
            all_goals simp only [zs, reduceIte, Nat.reduceEqDiff, Nat.reduceLT, Nat.reduceLeDiff, Nat.reduceAdd, reduceCtorEq, Nat.reduceMul]
            all_goals apply_assumption
            all_goals refine AW.reg0 ?_
            all_goals iterate 3 (refine S.g rfl rfl fun K' k' => ?_; simp only [zz, reduceIte, Nat.reduceEqDiff, Nat.reduceAdd, e5, hw, e2, l2, e3, l3]; refine k' _ _ ?_; clear k' K')
            all_goals refine S.nil ?_
            all_goals simp only [ze, reduceIte, Nat.reduceEqDiff, Nat.reduceLT, Nat.reduceLeDiff, Nat.reduceAdd, reduceCtorEq, Nat.reduceMul, e5, hw, e2, l2, e3, l3]
            exact ⟨m - 1, by omega, i + 1, by omega, rfl, by omega, hp⟩
    · have hc := of_decide_eq_false hc
      refine AW.exit ?_
      all_goals simp only [zs, reduceIte, Nat.reduceEqDiff, Nat.reduceLT, Nat.reduceLeDiff, Nat.reduceAdd, reduceCtorEq, Nat.reduceMul]
      exact ⟨e2, l2, e3, l3, i, by omega, by omega, hir, hp⟩
  rintro s σ ⟨rfl, e2, l2, e3, l3, i, h1, h2, h3, hp⟩
  refine AW.seq_k fun K16 h16 => ?_
  refine AW.block ?_   -- 2
  refine AW.seq_k fun K17 h17 => ?_
  all_goals refine AW.reg0 ?_
  all_goals iterate 8 (refine S.g rfl rfl fun K' k' => ?_; simp only [zz, reduceIte, Nat.reduceEqDiff, Nat.reduceLT, Nat.reduceLeDiff, Nat.reduceAdd, reduceCtorEq, Nat.reduceMul, of24_0, ok22, sz22, ag22, sl22, el22, ok42, sz42, ag42, e2, l2, e3, l3]; refine k' _ _ ?_; clear k' K')
  all_goals refine S.nil ?_
  all_goals simp only [ze, reduceIte, Nat.reduceEqDiff, Nat.reduceLT, Nat.reduceLeDiff, Nat.reduceAdd, reduceCtorEq, Nat.reduceMul, e2, l2, e3, l3]
  all_goals apply_assumption
  refine AW.cond (b := decide (l.length < r.length)) (by simp [ev]) (fun hc => ?_) (fun hc => ?_)
  · have hc := of_decide_eq_true hc
    refine AW.seq_k fun K18 h18 => ?_
    all_goals refine AW.reg0 ?_
    all_goals (refine S.g rfl rfl fun K' k' => ?_; simp only [zz, reduceIte, Nat.reduceEqDiff, Nat.reduceAdd]; refine k' _ _ ?_; clear k' K')
    all_goals refine S.nil ?_
    all_goals simp only [ze, reduceIte, Nat.reduceEqDiff, Nat.reduceLT, Nat.reduceLeDiff, Nat.reduceAdd, reduceCtorEq, Nat.reduceMul]
    all_goals apply_assumption
    refine AW.ret ?_
    all_goals simp only [zs, reduceIte, Nat.reduceEqDiff, Nat.reduceLT, Nat.reduceLeDiff, Nat.reduceAdd, reduceCtorEq, Nat.reduceMul]
    rw [hp, List.drop_of_length_le (show l.length ≤ i by omega), List.drop_eq_getElem_cons (show i < r.length by omega)]; rfl
  · have hc := of_decide_eq_false hc
    refine AW.seq_k fun K19 h19 => ?_
    all_goals refine AW.reg0 ?_
    all_goals iterate 8 (refine S.g rfl rfl fun K' k' => ?_; simp only [zz, reduceIte, Nat.reduceEqDiff, Nat.reduceLT, Nat.reduceLeDiff, Nat.reduceAdd, reduceCtorEq, Nat.reduceMul, of24_0, ok22, sz22, ag22, sl22, el22, ok42, sz42, ag42, e2, l2, e3, l3]; refine k' _ _ ?_; clear k' K')
    all_goals refine S.nil ?_
    all_goals simp only [ze, reduceIte, Nat.reduceEqDiff, Nat.reduceLT, Nat.reduceLeDiff, Nat.reduceAdd, reduceCtorEq, Nat.reduceMul, e2, l2, e3, l3]
    all_goals apply_assumption
    refine AW.cond (b := decide ((l.length : Int) > r.length)) (by simp [ev]) (fun hd => ?_) (fun hd => ?_)
    · have hd := of_decide_eq_true hd
      refine AW.seq_k fun K20 h20 => ?_
      all_goals refine AW.reg0 ?_
      all_goals (refine S.g rfl rfl fun K' k' => ?_; simp only [zz, reduceIte, Nat.reduceEqDiff, Nat.reduceAdd]; refine k' _ _ ?_; clear k' K')
      all_goals refine S.nil ?_
      all_goals simp only [ze, reduceIte, Nat.reduceEqDiff, Nat.reduceLT, Nat.reduceLeDiff, Nat.reduceAdd, reduceCtorEq, Nat.reduceMul]
      all_goals apply_assumption
      refine AW.ret ?_
      all_goals simp only [zs, reduceIte, Nat.reduceEqDiff, Nat.reduceLT, Nat.reduceLeDiff, Nat.reduceAdd, reduceCtorEq, Nat.reduceMul]
      rw [hp, List.drop_of_length_le (show r.length ≤ i by omega), List.drop_eq_getElem_cons (show i < l.length by omega)]; rfl
    · have hd := of_decide_eq_false hd
      refine AW.skip ?_
      all_goals simp only [zs, reduceIte, Nat.reduceEqDiff, Nat.reduceLT, Nat.reduceLeDiff, Nat.reduceAdd, reduceCtorEq, Nat.reduceMul]
      all_goals apply_assumption
      refine AW.seq_k fun K21 h21 => ?_
      all_goals refine AW.reg0 ?_
      all_goals (refine S.g rfl rfl fun K' k' => ?_; simp only [zz, reduceIte, Nat.reduceEqDiff, Nat.reduceAdd]; refine k' _ _ ?_; clear k' K')
      all_goals refine S.nil ?_
      all_goals simp only [ze, reduceIte, Nat.reduceEqDiff, Nat.reduceLT, Nat.reduceLeDiff, Nat.reduceAdd, reduceCtorEq, Nat.reduceMul]
      all_goals apply_assumption
      refine AW.ret ?_
      all_goals simp only [zs, reduceIte, Nat.reduceEqDiff, Nat.reduceLT, Nat.reduceLeDiff, Nat.reduceAdd, reduceCtorEq, Nat.reduceMul]
      rw [hp, List.drop_of_length_le (show l.length ≤ i by omega), List.drop_of_length_le (show r.length ≤ i by omega)]; rfl
end Go.Abs.M
namespace Go.Abs.M
open Go Go.Abs Go.Proofs
set_option linter.unusedSimpArgs false
def inI64 (n : Int) : Prop := -9223372036854775808 ≤ n ∧ n ≤ 9223372036854775807
end Go.Abs.M
namespace Go.Abs.M
open Go Go.Abs Go.Proofs
set_option linter.unusedSimpArgs false
set_option maxRecDepth 20000
theorem by24' : Try.prog.bytesOf 24 = 24 := by kernel_rfl
theorem inI64_of {x : Int} (h : (Lit.int .i64 x).wf = true) : inI64 x := by
  simp [Lit.wf, IntKind.min, IntKind.max, IntKind.signed, IntKind.bits] at h
  unfold inI64; omega
theorem ev_time {n : Nat} {e : Ev} (h : Fit Try.prog n 36 (encEv e)) : inI64 e.time := by
  obtain ⟨_, m, _, hf⟩ := h.st Try.underlying36
  have h1 : Fit Try.prog m 2 (((encEv e).drop 2).take (Try.prog.cellsOf 2)) := hf 1 _ rfl
  rw [co2] at h1
  obtain ⟨x, hx, hw⟩ := h1.int Try.underlying2
  simp [encEv] at hx
  rw [hx]; exact inI64_of hw
theorem bd_time {n : Nat} {b : Bd} (h : Fit Try.prog n 42 (encBd b)) : inI64 b.ev.time := by
  obtain ⟨_, m, _, hf⟩ := h.st Try.underlying42
  have h1 : Fit Try.prog m 36 (((encBd b).drop 1).take (Try.prog.cellsOf 36)) := hf 1 _ rfl
  have h2 : ((encBd b).drop 1).take (Try.prog.cellsOf 36) = encEv b.ev := by rw [co36]; rfl
  rw [h2] at h1
  exact ev_time h1
theorem part_time {n : Nat} {l : List Bd} (h : Fit Try.prog n 24 [.sl (l.map encBd)]) : ∀ b ∈ l, inI64 b.ev.time := by
  obtain ⟨_, m, _, hf⟩ := h.st Try.underlying24
  have h0 : Fit Try.prog m 22 (([V.sl (l.map encBd)].drop 0).take (Try.prog.cellsOf 22)) := hf 0 _ rfl
  simp only [co22, List.drop_zero, List.take_succ_cons, List.take_zero, List.drop_succ_cons] at h0
  obtain ⟨es, e4, hes, k, _, hk⟩ := h0.sl Try.underlying22
  simp only [List.cons.injEq, V.sl.injEq, and_true] at e4
  subst e4
  exact fun b hb => bd_time (hk _ (List.mem_map.2 ⟨b, hb, rfl⟩)).2
structure okT (l : List Bd) : Prop where
  i : okI l
  time : ∀ b ∈ l, inI64 b.ev.time
theorem flat_of {t : TypeId} {W : World} {base : Nat} {v : Value} (hu : (∃ k, Try.prog.underlying t = some (.int k)) ∨ Try.prog.underlying t = some .string ∨ ∃ e, Try.prog.underlying t = some (.slice e)) (hval : Value.okWide Try.prog W .any base t v) : ∀ cs, v ≠ .agg cs := by
  rintro cs rfl
  rcases hu with ⟨k, hu⟩ | hu | ⟨e, hu⟩ <;> simp [Value.okWide, Cell.okWide, Cell.ok, hu] at hval
section
variable {H : Type} {enc : TypeId × Value → H} {W : World} {base : Nat} {v : Value} {d : DataW H} {ps : List MemPlace}
def encB (x : Nat) : List V := [.c (.int .u8 x)]
def encP (l : List Bd) : List V := [.sl (l.map encBd)]
theorem arg_parts (hval : Value.okWide Try.prog W .any base 64 v)
    (h : DataW.Trod enc Try.prog W 0 (fun _ => true) true 64 v d ps) (hw : ∀ n ∈ d.weights Try.prog 64, n ≤ reachBytes) : ∃ l : List (List Bd), VR W (cx0 W) (.sl (l.map encP)) v ∧ (∀ x ∈ l, okT x) ∧ l.length * 24 ≤ reachBytes := by
  have hm : (64 : TypeId) ∈ plainTs := by decide
  obtain ⟨n, us, h1, h2⟩ := open_arg (P := Try.prog) (t := 64) plainTs plain_ok hm h hw
  obtain ⟨es, rfl, hes, m, _, hk⟩ := h2.sl Try.underlying64
  obtain ⟨l, rfl, hl⟩ := rows_of (f := encP) (p := okT) (es := es) fun x hx => by
    obtain ⟨l, rfl, hok⟩ := open_part ((hk x hx).1.trans co24) (hk x hx).2
    exact ⟨l, rfl, hok, part_time (hk _ hx).2⟩
  exact ⟨l, VR.of_cell h1 (flat_of (.inr (.inr ⟨_, Try.underlying64⟩)) hval), hl, by simpa [by24'] using hes⟩
end
end Go.Abs.M
namespace Go.Abs.M
open Go Go.Abs Go.Proofs Go.RowKit Go.Lib
set_option linter.unusedVariables false
set_option linter.unusedSimpArgs false
def base0 (cx : Cx) (σ : Hp) (w : World) : Base := { cx := cx, F := σ.own cx, w := w, g := fun k => ∃ y, σ.gr k = some y, o := fun g => ∃ y, σ.obj g = some y }
theorem foot0 (cx : Cx) (σ : Hp) : foot cx σ (fun _ => none) = σ.own cx := by
  funext g
  refine propext ⟨fun hg => ?_, fun hg => .inl hg⟩
  rcases hg with hg | ⟨d, c, hd, _⟩
  · exact hg
  · cases hd
/-- A heap alone, as a frame. -/
theorem SR.heap0 {cx : Cx} {σ : Hp} {w : World} (hH : HR cx σ w) : SR (base0 cx σ w) 0 cx (enterS []) σ { tmps := #[], defers := [] } w := by
  refine ⟨rfl, Marks.nil, fun _ => rfl, fun t => .junk _, hH, ⟨fun d c hd => (by cases hd), fun d c hd => (by cases hd), fun d e c c' hd => (by cases hd)⟩, ?_, fun k x hk => .inl ⟨x, hk⟩, fun g x hk => .inl ⟨x, hk⟩, fun g hs => hs.elim, fun g hs => hs.elim, fun d c hd => (by cases hd)⟩
  show Ext cx (σ.own cx) w cx (foot cx σ fun _ => none) w
  rw [foot0]; exact .refl _ _ _
theorem SR.left0 {cx cx' : Cx} {σ σ' : Hp} {w w' : World} {a : Act} (h : SR (base0 cx σ w) 0 cx' (enterS []) σ' a w') : Left cx σ w cx' σ' w' :=
  ⟨h.heap, ⟨h.ext.os, h.ext.tape, h.ext.output, h.ext.size, h.ext.block, h.ext.le, h.ext.inew, fun g hg => h.ext.fnew g (.inl hg)⟩, h.gnew, h.onew⟩
/-- slices.Insert of one element, with lists of the call's own. -/
theorem insert_at {σ : Hp} {lv x : V} {ok : Option Nat} {es : List (List V)} {i k3 : Nat} (hd : dstE σ 24 1 lv = some (ok, es)) (h3 : σ.gr k3 = some ((24, 1), [[x]])) (hk : ok ≠ some k3) (hi : i ≤ es.length) (hn : (es.length + 1) * 24 ≤ 140737488355328) :
    ACalls Try.prog 97 [lv, .c (.int .i64 (i : Nat)), .gl k3] σ (fun v σ' => ∃ k', v = .gl k' ∧ (σ.delO ok).gr k' = none ∧ σ' = (σ.delO ok).setGr k' (some ((24, 1), es.take i ++ [x] :: es.drop i))) := by
  refine ⟨Try.call97, fun cx w xs hH ha => ?_⟩
  obtain ⟨x0, x1, x2, rfl⟩ : ∃ x0 x1 x2, xs = [x0, x1, x2] := by
    obtain ⟨hl, _⟩ := ha
    match xs, hl with
    | [a, b, c], _ => exact ⟨a, b, c, rfl⟩
  have a0 := ha.2 0 _ _ rfl rfl
  have a1 := ha.2 1 _ _ rfl rfl
  have a2 := ha.2 2 _ _ rfl rfl
  obtain ⟨ys, hown, hys, hel, hone, hblk⟩ := dst_row hH (.v a0) hd
  have e1 : x1 = .int .i64 (i : Nat) := by cases a1; rfl
  obtain ⟨hk3, hz3, hel3, zs, hown3, hzs⟩ := hH.gr k3 _ _ h3
  simp only at hz3 hown3
  rw [hz3] at hown3
  have e2 : x2 = cx.M k3 := by cases a2; rfl
  obtain ⟨h, c3, cur3, hM, _, hb3, hc3, hm3, hcs3, htk3⟩ : ∃ g cap cur, cx.M k3 = .slice (some ⟨g, 0, none⟩) 1 cap ∧ 0 ≤ g ∧ w.heap[g]? = some (.cells cur 24 (0, 0)) ∧ 1 ≤ cap ∧ cap ≤ maxLen ∧ cur.size = cap * 1 ∧ cur.toList.take (1 * 1) = zs := by
    rcases hown3.2 with ⟨_, e⟩ | ⟨g, cap, cur, r⟩
    · simp at e
    · exact ⟨g, cap, cur, by simpa using r⟩
  obtain ⟨u, rfl⟩ : ∃ u, zs = [u] := List.length_eq_one_iff.1 (by rw [← hzs.1]; rfl)
  have hu : cur3[0]? = some u := by
    have : (cur3.toList.take (1 * 1))[0]? = some u := by rw [htk3]; rfl
    rw [List.getElem?_take] at this
    simpa using this
  have h1u : u.oneCell' = true := hzs.2.1 u (by simp)
  have hne : x0.ownBlock ≠ some h := fun e => by
    have hb := hblk h e
    rcases ok with _ | k
    · exact hb.2 hb.1
    · apply hb.2
      refine .inr ⟨k3, ((24, 1), [[x]]), ?_, by rw [hM]; rfl⟩
      show (σ.setGr k none).gr k3 = _
      have : k3 ≠ k := fun e => hk (by rw [e])
      simp [Hp.setGr, this, h3]
  subst e1
  rw [hM] at e2
  subst e2
  refine (ins_own x0 es.length i h c3 ys u cur3 w hi hown hn hys.2.1 hb3 hu h1u hne).mono fun e w' ⟨v', he, ho, hg, hb⟩ => ?_
  subst he
  have hfl : (es.take i ++ [x] :: es.drop i).flatten = es.flatten.take i ++ x :: es.flatten.drop i := by
    have t1 := flatten_take (es := es) (sz := 1) (i := i) (fun e he => by simpa using hel e he)
    have t2 : es.flatten = (es.take i).flatten ++ (es.drop i).flatten := by rw [← List.flatten_append, List.take_append_drop]
    rw [Nat.mul_one] at t1
    have tl : (es.take i).flatten.length = i := by
      rw [t1, List.length_take]
      have : es.flatten.length = es.length := by rw [hys.1, hown.1, Nat.mul_one]
      omega
    have t3 : es.flatten.drop i = (es.drop i).flatten := by rw [t2, List.drop_left' tl]
    rw [List.flatten_append, List.flatten_cons, t1, t3]; rfl
  have hyl : ys.length = es.length := by rw [hown.1, Nat.mul_one]
  have hvs : VRs w cx (es.take i ++ [x] :: es.drop i).flatten (ys.take i ++ u :: ys.drop i) := by
    rw [hfl]
    have hx : VR w cx x u := hzs.2.2 0 _ _ rfl rfl
    refine ⟨by simp [hys.1], fun y hy => ?_, fun j v y hv hy => ?_⟩
    · rcases List.mem_append.1 hy with h | h
      · exact hys.2.1 y (List.mem_of_mem_take h)
      · rcases List.mem_cons.1 h with rfl | h
        · exact h1u
        · exact hys.2.1 y (List.mem_of_mem_drop h)
    · have hl1 : (es.flatten.take i).length = i := by rw [List.length_take, hys.1]; omega
      have hl2 : (ys.take i).length = i := by rw [List.length_take]; omega
      rcases Nat.lt_trichotomy j i with hj | hj | hj
      · rw [List.getElem?_append_left (by omega), List.getElem?_take, if_pos hj] at hv hy
        exact hys.2.2 j v y hv hy
      · subst hj
        rw [List.getElem?_append_right (by omega), hl1, Nat.sub_self] at hv
        rw [List.getElem?_append_right (by omega), hl2, Nat.sub_self] at hy
        simp at hv hy
        subst hv; subst hy
        exact hx
      · obtain ⟨q, rfl⟩ : ∃ q, j = i + (q + 1) := ⟨j - i - 1, by omega⟩
        rw [List.getElem?_append_right (by omega), hl1, Nat.add_sub_cancel_left, List.getElem?_cons_succ, List.getElem?_drop] at hv
        rw [List.getElem?_append_right (by omega), hl2, Nat.add_sub_cancel_left, List.getElem?_cons_succ, List.getElem?_drop] at hy
        exact hys.2.2 _ v y hv hy
  have hlen : (es.take i ++ [x] :: es.drop i).length = es.length + 1 := by simp; omega
  have hs := (SR.heap0 hH).grown (ok := ok) (T := 24) (sz := 1) (v := x0) (v' := v') (es' := es.take i ++ [x] :: es.drop i) hblk (by rw [hlen]; exact ho) hg (hb.imp id .inl) hvs
    (fun e he => by
      rcases List.mem_append.1 he with h | h
      · exact hel e (List.mem_of_mem_take h)
      · rcases List.mem_cons.1 h with rfl | h
        · rfl
        · exact hel e (List.mem_of_mem_drop h))
  have hsome : v'.oneCell' = true := by
    rcases ho.2 with ⟨e, _⟩ | ⟨g, cap, cur, e, _⟩ <;> rw [e] <;> rfl
  refine ⟨.gl cx.nm, v', _, _, rfl, ?_, SR.left0 hs, cx.nm, rfl, delO_new ok hH, rfl⟩
  have := VR.gl (w := w') (cx := cx.addG v' 1) (k := cx.nm) (Nat.lt_succ_self _) (by rw [Cx.addG_M]; exact hsome)
  rwa [Cx.addG_M] at this
end Go.Abs.M
set_option linter.unusedVariables false
set_option linter.unusedSimpArgs false
namespace Go.Abs.M
open Go Go.Abs Go.Proofs
/-- A way of comparing that is a total order. -/
structure Tri {α : Type} (c : α → α → Int) : Prop where
  flip : ∀ a b, c b a = - c a b
  trans : ∀ a b d, c a b ≤ 0 → c b d ≤ 0 → c a d ≤ 0
  small : ∀ a b, -1 ≤ c a b ∧ c a b ≤ 1
namespace Tri
variable {α β : Type} {c c' : α → α → Int}
theorem refl (h : Tri c) (a : α) : c a a = 0 := by have := h.flip a a; omega
theorem lt_le (h : Tri c) {a b d : α} (h1 : c a b < 0) (h2 : c b d ≤ 0) : c a d < 0 := by
  by_cases k : c a d < 0
  · exact k
  · have e := h.flip a d
    have := h.trans b d a h2 (by omega)
    have e2 := h.flip a b
    omega
theorem le_lt (h : Tri c) {a b d : α} (h1 : c a b ≤ 0) (h2 : c b d < 0) : c a d < 0 := by
  by_cases k : c a d < 0
  · exact k
  · have e := h.flip a d
    have := h.trans d a b (by omega) h1
    have e2 := h.flip b d
    omega
theorem lex (h : Tri c) (h' : Tri c') : Tri (fun a b => if c a b ≠ 0 then c a b else c' a b) := by
  refine ⟨fun a b => ?_, fun a b d h1 h2 => ?_, fun a b => ?_⟩
  · have e := h.flip a b
    have e' := h'.flip a b
    split <;> split <;> omega
  · 
    have k1 : c a b ≤ 0 := by split at h1 <;> omega
    have k2 : c b d ≤ 0 := by split at h2 <;> omega
    have k3 := h.trans a b d k1 k2
    split
    · exact k3
    · rename_i e
      have e : c a d = 0 := by omega
      have z1 : c a b = 0 := by
        by_cases k : c a b = 0
        · exact k
        · have := h.lt_le (a := a) (b := b) (d := d) (by omega) k2; omega
      have z2 : c b d = 0 := by
        by_cases k : c b d = 0
        · exact k
        · have := h.le_lt (a := a) (b := b) (d := d) k1 (by omega); omega
      rw [if_neg (by simp [z1])] at h1
      rw [if_neg (by simp [z2])] at h2
      exact h'.trans a b d h1 h2
  · have e := h.small a b
    have e' := h'.small a b
    split <;> omega
theorem on (h : Tri c) (f : β → α) : Tri (fun a b => c (f a) (f b)) := ⟨fun a b => h.flip _ _, fun a b d => h.trans _ _ _, fun a b => h.small _ _⟩
end Tri
theorem tri_I : Tri cmpI := by
  refine ⟨fun a b => ?_, fun a b d => ?_, fun a b => ?_⟩ <;> simp only [cmpI] <;> repeat' split <;> omega
theorem cmpS_cases (a b : ByteArray) : (cmpS a b = -1 ∧ a.toList < b.toList) ∨ (cmpS a b = 0 ∧ a.toList = b.toList) ∨ (cmpS a b = 1 ∧ b.toList < a.toList) := by
  unfold cmpS
  rw [bytesLess_eq']
  by_cases h : a.toList < b.toList
  · simp [h]
  · by_cases e : a.toList = b.toList
    · simp [e, List.lt_irrefl]
    · have : b.toList < a.toList := by
        rcases List.le_iff_lt_or_eq.1 (show b.toList ≤ a.toList from h) with h1 | h1
        · exact h1
        · exact absurd h1.symm e
      simp [h, e, this]
theorem tri_S : Tri cmpS := by
  refine ⟨fun a b => ?_, fun a b d h1 h2 => ?_, fun a b => ?_⟩
  · rcases cmpS_cases a b with ⟨h1, h2⟩ | ⟨h1, h2⟩ | ⟨h1, h2⟩ <;> rcases cmpS_cases b a with ⟨k1, k2⟩ | ⟨k1, k2⟩ | ⟨k1, k2⟩ <;> rw [h1, k1] <;>
      first
        | omega
        | exact absurd k2 (List.lt_asymm h2)
        | exact absurd k2 (by rw [h2]; exact List.lt_irrefl _)
        | exact absurd h2 (by rw [k2]; exact List.lt_irrefl _)
  · rcases cmpS_cases a d with ⟨k1, _⟩ | ⟨k1, _⟩ | ⟨_, k2⟩
    · omega
    · omega
    · exfalso
      have e1 : ¬ b.toList < a.toList := fun hh => by
        rcases cmpS_cases a b with ⟨_, h⟩ | ⟨_, h⟩ | ⟨h, _⟩
        · exact List.lt_asymm h hh
        · rw [h] at hh; exact List.lt_irrefl _ hh
        · omega
      have e2 : ¬ d.toList < b.toList := fun hh => by
        rcases cmpS_cases b d with ⟨_, h⟩ | ⟨_, h⟩ | ⟨h, _⟩
        · exact List.lt_asymm h hh
        · rw [h] at hh; exact List.lt_irrefl _ hh
        · omega
      exact List.le_trans (show a.toList ≤ b.toList from e1) (show b.toList ≤ d.toList from e2) k2
  · rcases cmpS_cases a b with ⟨h, _⟩ | ⟨h, _⟩ | ⟨h, _⟩ <;> omega
theorem orI2 (x y : Int) : orI [x, y] = if x ≠ 0 then x else y := by
  simp only [orI]
  split
  · rfl
  · split
    · rfl
    · omega
theorem tri_Id : Tri cmpId := by
  have : cmpId = fun a b : Int × Int => if cmpI a.1 b.1 ≠ 0 then cmpI a.1 b.1 else cmpI a.2 b.2 := by funext a b; exact orI2 _ _
  rw [this]
  exact (tri_I.on Prod.fst).lex (tri_I.on Prod.snd)
theorem tri_Bd : Tri cmpBd := by
  have : cmpBd = fun a b : Bd => if cmpS a.var b.var ≠ 0 then cmpS a.var b.var else cmpId (idOf a) (idOf b) := by funext a b; exact orI2 _ _
  rw [this]
  exact (tri_S.on Bd.var).lex (tri_Id.on idOf)
theorem tri_L : Tri cmpL := by
  have fl : ∀ a b, cmpL b a = - cmpL a b := by
    intro a
    induction a with
    | nil => intro b; cases b <;> rfl
    | cons x l ih =>
      intro b
      cases b with
      | nil => rfl
      | cons y r =>
        have e := tri_Bd.flip x y
        have := ih r
        simp only [cmpL]
        split <;> split <;> omega
  refine ⟨fl, ?_, ?_⟩
  · intro a
    induction a with
    | nil => intro b d _ _; cases d <;> simp [cmpL]
    | cons x l ih =>
      intro b d h1 h2
      cases b with
      | nil => simp [cmpL] at h1
      | cons y r =>
        cases d with
        | nil => simp [cmpL] at h2
        | cons z q =>
          simp only [cmpL] at h1 h2 ⊢
          have k1 : cmpBd x y ≤ 0 := by split at h1 <;> omega
          have k2 : cmpBd y z ≤ 0 := by split at h2 <;> omega
          have k3 := tri_Bd.trans x y z k1 k2
          split
          · exact k3
          · have z1 : cmpBd x y = 0 := by
              by_cases k : cmpBd x y = 0
              · exact k
              · have := tri_Bd.lt_le (a := x) (b := y) (d := z) (by omega) k2; omega
            have z2 : cmpBd y z = 0 := by
              by_cases k : cmpBd y z = 0
              · exact k
              · have := tri_Bd.le_lt (a := x) (b := y) (d := z) k1 (by omega); omega
            rw [if_neg (by simp [z1])] at h1
            rw [if_neg (by simp [z2])] at h2
            exact ih r q h1 h2
  · intro a
    induction a with
    | nil => intro b; cases b <;> simp [cmpL]
    | cons x l ih =>
      intro b
      cases b with
      | nil => simp [cmpL]
      | cons y r =>
        have e := tri_Bd.small x y
        have := ih r
        simp only [cmpL]
        split <;> omega
def SrtL (rows : List (List Bd)) : Prop := rows.Pairwise (fun a b => cmpL a b < 0)
/-- Where a row belongs. -/
structure AtL (rows : List (List Bd)) (x : List Bd) (i : Nat) : Prop where
  lt : ∀ j y, rows[j]? = some y → j < i → cmpL y x < 0
  ge : ∀ j y, rows[j]? = some y → i ≤ j → 0 ≤ cmpL y x
def hasL (rows : List (List Bd)) (x : List Bd) : Bool := rows.any (fun y => cmpL y x == 0)
def insL' (rows : List (List Bd)) (x : List Bd) : List (List Bd) := rows.takeWhile (fun y => decide (cmpL y x < 0)) ++ x :: rows.dropWhile (fun y => decide (cmpL y x < 0))
def addL (rows : List (List Bd)) (x : List Bd) : List (List Bd) := if partErr x = 0 ∧ hasL rows x = false then insL' rows x else rows
theorem SrtL.get {rows : List (List Bd)} (h : SrtL rows) {i j : Nat} {x y : List Bd} (hx : rows[i]? = some x) (hy : rows[j]? = some y) (hij : i < j) : cmpL x y < 0 := by
  obtain ⟨hi, rfl⟩ := List.getElem?_eq_some_iff.1 hx
  obtain ⟨hj, rfl⟩ := List.getElem?_eq_some_iff.1 hy
  exact List.pairwise_iff_getElem.1 h i j hi hj hij
theorem takeWhile_at {α : Type} {p : α → Bool} : ∀ {l : List α} {i : Nat}, i ≤ l.length → (∀ j y, l[j]? = some y → j < i → p y = true) → (∀ j y, l[j]? = some y → i ≤ j → p y = false) → l.takeWhile p = l.take i ∧ l.dropWhile p = l.drop i
  | [], i, _, _, _ => by simp
  | a :: l, 0, _, _, h2 => by
    have := h2 0 a rfl (Nat.le_refl _)
    simp [this]
  | a :: l, i + 1, hi, h1, h2 => by
    have ha := h1 0 a rfl (by omega)
    obtain ⟨e1, e2⟩ := takeWhile_at (p := p) (l := l) (i := i) (by simpa using hi) (fun j y hy hj => h1 (j + 1) y (by simpa using hy) (by omega)) (fun j y hy hj => h2 (j + 1) y (by simpa using hy) (by omega))
    simp [ha, e1, e2]
theorem AtL.ins {rows : List (List Bd)} {x : List Bd} {i : Nat} (h : AtL rows x i) (hi : i ≤ rows.length) : insL' rows x = rows.take i ++ x :: rows.drop i := by
  obtain ⟨e1, e2⟩ := takeWhile_at (p := fun y => decide (cmpL y x < 0)) hi (fun j y hy hj => by simpa using h.lt j y hy hj) (fun j y hy hj => by have := h.ge j y hy hj; simp; omega)
  rw [insL', e1, e2]
theorem AtL.has {rows : List (List Bd)} {x : List Bd} {i : Nat} (hs : SrtL rows) (h : AtL rows x i) : hasL rows x = true ↔ ∃ y, rows[i]? = some y ∧ cmpL y x = 0 := by
  constructor
  · intro hh
    obtain ⟨y, hy, he⟩ := List.any_eq_true.1 hh
    have he : cmpL y x = 0 := by simpa using he
    obtain ⟨j, hj⟩ := List.getElem?_of_mem hy
    rcases Nat.lt_trichotomy j i with hji | hji | hji
    · have := h.lt j y hj hji; omega
    · subst hji; exact ⟨y, hj, he⟩
    · exfalso
      have hjl := (List.getElem?_eq_some_iff.1 hj).1
      have hil : rows[i]? = some rows[i] := List.getElem?_eq_getElem (by omega)
      have k1 := hs.get hil hj hji
      have k2 := h.ge i _ hil (Nat.le_refl _)
      have k3 := tri_L.lt_le k1 (by omega : cmpL y x ≤ 0)
      omega
  · rintro ⟨y, hy, he⟩
    exact List.any_eq_true.2 ⟨y, List.mem_of_getElem? hy, by simp [he]⟩
theorem SrtL.ins {rows : List (List Bd)} {x : List Bd} {i : Nat} (hs : SrtL rows) (h : AtL rows x i) (hn : hasL rows x = false) : SrtL (rows.take i ++ x :: rows.drop i) := by
  have low : ∀ y ∈ rows.take i, cmpL y x < 0 := fun y hy => by
    obtain ⟨j, hj⟩ := List.getElem?_of_mem hy
    rw [List.getElem?_take] at hj
    split at hj
    · rename_i hji; exact h.lt j y hj hji
    · cases hj
  have high : ∀ y ∈ rows.drop i, cmpL x y < 0 := fun y hy => by
    obtain ⟨j, hj⟩ := List.getElem?_of_mem hy
    rw [List.getElem?_drop] at hj
    have k := h.ge _ y hj (by omega)
    have k2 : cmpL y x ≠ 0 := fun e => by
      have : hasL rows x = true := List.any_eq_true.2 ⟨y, List.mem_of_getElem? hj, by simp [e]⟩
      rw [hn] at this; cases this
    have := tri_L.flip y x
    omega
  have hs2 : SrtL (rows.take i ++ rows.drop i) := by rw [List.take_append_drop]; exact hs
  obtain ⟨s1, s2, s3⟩ := List.pairwise_append.1 hs2
  refine List.pairwise_append.2 ⟨s1, List.pairwise_cons.2 ⟨high, s2⟩, fun a ha b hb => ?_⟩
  rcases List.mem_cons.1 hb with rfl | hb
  · exact low a ha
  · exact s3 a ha b hb
theorem SrtL.at {rows : List (List Bd)} (hs : SrtL rows) (x : List Bd) : AtL rows x (rows.takeWhile (fun y => decide (cmpL y x < 0))).length := by
  induction rows with
  | nil => exact ⟨fun j y h => by simp at h, fun j y h => by simp at h⟩
  | cons a l ih =>
    obtain ⟨h1, h2⟩ := List.pairwise_cons.1 hs
    by_cases ha : cmpL a x < 0
    · have ih := ih h2
      rw [List.takeWhile_cons_of_pos (by simpa using ha), List.length_cons]
      refine ⟨fun j y hy hj => ?_, fun j y hy hj => ?_⟩
      · cases j with
        | zero => simp at hy; subst hy; exact ha
        | succ j => exact ih.lt j y (by simpa using hy) (by omega)
      · cases j with
        | zero => omega
        | succ j => exact ih.ge j y (by simpa using hy) (by omega)
    · rw [List.takeWhile_cons_of_neg (by simpa using ha)]
      refine ⟨fun j y hy hj => by simp at hj, fun j y hy hj => ?_⟩
      cases j with
      | zero => simp at hy; subst hy; omega
      | succ j =>
        have hm := h1 y (List.mem_of_getElem? (by simpa using hy))
        by_cases k : 0 ≤ cmpL y x
        · exact k
        · have := tri_L.lt_le hm (by omega : cmpL y x ≤ 0); omega
theorem insL'_at (rows : List (List Bd)) (x : List Bd) : insL' rows x = rows.take (rows.takeWhile (fun y => decide (cmpL y x < 0))).length ++ x :: rows.drop (rows.takeWhile (fun y => decide (cmpL y x < 0))).length := by
  have h := List.takeWhile_append_dropWhile (p := fun y => decide (cmpL y x < 0)) (l := rows)
  unfold insL'
  generalize rows.takeWhile (fun y => decide (cmpL y x < 0)) = a at h ⊢
  generalize rows.dropWhile (fun y => decide (cmpL y x < 0)) = b at h ⊢
  subst h
  simp
theorem addL_srt {rows : List (List Bd)} {x : List Bd} (hs : SrtL rows) : SrtL (addL rows x) := by
  unfold addL
  split
  · rename_i h
    rw [insL'_at]
    exact hs.ins (hs.at x) h.2
  · exact hs
theorem addL_len (rows : List (List Bd)) (x : List Bd) : (addL rows x).length ≤ rows.length + 1 := by
  unfold addL
  split
  · rw [insL'_at]; simp; omega
  · omega
theorem insL'_mem (rows : List (List Bd)) (x y : List Bd) : y ∈ insL' rows x → y = x ∨ y ∈ rows := by
  rw [insL'_at]
  intro h
  rcases List.mem_append.1 h with h | h
  · exact .inr (List.mem_of_mem_take h)
  · rcases List.mem_cons.1 h with h | h
    · exact .inl h
    · exact .inr (List.mem_of_mem_drop h)
theorem addL_mem {rows : List (List Bd)} {x y : List Bd} (h : y ∈ addL rows x) : y = x ∨ y ∈ rows := by
  unfold addL at h
  split at h
  · exact insL'_mem _ _ _ h
  · exact .inr h
theorem hasL_self {rows : List (List Bd)} {x : List Bd} (h : x ∈ rows) : hasL rows x = true := List.any_eq_true.2 ⟨x, h, by simp [tri_L.refl x]⟩
end Go.Abs.M
namespace Go.Abs
open Go
section
variable {P : Program} {T : Tab} {B : Base} {n : Nat} {cx cx' : Cx} {s : St} {σ σ' : Hp} {a : Act} {w w' : World} {K : St → Hp → Prop}
inductive Tf where
  | nil
  | st (i k : Nat) (t : Tf)
  | fork (i : Nat) (a : Tf) (j : Nat) (b : Tf)
  | fork3 (i : Nat) (a : Tf) (j : Nat) (b : Tf) (k : Nat) (c : Tf)
def Tf.len : Tf → Nat
  | .nil => 0
  | .st _ _ t => t.len + 1
  | .fork _ a _ _ => a.len + 1
  | .fork3 _ a _ _ _ _ => a.len + 1
def semF (P : Program) (T : Tab) (n : Nat) (ops : List Oper) (ds : List (Option Nat)) : Tf → (St → Hp → Prop) → St → Hp → Prop
  | .nil, K => K
  | .st i k r, K => one P T n ops ds i k (semF P T n ops ds r K)
  | .fork i a j b, K => fun s σ => one P T n ops ds i 2 (semF P T n ops ds a K) s σ ∧ one P T n ops ds j 2 (semF P T n ops ds b K) s σ
  | .fork3 i a j b k c, K => fun s σ => one P T n ops ds i 2 (semF P T n ops ds a K) s σ ∧ one P T n ops ds j 2 (semF P T n ops ds b K) s σ ∧ one P T n ops ds k 2 (semF P T n ops ds c K) s σ
def schedG (P : Program) (ops : Array Oper) : Tf → Bool → Array Bool → Bool
  | .nil, _, listed => (Region.ready .any ops listed).isEmpty
  | .st i k r, early, listed =>
    (match k with
     | 0 => ((ops[i]?).map fun o => pureOp P o.op).getD false && (Region.ready .any ops listed).contains i && Region.free .any ops listed i
     | 1 => early && ((ops[i]?).map fun o => isLoad o.op).getD false && (Region.ready .any ops listed).contains i && Region.free .any ops listed i
     | _ => Region.ready .any ops listed == [i]) &&
    schedG P ops r early (listed.setIfInBounds i true)
  | .fork i a j b, early, listed => Region.ready .any ops listed == [i, j] && a.len == b.len && schedG P ops a early (listed.setIfInBounds i true) && schedG P ops b early (listed.setIfInBounds j true)
  | .fork3 i a j b k c, early, listed => Region.ready .any ops listed == [i, j, k] && (a.len == b.len && a.len == c.len) && schedG P ops a early (listed.setIfInBounds i true) && schedG P ops b early (listed.setIfInBounds j true) && schedG P ops c early (listed.setIfInBounds k true)
/-- The same look, its list written out at each step, and read side by side with the operations. -/
def schedH (P : Program) (ops : List Oper) : Tf → Bool → List Bool → Bool
  | .nil, _, l => (rdy ops l).isEmpty
  | .st i k r, early, l =>
    (match k with
     | 0 => ((ops[i]?).map fun o => pureOp P o.op).getD false && (rdy ops l).contains i && fre ops l i
     | 1 => early && ((ops[i]?).map fun o => isLoad o.op).getD false && (rdy ops l).contains i && fre ops l i
     | _ => rdy ops l == [i]) &&
    forceL (setL l i) fun m => schedH P ops r early m
  | .fork i a j b, early, l => rdy ops l == [i, j] && a.len == b.len && (forceL (setL l i) fun m => schedH P ops a early m) && (forceL (setL l j) fun m => schedH P ops b early m)
  | .fork3 i a j b k c, early, l => rdy ops l == [i, j, k] && (a.len == b.len && a.len == c.len) && (forceL (setL l i) fun m => schedH P ops a early m) && (forceL (setL l j) fun m => schedH P ops b early m) && (forceL (setL l k) fun m => schedH P ops c early m)
theorem schedH_eq (P : Program) (ops : List Oper) : ∀ (t : Tf) (early : Bool) (l : List Bool), l.length = ops.length → schedH P ops t early l = schedG P ⟨ops⟩ t early ⟨l⟩
  | .nil, _, _, h => by simp only [schedH, schedG, rdy_eq h]
  | .st i k r, early, l, h => by
    simp only [schedH, schedG, forceL_eq, schedH_eq P ops r early (setL l i) ((setL_len l i).trans h), rdy_eq h, fre_eq h, List.getElem?_toArray, List.setIfInBounds_toArray]
    rw [setL_eq]
  | .fork i a j b, early, l, h => by
    simp only [schedH, schedG, forceL_eq, schedH_eq P ops a early (setL l i) ((setL_len l i).trans h), schedH_eq P ops b early (setL l j) ((setL_len l j).trans h), rdy_eq h, List.setIfInBounds_toArray]
    rw [setL_eq, setL_eq]
  | .fork3 i a j b k c, early, l, h => by
    simp only [schedH, schedG, forceL_eq, schedH_eq P ops a early (setL l i) ((setL_len l i).trans h), schedH_eq P ops b early (setL l j) ((setL_len l j).trans h), schedH_eq P ops c early (setL l k) ((setL_len l k).trans h), rdy_eq h, List.setIfInBounds_toArray]
    rw [setL_eq, setL_eq, setL_eq]
theorem semF_sound (hT : T.ok P) {ops : Array Oper} (hs : Region.noSelect ops = true) {Q : Act → World → Prop} :
    ∀ (sched : Tf) (early : Bool) (listed : Array Bool) {B : Base} (_hsd : B.sd = T.sd) (_hQ : ∀ a w, KC B n K a w → Q a w) {cx : Cx} {s : St} {σ : Hp} {a : Act} {w : World}, schedG P ops sched early listed = true → SR B n cx s σ a w →
    (early = true → (∀ g, cx.I g → B.still g) ∧ (∀ d cells, T.sd d = true → s.l d = some cells → B.still (cx.L d))) →
    semF P T n ops.toList (ops.toList.map (·.dst)) sched K s σ → wpAnyH P .any ops (onlyN Q) (stillW B) sched.len listed a w
  | .nil, early, listed, B, hsd, hQ, cx, s, σ, a, w, hB, h, he, hk => by
    simp only [schedG, List.isEmpty_iff] at hB
    exact wpAnyH_done hB (hQ a w ⟨cx, s, σ, h, hk⟩) 0
  | .st i k r, early, listed, B, hsd, hQ, cx, s, σ, a, w, hB, h, he, hk => by
    simp only [schedG, Bool.and_eq_true] at hB
    obtain ⟨hB1, hB2⟩ := hB
    simp only [semF, one] at hk
    cases hi : ops.toList[i]? with
    | none => simp [hi] at hk
    | some o =>
      simp only [hi] at hk
      obtain ⟨hd, hst, hk⟩ := hk
      have hi' : ops[i]? = some o := by simpa using hi
      have take : ∀ {v : V} {x : Value}, (Region.wanted o (yielded ops a.tmps) = true ∧ (∀ w', stillW B w' → (execOp a.eval o).run P w' = .ok (.value x) w') ∨ Region.wanted o (yielded ops a.tmps) = false ∧ x = undef) → TR w cx v x →
          semF P T n ops.toList (ops.toList.map (·.dst)) r K (s.putO o.dst v) σ → (Region.ready .any ops listed).contains i = true → Region.free .any ops listed i = true →
          wpAnyH P .any ops (onlyN Q) (stillW B) (Tf.st i k r).len listed a w := fun {v x} hy hv hkr hr hf => by
        have h' := h.putO (dOK_spec hd) hv
        refine wpAnyH_take hi' hs hf hr (fun _ _ _ hq => hq.elim) (v := x) hy h.stillW ?_
        refine semF_sound hT hs r early _ hsd hQ hB2 h' (fun e1 => ?_) hkr
        obtain ⟨h1, h2⟩ := he e1
        refine ⟨h1, fun d cells hsd' hd' => h2 d cells hsd' ?_⟩
        cases hdst : o.dst with
        | none => rw [hdst] at hd'; exact hd'
        | some e => rw [hdst] at hd'; exact hd'
      rcases k with _ | _ | k
      · simp only [hi', Option.map_some, Option.getD_some, Bool.and_eq_true] at hB1
        obtain ⟨⟨hp, hr⟩, hf⟩ := hB1
        rcases gate_wanted (ops := ops) h hk with ⟨hw, hk⟩ | ⟨hw, hk⟩
        · obtain ⟨v, hv, hy⟩ := sem_pure hT hp hk
          obtain ⟨x, hx, ht⟩ := hy h
          exact take (.inl ⟨hw, fun w' _ => hx w'⟩) ht hv hr hf
        · exact take (.inr ⟨hw, rfl⟩) (.v (.c undef)) hk hr hf
      · simp only [hi', Option.map_some, Option.getD_some, Bool.and_eq_true] at hB1
        obtain ⟨⟨⟨hea, hp⟩, hr⟩, hf⟩ := hB1
        obtain ⟨h1, h2⟩ := he hea
        cases ho : o.op <;> simp only [ho, isLoad] at hp hst <;> try (cases hp; done)
        rename_i t x
        have hk2 := gate_and hst hk
        rcases gate_wanted (ops := ops) h hk2 with ⟨hw, hst, hk⟩ | ⟨hw, _, hk⟩
        · unfold semOp at hk
          simp only [ho] at hk
          obtain ⟨c1, c2, c3, hk⟩ := hk
          obtain ⟨v, hv, hy⟩ := qLoad_sound (P := P) (s := s) (σ := σ) c1 c2 c3 hk
          obtain ⟨y, b, off, hp', hyr, ht, hlp, hip⟩ := hy cx w (a.eval x) h.heap h.box (h.tr x)
          have hb : B.still b := by
            cases hx : ev s x with
            | lp d off' =>
              rw [hlp d off' hx]
              have hsd' : T.sd d = true := by simpa [steady, hx] using hst
              have hl : ∃ cells, s.l d = some cells := by
                rw [hx] at hk
                unfold qLoad at hk
                cases hld : s.l d with
                | none => simp [hld] at hk
                | some cells => exact ⟨cells, rfl⟩
              obtain ⟨cells, hl⟩ := hl
              exact h2 d cells hsd' hl
            | ip es i' off' => exact h1 b (hip es i' off' hx)
            | _ => simp [steady, hx] at hst
          refine take (.inl ⟨hw, fun w' hw' => ?_⟩) ht hv hr hf
          have := hyr w' ((hw' b hb).trans (h.stab b hb).symm)
          simp [execOp, ho, this]
        · exact take (.inr ⟨hw, rfl⟩) (.v (.c undef)) hk hr hf
      · have hB1 : Region.ready .any ops listed = [i] := by simpa using hB1
        refine wpAnyH_all (rs := [i]) hB1 (by simp) (fun j hj => ?_)
        have hj : j = i := by simpa using hj
        subst hj
        have next : ∀ a' w', KC B n (semF P T n ops.toList (ops.toList.map (·.dst)) r K) a' w' → stillW B w' ∧ wpAnyH P .any ops (onlyN Q) (stillW B) r.len (listed.setIfInBounds j true) a' w' := fun a' w' ⟨cx', s', σ', h', hk'⟩ =>
          ⟨h'.stillW, wpAnyH_mono (S' := stillW (B.re cx' s'.l T.sd w')) (fun w'' hw g hg => (hw g (.inl hg)).trans (h'.stab g hg)) _ _ _ _
            (semF_sound hT hs r early _ rfl (fun a'' w'' ⟨cx2, s2, σ2, h2, hk2⟩ => hQ a'' w'' ⟨cx2, s2, σ2, h2.ofRe hsd (fun g hg => h'.stab g hg), hk2⟩) hB2 (h'.re hsd)
              (fun _ => ⟨fun g hg => .inr (.inl hg), fun d cells hd hl => .inr (.inr ⟨d, cells, hd, hl, rfl⟩)⟩) hk')⟩
        unfold wpOp
        simp only [hi']
        rcases gate_wanted (ops := ops) h hk with ⟨hw, hk⟩ | ⟨hw, hk⟩
        · simp only [hw, if_true]
          exact .inl (Oper.wp_mono next (sem_sound hT hsd hd h hk))
        · simp only [hw, Bool.false_eq_true, if_false]
          exact next _ _ ⟨cx, _, σ, h.putO (dOK_spec hd) (.v (.c undef)), hk⟩

  | .fork i ra j rb, early, listed, B, hsd, hQ, cx, s, σ, a, w, hB, h, he, hk => by
    simp only [schedG, Bool.and_eq_true] at hB
    obtain ⟨⟨⟨hB1, hlen⟩, hBa⟩, hBb⟩ := hB
    have hlen : ra.len = rb.len := by simpa using hlen
    have hB1 : Region.ready .any ops listed = [i, j] := by simpa using hB1
    simp only [semF] at hk
    have go : ∀ (q : Nat) (r : Tf), r.len = ra.len → schedG P ops r early (listed.setIfInBounds q true) = true → (∀ {B : Base} (_hsd : B.sd = T.sd) (_hQ : ∀ a w, KC B n K a w → Q a w) {cx : Cx} {s : St} {σ : Hp} {a : Act} {w : World}, SR B n cx s σ a w →
        (early = true → (∀ g, cx.I g → B.still g) ∧ (∀ d cells, T.sd d = true → s.l d = some cells → B.still (cx.L d))) →
        semF P T n ops.toList (ops.toList.map (·.dst)) r K s σ → wpAnyH P .any ops (onlyN Q) (stillW B) r.len (listed.setIfInBounds q true) a w) →
        one P T n ops.toList (ops.toList.map (·.dst)) q 2 (semF P T n ops.toList (ops.toList.map (·.dst)) r K) s σ → wpOp P ops (onlyN Q) q (fun a' w' => stillW B w' ∧ wpAnyH P .any ops (onlyN Q) (stillW B) ra.len (listed.setIfInBounds q true) a' w') a w := fun q r hl hBr ih hk => by
      simp only [one] at hk
      cases hi : ops.toList[q]? with
      | none => simp [hi] at hk
      | some o =>
        simp only [hi] at hk
        obtain ⟨hd, hst, hk⟩ := hk
        have hi' : ops[q]? = some o := by simpa using hi
        have next : ∀ a' w', KC B n (semF P T n ops.toList (ops.toList.map (·.dst)) r K) a' w' → stillW B w' ∧ wpAnyH P .any ops (onlyN Q) (stillW B) ra.len (listed.setIfInBounds q true) a' w' := fun a' w' ⟨cx', s', σ', h', hk'⟩ =>
          ⟨h'.stillW, wpAnyH_mono (S' := stillW (B.re cx' s'.l T.sd w')) (fun w'' hw g hg => (hw g (.inl hg)).trans (h'.stab g hg)) _ _ _ _
            (hl ▸ ih rfl (fun a'' w'' ⟨cx2, s2, σ2, h2, hk2⟩ => hQ a'' w'' ⟨cx2, s2, σ2, h2.ofRe hsd (fun g hg => h'.stab g hg), hk2⟩) (h'.re hsd)
              (fun _ => ⟨fun g hg => .inr (.inl hg), fun d cells hd hl => .inr (.inr ⟨d, cells, hd, hl, rfl⟩)⟩) hk')⟩
        unfold wpOp
        simp only [hi']
        rcases gate_wanted (ops := ops) h hk with ⟨hw, hk⟩ | ⟨hw, hk⟩
        · simp only [hw, if_true]
          exact .inl (Oper.wp_mono next (sem_sound hT hsd hd h hk))
        · simp only [hw, Bool.false_eq_true, if_false]
          exact next _ _ ⟨cx, _, σ, h.putO (dOK_spec hd) (.v (.c undef)), hk⟩
    refine wpAnyH_all (rs := [i, j]) hB1 (by simp) (fun q hq => ?_)
    rcases List.mem_cons.1 hq with rfl | hq
    · exact go q ra rfl hBa (fun {B} hsd hQ {cx s σ a w} h he hk => semF_sound hT hs ra early _ hsd hQ hBa h he hk) hk.1
    · have hq : q = j := by simpa using hq
      subst hq
      exact go q rb hlen.symm hBb (fun {B} hsd hQ {cx s σ a w} h he hk => semF_sound hT hs rb early _ hsd hQ hBb h he hk) hk.2

  | .fork3 i ra j rb k rc, early, listed, B, hsd, hQ, cx, s, σ, a, w, hB, h, he, hk => by
    simp only [schedG, Bool.and_eq_true] at hB
    obtain ⟨⟨⟨⟨hB1, hlen, hlen2⟩, hBa⟩, hBb⟩, hBc⟩ := hB
    have hlen : ra.len = rb.len := by simpa using hlen
    have hlen2 : ra.len = rc.len := by simpa using hlen2
    have hB1 : Region.ready .any ops listed = [i, j, k] := by simpa using hB1
    simp only [semF] at hk
    have go : ∀ (q : Nat) (r : Tf), r.len = ra.len → schedG P ops r early (listed.setIfInBounds q true) = true → (∀ {B : Base} (_hsd : B.sd = T.sd) (_hQ : ∀ a w, KC B n K a w → Q a w) {cx : Cx} {s : St} {σ : Hp} {a : Act} {w : World}, SR B n cx s σ a w →
        (early = true → (∀ g, cx.I g → B.still g) ∧ (∀ d cells, T.sd d = true → s.l d = some cells → B.still (cx.L d))) →
        semF P T n ops.toList (ops.toList.map (·.dst)) r K s σ → wpAnyH P .any ops (onlyN Q) (stillW B) r.len (listed.setIfInBounds q true) a w) →
        one P T n ops.toList (ops.toList.map (·.dst)) q 2 (semF P T n ops.toList (ops.toList.map (·.dst)) r K) s σ → wpOp P ops (onlyN Q) q (fun a' w' => stillW B w' ∧ wpAnyH P .any ops (onlyN Q) (stillW B) ra.len (listed.setIfInBounds q true) a' w') a w := fun q r hl hBr ih hk => by
      simp only [one] at hk
      cases hi : ops.toList[q]? with
      | none => simp [hi] at hk
      | some o =>
        simp only [hi] at hk
        obtain ⟨hd, hst, hk⟩ := hk
        have hi' : ops[q]? = some o := by simpa using hi
        have next : ∀ a' w', KC B n (semF P T n ops.toList (ops.toList.map (·.dst)) r K) a' w' → stillW B w' ∧ wpAnyH P .any ops (onlyN Q) (stillW B) ra.len (listed.setIfInBounds q true) a' w' := fun a' w' ⟨cx', s', σ', h', hk'⟩ =>
          ⟨h'.stillW, wpAnyH_mono (S' := stillW (B.re cx' s'.l T.sd w')) (fun w'' hw g hg => (hw g (.inl hg)).trans (h'.stab g hg)) _ _ _ _
            (hl ▸ ih rfl (fun a'' w'' ⟨cx2, s2, σ2, h2, hk2⟩ => hQ a'' w'' ⟨cx2, s2, σ2, h2.ofRe hsd (fun g hg => h'.stab g hg), hk2⟩) (h'.re hsd)
              (fun _ => ⟨fun g hg => .inr (.inl hg), fun d cells hd hl => .inr (.inr ⟨d, cells, hd, hl, rfl⟩)⟩) hk')⟩
        unfold wpOp
        simp only [hi']
        rcases gate_wanted (ops := ops) h hk with ⟨hw, hk⟩ | ⟨hw, hk⟩
        · simp only [hw, if_true]
          exact .inl (Oper.wp_mono next (sem_sound hT hsd hd h hk))
        · simp only [hw, Bool.false_eq_true, if_false]
          exact next _ _ ⟨cx, _, σ, h.putO (dOK_spec hd) (.v (.c undef)), hk⟩
    refine wpAnyH_all (rs := [i, j, k]) hB1 (by simp) (fun q hq => ?_)
    rcases List.mem_cons.1 hq with rfl | hq
    · exact go q ra rfl hBa (fun {B} hsd hQ {cx s σ a w} h he hk => semF_sound hT hs ra early _ hsd hQ hBa h he hk) hk.1
    rcases List.mem_cons.1 hq with rfl | hq
    · exact go q rb hlen.symm hBb (fun {B} hsd hQ {cx s σ a w} h he hk => semF_sound hT hs rb early _ hsd hQ hBb h he hk) hk.2.1
    · have hq : q = k := by simpa using hq
      subst hq
      exact go q rc hlen2.symm hBc (fun {B} hsd hQ {cx s σ a w} h he hk => semF_sound hT hs rc early _ hsd hQ hBc h he hk) hk.2.2
/-- A region that draws its order, by a schedule that parts. -/
theorem AW.drawF {Q : Exit → St → Hp → Prop} (hT : T.ok P) (hm : P.follows .mixedOrders = true) {id : Nat} {l : List Oper} (t : Tf) (hlen : t.len = l.length) (hs : Region.noSelect l.toArray = true)
    (hB : schedH P l t true (List.replicate l.length false) = true) (h : semF P T n l (l.map (·.dst)) t (fun s σ => Q .normal s σ) s σ) : AW P n (.region id l.toArray true) Q s σ :=
  fun B cx a w h1 _ h3 => by
    have hB : schedG P l.toArray t true (Array.replicate l.length false) = true := by
      rw [schedH_eq _ _ _ _ _ (by simp)] at hB
      exact hB
    have h4 := h3.drew
    have h5 := h4.toAt T.sd
    refine wp_mono (Q := onlyN (fun a w => QC B n Q .normal a w)) (wp_region_held (S := stillW (B.at cx s.l T.sd w.drew)) hm ?_) (fun e a w hq => by cases e <;> first | exact hq | exact hq.elim)
    have := semF_sound hT hs (Q := fun a w => QC B n Q .normal a w) (K := fun s σ => Q .normal s σ)
      t true (Array.replicate l.length false) (B := B.at cx s.l T.sd w.drew) rfl (fun a w ⟨cx', s', σ', h6, h7⟩ => ⟨cx', s', σ', h6.ofAt h1, h7⟩) hB h5 (fun _ => ⟨fun g hg => .inl hg, fun d cells hd hl => .inr ⟨d, cells, hd, hl, rfl⟩⟩) (by simpa using h)
    rw [hlen] at this
    simpa using this
section
variable {ops : List Oper} {i k d j : Nat} {r : Tf} {o : Oper} {ds : List (Option Nat)} {b : Bool}
theorem F.g (ho : ops[i]? = some o) (hs : stC T s k o.op) (hd : okd n o.dst = true) (hg : o.guard = none)
    (h : ∀ K' : St → Hp → Prop, (∀ s σ, semF P T n ops ds r K s σ → K' s σ) → semOp P T o K' s σ) : semF P T n ops ds (.st i k r) K s σ := by
  have := D.g (P := P) (T := T) (n := n) (s := s) (σ := σ) (K := semF P T n ops ds r K) (ds := ds) (ops := ops) (i := i) (k := k) (l := []) ho hs hd hg h
  exact this
theorem F.y (ho : ops[i]? = some o) (hs : stC T s k o.op) (hd : okd n o.dst = true) (hg : o.guard = some (j, b)) (hj : ds[j]? = some (some d)) (hb : s.t d = .c (.bool b))
    (h : ∀ K' : St → Hp → Prop, (∀ s σ, semF P T n ops ds r K s σ → K' s σ) → semOp P T o K' s σ) : semF P T n ops ds (.st i k r) K s σ := by
  have := D.y (P := P) (T := T) (n := n) (s := s) (σ := σ) (K := semF P T n ops ds r K) (ds := ds) (ops := ops) (i := i) (k := k) (l := []) ho hs hd hg hj hb h
  exact this
theorem F.x (ho : ops[i]? = some o) (hk : k = 1 → isLoad o.op = true) (hd : okd n o.dst = true) (hg : o.guard = some (j, b)) (hj : ds[j]? = some (some d)) (hb : s.t d = .c (.bool (!b)))
    (h : ∀ K' : St → Hp → Prop, (∀ s σ, semF P T n ops ds r K s σ → K' s σ) → K' (s.putO o.dst (.c undef)) σ) : semF P T n ops ds (.st i k r) K s σ := by
  have := D.x (P := P) (T := T) (n := n) (s := s) (σ := σ) (K := semF P T n ops ds r K) (ds := ds) (ops := ops) (i := i) (k := k) (l := []) ho hk hd hg hj hb h
  exact this
theorem F.u (ho : ops[i]? = some o) (hk : k = 1 → isLoad o.op = true) (hd : okd n o.dst = true) (hg : o.guard = some (j, b)) (hj : ds[j]? = some (some d)) (hb : s.t d = .c undef)
    (h : ∀ K' : St → Hp → Prop, (∀ s σ, semF P T n ops ds r K s σ → K' s σ) → K' (s.putO o.dst (.c undef)) σ) : semF P T n ops ds (.st i k r) K s σ := by
  have := D.u (P := P) (T := T) (n := n) (s := s) (σ := σ) (K := semF P T n ops ds r K) (ds := ds) (ops := ops) (i := i) (k := k) (l := []) ho hk hd hg hj hb h
  exact this
theorem F.nil (h : K s σ) : semF P T n ops ds .nil K s σ := h
/-- Only so much of the state is wanted from here on. -/
theorem F.cut {t : Tf} (J : St → Hp → Prop) (h : J s σ) (k : ∀ s σ, J s σ → semF P T n ops ds t K s σ) : semF P T n ops ds t K s σ := k s σ h
theorem F.fork3 {a c e : Tf} {q : Nat} (h1 : semF P T n ops ds (.st i 2 a) K s σ) (h2 : semF P T n ops ds (.st j 2 c) K s σ) (h3 : semF P T n ops ds (.st q 2 e) K s σ) : semF P T n ops ds (.fork3 i a j c q e) K s σ := ⟨h1, h2, h3⟩
theorem F.fork {a c : Tf} (h1 : semF P T n ops ds (.st i 2 a) K s σ) (h2 : semF P T n ops ds (.st j 2 c) K s σ) : semF P T n ops ds (.fork i a j c) K s σ := ⟨h1, h2⟩
end
end
end Go.Abs
namespace Go.Abs
open Go
section
variable {P : Program} {σ : Hp}
/-- A call whose result is a list that grows: the result, frozen. -/
theorem ACalls.freeze {f : FuncId} {args : List V} {R R' : V → Hp → Prop} (h : ACalls P f args σ R)
    (hr : ∀ v σ', R v σ' → ∃ k T es, v = .gl k ∧ σ'.gr k = some (T, es) ∧ R' (.sl es) (σ'.setGr k none)) : ACalls P f args σ R' := by
  refine ⟨h.1, fun cx w xs hH ha => (h.2 cx w xs hH ha).mono fun e w' ⟨v, r, cx', σ', h1, h2, h3, h4⟩ => ?_⟩
  obtain ⟨k, T, es, rfl, hk, hR⟩ := hr v σ' h4
  obtain ⟨cx2, hle, hL, hI, hH2, hv⟩ := h3.heap.freeze hk
  have hsub : ∀ g, (σ'.setGr k none).own cx2 g → σ'.own cx' g := fun g hg => by
    rcases hg with ⟨c, hc⟩ | ⟨j, x, hj, hb⟩
    · exact .inl ⟨c, hc⟩
    · by_cases ej : j = k
      · simp [Hp.setGr, ej] at hj
      · simp only [Hp.setGr, ej, if_false] at hj
        have hjn := (h3.heap.gr j x.1 x.2 hj).1
        rw [hle.M j hjn] at hb
        exact .inr ⟨j, x, hj, hb⟩
  have hcx : r = cx'.M k := by cases h2; rfl
  refine ⟨.sl es, r, cx2, σ'.setGr k none, h1, hcx ▸ hv, ⟨hH2, ⟨h3.ext.os, h3.ext.tape, h3.ext.output, h3.ext.size, h3.ext.block, h3.ext.le.trans hle, fun g hg => ?_, fun g hg => h3.ext.fnew g (hsub g hg)⟩, fun j x hj => ?_, fun g x hg => h3.onew g x hg⟩, hR⟩
  · rcases hI g hg with hg | hg
    · exact h3.ext.inew g hg
    · rcases h3.ext.fnew g (.inr ⟨k, _, hk, hg⟩) with h | h
      · exact .inr (.inl h)
      · exact .inr (.inr h)
  · by_cases ej : j = k
    · simp [Hp.setGr, ej] at hj
    · simp only [Hp.setGr, ej, if_false] at hj
      exact h3.gnew j x hj
end
end Go.Abs
namespace Go.Abs
open Go
section
variable {P : Program}
end
section
variable {P : Program} {T : Tab} {B : Base} {n : Nat} {cx cx' : Cx} {s : St} {σ σ' : Hp} {a : Act} {w w' : World} {K : St → Hp → Prop}
/-- append of a make, to a list of the call's own. -/
def semAppendG (P : Program) (t : TypeId) (x y : V) (d : Option Nat) (K : St → Hp → Prop) (s : St) (σ : Hp) : Prop :=
  match dstE σ (P.elem t) (szT P (P.elem t)) x, y with
  | some (ok, es), .c (.int _ c) => ∃ z, zeroT P (P.elem t) = some z ∧ slT P t = true ∧ szT P (P.elem t) ≠ 0 ∧ z.cells.size = szT P (P.elem t) ∧ oneAll z.cells.toList = true ∧ 0 < c ∧ es.length + c.toNat ≤ maxLen ∧
      (es.length + c.toNat) * P.bytesOf (P.elem t) ≤ reach ∧
      ∀ k', (σ.delO ok).gr k' = none → K (s.putO d (.gl k')) ((σ.delO ok).setGr k' (some ((P.elem t, szT P (P.elem t)), es ++ List.replicate c.toNat (z.cells.toList.map .c))))
  | _, _ => False
/-- A region in order, where an append of a make may stand. -/
def semX (P : Program) (T : Tab) (o : Oper) (K : St → Hp → Prop) (s : St) (σ : Hp) : Prop :=
  semOp P T o K s σ ∨ ∃ t t' x y ki, P.underlying t' = some (.int ki) ∧ o.op = .call { callee := .builtin .append, args := #[x, y], argTypes := #[t, t'] } ∧ semAppendG P t (ev s x) (ev s y) o.dst K s σ
def semLX (P : Program) (T : Tab) (n : Nat) : List Oper → (St → Hp → Prop) → St → Hp → Prop
  | [], K, s, σ => K s σ
  | o :: r, K, s, σ => dOK n o.dst ∧ o.guard = none ∧ semX P T o (semLX P T n r K) s σ
theorem XS.g {o : Oper} {r : List Oper} (hd : okd n o.dst = true) (hg : o.guard = none) (h : semOp P T o (semLX P T n r K) s σ) : semLX P T n (o :: r) K s σ := ⟨okd_ok hd, hg, .inl h⟩
theorem XS.mk {o : Oper} {r : List Oper} {t t' : TypeId} {x y : Operand} {ki : IntKind} (hd : okd n o.dst = true) (hg : o.guard = none) (h1 : P.underlying t' = some (.int ki)) (h2 : o.op = .call { callee := .builtin .append, args := #[x, y], argTypes := #[t, t'] })
    (h : semAppendG P t (ev s x) (ev s y) o.dst (semLX P T n r K) s σ) : semLX P T n (o :: r) K s σ := ⟨okd_ok hd, hg, .inr ⟨t, t', x, y, ki, h1, h2, h⟩⟩
end
end Go.Abs
namespace Go.Abs
open Go
section
variable {P : Program} {B : Base} {n : Nat} {cx : Cx} {s : St} {σ : Hp} {a : Act} {w : World} {Q : Exit → St → Hp → Prop}
theorem SR.freezeX (h : SR B n cx s σ a w) {k : Nat} {T : TypeId × Nat} {es : List (List V)} (hk : σ.gr k = some (T, es)) : ∃ cx', SR B n cx' (s.fz k es) (σ.setGr k none) a w ∧ cx.le cx' ∧ VR w cx' (.sl es) (cx.M k) := by
  obtain ⟨cx', hle, hL, hI, hH, hv⟩ := h.heap.freeze hk
  have own' : ∀ g, (σ.setGr k none).own cx' g → σ.own cx g := fun g hg => by
    rcases hg with ⟨c, hc⟩ | ⟨j, x, hj, hb⟩
    · exact .inl ⟨c, hc⟩
    · by_cases e : j = k
      · simp [Hp.setGr, e] at hj
      · simp only [Hp.setGr, e, if_false] at hj
        exact .inr ⟨j, x, hj, by rw [← hle.M j (h.heap.gr j x.1 x.2 hj).1]; exact hb⟩
  have h1 : SR B n cx' s (σ.setGr k none) a w := h.heapstep hle hL (fun g hg => (hI g hg).imp id (fun e => .inl (.inr ⟨k, _, hk, e⟩))) (fun g hg => .inl (own' g hg)) rfl rfl rfl (Nat.le_refl _) (fun _ _ _ => rfl) hH
    (fun j x hj => by
      by_cases e : j = k
      · simp [Hp.setGr, e] at hj
      · simp only [Hp.setGr, e, if_false] at hj; exact .inl ⟨x, hj⟩) (fun g x hx => .inl ⟨x, hx⟩)
  have hfe : foot cx' (σ.setGr k none) (s.fz k es).l = foot cx' (σ.setGr k none) s.l := by
    funext g
    refine propext (or_congr Iff.rfl ⟨fun ⟨d, c, hd, e⟩ => ?_, fun ⟨d, c, hd, e⟩ => ⟨d, c.map (fz1 k es), by simp [hd], e⟩⟩)
    simp only [St.fz_l, Option.map_eq_some_iff] at hd
    obtain ⟨c, hc, rfl⟩ := hd
    exact ⟨d, c, hc, e⟩
  refine ⟨cx', ⟨h1.size, by rw [hfe]; exact h1.defers, h1.nd, fun t => ?_, h1.heap, ⟨fun d cells hd => ?_, fun d cells hd => ?_, fun d e c c' hd he => ?_⟩, ?_, h1.gnew, h1.onew, h1.stab, h1.stN, fun d c hd => ?_⟩, hle, hv⟩
  · have ht := h.tmp t
    show TR w cx' (fzV k es (s.t t)) _
    generalize s.t t = v at ht
    generalize a.tmps.getD t undef = x at ht
    cases ht with
    | v hv' => exact .v (fzV_VR hle hv hv')
    | lp d off => rw [← hL]; exact .lp d off
    | junk => exact .junk _
  · simp only [St.fz_l, Option.map_eq_some_iff] at hd
    obtain ⟨c, hc, rfl⟩ := hd
    obtain ⟨T', cs, h2, h3⟩ := h.box.box d c hc
    rw [hL]
    exact ⟨T', cs, h2, fzs_VRs hle hv h3⟩
  · simp only [St.fz_l, Option.map_eq_some_iff] at hd
    obtain ⟨c, hc, rfl⟩ := hd
    exact h1.box.apart d c hc
  · simp only [St.fz_l, Option.map_eq_some_iff] at hd he
    obtain ⟨c, hc, rfl⟩ := hd
    obtain ⟨c', hc', rfl⟩ := he
    exact h1.box.inj d e c c' hc hc'
  · have e : foot cx' (σ.setGr k none) (s.fz k es).l = foot cx' (σ.setGr k none) s.l := by
      funext g
      refine propext (or_congr Iff.rfl ⟨fun ⟨d, c, hd, e⟩ => ?_, fun ⟨d, c, hd, e⟩ => ⟨d, c.map (fz1 k es), by simp [hd], e⟩⟩)
      simp only [St.fz_l, Option.map_eq_some_iff] at hd
      obtain ⟨c, hc, rfl⟩ := hd
      exact ⟨d, c, hc, e⟩
    rw [e]; exact h1.ext
  · simp only [St.fz_l, Option.map_eq_some_iff] at hd
    obtain ⟨c, hc, rfl⟩ := hd
    exact h1.stS d c hc
/-- A growing list that an object holds, frozen there too. -/
theorem SR.freezeO (h : SR B n cx s σ a w) {k g : Nat} {T : TypeId × Nat} {es : List (List V)} {cells : List V} (hk : σ.gr k = some (T, es)) (hg : σ.obj g = some cells) (hm : isMap cells = false) :
    ∃ cx', SR B n cx' (s.fz k es) ((σ.setGr k none).setObj g (some (cells.map (fz1 k es)))) a w := by
  obtain ⟨cx', h1, hle, hv⟩ := h.freezeX hk
  obtain ⟨o, ho, hor⟩ := h.heap.obj g cells hg
  obtain ⟨T', cs, rfl, hvs⟩ := hor.row hm
  have hg' : (σ.setGr k none).obj g = some cells := hg
  have hH := h1.heap.setObj_same (w' := w) hg' ho (OR.cells (fzs_VRs hle hv hvs)) (Nat.le_refl _) (fun _ _ _ => rfl)
  refine ⟨cx', h1.heapstep (.refl _) rfl (fun _ hg => .inl hg) (fun g' hg' => ?_) rfl rfl rfl (Nat.le_refl _) (fun _ _ _ => rfl) hH (fun j x hj => .inl ⟨x, hj⟩) (fun g' x hx => ?_)⟩
  · rcases own_setObj hg' with h2 | h2
    · exact .inl h2
    · rw [h2]; exact .inl (.inl ⟨_, hg⟩)
  · by_cases e : g' = g
    · rw [e]; exact .inl ⟨_, hg⟩
    · simp only [Hp.setObj, e, if_false] at hx; exact .inl ⟨x, hx⟩
theorem AW.freezeO {c : Code} {k g : Nat} {T : TypeId × Nat} {es : List (List V)} {cells : List V} (hk : σ.gr k = some (T, es)) (hg : σ.obj g = some cells) (hm : isMap cells = false)
    (h : AW P n c Q (s.fz k es) ((σ.setGr k none).setObj g (some (cells.map (fz1 k es))))) : AW P n c Q s σ :=
  fun B cx a w h1 h2 h3 => by
    obtain ⟨cx', h4⟩ := h3.freezeO hk hg hm
    exact h B cx' a w h1 h2 h4
/-- A nil slice that an object holds is an empty one. -/
theorem AW.nilO {c : Code} {g : Nat} {cells : List V} (hg : σ.obj g = some cells) (hm : isMap cells = false) (h : AW P n c Q s (σ.setObj g (some (cells.map wk1)))) : AW P n c Q s σ :=
  fun B cx a w h1 h2 h3 => by
    obtain ⟨o, ho, hor⟩ := h3.heap.obj g cells hg
    obtain ⟨T', cs, rfl, hvs⟩ := hor.row hm
    have hv2 : VRs w cx (cells.map wk1) cs := ⟨by simpa using hvs.1, hvs.2.1, fun i v x hi hx => by
      simp only [List.getElem?_map, Option.map_eq_some_iff] at hi
      obtain ⟨u, hu, rfl⟩ := hi
      exact wk1_VR (hvs.2.2 i u x hu hx)⟩
    have hH := h3.heap.setObj_same (w' := w) hg ho (OR.cells hv2) (Nat.le_refl _) (fun _ _ _ => rfl)
    refine h B cx a w h1 h2 (h3.heapstep (.refl _) rfl (fun _ hg => .inl hg) (fun g' hg' => ?_) rfl rfl rfl (Nat.le_refl _) (fun _ _ _ => rfl) hH (fun j x hj => .inl ⟨x, hj⟩) (fun g' x hx => ?_))
    · rcases own_setObj hg' with h2 | h2
      · exact .inl h2
      · rw [h2]; exact .inl (.inl ⟨_, hg⟩)
    · by_cases e : g' = g
      · rw [e]; exact .inl ⟨_, hg⟩
      · simp only [Hp.setObj, e, if_false] at hx; exact .inl ⟨x, hx⟩
end
end Go.Abs
namespace Go.Abs
open Go
section
variable {P : Program} {T : Tab} {n : Nat} {r : Option Nat} {s : St} {σ : Hp} {K : St → Hp → Prop} {Q Q' : Exit → St → Hp → Prop}
/-- The fence of a frame: a round's, or a plain one's. -/
abbrev RF (ro : Option Nat) : Fence := { Fence.wide with round := ro }
theorem CallsIn.toRF {ro : Option Nat} {m : Nat} {f : FuncId} {args : Array Value} {w : World} {R : Ending → World → Prop} (h : CallsIn Fence.wide m P f args w R) : CallsIn (RF ro) m P f args w R := h
theorem upon_in' {o : Oper} {a : Act} {K K' : Act → World → Prop} {Q Q' : Exit → Act → World → Prop} (hP : ∀ c a w, Q (.panic c) a w → Q' (.panic c) a w) (hO : LetsOut Q → LetsOut Q') (hK : ∀ a w, K a w → K' a w) : ∀ {x : Result Next}, o.upon P a K Q x → o.uponIn (RF r) 0 P a K' Q' x
  | .ok (.value v) w, h => hK _ _ h
  | .ok .skip w, h => hK _ _ h
  | .ok (.defer d) w, h => hK _ _ h
  | .ok (.enter f args) w, h => by
    refine ⟨fun e => (by cases e), CallsIn.toRF ((callsIn_wide (n := 0)).2 ?_)⟩
    refine Calls.mono h fun e w'' he => ?_
    cases e with
    | returned v => exact hK _ _ he
    | panicked c => exact hP _ _ _ he
    | outgrown => exact hO he
  | .ok (.row row args) w, h => by
    refine ⟨fun e => (by cases e), fun c cs _ => ?_⟩
    obtain ⟨v, w', h1, h2⟩ := h c cs
    exact ⟨v, w', hK _ _ h1, stepsIn_wide.2 h2⟩
  | .ok (.round ..) w, h => h.elim
  | .halt (.panic v) w, h => hP _ _ _ h
  | .halt (.exit ..) w, h => h.elim
  | .halt (.fatal ..) w, h => h.elim
  | .halt (.stuck ..) w, h => h.elim
  | .halt (.unsupported ..) w, h => h.elim
theorem upon_in {o : Oper} {a : Act} {K K' : Act → World → Prop} {Q : Exit → Act → World → Prop} (hK : ∀ a w, K a w → K' a w) {x : Result Next} (h : o.upon P a K Q x) : o.uponIn (RF r) 0 P a K' Q x :=
  upon_in' (fun _ _ _ h => h) id hK h
theorem onlyN_no {Q : Act → World → Prop} : ¬ LetsOut (onlyN Q) := fun ⟨_, _, h⟩ => h
def noDefer (ops : List Oper) : Bool := ops.all fun o => match o.op with | .defer _ => false | _ => true
theorem noDefer_spec {ops : List Oper} (h : noDefer ops = true) {i : Nat} {o : Oper} (hi : ops.toArray[i]? = some o) : ∀ c, o.op ≠ .defer c := fun c e => by
  have := List.all_eq_true.1 h o (List.mem_of_getElem? (by simpa using hi))
  rw [e] at this; cases this
theorem ops_in {ops : List Oper} {Q : Exit → Act → World → Prop} (hQ : ¬ LetsOut Q) (hd : noDefer ops = true) : ∀ (l : List Nat) (a : Act) (w : World), wpOps P ops.toArray Q l a w → wpOpsIn (RF r) 0 P ops.toArray Q l a w
  | [], a, w, h => h
  | i :: l, a, w, h => by
    simp only [wpOps, wpOpsIn] at h ⊢
    cases ho : ops.toArray[i]? with
    | none => simp only [ho] at h ⊢; exact ops_in hQ hd l a w h
    | some o =>
      simp only [ho] at h ⊢
      split
      · rename_i hw
        rw [if_pos hw] at h
        refine ⟨fun _ _ => trivial, ?_⟩
        rw [Oper.semAt_eq _ _ _ (noDefer_spec hd ho)]
        rcases h with h | h
        · exact upon_in (fun a w h => ops_in hQ hd l a w h) h
        · exact (hQ h.2).elim
      · rename_i hw
        rw [if_neg hw] at h
        exact ⟨fun _ _ => trivial, ops_in hQ hd l _ w h⟩
/-- A part of a region, walked by the logic; then the rest. -/
theorem ops_at {l : List Oper} {Q1 : Act → World → Prop} {Q : Exit → Act → World → Prop} (hd : noDefer l = true) {q : Nat} : ∀ (m k : Nat) (a : Act) (w : World),
    wpList P l.toArray (onlyN Q1) ((l.drop k).take m) a w → (∀ a w, Q1 a w → wpOpsIn (RF r) 0 P l.toArray Q (List.range' (k + m) q) a w) → k + m ≤ l.length → wpOpsIn (RF r) 0 P l.toArray Q (List.range' k (m + q)) a w
  | 0, k, a, w, h, hq, _ => by
    have := hq a w (by simpa [wpList, onlyN] using h)
    simpa using this
  | m + 1, k, a, w, h, hq, hl => by
    have hlt : k < l.length := by omega
    have e1 : (l.drop k).take (m + 1) = l[k] :: (l.drop (k + 1)).take m := by rw [List.drop_eq_getElem_cons hlt, List.take_succ_cons]
    have e2 : List.range' k (m + 1 + q) = k :: List.range' (k + 1) (m + q) := by rw [show m + 1 + q = (m + q) + 1 by omega, List.range'_succ]
    have ho : l.toArray[k]? = some l[k] := by simp [hlt]
    rw [e1] at h
    rw [e2]
    have next : ∀ a w, wpList P l.toArray (onlyN Q1) ((l.drop (k + 1)).take m) a w → wpOpsIn (RF r) 0 P l.toArray Q (List.range' (k + 1) (m + q)) a w := fun a w h' =>
      ops_at hd m (k + 1) a w h' (by rw [show k + 1 + m = k + (m + 1) by omega]; exact hq) (by omega)
    simp only [wpList] at h
    simp only [wpOpsIn, ho]
    split
    · rename_i hw
      rw [if_pos hw] at h
      refine ⟨fun _ _ => trivial, ?_⟩
      rw [Oper.semAt_eq _ _ _ (noDefer_spec hd ho)]
      rcases h with h | h
      · exact upon_in' (fun c a w h => h.elim) (fun ⟨_, _, h⟩ => h.elim) next h
      · exact (onlyN_no h.2).elim
    · rename_i hw
      rw [if_neg hw] at h
      exact ⟨fun _ _ => trivial, next _ w h⟩
theorem SR.ofAtS {B : Base} {cx : Cx} {a : Act} {w : World} (hB : ∀ g, ¬ B.still g) {cx0 : Cx} {l0 : Nat → Option (List V)} {sd : Nat → Bool} {w1 : World} (h : SR (B.at cx0 l0 sd w1) n cx s σ a w) : SR B n cx s σ a w :=
  ⟨h.size, h.defers, h.nd, h.tmp, h.heap, h.box, h.ext, h.gnew, h.onew, fun g hg => (hB g hg).elim, fun g hg => (hB g hg).elim, fun _ _ _ hg => (hB _ hg).elim⟩
/-- Code in a round, from a state. -/
def AWR (P : Program) (n : Nat) (r : Option Nat) (c : Code) (Q : Exit → St → Hp → Prop) (s : St) (σ : Hp) : Prop :=
  ∀ (B : Base) (cx : Cx) (a : Act) (w : World), (∀ g, ¬ B.still g) → B.sd = (fun _ => false) → SR B n cx s σ a w → c.wpIn (RF r) 0 P (QC B n Q) a w
theorem AWR.mono {c : Code} (h : AWR P n r c Q s σ) (hq : ∀ e s σ, Q e s σ → Q' e s σ) : AWR P n r c Q' s σ :=
  fun B cx a w h1 h2 h3 => wpIn_mono (h B cx a w h1 h2 h3) fun e _ _ ⟨cx', s', σ', h4, h5⟩ => ⟨cx', s', σ', h4, hq e s' σ' h5⟩
theorem AWR.skip (h : Q .normal s σ) : AWR P n r .skip Q s σ := fun _ cx _ _ _ _ h3 => wpIn_skip ⟨cx, s, σ, h3, h⟩
theorem AWR.exit {id : Nat} (h : Q (.exit id) s σ) : AWR P n r (.exit id) Q s σ := fun _ cx _ _ _ _ h3 => wpIn_exit ⟨cx, s, σ, h3, h⟩
theorem AWR.ret (h : Q .ret s σ) : AWR P n r .ret Q s σ := fun _ cx _ _ _ _ h3 => wpIn_ret ⟨cx, s, σ, h3, h⟩
theorem AWR.seq {x y : Code} (h : AWR P n r x (thenS (AWR P n r y Q) Q) s σ) : AWR P n r (.seq x y) Q s σ :=
  fun B cx a w h1 h2 h3 => wpIn_seq (wpIn_mono (h B cx a w h1 h2 h3) fun e a' w' ⟨cx', s', σ', h4, h5⟩ => by
    cases e with
    | normal => exact h5 B cx' a' w' h1 h2 h4
    | _ => exact ⟨cx', s', σ', h4, h5⟩)
theorem AWR.seq_k {x y : Code} (h : ∀ K : St → Hp → Prop, (∀ s σ, AWR P n r y Q s σ → K s σ) → AWR P n r x (thenS K Q) s σ) : AWR P n r (.seq x y) Q s σ :=
  .seq (h _ fun _ _ h => h)
theorem AWR.cond {c : Operand} {x y : Code} {b : Bool} (hc : ev s c = .c (.bool b)) (ht : b = true → AWR P n r x Q s σ) (hf : b = false → AWR P n r y Q s σ) : AWR P n r (.cond c x y) Q s σ :=
  fun B cx a w h1 h2 h3 => by
    have hv := h3.tr c
    rw [hc] at hv
    exact wpIn_cond_split hv.c_eq (fun e => ht e B cx a w h1 h2 h3) (fun e => hf e B cx a w h1 h2 h3)
theorem AWR.block {id : Nat} {c : Code} (h : AWR P n r c (inBlockS id Q) s σ) : AWR P n r (.block id c) Q s σ :=
  fun B cx a w h1 h2 h3 => wpIn_block (wpIn_mono (h B cx a w h1 h2 h3) fun e a' w' ⟨cx', s', σ', h4, h5⟩ => by
    cases e with
    | exit id' =>
      simp only [Exit.inBlock, inBlockS] at h5 ⊢
      split
      · rename_i e; rw [if_pos e] at h5; exact ⟨cx', s', σ', h4, h5⟩
      · rename_i e; rw [if_neg e] at h5; exact ⟨cx', s', σ', h4, h5⟩
    | _ => exact ⟨cx', s', σ', h4, h5⟩)
theorem wpIn_onlyN {c : Code} {B : Base} {a : Act} {w : World} (h : c.wpIn (RF r) 0 P (onlyN fun a w => QC B n Q .normal a w) a w) : c.wpIn (RF r) 0 P (QC B n Q) a w :=
  wpIn_mono h fun e a w hq => by cases e <;> first | exact hq | exact hq.elim
theorem AWR.region (hT : T.ok P) (hsd : T.sd = fun _ => false) {id : Nat} {l : List Oper} (hd : noDefer l = true) (h : semL P T n (l.map (·.dst)) l (fun s σ => Q .normal s σ) s σ) : AWR P n r (.region id l.toArray false) Q s σ :=
  fun B cx a w _ h2 h3 => wpIn_onlyN (wpIn_region (ops_in onlyN_no hd _ _ _ (by
    have := semL_sound (Q := onlyN fun a w => QC B n Q .normal a w) hT (h2.trans hsd.symm) (ops := l.toArray) l h3 (fun a w ⟨cx, s, σ, h4, h5⟩ => ⟨cx, s, σ, h4, h5⟩) (by simpa using h)
    rw [List.range_eq_range', ← Array.length_toList, wpOps_eq_wpList l.toArray.toList 0 (by simp)]
    simpa using this)))
theorem AWR.reg0 {id : Nat} {l : List Oper} (h : noDefer l = true ∧ semL P {} n (l.map (·.dst)) l (fun s σ => Q .normal s σ) s σ) : AWR P n r (.region id l.toArray false) Q s σ :=
  .region (T := {}) (fun _ _ h => by cases h) rfl h.1 h.2
theorem region_heldR {id : Nat} {l : List Oper} {S : World → Prop} {Q : Exit → Act → World → Prop} {a : Act} {w : World} (hm : P.follows .mixedOrders = true) (hQ : ¬ LetsOut Q) (hd : noDefer l = true)
    (h : wpAnyH P .any l.toArray Q S l.toArray.size (Array.replicate l.toArray.size false) a { w with drawn := w.drawn + 1 }) : (Code.region id l.toArray true).wpIn (RF r) 0 P Q a w :=
  wpIn_region_draw fun t => ops_in hQ hd _ _ _ (by
    simp only [Region.schedule, hm, Bool.true_or, if_true]
    exact wpAny_sound _ t _ a _ (wpAny_of_held _ _ _ _ h))
/-- A region that draws its order, in a round. -/
theorem AWR.drawF (hT : T.ok P) (hm : P.follows .mixedOrders = true) {id : Nat} {l : List Oper} (t : Tf) (hlen : t.len = l.length) (hs : Region.noSelect l.toArray = true)
    (hB : (noDefer l && schedH P l t true (List.replicate l.length false)) = true) (h : semF P T n l (l.map (·.dst)) t (fun s σ => Q .normal s σ) s σ) : AWR P n r (.region id l.toArray true) Q s σ :=
  fun B cx a w h1 _ h3 => by
    rw [Bool.and_eq_true] at hB
    obtain ⟨hd, hB⟩ := hB
    have hB : schedG P l.toArray t true (Array.replicate l.length false) = true := by
      rw [schedH_eq _ _ _ _ _ (by simp)] at hB
      exact hB
    have h4 := h3.drew
    have h5 := h4.toAt T.sd
    refine wpIn_onlyN (region_heldR (S := stillW (B.at cx s.l T.sd w.drew)) hm onlyN_no hd ?_)
    have := semF_sound hT hs (Q := fun a w => QC B n Q .normal a w) (K := fun s σ => Q .normal s σ)
      t true (Array.replicate l.length false) (B := B.at cx s.l T.sd w.drew) rfl (fun a w ⟨cx', s', σ', h6, h7⟩ => ⟨cx', s', σ', h6.ofAtS h1, h7⟩) hB h5 (fun _ => ⟨fun g hg => .inl hg, fun d cells hd hl => .inr ⟨d, cells, hd, hl, rfl⟩⟩) (by simpa using h)
    rw [hlen] at this
    simpa using this
end
end Go.Abs
namespace Go.Abs
open Go
section
variable {P : Program} {n : Nat} {s : St} {σ : Hp}
/-- What is known of blocks that nobody writes, and nothing else. -/
def Cx.im (I : Nat → Prop) : Cx := ⟨I, fun _ => undef, fun _ => 0, 0, fun _ => 0⟩
theorem VR.ofIm {w : World} {I : Nat → Prop} {cx : Cx} {v : V} {x : Value} (h : VR w (Cx.im I) v x) (hI : ∀ g, I g → cx.I g) : VR w cx v x :=
  h.keep (fun _ _ => rfl) ⟨hI, Nat.zero_le _, fun k hk => absurd hk (Nat.not_lt_zero k), fun k hk => absurd hk (Nat.not_lt_zero k)⟩
/-- Values that hold nothing of a heap of one's own. -/
inductive Imm : V → Prop
  | c (x : Value) : Imm (.c x)
  | sl {es : List (List V)} (h : ∀ e : List V, e ∈ es → ∀ v : V, v ∈ e → Imm v) : Imm (.sl es)
  | ip {es : List (List V)} {i off : Nat} (h : ∀ e : List V, e ∈ es → ∀ v : V, v ∈ e → Imm v) : Imm (.ip es i off)
  | agg {vs : List V} (h : ∀ v : V, v ∈ vs → Imm v) : Imm (.agg vs)
theorem VR.toIm {w : World} {cx : Cx} {v : V} {x : Value} (h : VR w cx v x) (hv : Imm v) : VR w (Cx.im cx.I) v x := by
  induction h with
  | c x => exact .c x
  | nils => exact .nils
  | nile a => exact .nile a
  | sl f hb hcap hlen hc hr h1 ih =>
    cases hv with
    | sl h => exact .sl f hb hcap hlen hc (fun i e j v hi hj => ih i e j v hi hj (h e (List.mem_of_getElem? hi) v (List.mem_of_getElem? hj))) h1
  | ip f hb hi hlen hc hr h1 ih =>
    cases hv with
    | ip h => exact .ip f hb hi hlen hc (fun i e j v hi hj => ih i e j v hi hj (h e (List.mem_of_getElem? hi) v (List.mem_of_getElem? hj))) h1
  | gl hk hs => cases hv
  | gp hk hg => cases hv
  | agg h1 hn _ ih => cases hv with | agg h => exact .agg h1 hn (fun i v x hv hx => ih i v x hv hx (h v (List.mem_of_getElem? hv)))
  | tup hn _ ih => cases hv
  | fn hn _ hm _ ih1 ih2 => cases hv
/-- New blocks, and nothing else. -/
structure Newer (W W' : World) : Prop where
  os : W'.os = W.os
  tape : W'.tape = W.tape
  output : W'.output = W.output
  size : W.heap.size ≤ W'.heap.size
  block : ∀ g, g < W.heap.size → W'.heap[g]? = W.heap[g]?
theorem Newer.refl (W : World) : Newer W W := ⟨rfl, rfl, rfl, Nat.le_refl _, fun _ _ => rfl⟩
/-- More blocks that nobody writes. -/
def MoreI (I I' : Nat → Prop) (W W' : World) : Prop := (∀ g, I g → I' g) ∧ ∀ g, I' g → I g ∨ (W.heap.size ≤ g ∧ g < W'.heap.size)
/-- An iterator: it hands the elements 'xs', one by one, to whatever round: 'J i I W': between two rounds, i have come; 'Jx': a round has said no more. -/
def Iter (P : Program) (f : FuncId) (caps : List V) (xs : List V) : Prop :=
  (∀ (zs : Array Value) (w : World), (callFunc f zs).run P w = .ok (.enter f zs) w) ∧
  ∀ (l : Nat) (W0 : World) (I0 : Nat → Prop) (cv : List Value) (J : Nat → (Nat → Prop) → World → Prop) (Jx : World → Prop),
    VAs W0 (Cx.im I0) caps cv →
    (∀ i I W, J i I W → ∀ g, I g → g < W.heap.size) →
    (∀ i I W I' W', J i I W → Newer W W' → MoreI I I' W W' → J i I' W') →
    (∀ I W I' W', Jx W → Newer W W' → MoreI I I' W W' → Jx W') →
    (∀ i I W v x, J i I W → xs[i]? = some v → VR W (Cx.im I) v x → YieldAt Fence.wide 0 P l #[x] W fun e W' =>
      (e = .returned (.bool true) ∧ ∃ I', J (i + 1) I' W' ∧ (∀ g, I g → I' g ∧ W'.heap[g]? = W.heap[g]?)) ∨ (e = .returned (.bool false) ∧ Jx W')) →
    J 0 I0 W0 →
    CallsIn Fence.wide 0 P f (#[.func (.yield l) #[] #[]] ++ ⟨cv⟩) W0 fun e W' => (∃ v, e = .returned v) ∧ ((∃ I, J xs.length I W') ∨ Jx W')
def keepV : V → V
  | .c x => .c x
  | .sl es => .sl es
  | .ip es i o => .ip es i o
  | .fn f a b => .fn f a b
  | _ => .junk
/-- A frame that owns nothing. -/
def Base.it (cx : Cx) (w : World) : Base := { cx := cx, F := fun _ => False, w := w, g := fun _ => False, o := fun _ => False, nd := true }
theorem Base.it_Ext {cx : Cx} {w : World} : Ext cx (fun _ => False) w cx (foot cx Hp.empty fun _ => none) w :=
  ⟨rfl, rfl, rfl, Nat.le_refl _, fun _ _ _ => rfl, .refl _, fun _ h => .inl h, fun g hg => by
    rcases hg with hg | ⟨d, c, hd, _⟩
    · exact (own_empty hg).elim
    · cases hd⟩
theorem keepV_TR {w w' : World} {cx cx' : Cx} {v : V} {x : Value} (h : TR w cx v x) (hw : ∀ g, cx.I g → w'.heap[g]? = w.heap[g]?) (hle : cx.le cx') : TR w' cx' (keepV v) x := by
  cases h with
  | v h =>
    have h' := h.keep hw hle
    cases v <;> first | exact .v h' | exact .junk _
  | lp d off => exact .junk _
  | junk => exact .junk _
theorem SR.again {B : Base} {cx : Cx} {a : Act} {w W' : World} {I' : Nat → Prop} (h : SR B n cx s σ a w) (hnd : B.nd = true) (hI : ∀ g, cx.I g → I' g ∧ W'.heap[g]? = w.heap[g]?) (hlt : ∀ g, I' g → g < W'.heap.size) :
    SR (Base.it { cx with I := I' } W') n { cx with I := I' } ⟨fun t => keepV (s.t t), fun _ => none⟩ Hp.empty a W' := by
  have hle : cx.le { cx with I := I' } := ⟨fun g hg => (hI g hg).1, Nat.le_refl _, fun _ _ => rfl, fun _ _ => rfl⟩
  have hd := h.nd hnd
  refine ⟨h.size, by rw [hd]; exact Marks.nil, fun _ => hd, fun t => keepV_TR (h.tmp t) (fun g hg => (hI g hg).2) hle, ⟨fun g c hc => (by cases hc), fun k T es hk => (by cases hk), fun k k' x x' g hk => (by cases hk), fun k x g c hk => (by cases hk), fun g hg => (own_empty hg).elim, fun g hg => hlt g hg⟩,
    ⟨fun d c hd => (by cases hd), fun d c hd => (by cases hd), fun d e c c' hd => (by cases hd)⟩, Base.it_Ext, fun k x hk => (by cases hk), fun g x hk => (by cases hk), fun g hs => hs.elim, fun g hs => hs.elim, fun d c hd => (by cases hd)⟩
/-- What such a frame has done: new blocks alone. -/
theorem SR.newer {B : Base} {cx0 cx : Cx} {a : Act} {w W : World} (hB : B = Base.it cx0 W) (h : SR B n cx s σ a w) : Newer W w ∧ MoreI cx0.I cx.I W w := by
  subst hB
  have he := h.ext
  refine ⟨⟨he.os, he.tape, he.output, he.size, fun g hg => he.block g hg (fun h => h)⟩, fun g hg => he.le.I g hg, fun g hg => ?_⟩
  rcases he.inew g hg with h1 | h1 | h1
  · exact .inl h1
  · exact h1.elim
  · exact .inr ⟨h1, h.heap.ilt g hg⟩
/-- The frame, as it begins. -/
theorem SR.itBegin {W : World} {I : Nat → Prop} {args : List V} {xs : List Value} {k : Nat} (ha : VAs W (Cx.im I) args xs) (_l : args.length ≤ n) (hk : xs.length + k = n) (hlt : ∀ g, I g → g < W.heap.size) :
    SR (Base.it (Cx.im I) W) n (Cx.im I) (enterS args) Hp.empty { tmps := (⟨xs⟩ : Array Value) ++ Array.replicate k undef, defers := [] } W := by
  refine ⟨by simp; omega, Marks.nil, fun _ => rfl, fun t => ?_, ⟨fun g c hc => (by cases hc), fun k T es hk => (by cases hk), fun k k' x x' g hk => (by cases hk), fun k x g c hk => (by cases hk), fun g hg => (own_empty hg).elim, fun g hg => hlt g hg⟩,
    ⟨fun d c hd => (by cases hd), fun d c hd => (by cases hd), fun d e c c' hd => (by cases hd)⟩, Base.it_Ext, fun k x hk => (by cases hk), fun g x hk => (by cases hk), fun g hs => hs.elim, fun g hs => hs.elim, fun d c hd => (by cases hd)⟩
  show TR W _ (args.getD t .junk) _
  by_cases ht : t < args.length
  · have h1 : args[t]? = some args[t] := List.getElem?_eq_getElem ht
    have htx : t < xs.length := by rw [← ha.1]; exact ht
    have h2 : xs[t]? = some xs[t] := List.getElem?_eq_getElem htx
    have h3 := ha.2 t _ _ h1 h2
    have e1 : args.getD t .junk = args[t] := by simp [List.getD, h1]
    have e2 : ((⟨xs⟩ : Array Value) ++ Array.replicate k undef).getD t undef = xs[t] := by
      simp [Array.getD_eq_getD_getElem?, Array.getElem?_append, htx]
    rw [e1]
    show TR W _ _ (((⟨xs⟩ : Array Value) ++ Array.replicate k undef).getD t undef)
    rw [e2]
    exact .v h3
  · have e1 : args.getD t .junk = .junk := by simp [List.getD, List.getElem?_eq_none (Nat.le_of_not_lt ht)]
    rw [e1]; exact .junk _
/-- A plain region of such a frame. -/
theorem it_region {B : Base} {cx : Cx} {a : Act} {w : World} {K : St → Hp → Prop} {id : Nat} {l : List Oper} (h : SR B n cx s σ a w) (hsd : B.sd = fun _ => false) (hs : semL P {} n (l.map (·.dst)) l K s σ) :
    (Code.region id l.toArray false).wpIn Fence.wide 0 P (onlyN (KC B n K)) a w :=
  wpIn_wide.2 (wp_region_lit (semL_sound (Q := onlyN (KC B n K)) (T := {}) (fun _ _ h => by cases h) hsd (ops := l.toArray) l h (fun a w h => h) (by simpa using hs)))
/-- A part of a region. -/
theorem it_part {B : Base} {cx : Cx} {a : Act} {w : World} {K : St → Hp → Prop} {l : List Oper} (m k q : Nat) {Q : Exit → Act → World → Prop} (hd : noDefer l = true) (hl : k + m ≤ l.length) (h : SR B n cx s σ a w) (hsd : B.sd = fun _ => false)
    (hs : semL P {} n (l.map (·.dst)) ((l.drop k).take m) K s σ) (hq : ∀ a w, KC B n K a w → wpOpsIn Fence.wide 0 P l.toArray Q (List.range' (k + m) q) a w) : wpOpsIn Fence.wide 0 P l.toArray Q (List.range' k (m + q)) a w :=
  ops_at (r := none) hd m k a w (semL_sound (Q := onlyN (KC B n K)) (T := {}) (fun _ _ h => by cases h) hsd (ops := l.toArray) _ h (fun a w h => h) (by simpa using hs)) hq hl
/-- A call of yield. -/
theorem it_yield {ops : Array Oper} {i q l : Nat} {o : Oper} {f x : Operand} {a : Act} {w : World} {v : Value} {Q : Exit → Act → World → Prop} {R : Ending → World → Prop} (ho : ops[i]? = some o) (hg : o.guard = none) {tys : Array TypeId}
    (hop : o.op = .call { callee := .value f, args := #[x], argTypes := tys }) (hf : a.eval f = .func (.yield l) #[] #[]) (hx : a.eval x = v) (hy : YieldAt Fence.wide 0 P l #[v] w R)
    (hR : ∀ e w', R e w' → ∃ b : Bool, e = .returned (.bool b) ∧ wpOpsIn Fence.wide 0 P ops Q (List.range' (i + 1) q) (a.put o.dst (.bool b)) w') : wpOpsIn Fence.wide 0 P ops Q (List.range' i (q + 1)) a w := by
  obtain ⟨fn, tmps, assign, body, h1, h2⟩ := hy
  rw [List.range'_succ]
  simp only [wpOpsIn, ho]
  rw [if_pos (by simp [Region.wanted, hg])]
  refine ⟨fun _ _ => trivial, ?_⟩
  rw [Oper.semAt_eq _ _ _ (by rw [hop]; intro c e; cases e)]
  have key : ∀ ρ : Operand → Value, ρ f = .func (.yield l) #[] #[] → ρ x = v → (execOp ρ o).run P w = .ok (.round l fn tmps assign body) w := fun ρ hf hx => by
    unfold execOp
    rw [hop]
    simp only [resolve, hf]
    simp [go_sem, invoke, hx, h1]
  have hrun := key _ hf hx
  rw [hrun]
  refine ⟨fun e => (by cases e), h2.mono fun e w' he => ?_⟩
  obtain ⟨b, rfl, h3⟩ := hR e w' he
  exact h3
/-- Behind a round that has said no more: nothing is known but plain numbers. -/
def keepC : V → V
  | .c x => .c x
  | _ => .junk
theorem SR.stop {B : Base} {cx : Cx} {a : Act} {w : World} (W' : World) (h : SR B n cx s σ a w) (hnd : B.nd = true) :
    SR (Base.it { cx with I := fun _ => False } W') n { cx with I := fun _ => False } ⟨fun t => keepC (s.t t), fun _ => none⟩ Hp.empty a W' := by
  have hd := h.nd hnd
  refine ⟨h.size, by rw [hd]; exact Marks.nil, fun _ => hd, fun t => ?_, ⟨fun g c hc => (by cases hc), fun k T es hk => (by cases hk), fun k k' x x' g hk => (by cases hk), fun k x g c hk => (by cases hk), fun g hg => (own_empty hg).elim, fun g hg => hg.elim⟩,
    ⟨fun d c hd => (by cases hd), fun d c hd => (by cases hd), fun d e c c' hd => (by cases hd)⟩, Base.it_Ext, fun k x hk => (by cases hk), fun g x hk => (by cases hk), fun g hs => hs.elim, fun g hs => hs.elim, fun d c hd => (by cases hd)⟩
  have ht := h.tmp t
  show TR W' _ (keepC (s.t t)) _
  generalize s.t t = v at ht
  generalize a.tmps.getD t undef = x at ht
  cases v with
  | c u => rw [ht.c_eq]; exact .v (.c u)
  | _ => exact .junk _
/-- The end of a function without results. -/
theorem SR.nothing {B : Base} {cx : Cx} {a : Act} {w : World} {fn : Func} (h : SR B n cx s σ a w) (hr : fn.results = #[]) : ∃ v, (results fn a.tmps).run P w = .ok v w := by
  obtain ⟨vs, ys, _, _, h5⟩ := resVs_run (P := P) (rs := []) (k := fun _ => True) h trivial
  exact ⟨_, results_run (rs := []) hr _ _ h5⟩
end
end Go.Abs
namespace Go.Abs
open Go Go.RowKit
section
variable {P : Program} {n : Nat} {s s' : St} {σ σ' : Hp} {B : Base} {cx cx' : Cx} {a a' : Act} {w w' : World}
/-- A round's base. -/
def Base.rnd (cx : Cx) (σ : Hp) (l : Nat → Option (List V)) (w : World) : Base :=
  { cx := cx, F := foot cx σ l, w := w, g := fun k => ∃ y, σ.gr k = some y, o := fun g => ∃ y, σ.obj g = some y, nd := true }
theorem SR.rebase (h : SR B n cx s σ a w) (hd : a.defers = []) : SR (Base.rnd cx σ s.l w) n cx s σ a w :=
  ⟨h.size, by rw [hd]; exact Marks.nil, fun _ => hd, h.tmp, h.heap, h.box, .refl _ _ _, fun k x hk => .inl ⟨x, hk⟩, fun g x hg => .inl ⟨x, hg⟩, fun g hs => hs.elim, fun g hs => hs.elim, fun d c _ hs => hs.elim⟩
/-- The round's frame, seen from the function's base. -/
theorem SR.compose (hB : B.plain) (hO : SR B n cx s σ a w) (hI : SR (Base.rnd cx σ s.l w) n cx' s' σ' a' w') : SR B n cx' s' σ' a' w' :=
  ⟨hI.size, by rw [hI.nd rfl]; exact Marks.nil, fun e => (by rw [hB.2] at e; cases e), hI.tmp, hI.heap, hI.box, hO.ext.trans hI.ext,
    fun k x hk => (hI.gnew k x hk).elim (fun ⟨y, hy⟩ => hO.gnew k y hy) (fun h1 => .inr (Nat.le_trans hO.ext.le.nm h1)),
    fun g x hk => (hI.onew g x hk).elim (fun ⟨y, hy⟩ => hO.onew g y hy) (fun h1 => .inr (Nat.le_trans hO.ext.size h1)),
    fun g hs => (hB.1 g hs).elim, fun g hs => (hB.1 g hs).elim, fun _ _ _ hs => (hB.1 _ hs).elim⟩
def plainS (s : St) : St := ⟨fun t => keepV (s.t t), fun _ => none⟩
theorem foot_none {g : Nat} {l : Nat → Option (List V)} (h : foot cx σ (fun _ => none) g) : foot cx σ l g := by
  rcases h with h | ⟨d, c, hd, _⟩
  · exact .inl h
  · cases hd
/-- The function's own frame, behind a round. -/
theorem SR.outer {s0 : St} (hB : B.plain) (hO : SR B n cx s0 σ a w) (hI : SR (Base.rnd cx σ s0.l w) n cx' s' σ' a' w') : SR B n cx' (plainS s0) σ' a w' := by
  have himm : ∀ g, cx.I g → w'.heap[g]? = w.heap[g]? := fun g hg => hI.ext.block g (hO.heap.ilt g hg) (hO.foot_apart hg)
  refine ⟨hO.size, (hO.defers.keep hI.ext).mono (fun g hg => foot_none hg) (fun g hg => .inl hg), hO.nd, fun t => keepV_TR (hO.tmp t) himm hI.ext.le, hI.heap, ⟨fun d c hd => (by cases hd), fun d c hd => (by cases hd), fun d e c c' hd => (by cases hd)⟩, ?_,
    fun k x hk => (hI.gnew k x hk).elim (fun ⟨y, hy⟩ => hO.gnew k y hy) (fun h1 => .inr (Nat.le_trans hO.ext.le.nm h1)),
    fun g x hk => (hI.onew g x hk).elim (fun ⟨y, hy⟩ => hO.onew g y hy) (fun h1 => .inr (Nat.le_trans hO.ext.size h1)),
    fun g hs => (hB.1 g hs).elim, fun g hs => (hB.1 g hs).elim, fun _ _ _ hs => (hB.1 _ hs).elim⟩
  have h := hO.ext.trans hI.ext
  exact ⟨h.os, h.tape, h.output, h.size, h.block, h.le, h.inew, fun g hg => h.fnew g (foot_none hg)⟩
theorem keepV_keepV (v : V) : keepV (keepV v) = keepV v := by cases v <;> rfl
/-- .. where the round's frame had boxes already. -/
theorem SR.outer2 {s0 s1 : St} {a1 : Act} (hB : B.plain) (hO : SR B n cx (plainS s0) σ a w) (hR : SR B n cx s1 σ a1 w) (hM : Marks cx (foot cx σ s1.l) B.w w a.defers) (hI : SR (Base.rnd cx σ s1.l w) n cx' s' σ' a' w') : SR B n cx' (plainS s0) σ' a w' := by
  have himm : ∀ g, cx.I g → w'.heap[g]? = w.heap[g]? := fun g hg => hI.ext.block g (hR.heap.ilt g hg) (hR.foot_apart hg)
  refine ⟨hO.size, (hM.keep hI.ext).mono (fun g hg => foot_none hg) (fun g hg => .inl hg), hO.nd, fun t => ?_, hI.heap, ⟨fun d c hd => (by cases hd), fun d c hd => (by cases hd), fun d e c c' hd => (by cases hd)⟩, ?_,
    fun k x hk => (hI.gnew k x hk).elim (fun ⟨y, hy⟩ => hO.gnew k y hy) (fun h1 => .inr (Nat.le_trans hO.ext.le.nm h1)),
    fun g x hk => (hI.onew g x hk).elim (fun ⟨y, hy⟩ => hO.onew g y hy) (fun h1 => .inr (Nat.le_trans hO.ext.size h1)),
    fun g hs => (hB.1 g hs).elim, fun g hs => (hB.1 g hs).elim, fun _ _ _ hs => (hB.1 _ hs).elim⟩
  · have := keepV_TR (hO.tmp t) himm hI.ext.le
    have e : keepV ((plainS s0).t t) = (plainS s0).t t := keepV_keepV _
    rw [e] at this; exact this
  · have h := hR.ext.trans hI.ext
    exact ⟨h.os, h.tape, h.output, h.size, h.block, h.le, h.inew, fun g hg => h.fnew g (foot_none hg)⟩
theorem plainS_plainS (s : St) : plainS (plainS s) = plainS s := by simp [plainS, keepV_keepV]
/-- New blocks came. -/
theorem SR.newBlocks {I' : Nat → Prop} (h : SR B n cx s σ a w) (hN : Newer w w') (hI : MoreI cx.I I' w w') : SR B n { cx with I := I' } s σ a w' :=
  h.grow ⟨hI.1, Nat.le_refl _, fun _ _ => rfl, fun _ _ => rfl⟩ rfl (fun g hg => hI.2 g hg) hN.os hN.tape hN.output hN.size hN.block
/-- How a round may be left. -/
def roundS (N : Hp → Prop) (X : Exit → Hp → Prop) : Exit → St → Hp → Prop
  | .normal, _, σ => N σ
  | .ret, _, σ => X .ret σ
  | .exit id, _, σ => X (.exit id) σ
  | _, _, _ => False
def jumpOf : Exit → Option Code
  | .ret => some .ret
  | .exit id => some (.exit id)
  | _ => none
/-- A block that is nobody's, kept in mind. -/
structure Free (B : Base) (cx : Cx) (σ : Hp) (l : Nat → Option (List V)) (w : World) (r : Nat) (o : Obj) : Prop where
  at' : w.heap[r]? = some o
  new : B.w.heap.size ≤ r
  foot : ¬ foot cx σ l r
  imm : ¬ cx.I r
theorem Free.keep {l l' : Nat → Option (List V)} {r : Nat} {o : Obj} (h : Free B cx σ l w r o) (hx : Ext cx (Abs.foot cx σ l) w cx' (Abs.foot cx' σ' l') w') : Free B cx' σ' l' w' r o :=
  have hlt := lt_of_block h.at'
  ⟨(hx.block r hlt h.foot).trans h.at', h.new, fun hf => (hx.fnew r hf).elim h.foot (fun hs => by omega), fun hi => (hx.inew r hi).elim h.imm (fun h6 => h6.elim h.foot (fun hs => by omega))⟩
theorem Free.bare {l : Nat → Option (List V)} {r : Nat} {o : Obj} (h : Free B cx σ l w r o) : Free B cx σ (fun _ => none) w r o := ⟨h.at', h.new, fun hf => h.foot (foot_none hf), h.imm⟩
theorem Free.newBlocks {l : Nat → Option (List V)} {r : Nat} {o : Obj} {I' : Nat → Prop} (h : Free B cx σ l w r o) (hN : Newer w w') (hI : MoreI cx.I I' w w') : Free B { cx with I := I' } σ l w' r o :=
  have hlt := lt_of_block h.at'
  ⟨(hN.block r hlt).trans h.at', h.new, h.foot, fun hi => (hI.2 r hi).elim h.imm (fun hs => by omega)⟩
theorem Free.put {l : Nat → Option (List V)} {r q : Nat} {o o' : Obj} (h : Free B cx σ l w r o) (hne : r ≠ q) : Free B cx σ l (w.putObj q o') r o := ⟨(World.putObj_heap_other hne).trans h.at', h.new, h.foot, h.imm⟩
theorem Free.set {l : Nat → Option (List V)} {r : Nat} {o : Obj} (o' : Obj) (h : Free B cx σ l w r o) : Free B cx σ l (w.putObj r o') r o' := ⟨World.putObj_heap_same (lt_of_block h.at'), h.new, h.foot, h.imm⟩
/-- Such a block may turn, if it is no mark's. -/
theorem SR.turnF {r : Nat} {o o' : Obj} (hB : B.plain) (h : SR B n cx s σ a w) (hf : Free B cx σ s.l w r o) (hno : ∀ ds, o ≠ .deferred ds) : SR B n cx s σ a (w.putObj r o') :=
  h.turn hB hf.new hf.foot hf.imm ⟨h.defers.1, fun d hd => by
    obtain ⟨D, h1, h2, h3, h4, h5⟩ := h.defers.2 d hd
    exact ⟨D, h1, h2, (World.putObj_heap_other (fun e => by rw [e, hf.at'] at h3; injection h3 with h3; exact hno _ h3)).trans h3, h4, h5⟩⟩
theorem SR.pushMark {D : Nat} (hB : B.plain) (h : SR B n cx s σ a w) (hf : Free B cx σ s.l w D (.deferred (some []))) (hm : ∀ d ∈ a.defers, d ≠ { target := .collected D, args := #[] }) : SR B n cx s σ { a with defers := { target := .collected D, args := #[] } :: a.defers } w :=
  ⟨h.size, ⟨List.pairwise_cons.2 ⟨fun x hx e => hm x hx e.symm, h.defers.1⟩, fun d hd => by
    rcases List.mem_cons.1 hd with rfl | hd
    · exact ⟨D, rfl, hf.new, hf.at', hf.foot, hf.imm⟩
    · exact h.defers.2 d hd⟩, fun e => (by rw [hB.2] at e; cases e), h.tmp, h.heap, h.box, h.ext, h.gnew, h.onew, h.stab, h.stN, h.stS⟩
variable {T : Tab} {Q : Exit → St → Hp → Prop}
theorem AW.rangeFunc {g : Operand} {p : Tmp} {assign body : Code} {f : FuncId} {caps xs : List V} (hg : ev s g = .fn (.func f) [] caps) (hit : Iter P f caps xs) (himm : ∀ v : V, v ∈ caps → Imm v) (hp : p < n)
    (I : Nat → Hp → Prop) (X : Exit → Hp → Prop) (h0 : I 0 σ)
    (hround : ∀ (r : Nat) (i : Nat) (v : V) (σ' : Hp), xs[i]? = some v → I i σ' →
      AWR P n (some r) assign (fun e s1 σ1 => e = .normal ∧ AWR P n (some r) body (roundS (I (i + 1)) X) s1 σ1) ((plainS s).put p v) σ')
    (hdone : ∀ σ', I xs.length σ' → Q .normal (plainS s) σ') (hret : ∀ σ', X .ret σ' → Q .ret (plainS s) σ') (hexit : ∀ id σ', X (.exit id) σ' → Q (.exit id) (plainS s) σ') :
    AW P n (.rangeFunc g #[p] assign body) Q s σ := fun B cx a w hB hsd h => by
  refine wpIn_wide (n := 0) |>.1 (wpIn_rangeFunc fun fn _ => ?_)
  have hgv := h.tr g
  rw [hg] at hgv
  obtain ⟨xs0, ys, hav, hys⟩ : ∃ xs0 ys : List Value, a.eval g = .func (.func f) ⟨xs0⟩ ⟨ys⟩ ∧ xs0 = [] ∧ VAs w cx caps ys := by
    generalize a.eval g = gv at hgv
    cases hgv with
    | v hgv =>
      cases hgv with
      | @fn _ _ _ xs1 ys1 hn h1 hm h2 => exact ⟨xs1, ys1, rfl, List.eq_nil_of_length_eq_zero hn.symm, hm, h2⟩
  obtain ⟨rfl, hys⟩ := hys
  have hBw : B.w.heap.size ≤ w.heap.size := h.ext.size
  obtain ⟨rec, hrec⟩ : ∃ rec : LoopState → Option Code → Loop, rec = fun st pe => { state := st, pending := pe, fn, tmps := a.tmps, params := #[p], assign, body, defers := w.heap.size } := ⟨_, rfl⟩
  obtain ⟨W1, hW1⟩ : ∃ W1, (w.alloc (.deferred (some []))).alloc (.loop (rec .ready none)) = W1 := ⟨_, rfl⟩
  have hsz1 : W1.heap.size = w.heap.size + 2 := by rw [← hW1]; simp
  have hL1 : W1.heap[w.heap.size + 1]? = some (.loop (rec .ready none)) := by
    rw [← hW1]; have := World.alloc_heap_new (w.alloc (.deferred (some []))) (.loop (rec .ready none)); rwa [World.size_alloc] at this
  have hK1 : W1.heap[w.heap.size]? = some (.deferred (some [])) := by
    rw [← hW1]; exact (Below.heap_alloc _ _ _ (by simp)).trans (World.alloc_heap_new w _)
  have hN1 : Newer w W1 := by
    refine ⟨by rw [← hW1]; rfl, by rw [← hW1]; rfl, by rw [← hW1]; rfl, by omega, fun g hg => ?_⟩
    rw [← hW1]; exact (Below.heap_alloc _ _ _ (by simp; omega)).trans (Below.heap_alloc _ _ _ hg)
  have h1 : SR B n cx s σ a W1 := h.newBlocks hN1 ⟨fun _ h => h, fun _ h => .inl h⟩
  have h1b : SR B n cx (plainS s) σ a W1 := by
    refine ⟨h1.size, h1.defers.mono (fun g hg => foot_none hg) (fun g hg => .inl hg), h1.nd, fun t => keepV_TR (h1.tmp t) (fun _ _ => rfl) (.refl _), h1.heap, ⟨fun d c hd => (by cases hd), fun d c hd => (by cases hd), fun d e c c' hd => (by cases hd)⟩, ?_, h1.gnew, h1.onew, h1.stab, h1.stN, fun d c hd => (by cases hd)⟩
    have he := h1.ext
    exact ⟨he.os, he.tape, he.output, he.size, he.block, he.le, he.inew, fun g hg => he.fnew g (foot_none hg)⟩
  have nof : ∀ r, w.heap.size ≤ r → ¬ foot cx σ (fun _ => none) r := fun r hr hf => by
    have := h.foot_lt (foot_none (l := s.l) hf); omega
  have noI : ∀ r, w.heap.size ≤ r → ¬ cx.I r := fun r hr hi => by have := h.heap.ilt r hi; omega
  have hFL : Free B cx σ (fun _ => none) W1 (w.heap.size + 1) (.loop (rec .ready none)) := ⟨hL1, by omega, nof _ (by omega), noI _ (by omega)⟩
  have hFD : Free B cx σ (fun _ => none) W1 w.heap.size (.deferred (some [])) := ⟨hK1, by omega, nof _ (by omega), noI _ (by omega)⟩
  have hmk : ∀ d ∈ a.defers, d ≠ { target := .collected w.heap.size, args := #[] } := fun d hd e => by
    obtain ⟨D, k1, _, k3, _⟩ := h.defers.2 d hd
    rw [k1] at e
    injection e with e1
    injection e1 with e1
    have := lt_of_block k3
    omega
  refine ⟨w.heap.size + 1, [{ target := .collected w.heap.size, args := #[] }], W1, { target := .fn (.func f) ⟨ys⟩, args := #[.func (.yield (w.heap.size + 1)) #[] #[]] }, W1, f,
    #[.func (.yield (w.heap.size + 1)) #[] #[]] ++ ⟨ys⟩, W1, ?_, ?_, fun _ _ => trivial, ?_, fun e => (by cases e), ?_⟩
  · rw [← hW1, hrec]; exact run_enterLoop_outer _ _ _ _ _
  · simp only [resolve, hav]
    simp [go_sem]
  · simp [invoke, go_sem, hit.1]
  · have hVA : VAs W1 (Cx.im cx.I) caps ys := ⟨hys.1, fun i v x hv hx => ((hys.2 i v x hv hx).keep (fun g hg => hN1.block g (h.heap.ilt g hg)) (.refl _)).toIm (himm v (List.mem_of_getElem? hv))⟩
    refine (hit.2 (w.heap.size + 1) W1 cx.I ys
      (fun i I' W => ∃ cx' σ', cx'.I = I' ∧ SR B n cx' (plainS s) σ' a W ∧ I i σ' ∧ Free B cx' σ' (fun _ => none) W (w.heap.size + 1) (.loop (rec .ready none)) ∧ Free B cx' σ' (fun _ => none) W w.heap.size (.deferred (some [])))
      (fun W => ∃ e c cx' σ', jumpOf e = some c ∧ X e σ' ∧ SR B n cx' (plainS s) σ' a W ∧ Free B cx' σ' (fun _ => none) W (w.heap.size + 1) (.loop (rec .done (some c))) ∧ Free B cx' σ' (fun _ => none) W w.heap.size (.deferred (some [])))
      hVA ?_ ?_ ?_ ?_ ⟨cx, σ, rfl, h1b, h0, hFL, hFD⟩).mono ?_
    · rintro i I' W ⟨cx', σ', rfl, k1, _⟩ g hg
      exact k1.heap.ilt g hg
    · rintro i I' W I'' W' ⟨cx', σ', rfl, k1, k2, k3, k4⟩ hN hM
      exact ⟨{ cx' with I := I'' }, σ', rfl, k1.newBlocks hN hM, k2, k3.newBlocks hN hM, k4.newBlocks hN hM⟩
    · rintro I' W I'' W' ⟨e, c, cx', σ', k0, k2, k1, k3, k4⟩ hN _
      have hM : MoreI cx'.I cx'.I W W' := ⟨fun _ h => h, fun _ h => .inl h⟩
      exact ⟨e, c, cx', σ', k0, k2, k1.newBlocks hN hM, k3.newBlocks hN hM, k4.newBlocks hN hM⟩
    · -- one round
      rintro i I' W v x ⟨cx', σ', rfl, k1, k2, k3, k4⟩ hv hx
      have hx' : VR W cx' v x := hx.ofIm (fun _ h => h)
      have hy := run_yield (P := P) (args := #[x]) k3.at' (by rw [hrec]; rfl)
      rw [hrec] at hy
      refine ⟨fn, _, assign, body, hy, roundIn_of_wpIn trivial ?_⟩
      have e0 : ((#[p].zip #[x]).foldl (fun tmps (t, a) => tmps.setIfInBounds t a) a.tmps) = a.tmps.setIfInBounds p x := by simp
      rw [e0]
      have r0 : SR B n cx' (plainS s) σ' { tmps := a.tmps, defers := [] } W := ⟨k1.size, Marks.nil, fun _ => rfl, k1.tmp, k1.heap, k1.box, k1.ext, k1.gnew, k1.onew, k1.stab, k1.stN, k1.stS⟩
      have r1 : SR (Base.rnd cx' σ' (plainS s).l W) n cx' ((plainS s).put p v) σ' { tmps := a.tmps.setIfInBounds p x, defers := [] } W := (r0.rebase rfl).put hp (.v hx')
      refine wpIn_mono (hround (w.heap.size + 1) i v σ' hv k2 _ _ _ _ (fun g hs => hs) rfl r1) ?_
      rintro e a1 w1 ⟨cx1, s1, σ1, r2, rfl, hbody⟩
      have f3 : Free B cx1 σ1 s1.l w1 (w.heap.size + 1) (.loop (rec .ready none)) := k3.keep r2.ext
      have f4 : Free B cx1 σ1 s1.l w1 w.heap.size (.deferred (some [])) := k4.keep r2.ext
      have o1 : SR B n cx1 (plainS (plainS s)) σ1 a w1 := k1.outer hB r2
      rw [plainS_plainS] at o1
      have r3 : SR B n cx1 s1 σ1 a1 w1 := r0.compose hB r2
      refine ⟨_, run_beginRound f3.at' (by rw [hrec]), ?_⟩
      have r4 := r3.turnF (o' := .loop { rec .ready none with state := .busy }) hB f3 (fun ds e => by cases e)
      have f5 := f3.set (.loop { rec .ready none with state := .busy })
      have f6 : Free B cx1 σ1 s1.l (w1.putObj (w.heap.size + 1) (.loop { rec .ready none with state := .busy })) w.heap.size (.deferred (some [])) := f4.put (by omega)
      have o2 : SR B n cx1 (plainS s) σ1 a (w1.putObj (w.heap.size + 1) (.loop { rec .ready none with state := .busy })) := o1.turnF hB f3.bare (fun ds e => by cases e)
      have hd1 : a1.defers = [] := r2.nd rfl
      have m1 := k1.defers.keep r2.ext
      have m2 : Marks cx1 (foot cx1 σ1 s1.l) B.w (w1.putObj (w.heap.size + 1) (.loop { rec .ready none with state := .busy })) a.defers := ⟨m1.1, fun d hd => by
        obtain ⟨D, h1, h2, h3, h4, h5⟩ := m1.2 d hd
        exact ⟨D, h1, h2, (World.putObj_heap_other (fun e => by rw [e, f3.at'] at h3; injection h3 with h3; cases h3)).trans h3, h4, h5⟩⟩
      have r5 := r4.rebase hd1
      -- the outer frame beside the round's boxes
      refine wpIn_mono (hbody _ _ _ _ (fun g hs => hs) rfl r5) ?_
      rintro e2 a2 w3 ⟨cx2, s2, σ2, r6, hq⟩
      have g3 := f5.keep r6.ext
      have g4 := f6.keep r6.ext
      have o3 : SR B n cx2 (plainS s) σ2 a w3 := by
        exact o2.outer2 hB r4 m2 r6
      have hImm : ∀ g, cx'.I g → cx2.I g ∧ w3.heap[g]? = W.heap[g]? := fun g hg => by
        have t1 : cx1.I g := r2.ext.le.I g hg
        have b1 : w1.heap[g]? = W.heap[g]? := r2.ext.block g (k1.heap.ilt g hg) (k1.foot_apart hg)
        have ne : g ≠ w.heap.size + 1 := fun e => k3.imm (by rw [← e]; exact hg)
        have b2 := (World.putObj_heap_other (w := w1) (o := .loop { rec .ready none with state := .busy }) ne).trans b1
        exact ⟨r6.ext.le.I g t1, (r6.ext.block g (r4.heap.ilt g t1) (r4.foot_apart t1)).trans b2⟩
      have fin : ∀ jump : Option Code, (Instr.endRound (w.heap.size + 1) jump).run P w3 = .ok (.bool jump.isNone) (w3.putObj (w.heap.size + 1) (.loop (rec (if jump.isNone then .ready else .done) jump))) := fun jump => by
        have := run_endRound (P := P) jump g3.at'
        rw [hrec] at this ⊢
        exact this
      have done : ∀ st pe, SR B n cx2 (plainS s) σ2 a (w3.putObj (w.heap.size + 1) (.loop (rec st pe))) ∧ Free B cx2 σ2 (fun _ => none) (w3.putObj (w.heap.size + 1) (.loop (rec st pe))) (w.heap.size + 1) (.loop (rec st pe)) ∧ Free B cx2 σ2 (fun _ => none) (w3.putObj (w.heap.size + 1) (.loop (rec st pe))) w.heap.size (.deferred (some [])) := fun st pe =>
        ⟨o3.turnF hB g3.bare (fun ds e => by cases e), g3.bare.set _, g4.bare.put (by omega)⟩
      cases e2 with
      | normal =>
        obtain ⟨d1, d2, d3⟩ := done .ready none
        refine ⟨_, _, fin none, .inl ⟨rfl, cx2.I, ⟨cx2, σ2, rfl, d1, hq, d2, d3⟩, fun g hg => ⟨(hImm g hg).1, ?_⟩⟩⟩
        exact (World.putObj_heap_other (fun e => k3.imm (by rw [← e]; exact hg))).trans (hImm g hg).2
      | ret =>
        obtain ⟨d1, d2, d3⟩ := done .done (some .ret)
        exact ⟨_, _, fin (some .ret), .inr ⟨rfl, .ret, .ret, cx2, σ2, rfl, hq, d1, d2, d3⟩⟩
      | exit id =>
        obtain ⟨d1, d2, d3⟩ := done .done (some (.exit id))
        exact ⟨_, _, fin (some (.exit id)), .inr ⟨rfl, .exit id, .exit id, cx2, σ2, rfl, hq, d1, d2, d3⟩⟩
      | goto t => exact hq.elim
      | panic c => exact hq.elim
      | outgrown => exact hq.elim
    · -- behind the iterator
      have last : ∀ {cx' : Cx} {σ' : Hp} {W : World} {st : LoopState} {pe : Option Code}, st ≠ .busy → SR B n cx' (plainS s) σ' a W → Free B cx' σ' (fun _ => none) W (w.heap.size + 1) (.loop (rec st pe)) → Free B cx' σ' (fun _ => none) W w.heap.size (.deferred (some [])) →
          ∃ W', (Instr.endLoop (w.heap.size + 1)).run P W = .ok pe W' ∧ SR B n cx' (plainS s) σ' { a with defers := { target := .collected w.heap.size, args := #[] } :: a.defers } W' := fun {cx' σ' W st pe} hst k1 k3 k4 => by
        have := run_endLoop (P := P) k3.at' (by rw [hrec]; exact hst)
        refine ⟨_, by rw [hrec] at this; exact this, ?_⟩
        exact (k1.turnF hB k3 (fun ds e => by cases e)).pushMark hB (k4.put (by omega)) hmk
      rintro e W2 ⟨⟨v, rfl⟩, (⟨I', cx', σ', _, k1, k2, k3, k4⟩ | ⟨e, c, cx', σ', k0, k2, k1, k3, k4⟩)⟩
      · obtain ⟨W', m1, m2⟩ := last (by decide) k1 k3 k4
        exact ⟨none, W', m1, ⟨cx', _, σ', m2, hdone σ' k2⟩⟩
      · obtain ⟨W', m1, m2⟩ := last (by decide) k1 k3 k4
        refine ⟨some c, W', m1, ?_⟩
        cases e with
        | ret => injection k0 with k0; subst k0; exact wpIn_ret ⟨cx', _, σ', m2, hret σ' k2⟩
        | exit id => injection k0 with k0; subst k0; exact wpIn_exit ⟨cx', _, σ', m2, hexit id σ' k2⟩
        | _ => cases k0
end
end Go.Abs
