import Derived.Test.YtmhamgllanihoaaRdc
namespace Go.Abs.M
open Go Go.Abs Go.Proofs
set_option maxRecDepth 20000
set_option linter.unusedSimpArgs false
set_option linter.unusedVariables false
theorem clone_grow (l : List Bd) (hl : ∀ b ∈ l, b.ev.attrs.length * 48 ≤ 140737488355328) (hn : l.length * 80 ≤ 140737488355328) : ACalls Try.prog 30 [.agg [.sl (l.map encBd)]] Hp.empty (fun v σ' => (l = [] ∧ v = .agg [.c (.slice none 0 0)] ∧ σ' = Hp.empty) ∨ ∃ k, l ≠ [] ∧ v = .agg [.gl k] ∧ σ' = hpB k l) := by
  refine ACalls.introR Try.call30 Try.func30 rfl Try.ntmps30 Try.results30 (by simp) ?_
  refine AW.seq_k fun K1 h1 => ?_
  all_goals refine AW.reg0 ?_
  all_goals iterate 2 (refine S.g rfl rfl fun K' k' => ?_; simp only [zz, reduceIte, Nat.reduceEqDiff, Nat.reduceLT, Nat.reduceLeDiff, Nat.reduceAdd, reduceCtorEq, Nat.reduceMul, ok24, sz24, ag24, zt24]; refine k' _ _ ?_; clear k' K')
  all_goals refine S.nil ?_
  all_goals simp only [ze, reduceIte, Nat.reduceEqDiff, Nat.reduceLT, Nat.reduceLeDiff, Nat.reduceAdd, reduceCtorEq, Nat.reduceMul]
  all_goals apply_assumption
  refine AW.seq_k fun K2 h2 => ?_
  all_goals refine AW.reg0 ?_
  all_goals (refine S.g rfl rfl fun K' k' => ?_; simp only [zz, reduceIte, Nat.reduceEqDiff, Nat.reduceAdd]; refine k' _ _ ?_; clear k' K')
  all_goals refine S.nil ?_
  all_goals simp only [ze, reduceIte, Nat.reduceEqDiff, Nat.reduceLT, Nat.reduceLeDiff, Nat.reduceAdd, reduceCtorEq, Nat.reduceMul]
  all_goals apply_assumption
  refine AW.seq_k fun K3 h3 => ?_
  refine AW.seq_k fun K4 h4 => ?_
  all_goals refine AW.reg0 ?_
  all_goals iterate 4 (refine S.g rfl rfl fun K' k' => ?_; simp only [zz, reduceIte, Nat.reduceEqDiff, Nat.reduceLT, Nat.reduceLeDiff, Nat.reduceAdd, reduceCtorEq, Nat.reduceMul, of24_0, ok22, sz22, ag22, sl22, el22, ok42, sz42, ag42]; refine k' _ _ ?_; clear k' K')
  all_goals refine S.nil ?_
  all_goals simp only [ze, reduceIte, Nat.reduceEqDiff, Nat.reduceLT, Nat.reduceLeDiff, Nat.reduceAdd, reduceCtorEq, Nat.reduceMul]
  all_goals apply_assumption
  refine AW.block ?_   -- 0
  refine AW.loop (fun m s σ => ∃ i : Nat, m + i = l.length ∧ s.t 1 = .lp 1 0 ∧ s.l 1 = some [.sl (l.map encBd)] ∧ s.t 2 = .lp 2 0 ∧ s.l 2 = some [.c (.slice none 0 0)] ∧ s.t 7 = .sl (l.map encBd) ∧ s.t 8 = .c (.int .i64 l.length) ∧ s.t 9 = .c (.int .i64 i) ∧
    ((i = 0 ∧ s.t 3 = .c (.slice none 0 0) ∧ σ = Hp.empty) ∨ ∃ k, i ≠ 0 ∧ s.t 3 = .gl k ∧ σ = Hp.empty.setGr k (some ((42, 6), (l.take i).map encBd)))) l.length ?_ ?_
  · refine ⟨0, by simp, ?_⟩
    all_goals simp only [zs, reduceIte, Nat.reduceEqDiff, Nat.reduceLT, Nat.reduceLeDiff, Nat.reduceAdd, reduceCtorEq, Nat.reduceMul]
    simp
  rintro m s σ ⟨i, hm, e1, l1, e2, l2, e7, e8, e9, hk⟩
  refine AW.seq_k fun K5 h5 => ?_
  all_goals refine AW.reg0 ?_
  all_goals (refine S.g rfl rfl fun K' k' => ?_; simp only [zz, reduceIte, Nat.reduceEqDiff, Nat.reduceAdd, e9, e8]; refine k' _ _ ?_; clear k' K')
  all_goals refine S.nil ?_
  all_goals simp only [ze, reduceIte, Nat.reduceEqDiff, Nat.reduceLT, Nat.reduceLeDiff, Nat.reduceAdd, reduceCtorEq, Nat.reduceMul, e9, e8]
  all_goals apply_assumption
  refine AW.seq_k fun K6 h6 => ?_
  refine AW.cond (b := decide (i < l.length)) (by simp [ev]) (fun hc => ?_) (fun hc => ?_)
  · refine AW.skip ?_
    all_goals simp only [zs, reduceIte, Nat.reduceEqDiff, Nat.reduceLT, Nat.reduceLeDiff, Nat.reduceAdd, reduceCtorEq, Nat.reduceMul]
    all_goals apply_assumption
    have hi : i < l.length := by simpa using hc
    have hg := getD_map (f := encBd) hi
    have htk : l.take (i + 1) = l.take i ++ [l[i]] := by rw [List.take_append_getElem]
    have hmem := hl _ (List.getElem_mem hi)
    generalize ha : l[i] = a at hg htk hmem
    refine AW.seq_k fun K7 h7 => ?_
    refine AW.block ?_   -- 1
    refine AW.seq_k fun K8 h8 => ?_
    all_goals refine AW.reg0 ?_
    all_goals iterate 4 (refine S.g rfl rfl fun K' k' => ?_; simp only [zz, reduceIte, Nat.reduceEqDiff, Nat.reduceLT, Nat.reduceLeDiff, Nat.reduceAdd, reduceCtorEq, Nat.reduceMul, sl22, el22, ok42, sz42, ag42, zt42, e7, e9, hi, hg, encBd]; refine k' _ _ ?_; clear k' K')
    all_goals refine S.nil ?_
    all_goals simp only [ze, reduceIte, Nat.reduceEqDiff, Nat.reduceLT, Nat.reduceLeDiff, Nat.reduceAdd, reduceCtorEq, Nat.reduceMul, e7, e9, hi, hg, encBd]
    all_goals apply_assumption
    rcases hk with ⟨rfl, e3, rfl⟩ | ⟨k, hi0, e3, rfl⟩
    · skip
      all_goals refine AW.draw (T := { sd := fun d => d == 5 }) (fun _ _ h => by cases h) mixedO [(0, 0), (1, 0), (3, 0), (2, 1), (4, 1), (5, 2), (6, 0), (7, 2), (8, 2), (9, 0)] rfl (by kernel_rfl) (by kernel_rfl) ?_
      all_goals iterate 3 (refine D.g rfl trivial rfl rfl fun K' k' => ?_; simp only [zz, reduceIte, Nat.reduceEqDiff, Nat.reduceLT, Nat.reduceLeDiff, Nat.reduceAdd, reduceCtorEq, Nat.reduceMul, of42_0, of42_1, e3, encEv]; refine k' _ _ ?_; clear k' K')
      all_goals iterate 2 (refine D.g rfl (by first | rfl | (simp only [stC, ze, reduceIte, Nat.reduceEqDiff, e3, encEv]; done) | (simp only [stC, ze, reduceIte, Nat.reduceEqDiff, e3, encEv]; rfl)) rfl rfl fun K' k' => ?_; simp only [zz, reduceIte, Nat.reduceEqDiff, Nat.reduceLT, Nat.reduceLeDiff, Nat.reduceAdd, reduceCtorEq, Nat.reduceMul, ok9, sz9, ag9, ok36, sz36, ag36, e3, encEv]; refine k' _ _ ?_; clear k' K')
      all_goals (refine D.g rfl trivial rfl rfl fun K' k' => ?_; simp only [zz, reduceIte, Nat.reduceEqDiff, Nat.reduceLT, Nat.reduceLeDiff, Nat.reduceAdd, reduceCtorEq, Nat.reduceMul, e3, encEv]; refine PCalls.eqto (clone_ev _ (by assumption)) ?_ <;> (refine k' _ _ ?_; clear k' K'))
      all_goals (refine D.g rfl trivial rfl rfl fun K' k' => ?_; simp only [zz, reduceIte, Nat.reduceEqDiff, Nat.reduceLT, Nat.reduceLeDiff, Nat.reduceAdd, reduceCtorEq, Nat.reduceMul, zt42, pl42, e3, encEv]; refine k' _ _ ?_; clear k' K')
      all_goals (refine D.g rfl trivial rfl rfl fun K' k' => ?_; simp only [zb, reduceIte, Nat.reduceEqDiff, Nat.reduceLT, Nat.reduceLeDiff, Nat.reduceAdd, reduceCtorEq, Nat.reduceMul, sl22, el22, ok42, sz42, ag42, zt42, by42, e3, encEv]; refine k' _ _ ?_; clear k' K')
      all_goals (refine D.g rfl trivial rfl rfl fun K' k' => ?_; simp only [zz, reduceIte, Nat.reduceEqDiff, Nat.reduceLT, Nat.reduceLeDiff, Nat.reduceAdd, reduceCtorEq, Nat.reduceMul, sl22, el22, ok42, sz42, ag42, zt42, by42, e3, encEv]; refine ⟨len_bd [a], by unfold maxLen; omega, by unfold reach; omega, fun k2 hk2 => ?_⟩ <;> (refine k' _ _ ?_; clear k' K'))
      all_goals (refine D.g rfl trivial rfl rfl fun K' k' => ?_; simp only [zz, reduceIte, Nat.reduceEqDiff, Nat.reduceAdd, e3, encEv]; refine k' _ _ ?_; clear k' K')
      all_goals refine D.nil ?_
      all_goals simp only [ze, reduceIte, Nat.reduceEqDiff, Nat.reduceLT, Nat.reduceLeDiff, Nat.reduceAdd, reduceCtorEq, Nat.reduceMul, e3, encEv]
      all_goals apply_assumption
      have hw : IntKind.i64.wrap (((0 : Nat) : Int) + 1) = ((0 + 1 : Nat) : Int) := by rw [wrap_small _ (by omega) (by omega)]; rfl
      all_goals refine AW.reg0 ?_
      all_goals iterate 2 (refine S.g rfl rfl fun K' k' => ?_; simp only [zz, reduceIte, Nat.reduceEqDiff, Nat.reduceAdd, e9, hw, e1, e2, e7, e8, l1, l2]; refine k' _ _ ?_; clear k' K')
      all_goals refine S.nil ?_
      all_goals simp only [ze, reduceIte, Nat.reduceEqDiff, Nat.reduceLT, Nat.reduceLeDiff, Nat.reduceAdd, reduceCtorEq, Nat.reduceMul, e9, hw, e1, e2, e7, e8, l1, l2]
      refine ⟨m - 1, by omega, 1, by omega, rfl, .inr ⟨k2, by omega, rfl, ?_⟩⟩
      rw [show l.take 1 = [] ++ [a] from htk]; rfl
    · have htl : (l.take i).length = i := by rw [List.length_take]; omega
      all_goals refine AW.draw (T := { sd := fun d => d == 5 }) (fun _ _ h => by cases h) mixedO [(0, 0), (1, 0), (3, 0), (2, 1), (4, 1), (5, 2), (6, 0), (7, 2), (8, 2), (9, 0)] rfl (by kernel_rfl) (by kernel_rfl) ?_
      all_goals iterate 3 (refine D.g rfl trivial rfl rfl fun K' k' => ?_; simp only [zz, reduceIte, Nat.reduceEqDiff, Nat.reduceLT, Nat.reduceLeDiff, Nat.reduceAdd, reduceCtorEq, Nat.reduceMul, of42_0, of42_1, e3, encEv, htl]; refine k' _ _ ?_; clear k' K')
      all_goals iterate 2 (refine D.g rfl (by first | rfl | (simp only [stC, ze, reduceIte, Nat.reduceEqDiff, e3, encEv, htl]; done) | (simp only [stC, ze, reduceIte, Nat.reduceEqDiff, e3, encEv, htl]; rfl)) rfl rfl fun K' k' => ?_; simp only [zz, reduceIte, Nat.reduceEqDiff, Nat.reduceLT, Nat.reduceLeDiff, Nat.reduceAdd, reduceCtorEq, Nat.reduceMul, ok9, sz9, ag9, ok36, sz36, ag36, e3, encEv, htl]; refine k' _ _ ?_; clear k' K')
      all_goals (refine D.g rfl trivial rfl rfl fun K' k' => ?_; simp only [zz, reduceIte, Nat.reduceEqDiff, Nat.reduceLT, Nat.reduceLeDiff, Nat.reduceAdd, reduceCtorEq, Nat.reduceMul, e3, encEv, htl]; refine PCalls.eqto (clone_ev _ (by assumption)) ?_ <;> (refine k' _ _ ?_; clear k' K'))
      all_goals (refine D.g rfl trivial rfl rfl fun K' k' => ?_; simp only [zz, reduceIte, Nat.reduceEqDiff, Nat.reduceLT, Nat.reduceLeDiff, Nat.reduceAdd, reduceCtorEq, Nat.reduceMul, zt42, pl42, e3, encEv, htl]; refine k' _ _ ?_; clear k' K')
      all_goals (refine D.g rfl trivial rfl rfl fun K' k' => ?_; simp only [zb, reduceIte, Nat.reduceEqDiff, Nat.reduceLT, Nat.reduceLeDiff, Nat.reduceAdd, reduceCtorEq, Nat.reduceMul, sl22, el22, ok42, sz42, ag42, zt42, by42, e3, encEv, htl]; refine k' _ _ ?_; clear k' K')
      all_goals (refine D.g rfl trivial rfl rfl fun K' k' => ?_; simp only [zz, reduceIte, Nat.reduceEqDiff, Nat.reduceLT, Nat.reduceLeDiff, Nat.reduceAdd, reduceCtorEq, Nat.reduceMul, sl22, el22, ok42, sz42, ag42, zt42, by42, e3, encEv, htl]; refine ⟨len_bd [a], by unfold maxLen; omega, by unfold reach; omega, fun k2 hk2 => ?_⟩ <;> (refine k' _ _ ?_; clear k' K'))
      all_goals (refine D.g rfl trivial rfl rfl fun K' k' => ?_; simp only [zz, reduceIte, Nat.reduceEqDiff, Nat.reduceAdd, e3, encEv, htl]; refine k' _ _ ?_; clear k' K')
      all_goals refine D.nil ?_
      all_goals simp only [ze, reduceIte, Nat.reduceEqDiff, Nat.reduceLT, Nat.reduceLeDiff, Nat.reduceAdd, reduceCtorEq, Nat.reduceMul, e3, encEv, htl]
      all_goals apply_assumption
      have hw : IntKind.i64.wrap ((i : Int) + 1) = ((i + 1 : Nat) : Int) := by rw [wrap_small _ (by omega) (by omega)]; rfl
      all_goals refine AW.reg0 ?_
      all_goals iterate 2 (refine S.g rfl rfl fun K' k' => ?_; simp only [zz, reduceIte, Nat.reduceEqDiff, Nat.reduceAdd, e9, hw, e1, e2, e7, e8, l1, l2]; refine k' _ _ ?_; clear k' K')
      all_goals refine S.nil ?_
      all_goals simp only [ze, reduceIte, Nat.reduceEqDiff, Nat.reduceLT, Nat.reduceLeDiff, Nat.reduceAdd, reduceCtorEq, Nat.reduceMul, e9, hw, e1, e2, e7, e8, l1, l2]
      refine ⟨m - 1, by omega, i + 1, by omega, rfl, .inr ⟨k2, by omega, rfl, ?_⟩⟩
      rw [htk, List.map_append]
      simp [encBd]
  · refine AW.exit ?_
    all_goals simp only [zs, reduceIte, Nat.reduceEqDiff, Nat.reduceLT, Nat.reduceLeDiff, Nat.reduceAdd, reduceCtorEq, Nat.reduceMul]
    -- EXIT 0
    -- BEHIND THE LOOP
    all_goals apply_assumption
    have hi : l.length ≤ i := by simpa using hc
    rcases hk with ⟨rfl, e3, rfl⟩ | ⟨k, hi0, e3, rfl⟩
    · have h0 : l = [] := List.eq_nil_of_length_eq_zero (by omega)
      refine AW.seq_k fun K9 h9 => ?_
      all_goals refine AW.reg0 ?_
      all_goals (refine S.g rfl rfl fun K' k' => ?_; simp only [zz, reduceIte, Nat.reduceEqDiff, Nat.reduceAdd, e3, e2, l2]; refine k' _ _ ?_; clear k' K')
      all_goals (refine S.g rfl rfl fun K' k' => ?_; simp only [zz, reduceIte, Nat.reduceEqDiff, Nat.reduceLT, Nat.reduceLeDiff, Nat.reduceAdd, reduceCtorEq, Nat.reduceMul, zt24, pl24, e3, e2, l2]; refine k' _ _ ?_; clear k' K')
      all_goals (refine S.g rfl rfl fun K' k' => ?_; simp only [zz, reduceIte, Nat.reduceEqDiff, Nat.reduceLT, Nat.reduceLeDiff, Nat.reduceAdd, reduceCtorEq, Nat.reduceMul, ok24, sz24, ag24, e3, e2, l2]; refine k' _ _ ?_; clear k' K')
      all_goals refine S.nil ?_
      all_goals simp only [ze, reduceIte, Nat.reduceEqDiff, Nat.reduceLT, Nat.reduceLeDiff, Nat.reduceAdd, reduceCtorEq, Nat.reduceMul, e3, e2, l2]
      all_goals apply_assumption
      refine AW.ret ?_
      all_goals simp only [zs, reduceIte, Nat.reduceEqDiff, Nat.reduceLT, Nat.reduceLeDiff, Nat.reduceAdd, reduceCtorEq, Nat.reduceMul, qLoad, ok24, sz24, ag24, cut, List.drop_zero, List.take_succ_cons, List.take_zero, e2]
      exact .inl h0
    · rw [List.take_of_length_le hi]
      refine AW.seq_k fun K10 h10 => ?_
      all_goals refine AW.reg0 ?_
      all_goals (refine S.g rfl rfl fun K' k' => ?_; simp only [zz, reduceIte, Nat.reduceEqDiff, Nat.reduceAdd, e3, e2, l2]; refine k' _ _ ?_; clear k' K')
      all_goals (refine S.g rfl rfl fun K' k' => ?_; simp only [zz, reduceIte, Nat.reduceEqDiff, Nat.reduceLT, Nat.reduceLeDiff, Nat.reduceAdd, reduceCtorEq, Nat.reduceMul, zt24, pl24, e3, e2, l2]; refine k' _ _ ?_; clear k' K')
      all_goals (refine S.g rfl rfl fun K' k' => ?_; simp only [zz, reduceIte, Nat.reduceEqDiff, Nat.reduceLT, Nat.reduceLeDiff, Nat.reduceAdd, reduceCtorEq, Nat.reduceMul, ok24, sz24, ag24, e3, e2, l2]; refine k' _ _ ?_; clear k' K')
      all_goals refine S.nil ?_
      all_goals simp only [ze, reduceIte, Nat.reduceEqDiff, Nat.reduceLT, Nat.reduceLeDiff, Nat.reduceAdd, reduceCtorEq, Nat.reduceMul, e3, e2, l2]
      all_goals apply_assumption
      refine AW.ret ?_
      all_goals simp only [zs, reduceIte, Nat.reduceEqDiff, Nat.reduceLT, Nat.reduceLeDiff, Nat.reduceAdd, reduceCtorEq, Nat.reduceMul, qLoad, ok24, sz24, ag24, cut, List.drop_zero, List.take_succ_cons, List.take_zero, e2]
      exact .inr ⟨k, fun e => by subst e; simp at hm; omega, rfl, rfl⟩
end Go.Abs.M
namespace Go.Abs.M
open Go Go.Abs Go.Proofs
set_option maxRecDepth 20000
set_option linter.unusedSimpArgs false
set_option linter.unusedVariables false
def noPart : V := .tup [.agg [.sl []], .c (.bool false)]
/-- What Merge says, where 'p' is the two's bounds, sorted. -/
def mergeV (a b p : List Bd) : V := if partErr a ≠ 0 ∨ partErr b ≠ 0 then noPart else if partErr p ≠ 0 then noPart else .tup [.agg [.sl (p.map encBd)], .c (.bool true)]
theorem merge_gen (a b : List Bd) (ha : okP a) (hb : okP b) (hat : ∀ x ∈ a ++ b, x.ev.attrs.length * 48 ≤ 140737488355328) (G : List Bd → Prop) (hG : ∃ p, G p) (hne : a ++ b ≠ [])
    (hS : ¬ (partErr a ≠ 0 ∨ partErr b ≠ 0) → ∀ k, ACalls Try.prog 63 [.gl k, .fn (.func 64) [] []] (hpB k (a ++ b)) (fun v σ' => v = .tup [] ∧ ∃ p, okP p ∧ G p ∧ σ' = hpB k p)) :
    PCalls Try.prog 11 [.agg [.sl (a.map encBd)], .agg [.sl (b.map encBd)]] (fun v => ∃ p, G p ∧ v = mergeV a b p) := by
  refine PCalls.intro Try.call11 Try.func11 rfl Try.ntmps11 Try.results11 (by simp) ?_
  refine AW.seq_k fun K1 h1 => ?_
  all_goals refine AW.reg0 ?_
  all_goals iterate 4 (refine S.g rfl rfl fun K' k' => ?_; simp only [zz, reduceIte, Nat.reduceEqDiff, Nat.reduceLT, Nat.reduceLeDiff, Nat.reduceAdd, reduceCtorEq, Nat.reduceMul, ok24, sz24, ag24, zt24]; refine k' _ _ ?_; clear k' K')
  all_goals refine S.nil ?_
  all_goals simp only [ze, reduceIte, Nat.reduceEqDiff, Nat.reduceLT, Nat.reduceLeDiff, Nat.reduceAdd, reduceCtorEq, Nat.reduceMul]
  all_goals apply_assumption
  refine AW.seq_k fun K2 h2 => ?_
  refine AW.seq_j (fun s' σ' => σ' = Hp.empty ∧ s'.t 2 = .lp 2 0 ∧ s'.l 2 = some [.sl (a.map encBd)] ∧ s'.t 3 = .lp 3 0 ∧ s'.l 3 = some [.sl (b.map encBd)] ∧ s'.t 4 = .lp 4 0 ∧ s'.l 4 = some [.c (.slice none 0 0)] ∧ s'.t 14 = .c (.bool (decide (partErr a ≠ 0 ∨ partErr b ≠ 0)))) ?_ ?_
  · skip
    all_goals refine AW.reg0 ?_
    all_goals (refine S.g rfl rfl fun K' k' => ?_; simp only [zz, reduceIte, Nat.reduceEqDiff, Nat.reduceLT, Nat.reduceLeDiff, Nat.reduceAdd, reduceCtorEq, Nat.reduceMul, ok24, sz24, ag24]; refine k' _ _ ?_; clear k' K')
    all_goals (refine S.g rfl rfl fun K' k' => ?_; simp only [zz, reduceIte, Nat.reduceEqDiff, Nat.reduceLT, Nat.reduceLeDiff, Nat.reduceAdd, reduceCtorEq, Nat.reduceMul]; refine PCalls.eqto (check_part a ha) ?_ <;> (refine k' _ _ ?_; clear k' K'))
    all_goals (refine S.g rfl rfl fun K' k' => ?_; simp only [zz, reduceIte, Nat.reduceEqDiff, Nat.reduceLT, Nat.reduceLeDiff, Nat.reduceAdd, reduceCtorEq, Nat.reduceMul]; refine S.bool fun b a9 => ?_; cases b <;> (try (exfalso; first | exact Bool.noConfusion a9 | (have h := of_decide_eq_true a9; omega) | (have h := of_decide_eq_false a9; omega))) <;> (refine k' _ _ ?_; clear k' K'))
    all_goals (refine S.g rfl rfl fun K' k' => ?_; simp only [zz, reduceIte, Nat.reduceEqDiff, Nat.reduceAdd]; refine k' _ _ ?_; clear k' K')
    all_goals (first | (refine S.y rfl rfl rfl rfl fun K' k' => ?_; simp only [zz, reduceIte, Nat.reduceEqDiff, Nat.reduceLT, Nat.reduceLeDiff, Nat.reduceAdd, reduceCtorEq, Nat.reduceMul, ok24, sz24, ag24]; refine k' _ _ ?_; clear k' K') | ((first | refine S.x rfl rfl rfl rfl fun K' k' => ?_ | refine S.u rfl rfl rfl rfl fun K' k' => ?_); simp only [ze, reduceIte, Nat.reduceEqDiff]; refine k' _ _ ?_; clear k' K'))
    all_goals (first | (refine S.y rfl rfl rfl rfl fun K' k' => ?_; simp only [zz, reduceIte, Nat.reduceEqDiff, Nat.reduceLT, Nat.reduceLeDiff, Nat.reduceAdd, reduceCtorEq, Nat.reduceMul]; refine PCalls.eqto (check_part b hb) ?_ <;> (refine k' _ _ ?_; clear k' K')) | ((first | refine S.x rfl rfl rfl rfl fun K' k' => ?_ | refine S.u rfl rfl rfl rfl fun K' k' => ?_); simp only [ze, reduceIte, Nat.reduceEqDiff]; refine k' _ _ ?_; clear k' K'))
    all_goals (first | (refine S.y rfl rfl rfl rfl fun K' k' => ?_; simp only [zz, reduceIte, Nat.reduceEqDiff, Nat.reduceAdd]; refine k' _ _ ?_; clear k' K') | ((first | refine S.x rfl rfl rfl rfl fun K' k' => ?_ | refine S.u rfl rfl rfl rfl fun K' k' => ?_); simp only [ze, reduceIte, Nat.reduceEqDiff]; refine k' _ _ ?_; clear k' K'))
    all_goals (refine S.g rfl rfl fun K' k' => ?_; simp only [zz, reduceIte, Nat.reduceEqDiff, Nat.reduceAdd]; refine k' _ _ ?_; clear k' K')
    all_goals refine S.nil ?_
    all_goals simp only [ze, reduceIte, Nat.reduceEqDiff, Nat.reduceLT, Nat.reduceLeDiff, Nat.reduceAdd, reduceCtorEq, Nat.reduceMul]
    all_goals simp_all
    by_cases h0 : partErr b = 0 <;> simp [h0]
  rintro s σ ⟨rfl, e2, l2, e3, l3, e4, l4, e14⟩
  refine AW.cond (b := _) e14 (fun hc => ?_) (fun hc => ?_)
  · have hx := of_decide_eq_true hc
    refine AW.seq_k fun K3 h3 => ?_
    all_goals refine AW.reg0 ?_
    all_goals (refine S.g rfl rfl fun K' k' => ?_; simp only [zz, reduceIte, Nat.reduceEqDiff, Nat.reduceLT, Nat.reduceLeDiff, Nat.reduceAdd, reduceCtorEq, Nat.reduceMul, zt24, pl24, e4, l4]; refine k' _ _ ?_; clear k' K')
    all_goals iterate 2 (refine S.g rfl rfl fun K' k' => ?_; simp only [zz, reduceIte, Nat.reduceEqDiff, Nat.reduceLT, Nat.reduceLeDiff, Nat.reduceAdd, reduceCtorEq, Nat.reduceMul, ok24, sz24, ag24, e4, l4]; refine k' _ _ ?_; clear k' K')
    all_goals refine S.nil ?_
    all_goals simp only [ze, reduceIte, Nat.reduceEqDiff, Nat.reduceLT, Nat.reduceLeDiff, Nat.reduceAdd, reduceCtorEq, Nat.reduceMul, e4, l4]
    all_goals apply_assumption
    refine AW.ret ?_
    all_goals simp only [zs, reduceIte, Nat.reduceEqDiff, Nat.reduceLT, Nat.reduceLeDiff, Nat.reduceAdd, reduceCtorEq, Nat.reduceMul, qLoad, ok24, sz24, ag24, cut, List.drop_zero, List.take_succ_cons, List.take_zero, List.map, e4]
    obtain ⟨p0, hp0⟩ := hG
    refine ⟨p0, hp0, ?_⟩
    rw [mergeV, if_pos hx]; rfl
  · have hx := of_decide_eq_false hc
    refine AW.skip ?_
    all_goals simp only [zs, reduceIte, Nat.reduceEqDiff, Nat.reduceLT, Nat.reduceLeDiff, Nat.reduceAdd, reduceCtorEq, Nat.reduceMul]
    all_goals apply_assumption
    have hla : a.length ≤ 12 := by
      by_cases h : 12 < a.length
      · exact absurd (.inl (by simp [partErr, h])) hx
      · omega
    have hlb : b.length ≤ 12 := by
      by_cases h : 12 < b.length
      · exact absurd (.inr (by simp [partErr, h])) hx
      · omega
    have htot : tot [a, b] * 80 ≤ 140737488355328 := by simp only [tot, List.map_cons, List.map_nil, List.sum_cons, List.sum_nil]; omega
    have hlen : (a ++ b).length * 80 ≤ 140737488355328 := by rw [List.length_append]; omega
    have hfl : [a, b].flatten = a ++ b := by simp
    refine AW.seq_k fun K4 h4 => ?_
    all_goals refine AW.reg0 ?_
    all_goals iterate 4 (refine S.g rfl rfl fun K' k' => ?_; simp only [zz, reduceIte, Nat.reduceEqDiff, Nat.reduceLT, Nat.reduceLeDiff, Nat.reduceAdd, reduceCtorEq, Nat.reduceMul, of24_0, ok22, sz22, ag22, e2, l2, e3, l3, e4, l4, hfl]; refine k' _ _ ?_; clear k' K')
    all_goals (refine S.g rfl rfl fun K' k' => ?_; simp only [zb, reduceIte, Nat.reduceEqDiff, Nat.reduceLT, Nat.reduceLeDiff, Nat.reduceAdd, reduceCtorEq, Nat.reduceMul, sl132, el132, ok22, sz22, ag22, zt22, by22, e2, l2, e3, l3, e4, l4, hfl]; refine ⟨rfl, (by simp), ?_⟩ <;> (refine k' _ _ ?_; clear k' K'))
    all_goals (refine S.g rfl rfl fun K' k' => ?_; simp only [zz, reduceIte, Nat.reduceEqDiff, Nat.reduceLT, Nat.reduceLeDiff, Nat.reduceAdd, reduceCtorEq, Nat.reduceMul, e2, l2, e3, l3, e4, l4, hfl]; refine PCalls.eqto (concat_frozen [a, b] (by simp) (by simp) htot) ?_ <;> (refine k' _ _ ?_; clear k' K'))
    all_goals (refine S.g rfl rfl fun K' k' => ?_; simp only [zz, reduceIte, Nat.reduceEqDiff, Nat.reduceLT, Nat.reduceLeDiff, Nat.reduceAdd, reduceCtorEq, Nat.reduceMul, zt24, pl24, e2, l2, e3, l3, e4, l4, hfl]; refine k' _ _ ?_; clear k' K')
    all_goals (refine S.g rfl rfl fun K' k' => ?_; simp only [zz, reduceIte, Nat.reduceEqDiff, Nat.reduceLT, Nat.reduceLeDiff, Nat.reduceAdd, reduceCtorEq, Nat.reduceMul, e2, l2, e3, l3, e4, l4, hfl]; refine ((clone_grow (a ++ b) hat hlen).to fun v σ1 hv => ?_); obtain ⟨k, _, rfl, rfl⟩ := hv.resolve_left (fun h => hne h.1) <;> (refine k' _ _ ?_; clear k' K'))
    all_goals iterate 2 (refine S.g rfl rfl fun K' k' => ?_; simp only [zz, reduceIte, Nat.reduceEqDiff, Nat.reduceLT, Nat.reduceLeDiff, Nat.reduceAdd, reduceCtorEq, Nat.reduceMul, zt24, ok24, sz24, ag24, e2, l2, e3, l3, e4, l4, hfl]; refine k' _ _ ?_; clear k' K')
    all_goals refine S.nil ?_
    all_goals simp only [ze, reduceIte, Nat.reduceEqDiff, Nat.reduceLT, Nat.reduceLeDiff, Nat.reduceAdd, reduceCtorEq, Nat.reduceMul, e2, l2, e3, l3, e4, l4, hfl]
    all_goals apply_assumption
    refine AW.seq_k fun K5 h5 => ?_
    all_goals refine AW.reg0 ?_
    all_goals iterate 2 (refine S.g rfl rfl fun K' k' => ?_; simp only [zz, reduceIte, Nat.reduceEqDiff, Nat.reduceLT, Nat.reduceLeDiff, Nat.reduceAdd, reduceCtorEq, Nat.reduceMul, of24_0, ok22, sz22, ag22]; refine k' _ _ ?_; clear k' K')
    all_goals (refine S.g rfl rfl fun K' k' => ?_; simp only [zz, reduceIte, Nat.reduceEqDiff, Nat.reduceLT, Nat.reduceLeDiff, Nat.reduceAdd, reduceCtorEq, Nat.reduceMul]; refine (hS hx k).to fun v σ1 hv => ?_; obtain ⟨rfl, p, hpo, hgp, rfl⟩ := hv <;> (refine k' _ _ ?_; clear k' K'))
    all_goals refine S.nil ?_
    all_goals simp only [ze, reduceIte, Nat.reduceEqDiff, Nat.reduceLT, Nat.reduceLeDiff, Nat.reduceAdd, reduceCtorEq, Nat.reduceMul]
    all_goals apply_assumption
    refine AW.freeze (k := k) (T := (42, 6)) (es := p.map encBd) (by simp [hpB]) ?_
    have hem : (hpB k p).setGr k none = Hp.empty := by simp [hpB]
    rw [hem]
    refine AW.seq_j (fun s' σ' => σ' = Hp.empty ∧ s'.t 6 = .lp 6 0 ∧ s'.l 6 = some [.sl (p.map encBd)] ∧ s'.t 4 = .lp 4 0 ∧ s'.l 4 = some [.c (.slice none 0 0)] ∧ partErr p = 0) ?_ ?_
    · refine AW.seq_j (fun s' σ' => σ' = Hp.empty ∧ s'.t 6 = .lp 6 0 ∧ s'.l 6 = some [.sl (p.map encBd)] ∧ s'.t 4 = .lp 4 0 ∧ s'.l 4 = some [.c (.slice none 0 0)] ∧ s'.t 29 = .c (.bool (partErr p != 0))) ?_ ?_
      · skip
        all_goals refine AW.reg0 ?_
        all_goals (refine S.g rfl rfl fun K' k' => ?_; simp only [zz, reduceIte, Nat.reduceEqDiff, Nat.reduceLT, Nat.reduceLeDiff, Nat.reduceAdd, reduceCtorEq, Nat.reduceMul, ok24, sz24, ag24, St.fz_t, St.fz_l, fzV, fz1, Option.map_some, List.map, e4, l4]; refine k' _ _ ?_; clear k' K')
        all_goals (refine S.g rfl rfl fun K' k' => ?_; simp only [zz, reduceIte, Nat.reduceEqDiff, Nat.reduceLT, Nat.reduceLeDiff, Nat.reduceAdd, reduceCtorEq, Nat.reduceMul, St.fz_t, St.fz_l, fzV, fz1, Option.map_some, List.map, e4, l4]; refine PCalls.eqto (check_part p hpo) ?_ <;> (refine k' _ _ ?_; clear k' K'))
        all_goals (refine S.g rfl rfl fun K' k' => ?_; simp only [zz, reduceIte, Nat.reduceEqDiff, Nat.reduceAdd, St.fz_t, St.fz_l, fzV, fz1, Option.map_some, List.map, e4, l4]; refine k' _ _ ?_; clear k' K')
        all_goals refine S.nil ?_
        all_goals simp only [ze, reduceIte, Nat.reduceEqDiff, Nat.reduceLT, Nat.reduceLeDiff, Nat.reduceAdd, reduceCtorEq, Nat.reduceMul, St.fz_t, St.fz_l, fzV, fz1, Option.map_some, List.map, e4, l4]
      rintro s2 σ2 ⟨rfl, f6, k6, f4, k4, f29⟩
      refine AW.cond (b := partErr p != 0) f29 (fun hc2 => ?_) (fun hc2 => ?_)
      · have hy : partErr p ≠ 0 := by simpa using hc2
        refine AW.seq_k fun K6 h6 => ?_
        all_goals refine AW.reg0 ?_
        all_goals (refine S.g rfl rfl fun K' k' => ?_; simp only [zz, reduceIte, Nat.reduceEqDiff, Nat.reduceLT, Nat.reduceLeDiff, Nat.reduceAdd, reduceCtorEq, Nat.reduceMul, zt24, pl24, f4, k4]; refine k' _ _ ?_; clear k' K')
        all_goals iterate 2 (refine S.g rfl rfl fun K' k' => ?_; simp only [zz, reduceIte, Nat.reduceEqDiff, Nat.reduceLT, Nat.reduceLeDiff, Nat.reduceAdd, reduceCtorEq, Nat.reduceMul, ok24, sz24, ag24, f4, k4]; refine k' _ _ ?_; clear k' K')
        all_goals refine S.nil ?_
        all_goals simp only [ze, reduceIte, Nat.reduceEqDiff, Nat.reduceLT, Nat.reduceLeDiff, Nat.reduceAdd, reduceCtorEq, Nat.reduceMul, f4, k4]
        all_goals apply_assumption
        refine AW.ret ?_
        all_goals simp only [zs, reduceIte, Nat.reduceEqDiff, Nat.reduceLT, Nat.reduceLeDiff, Nat.reduceAdd, reduceCtorEq, Nat.reduceMul, qLoad, ok24, sz24, ag24, cut, List.drop_zero, List.take_succ_cons, List.take_zero, List.map, f4]
        refine ⟨p, hgp, ?_⟩
        rw [mergeV, if_neg hx, if_pos hy]; rfl
      · have hy : partErr p = 0 := by simpa using hc2
        refine AW.skip ?_
        all_goals simp only [zs, reduceIte, Nat.reduceEqDiff, Nat.reduceLT, Nat.reduceLeDiff, Nat.reduceAdd, reduceCtorEq, Nat.reduceMul]
        exact ⟨f6, k6, f4, k4, hy⟩
    rintro s2 σ2 ⟨rfl, f6, k6, f4, k4, hy⟩
    refine AW.seq_k fun K7 h7 => ?_
    all_goals refine AW.reg0 ?_
    all_goals iterate 3 (refine S.g rfl rfl fun K' k' => ?_; simp only [zz, reduceIte, Nat.reduceEqDiff, Nat.reduceLT, Nat.reduceLeDiff, Nat.reduceAdd, reduceCtorEq, Nat.reduceMul, ok24, sz24, ag24, f6, k6, f4, k4]; refine k' _ _ ?_; clear k' K')
    all_goals refine S.nil ?_
    all_goals simp only [ze, reduceIte, Nat.reduceEqDiff, Nat.reduceLT, Nat.reduceLeDiff, Nat.reduceAdd, reduceCtorEq, Nat.reduceMul, f6, k6, f4, k4]
    all_goals apply_assumption
    refine AW.ret ?_
    all_goals simp only [zs, reduceIte, Nat.reduceEqDiff, Nat.reduceLT, Nat.reduceLeDiff, Nat.reduceAdd, reduceCtorEq, Nat.reduceMul, qLoad, ok24, sz24, ag24, cut, List.drop_zero, List.take_succ_cons, List.take_zero, List.map, f4]
    refine ⟨p, hgp, ?_⟩
    rw [mergeV, if_neg hx, if_neg (fun e => e hy)]
end Go.Abs.M
namespace Go.Abs.M
open Go Go.Abs Go.Proofs
set_option maxRecDepth 20000
set_option linter.unusedSimpArgs false
set_option linter.unusedVariables false
/-- As many, and none that was not there. -/
def Sub (l0 l : List Bd) : Prop := l.length = l0.length ∧ ∀ x ∈ l, x ∈ l0
theorem Sub.refl (l : List Bd) : Sub l l := ⟨rfl, fun _ h => h⟩
theorem Sub.trans {a b c : List Bd} (h : Sub a b) (k : Sub b c) : Sub a c := ⟨k.1.trans h.1, fun x hx => h.2 x (k.2 x hx)⟩
theorem Sub.swap {l0 l : List Bd} {i j : Nat} {x y : Bd} (h : Sub l0 l) (hx : l[i]? = some x) (hy : l[j]? = some y) : Sub l0 ((l.set i y).set j x) := by
  refine ⟨by simp [h.1], fun z hz => ?_⟩
  rcases List.mem_or_eq_of_mem_set hz with hz | rfl
  · rcases List.mem_or_eq_of_mem_set hz with hz | rfl
    · exact h.2 z hz
    · exact h.2 _ (List.mem_of_getElem? hy)
  · exact h.2 _ (List.mem_of_getElem? hx)
def hpS (k : Nat) (l0 : List Bd) (v : V) (σ' : Hp) : Prop := v = .tup [] ∧ ∃ l', Sub l0 l' ∧ σ' = hpB k l'
theorem swapRange_weak (l0 : List Bd) (k a b n : Nat) (hab : a ≠ b) (ha : a + n ≤ l0.length) (hb : b + n ≤ l0.length) (hn : l0.length < 4611686018427387904) :
    ACalls Try.prog 159 [.gl k, .c (.int .i64 a), .c (.int .i64 b), .c (.int .i64 n), .fn (.func 64) [] []] (hpB k l0) (hpS k l0) := by
  refine ACalls.intro Try.call159 Try.func159 rfl Try.ntmps159 Try.results159 (by simp) ?_
  refine AW.seq_k fun K1 h1 => ?_
  all_goals refine AW.reg0 ?_
  all_goals (refine S.g rfl rfl fun K' k' => ?_; simp only [zz, reduceIte, Nat.reduceEqDiff, Nat.reduceAdd]; refine k' _ _ ?_; clear k' K')
  all_goals refine S.nil ?_
  all_goals simp only [ze, reduceIte, Nat.reduceEqDiff, Nat.reduceLT, Nat.reduceLeDiff, Nat.reduceAdd, reduceCtorEq, Nat.reduceMul]
  all_goals apply_assumption
  refine AW.block ?_   -- 0
  refine AW.loop (fun m s σ => ∃ i l', m + i = n ∧ s.t 0 = .gl k ∧ s.t 1 = .c (.int .i64 a) ∧ s.t 2 = .c (.int .i64 b) ∧ s.t 3 = .c (.int .i64 n) ∧ s.t 10 = .c (.int .i64 (i : Nat)) ∧
    σ = hpB k l' ∧ Sub l0 l') n ?_ ?_
  · refine ⟨0, l0, by omega, ?_⟩
    all_goals simp only [zs, reduceIte, Nat.reduceEqDiff, Nat.reduceLT, Nat.reduceLeDiff, Nat.reduceAdd, reduceCtorEq, Nat.reduceMul]
    exact ⟨rfl, Sub.refl _⟩
  rintro m s σ ⟨i, l', hm, e0, e1, e2, e3, e10, rfl, hl'⟩
  refine AW.seq_k fun K2 h2 => ?_
  refine AW.seq_k fun K3 h3 => ?_
  all_goals refine AW.reg0 ?_
  all_goals iterate 3 (refine S.g rfl rfl fun K' k' => ?_; simp only [zz, reduceIte, Nat.reduceEqDiff, Nat.reduceAdd, e10, e3]; refine k' _ _ ?_; clear k' K')
  all_goals refine S.nil ?_
  all_goals simp only [ze, reduceIte, Nat.reduceEqDiff, Nat.reduceLT, Nat.reduceLeDiff, Nat.reduceAdd, reduceCtorEq, Nat.reduceMul, e10, e3]
  all_goals apply_assumption
  refine AW.cond (b := decide (i < n)) (by simp [ev]) (fun hc => ?_) (fun hc => ?_)
  · refine AW.skip ?_
    all_goals simp only [zs, reduceIte, Nat.reduceEqDiff, Nat.reduceLT, Nat.reduceLeDiff, Nat.reduceAdd, reduceCtorEq, Nat.reduceMul]
    all_goals apply_assumption
    have hin : i < n := by simpa using hc
    have hj1 : a + i < l'.length := by rw [hl'.1]; omega
    have hj2 : b + i < l'.length := by rw [hl'.1]; omega
    have hg1 := getD_map (f := encBd) hj1
    have hg2 := getD_map (f := encBd) hj2
    have hx : l'[a+i]? = some l'[a+i] := List.getElem?_eq_getElem hj1
    have hy : l'[b+i]? = some l'[b+i] := List.getElem?_eq_getElem hj2
    generalize l'[a+i] = x at hg1 hx
    generalize l'[b+i] = y at hg2 hy
    have hsub := hl'.swap hx hy
    have hgs : ∀ v, ((l'.map encBd).set (a + i) v).getD (b + i) [] = encBd y := fun v => by
      rw [← hg2]; simp [List.getD, List.getElem?_set, hab]
    have hw1 : IntKind.i64.wrap ((a : Int) + i) = ((a + i : Nat) : Int) := by rw [wrap_small _ (by omega) (by omega)]; rfl
    have hw2 : IntKind.i64.wrap ((b : Int) + i) = ((b + i : Nat) : Int) := by rw [wrap_small _ (by omega) (by omega)]; rfl
    have hpb : hpB k l' = Hp.empty.setGr k (some ((42, 6), l'.map encBd)) := rfl
    rw [hpb]
    refine AW.seq_k fun K4 h4 => ?_
    refine AW.block ?_   -- 1
    refine AW.mono (Q := thenS (fun s' σ' => σ' = hpB k ((l'.set (a + i) y).set (b + i) x) ∧ s'.t 0 = .gl k ∧ s'.t 1 = .c (.int .i64 a) ∧ s'.t 2 = .c (.int .i64 b) ∧ s'.t 3 = .c (.int .i64 n) ∧ s'.t 10 = .c (.int .i64 (i : Nat))) (fun _ _ _ => False)) ?_ ?_
    · skip
      all_goals refine AW.draw2 (T := { sd := fun _ => false }) (fun _ _ h => by cases h) mixedO [(0, 0), (1, 0), (2, 0), (3, 0), (4, 0), (5, 0), (6, 0), (7, 0), (8, 0), (9, 0), (10, 0), (11, 0), (12, 0), (14, 0), (15, 0), (16, 0), (17, 0), (18, 0)] 13 19 [(20, 0), (21, 2), (22, 0), (23, 2)] #[true, true, true, true, true, true, true, true, true, true, true, true, true, false, true, true, true, true, true, false, false, false, false, false] rfl (by kernel_rfl) (by kernel_rfl) (by kernel_rfl) (by kernel_rfl) (by kernel_rfl) ?_
      all_goals iterate 18 (refine D.g rfl trivial rfl rfl fun K' k' => ?_; simp only [zz, reduceIte, Nat.reduceEqDiff, Nat.reduceLT, Nat.reduceLeDiff, Nat.reduceAdd, reduceCtorEq, Nat.reduceMul, sl22, el22, ok42, sz42, ag42, e0, e1, e2, e3, e10, hj1, hj2, hg1, hg2, hgs, hw1, hw2, encBd, List.length_set]; refine k' _ _ ?_; clear k' K')
      all_goals refine D.nil ⟨?_, ?_⟩
      all_goals iterate 6 (refine D.g rfl trivial rfl rfl fun K' k' => ?_; simp only [zz, reduceIte, Nat.reduceEqDiff, Nat.reduceLT, Nat.reduceLeDiff, Nat.reduceAdd, reduceCtorEq, Nat.reduceMul, ok42, sz42, ag42, sl22, el22, e0, e1, e2, e3, e10, hj1, hj2, hg1, hg2, hgs, hw1, hw2, encBd, List.length_set]; refine k' _ _ ?_; clear k' K')
      all_goals refine D.nil ?_
      all_goals simp only [ze, reduceIte, Nat.reduceEqDiff, Nat.reduceLT, Nat.reduceLeDiff, Nat.reduceAdd, reduceCtorEq, Nat.reduceMul, e0, e1, e2, e3, e10, hj1, hj2, hg1, hg2, hgs, hw1, hw2, encBd, List.length_set]
      all_goals simp [hpB, encBd, List.map_set]
    rintro e s4 σ4 hq
    cases e with
    | normal =>
      obtain ⟨rfl, q0, q1, q2, q3, q10⟩ := hq
      have hw : IntKind.i64.wrap ((i : Int) + 1) = ((i + 1 : Nat) : Int) := by rw [wrap_small _ (by omega) (by omega)]; rfl
      all_goals simp only [zs, reduceIte, Nat.reduceEqDiff, Nat.reduceLT, Nat.reduceLeDiff, Nat.reduceAdd, reduceCtorEq, Nat.reduceMul]
      all_goals apply_assumption
      all_goals refine AW.reg0 ?_
      all_goals iterate 3 (refine S.g rfl rfl fun K' k' => ?_; simp only [zz, reduceIte, Nat.reduceEqDiff, Nat.reduceAdd, q10, hw]; refine k' _ _ ?_; clear k' K')
      all_goals refine S.nil ?_
      all_goals simp only [ze, reduceIte, Nat.reduceEqDiff, Nat.reduceLT, Nat.reduceLeDiff, Nat.reduceAdd, reduceCtorEq, Nat.reduceMul, q10, hw]
      exact ⟨m - 1, by omega, i + 1, _, by omega, q0, q1, q2, q3, rfl, rfl, hsub⟩
    | _ => exact hq.elim
  · refine AW.exit ?_
    all_goals simp only [zs, reduceIte, Nat.reduceEqDiff, Nat.reduceLT, Nat.reduceLeDiff, Nat.reduceAdd, reduceCtorEq, Nat.reduceMul]
    exact ⟨rfl, l', hl', rfl⟩
theorem rotate_weak (l0 : List Bd) (k a m0 b : Nat) (ham : a < m0) (hmb : m0 < b) (hb : b ≤ l0.length) (hn : l0.length < 4611686018427387904) :
    ACalls Try.prog 147 [.gl k, .c (.int .i64 a), .c (.int .i64 m0), .c (.int .i64 b), .fn (.func 64) [] []] (hpB k l0) (hpS k l0) := by
  refine ACalls.intro Try.call147 Try.func147 rfl Try.ntmps147 Try.results147 (by simp) ?_
  have hw1 : IntKind.i64.wrap ((m0 : Int) - a) = ((m0 - a : Nat) : Int) := by rw [wrap_small _ (by omega) (by omega)]; omega
  have hw2 : IntKind.i64.wrap ((b : Int) - m0) = ((b - m0 : Nat) : Int) := by rw [wrap_small _ (by omega) (by omega)]; omega
  refine AW.seq_k fun K1 h1 => ?_
  all_goals refine AW.reg0 ?_
  all_goals iterate 4 (refine S.g rfl rfl fun K' k' => ?_; simp only [zz, reduceIte, Nat.reduceEqDiff, Nat.reduceAdd, hw1]; refine k' _ _ ?_; clear k' K')
  all_goals refine S.nil ?_
  all_goals simp only [ze, reduceIte, Nat.reduceEqDiff, Nat.reduceLT, Nat.reduceLeDiff, Nat.reduceAdd, reduceCtorEq, Nat.reduceMul, hw1]
  all_goals apply_assumption
  refine AW.seq_k fun K2 h2 => ?_
  all_goals refine AW.reg0 ?_
  all_goals iterate 4 (refine S.g rfl rfl fun K' k' => ?_; simp only [zz, reduceIte, Nat.reduceEqDiff, Nat.reduceAdd, hw2]; refine k' _ _ ?_; clear k' K')
  all_goals refine S.nil ?_
  all_goals simp only [ze, reduceIte, Nat.reduceEqDiff, Nat.reduceLT, Nat.reduceLeDiff, Nat.reduceAdd, reduceCtorEq, Nat.reduceMul, hw2]
  all_goals apply_assumption
  refine AW.seq_k fun K3 h3 => ?_
  refine AW.block ?_   -- 0
  refine AW.loop (fun m s σ => ∃ i j l', m = i + j ∧ 0 < i ∧ 0 < j ∧ i ≤ m0 ∧ m0 + j ≤ l0.length ∧ s.t 0 = .gl k ∧ s.t 2 = .c (.int .i64 m0) ∧ s.t 4 = .fn (.func 64) [] [] ∧ s.t 10 = .c (.int .i64 (i : Nat)) ∧ s.t 11 = .c (.int .i64 (j : Nat)) ∧
    σ = hpB k l' ∧ Sub l0 l') (m0 - a + (b - m0)) ?_ ?_
  · refine ⟨m0 - a, b - m0, l0, by omega, by omega, by omega, by omega, by omega, ?_⟩
    all_goals simp only [zs, reduceIte, Nat.reduceEqDiff, Nat.reduceLT, Nat.reduceLeDiff, Nat.reduceAdd, reduceCtorEq, Nat.reduceMul]
    exact ⟨rfl, fun _ h => h⟩
  rintro m s σ ⟨i, j, l', hm, hi0, hj0, him, hjm, e0, e2, e4, e10, e11, rfl, hl'⟩
  have hw3 : IntKind.i64.wrap ((m0 : Int) - i) = ((m0 - i : Nat) : Int) := by rw [wrap_small _ (by omega) (by omega)]; omega
  refine AW.seq_k fun K4 h4 => ?_
  refine AW.seq_k fun K5 h5 => ?_
  all_goals refine AW.reg0 ?_
  all_goals iterate 3 (refine S.g rfl rfl fun K' k' => ?_; simp only [zz, reduceIte, Nat.reduceEqDiff, Nat.reduceAdd, e10, e11]; refine k' _ _ ?_; clear k' K')
  all_goals refine S.nil ?_
  all_goals simp only [ze, reduceIte, Nat.reduceEqDiff, Nat.reduceLT, Nat.reduceLeDiff, Nat.reduceAdd, reduceCtorEq, Nat.reduceMul, e10, e11]
  all_goals apply_assumption
  refine AW.cond (b := (i : Int) != j) (by simp [ev]) (fun hc => ?_) (fun hc => ?_)
  · refine AW.skip ?_
    all_goals simp only [zs, reduceIte, Nat.reduceEqDiff, Nat.reduceLT, Nat.reduceLeDiff, Nat.reduceAdd, reduceCtorEq, Nat.reduceMul]
    all_goals apply_assumption
    refine AW.block ?_   -- 1
    refine AW.seq_k fun K6 h6 => ?_
    all_goals refine AW.reg0 ?_
    all_goals iterate 3 (refine S.g rfl rfl fun K' k' => ?_; simp only [zz, reduceIte, Nat.reduceEqDiff, Nat.reduceAdd, e10, e11]; refine k' _ _ ?_; clear k' K')
    all_goals refine S.nil ?_
    all_goals simp only [ze, reduceIte, Nat.reduceEqDiff, Nat.reduceLT, Nat.reduceLeDiff, Nat.reduceAdd, reduceCtorEq, Nat.reduceMul, e10, e11]
    all_goals apply_assumption
    refine AW.cond (b := decide ((i : Int) > j)) (by simp [ev]) (fun hd => ?_) (fun hd => ?_)
    · have hd := of_decide_eq_true hd
      have hw4 : IntKind.i64.wrap ((i : Int) - j) = ((i - j : Nat) : Int) := by rw [wrap_small _ (by omega) (by omega)]; omega
      refine AW.seq_k fun K7 h7 => ?_
      all_goals refine AW.reg0 ?_
      all_goals iterate 7 (refine S.g rfl rfl fun K' k' => ?_; simp only [zz, reduceIte, Nat.reduceEqDiff, Nat.reduceAdd, e0, e2, e4, e10, e11, hw3]; refine k' _ _ ?_; clear k' K')
      all_goals (refine S.g rfl rfl fun K' k' => ?_; simp only [zz, reduceIte, Nat.reduceEqDiff, Nat.reduceLT, Nat.reduceLeDiff, Nat.reduceAdd, reduceCtorEq, Nat.reduceMul, e0, e2, e4, e10, e11, hw3]; refine (swapRange_weak l' k (m0 - i) m0 j (by omega) (by rw [hl'.1]; omega) (by rw [hl'.1]; omega) (by rw [hl'.1]; omega)).to fun v σ1 hv => ?_; obtain ⟨rfl, l2, hl2, rfl⟩ := hv <;> (refine k' _ _ ?_; clear k' K'))
      all_goals refine S.nil ?_
      all_goals simp only [ze, reduceIte, Nat.reduceEqDiff, Nat.reduceLT, Nat.reduceLeDiff, Nat.reduceAdd, reduceCtorEq, Nat.reduceMul, e0, e2, e4, e10, e11, hw3]
      all_goals apply_assumption
      all_goals refine AW.reg0 ?_
      all_goals iterate 4 (refine S.g rfl rfl fun K' k' => ?_; simp only [zz, reduceIte, Nat.reduceEqDiff, Nat.reduceAdd, e10, e11, hw4]; refine k' _ _ ?_; clear k' K')
      all_goals refine S.nil ?_
      all_goals simp only [ze, reduceIte, Nat.reduceEqDiff, Nat.reduceLT, Nat.reduceLeDiff, Nat.reduceAdd, reduceCtorEq, Nat.reduceMul, e10, e11, hw4]
      exact ⟨m - j, by omega, i - j, j, l2, by omega, by omega, by omega, by omega, by omega, e0, e2, e4, rfl, rfl, rfl, hl'.trans hl2⟩
    · have hd := of_decide_eq_false hd
      have hne : i ≠ j := fun e => by subst e; simp at hc
      have hw5 : IntKind.i64.wrap ((m0 : Int) + j) = ((m0 + j : Nat) : Int) := by rw [wrap_small _ (by omega) (by omega)]; rfl
      have hw6 : IntKind.i64.wrap (((m0 + j : Nat) : Int) - i) = ((m0 + j - i : Nat) : Int) := by rw [wrap_small _ (by omega) (by omega)]; omega
      have hw4 : IntKind.i64.wrap ((j : Int) - i) = ((j - i : Nat) : Int) := by rw [wrap_small _ (by omega) (by omega)]; omega
      refine AW.seq_k fun K8 h8 => ?_
      all_goals refine AW.reg0 ?_
      all_goals iterate 11 (refine S.g rfl rfl fun K' k' => ?_; simp only [zz, reduceIte, Nat.reduceEqDiff, Nat.reduceAdd, e0, e2, e4, e10, e11, hw3, hw5, hw6]; refine k' _ _ ?_; clear k' K')
      all_goals (refine S.g rfl rfl fun K' k' => ?_; simp only [zz, reduceIte, Nat.reduceEqDiff, Nat.reduceLT, Nat.reduceLeDiff, Nat.reduceAdd, reduceCtorEq, Nat.reduceMul, e0, e2, e4, e10, e11, hw3, hw5, hw6]; refine (swapRange_weak l' k (m0 - i) (m0 + j - i) i (by omega) (by rw [hl'.1]; omega) (by rw [hl'.1]; omega) (by rw [hl'.1]; omega)).to fun v σ1 hv => ?_; obtain ⟨rfl, l2, hl2, rfl⟩ := hv <;> (refine k' _ _ ?_; clear k' K'))
      all_goals refine S.nil ?_
      all_goals simp only [ze, reduceIte, Nat.reduceEqDiff, Nat.reduceLT, Nat.reduceLeDiff, Nat.reduceAdd, reduceCtorEq, Nat.reduceMul, e0, e2, e4, e10, e11, hw3, hw5, hw6]
      all_goals apply_assumption
      all_goals refine AW.reg0 ?_
      all_goals iterate 4 (refine S.g rfl rfl fun K' k' => ?_; simp only [zz, reduceIte, Nat.reduceEqDiff, Nat.reduceAdd, e10, e11, hw4]; refine k' _ _ ?_; clear k' K')
      all_goals refine S.nil ?_
      all_goals simp only [ze, reduceIte, Nat.reduceEqDiff, Nat.reduceLT, Nat.reduceLeDiff, Nat.reduceAdd, reduceCtorEq, Nat.reduceMul, e10, e11, hw4]
      exact ⟨m - i, by omega, i, j - i, l2, by omega, by omega, by omega, by omega, by omega, e0, e2, e4, rfl, rfl, rfl, hl'.trans hl2⟩
  · refine AW.exit ?_
    all_goals simp only [zs, reduceIte, Nat.reduceEqDiff, Nat.reduceLT, Nat.reduceLeDiff, Nat.reduceAdd, reduceCtorEq, Nat.reduceMul]
    all_goals apply_assumption
    have hij : (i : Int) = j := by simpa using hc
    have hij : i = j := by omega
    all_goals refine AW.reg0 ?_
    all_goals iterate 7 (refine S.g rfl rfl fun K' k' => ?_; simp only [zz, reduceIte, Nat.reduceEqDiff, Nat.reduceAdd, e0, e2, e4, e10, hw3]; refine k' _ _ ?_; clear k' K')
    all_goals (refine S.g rfl rfl fun K' k' => ?_; simp only [zz, reduceIte, Nat.reduceEqDiff, Nat.reduceLT, Nat.reduceLeDiff, Nat.reduceAdd, reduceCtorEq, Nat.reduceMul, e0, e2, e4, e10, hw3]; refine (swapRange_weak l' k (m0 - i) m0 i (by omega) (by rw [hl'.1]; omega) (by rw [hl'.1]; omega) (by rw [hl'.1]; omega)).to fun v σ1 hv => ?_; obtain ⟨rfl, l2, hl2, rfl⟩ := hv <;> (refine k' _ _ ?_; clear k' K'))
    all_goals refine S.nil ?_
    all_goals simp only [ze, reduceIte, Nat.reduceEqDiff, Nat.reduceLT, Nat.reduceLeDiff, Nat.reduceAdd, reduceCtorEq, Nat.reduceMul, e0, e2, e4, e10, hw3]
    exact ⟨rfl, l2, hl'.trans hl2, rfl⟩
end Go.Abs.M
namespace Go.Abs.M
open Go Go.Abs Go.Proofs
set_option maxRecDepth 20000
set_option linter.unusedSimpArgs false
set_option linter.unusedVariables false
theorem half_u (n : Nat) (h : n < 9223372036854775808) : IntKind.u64.wrap (n : Int) = (n : Int) := by
  simp [IntKind.wrap, IntKind.signed, IntKind.bits]; omega
theorem half_s (n : Nat) : (n : Int).fdiv (2 ^ (min (Int.toNat 1) IntKind.u64.bits)) = ((n / 2 : Nat) : Int) := by
  have : (n : Int).fdiv 2 = (n : Int) / 2 := Int.fdiv_eq_ediv_of_nonneg _ (by decide)
  simp [IntKind.bits, this]
theorem get_bd {l : List Bd} {i : Nat} (h : i < l.length) : ∃ x, l[i]? = some x ∧ (l.map encBd).getD i [] = encBd x := ⟨l[i], List.getElem?_eq_getElem h, getD_map h⟩
theorem sym_one (l0 : List Bd) (k a m0 b : Nat) (ham : a + 1 = m0) (hmb : m0 < b) (hb : b ≤ l0.length) (hn : l0.length < 2147483648) :
    ACalls Try.prog 129 [.gl k, .c (.int .i64 a), .c (.int .i64 m0), .c (.int .i64 b), .fn (.func 64) [] []] (hpB k l0) (hpS k l0) := by
  refine ACalls.intro Try.call129 Try.func129 rfl Try.ntmps129 Try.results129 (by simp) ?_
  have hw1 : IntKind.i64.wrap ((m0 : Int) - a) = 1 := by rw [wrap_small _ (by omega) (by omega)]; omega
  refine AW.seq_k fun K1 h1 => ?_
  refine AW.seq_k fun K2 h2 => ?_
  all_goals refine AW.reg0 ?_
  all_goals iterate 4 (refine S.g rfl rfl fun K' k' => ?_; simp only [zz, reduceIte, Nat.reduceEqDiff, Nat.reduceAdd, hw1]; refine k' _ _ ?_; clear k' K')
  all_goals refine S.nil ?_
  all_goals simp only [ze, reduceIte, Nat.reduceEqDiff, Nat.reduceLT, Nat.reduceLeDiff, Nat.reduceAdd, reduceCtorEq, Nat.reduceMul, hw1]
  all_goals apply_assumption
  refine AW.cond (b := true) (by simp [ev]) (fun hc => ?_) (fun hc => by cases hc)
  refine AW.seq_k fun K3 h3 => ?_
  all_goals refine AW.reg0 ?_
  all_goals iterate 2 (refine S.g rfl rfl fun K' k' => ?_; simp only [zz, reduceIte, Nat.reduceEqDiff, Nat.reduceAdd]; refine k' _ _ ?_; clear k' K')
  all_goals refine S.nil ?_
  all_goals simp only [ze, reduceIte, Nat.reduceEqDiff, Nat.reduceLT, Nat.reduceLeDiff, Nat.reduceAdd, reduceCtorEq, Nat.reduceMul]
  all_goals apply_assumption
  refine AW.seq_k fun K4 h4 => ?_
  all_goals refine AW.reg0 ?_
  all_goals iterate 2 (refine S.g rfl rfl fun K' k' => ?_; simp only [zz, reduceIte, Nat.reduceEqDiff, Nat.reduceAdd]; refine k' _ _ ?_; clear k' K')
  all_goals refine S.nil ?_
  all_goals simp only [ze, reduceIte, Nat.reduceEqDiff, Nat.reduceLT, Nat.reduceLeDiff, Nat.reduceAdd, reduceCtorEq, Nat.reduceMul]
  all_goals apply_assumption
  refine AW.seq_j (fun s σ => ∃ i l', m0 ≤ i ∧ i ≤ b ∧ s.t 0 = .gl k ∧ s.t 1 = .c (.int .i64 a) ∧ s.t 10 = .c (.int .i64 (i : Nat)) ∧ σ = hpB k l' ∧ Sub l0 l') ?_ ?_
  · refine AW.block ?_   -- 0
    refine AW.loop (fun m s σ => ∃ i j, m = j - i ∧ m0 ≤ i ∧ i ≤ j ∧ j ≤ b ∧ s.t 0 = .gl k ∧ s.t 1 = .c (.int .i64 a) ∧ s.t 4 = .fn (.func 64) [] [] ∧ s.t 10 = .c (.int .i64 (i : Nat)) ∧ s.t 11 = .c (.int .i64 (j : Nat)) ∧ σ = hpB k l0) (b - m0) ?_ ?_
    · refine ⟨m0, b, rfl, by omega, by omega, by omega, ?_⟩
      all_goals simp only [zs, reduceIte, Nat.reduceEqDiff, Nat.reduceLT, Nat.reduceLeDiff, Nat.reduceAdd, reduceCtorEq, Nat.reduceMul]
    rintro m s σ ⟨i, j, hm, hi, hij, hj, e0, e1, e4, e10, e11, rfl⟩
    refine AW.seq_k fun K5 h5 => ?_
    refine AW.seq_k fun K6 h6 => ?_
    all_goals refine AW.reg0 ?_
    all_goals iterate 3 (refine S.g rfl rfl fun K' k' => ?_; simp only [zz, reduceIte, Nat.reduceEqDiff, Nat.reduceAdd, e10, e11]; refine k' _ _ ?_; clear k' K')
    all_goals refine S.nil ?_
    all_goals simp only [ze, reduceIte, Nat.reduceEqDiff, Nat.reduceLT, Nat.reduceLeDiff, Nat.reduceAdd, reduceCtorEq, Nat.reduceMul, e10, e11]
    all_goals apply_assumption
    refine AW.cond (b := decide (i < j)) (by simp [ev]) (fun hc => ?_) (fun hc => ?_)
    · refine AW.skip ?_
      all_goals simp only [zs, reduceIte, Nat.reduceEqDiff, Nat.reduceLT, Nat.reduceLeDiff, Nat.reduceAdd, reduceCtorEq, Nat.reduceMul]
      all_goals apply_assumption
      have hc := of_decide_eq_true hc
      have hw2 : IntKind.i64.wrap ((i : Int) + j) = ((i + j : Nat) : Int) := by rw [wrap_small _ (by omega) (by omega)]; rfl
      have hu := half_u (i + j) (by omega)
      have hs := half_s (i + j)
      have hw3 : IntKind.i64.wrap (((i + j) / 2 : Nat) : Int) = (((i + j) / 2 : Nat) : Int) := wrap_small _ (by omega) (by omega)
      have hh1 : i ≤ (i + j) / 2 := by omega
      have hh2 : (i + j) / 2 < j := by omega
      generalize (i + j) / 2 = h at *
      refine AW.block ?_   -- 1
      refine AW.seq_k fun K7 h7 => ?_
      all_goals refine AW.reg0 ?_
      all_goals iterate 7 (refine S.g rfl rfl fun K' k' => ?_; simp only [zz, reduceIte, Nat.reduceEqDiff, Nat.reduceAdd, cv3_130, cv130_3, e10, e11, hw2, hu, hs, hw3, Int.reduceLE]; refine k' _ _ ?_; clear k' K')
      all_goals refine S.nil ?_
      all_goals simp only [ze, reduceIte, Nat.reduceEqDiff, Nat.reduceLT, Nat.reduceLeDiff, Nat.reduceAdd, reduceCtorEq, Nat.reduceMul, e10, e11, hw2, hu, hs, hw3, Int.reduceLE]
      all_goals apply_assumption
      have hpb : (hpB k l0).gr k = some ((42, 6), l0.map encBd) := by simp [hpB]
      have hj1 : h < l0.length := by omega
      have hj2 : a < l0.length := by omega
      obtain ⟨x, hx, hg1⟩ := get_bd hj1
      obtain ⟨y, hy, hg2⟩ := get_bd hj2
      have hw4 : IntKind.i64.wrap ((h : Int) + 1) = ((h + 1 : Nat) : Int) := by rw [wrap_small _ (by omega) (by omega)]; rfl
      generalize hsg : hpB k l0 = σ0 at hpb ⊢
      refine AW.seq_j (fun s' σ' => σ' = σ0 ∧ s'.t 0 = .gl k ∧ s'.t 1 = .c (.int .i64 a) ∧ s'.t 4 = .fn (.func 64) [] [] ∧ s'.t 10 = .c (.int .i64 (i : Nat)) ∧ s'.t 11 = .c (.int .i64 (j : Nat)) ∧ s'.t 12 = .c (.int .i64 (h : Nat)) ∧ ∃ b, s'.t 50 = .c (.bool b)) ?_ ?_
      · skip
        all_goals refine AW.draw2 (T := { sd := fun _ => false }) (fun _ _ h => by cases h) mixedO [(0, 0), (1, 0), (2, 0), (3, 0), (5, 0), (6, 0), (7, 0)] 4 8 [(9, 2), (10, 0)] #[true, true, true, true, false, true, true, true, false, false, false] rfl (by kernel_rfl) (by kernel_rfl) (by kernel_rfl) (by kernel_rfl) (by kernel_rfl) ?_
        all_goals iterate 7 (refine D.g rfl trivial rfl rfl fun K' k' => ?_; simp only [zz, reduceIte, Nat.reduceEqDiff, Nat.reduceLT, Nat.reduceLeDiff, Nat.reduceAdd, reduceCtorEq, Nat.reduceMul, sl22, el22, ok42, sz42, ag42, e0, e1, e4, hpb, hj1, hj2, hg1, hg2, encBd]; refine k' _ _ ?_; clear k' K')
        all_goals refine D.nil ⟨?_, ?_⟩
        all_goals iterate 2 (refine D.g rfl trivial rfl rfl fun K' k' => ?_; simp only [zz, reduceIte, Nat.reduceEqDiff, Nat.reduceLT, Nat.reduceLeDiff, Nat.reduceAdd, reduceCtorEq, Nat.reduceMul, ok42, sz42, ag42, e0, e1, e4, hpb, hj1, hj2, hg1, hg2, encBd]; refine k' _ _ ?_; clear k' K')
        all_goals (refine D.g rfl trivial rfl rfl fun K' k' => ?_; simp only [zz, reduceIte, Nat.reduceEqDiff, Nat.reduceLT, Nat.reduceLeDiff, Nat.reduceAdd, reduceCtorEq, Nat.reduceMul, e0, e1, e4, hpb, hj1, hj2, hg1, hg2, encBd]; refine PCalls.eqto (less_spec x y) ?_ <;> (refine k' _ _ ?_; clear k' K'))
        all_goals (refine D.g rfl trivial rfl rfl fun K' k' => ?_; simp only [zz, reduceIte, Nat.reduceEqDiff, Nat.reduceAdd, e0, e1, e4, hpb, hj1, hj2, hg1, hg2, encBd]; refine k' _ _ ?_; clear k' K')
        all_goals refine D.nil ?_
        all_goals simp only [ze, reduceIte, Nat.reduceEqDiff, Nat.reduceLT, Nat.reduceLeDiff, Nat.reduceAdd, reduceCtorEq, Nat.reduceMul, e0, e1, e4, hpb, hj1, hj2, hg1, hg2, encBd]
        all_goals exact ⟨e10, e11, _, rfl⟩
      rintro s3 σ3 ⟨rfl, g0, g1, g4, g10, g11, g12, b2, g50⟩
      refine AW.cond (b := b2) g50 (fun hd => ?_) (fun hd => ?_)
      · skip
        all_goals refine AW.reg0 ?_
        all_goals iterate 3 (refine S.g rfl rfl fun K' k' => ?_; simp only [zz, reduceIte, Nat.reduceEqDiff, Nat.reduceAdd, g12, hw4]; refine k' _ _ ?_; clear k' K')
        all_goals refine S.nil ?_
        all_goals simp only [ze, reduceIte, Nat.reduceEqDiff, Nat.reduceLT, Nat.reduceLeDiff, Nat.reduceAdd, reduceCtorEq, Nat.reduceMul, g12, hw4]
        exact ⟨j - (h + 1), by omega, h + 1, j, rfl, by omega, by omega, hj, g0, g1, g4, rfl, g11⟩
      · skip
        all_goals refine AW.reg0 ?_
        all_goals iterate 2 (refine S.g rfl rfl fun K' k' => ?_; simp only [zz, reduceIte, Nat.reduceEqDiff, Nat.reduceAdd, g12]; refine k' _ _ ?_; clear k' K')
        all_goals refine S.nil ?_
        all_goals simp only [ze, reduceIte, Nat.reduceEqDiff, Nat.reduceLT, Nat.reduceLeDiff, Nat.reduceAdd, reduceCtorEq, Nat.reduceMul, g12]
        exact ⟨h - i, by omega, i, h, rfl, by omega, by omega, by omega, g0, g1, g4, g10, rfl⟩
    · refine AW.exit ?_
      all_goals simp only [zs, reduceIte, Nat.reduceEqDiff, Nat.reduceLT, Nat.reduceLeDiff, Nat.reduceAdd, reduceCtorEq, Nat.reduceMul]
      have hc := of_decide_eq_false hc
      exact ⟨i, l0, hi, by omega, e0, e1, e10, rfl, Sub.refl _⟩
  rintro s1 σ1 ⟨i, l1, hi, hib, f0, f1, f10, rfl, hs1⟩
  refine AW.seq_k fun K8 h8 => ?_
  refine AW.seq_k fun K9 h9 => ?_
  all_goals refine AW.reg0 ?_
  all_goals iterate 2 (refine S.g rfl rfl fun K' k' => ?_; simp only [zz, reduceIte, Nat.reduceEqDiff, Nat.reduceAdd, f1]; refine k' _ _ ?_; clear k' K')
  all_goals refine S.nil ?_
  all_goals simp only [ze, reduceIte, Nat.reduceEqDiff, Nat.reduceLT, Nat.reduceLeDiff, Nat.reduceAdd, reduceCtorEq, Nat.reduceMul, f1]
  all_goals apply_assumption
  have hw5 : IntKind.i64.wrap ((i : Int) - 1) = ((i - 1 : Nat) : Int) := by rw [wrap_small _ (by omega) (by omega)]; omega
  refine AW.block ?_   -- 2
  refine AW.loop (fun m s σ => ∃ q l', m + q = i - 1 ∧ a ≤ q ∧ s.t 0 = .gl k ∧ s.t 10 = .c (.int .i64 (i : Nat)) ∧ s.t 13 = .c (.int .i64 (q : Nat)) ∧ σ = hpB k l' ∧ Sub l0 l') (i - 1 - a) ?_ ?_
  · refine ⟨a, l1, by omega, by omega, ?_⟩
    all_goals simp only [zs, reduceIte, Nat.reduceEqDiff, Nat.reduceLT, Nat.reduceLeDiff, Nat.reduceAdd, reduceCtorEq, Nat.reduceMul]
    exact ⟨f0, f10, hs1⟩
  rintro m s σ ⟨q, l', hm, hq, e0, e10, e13, rfl, hs⟩
  refine AW.seq_k fun K10 h10 => ?_
  refine AW.seq_k fun K11 h11 => ?_
  all_goals refine AW.reg0 ?_
  all_goals iterate 4 (refine S.g rfl rfl fun K' k' => ?_; simp only [zz, reduceIte, Nat.reduceEqDiff, Nat.reduceAdd, e10, e13, hw5]; refine k' _ _ ?_; clear k' K')
  all_goals refine S.nil ?_
  all_goals simp only [ze, reduceIte, Nat.reduceEqDiff, Nat.reduceLT, Nat.reduceLeDiff, Nat.reduceAdd, reduceCtorEq, Nat.reduceMul, e10, e13, hw5]
  all_goals apply_assumption
  refine AW.cond (b := decide (q < i - 1)) (by simp [ev]) (fun hc => ?_) (fun hc => ?_)
  · refine AW.skip ?_
    all_goals simp only [zs, reduceIte, Nat.reduceEqDiff, Nat.reduceLT, Nat.reduceLeDiff, Nat.reduceAdd, reduceCtorEq, Nat.reduceMul]
    all_goals apply_assumption
    have hc := of_decide_eq_true hc
    have hw : IntKind.i64.wrap ((q : Int) + 1) = ((q + 1 : Nat) : Int) := by rw [wrap_small _ (by omega) (by omega)]; rfl
    have hl1 := hs.1
    have hj1 : q < l'.length := by omega
    have hj2 : q + 1 < l'.length := by omega
    obtain ⟨x, hx, hg1⟩ := get_bd hj1
    obtain ⟨y, hy, hg2⟩ := get_bd hj2
    have hsub := hs.swap hx hy
    have hgs : ∀ v, ((l'.map encBd).set q v).getD (q + 1) [] = encBd y := fun v => by
      rw [← hg2]; simp [List.getD, List.getElem?_set]
    have hpb : hpB k l' = Hp.empty.setGr k (some ((42, 6), l'.map encBd)) := rfl
    rw [hpb]
    refine AW.seq_k fun K12 h12 => ?_
    refine AW.block ?_   -- 3
    refine AW.mono (Q := thenS (fun s' σ' => σ' = hpB k ((l'.set q y).set (q + 1) x) ∧ s'.t 0 = .gl k ∧ s'.t 10 = .c (.int .i64 (i : Nat)) ∧ s'.t 13 = .c (.int .i64 (q : Nat))) (fun _ _ _ => False)) ?_ ?_
    · skip
      all_goals refine AW.draw2 (T := { sd := fun _ => false }) (fun _ _ h => by cases h) mixedO [(0, 0), (1, 0), (2, 0), (3, 0), (4, 0), (5, 0), (6, 0), (7, 0), (8, 0), (10, 0), (11, 0), (12, 0)] 9 13 [(14, 0), (15, 2), (16, 0), (17, 2)] #[true, true, true, true, true, true, true, true, true, false, true, true, true, false, false, false, false, false] rfl (by kernel_rfl) (by kernel_rfl) (by kernel_rfl) (by kernel_rfl) (by kernel_rfl) ?_
      all_goals iterate 12 (refine D.g rfl trivial rfl rfl fun K' k' => ?_; simp only [zz, reduceIte, Nat.reduceEqDiff, Nat.reduceLT, Nat.reduceLeDiff, Nat.reduceAdd, reduceCtorEq, Nat.reduceMul, sl22, el22, ok42, sz42, ag42, e0, e10, e13, hj1, hj2, hg1, hg2, hgs, hw, encBd, List.length_set]; refine k' _ _ ?_; clear k' K')
      all_goals refine D.nil ⟨?_, ?_⟩
      all_goals iterate 6 (refine D.g rfl trivial rfl rfl fun K' k' => ?_; simp only [zz, reduceIte, Nat.reduceEqDiff, Nat.reduceLT, Nat.reduceLeDiff, Nat.reduceAdd, reduceCtorEq, Nat.reduceMul, ok42, sz42, ag42, sl22, el22, e0, e10, e13, hj1, hj2, hg1, hg2, hgs, hw, encBd, List.length_set]; refine k' _ _ ?_; clear k' K')
      all_goals refine D.nil ?_
      all_goals simp only [ze, reduceIte, Nat.reduceEqDiff, Nat.reduceLT, Nat.reduceLeDiff, Nat.reduceAdd, reduceCtorEq, Nat.reduceMul, e0, e10, e13, hj1, hj2, hg1, hg2, hgs, hw, encBd, List.length_set]
      all_goals simp [hpB, encBd, List.map_set]
    rintro e s4 σ4 hq
    cases e with
    | normal =>
      obtain ⟨rfl, q0, q10, q13⟩ := hq
      all_goals simp only [zs, reduceIte, Nat.reduceEqDiff, Nat.reduceLT, Nat.reduceLeDiff, Nat.reduceAdd, reduceCtorEq, Nat.reduceMul]
      all_goals apply_assumption
      all_goals refine AW.reg0 ?_
      all_goals iterate 3 (refine S.g rfl rfl fun K' k' => ?_; simp only [zz, reduceIte, Nat.reduceEqDiff, Nat.reduceAdd, q13, hw]; refine k' _ _ ?_; clear k' K')
      all_goals refine S.nil ?_
      all_goals simp only [ze, reduceIte, Nat.reduceEqDiff, Nat.reduceLT, Nat.reduceLeDiff, Nat.reduceAdd, reduceCtorEq, Nat.reduceMul, q13, hw]
      exact ⟨m - 1, by omega, q + 1, _, by omega, by omega, q0, q10, rfl, rfl, hsub⟩
    | _ => exact hq.elim
  · refine AW.exit ?_
    all_goals simp only [zs, reduceIte, Nat.reduceEqDiff, Nat.reduceLT, Nat.reduceLeDiff, Nat.reduceAdd, reduceCtorEq, Nat.reduceMul]
    all_goals apply_assumption
    refine AW.ret ?_
    all_goals simp only [zs, reduceIte, Nat.reduceEqDiff, Nat.reduceLT, Nat.reduceLeDiff, Nat.reduceAdd, reduceCtorEq, Nat.reduceMul]
    exact ⟨rfl, l', hs, rfl⟩
end Go.Abs.M
namespace Go.Abs.M
open Go Go.Abs Go.Proofs
set_option maxRecDepth 20000
set_option linter.unusedSimpArgs false
set_option linter.unusedVariables false
theorem sym_two (l0 : List Bd) (k a m0 b : Nat) (ham : a + 1 < m0) (hmb : m0 + 1 = b) (hb : b ≤ l0.length) (hn : l0.length < 2147483648) :
    ACalls Try.prog 129 [.gl k, .c (.int .i64 a), .c (.int .i64 m0), .c (.int .i64 b), .fn (.func 64) [] []] (hpB k l0) (hpS k l0) := by
  refine ACalls.intro Try.call129 Try.func129 rfl Try.ntmps129 Try.results129 (by simp) ?_
  have hw1 : IntKind.i64.wrap ((m0 : Int) - a) = ((m0 - a : Nat) : Int) := by rw [wrap_small _ (by omega) (by omega)]; omega
  have hw2 : IntKind.i64.wrap ((b : Int) - m0) = 1 := by rw [wrap_small _ (by omega) (by omega)]; omega
  have h1 : (((m0 - a : Nat) : Int) == 1) = false := by simp; omega
  refine AW.seq_k fun K1 h1 => ?_
  refine AW.seq_k fun K2 h2 => ?_
  all_goals refine AW.reg0 ?_
  all_goals iterate 4 (refine S.g rfl rfl fun K' k' => ?_; simp only [zz, reduceIte, Nat.reduceEqDiff, Nat.reduceAdd, hw1, h1]; refine k' _ _ ?_; clear k' K')
  all_goals refine S.nil ?_
  all_goals simp only [ze, reduceIte, Nat.reduceEqDiff, Nat.reduceLT, Nat.reduceLeDiff, Nat.reduceAdd, reduceCtorEq, Nat.reduceMul, hw1, h1]
  all_goals apply_assumption
  refine AW.cond (b := false) (by simp [ev]; try omega) (fun hc => by cases hc) (fun hc => AW.skip ?_)
  all_goals simp only [zs, reduceIte, Nat.reduceEqDiff, Nat.reduceLT, Nat.reduceLeDiff, Nat.reduceAdd, reduceCtorEq, Nat.reduceMul]
  all_goals apply_assumption
  refine AW.seq_k fun K3 h3 => ?_
  refine AW.seq_k fun K4 h4 => ?_
  all_goals refine AW.reg0 ?_
  all_goals iterate 4 (refine S.g rfl rfl fun K' k' => ?_; simp only [zz, reduceIte, Nat.reduceEqDiff, Nat.reduceAdd, hw2]; refine k' _ _ ?_; clear k' K')
  all_goals refine S.nil ?_
  all_goals simp only [ze, reduceIte, Nat.reduceEqDiff, Nat.reduceLT, Nat.reduceLeDiff, Nat.reduceAdd, reduceCtorEq, Nat.reduceMul, hw2]
  all_goals apply_assumption
  refine AW.cond (b := true) (by simp [ev]) (fun hc => ?_) (fun hc => by cases hc)
  refine AW.seq_k fun K5 h5 => ?_
  all_goals refine AW.reg0 ?_
  all_goals iterate 2 (refine S.g rfl rfl fun K' k' => ?_; simp only [zz, reduceIte, Nat.reduceEqDiff, Nat.reduceAdd]; refine k' _ _ ?_; clear k' K')
  all_goals refine S.nil ?_
  all_goals simp only [ze, reduceIte, Nat.reduceEqDiff, Nat.reduceLT, Nat.reduceLeDiff, Nat.reduceAdd, reduceCtorEq, Nat.reduceMul]
  all_goals apply_assumption
  refine AW.seq_k fun K6 h6 => ?_
  all_goals refine AW.reg0 ?_
  all_goals iterate 2 (refine S.g rfl rfl fun K' k' => ?_; simp only [zz, reduceIte, Nat.reduceEqDiff, Nat.reduceAdd]; refine k' _ _ ?_; clear k' K')
  all_goals refine S.nil ?_
  all_goals simp only [ze, reduceIte, Nat.reduceEqDiff, Nat.reduceLT, Nat.reduceLeDiff, Nat.reduceAdd, reduceCtorEq, Nat.reduceMul]
  all_goals apply_assumption
  refine AW.seq_j (fun s σ => ∃ i l', a ≤ i ∧ i ≤ m0 ∧ s.t 0 = .gl k ∧ s.t 2 = .c (.int .i64 m0) ∧ s.t 14 = .c (.int .i64 (i : Nat)) ∧ σ = hpB k l' ∧ Sub l0 l') ?_ ?_
  · refine AW.block ?_   -- 0
    refine AW.loop (fun m s σ => ∃ i j, m = j - i ∧ a ≤ i ∧ i ≤ j ∧ j ≤ m0 ∧ s.t 0 = .gl k ∧ s.t 2 = .c (.int .i64 m0) ∧ s.t 4 = .fn (.func 64) [] [] ∧ s.t 14 = .c (.int .i64 (i : Nat)) ∧ s.t 15 = .c (.int .i64 (j : Nat)) ∧ σ = hpB k l0) (m0 - a) ?_ ?_
    · refine ⟨a, m0, rfl, by omega, by omega, by omega, ?_⟩
      all_goals simp only [zs, reduceIte, Nat.reduceEqDiff, Nat.reduceLT, Nat.reduceLeDiff, Nat.reduceAdd, reduceCtorEq, Nat.reduceMul]
    rintro m s σ ⟨i, j, hm, hi, hij, hj, e0, e2, e4, e10, e11, rfl⟩
    refine AW.seq_k fun K7 h7 => ?_
    refine AW.seq_k fun K8 h8 => ?_
    all_goals refine AW.reg0 ?_
    all_goals iterate 3 (refine S.g rfl rfl fun K' k' => ?_; simp only [zz, reduceIte, Nat.reduceEqDiff, Nat.reduceAdd, e10, e11]; refine k' _ _ ?_; clear k' K')
    all_goals refine S.nil ?_
    all_goals simp only [ze, reduceIte, Nat.reduceEqDiff, Nat.reduceLT, Nat.reduceLeDiff, Nat.reduceAdd, reduceCtorEq, Nat.reduceMul, e10, e11]
    all_goals apply_assumption
    refine AW.cond (b := decide (i < j)) (by simp [ev]) (fun hc => ?_) (fun hc => ?_)
    · refine AW.skip ?_
      all_goals simp only [zs, reduceIte, Nat.reduceEqDiff, Nat.reduceLT, Nat.reduceLeDiff, Nat.reduceAdd, reduceCtorEq, Nat.reduceMul]
      all_goals apply_assumption
      have hc := of_decide_eq_true hc
      have hw2 : IntKind.i64.wrap ((i : Int) + j) = ((i + j : Nat) : Int) := by rw [wrap_small _ (by omega) (by omega)]; rfl
      have hu := half_u (i + j) (by omega)
      have hs := half_s (i + j)
      have hw3 : IntKind.i64.wrap (((i + j) / 2 : Nat) : Int) = (((i + j) / 2 : Nat) : Int) := wrap_small _ (by omega) (by omega)
      have hh1 : i ≤ (i + j) / 2 := by omega
      have hh2 : (i + j) / 2 < j := by omega
      generalize (i + j) / 2 = h at *
      refine AW.block ?_   -- 1
      refine AW.seq_k fun K9 h9 => ?_
      all_goals refine AW.reg0 ?_
      all_goals iterate 7 (refine S.g rfl rfl fun K' k' => ?_; simp only [zz, reduceIte, Nat.reduceEqDiff, Nat.reduceAdd, cv3_130, cv130_3, e10, e11, hw2, hu, hs, hw3, Int.reduceLE]; refine k' _ _ ?_; clear k' K')
      all_goals refine S.nil ?_
      all_goals simp only [ze, reduceIte, Nat.reduceEqDiff, Nat.reduceLT, Nat.reduceLeDiff, Nat.reduceAdd, reduceCtorEq, Nat.reduceMul, e10, e11, hw2, hu, hs, hw3, Int.reduceLE]
      all_goals apply_assumption
      have hpb : (hpB k l0).gr k = some ((42, 6), l0.map encBd) := by simp [hpB]
      have hj1 : m0 < l0.length := by omega
      have hj2 : h < l0.length := by omega
      obtain ⟨x, hx, hg1⟩ := get_bd hj1
      obtain ⟨y, hy, hg2⟩ := get_bd hj2
      have hw4 : IntKind.i64.wrap ((h : Int) + 1) = ((h + 1 : Nat) : Int) := by rw [wrap_small _ (by omega) (by omega)]; rfl
      generalize hsg : hpB k l0 = σ0 at hpb ⊢
      refine AW.seq_j (fun s' σ' => σ' = σ0 ∧ s'.t 0 = .gl k ∧ s'.t 2 = .c (.int .i64 m0) ∧ s'.t 4 = .fn (.func 64) [] [] ∧ s'.t 14 = .c (.int .i64 (i : Nat)) ∧ s'.t 15 = .c (.int .i64 (j : Nat)) ∧ s'.t 16 = .c (.int .i64 (h : Nat)) ∧ ∃ b, s'.t 103 = .c (.bool b)) ?_ ?_
      · skip
        all_goals refine AW.draw2 (T := { sd := fun _ => false }) (fun _ _ h => by cases h) mixedO [(0, 0), (1, 0), (2, 0), (3, 0), (5, 0), (6, 0), (7, 0)] 4 8 [(9, 2), (10, 0), (11, 0)] #[true, true, true, true, false, true, true, true, false, false, false, false] rfl (by kernel_rfl) (by kernel_rfl) (by kernel_rfl) (by kernel_rfl) (by kernel_rfl) ?_
        all_goals iterate 7 (refine D.g rfl trivial rfl rfl fun K' k' => ?_; simp only [zz, reduceIte, Nat.reduceEqDiff, Nat.reduceLT, Nat.reduceLeDiff, Nat.reduceAdd, reduceCtorEq, Nat.reduceMul, sl22, el22, ok42, sz42, ag42, e0, e2, e4, hpb, hj1, hj2, hg1, hg2, encBd]; refine k' _ _ ?_; clear k' K')
        all_goals refine D.nil ⟨?_, ?_⟩
        all_goals iterate 2 (refine D.g rfl trivial rfl rfl fun K' k' => ?_; simp only [zz, reduceIte, Nat.reduceEqDiff, Nat.reduceLT, Nat.reduceLeDiff, Nat.reduceAdd, reduceCtorEq, Nat.reduceMul, ok42, sz42, ag42, e0, e2, e4, hpb, hj1, hj2, hg1, hg2, encBd]; refine k' _ _ ?_; clear k' K')
        all_goals (refine D.g rfl trivial rfl rfl fun K' k' => ?_; simp only [zz, reduceIte, Nat.reduceEqDiff, Nat.reduceLT, Nat.reduceLeDiff, Nat.reduceAdd, reduceCtorEq, Nat.reduceMul, e0, e2, e4, hpb, hj1, hj2, hg1, hg2, encBd]; refine PCalls.eqto (less_spec x y) ?_ <;> (refine k' _ _ ?_; clear k' K'))
        all_goals iterate 2 (refine D.g rfl trivial rfl rfl fun K' k' => ?_; simp only [zz, reduceIte, Nat.reduceEqDiff, Nat.reduceAdd, e0, e2, e4, hpb, hj1, hj2, hg1, hg2, encBd]; refine k' _ _ ?_; clear k' K')
        all_goals refine D.nil ?_
        all_goals simp only [ze, reduceIte, Nat.reduceEqDiff, Nat.reduceLT, Nat.reduceLeDiff, Nat.reduceAdd, reduceCtorEq, Nat.reduceMul, e0, e2, e4, hpb, hj1, hj2, hg1, hg2, encBd]
        all_goals exact ⟨e10, e11, _, rfl⟩
      rintro s3 σ3 ⟨rfl, g0, g2, g4, g10, g11, g12, b2, g50⟩
      refine AW.cond (b := b2) g50 (fun hd => ?_) (fun hd => ?_)
      · skip
        all_goals refine AW.reg0 ?_
        all_goals iterate 3 (refine S.g rfl rfl fun K' k' => ?_; simp only [zz, reduceIte, Nat.reduceEqDiff, Nat.reduceAdd, g12, hw4]; refine k' _ _ ?_; clear k' K')
        all_goals refine S.nil ?_
        all_goals simp only [ze, reduceIte, Nat.reduceEqDiff, Nat.reduceLT, Nat.reduceLeDiff, Nat.reduceAdd, reduceCtorEq, Nat.reduceMul, g12, hw4]
        exact ⟨j - (h + 1), by omega, h + 1, j, rfl, by omega, by omega, hj, g0, g2, g4, rfl, g11⟩
      · skip
        all_goals refine AW.reg0 ?_
        all_goals iterate 2 (refine S.g rfl rfl fun K' k' => ?_; simp only [zz, reduceIte, Nat.reduceEqDiff, Nat.reduceAdd, g12]; refine k' _ _ ?_; clear k' K')
        all_goals refine S.nil ?_
        all_goals simp only [ze, reduceIte, Nat.reduceEqDiff, Nat.reduceLT, Nat.reduceLeDiff, Nat.reduceAdd, reduceCtorEq, Nat.reduceMul, g12]
        exact ⟨h - i, by omega, i, h, rfl, by omega, by omega, by omega, g0, g2, g4, g10, rfl⟩
    · refine AW.exit ?_
      all_goals simp only [zs, reduceIte, Nat.reduceEqDiff, Nat.reduceLT, Nat.reduceLeDiff, Nat.reduceAdd, reduceCtorEq, Nat.reduceMul]
      have hc := of_decide_eq_false hc
      exact ⟨i, l0, hi, by omega, e0, e2, e10, rfl, Sub.refl _⟩
  rintro s1 σ1 ⟨i, l1, hi, hib, f0, f2, f10, rfl, hs1⟩
  refine AW.seq_k fun K10 h10 => ?_
  refine AW.seq_k fun K11 h11 => ?_
  all_goals refine AW.reg0 ?_
  all_goals iterate 2 (refine S.g rfl rfl fun K' k' => ?_; simp only [zz, reduceIte, Nat.reduceEqDiff, Nat.reduceAdd, f2]; refine k' _ _ ?_; clear k' K')
  all_goals refine S.nil ?_
  all_goals simp only [ze, reduceIte, Nat.reduceEqDiff, Nat.reduceLT, Nat.reduceLeDiff, Nat.reduceAdd, reduceCtorEq, Nat.reduceMul, f2]
  all_goals apply_assumption
  refine AW.block ?_   -- 2
  refine AW.loop (fun m s σ => ∃ q l', m = q ∧ i ≤ q ∧ q ≤ m0 ∧ s.t 0 = .gl k ∧ s.t 14 = .c (.int .i64 (i : Nat)) ∧ s.t 17 = .c (.int .i64 (q : Nat)) ∧ σ = hpB k l' ∧ Sub l0 l') m0 ?_ ?_
  · refine ⟨m0, l1, rfl, by omega, by omega, ?_⟩
    all_goals simp only [zs, reduceIte, Nat.reduceEqDiff, Nat.reduceLT, Nat.reduceLeDiff, Nat.reduceAdd, reduceCtorEq, Nat.reduceMul]
    exact ⟨f0, f10, hs1⟩
  rintro m s σ ⟨q, l', rfl, hq1, hq2, e0, e10, e13, rfl, hs⟩
  refine AW.seq_k fun K12 h12 => ?_
  refine AW.seq_k fun K13 h13 => ?_
  all_goals refine AW.reg0 ?_
  all_goals iterate 3 (refine S.g rfl rfl fun K' k' => ?_; simp only [zz, reduceIte, Nat.reduceEqDiff, Nat.reduceAdd, e10, e13]; refine k' _ _ ?_; clear k' K')
  all_goals refine S.nil ?_
  all_goals simp only [ze, reduceIte, Nat.reduceEqDiff, Nat.reduceLT, Nat.reduceLeDiff, Nat.reduceAdd, reduceCtorEq, Nat.reduceMul, e10, e13]
  all_goals apply_assumption
  refine AW.cond (b := decide ((m : Int) > i)) (by simp [ev]) (fun hc => ?_) (fun hc => ?_)
  · refine AW.skip ?_
    all_goals simp only [zs, reduceIte, Nat.reduceEqDiff, Nat.reduceLT, Nat.reduceLeDiff, Nat.reduceAdd, reduceCtorEq, Nat.reduceMul]
    all_goals apply_assumption
    have hc := of_decide_eq_true hc
    have hw : IntKind.i64.wrap ((m : Int) - 1) = ((m - 1 : Nat) : Int) := by rw [wrap_small _ (by omega) (by omega)]; omega
    have hl1 := hs.1
    have hj1 : m < l'.length := by omega
    have hj2 : m - 1 < l'.length := by omega
    obtain ⟨x, hx, hg1⟩ := get_bd hj1
    obtain ⟨y, hy, hg2⟩ := get_bd hj2
    have hsub := hs.swap hx hy
    have hgs : ∀ v, ((l'.map encBd).set m v).getD (m - 1) [] = encBd y := fun v => by
      rw [← hg2]; simp [List.getD, List.getElem?_set, show m ≠ m - 1 by omega]
    have hpb : hpB k l' = Hp.empty.setGr k (some ((42, 6), l'.map encBd)) := rfl
    rw [hpb]
    refine AW.seq_k fun K14 h14 => ?_
    refine AW.block ?_   -- 3
    refine AW.mono (Q := thenS (fun s' σ' => σ' = hpB k ((l'.set m y).set (m - 1) x) ∧ s'.t 0 = .gl k ∧ s'.t 14 = .c (.int .i64 (i : Nat)) ∧ s'.t 17 = .c (.int .i64 (m : Nat))) (fun _ _ _ => False)) ?_ ?_
    · skip
      all_goals refine AW.draw2 (T := { sd := fun _ => false }) (fun _ _ h => by cases h) mixedO [(0, 0), (1, 0), (2, 0), (3, 0), (4, 0), (5, 0), (6, 0), (7, 0), (8, 0), (10, 0), (11, 0), (12, 0)] 9 13 [(14, 0), (15, 2), (16, 0), (17, 2)] #[true, true, true, true, true, true, true, true, true, false, true, true, true, false, false, false, false, false] rfl (by kernel_rfl) (by kernel_rfl) (by kernel_rfl) (by kernel_rfl) (by kernel_rfl) ?_
      all_goals iterate 12 (refine D.g rfl trivial rfl rfl fun K' k' => ?_; simp only [zz, reduceIte, Nat.reduceEqDiff, Nat.reduceLT, Nat.reduceLeDiff, Nat.reduceAdd, reduceCtorEq, Nat.reduceMul, sl22, el22, ok42, sz42, ag42, e0, e10, e13, hj1, hj2, hg1, hg2, hgs, hw, encBd, List.length_set]; refine k' _ _ ?_; clear k' K')
      all_goals refine D.nil ⟨?_, ?_⟩
      all_goals iterate 6 (refine D.g rfl trivial rfl rfl fun K' k' => ?_; simp only [zz, reduceIte, Nat.reduceEqDiff, Nat.reduceLT, Nat.reduceLeDiff, Nat.reduceAdd, reduceCtorEq, Nat.reduceMul, ok42, sz42, ag42, sl22, el22, e0, e10, e13, hj1, hj2, hg1, hg2, hgs, hw, encBd, List.length_set]; refine k' _ _ ?_; clear k' K')
      all_goals refine D.nil ?_
      all_goals simp only [ze, reduceIte, Nat.reduceEqDiff, Nat.reduceLT, Nat.reduceLeDiff, Nat.reduceAdd, reduceCtorEq, Nat.reduceMul, e0, e10, e13, hj1, hj2, hg1, hg2, hgs, hw, encBd, List.length_set]
      all_goals simp [hpB, encBd, List.map_set]
    rintro e s4 σ4 hq
    cases e with
    | normal =>
      obtain ⟨rfl, q0, q10, q13⟩ := hq
      all_goals simp only [zs, reduceIte, Nat.reduceEqDiff, Nat.reduceLT, Nat.reduceLeDiff, Nat.reduceAdd, reduceCtorEq, Nat.reduceMul]
      all_goals apply_assumption
      all_goals refine AW.reg0 ?_
      all_goals iterate 3 (refine S.g rfl rfl fun K' k' => ?_; simp only [zz, reduceIte, Nat.reduceEqDiff, Nat.reduceAdd, q13, hw]; refine k' _ _ ?_; clear k' K')
      all_goals refine S.nil ?_
      all_goals simp only [ze, reduceIte, Nat.reduceEqDiff, Nat.reduceLT, Nat.reduceLeDiff, Nat.reduceAdd, reduceCtorEq, Nat.reduceMul, q13, hw]
      exact ⟨m - 1, by omega, m - 1, _, rfl, by omega, by omega, q0, q10, rfl, rfl, hsub⟩
    | _ => exact hq.elim
  · refine AW.exit ?_
    all_goals simp only [zs, reduceIte, Nat.reduceEqDiff, Nat.reduceLT, Nat.reduceLeDiff, Nat.reduceAdd, reduceCtorEq, Nat.reduceMul]
    all_goals apply_assumption
    refine AW.ret ?_
    all_goals simp only [zs, reduceIte, Nat.reduceEqDiff, Nat.reduceLT, Nat.reduceLeDiff, Nat.reduceAdd, reduceCtorEq, Nat.reduceMul]
    exact ⟨rfl, l', hs, rfl⟩
theorem sym_weak (k : Nat) : ∀ (d : Nat) (l0 : List Bd) (a m0 b : Nat), b - a ≤ d → a < m0 → m0 < b → b ≤ l0.length → l0.length < 2147483648 →
    ACalls Try.prog 129 [.gl k, .c (.int .i64 a), .c (.int .i64 m0), .c (.int .i64 b), .fn (.func 64) [] []] (hpB k l0) (hpS k l0) := by
  intro d
  induction d with
  | zero => intro l0 a m0 b hd h1 h2; omega
  | succ d ih =>
  intro l0 a m0 b hd ham hmb hb hn
  by_cases hA : a + 1 = m0
  · exact sym_one l0 k a m0 b hA hmb hb hn
  by_cases hB : m0 + 1 = b
  · exact sym_two l0 k a m0 b (by omega) hB hb hn
  refine ACalls.intro Try.call129 Try.func129 rfl Try.ntmps129 Try.results129 (by simp) ?_
  have hw1 : IntKind.i64.wrap ((m0 : Int) - a) = ((m0 - a : Nat) : Int) := by rw [wrap_small _ (by omega) (by omega)]; omega
  have hw2 : IntKind.i64.wrap ((b : Int) - m0) = ((b - m0 : Nat) : Int) := by rw [wrap_small _ (by omega) (by omega)]; omega
  have h1 : (((m0 - a : Nat) : Int) == 1) = false := by simp; omega
  have h2 : (((b - m0 : Nat) : Int) == 1) = false := by simp; omega
  have hw4 : IntKind.i64.wrap ((a : Int) + b) = ((a + b : Nat) : Int) := by rw [wrap_small _ (by omega) (by omega)]; rfl
  have hu := half_u (a + b) (by omega)
  have hs := half_s (a + b)
  have hw5 : IntKind.i64.wrap (((a + b) / 2 : Nat) : Int) = (((a + b) / 2 : Nat) : Int) := wrap_small _ (by omega) (by omega)
  have hm1 : a + b ≤ 2 * ((a + b) / 2) + 1 := by omega
  have hm2 : 2 * ((a + b) / 2) ≤ a + b := by omega
  generalize (a + b) / 2 = mid at *
  have hw6 : IntKind.i64.wrap ((mid : Int) + m0) = ((mid + m0 : Nat) : Int) := by rw [wrap_small _ (by omega) (by omega)]; rfl
  obtain ⟨n, hnn⟩ : ∃ n, n = mid + m0 := ⟨_, rfl⟩
  rw [← hnn] at hw6
  have hw7 : IntKind.i64.wrap ((n : Int) - 1) = ((n - 1 : Nat) : Int) := by rw [wrap_small _ (by omega) (by omega)]; omega
  refine AW.seq_k fun K1 h1 => ?_
  refine AW.seq_k fun K2 h2 => ?_
  all_goals refine AW.reg0 ?_
  all_goals iterate 4 (refine S.g rfl rfl fun K' k' => ?_; simp only [zz, reduceIte, Nat.reduceEqDiff, Nat.reduceAdd, hw1, h1]; refine k' _ _ ?_; clear k' K')
  all_goals refine S.nil ?_
  all_goals simp only [ze, reduceIte, Nat.reduceEqDiff, Nat.reduceLT, Nat.reduceLeDiff, Nat.reduceAdd, reduceCtorEq, Nat.reduceMul, hw1, h1]
  all_goals apply_assumption
  refine AW.cond (b := false) (by simp [ev]; try omega) (fun hc => by cases hc) (fun hc => AW.skip ?_)
  all_goals simp only [zs, reduceIte, Nat.reduceEqDiff, Nat.reduceLT, Nat.reduceLeDiff, Nat.reduceAdd, reduceCtorEq, Nat.reduceMul]
  all_goals apply_assumption
  refine AW.seq_k fun K3 h3 => ?_
  refine AW.seq_k fun K4 h4 => ?_
  all_goals refine AW.reg0 ?_
  all_goals iterate 4 (refine S.g rfl rfl fun K' k' => ?_; simp only [zz, reduceIte, Nat.reduceEqDiff, Nat.reduceAdd, hw2, h2]; refine k' _ _ ?_; clear k' K')
  all_goals refine S.nil ?_
  all_goals simp only [ze, reduceIte, Nat.reduceEqDiff, Nat.reduceLT, Nat.reduceLeDiff, Nat.reduceAdd, reduceCtorEq, Nat.reduceMul, hw2, h2]
  all_goals apply_assumption
  refine AW.cond (b := false) (by simp [ev]; try omega) (fun hc => by cases hc) (fun hc => AW.skip ?_)
  all_goals simp only [zs, reduceIte, Nat.reduceEqDiff, Nat.reduceLT, Nat.reduceLeDiff, Nat.reduceAdd, reduceCtorEq, Nat.reduceMul]
  all_goals apply_assumption
  refine AW.seq_k fun K5 h5 => ?_
  all_goals refine AW.reg0 ?_
  all_goals iterate 7 (refine S.g rfl rfl fun K' k' => ?_; simp only [zz, reduceIte, Nat.reduceEqDiff, Nat.reduceAdd, cv3_130, cv130_3, hw4, hu, hs, hw5, Int.reduceLE]; refine k' _ _ ?_; clear k' K')
  all_goals refine S.nil ?_
  all_goals simp only [ze, reduceIte, Nat.reduceEqDiff, Nat.reduceLT, Nat.reduceLeDiff, Nat.reduceAdd, reduceCtorEq, Nat.reduceMul, hw4, hu, hs, hw5, Int.reduceLE]
  all_goals apply_assumption
  refine AW.seq_k fun K6 h6 => ?_
  all_goals refine AW.reg0 ?_
  all_goals iterate 4 (refine S.g rfl rfl fun K' k' => ?_; simp only [zz, reduceIte, Nat.reduceEqDiff, Nat.reduceAdd, hw6]; refine k' _ _ ?_; clear k' K')
  all_goals refine S.nil ?_
  all_goals simp only [ze, reduceIte, Nat.reduceEqDiff, Nat.reduceLT, Nat.reduceLeDiff, Nat.reduceAdd, reduceCtorEq, Nat.reduceMul, hw6]
  all_goals apply_assumption
  refine AW.seq_k fun K7 h7 => ?_
  all_goals refine AW.reg0 ?_
  all_goals iterate 2 (refine S.g rfl rfl fun K' k' => ?_; simp only [zz, reduceIte, Nat.reduceEqDiff, Nat.reduceAdd]; refine k' _ _ ?_; clear k' K')
  all_goals refine S.nil ?_
  all_goals simp only [ze, reduceIte, Nat.reduceEqDiff, Nat.reduceLT, Nat.reduceLeDiff, Nat.reduceAdd, reduceCtorEq, Nat.reduceMul]
  all_goals apply_assumption
  refine AW.seq_j (fun s σ => ∃ st r, a ≤ st ∧ st ≤ r ∧ r ≤ mid ∧ r ≤ m0 ∧ n ≤ b + st ∧ s.t 0 = .gl k ∧ s.t 1 = .c (.int .i64 a) ∧ s.t 2 = .c (.int .i64 m0) ∧ s.t 3 = .c (.int .i64 b) ∧ s.t 4 = .fn (.func 64) [] [] ∧ s.t 18 = .c (.int .i64 mid) ∧ s.t 19 = .c (.int .i64 n) ∧
    s.t 20 = .c (.int .i64 (st : Nat)) ∧ s.t 21 = .c (.int .i64 (r : Nat)) ∧ σ = hpB k l0) ?_ ?_
  · refine AW.seq_k fun K8 h8 => ?_
    all_goals refine AW.reg0 ?_
    all_goals iterate 3 (refine S.g rfl rfl fun K' k' => ?_; simp only [zz, reduceIte, Nat.reduceEqDiff, Nat.reduceAdd]; refine k' _ _ ?_; clear k' K')
    all_goals refine S.nil ?_
    all_goals simp only [ze, reduceIte, Nat.reduceEqDiff, Nat.reduceLT, Nat.reduceLeDiff, Nat.reduceAdd, reduceCtorEq, Nat.reduceMul]
    all_goals apply_assumption
    refine AW.cond (b := decide ((m0 : Int) > mid)) (by simp [ev]) (fun hc => ?_) (fun hc => ?_)
    · have hc := of_decide_eq_true hc
      have hw8 : IntKind.i64.wrap ((n : Int) - b) = ((n - b : Nat) : Int) := by rw [wrap_small _ (by omega) (by omega)]; omega
      refine AW.seq_k fun K9 h9 => ?_
      all_goals refine AW.reg0 ?_
      all_goals iterate 4 (refine S.g rfl rfl fun K' k' => ?_; simp only [zz, reduceIte, Nat.reduceEqDiff, Nat.reduceAdd, hw8]; refine k' _ _ ?_; clear k' K')
      all_goals refine S.nil ?_
      all_goals simp only [ze, reduceIte, Nat.reduceEqDiff, Nat.reduceLT, Nat.reduceLeDiff, Nat.reduceAdd, reduceCtorEq, Nat.reduceMul, hw8]
      all_goals apply_assumption
      all_goals refine AW.reg0 ?_
      all_goals iterate 2 (refine S.g rfl rfl fun K' k' => ?_; simp only [zz, reduceIte, Nat.reduceEqDiff, Nat.reduceAdd]; refine k' _ _ ?_; clear k' K')
      all_goals refine S.nil ?_
      all_goals simp only [ze, reduceIte, Nat.reduceEqDiff, Nat.reduceLT, Nat.reduceLeDiff, Nat.reduceAdd, reduceCtorEq, Nat.reduceMul]
      exact ⟨n - b, mid, by omega, by omega, by omega, by omega, by omega, rfl, rfl⟩
    · have hc := of_decide_eq_false hc
      refine AW.seq_k fun K10 h10 => ?_
      all_goals refine AW.reg0 ?_
      all_goals iterate 2 (refine S.g rfl rfl fun K' k' => ?_; simp only [zz, reduceIte, Nat.reduceEqDiff, Nat.reduceAdd]; refine k' _ _ ?_; clear k' K')
      all_goals refine S.nil ?_
      all_goals simp only [ze, reduceIte, Nat.reduceEqDiff, Nat.reduceLT, Nat.reduceLeDiff, Nat.reduceAdd, reduceCtorEq, Nat.reduceMul]
      all_goals apply_assumption
      all_goals refine AW.reg0 ?_
      all_goals iterate 2 (refine S.g rfl rfl fun K' k' => ?_; simp only [zz, reduceIte, Nat.reduceEqDiff, Nat.reduceAdd]; refine k' _ _ ?_; clear k' K')
      all_goals refine S.nil ?_
      all_goals simp only [ze, reduceIte, Nat.reduceEqDiff, Nat.reduceLT, Nat.reduceLeDiff, Nat.reduceAdd, reduceCtorEq, Nat.reduceMul]
      exact ⟨a, m0, by omega, by omega, by omega, by omega, by omega, rfl, rfl⟩
  rintro s0 σ0 ⟨st0, r0, hg1, hg2, hg3, hg4, hg5, g0, g1, g2, g3, g4, g18, g19, g20, g21, rfl⟩
  refine AW.seq_k fun K11 h11 => ?_
  all_goals refine AW.reg0 ?_
  all_goals iterate 3 (refine S.g rfl rfl fun K' k' => ?_; simp only [zz, reduceIte, Nat.reduceEqDiff, Nat.reduceAdd, g19, hw7]; refine k' _ _ ?_; clear k' K')
  all_goals refine S.nil ?_
  all_goals simp only [ze, reduceIte, Nat.reduceEqDiff, Nat.reduceLT, Nat.reduceLeDiff, Nat.reduceAdd, reduceCtorEq, Nat.reduceMul, g19, hw7]
  all_goals apply_assumption
  refine AW.seq_j (fun s σ => ∃ st l', a ≤ st ∧ st ≤ mid ∧ st ≤ m0 ∧ n ≤ b + st ∧ s.t 0 = .gl k ∧ s.t 1 = .c (.int .i64 a) ∧ s.t 2 = .c (.int .i64 m0) ∧ s.t 3 = .c (.int .i64 b) ∧ s.t 4 = .fn (.func 64) [] [] ∧ s.t 18 = .c (.int .i64 mid) ∧ s.t 19 = .c (.int .i64 n) ∧
    s.t 20 = .c (.int .i64 (st : Nat)) ∧ σ = hpB k l' ∧ Sub l0 l') ?_ ?_
  · refine AW.block ?_   -- 8
    refine AW.loop (fun m s σ => ∃ st r, m = r - st ∧ a ≤ st ∧ st ≤ r ∧ r ≤ mid ∧ r ≤ m0 ∧ n ≤ b + st ∧ s.t 0 = .gl k ∧ s.t 1 = .c (.int .i64 a) ∧ s.t 2 = .c (.int .i64 m0) ∧ s.t 3 = .c (.int .i64 b) ∧ s.t 4 = .fn (.func 64) [] [] ∧ s.t 18 = .c (.int .i64 mid) ∧ s.t 19 = .c (.int .i64 n) ∧
      s.t 20 = .c (.int .i64 (st : Nat)) ∧ s.t 21 = .c (.int .i64 (r : Nat)) ∧ s.t 22 = .c (.int .i64 ((n - 1 : Nat) : Int)) ∧ σ = hpB k l0) (r0 - st0) ?_ ?_
    · refine ⟨st0, r0, rfl, hg1, hg2, hg3, hg4, hg5, ?_⟩
      all_goals simp only [zs, reduceIte, Nat.reduceEqDiff, Nat.reduceLT, Nat.reduceLeDiff, Nat.reduceAdd, reduceCtorEq, Nat.reduceMul]
      exact ⟨g0, g1, g2, g3, g4, g18, g19, g20, g21⟩
    rintro m s σ ⟨i, j, hm, hi, hij, hj, hj', hnb, e0, e1, e2, e3, e4, e18, e19, e10, e11, e22, rfl⟩
    refine AW.seq_k fun K12 h12 => ?_
    refine AW.seq_k fun K13 h13 => ?_
    all_goals refine AW.reg0 ?_
    all_goals iterate 3 (refine S.g rfl rfl fun K' k' => ?_; simp only [zz, reduceIte, Nat.reduceEqDiff, Nat.reduceAdd, e10, e11]; refine k' _ _ ?_; clear k' K')
    all_goals refine S.nil ?_
    all_goals simp only [ze, reduceIte, Nat.reduceEqDiff, Nat.reduceLT, Nat.reduceLeDiff, Nat.reduceAdd, reduceCtorEq, Nat.reduceMul, e10, e11]
    all_goals apply_assumption
    refine AW.cond (b := decide (i < j)) (by simp [ev]) (fun hc => ?_) (fun hc => ?_)
    · refine AW.skip ?_
      all_goals simp only [zs, reduceIte, Nat.reduceEqDiff, Nat.reduceLT, Nat.reduceLeDiff, Nat.reduceAdd, reduceCtorEq, Nat.reduceMul]
      all_goals apply_assumption
      have hc := of_decide_eq_true hc
      have hw2 : IntKind.i64.wrap ((i : Int) + j) = ((i + j : Nat) : Int) := by rw [wrap_small _ (by omega) (by omega)]; rfl
      have hu := half_u (i + j) (by omega)
      have hs := half_s (i + j)
      have hw3 : IntKind.i64.wrap (((i + j) / 2 : Nat) : Int) = (((i + j) / 2 : Nat) : Int) := wrap_small _ (by omega) (by omega)
      have hh1 : i ≤ (i + j) / 2 := by omega
      have hh2 : (i + j) / 2 < j := by omega
      generalize (i + j) / 2 = h at *
      refine AW.block ?_   -- 1
      refine AW.seq_k fun K14 h14 => ?_
      all_goals refine AW.reg0 ?_
      all_goals iterate 7 (refine S.g rfl rfl fun K' k' => ?_; simp only [zz, reduceIte, Nat.reduceEqDiff, Nat.reduceAdd, cv3_130, cv130_3, e10, e11, hw2, hu, hs, hw3, Int.reduceLE]; refine k' _ _ ?_; clear k' K')
      all_goals refine S.nil ?_
      all_goals simp only [ze, reduceIte, Nat.reduceEqDiff, Nat.reduceLT, Nat.reduceLeDiff, Nat.reduceAdd, reduceCtorEq, Nat.reduceMul, e10, e11, hw2, hu, hs, hw3, Int.reduceLE]
      all_goals apply_assumption
      have hpb : (hpB k l0).gr k = some ((42, 6), l0.map encBd) := by simp [hpB]
      have hw8 : IntKind.i64.wrap (((n - 1 : Nat) : Int) - h) = ((n - 1 - h : Nat) : Int) := by rw [wrap_small _ (by omega) (by omega)]; omega
      have hj1 : n - 1 - h < l0.length := by omega
      have hj2 : h < l0.length := by omega
      obtain ⟨x, hx, hg1⟩ := get_bd hj1
      obtain ⟨y, hy, hg2⟩ := get_bd hj2
      have hw4 : IntKind.i64.wrap ((h : Int) + 1) = ((h + 1 : Nat) : Int) := by rw [wrap_small _ (by omega) (by omega)]; rfl
      generalize hsg : hpB k l0 = σ0 at hpb ⊢
      refine AW.seq_j (fun s' σ' => σ' = σ0 ∧ s'.t 0 = .gl k ∧ s'.t 1 = .c (.int .i64 a) ∧ s'.t 2 = .c (.int .i64 m0) ∧ s'.t 3 = .c (.int .i64 b) ∧ s'.t 4 = .fn (.func 64) [] [] ∧ s'.t 18 = .c (.int .i64 mid) ∧ s'.t 19 = .c (.int .i64 n) ∧ s'.t 20 = .c (.int .i64 (i : Nat)) ∧ s'.t 21 = .c (.int .i64 (j : Nat)) ∧ s'.t 22 = .c (.int .i64 ((n - 1 : Nat) : Int)) ∧ s'.t 23 = .c (.int .i64 (h : Nat)) ∧ ∃ b, s'.t 171 = .c (.bool b)) ?_ ?_
      · skip
        all_goals refine AW.draw2 (T := { sd := fun _ => false }) (fun _ _ h => by cases h) mixedO [(0, 0), (1, 0), (2, 0), (3, 0), (4, 0), (5, 0), (7, 0), (8, 0), (9, 0)] 6 10 [(11, 2), (12, 0), (13, 0)] #[true, true, true, true, true, true, false, true, true, true, false, false, false, false] rfl (by kernel_rfl) (by kernel_rfl) (by kernel_rfl) (by kernel_rfl) (by kernel_rfl) ?_
        all_goals iterate 9 (refine D.g rfl trivial rfl rfl fun K' k' => ?_; simp only [zz, reduceIte, Nat.reduceEqDiff, Nat.reduceLT, Nat.reduceLeDiff, Nat.reduceAdd, reduceCtorEq, Nat.reduceMul, sl22, el22, ok42, sz42, ag42, e0, e22, e4, hpb, hj1, hj2, hg1, hg2, hw8, encBd]; refine k' _ _ ?_; clear k' K')
        all_goals refine D.nil ⟨?_, ?_⟩
        all_goals iterate 2 (refine D.g rfl trivial rfl rfl fun K' k' => ?_; simp only [zz, reduceIte, Nat.reduceEqDiff, Nat.reduceLT, Nat.reduceLeDiff, Nat.reduceAdd, reduceCtorEq, Nat.reduceMul, ok42, sz42, ag42, e0, e22, e4, hpb, hj1, hj2, hg1, hg2, hw8, encBd]; refine k' _ _ ?_; clear k' K')
        all_goals (refine D.g rfl trivial rfl rfl fun K' k' => ?_; simp only [zz, reduceIte, Nat.reduceEqDiff, Nat.reduceLT, Nat.reduceLeDiff, Nat.reduceAdd, reduceCtorEq, Nat.reduceMul, e0, e22, e4, hpb, hj1, hj2, hg1, hg2, hw8, encBd]; refine PCalls.eqto (less_spec x y) ?_ <;> (refine k' _ _ ?_; clear k' K'))
        all_goals iterate 2 (refine D.g rfl trivial rfl rfl fun K' k' => ?_; simp only [zz, reduceIte, Nat.reduceEqDiff, Nat.reduceAdd, e0, e22, e4, hpb, hj1, hj2, hg1, hg2, hw8, encBd]; refine k' _ _ ?_; clear k' K')
        all_goals refine D.nil ?_
        all_goals simp only [ze, reduceIte, Nat.reduceEqDiff, Nat.reduceLT, Nat.reduceLeDiff, Nat.reduceAdd, reduceCtorEq, Nat.reduceMul, e0, e22, e4, hpb, hj1, hj2, hg1, hg2, hw8, encBd]
        all_goals exact ⟨e1, e2, e3, e18, e19, e10, e11, _, rfl⟩
      rintro s3 σ3 ⟨rfl, g0, g1, g2, g3, g4, g18, g19, g10, g11, g22, g12, b2, g50⟩
      refine AW.cond (b := b2) g50 (fun hd => ?_) (fun hd => ?_)
      · skip
        all_goals refine AW.reg0 ?_
        all_goals iterate 3 (refine S.g rfl rfl fun K' k' => ?_; simp only [zz, reduceIte, Nat.reduceEqDiff, Nat.reduceAdd, g12, hw4]; refine k' _ _ ?_; clear k' K')
        all_goals refine S.nil ?_
        all_goals simp only [ze, reduceIte, Nat.reduceEqDiff, Nat.reduceLT, Nat.reduceLeDiff, Nat.reduceAdd, reduceCtorEq, Nat.reduceMul, g12, hw4]
        exact ⟨j - (h + 1), by omega, h + 1, j, rfl, by omega, by omega, hj, hj', by omega, g0, g1, g2, g3, g4, g18, g19, rfl, g11, g22⟩
      · skip
        all_goals refine AW.reg0 ?_
        all_goals iterate 2 (refine S.g rfl rfl fun K' k' => ?_; simp only [zz, reduceIte, Nat.reduceEqDiff, Nat.reduceAdd, g12]; refine k' _ _ ?_; clear k' K')
        all_goals refine S.nil ?_
        all_goals simp only [ze, reduceIte, Nat.reduceEqDiff, Nat.reduceLT, Nat.reduceLeDiff, Nat.reduceAdd, reduceCtorEq, Nat.reduceMul, g12]
        exact ⟨h - i, by omega, i, h, rfl, by omega, by omega, by omega, by omega, by omega, g0, g1, g2, g3, g4, g18, g19, g10, rfl, g22⟩
    · refine AW.exit ?_
      all_goals simp only [zs, reduceIte, Nat.reduceEqDiff, Nat.reduceLT, Nat.reduceLeDiff, Nat.reduceAdd, reduceCtorEq, Nat.reduceMul]
      have hc := of_decide_eq_false hc
      exact ⟨i, l0, hi, by omega, by omega, hnb, e0, e1, e2, e3, e4, e18, e19, e10, rfl, Sub.refl _⟩
  rintro s1 σ1 ⟨st, l1, hi1, hi2, hi3, hi4, f0, f1, f2, f3, f4, f18, f19, f20, rfl, hs1⟩
  have hw8 : IntKind.i64.wrap ((n : Int) - st) = ((n - st : Nat) : Int) := by rw [wrap_small _ (by omega) (by omega)]; omega
  refine AW.seq_k fun K15 h15 => ?_
  all_goals refine AW.reg0 ?_
  all_goals iterate 4 (refine S.g rfl rfl fun K' k' => ?_; simp only [zz, reduceIte, Nat.reduceEqDiff, Nat.reduceAdd, f19, f20, hw8]; refine k' _ _ ?_; clear k' K')
  all_goals refine S.nil ?_
  all_goals simp only [ze, reduceIte, Nat.reduceEqDiff, Nat.reduceLT, Nat.reduceLeDiff, Nat.reduceAdd, reduceCtorEq, Nat.reduceMul, f19, f20, hw8]
  all_goals apply_assumption
  refine AW.seq_j (fun s σ => ∃ l', s.t 0 = .gl k ∧ s.t 1 = .c (.int .i64 a) ∧ s.t 3 = .c (.int .i64 b) ∧ s.t 4 = .fn (.func 64) [] [] ∧ s.t 18 = .c (.int .i64 mid) ∧ s.t 20 = .c (.int .i64 (st : Nat)) ∧ s.t 24 = .c (.int .i64 ((n - st : Nat) : Int)) ∧ σ = hpB k l' ∧ Sub l0 l') ?_ ?_
  · by_cases hc1 : st < m0
    · by_cases hc2 : m0 < n - st
      · refine AW.seq_k fun K16 h16 => ?_
        all_goals refine AW.reg0 ?_
        all_goals iterate 2 (refine S.g rfl rfl fun K' k' => ?_; simp only [zz, reduceIte, Nat.reduceEqDiff, Nat.reduceAdd, f0, f1, f2, f3, f4, f18, f20]; refine k' _ _ ?_; clear k' K')
        all_goals (refine S.g rfl rfl fun K' k' => ?_; simp only [zz, reduceIte, Nat.reduceEqDiff, Nat.reduceLT, Nat.reduceLeDiff, Nat.reduceAdd, reduceCtorEq, Nat.reduceMul, f0, f1, f2, f3, f4, f18, f20]; refine S.bool fun b a180 => ?_; cases b <;> (try (exfalso; first | exact Bool.noConfusion a180 | (have h := of_decide_eq_true a180; omega) | (have h := of_decide_eq_false a180; omega))) <;> (refine k' _ _ ?_; clear k' K'))
        all_goals (refine S.g rfl rfl fun K' k' => ?_; simp only [zz, reduceIte, Nat.reduceEqDiff, Nat.reduceAdd, f0, f1, f2, f3, f4, f18, f20]; refine k' _ _ ?_; clear k' K')
        all_goals iterate 3 (first | (refine S.y rfl rfl rfl rfl fun K' k' => ?_; simp only [zz, reduceIte, Nat.reduceEqDiff, Nat.reduceAdd, f0, f1, f2, f3, f4, f18, f20]; refine k' _ _ ?_; clear k' K') | ((first | refine S.x rfl rfl rfl rfl fun K' k' => ?_ | refine S.u rfl rfl rfl rfl fun K' k' => ?_); simp only [ze, reduceIte, Nat.reduceEqDiff]; refine k' _ _ ?_; clear k' K'))
        all_goals (refine S.g rfl rfl fun K' k' => ?_; simp only [zz, reduceIte, Nat.reduceEqDiff, Nat.reduceAdd, f0, f1, f2, f3, f4, f18, f20]; refine k' _ _ ?_; clear k' K')
        all_goals refine S.nil ?_
        all_goals simp only [ze, reduceIte, Nat.reduceEqDiff, Nat.reduceLT, Nat.reduceLeDiff, Nat.reduceAdd, reduceCtorEq, Nat.reduceMul, f0, f1, f2, f3, f4, f18, f20]
        all_goals apply_assumption
        refine AW.cond (b := true) (by simp [ev]; try omega) (fun hc => ?_) (fun hc => by cases hc)
        all_goals refine AW.reg0 ?_
        all_goals iterate 5 (refine S.g rfl rfl fun K' k' => ?_; simp only [zz, reduceIte, Nat.reduceEqDiff, Nat.reduceAdd, f0, f1, f2, f3, f4, f18, f20]; refine k' _ _ ?_; clear k' K')
        all_goals (refine S.g rfl rfl fun K' k' => ?_; simp only [zz, reduceIte, Nat.reduceEqDiff, Nat.reduceLT, Nat.reduceLeDiff, Nat.reduceAdd, reduceCtorEq, Nat.reduceMul, f0, f1, f2, f3, f4, f18, f20]; refine (rotate_weak l1 k st m0 (n - st) (by omega) (by omega) (by rw [hs1.1]; omega) (by rw [hs1.1]; omega)).to fun v σ1 hv => ?_; obtain ⟨rfl, l2, hl2, rfl⟩ := hv <;> (refine k' _ _ ?_; clear k' K'))
        all_goals refine S.nil ?_
        all_goals simp only [ze, reduceIte, Nat.reduceEqDiff, Nat.reduceLT, Nat.reduceLeDiff, Nat.reduceAdd, reduceCtorEq, Nat.reduceMul, f0, f1, f2, f3, f4, f18, f20]
        refine ⟨l2, ?_⟩; have hfin := hs1.trans hl2; (repeat' apply And.intro) <;> first | rfl | assumption | exact hfin.1 | exact hfin.2
      · refine AW.seq_k fun K17 h17 => ?_
        all_goals refine AW.reg0 ?_
        all_goals iterate 2 (refine S.g rfl rfl fun K' k' => ?_; simp only [zz, reduceIte, Nat.reduceEqDiff, Nat.reduceAdd, f0, f1, f2, f3, f4, f18, f20]; refine k' _ _ ?_; clear k' K')
        all_goals (refine S.g rfl rfl fun K' k' => ?_; simp only [zz, reduceIte, Nat.reduceEqDiff, Nat.reduceLT, Nat.reduceLeDiff, Nat.reduceAdd, reduceCtorEq, Nat.reduceMul, f0, f1, f2, f3, f4, f18, f20]; refine S.bool fun b a180 => ?_; cases b <;> (try (exfalso; first | exact Bool.noConfusion a180 | (have h := of_decide_eq_true a180; omega) | (have h := of_decide_eq_false a180; omega))) <;> (refine k' _ _ ?_; clear k' K'))
        all_goals (refine S.g rfl rfl fun K' k' => ?_; simp only [zz, reduceIte, Nat.reduceEqDiff, Nat.reduceAdd, f0, f1, f2, f3, f4, f18, f20]; refine k' _ _ ?_; clear k' K')
        all_goals iterate 3 (first | (refine S.y rfl rfl rfl rfl fun K' k' => ?_; simp only [zz, reduceIte, Nat.reduceEqDiff, Nat.reduceAdd, f0, f1, f2, f3, f4, f18, f20]; refine k' _ _ ?_; clear k' K') | ((first | refine S.x rfl rfl rfl rfl fun K' k' => ?_ | refine S.u rfl rfl rfl rfl fun K' k' => ?_); simp only [ze, reduceIte, Nat.reduceEqDiff]; refine k' _ _ ?_; clear k' K'))
        all_goals (refine S.g rfl rfl fun K' k' => ?_; simp only [zz, reduceIte, Nat.reduceEqDiff, Nat.reduceAdd, f0, f1, f2, f3, f4, f18, f20]; refine k' _ _ ?_; clear k' K')
        all_goals refine S.nil ?_
        all_goals simp only [ze, reduceIte, Nat.reduceEqDiff, Nat.reduceLT, Nat.reduceLeDiff, Nat.reduceAdd, reduceCtorEq, Nat.reduceMul, f0, f1, f2, f3, f4, f18, f20]
        all_goals apply_assumption
        refine AW.cond (b := false) (by simp [ev]; try omega) (fun hc => by cases hc) (fun hc => AW.skip ?_)
        all_goals simp only [zs, reduceIte, Nat.reduceEqDiff, Nat.reduceLT, Nat.reduceLeDiff, Nat.reduceAdd, reduceCtorEq, Nat.reduceMul]
        refine ⟨l1, ?_⟩; have hfin := hs1; (repeat' apply And.intro) <;> first | rfl | assumption | exact hfin.1 | exact hfin.2
    · refine AW.seq_k fun K18 h18 => ?_
      all_goals refine AW.reg0 ?_
      all_goals iterate 2 (refine S.g rfl rfl fun K' k' => ?_; simp only [zz, reduceIte, Nat.reduceEqDiff, Nat.reduceAdd, f0, f1, f2, f3, f4, f18, f20]; refine k' _ _ ?_; clear k' K')
      all_goals (refine S.g rfl rfl fun K' k' => ?_; simp only [zz, reduceIte, Nat.reduceEqDiff, Nat.reduceLT, Nat.reduceLeDiff, Nat.reduceAdd, reduceCtorEq, Nat.reduceMul, f0, f1, f2, f3, f4, f18, f20]; refine S.bool fun b a180 => ?_; cases b <;> (try (exfalso; first | exact Bool.noConfusion a180 | (have h := of_decide_eq_true a180; omega) | (have h := of_decide_eq_false a180; omega))) <;> (refine k' _ _ ?_; clear k' K'))
      all_goals (refine S.g rfl rfl fun K' k' => ?_; simp only [zz, reduceIte, Nat.reduceEqDiff, Nat.reduceAdd, f0, f1, f2, f3, f4, f18, f20]; refine k' _ _ ?_; clear k' K')
      all_goals iterate 3 (first | (refine S.y rfl rfl rfl rfl fun K' k' => ?_; simp only [zz, reduceIte, Nat.reduceEqDiff, Nat.reduceAdd, f0, f1, f2, f3, f4, f18, f20]; refine k' _ _ ?_; clear k' K') | ((first | refine S.x rfl rfl rfl rfl fun K' k' => ?_ | refine S.u rfl rfl rfl rfl fun K' k' => ?_); simp only [ze, reduceIte, Nat.reduceEqDiff]; refine k' _ _ ?_; clear k' K'))
      all_goals (refine S.g rfl rfl fun K' k' => ?_; simp only [zz, reduceIte, Nat.reduceEqDiff, Nat.reduceAdd, f0, f1, f2, f3, f4, f18, f20]; refine k' _ _ ?_; clear k' K')
      all_goals refine S.nil ?_
      all_goals simp only [ze, reduceIte, Nat.reduceEqDiff, Nat.reduceLT, Nat.reduceLeDiff, Nat.reduceAdd, reduceCtorEq, Nat.reduceMul, f0, f1, f2, f3, f4, f18, f20]
      all_goals apply_assumption
      refine AW.cond (b := false) (by simp [ev]; try omega) (fun hc => by cases hc) (fun hc => AW.skip ?_)
      all_goals simp only [zs, reduceIte, Nat.reduceEqDiff, Nat.reduceLT, Nat.reduceLeDiff, Nat.reduceAdd, reduceCtorEq, Nat.reduceMul]
      refine ⟨l1, ?_⟩; have hfin := hs1; (repeat' apply And.intro) <;> first | rfl | assumption | exact hfin.1 | exact hfin.2
  clear f0 f1 f2 f3 f4 f18 f19 f20 hs1
  rintro s2 σ2 ⟨l2, f0, f1, f3, f4, f18, f20, f24, rfl, hs2⟩
  refine AW.seq_j (fun s σ => ∃ l', s.t 0 = .gl k ∧ s.t 3 = .c (.int .i64 b) ∧ s.t 4 = .fn (.func 64) [] [] ∧ s.t 18 = .c (.int .i64 mid) ∧ s.t 24 = .c (.int .i64 ((n - st : Nat) : Int)) ∧ σ = hpB k l' ∧ Sub l0 l') ?_ ?_
  · by_cases hc1 : a < st
    · by_cases hc2 : st < mid
      · refine AW.seq_k fun K19 h19 => ?_
        all_goals refine AW.reg0 ?_
        all_goals iterate 2 (refine S.g rfl rfl fun K' k' => ?_; simp only [zz, reduceIte, Nat.reduceEqDiff, Nat.reduceAdd, f0, f1, f3, f4, f18, f20, f24]; refine k' _ _ ?_; clear k' K')
        all_goals (refine S.g rfl rfl fun K' k' => ?_; simp only [zz, reduceIte, Nat.reduceEqDiff, Nat.reduceLT, Nat.reduceLeDiff, Nat.reduceAdd, reduceCtorEq, Nat.reduceMul, f0, f1, f3, f4, f18, f20, f24]; refine S.bool fun b a194 => ?_; cases b <;> (try (exfalso; first | exact Bool.noConfusion a194 | (have h := of_decide_eq_true a194; omega) | (have h := of_decide_eq_false a194; omega))) <;> (refine k' _ _ ?_; clear k' K'))
        all_goals (refine S.g rfl rfl fun K' k' => ?_; simp only [zz, reduceIte, Nat.reduceEqDiff, Nat.reduceAdd, f0, f1, f3, f4, f18, f20, f24]; refine k' _ _ ?_; clear k' K')
        all_goals iterate 3 (first | (refine S.y rfl rfl rfl rfl fun K' k' => ?_; simp only [zz, reduceIte, Nat.reduceEqDiff, Nat.reduceAdd, f0, f1, f3, f4, f18, f20, f24]; refine k' _ _ ?_; clear k' K') | ((first | refine S.x rfl rfl rfl rfl fun K' k' => ?_ | refine S.u rfl rfl rfl rfl fun K' k' => ?_); simp only [ze, reduceIte, Nat.reduceEqDiff]; refine k' _ _ ?_; clear k' K'))
        all_goals (refine S.g rfl rfl fun K' k' => ?_; simp only [zz, reduceIte, Nat.reduceEqDiff, Nat.reduceAdd, f0, f1, f3, f4, f18, f20, f24]; refine k' _ _ ?_; clear k' K')
        all_goals refine S.nil ?_
        all_goals simp only [ze, reduceIte, Nat.reduceEqDiff, Nat.reduceLT, Nat.reduceLeDiff, Nat.reduceAdd, reduceCtorEq, Nat.reduceMul, f0, f1, f3, f4, f18, f20, f24]
        all_goals apply_assumption
        refine AW.cond (b := true) (by simp [ev]; try omega) (fun hc => ?_) (fun hc => by cases hc)
        all_goals refine AW.reg0 ?_
        all_goals iterate 5 (refine S.g rfl rfl fun K' k' => ?_; simp only [zz, reduceIte, Nat.reduceEqDiff, Nat.reduceAdd, f0, f1, f3, f4, f18, f20]; refine k' _ _ ?_; clear k' K')
        all_goals (refine S.g rfl rfl fun K' k' => ?_; simp only [zz, reduceIte, Nat.reduceEqDiff, Nat.reduceLT, Nat.reduceLeDiff, Nat.reduceAdd, reduceCtorEq, Nat.reduceMul, f0, f1, f3, f4, f18, f20]; refine (ih l2 a st mid (by omega) (by omega) (by omega) (by rw [hs2.1]; omega) (by rw [hs2.1]; omega)).to fun v σ1 hv => ?_; obtain ⟨rfl, l3, hl3, rfl⟩ := hv <;> (refine k' _ _ ?_; clear k' K'))
        all_goals refine S.nil ?_
        all_goals simp only [ze, reduceIte, Nat.reduceEqDiff, Nat.reduceLT, Nat.reduceLeDiff, Nat.reduceAdd, reduceCtorEq, Nat.reduceMul, f0, f1, f3, f4, f18, f20]
        refine ⟨l3, ?_⟩; have hfin := hs2.trans hl3; (repeat' apply And.intro) <;> first | rfl | assumption | exact hfin.1 | exact hfin.2
      · refine AW.seq_k fun K20 h20 => ?_
        all_goals refine AW.reg0 ?_
        all_goals iterate 2 (refine S.g rfl rfl fun K' k' => ?_; simp only [zz, reduceIte, Nat.reduceEqDiff, Nat.reduceAdd, f0, f1, f3, f4, f18, f20, f24]; refine k' _ _ ?_; clear k' K')
        all_goals (refine S.g rfl rfl fun K' k' => ?_; simp only [zz, reduceIte, Nat.reduceEqDiff, Nat.reduceLT, Nat.reduceLeDiff, Nat.reduceAdd, reduceCtorEq, Nat.reduceMul, f0, f1, f3, f4, f18, f20, f24]; refine S.bool fun b a194 => ?_; cases b <;> (try (exfalso; first | exact Bool.noConfusion a194 | (have h := of_decide_eq_true a194; omega) | (have h := of_decide_eq_false a194; omega))) <;> (refine k' _ _ ?_; clear k' K'))
        all_goals (refine S.g rfl rfl fun K' k' => ?_; simp only [zz, reduceIte, Nat.reduceEqDiff, Nat.reduceAdd, f0, f1, f3, f4, f18, f20, f24]; refine k' _ _ ?_; clear k' K')
        all_goals iterate 3 (first | (refine S.y rfl rfl rfl rfl fun K' k' => ?_; simp only [zz, reduceIte, Nat.reduceEqDiff, Nat.reduceAdd, f0, f1, f3, f4, f18, f20, f24]; refine k' _ _ ?_; clear k' K') | ((first | refine S.x rfl rfl rfl rfl fun K' k' => ?_ | refine S.u rfl rfl rfl rfl fun K' k' => ?_); simp only [ze, reduceIte, Nat.reduceEqDiff]; refine k' _ _ ?_; clear k' K'))
        all_goals (refine S.g rfl rfl fun K' k' => ?_; simp only [zz, reduceIte, Nat.reduceEqDiff, Nat.reduceAdd, f0, f1, f3, f4, f18, f20, f24]; refine k' _ _ ?_; clear k' K')
        all_goals refine S.nil ?_
        all_goals simp only [ze, reduceIte, Nat.reduceEqDiff, Nat.reduceLT, Nat.reduceLeDiff, Nat.reduceAdd, reduceCtorEq, Nat.reduceMul, f0, f1, f3, f4, f18, f20, f24]
        all_goals apply_assumption
        refine AW.cond (b := false) (by simp [ev]; try omega) (fun hc => by cases hc) (fun hc => AW.skip ?_)
        all_goals simp only [zs, reduceIte, Nat.reduceEqDiff, Nat.reduceLT, Nat.reduceLeDiff, Nat.reduceAdd, reduceCtorEq, Nat.reduceMul]
        refine ⟨l2, ?_⟩; have hfin := hs2; (repeat' apply And.intro) <;> first | rfl | assumption | exact hfin.1 | exact hfin.2
    · refine AW.seq_k fun K21 h21 => ?_
      all_goals refine AW.reg0 ?_
      all_goals iterate 2 (refine S.g rfl rfl fun K' k' => ?_; simp only [zz, reduceIte, Nat.reduceEqDiff, Nat.reduceAdd, f0, f1, f3, f4, f18, f20, f24]; refine k' _ _ ?_; clear k' K')
      all_goals (refine S.g rfl rfl fun K' k' => ?_; simp only [zz, reduceIte, Nat.reduceEqDiff, Nat.reduceLT, Nat.reduceLeDiff, Nat.reduceAdd, reduceCtorEq, Nat.reduceMul, f0, f1, f3, f4, f18, f20, f24]; refine S.bool fun b a194 => ?_; cases b <;> (try (exfalso; first | exact Bool.noConfusion a194 | (have h := of_decide_eq_true a194; omega) | (have h := of_decide_eq_false a194; omega))) <;> (refine k' _ _ ?_; clear k' K'))
      all_goals (refine S.g rfl rfl fun K' k' => ?_; simp only [zz, reduceIte, Nat.reduceEqDiff, Nat.reduceAdd, f0, f1, f3, f4, f18, f20, f24]; refine k' _ _ ?_; clear k' K')
      all_goals iterate 3 (first | (refine S.y rfl rfl rfl rfl fun K' k' => ?_; simp only [zz, reduceIte, Nat.reduceEqDiff, Nat.reduceAdd, f0, f1, f3, f4, f18, f20, f24]; refine k' _ _ ?_; clear k' K') | ((first | refine S.x rfl rfl rfl rfl fun K' k' => ?_ | refine S.u rfl rfl rfl rfl fun K' k' => ?_); simp only [ze, reduceIte, Nat.reduceEqDiff]; refine k' _ _ ?_; clear k' K'))
      all_goals (refine S.g rfl rfl fun K' k' => ?_; simp only [zz, reduceIte, Nat.reduceEqDiff, Nat.reduceAdd, f0, f1, f3, f4, f18, f20, f24]; refine k' _ _ ?_; clear k' K')
      all_goals refine S.nil ?_
      all_goals simp only [ze, reduceIte, Nat.reduceEqDiff, Nat.reduceLT, Nat.reduceLeDiff, Nat.reduceAdd, reduceCtorEq, Nat.reduceMul, f0, f1, f3, f4, f18, f20, f24]
      all_goals apply_assumption
      refine AW.cond (b := false) (by simp [ev]; try omega) (fun hc => by cases hc) (fun hc => AW.skip ?_)
      all_goals simp only [zs, reduceIte, Nat.reduceEqDiff, Nat.reduceLT, Nat.reduceLeDiff, Nat.reduceAdd, reduceCtorEq, Nat.reduceMul]
      refine ⟨l2, ?_⟩; have hfin := hs2; (repeat' apply And.intro) <;> first | rfl | assumption | exact hfin.1 | exact hfin.2
  clear f0 f1 f3 f4 f18 f20 f24 hs2
  rintro s3 σ3 ⟨l3, f0, f3, f4, f18, f24, rfl, hs3⟩
  by_cases hc1 : mid < n - st
  · by_cases hc2 : n - st < b
    · refine AW.seq_k fun K22 h22 => ?_
      all_goals refine AW.reg0 ?_
      all_goals iterate 2 (refine S.g rfl rfl fun K' k' => ?_; simp only [zz, reduceIte, Nat.reduceEqDiff, Nat.reduceAdd, f0, f3, f4, f18, f24]; refine k' _ _ ?_; clear k' K')
      all_goals (refine S.g rfl rfl fun K' k' => ?_; simp only [zz, reduceIte, Nat.reduceEqDiff, Nat.reduceLT, Nat.reduceLeDiff, Nat.reduceAdd, reduceCtorEq, Nat.reduceMul, f0, f3, f4, f18, f24]; refine S.bool fun b a208 => ?_; cases b <;> (try (exfalso; first | exact Bool.noConfusion a208 | (have h := of_decide_eq_true a208; omega) | (have h := of_decide_eq_false a208; omega))) <;> (refine k' _ _ ?_; clear k' K'))
      all_goals (refine S.g rfl rfl fun K' k' => ?_; simp only [zz, reduceIte, Nat.reduceEqDiff, Nat.reduceAdd, f0, f3, f4, f18, f24]; refine k' _ _ ?_; clear k' K')
      all_goals iterate 3 (first | (refine S.y rfl rfl rfl rfl fun K' k' => ?_; simp only [zz, reduceIte, Nat.reduceEqDiff, Nat.reduceAdd, f0, f3, f4, f18, f24]; refine k' _ _ ?_; clear k' K') | ((first | refine S.x rfl rfl rfl rfl fun K' k' => ?_ | refine S.u rfl rfl rfl rfl fun K' k' => ?_); simp only [ze, reduceIte, Nat.reduceEqDiff]; refine k' _ _ ?_; clear k' K'))
      all_goals (refine S.g rfl rfl fun K' k' => ?_; simp only [zz, reduceIte, Nat.reduceEqDiff, Nat.reduceAdd, f0, f3, f4, f18, f24]; refine k' _ _ ?_; clear k' K')
      all_goals refine S.nil ?_
      all_goals simp only [ze, reduceIte, Nat.reduceEqDiff, Nat.reduceLT, Nat.reduceLeDiff, Nat.reduceAdd, reduceCtorEq, Nat.reduceMul, f0, f3, f4, f18, f24]
      all_goals apply_assumption
      refine AW.cond (b := true) (by simp [ev]; try omega) (fun hc => ?_) (fun hc => by cases hc)
      all_goals refine AW.reg0 ?_
      all_goals iterate 5 (refine S.g rfl rfl fun K' k' => ?_; simp only [zz, reduceIte, Nat.reduceEqDiff, Nat.reduceAdd, f0, f3, f4, f18, f24]; refine k' _ _ ?_; clear k' K')
      all_goals (refine S.g rfl rfl fun K' k' => ?_; simp only [zz, reduceIte, Nat.reduceEqDiff, Nat.reduceLT, Nat.reduceLeDiff, Nat.reduceAdd, reduceCtorEq, Nat.reduceMul, f0, f3, f4, f18, f24]; refine (ih l3 mid (n - st) b (by omega) (by omega) (by omega) (by rw [hs3.1]; omega) (by rw [hs3.1]; omega)).to fun v σ1 hv => ?_; obtain ⟨rfl, l4, hl4, rfl⟩ := hv <;> (refine k' _ _ ?_; clear k' K'))
      all_goals refine S.nil ?_
      all_goals simp only [ze, reduceIte, Nat.reduceEqDiff, Nat.reduceLT, Nat.reduceLeDiff, Nat.reduceAdd, reduceCtorEq, Nat.reduceMul, f0, f3, f4, f18, f24]
      exact ⟨rfl, l4, hs3.trans hl4, rfl⟩
    · refine AW.seq_k fun K23 h23 => ?_
      all_goals refine AW.reg0 ?_
      all_goals iterate 2 (refine S.g rfl rfl fun K' k' => ?_; simp only [zz, reduceIte, Nat.reduceEqDiff, Nat.reduceAdd, f0, f3, f4, f18, f24]; refine k' _ _ ?_; clear k' K')
      all_goals (refine S.g rfl rfl fun K' k' => ?_; simp only [zz, reduceIte, Nat.reduceEqDiff, Nat.reduceLT, Nat.reduceLeDiff, Nat.reduceAdd, reduceCtorEq, Nat.reduceMul, f0, f3, f4, f18, f24]; refine S.bool fun b a208 => ?_; cases b <;> (try (exfalso; first | exact Bool.noConfusion a208 | (have h := of_decide_eq_true a208; omega) | (have h := of_decide_eq_false a208; omega))) <;> (refine k' _ _ ?_; clear k' K'))
      all_goals (refine S.g rfl rfl fun K' k' => ?_; simp only [zz, reduceIte, Nat.reduceEqDiff, Nat.reduceAdd, f0, f3, f4, f18, f24]; refine k' _ _ ?_; clear k' K')
      all_goals iterate 3 (first | (refine S.y rfl rfl rfl rfl fun K' k' => ?_; simp only [zz, reduceIte, Nat.reduceEqDiff, Nat.reduceAdd, f0, f3, f4, f18, f24]; refine k' _ _ ?_; clear k' K') | ((first | refine S.x rfl rfl rfl rfl fun K' k' => ?_ | refine S.u rfl rfl rfl rfl fun K' k' => ?_); simp only [ze, reduceIte, Nat.reduceEqDiff]; refine k' _ _ ?_; clear k' K'))
      all_goals (refine S.g rfl rfl fun K' k' => ?_; simp only [zz, reduceIte, Nat.reduceEqDiff, Nat.reduceAdd, f0, f3, f4, f18, f24]; refine k' _ _ ?_; clear k' K')
      all_goals refine S.nil ?_
      all_goals simp only [ze, reduceIte, Nat.reduceEqDiff, Nat.reduceLT, Nat.reduceLeDiff, Nat.reduceAdd, reduceCtorEq, Nat.reduceMul, f0, f3, f4, f18, f24]
      all_goals apply_assumption
      refine AW.cond (b := false) (by simp [ev]; try omega) (fun hc => by cases hc) (fun hc => AW.skip ?_)
      all_goals simp only [zs, reduceIte, Nat.reduceEqDiff, Nat.reduceLT, Nat.reduceLeDiff, Nat.reduceAdd, reduceCtorEq, Nat.reduceMul]
      exact ⟨rfl, l3, hs3, rfl⟩
  · refine AW.seq_k fun K24 h24 => ?_
    all_goals refine AW.reg0 ?_
    all_goals iterate 2 (refine S.g rfl rfl fun K' k' => ?_; simp only [zz, reduceIte, Nat.reduceEqDiff, Nat.reduceAdd, f0, f3, f4, f18, f24]; refine k' _ _ ?_; clear k' K')
    all_goals (refine S.g rfl rfl fun K' k' => ?_; simp only [zz, reduceIte, Nat.reduceEqDiff, Nat.reduceLT, Nat.reduceLeDiff, Nat.reduceAdd, reduceCtorEq, Nat.reduceMul, f0, f3, f4, f18, f24]; refine S.bool fun b a208 => ?_; cases b <;> (try (exfalso; first | exact Bool.noConfusion a208 | (have h := of_decide_eq_true a208; omega) | (have h := of_decide_eq_false a208; omega))) <;> (refine k' _ _ ?_; clear k' K'))
    all_goals (refine S.g rfl rfl fun K' k' => ?_; simp only [zz, reduceIte, Nat.reduceEqDiff, Nat.reduceAdd, f0, f3, f4, f18, f24]; refine k' _ _ ?_; clear k' K')
    all_goals iterate 3 (first | (refine S.y rfl rfl rfl rfl fun K' k' => ?_; simp only [zz, reduceIte, Nat.reduceEqDiff, Nat.reduceAdd, f0, f3, f4, f18, f24]; refine k' _ _ ?_; clear k' K') | ((first | refine S.x rfl rfl rfl rfl fun K' k' => ?_ | refine S.u rfl rfl rfl rfl fun K' k' => ?_); simp only [ze, reduceIte, Nat.reduceEqDiff]; refine k' _ _ ?_; clear k' K'))
    all_goals (refine S.g rfl rfl fun K' k' => ?_; simp only [zz, reduceIte, Nat.reduceEqDiff, Nat.reduceAdd, f0, f3, f4, f18, f24]; refine k' _ _ ?_; clear k' K')
    all_goals refine S.nil ?_
    all_goals simp only [ze, reduceIte, Nat.reduceEqDiff, Nat.reduceLT, Nat.reduceLeDiff, Nat.reduceAdd, reduceCtorEq, Nat.reduceMul, f0, f3, f4, f18, f24]
    all_goals apply_assumption
    refine AW.cond (b := false) (by simp [ev]; try omega) (fun hc => by cases hc) (fun hc => AW.skip ?_)
    all_goals simp only [zs, reduceIte, Nat.reduceEqDiff, Nat.reduceLT, Nat.reduceLeDiff, Nat.reduceAdd, reduceCtorEq, Nat.reduceMul]
    exact ⟨rfl, l3, hs3, rfl⟩
end Go.Abs.M
namespace Go.Abs.M
open Go Go.Abs Go.Proofs
set_option maxRecDepth 20000
set_option linter.unusedSimpArgs false
set_option linter.unusedVariables false
theorem sink_sub (lo : Nat) : ∀ (j : Nat) (l0 l : List Bd), Sub l0 l → Sub l0 (sink lo j l) := by
  intro j
  induction j with
  | zero => exact fun _ _ h => h
  | succ j ih =>
    intro l0 l h
    simp only [sink]
    split
    · rename_i x y hx hy
      split
      · exact ih l0 _ (h.swap hx hy)
      · exact h
    · exact h
theorem insFrom_sub (lo : Nat) : ∀ (m i : Nat) (l0 l : List Bd), Sub l0 l → Sub l0 (insFrom lo l i m) := by
  intro m
  induction m with
  | zero => exact fun _ _ _ h => h
  | succ m ih =>
    intro i l0 l h
    simp only [insFrom, List.range'_succ, List.foldl_cons]
    exact ih (i + 1) l0 _ (sink_sub lo i l0 l h)
theorem insort_sub (lo hi : Nat) (l : List Bd) : Sub l (insort lo hi l) := insFrom_sub lo _ _ l l (Sub.refl l)
theorem stable_weak (l0 : List Bd) (k : Nat) (hn : l0.length < 2147483648) :
    ACalls Try.prog 104 [.gl k, .c (.int .i64 l0.length), .fn (.func 64) [] []] (hpB k l0) (hpS k l0) := by
  refine ACalls.intro Try.call104 Try.func104 rfl Try.ntmps104 Try.results104 (by simp) ?_
  refine AW.seq_k fun K1 h1 => ?_
  all_goals refine AW.reg0 ?_
  all_goals (refine S.g rfl rfl fun K' k' => ?_; simp only [zz, reduceIte, Nat.reduceEqDiff, Nat.reduceAdd]; refine k' _ _ ?_; clear k' K')
  all_goals refine S.nil ?_
  all_goals simp only [ze, reduceIte, Nat.reduceEqDiff, Nat.reduceLT, Nat.reduceLeDiff, Nat.reduceAdd, reduceCtorEq, Nat.reduceMul]
  all_goals apply_assumption
  refine AW.seq_k fun K2 h2 => ?_
  all_goals refine AW.reg0 ?_
  all_goals iterate 3 (refine S.g rfl rfl fun K' k' => ?_; simp only [zz, reduceIte, Nat.reduceEqDiff, Nat.reduceAdd]; refine k' _ _ ?_; clear k' K')
  all_goals refine S.nil ?_
  all_goals simp only [ze, reduceIte, Nat.reduceEqDiff, Nat.reduceLT, Nat.reduceLeDiff, Nat.reduceAdd, reduceCtorEq, Nat.reduceMul]
  all_goals apply_assumption
  refine AW.seq_j (fun s σ => ∃ a l', a ≤ l0.length ∧ s.t 0 = .gl k ∧ s.t 1 = .c (.int .i64 l0.length) ∧ s.t 2 = .fn (.func 64) [] [] ∧ s.t 6 = .c (.int .i64 ((20 : Nat) : Int)) ∧ s.t 7 = .c (.int .i64 (a : Nat)) ∧ σ = hpB k l' ∧ Sub l0 l') ?_ ?_
  · refine AW.block ?_   -- 0
    refine AW.loop (fun m s σ => ∃ a b l', m + a = l0.length ∧ b = a + 20 ∧ s.t 0 = .gl k ∧ s.t 1 = .c (.int .i64 l0.length) ∧ s.t 2 = .fn (.func 64) [] [] ∧ s.t 6 = .c (.int .i64 ((20 : Nat) : Int)) ∧ s.t 7 = .c (.int .i64 (a : Nat)) ∧ s.t 8 = .c (.int .i64 (b : Nat)) ∧ σ = hpB k l' ∧ Sub l0 l') l0.length ?_ ?_
    · refine ⟨0, 20, l0, rfl, rfl, ?_⟩
      all_goals simp only [zs, reduceIte, Nat.reduceEqDiff, Nat.reduceLT, Nat.reduceLeDiff, Nat.reduceAdd, reduceCtorEq, Nat.reduceMul]
      exact ⟨rfl, rfl, rfl, rfl, fun _ h => h⟩
    rintro m s σ ⟨a, b, l', hm, hab, e0, e1, e2, e6, e7, e8, rfl, hs⟩
    refine AW.seq_k fun K3 h3 => ?_
    refine AW.seq_k fun K4 h4 => ?_
    all_goals refine AW.reg0 ?_
    all_goals iterate 3 (refine S.g rfl rfl fun K' k' => ?_; simp only [zz, reduceIte, Nat.reduceEqDiff, Nat.reduceAdd, e1, e8]; refine k' _ _ ?_; clear k' K')
    all_goals refine S.nil ?_
    all_goals simp only [ze, reduceIte, Nat.reduceEqDiff, Nat.reduceLT, Nat.reduceLeDiff, Nat.reduceAdd, reduceCtorEq, Nat.reduceMul, e1, e8]
    all_goals apply_assumption
    refine AW.cond (b := decide (b ≤ l0.length)) (by simp [ev]) (fun hc => ?_) (fun hc => ?_)
    · have hc := of_decide_eq_true hc
      refine AW.skip ?_
      all_goals simp only [zs, reduceIte, Nat.reduceEqDiff, Nat.reduceLT, Nat.reduceLeDiff, Nat.reduceAdd, reduceCtorEq, Nat.reduceMul]
      all_goals apply_assumption
      have hw : IntKind.i64.wrap ((b : Int) + (20 : Nat)) = ((b + 20 : Nat) : Int) := by rw [wrap_small _ (by omega) (by omega)]; rfl
      refine AW.block ?_   -- 1
      refine AW.seq_k fun K5 h5 => ?_
      all_goals refine AW.reg0 ?_
      all_goals iterate 4 (refine S.g rfl rfl fun K' k' => ?_; simp only [zz, reduceIte, Nat.reduceEqDiff, Nat.reduceAdd, e0, e2, e7, e8]; refine k' _ _ ?_; clear k' K')
      all_goals (refine S.g rfl rfl fun K' k' => ?_; simp only [zz, reduceIte, Nat.reduceEqDiff, Nat.reduceLT, Nat.reduceLeDiff, Nat.reduceAdd, reduceCtorEq, Nat.reduceMul, e0, e2, e7, e8]; refine (insort_spec l' k a b (by omega) (by rw [hs.1]; omega) (by rw [hs.1]; omega)).to fun v σ1 hv => ?_; obtain ⟨rfl, rfl⟩ := hv <;> (refine k' _ _ ?_; clear k' K'))
      all_goals refine S.nil ?_
      all_goals simp only [ze, reduceIte, Nat.reduceEqDiff, Nat.reduceLT, Nat.reduceLeDiff, Nat.reduceAdd, reduceCtorEq, Nat.reduceMul, e0, e2, e7, e8]
      all_goals apply_assumption
      refine AW.seq_k fun K6 h6 => ?_
      all_goals refine AW.reg0 ?_
      all_goals iterate 2 (refine S.g rfl rfl fun K' k' => ?_; simp only [zz, reduceIte, Nat.reduceEqDiff, Nat.reduceAdd, e8]; refine k' _ _ ?_; clear k' K')
      all_goals refine S.nil ?_
      all_goals simp only [ze, reduceIte, Nat.reduceEqDiff, Nat.reduceLT, Nat.reduceLeDiff, Nat.reduceAdd, reduceCtorEq, Nat.reduceMul, e8]
      all_goals apply_assumption
      all_goals refine AW.reg0 ?_
      all_goals iterate 4 (refine S.g rfl rfl fun K' k' => ?_; simp only [zz, reduceIte, Nat.reduceEqDiff, Nat.reduceAdd, e8, e6, hw]; refine k' _ _ ?_; clear k' K')
      all_goals refine S.nil ?_
      all_goals simp only [ze, reduceIte, Nat.reduceEqDiff, Nat.reduceLT, Nat.reduceLeDiff, Nat.reduceAdd, reduceCtorEq, Nat.reduceMul, e8, e6, hw]
      exact ⟨m - 20, by omega, b, b + 20, _, by omega, rfl, e0, e1, e2, rfl, rfl, rfl, hs.trans (insort_sub a b l')⟩
    · have hc := of_decide_eq_false hc
      refine AW.exit ?_
      all_goals simp only [zs, reduceIte, Nat.reduceEqDiff, Nat.reduceLT, Nat.reduceLeDiff, Nat.reduceAdd, reduceCtorEq, Nat.reduceMul]
      exact ⟨a, l', by omega, e0, e1, e2, e6, e7, rfl, hs⟩
  rintro s0 σ0 ⟨a, l', ha, e0, e1, e2, e6, e7, rfl, hs⟩
  refine AW.seq_k fun K7 h7 => ?_
  all_goals refine AW.reg0 ?_
  all_goals iterate 4 (refine S.g rfl rfl fun K' k' => ?_; simp only [zz, reduceIte, Nat.reduceEqDiff, Nat.reduceAdd, e0, e1, e2, e7]; refine k' _ _ ?_; clear k' K')
  all_goals (refine S.g rfl rfl fun K' k' => ?_; simp only [zz, reduceIte, Nat.reduceEqDiff, Nat.reduceLT, Nat.reduceLeDiff, Nat.reduceAdd, reduceCtorEq, Nat.reduceMul, e0, e1, e2, e7]; refine (insort_spec l' k a l0.length (by omega) (by rw [hs.1]; omega) (by rw [hs.1]; omega)).to fun v σ1 hv => ?_; obtain ⟨rfl, rfl⟩ := hv <;> (refine k' _ _ ?_; clear k' K'))
  all_goals refine S.nil ?_
  all_goals simp only [ze, reduceIte, Nat.reduceEqDiff, Nat.reduceLT, Nat.reduceLeDiff, Nat.reduceAdd, reduceCtorEq, Nat.reduceMul, e0, e1, e2, e7]
  all_goals apply_assumption
  have hs2 := hs.trans (insort_sub a l0.length l')
  generalize insort a l0.length l' = l1 at hs2 ⊢
  clear hs
  refine AW.block ?_   -- 2
  refine AW.loop (fun m s σ => ∃ c l', m = l0.length - c ∧ 20 ≤ c ∧ c < 4294967296 ∧ s.t 0 = .gl k ∧ s.t 1 = .c (.int .i64 l0.length) ∧ s.t 2 = .fn (.func 64) [] [] ∧ s.t 6 = .c (.int .i64 (c : Nat)) ∧ σ = hpB k l' ∧ Sub l0 l') (l0.length - 20) ?_ ?_
  · refine ⟨20, l1, rfl, by omega, by omega, ?_⟩
    all_goals simp only [zs, reduceIte, Nat.reduceEqDiff, Nat.reduceLT, Nat.reduceLeDiff, Nat.reduceAdd, reduceCtorEq, Nat.reduceMul]
    exact ⟨e0, e1, e2, e6, hs2⟩
  clear e0 e1 e2 e6 e7 hs2 ha
  rintro m s σ ⟨c, l', hm, hc1, hc2, e0, e1, e2, e6, rfl, hs⟩
  refine AW.seq_k fun K8 h8 => ?_
  refine AW.seq_k fun K9 h9 => ?_
  all_goals refine AW.reg0 ?_
  all_goals iterate 3 (refine S.g rfl rfl fun K' k' => ?_; simp only [zz, reduceIte, Nat.reduceEqDiff, Nat.reduceAdd, e1, e6]; refine k' _ _ ?_; clear k' K')
  all_goals refine S.nil ?_
  all_goals simp only [ze, reduceIte, Nat.reduceEqDiff, Nat.reduceLT, Nat.reduceLeDiff, Nat.reduceAdd, reduceCtorEq, Nat.reduceMul, e1, e6]
  all_goals apply_assumption
  refine AW.cond (b := decide (c < l0.length)) (by simp [ev]) (fun hc => ?_) (fun hc => ?_)
  · have hc := of_decide_eq_true hc
    refine AW.skip ?_
    all_goals simp only [zs, reduceIte, Nat.reduceEqDiff, Nat.reduceLT, Nat.reduceLeDiff, Nat.reduceAdd, reduceCtorEq, Nat.reduceMul]
    all_goals apply_assumption
    have hw : IntKind.i64.wrap (2 * (c : Int)) = ((2 * c : Nat) : Int) := by rw [wrap_small _ (by omega) (by omega)]; rfl
    have hw' : IntKind.i64.wrap ((c : Int) * 2) = ((2 * c : Nat) : Int) := by rw [wrap_small _ (by omega) (by omega)]; omega
    refine AW.block ?_   -- 3
    refine AW.seq_k fun K10 h10 => ?_
    all_goals refine AW.reg0 ?_
    all_goals iterate 4 (refine S.g rfl rfl fun K' k' => ?_; simp only [zz, reduceIte, Nat.reduceEqDiff, Nat.reduceAdd, e6, hw]; refine k' _ _ ?_; clear k' K')
    all_goals refine S.nil ?_
    all_goals simp only [ze, reduceIte, Nat.reduceEqDiff, Nat.reduceLT, Nat.reduceLeDiff, Nat.reduceAdd, reduceCtorEq, Nat.reduceMul, e6, hw]
    all_goals apply_assumption
    refine AW.seq_j (fun s σ => ∃ a l', a ≤ l0.length ∧ s.t 0 = .gl k ∧ s.t 1 = .c (.int .i64 l0.length) ∧ s.t 2 = .fn (.func 64) [] [] ∧ s.t 6 = .c (.int .i64 (c : Nat)) ∧ s.t 7 = .c (.int .i64 (a : Nat)) ∧ σ = hpB k l' ∧ Sub l0 l') ?_ ?_
    · refine AW.block ?_   -- 4
      refine AW.loop (fun m s σ => ∃ a b l', m + a = l0.length ∧ b = a + 2 * c ∧ s.t 0 = .gl k ∧ s.t 1 = .c (.int .i64 l0.length) ∧ s.t 2 = .fn (.func 64) [] [] ∧ s.t 6 = .c (.int .i64 (c : Nat)) ∧ s.t 7 = .c (.int .i64 (a : Nat)) ∧ s.t 8 = .c (.int .i64 (b : Nat)) ∧ σ = hpB k l' ∧ Sub l0 l') l0.length ?_ ?_
      · refine ⟨0, 2 * c, l', rfl, by omega, ?_⟩
        all_goals simp only [zs, reduceIte, Nat.reduceEqDiff, Nat.reduceLT, Nat.reduceLeDiff, Nat.reduceAdd, reduceCtorEq, Nat.reduceMul]
        exact ⟨e0, e1, e2, e6, rfl, hs⟩
      clear hs e0 e1 e2 e6
      rintro m s σ ⟨a, b, l', hm, hab, e0, e1, e2, e6, e7, e8, rfl, hs⟩
      refine AW.seq_k fun K11 h11 => ?_
      refine AW.seq_k fun K12 h12 => ?_
      all_goals refine AW.reg0 ?_
      all_goals iterate 3 (refine S.g rfl rfl fun K' k' => ?_; simp only [zz, reduceIte, Nat.reduceEqDiff, Nat.reduceAdd, e1, e8]; refine k' _ _ ?_; clear k' K')
      all_goals refine S.nil ?_
      all_goals simp only [ze, reduceIte, Nat.reduceEqDiff, Nat.reduceLT, Nat.reduceLeDiff, Nat.reduceAdd, reduceCtorEq, Nat.reduceMul, e1, e8]
      all_goals apply_assumption
      refine AW.cond (b := decide (b ≤ l0.length)) (by simp [ev]) (fun hc => ?_) (fun hc => ?_)
      · have hc := of_decide_eq_true hc
        refine AW.skip ?_
        all_goals simp only [zs, reduceIte, Nat.reduceEqDiff, Nat.reduceLT, Nat.reduceLeDiff, Nat.reduceAdd, reduceCtorEq, Nat.reduceMul]
        all_goals apply_assumption
        have hw3 : IntKind.i64.wrap ((a : Int) + c) = ((a + c : Nat) : Int) := by rw [wrap_small _ (by omega) (by omega)]; rfl
        have hw4 : IntKind.i64.wrap ((b : Int) + (2 * c : Nat)) = ((b + 2 * c : Nat) : Int) := by rw [wrap_small _ (by omega) (by omega)]; rfl
        refine AW.block ?_   -- 5
        refine AW.seq_k fun K13 h13 => ?_
        all_goals refine AW.reg0 ?_
        all_goals iterate 7 (refine S.g rfl rfl fun K' k' => ?_; simp only [zz, reduceIte, Nat.reduceEqDiff, Nat.reduceAdd, e0, e2, e6, e7, e8, hw3]; refine k' _ _ ?_; clear k' K')
        all_goals (refine S.g rfl rfl fun K' k' => ?_; simp only [zz, reduceIte, Nat.reduceEqDiff, Nat.reduceLT, Nat.reduceLeDiff, Nat.reduceAdd, reduceCtorEq, Nat.reduceMul, e0, e2, e6, e7, e8, hw3]; refine (sym_weak k (b - a) l' a (a + c) b (by omega) (by omega) (by omega) (by rw [hs.1]; omega) (by rw [hs.1]; omega)).to fun v σ1 hv => ?_; obtain ⟨rfl, l3, hl3, rfl⟩ := hv <;> (refine k' _ _ ?_; clear k' K'))
        all_goals refine S.nil ?_
        all_goals simp only [ze, reduceIte, Nat.reduceEqDiff, Nat.reduceLT, Nat.reduceLeDiff, Nat.reduceAdd, reduceCtorEq, Nat.reduceMul, e0, e2, e6, e7, e8, hw3]
        all_goals apply_assumption
        refine AW.seq_k fun K14 h14 => ?_
        all_goals refine AW.reg0 ?_
        all_goals iterate 2 (refine S.g rfl rfl fun K' k' => ?_; simp only [zz, reduceIte, Nat.reduceEqDiff, Nat.reduceAdd, e8]; refine k' _ _ ?_; clear k' K')
        all_goals refine S.nil ?_
        all_goals simp only [ze, reduceIte, Nat.reduceEqDiff, Nat.reduceLT, Nat.reduceLeDiff, Nat.reduceAdd, reduceCtorEq, Nat.reduceMul, e8]
        all_goals apply_assumption
        all_goals refine AW.reg0 ?_
        all_goals iterate 5 (refine S.g rfl rfl fun K' k' => ?_; simp only [zz, reduceIte, Nat.reduceEqDiff, Nat.reduceAdd, e8, e6, hw, hw4]; refine k' _ _ ?_; clear k' K')
        all_goals refine S.nil ?_
        all_goals simp only [ze, reduceIte, Nat.reduceEqDiff, Nat.reduceLT, Nat.reduceLeDiff, Nat.reduceAdd, reduceCtorEq, Nat.reduceMul, e8, e6, hw, hw4]
        exact ⟨m - 2 * c, by omega, b, b + 2 * c, _, by omega, rfl, e0, e1, e2, rfl, rfl, rfl, hs.trans hl3⟩
      · have hc := of_decide_eq_false hc
        refine AW.exit ?_
        all_goals simp only [zs, reduceIte, Nat.reduceEqDiff, Nat.reduceLT, Nat.reduceLeDiff, Nat.reduceAdd, reduceCtorEq, Nat.reduceMul]
        exact ⟨a, l', by omega, e0, e1, e2, e6, e7, rfl, hs⟩
    clear hs e0 e1 e2 e6
    rintro s0 σ0 ⟨a, l', ha, e0, e1, e2, e6, e7, rfl, hs⟩
    have hw3 : IntKind.i64.wrap ((a : Int) + c) = ((a + c : Nat) : Int) := by rw [wrap_small _ (by omega) (by omega)]; rfl
    refine AW.seq_k fun K15 h15 => ?_
    refine AW.seq_k fun K16 h16 => ?_
    all_goals refine AW.reg0 ?_
    all_goals iterate 4 (refine S.g rfl rfl fun K' k' => ?_; simp only [zz, reduceIte, Nat.reduceEqDiff, Nat.reduceAdd, e6, e7, hw3]; refine k' _ _ ?_; clear k' K')
    all_goals refine S.nil ?_
    all_goals simp only [ze, reduceIte, Nat.reduceEqDiff, Nat.reduceLT, Nat.reduceLeDiff, Nat.reduceAdd, reduceCtorEq, Nat.reduceMul, e6, e7, hw3]
    all_goals apply_assumption
    refine AW.seq_k fun K17 h17 => ?_
    all_goals refine AW.reg0 ?_
    all_goals iterate 3 (refine S.g rfl rfl fun K' k' => ?_; simp only [zz, reduceIte, Nat.reduceEqDiff, Nat.reduceAdd, e1]; refine k' _ _ ?_; clear k' K')
    all_goals refine S.nil ?_
    all_goals simp only [ze, reduceIte, Nat.reduceEqDiff, Nat.reduceLT, Nat.reduceLeDiff, Nat.reduceAdd, reduceCtorEq, Nat.reduceMul, e1]
    all_goals apply_assumption
    refine AW.cond (b := decide (a + c < l0.length)) (by simp [ev]) (fun hd => ?_) (fun hd => ?_)
    · have hd := of_decide_eq_true hd
      all_goals refine AW.reg0 ?_
      all_goals iterate 5 (refine S.g rfl rfl fun K' k' => ?_; simp only [zz, reduceIte, Nat.reduceEqDiff, Nat.reduceAdd, e0, e1, e2, e7]; refine k' _ _ ?_; clear k' K')
      all_goals (refine S.g rfl rfl fun K' k' => ?_; simp only [zz, reduceIte, Nat.reduceEqDiff, Nat.reduceLT, Nat.reduceLeDiff, Nat.reduceAdd, reduceCtorEq, Nat.reduceMul, e0, e1, e2, e7]; refine (sym_weak k (l0.length - a) l' a (a + c) l0.length (by omega) (by omega) (by omega) (by rw [hs.1]; omega) (by rw [hs.1]; omega)).to fun v σ1 hv => ?_; obtain ⟨rfl, l3, hl3, rfl⟩ := hv <;> (refine k' _ _ ?_; clear k' K'))
      all_goals refine S.nil ?_
      all_goals simp only [ze, reduceIte, Nat.reduceEqDiff, Nat.reduceLT, Nat.reduceLeDiff, Nat.reduceAdd, reduceCtorEq, Nat.reduceMul, e0, e1, e2, e7]
      all_goals apply_assumption
      all_goals refine AW.reg0 ?_
      all_goals iterate 3 (refine S.g rfl rfl fun K' k' => ?_; simp only [zz, reduceIte, Nat.reduceEqDiff, Nat.reduceAdd, e6, hw']; refine k' _ _ ?_; clear k' K')
      all_goals refine S.nil ?_
      all_goals simp only [ze, reduceIte, Nat.reduceEqDiff, Nat.reduceLT, Nat.reduceLeDiff, Nat.reduceAdd, reduceCtorEq, Nat.reduceMul, e6, hw']
      exact ⟨m - c, by omega, 2 * c, _, by omega, by omega, by omega, e0, e1, e2, rfl, rfl, hs.trans hl3⟩
    · refine AW.skip ?_
      all_goals simp only [zs, reduceIte, Nat.reduceEqDiff, Nat.reduceLT, Nat.reduceLeDiff, Nat.reduceAdd, reduceCtorEq, Nat.reduceMul]
      all_goals apply_assumption
      all_goals refine AW.reg0 ?_
      all_goals iterate 3 (refine S.g rfl rfl fun K' k' => ?_; simp only [zz, reduceIte, Nat.reduceEqDiff, Nat.reduceAdd, e6, hw']; refine k' _ _ ?_; clear k' K')
      all_goals refine S.nil ?_
      all_goals simp only [ze, reduceIte, Nat.reduceEqDiff, Nat.reduceLT, Nat.reduceLeDiff, Nat.reduceAdd, reduceCtorEq, Nat.reduceMul, e6, hw']
      exact ⟨m - c, by omega, 2 * c, _, by omega, by omega, by omega, e0, e1, e2, rfl, rfl, hs⟩
  · refine AW.exit ?_
    all_goals simp only [zs, reduceIte, Nat.reduceEqDiff, Nat.reduceLT, Nat.reduceLeDiff, Nat.reduceAdd, reduceCtorEq, Nat.reduceMul]
    exact ⟨rfl, l', hs, rfl⟩
theorem sort_weak (l : List Bd) (k : Nat) (hn : l.length < 2147483648) :
    ACalls Try.prog 63 [.gl k, .fn (.func 64) [] []] (hpB k l) (hpS k l) := by
  refine ACalls.intro Try.call63 Try.func63 rfl Try.ntmps63 Try.results63 (by simp) ?_
  have hpb : (hpB k l).gr k = some ((42, 6), l.map encBd) := by simp [hpB]
  refine AW.mono (Q := thenS (fun s' σ' => ∃ l', Sub l l' ∧ σ' = hpB k l') (fun _ _ _ => False)) ?_ ?_
  · clear hpb; unfold hpB
    all_goals refine AW.reg0 ?_
    all_goals iterate 4 (refine S.g rfl rfl fun K' k' => ?_; simp only [zz, reduceIte, Nat.reduceEqDiff, Nat.reduceLT, Nat.reduceLeDiff, Nat.reduceAdd, reduceCtorEq, Nat.reduceMul, sl22, el22, ok42, sz42, ag42]; refine k' _ _ ?_; clear k' K')
    all_goals (refine S.g rfl rfl fun K' k' => ?_; simp only [zz, reduceIte, Nat.reduceEqDiff, Nat.reduceLT, Nat.reduceLeDiff, Nat.reduceAdd, reduceCtorEq, Nat.reduceMul]; refine (stable_weak l k (by omega)).to fun v σ1 hv => ?_; obtain ⟨rfl, l2, hl2, rfl⟩ := hv <;> (refine k' _ _ ?_; clear k' K'))
    all_goals refine S.nil ?_
    all_goals simp only [ze, reduceIte, Nat.reduceEqDiff, Nat.reduceLT, Nat.reduceLeDiff, Nat.reduceAdd, reduceCtorEq, Nat.reduceMul]
    exact ⟨l2, hl2, rfl⟩
  rintro e s σ hq
  cases e with
  | normal =>
    obtain ⟨l2, hl2, rfl⟩ : ∃ l', Sub l l' ∧ σ = hpB k l' := hq
    all_goals simp only [zs, reduceIte, Nat.reduceEqDiff, Nat.reduceLT, Nat.reduceLeDiff, Nat.reduceAdd, reduceCtorEq, Nat.reduceMul]
    exact ⟨rfl, l2, hl2, rfl⟩
  | _ => exact hq.elim
end Go.Abs.M
namespace Go.Abs.M
open Go Go.Abs Go.Proofs
set_option maxRecDepth 20000
set_option linter.unusedSimpArgs false
set_option linter.unusedVariables false
def mrg : List Bd → List Bd → List Bd
  | [], b => b
  | x :: a, [] => x :: a
  | x :: a, y :: b => if leS x.var y.var = true then x :: mrg a (y :: b) else y :: mrg (x :: a) b
termination_by a b => a.length + b.length
theorem mrg_nil (a : List Bd) : mrg a [] = a := by
  cases a <;> simp [mrg]
theorem mrg_len (a b : List Bd) : (mrg a b).length = a.length + b.length := by
  fun_induction mrg a b <;> simp_all <;> omega
theorem mrg_mem (a b : List Bd) : ∀ x ∈ mrg a b, x ∈ a ++ b := by
  fun_induction mrg a b
  · intro x hx; simpa using hx
  · intro x hx; simpa using hx
  · rename_i ih
    intro z hz
    rcases List.mem_cons.1 hz with rfl | hz
    · simp
    · have := ih z hz; simp at this ⊢; rcases this with h | h | h <;> simp_all
  · rename_i ih
    intro z hz
    rcases List.mem_cons.1 hz with rfl | hz
    · simp
    · have := ih z hz; simp at this ⊢; rcases this with h | h | h <;> simp [h]
/-- A list of the call's own, collected in the variable 't'. -/
def own (s : St) (σ : Hp) (t : Nat) (l : List Bd) : Prop := (l = [] ∧ s.t t = .c (.slice none 0 0) ∧ σ = Hp.empty) ∨ ∃ g, s.t t = .gl g ∧ σ = hpB g l
end Go.Abs.M
namespace Go.Abs.M
open Go Go.Abs Go.Proofs
set_option maxRecDepth 20000
set_option linter.unusedSimpArgs false
set_option linter.unusedVariables false
theorem insort_nil : PCalls Try.prog 128 [.c (.slice none 0 0), .c (.int .i64 0), .c (.int .i64 0), .fn (.func 64) [] []] (fun v => v = .tup []) := by
  refine PCalls.intro Try.call128 Try.func128 rfl Try.ntmps128 Try.results128 (by simp) ?_
  have hw1 : IntKind.i64.wrap ((0 : Int) + 1) = 1 := by rw [wrap_small _ (by omega) (by omega)]; rfl
  refine AW.seq_k fun K1 h1 => ?_
  all_goals refine AW.reg0 ?_
  all_goals iterate 3 (refine S.g rfl rfl fun K' k' => ?_; simp only [zz, reduceIte, Nat.reduceEqDiff, Nat.reduceAdd, hw1]; refine k' _ _ ?_; clear k' K')
  all_goals refine S.nil ?_
  all_goals simp only [ze, reduceIte, Nat.reduceEqDiff, Nat.reduceLT, Nat.reduceLeDiff, Nat.reduceAdd, reduceCtorEq, Nat.reduceMul, hw1]
  all_goals apply_assumption
  refine AW.block ?_   -- 0
  refine AW.loop (fun m s σ => s.t 2 = .c (.int .i64 0) ∧ s.t 8 = .c (.int .i64 1) ∧ σ = Hp.empty) 0 ?_ ?_
  · all_goals simp only [zs, reduceIte, Nat.reduceEqDiff, Nat.reduceLT, Nat.reduceLeDiff, Nat.reduceAdd, reduceCtorEq, Nat.reduceMul]
  rintro m s σ ⟨e2, e8, rfl⟩
  refine AW.seq_k fun K2 h2 => ?_
  refine AW.seq_k fun K3 h3 => ?_
  all_goals refine AW.reg0 ?_
  all_goals iterate 3 (refine S.g rfl rfl fun K' k' => ?_; simp only [zz, reduceIte, Nat.reduceEqDiff, Nat.reduceAdd, e2, e8]; refine k' _ _ ?_; clear k' K')
  all_goals refine S.nil ?_
  all_goals simp only [ze, reduceIte, Nat.reduceEqDiff, Nat.reduceLT, Nat.reduceLeDiff, Nat.reduceAdd, reduceCtorEq, Nat.reduceMul, e2, e8]
  all_goals apply_assumption
  refine AW.cond (b := false) (by simp [ev]) (fun hc => by cases hc) (fun hc => AW.exit ?_)
  all_goals simp only [zs, reduceIte, Nat.reduceEqDiff, Nat.reduceLT, Nat.reduceLeDiff, Nat.reduceAdd, reduceCtorEq, Nat.reduceMul]
  rfl
theorem stable_nil : PCalls Try.prog 104 [.c (.slice none 0 0), .c (.int .i64 0), .fn (.func 64) [] []] (fun v => v = .tup []) := by
  refine PCalls.intro Try.call104 Try.func104 rfl Try.ntmps104 Try.results104 (by simp) ?_
  refine AW.seq_k fun K1 h1 => ?_
  all_goals refine AW.reg0 ?_
  all_goals (refine S.g rfl rfl fun K' k' => ?_; simp only [zz, reduceIte, Nat.reduceEqDiff, Nat.reduceAdd]; refine k' _ _ ?_; clear k' K')
  all_goals refine S.nil ?_
  all_goals simp only [ze, reduceIte, Nat.reduceEqDiff, Nat.reduceLT, Nat.reduceLeDiff, Nat.reduceAdd, reduceCtorEq, Nat.reduceMul]
  all_goals apply_assumption
  refine AW.seq_k fun K2 h2 => ?_
  all_goals refine AW.reg0 ?_
  all_goals iterate 3 (refine S.g rfl rfl fun K' k' => ?_; simp only [zz, reduceIte, Nat.reduceEqDiff, Nat.reduceAdd]; refine k' _ _ ?_; clear k' K')
  all_goals refine S.nil ?_
  all_goals simp only [ze, reduceIte, Nat.reduceEqDiff, Nat.reduceLT, Nat.reduceLeDiff, Nat.reduceAdd, reduceCtorEq, Nat.reduceMul]
  all_goals apply_assumption
  refine AW.seq_k fun K3 h3 => ?_
  refine AW.block ?_   -- 0
  refine AW.loop (fun m s σ => σ = Hp.empty ∧ s.t 0 = .c (.slice none 0 0) ∧ s.t 1 = .c (.int .i64 0) ∧ s.t 2 = .fn (.func 64) [] [] ∧ s.t 6 = .c (.int .i64 20) ∧ s.t 7 = .c (.int .i64 0) ∧ s.t 8 = .c (.int .i64 20)) 0 ?_ ?_
  · all_goals simp only [zs, reduceIte, Nat.reduceEqDiff, Nat.reduceLT, Nat.reduceLeDiff, Nat.reduceAdd, reduceCtorEq, Nat.reduceMul]
  rintro m s σ ⟨rfl, e0, e1, e2, e6, e7, e8⟩
  refine AW.seq_k fun K4 h4 => ?_
  refine AW.seq_k fun K5 h5 => ?_
  all_goals refine AW.reg0 ?_
  all_goals iterate 3 (refine S.g rfl rfl fun K' k' => ?_; simp only [zz, reduceIte, Nat.reduceEqDiff, Nat.reduceAdd, e1, e8]; refine k' _ _ ?_; clear k' K')
  all_goals refine S.nil ?_
  all_goals simp only [ze, reduceIte, Nat.reduceEqDiff, Nat.reduceLT, Nat.reduceLeDiff, Nat.reduceAdd, reduceCtorEq, Nat.reduceMul, e1, e8]
  all_goals apply_assumption
  refine AW.cond (b := false) (by simp [ev]) (fun hc => by cases hc) (fun hc => AW.exit ?_)
  all_goals simp only [zs, reduceIte, Nat.reduceEqDiff, Nat.reduceLT, Nat.reduceLeDiff, Nat.reduceAdd, reduceCtorEq, Nat.reduceMul]
  all_goals apply_assumption
  refine AW.seq_k fun K6 h6 => ?_
  all_goals refine AW.region (T := { raw := fun d => d == 128 }) (fun _ _ h => by cases h) rfl ?_
  all_goals iterate 4 (refine S.g rfl rfl fun K' k' => ?_; simp only [zz, reduceIte, Nat.reduceEqDiff, Nat.reduceAdd, e0, e1, e2, e7]; refine k' _ _ ?_; clear k' K')
  all_goals (refine S.g rfl rfl fun K' k' => ?_; simp only [zz, reduceIte, Nat.reduceEqDiff, Nat.reduceLT, Nat.reduceLeDiff, Nat.reduceAdd, reduceCtorEq, Nat.reduceMul, e0, e1, e2, e7]; refine PCalls.eqto insort_nil ?_ <;> (refine k' _ _ ?_; clear k' K'))
  all_goals refine S.nil ?_
  all_goals simp only [ze, reduceIte, Nat.reduceEqDiff, Nat.reduceLT, Nat.reduceLeDiff, Nat.reduceAdd, reduceCtorEq, Nat.reduceMul, e0, e1, e2, e7]
  all_goals apply_assumption
  refine AW.block ?_   -- 2
  refine AW.loop (fun m s σ => σ = Hp.empty ∧ s.t 1 = .c (.int .i64 0) ∧ s.t 6 = .c (.int .i64 20)) 0 ?_ ?_
  · all_goals simp only [zs, reduceIte, Nat.reduceEqDiff, Nat.reduceLT, Nat.reduceLeDiff, Nat.reduceAdd, reduceCtorEq, Nat.reduceMul]
    exact ⟨e1, e6⟩
  rintro m2 s2 σ2 ⟨rfl, f1, f6⟩
  refine AW.seq_k fun K7 h7 => ?_
  refine AW.seq_k fun K8 h8 => ?_
  all_goals refine AW.reg0 ?_
  all_goals iterate 3 (refine S.g rfl rfl fun K' k' => ?_; simp only [zz, reduceIte, Nat.reduceEqDiff, Nat.reduceAdd, f1, f6]; refine k' _ _ ?_; clear k' K')
  all_goals refine S.nil ?_
  all_goals simp only [ze, reduceIte, Nat.reduceEqDiff, Nat.reduceLT, Nat.reduceLeDiff, Nat.reduceAdd, reduceCtorEq, Nat.reduceMul, f1, f6]
  all_goals apply_assumption
  refine AW.cond (b := false) (by simp [ev]) (fun hc => by cases hc) (fun hc => AW.exit ?_)
  all_goals simp only [zs, reduceIte, Nat.reduceEqDiff, Nat.reduceLT, Nat.reduceLeDiff, Nat.reduceAdd, reduceCtorEq, Nat.reduceMul]
  rfl
theorem sort_nil : PCalls Try.prog 63 [.c (.slice none 0 0), .fn (.func 64) [] []] (fun v => v = .tup []) := by
  refine PCalls.intro Try.call63 Try.func63 rfl Try.ntmps63 Try.results63 (by simp) ?_
  refine AW.mono (Q := thenS (fun s' σ' => σ' = Hp.empty) (fun _ _ _ => False)) ?_ ?_
  · skip
    all_goals refine AW.region (T := { raw := fun d => d == 104 }) (fun _ _ h => by cases h) rfl ?_
    all_goals iterate 4 (refine S.g rfl rfl fun K' k' => ?_; simp only [zz, reduceIte, Nat.reduceEqDiff, Nat.reduceLT, Nat.reduceLeDiff, Nat.reduceAdd, reduceCtorEq, Nat.reduceMul, sl22, el22, ok42, sz42, ag42]; refine k' _ _ ?_; clear k' K')
    all_goals (refine S.g rfl rfl fun K' k' => ?_; simp only [zz, reduceIte, Nat.reduceEqDiff, Nat.reduceLT, Nat.reduceLeDiff, Nat.reduceAdd, reduceCtorEq, Nat.reduceMul]; refine PCalls.eqto stable_nil ?_ <;> (refine k' _ _ ?_; clear k' K'))
    all_goals refine S.nil ?_
    all_goals simp only [ze, reduceIte, Nat.reduceEqDiff, Nat.reduceLT, Nat.reduceLeDiff, Nat.reduceAdd, reduceCtorEq, Nat.reduceMul]
  rintro e s σ hq
  cases e with
  | normal =>
    obtain rfl : σ = Hp.empty := hq
    all_goals simp only [zs, reduceIte, Nat.reduceEqDiff, Nat.reduceLT, Nat.reduceLeDiff, Nat.reduceAdd, reduceCtorEq, Nat.reduceMul]
    rfl
  | _ => exact hq.elim
theorem merge_nil : PCalls Try.prog 11 [.agg [.sl []], .agg [.sl []]] (fun v => v = .tup [.agg [.sl []], .c (.bool true)]) := by
  have hok : okP [] := fun _ h => by cases h
  have hpe : partErr [] = 0 := rfl
  refine PCalls.intro Try.call11 Try.func11 rfl Try.ntmps11 Try.results11 (by simp) ?_
  refine AW.seq_k fun K1 h1 => ?_
  all_goals refine AW.reg0 ?_
  all_goals iterate 4 (refine S.g rfl rfl fun K' k' => ?_; simp only [zz, reduceIte, Nat.reduceEqDiff, Nat.reduceLT, Nat.reduceLeDiff, Nat.reduceAdd, reduceCtorEq, Nat.reduceMul, ok24, sz24, ag24, zt24]; refine k' _ _ ?_; clear k' K')
  all_goals refine S.nil ?_
  all_goals simp only [ze, reduceIte, Nat.reduceEqDiff, Nat.reduceLT, Nat.reduceLeDiff, Nat.reduceAdd, reduceCtorEq, Nat.reduceMul]
  all_goals apply_assumption
  refine AW.seq_k fun K2 h2 => ?_
  refine AW.seq_k fun K3 h3 => ?_
  all_goals refine AW.reg0 ?_
  all_goals (refine S.g rfl rfl fun K' k' => ?_; simp only [zz, reduceIte, Nat.reduceEqDiff, Nat.reduceLT, Nat.reduceLeDiff, Nat.reduceAdd, reduceCtorEq, Nat.reduceMul, ok24, sz24, ag24, hpe]; refine k' _ _ ?_; clear k' K')
  all_goals (refine S.g rfl rfl fun K' k' => ?_; simp only [zz, reduceIte, Nat.reduceEqDiff, Nat.reduceLT, Nat.reduceLeDiff, Nat.reduceAdd, reduceCtorEq, Nat.reduceMul, hpe]; refine PCalls.eqto (check_part [] hok) ?_ <;> (refine k' _ _ ?_; clear k' K'))
  all_goals (refine S.g rfl rfl fun K' k' => ?_; simp only [zz, reduceIte, Nat.reduceEqDiff, Nat.reduceLT, Nat.reduceLeDiff, Nat.reduceAdd, reduceCtorEq, Nat.reduceMul, hpe]; refine S.bool fun b a9 => ?_; cases b <;> (try (exfalso; first | exact Bool.noConfusion a9 | (have h := of_decide_eq_true a9; omega) | (have h := of_decide_eq_false a9; omega))) <;> (refine k' _ _ ?_; clear k' K'))
  all_goals (refine S.g rfl rfl fun K' k' => ?_; simp only [zz, reduceIte, Nat.reduceEqDiff, Nat.reduceAdd, hpe]; refine k' _ _ ?_; clear k' K')
  all_goals (first | (refine S.y rfl rfl rfl rfl fun K' k' => ?_; simp only [zz, reduceIte, Nat.reduceEqDiff, Nat.reduceLT, Nat.reduceLeDiff, Nat.reduceAdd, reduceCtorEq, Nat.reduceMul, ok24, sz24, ag24, hpe]; refine k' _ _ ?_; clear k' K') | ((first | refine S.x rfl rfl rfl rfl fun K' k' => ?_ | refine S.u rfl rfl rfl rfl fun K' k' => ?_); simp only [ze, reduceIte, Nat.reduceEqDiff]; refine k' _ _ ?_; clear k' K'))
  all_goals (first | (refine S.y rfl rfl rfl rfl fun K' k' => ?_; simp only [zz, reduceIte, Nat.reduceEqDiff, Nat.reduceLT, Nat.reduceLeDiff, Nat.reduceAdd, reduceCtorEq, Nat.reduceMul, hpe]; refine PCalls.eqto (check_part [] hok) ?_ <;> (refine k' _ _ ?_; clear k' K')) | ((first | refine S.x rfl rfl rfl rfl fun K' k' => ?_ | refine S.u rfl rfl rfl rfl fun K' k' => ?_); simp only [ze, reduceIte, Nat.reduceEqDiff]; refine k' _ _ ?_; clear k' K'))
  all_goals (first | (refine S.y rfl rfl rfl rfl fun K' k' => ?_; simp only [zz, reduceIte, Nat.reduceEqDiff, Nat.reduceAdd, hpe]; refine k' _ _ ?_; clear k' K') | ((first | refine S.x rfl rfl rfl rfl fun K' k' => ?_ | refine S.u rfl rfl rfl rfl fun K' k' => ?_); simp only [ze, reduceIte, Nat.reduceEqDiff]; refine k' _ _ ?_; clear k' K'))
  all_goals (refine S.g rfl rfl fun K' k' => ?_; simp only [zz, reduceIte, Nat.reduceEqDiff, Nat.reduceAdd, hpe]; refine k' _ _ ?_; clear k' K')
  all_goals refine S.nil ?_
  all_goals simp only [ze, reduceIte, Nat.reduceEqDiff, Nat.reduceLT, Nat.reduceLeDiff, Nat.reduceAdd, reduceCtorEq, Nat.reduceMul, hpe]
  all_goals apply_assumption
  refine AW.cond (b := false) (by simp [ev]) (fun hc => by cases hc) (fun hc => AW.skip ?_)
  all_goals simp only [zs, reduceIte, Nat.reduceEqDiff, Nat.reduceLT, Nat.reduceLeDiff, Nat.reduceAdd, reduceCtorEq, Nat.reduceMul]
  all_goals apply_assumption
  have htot : tot [[], []] * 80 ≤ 140737488355328 := by simp [tot]
  refine AW.seq_k fun K4 h4 => ?_
  all_goals refine AW.reg0 ?_
  all_goals iterate 4 (refine S.g rfl rfl fun K' k' => ?_; simp only [zz, reduceIte, Nat.reduceEqDiff, Nat.reduceLT, Nat.reduceLeDiff, Nat.reduceAdd, reduceCtorEq, Nat.reduceMul, of24_0, ok22, sz22, ag22, List.flatten_cons, List.flatten_nil, List.nil_append, List.map_nil]; refine k' _ _ ?_; clear k' K')
  all_goals (refine S.g rfl rfl fun K' k' => ?_; simp only [zb, reduceIte, Nat.reduceEqDiff, Nat.reduceLT, Nat.reduceLeDiff, Nat.reduceAdd, reduceCtorEq, Nat.reduceMul, sl132, el132, ok22, sz22, ag22, zt22, by22, List.flatten_cons, List.flatten_nil, List.nil_append, List.map_nil]; refine ⟨rfl, (by simp), ?_⟩ <;> (refine k' _ _ ?_; clear k' K'))
  all_goals (refine S.g rfl rfl fun K' k' => ?_; simp only [zz, reduceIte, Nat.reduceEqDiff, Nat.reduceLT, Nat.reduceLeDiff, Nat.reduceAdd, reduceCtorEq, Nat.reduceMul, List.flatten_cons, List.flatten_nil, List.nil_append, List.map_nil]; refine PCalls.eqto (concat_frozen [[], []] (by simp) (by simp) htot) ?_ <;> (refine k' _ _ ?_; clear k' K'))
  all_goals (refine S.g rfl rfl fun K' k' => ?_; simp only [zz, reduceIte, Nat.reduceEqDiff, Nat.reduceLT, Nat.reduceLeDiff, Nat.reduceAdd, reduceCtorEq, Nat.reduceMul, zt24, pl24, List.flatten_cons, List.flatten_nil, List.nil_append, List.map_nil]; refine k' _ _ ?_; clear k' K')
  all_goals (refine S.g rfl rfl fun K' k' => ?_; simp only [zz, reduceIte, Nat.reduceEqDiff, Nat.reduceLT, Nat.reduceLeDiff, Nat.reduceAdd, reduceCtorEq, Nat.reduceMul, List.flatten_cons, List.flatten_nil, List.nil_append, List.map_nil]; refine ((clone_grow [] (by simp) (by simp)).to fun v σ1 hv => ?_); replace hv := hv.resolve_right (fun h => by obtain ⟨_, h, _⟩ := h; exact h rfl); obtain ⟨_, rfl, rfl⟩ := hv <;> (refine k' _ _ ?_; clear k' K'))
  all_goals iterate 2 (refine S.g rfl rfl fun K' k' => ?_; simp only [zz, reduceIte, Nat.reduceEqDiff, Nat.reduceLT, Nat.reduceLeDiff, Nat.reduceAdd, reduceCtorEq, Nat.reduceMul, zt24, ok24, sz24, ag24, List.flatten_cons, List.flatten_nil, List.nil_append, List.map_nil]; refine k' _ _ ?_; clear k' K')
  all_goals refine S.nil ?_
  all_goals simp only [ze, reduceIte, Nat.reduceEqDiff, Nat.reduceLT, Nat.reduceLeDiff, Nat.reduceAdd, reduceCtorEq, Nat.reduceMul, List.flatten_cons, List.flatten_nil, List.nil_append, List.map_nil]
  all_goals apply_assumption
  refine AW.seq_k fun K5 h5 => ?_
  all_goals refine AW.region (T := { raw := fun d => d == 63 }) (fun _ _ h => by cases h) rfl ?_
  all_goals iterate 2 (refine S.g rfl rfl fun K' k' => ?_; simp only [zz, reduceIte, Nat.reduceEqDiff, Nat.reduceLT, Nat.reduceLeDiff, Nat.reduceAdd, reduceCtorEq, Nat.reduceMul, of24_0, ok22, sz22, ag22]; refine k' _ _ ?_; clear k' K')
  all_goals (refine S.g rfl rfl fun K' k' => ?_; simp only [zz, reduceIte, Nat.reduceEqDiff, Nat.reduceLT, Nat.reduceLeDiff, Nat.reduceAdd, reduceCtorEq, Nat.reduceMul]; refine PCalls.eqto sort_nil ?_ <;> (refine k' _ _ ?_; clear k' K'))
  all_goals refine S.nil ?_
  all_goals simp only [ze, reduceIte, Nat.reduceEqDiff, Nat.reduceLT, Nat.reduceLeDiff, Nat.reduceAdd, reduceCtorEq, Nat.reduceMul]
  all_goals apply_assumption
  refine AW.seq_k fun K6 h6 => ?_
  refine AW.seq_k fun K7 h7 => ?_
  all_goals refine AW.reg0 ?_
  all_goals (refine S.g rfl rfl fun K' k' => ?_; simp only [zz, reduceIte, Nat.reduceEqDiff, Nat.reduceLT, Nat.reduceLeDiff, Nat.reduceAdd, reduceCtorEq, Nat.reduceMul, ok24, sz24, ag24, hpe]; refine k' _ _ ?_; clear k' K')
  all_goals (refine S.g rfl rfl fun K' k' => ?_; simp only [zz, reduceIte, Nat.reduceEqDiff, Nat.reduceLT, Nat.reduceLeDiff, Nat.reduceAdd, reduceCtorEq, Nat.reduceMul, hpe]; refine PCalls.eqto (check_part [] hok) ?_ <;> (refine k' _ _ ?_; clear k' K'))
  all_goals (refine S.g rfl rfl fun K' k' => ?_; simp only [zz, reduceIte, Nat.reduceEqDiff, Nat.reduceAdd, hpe]; refine k' _ _ ?_; clear k' K')
  all_goals refine S.nil ?_
  all_goals simp only [ze, reduceIte, Nat.reduceEqDiff, Nat.reduceLT, Nat.reduceLeDiff, Nat.reduceAdd, reduceCtorEq, Nat.reduceMul, hpe]
  all_goals apply_assumption
  refine AW.cond (b := false) (by simp [ev]) (fun hc => by cases hc) (fun hc => AW.skip ?_)
  all_goals simp only [zs, reduceIte, Nat.reduceEqDiff, Nat.reduceLT, Nat.reduceLeDiff, Nat.reduceAdd, reduceCtorEq, Nat.reduceMul]
  all_goals apply_assumption
  refine AW.seq_k fun K8 h8 => ?_
  all_goals refine AW.reg0 ?_
  all_goals iterate 3 (refine S.g rfl rfl fun K' k' => ?_; simp only [zz, reduceIte, Nat.reduceEqDiff, Nat.reduceLT, Nat.reduceLeDiff, Nat.reduceAdd, reduceCtorEq, Nat.reduceMul, ok24, sz24, ag24]; refine k' _ _ ?_; clear k' K')
  all_goals refine S.nil ?_
  all_goals simp only [ze, reduceIte, Nat.reduceEqDiff, Nat.reduceLT, Nat.reduceLeDiff, Nat.reduceAdd, reduceCtorEq, Nat.reduceMul]
  all_goals apply_assumption
  refine AW.ret ?_
  all_goals simp only [zs, reduceIte, Nat.reduceEqDiff, Nat.reduceLT, Nat.reduceLeDiff, Nat.reduceAdd, reduceCtorEq, Nat.reduceMul, qLoad, ok24, sz24, ag24, cut, List.drop_zero, List.take_succ_cons, List.take_zero, List.map]
end Go.Abs.M
namespace Go.Abs.M
open Go Go.Abs Go.Proofs
theorem bytesLess_eq' : ∀ (x y : List UInt8), Op.bytesLess x y = decide (x < y)
  | [], [] => by simp [Op.bytesLess]
  | _ :: _, [] => by simp [Op.bytesLess]
  | [], _ :: _ => by simp [Op.bytesLess]
  | a :: x, b :: y => by
    rw [Op.bytesLess, bytesLess_eq' x y]
    simp only [List.cons_lt_cons_iff]
    by_cases h1 : a < b <;> by_cases h2 : a = b <;> by_cases h3 : x < y <;> simp [h1, h2, h3]
theorem leS_iff (a b : ByteArray) : leS a b = true ↔ ¬ b.toList < a.toList := by
  simp only [leS, bytesLess_eq', Bool.or_eq_true, decide_eq_true_eq, beq_iff_eq]
  constructor
  · rintro (h | h)
    · exact List.lt_asymm h
    · rw [h]; exact List.lt_irrefl _
  · intro h
    have h : a.toList ≤ b.toList := h
    by_cases e : a.toList = b.toList
    · exact .inr e
    · rcases List.le_iff_lt_or_eq.1 h with h | h
      · exact .inl h
      · exact absurd h e
theorem leS_false (a b : ByteArray) : leS a b = false ↔ b.toList < a.toList := by
  rw [← Bool.not_eq_true, leS_iff, Decidable.not_not]
theorem leS_trans {a b c : ByteArray} (h : leS a b = true) (k : leS b c = true) : leS a c = true := by
  rw [leS_iff] at *
  exact List.le_trans (show a.toList ≤ b.toList from h) (show b.toList ≤ c.toList from k)
theorem leS_total {a b : ByteArray} (h : leS a b = false) : leS b a = true := by
  rw [leS_false] at h; rw [leS_iff]; exact List.lt_asymm h
theorem cmpS_neg (a b : ByteArray) : cmpS a b < 0 ↔ leS b a = false := by
  rw [leS_false]
  unfold cmpS
  rw [bytesLess_eq']
  by_cases h : a.toList < b.toList
  · simp [h]
  · simp only [h, decide_false, Bool.false_eq_true, if_false, Bool.false_or, iff_false]
    split <;> omega
def insL : List Bd → Bd → List Bd
  | [], y => [y]
  | x :: p, y => if leS x.var y.var = true then x :: insL p y else y :: x :: p
def Srt : List Bd → Prop
  | [] => True
  | x :: p => (∀ y ∈ p, leS x.var y.var = true) ∧ Srt p
theorem Srt.append {p q : List Bd} (h : Srt (p ++ q)) : Srt p ∧ Srt q ∧ ∀ x ∈ p, ∀ y ∈ q, leS x.var y.var = true := by
  induction p with
  | nil => exact ⟨trivial, h, fun x hx => by cases hx⟩
  | cons x p ih =>
    obtain ⟨h1, h2⟩ := h
    obtain ⟨a, b, c⟩ := ih h2
    refine ⟨⟨fun y hy => h1 y (List.mem_append_left _ hy), a⟩, b, fun z hz y hy => ?_⟩
    rcases List.mem_cons.1 hz with rfl | hz
    · exact h1 y (List.mem_append_right _ hy)
    · exact c z hz y hy
theorem insL_end {p : List Bd} {y : Bd} (h : ∀ x ∈ p, leS x.var y.var = true) : insL p y = p ++ [y] := by
  induction p with
  | nil => rfl
  | cons x p ih => simp only [insL]; rw [if_pos (h x List.mem_cons_self), ih (fun z hz => h z (List.mem_cons_of_mem _ hz))]; rfl
theorem insL_last {q : List Bd} {z y : Bd} (h : leS z.var y.var = false) : insL (q ++ [z]) y = insL q y ++ [z] := by
  induction q with
  | nil => simp [insL, h]
  | cons x q ih =>
    simp only [List.cons_append, insL]
    split
    · rw [ih]; rfl
    · rfl
theorem insL_mem {p : List Bd} {y z : Bd} : z ∈ insL p y ↔ z = y ∨ z ∈ p := by
  induction p with
  | nil => simp [insL]
  | cons x p ih =>
    simp only [insL]
    split
    · simp only [List.mem_cons, ih]
      constructor
      · rintro (h | h | h) <;> simp [h]
      · rintro (h | h | h) <;> simp [h]
    · simp only [List.mem_cons]
theorem insL_len (p : List Bd) (y : Bd) : (insL p y).length = p.length + 1 := by
  induction p with
  | nil => rfl
  | cons x p ih => simp only [insL]; split <;> simp [ih]
theorem insL_srt {p : List Bd} {y : Bd} (h : Srt p) : Srt (insL p y) := by
  induction p with
  | nil => exact ⟨(fun _ h => by cases h), trivial⟩
  | cons x p ih =>
    simp only [insL]
    split
    · rename_i hxy
      refine ⟨fun z hz => ?_, ih h.2⟩
      rcases insL_mem.1 hz with rfl | hz
      · exact hxy
      · exact h.1 z hz
    · rename_i hxy
      have hyx := leS_total (by simpa using hxy)
      refine ⟨fun z hz => ?_, h⟩
      rcases List.mem_cons.1 hz with rfl | hz
      · exact hyx
      · exact leS_trans hyx (h.1 z hz)
theorem sink_ins : ∀ (n : Nat) (p : List Bd) (y : Bd) (r : List Bd), p.length = n → Srt p → sink 0 n (p ++ y :: r) = insL p y ++ r := by
  intro n
  induction n with
  | zero => intro p y r hp _; rw [List.eq_nil_of_length_eq_zero hp]; rfl
  | succ n ih =>
    intro p y r hp hs
    obtain ⟨q, z, rfl⟩ : ∃ q z, p = q ++ [z] := by
      refine ⟨p.dropLast, p.getLast (by intro e; simp [e] at hp), ?_⟩
      exact (List.dropLast_concat_getLast _).symm
    have hq : q.length = n := by simpa using hp
    have g1 : (q ++ [z] ++ y :: r)[n + 1]? = some y := by simp [hq]
    have g2 : (q ++ [z] ++ y :: r)[n]? = some z := by simp [hq]
    simp only [sink, g1, g2]
    obtain ⟨hs1, hs2, hs3⟩ := hs.append
    by_cases hlt : cmpS y.var z.var < 0
    · rw [if_pos ⟨by omega, hlt⟩]
      have e : ((q ++ [z] ++ y :: r).set (n + 1) z).set n y = q ++ y :: (z :: r) := by
        subst hq
        simp
      rw [e, ih q y (z :: r) hq hs1, insL_last ((cmpS_neg _ _).1 hlt)]
      simp
    · rw [if_neg (fun h => hlt h.2)]
      have hzy : leS z.var y.var = true := by
        cases h : leS z.var y.var
        · exact absurd ((cmpS_neg _ _).2 h) hlt
        · rfl
      rw [insL_end (fun x hx => ?_)]
      · simp
      · rcases List.mem_append.1 hx with h | h
        · exact leS_trans (hs3 x h z (by simp)) hzy
        · simp at h; rw [h]; exact hzy
theorem insFrom_ins : ∀ (bs p r : List Bd), Srt p → insFrom 0 (p ++ (bs ++ r)) p.length bs.length = bs.foldl insL p ++ r := by
  intro bs
  induction bs with
  | nil => intro p r _; rfl
  | cons y bs ih =>
    intro p r hs
    have h := ih (insL p y) r (insL_srt hs)
    rw [insL_len] at h
    simp only [List.length_cons, insFrom, List.range'_succ, List.foldl_cons] at h ⊢
    rw [List.cons_append, sink_ins p.length p y (bs ++ r) rfl hs]
    exact h
theorem insort_eq (l : List Bd) : insort 0 l.length l = l.foldl insL [] := by
  cases l with
  | nil => rfl
  | cons x l =>
    have h := insFrom_ins l [x] [] ⟨(fun _ h => by cases h), trivial⟩
    simpa [insort, insL] using h
theorem foldl_skip {x : Bd} : ∀ {b a : List Bd}, (∀ y ∈ b, leS x.var y.var = true) → b.foldl insL (x :: a) = x :: b.foldl insL a := by
  intro b
  induction b with
  | nil => intro a _; rfl
  | cons y b ih =>
    intro a h
    simp only [List.foldl_cons, insL]
    rw [if_pos (h y List.mem_cons_self), ih (fun z hz => h z (List.mem_cons_of_mem _ hz))]
theorem foldl_srt : ∀ {b : List Bd}, Srt b → b.foldl insL [] = b := by
  intro b
  induction b with
  | nil => intro _; rfl
  | cons y b ih =>
    intro h
    simp only [List.foldl_cons, insL]
    rw [foldl_skip h.1, ih h.2]
theorem foldl_mrg (a b : List Bd) : Srt a → Srt b → b.foldl insL a = mrg a b := by
  fun_induction mrg a b
  · intro _ hb; exact foldl_srt hb
  · intro _ _; rfl
  · rename_i x a y b hxy ih
    intro ha hb
    rw [foldl_skip, ih ha.2 hb]
    intro z hz
    rcases List.mem_cons.1 hz with rfl | hz
    · exact hxy
    · exact leS_trans hxy (hb.1 z hz)
  · rename_i x a y b hxy ih
    intro ha hb
    rw [List.foldl_cons, insL, if_neg hxy, foldl_skip hb.1, ih ha hb.2]
theorem insort_mrg (a b : List Bd) (ha : Srt a) (hb : Srt b) : insort 0 (a ++ b).length (a ++ b) = mrg a b := by
  rw [insort_eq, List.foldl_append, foldl_srt ha, foldl_mrg a b ha hb]
theorem partFrom_srt (n : Nat) : ∀ (l : List Bd) (p : Option ByteArray) (sn : List (Int × Int)), partFrom n p sn l = 0 → Srt l ∧ ∀ q, p = some q → ∀ x ∈ l, leS q x.var = true := by
  intro l
  induction l with
  | nil => intro p sn _; exact ⟨trivial, fun _ _ _ h => by cases h⟩
  | cons x l ih =>
    intro p sn h
    simp only [partFrom] at h
    split at h
    · cases h
    · rename_i hx
      split at h
      · rename_i h1; exact absurd h h1
      · obtain ⟨h1, h2⟩ := ih _ _ h
        refine ⟨⟨fun y hy => h2 _ rfl y hy, h1⟩, fun q hq y hy => ?_⟩
        subst hq
        have hqx : leS q x.var = true := by
          cases e : leS x.var q
          · exact leS_total e
          · exact absurd (.inr (.inl (by simpa using e))) hx
        rcases List.mem_cons.1 hy with rfl | hy
        · exact hqx
        · exact leS_trans hqx (h2 _ rfl y hy)
theorem part_srt {l : List Bd} (h : partErr l = 0) : Srt l := by
  unfold partErr at h
  split at h
  · cases h
  · exact (partFrom_srt _ l none [] h).1
end Go.Abs.M
namespace Go.Abs.M
open Go Go.Abs Go.Proofs
set_option maxRecDepth 20000
set_option linter.unusedSimpArgs false
set_option linter.unusedVariables false
theorem merge_spec (a b : List Bd) (ha : okP a) (hb : okP b) (hat : ∀ x ∈ a ++ b, x.ev.attrs.length * 48 ≤ 140737488355328) :
    PCalls Try.prog 11 [.agg [.sl (a.map encBd)], .agg [.sl (b.map encBd)]] (fun v => v = mergeV a b (mrg a b)) := by
  have hab : okP (a ++ b) := fun x hx => by
    rcases List.mem_append.1 hx with h | h
    · exact ha x h
    · exact hb x h
  by_cases h0 : a ++ b = []
  · obtain ⟨rfl, rfl⟩ := List.append_eq_nil_iff.1 h0
    exact merge_nil.mono fun v h => by rw [h]; rw [mergeV, if_neg (by decide), mrg, if_neg (by decide)]; rfl
  by_cases hl : (a ++ b).length < 20
  · refine (merge_gen a b ha hb hat (fun p => p = mrg a b) ⟨_, rfl⟩ h0 fun hx k => (sort_small (a ++ b) k hl).mono fun v σ' h => ⟨h.1, _, ?_, ?_, h.2⟩).mono fun v h => ?_
    · intro x hx
      exact hab x ((insort_sub _ _ _).2 x hx)
    · exact insort_mrg a b (part_srt (Decidable.not_not.1 fun h => hx (.inl h))) (part_srt (Decidable.not_not.1 fun h => hx (.inr h)))
    · obtain ⟨p, rfl, rfl⟩ := h; rfl
  · refine (merge_gen a b ha hb hat (fun p => 12 < p.length) ⟨a ++ b, by omega⟩ h0 fun hx k => ?_).mono fun v h => ?_
    · have h1 : a.length ≤ 12 := by
        by_cases h : 12 < a.length
        · exact absurd (.inl (by simp [partErr, h])) hx
        · omega
      have h2 : b.length ≤ 12 := by
        by_cases h : 12 < b.length
        · exact absurd (.inr (by simp [partErr, h])) hx
        · omega
      refine (sort_weak (a ++ b) k (by rw [List.length_append]; omega)).mono fun v σ' h => ?_
      obtain ⟨h3, p, hp, h4⟩ := h
      exact ⟨h3, p, fun x hx => hab x (hp.2 x hx), by rw [hp.1]; omega, h4⟩
    · obtain ⟨p, hp, rfl⟩ := h
      have h1 : partErr p ≠ 0 := by simp [partErr, hp]
      have hm := mrg_len a b
      rw [List.length_append] at hl
      have h2 : partErr (mrg a b) ≠ 0 := by simp [partErr, show 12 < (mrg a b).length by omega]
      rw [mergeV, mergeV, if_pos h1, if_pos h2]
end Go.Abs.M
namespace Go.Abs.M
open Go Go.Abs Go.Proofs
def tN : ByteArray := ⟨#[116]⟩
def bA : Bd := ⟨⟨#[97]⟩, ⟨0, 1, 5, tN, []⟩⟩
def bB : Bd := ⟨⟨#[98]⟩, ⟨1, 0, 7, tN, []⟩⟩
def bC : Bd := ⟨⟨#[99]⟩, ⟨0, 1, 5, tN, []⟩⟩
theorem ba_list (x : UInt8) : (ByteArray.mk #[x]).toList = [x] := by simp
theorem leS_one (x y : UInt8) : leS ⟨#[x]⟩ ⟨#[y]⟩ = (decide (x < y) || x == y) := by
  simp only [leS, ba_list, Op.bytesLess]
  by_cases h : x < y <;> by_cases k : x = y <;> simp [h, k]
theorem named_A (n : Nat) : named n bA = true := by simp [named, bA, isName, nameL, nameC, letter, ByteArray.size]
theorem named_B (n : Nat) : named n bB = true := by simp [named, bB, isName, nameL, nameC, letter, ByteArray.size]
theorem named_C (n : Nat) : named n bC = true := by simp [named, bC, isName, nameL, nameC, letter, ByteArray.size]
theorem err_A : evErr bA.ev = 0 := by simp [evErr, bA, isName, nameL, nameC, letter, ByteArray.size, timeOk, attrsErr, attrsFrom, tN]
theorem err_B : evErr bB.ev = 0 := by simp [evErr, bB, isName, nameL, nameC, letter, ByteArray.size, timeOk, attrsErr, attrsFrom, tN]
theorem err_C : evErr bC.ev = 0 := by simp [evErr, bC, isName, nameL, nameC, letter, ByteArray.size, timeOk, attrsErr, attrsFrom, tN]
theorem part_A : partErr [bA] = 0 := by simp [partErr, partFrom, named_A, err_A]
theorem part_B : partErr [bB] = 0 := by simp [partErr, partFrom, named_B, err_B]
theorem part_C : partErr [bC] = 0 := by simp [partErr, partFrom, named_C, err_C]
theorem mrg_BA : mrg [bB] [bA] = [bA, bB] := by
  rw [mrg, if_neg (by simp [bA, bB, leS_one]), mrg_nil]
theorem mrg_AC : mrg [bA] [bC] = [bA, bC] := by
  rw [mrg, if_pos (by simp [bA, bC, leS_one]), mrg]
theorem part_AB : partErr [bA, bB] = 0 := by
  simp [partErr, partFrom, named_A, named_B, err_A, err_B]
  simp [bA, bB, leS_one]
theorem part_AC : partErr [bA, bC] ≠ 0 := by
  simp [partErr, partFrom, named_A, err_A]
  simp [bA, bC]
theorem ok_one' {b : Bd} (h1 : b.var.size < 4611686018427387904) (h2 : b.ev.type.size < 4611686018427387904) (h3 : b.ev.attrs = []) : okP [b] := by
  intro x hx
  simp at hx
  subst hx
  exact ⟨h1, ⟨h2, by rw [h3]; decide, by rw [h3]; intro a ha; cases ha⟩⟩
theorem ok_A : okP [bA] := ok_one' (by decide) (by decide) rfl
theorem ok_B : okP [bB] := ok_one' (by decide) (by decide) rfl
theorem ok_C : okP [bC] := ok_one' (by decide) (by decide) rfl
end Go.Abs.M
namespace Go.Abs.M
open Go Go.Abs Go.Proofs
set_option maxRecDepth 20000
set_option linter.unusedSimpArgs false
set_option linter.unusedVariables false
def partV (l : List Bd) : V := .tup [.agg [.sl (l.map encBd)], .c (.int .i64 0)]
theorem of_ok (b : Bd) (h : partErr [b] = 0) (ho : okP [b]) (hl : b.ev.attrs = []) : PCalls Try.prog 19 [.c (.string b.var), .agg (encEv b.ev)] (fun v => v = partV [b]) :=
  (of_spec b.var b.ev ho (by simp [hl])).mono fun v hv => by rw [hv]; exact if_neg (by rw [show (⟨b.var, b.ev⟩ : Bd) = b from rfl, h]; simp)
theorem merge_BA : PCalls Try.prog 11 [.agg [.sl ([bB].map encBd)], .agg [.sl ([bA].map encBd)]] (fun v => v = .tup [.agg [.sl ([bA, bB].map encBd)], .c (.bool true)]) :=
  (merge_spec [bB] [bA] ok_B ok_A (by simp [bA, bB])).mono fun v hv => by
    rw [hv, mrg_BA, mergeV, if_neg (by rw [part_A, part_B]; simp), if_neg (by rw [part_AB]; simp)]
theorem merge_AC : PCalls Try.prog 11 [.agg [.sl ([bA].map encBd)], .agg [.sl ([bC].map encBd)]] (fun v => v = noPart) :=
  (merge_spec [bA] [bC] ok_A ok_C (by simp [bA, bC])).mono fun v hv => by
    rw [hv, mrg_AC, mergeV, if_neg (by rw [part_A, part_C]; simp), if_pos part_AC]
theorem begun_spec : PCalls Try.prog 13 [] (fun v => v = .c (.bool true)) := by
  refine PCalls.intro Try.call13 Try.func13 rfl Try.ntmps13 Try.results13 (by simp) ?_
  have hbeg : beginOf [bA, bB] = 5 := by decide
  have hend : endOf [bA, bB] = 7 := by decide
  refine AW.seq_k fun K1 h1 => ?_
  all_goals refine AW.reg0 ?_
  all_goals (refine S.g rfl rfl fun K' k' => ?_; simp only [zz, reduceIte, Nat.reduceEqDiff, Nat.reduceAdd]; refine k' _ _ ?_; clear k' K')
  all_goals refine S.nil ?_
  all_goals simp only [ze, reduceIte, Nat.reduceEqDiff, Nat.reduceLT, Nat.reduceLeDiff, Nat.reduceAdd, reduceCtorEq, Nat.reduceMul]
  all_goals apply_assumption
  refine AW.seq_k fun K2 h2 => ?_
  all_goals refine AW.reg0 ?_
  all_goals (refine S.g rfl rfl fun K' k' => ?_; simp only [zz, reduceIte, Nat.reduceEqDiff, Nat.reduceLT, Nat.reduceLeDiff, Nat.reduceAdd, reduceCtorEq, Nat.reduceMul, zt33, pl33, partV]; refine k' _ _ ?_; clear k' K')
  all_goals (refine S.g rfl rfl fun K' k' => ?_; simp only [zz, reduceIte, Nat.reduceEqDiff, Nat.reduceLT, Nat.reduceLeDiff, Nat.reduceAdd, reduceCtorEq, Nat.reduceMul, zt36, pl36, partV]; refine k' _ _ ?_; clear k' K')
  all_goals (refine S.g rfl rfl fun K' k' => ?_; simp only [zz, reduceIte, Nat.reduceEqDiff, Nat.reduceLT, Nat.reduceLeDiff, Nat.reduceAdd, reduceCtorEq, Nat.reduceMul, partV]; refine PCalls.eqto (of_ok bA part_A ok_A rfl) ?_ <;> (refine k' _ _ ?_; clear k' K'))
  all_goals iterate 6 (refine S.g rfl rfl fun K' k' => ?_; simp only [zz, reduceIte, Nat.reduceEqDiff, Nat.reduceLT, Nat.reduceLeDiff, Nat.reduceAdd, reduceCtorEq, Nat.reduceMul, zt24, ok24, sz24, ag24, partV]; refine k' _ _ ?_; clear k' K')
  all_goals refine S.nil ?_
  all_goals simp only [ze, reduceIte, Nat.reduceEqDiff, Nat.reduceLT, Nat.reduceLeDiff, Nat.reduceAdd, reduceCtorEq, Nat.reduceMul, partV]
  all_goals apply_assumption
  refine AW.seq_k fun K3 h3 => ?_
  all_goals refine AW.reg0 ?_
  all_goals (refine S.g rfl rfl fun K' k' => ?_; simp only [zz, reduceIte, Nat.reduceEqDiff, Nat.reduceLT, Nat.reduceLeDiff, Nat.reduceAdd, reduceCtorEq, Nat.reduceMul, zt33, pl33, partV]; refine k' _ _ ?_; clear k' K')
  all_goals (refine S.g rfl rfl fun K' k' => ?_; simp only [zz, reduceIte, Nat.reduceEqDiff, Nat.reduceLT, Nat.reduceLeDiff, Nat.reduceAdd, reduceCtorEq, Nat.reduceMul, zt36, pl36, partV]; refine k' _ _ ?_; clear k' K')
  all_goals (refine S.g rfl rfl fun K' k' => ?_; simp only [zz, reduceIte, Nat.reduceEqDiff, Nat.reduceLT, Nat.reduceLeDiff, Nat.reduceAdd, reduceCtorEq, Nat.reduceMul, partV]; refine PCalls.eqto (of_ok bB part_B ok_B rfl) ?_ <;> (refine k' _ _ ?_; clear k' K'))
  all_goals iterate 6 (refine S.g rfl rfl fun K' k' => ?_; simp only [zz, reduceIte, Nat.reduceEqDiff, Nat.reduceLT, Nat.reduceLeDiff, Nat.reduceAdd, reduceCtorEq, Nat.reduceMul, zt24, ok24, sz24, ag24, partV]; refine k' _ _ ?_; clear k' K')
  all_goals refine S.nil ?_
  all_goals simp only [ze, reduceIte, Nat.reduceEqDiff, Nat.reduceLT, Nat.reduceLeDiff, Nat.reduceAdd, reduceCtorEq, Nat.reduceMul, partV]
  all_goals apply_assumption
  refine AW.seq_k fun K4 h4 => ?_
  all_goals refine AW.reg0 ?_
  all_goals (refine S.g rfl rfl fun K' k' => ?_; simp only [zz, reduceIte, Nat.reduceEqDiff, Nat.reduceLT, Nat.reduceLeDiff, Nat.reduceAdd, reduceCtorEq, Nat.reduceMul, zt33, pl33, partV]; refine k' _ _ ?_; clear k' K')
  all_goals (refine S.g rfl rfl fun K' k' => ?_; simp only [zz, reduceIte, Nat.reduceEqDiff, Nat.reduceLT, Nat.reduceLeDiff, Nat.reduceAdd, reduceCtorEq, Nat.reduceMul, zt36, pl36, partV]; refine k' _ _ ?_; clear k' K')
  all_goals (refine S.g rfl rfl fun K' k' => ?_; simp only [zz, reduceIte, Nat.reduceEqDiff, Nat.reduceLT, Nat.reduceLeDiff, Nat.reduceAdd, reduceCtorEq, Nat.reduceMul, partV]; refine PCalls.eqto (of_ok bC part_C ok_C rfl) ?_ <;> (refine k' _ _ ?_; clear k' K'))
  all_goals iterate 6 (refine S.g rfl rfl fun K' k' => ?_; simp only [zz, reduceIte, Nat.reduceEqDiff, Nat.reduceLT, Nat.reduceLeDiff, Nat.reduceAdd, reduceCtorEq, Nat.reduceMul, zt24, ok24, sz24, ag24, partV]; refine k' _ _ ?_; clear k' K')
  all_goals refine S.nil ?_
  all_goals simp only [ze, reduceIte, Nat.reduceEqDiff, Nat.reduceLT, Nat.reduceLeDiff, Nat.reduceAdd, reduceCtorEq, Nat.reduceMul, partV]
  all_goals apply_assumption
  refine AW.seq_k fun K5 h5 => ?_
  all_goals refine AW.reg0 ?_
  all_goals iterate 2 (refine S.g rfl rfl fun K' k' => ?_; simp only [zz, reduceIte, Nat.reduceEqDiff, Nat.reduceLT, Nat.reduceLeDiff, Nat.reduceAdd, reduceCtorEq, Nat.reduceMul, ok24, sz24, ag24, partV]; refine k' _ _ ?_; clear k' K')
  all_goals (refine S.g rfl rfl fun K' k' => ?_; simp only [zz, reduceIte, Nat.reduceEqDiff, Nat.reduceLT, Nat.reduceLeDiff, Nat.reduceAdd, reduceCtorEq, Nat.reduceMul, partV]; refine PCalls.eqto merge_BA ?_ <;> (refine k' _ _ ?_; clear k' K'))
  all_goals iterate 6 (refine S.g rfl rfl fun K' k' => ?_; simp only [zz, reduceIte, Nat.reduceEqDiff, Nat.reduceLT, Nat.reduceLeDiff, Nat.reduceAdd, reduceCtorEq, Nat.reduceMul, zt24, ok24, sz24, ag24, partV]; refine k' _ _ ?_; clear k' K')
  all_goals refine S.nil ?_
  all_goals simp only [ze, reduceIte, Nat.reduceEqDiff, Nat.reduceLT, Nat.reduceLeDiff, Nat.reduceAdd, reduceCtorEq, Nat.reduceMul, partV]
  all_goals apply_assumption
  refine AW.seq_k fun K6 h6 => ?_
  all_goals refine AW.reg0 ?_
  all_goals iterate 2 (refine S.g rfl rfl fun K' k' => ?_; simp only [zz, reduceIte, Nat.reduceEqDiff, Nat.reduceLT, Nat.reduceLeDiff, Nat.reduceAdd, reduceCtorEq, Nat.reduceMul, ok24, sz24, ag24, partV, noPart]; refine k' _ _ ?_; clear k' K')
  all_goals (refine S.g rfl rfl fun K' k' => ?_; simp only [zz, reduceIte, Nat.reduceEqDiff, Nat.reduceLT, Nat.reduceLeDiff, Nat.reduceAdd, reduceCtorEq, Nat.reduceMul, partV, noPart]; refine PCalls.eqto merge_AC ?_ <;> (refine k' _ _ ?_; clear k' K'))
  all_goals iterate 6 (refine S.g rfl rfl fun K' k' => ?_; simp only [zz, reduceIte, Nat.reduceEqDiff, Nat.reduceLT, Nat.reduceLeDiff, Nat.reduceAdd, reduceCtorEq, Nat.reduceMul, zt24, ok24, sz24, ag24, partV, noPart]; refine k' _ _ ?_; clear k' K')
  all_goals refine S.nil ?_
  all_goals simp only [ze, reduceIte, Nat.reduceEqDiff, Nat.reduceLT, Nat.reduceLeDiff, Nat.reduceAdd, reduceCtorEq, Nat.reduceMul, partV, noPart]
  all_goals apply_assumption
  refine AW.seq_k fun K7 h7 => ?_
  all_goals refine AW.reg0 ?_
  all_goals (refine S.g rfl rfl fun K' k' => ?_; simp only [zz, reduceIte, Nat.reduceEqDiff, Nat.reduceAdd, hbeg, hend, List.length_map]; refine k' _ _ ?_; clear k' K')
  all_goals (refine S.g rfl rfl fun K' k' => ?_; simp only [zz, reduceIte, Nat.reduceEqDiff, Nat.reduceLT, Nat.reduceLeDiff, Nat.reduceAdd, reduceCtorEq, Nat.reduceMul, hbeg, hend, List.length_map]; refine S.bool fun b a42 => ?_; cases b <;> (try (exfalso; first | exact Bool.noConfusion a42 | (have h := of_decide_eq_true a42; omega) | (have h := of_decide_eq_false a42; omega))) <;> (refine k' _ _ ?_; clear k' K'))
  all_goals (refine S.g rfl rfl fun K' k' => ?_; simp only [zz, reduceIte, Nat.reduceEqDiff, Nat.reduceAdd, hbeg, hend, List.length_map]; refine k' _ _ ?_; clear k' K')
  all_goals (first | (refine S.y rfl rfl rfl rfl fun K' k' => ?_; simp only [zz, reduceIte, Nat.reduceEqDiff, Nat.reduceAdd, hbeg, hend, List.length_map]; refine k' _ _ ?_; clear k' K') | ((first | refine S.x rfl rfl rfl rfl fun K' k' => ?_ | refine S.u rfl rfl rfl rfl fun K' k' => ?_); simp only [ze, reduceIte, Nat.reduceEqDiff]; refine k' _ _ ?_; clear k' K'))
  all_goals (first | (refine S.y rfl rfl rfl rfl fun K' k' => ?_; simp only [zz, reduceIte, Nat.reduceEqDiff, Nat.reduceLT, Nat.reduceLeDiff, Nat.reduceAdd, reduceCtorEq, Nat.reduceMul, hbeg, hend, List.length_map]; refine S.bool fun b a45 => ?_; cases b <;> (try (exfalso; first | exact Bool.noConfusion a45 | (have h := of_decide_eq_true a45; omega) | (have h := of_decide_eq_false a45; omega))) <;> (refine k' _ _ ?_; clear k' K')) | ((first | refine S.x rfl rfl rfl rfl fun K' k' => ?_ | refine S.u rfl rfl rfl rfl fun K' k' => ?_); simp only [ze, reduceIte, Nat.reduceEqDiff]; refine k' _ _ ?_; clear k' K'))
  all_goals iterate 2 (refine S.g rfl rfl fun K' k' => ?_; simp only [zz, reduceIte, Nat.reduceEqDiff, Nat.reduceAdd, hbeg, hend, List.length_map]; refine k' _ _ ?_; clear k' K')
  all_goals (first | (refine S.y rfl rfl rfl rfl fun K' k' => ?_; simp only [zz, reduceIte, Nat.reduceEqDiff, Nat.reduceAdd, hbeg, hend, List.length_map]; refine k' _ _ ?_; clear k' K') | ((first | refine S.x rfl rfl rfl rfl fun K' k' => ?_ | refine S.u rfl rfl rfl rfl fun K' k' => ?_); simp only [ze, reduceIte, Nat.reduceEqDiff]; refine k' _ _ ?_; clear k' K'))
  all_goals (first | (refine S.y rfl rfl rfl rfl fun K' k' => ?_; simp only [zz, reduceIte, Nat.reduceEqDiff, Nat.reduceLT, Nat.reduceLeDiff, Nat.reduceAdd, reduceCtorEq, Nat.reduceMul, hbeg, hend, List.length_map]; refine S.bool fun b a49 => ?_; cases b <;> (try (exfalso; first | exact Bool.noConfusion a49 | (have h := of_decide_eq_true a49; omega) | (have h := of_decide_eq_false a49; omega))) <;> (refine k' _ _ ?_; clear k' K')) | ((first | refine S.x rfl rfl rfl rfl fun K' k' => ?_ | refine S.u rfl rfl rfl rfl fun K' k' => ?_); simp only [ze, reduceIte, Nat.reduceEqDiff]; refine k' _ _ ?_; clear k' K'))
  all_goals iterate 2 (refine S.g rfl rfl fun K' k' => ?_; simp only [zz, reduceIte, Nat.reduceEqDiff, Nat.reduceAdd, hbeg, hend, List.length_map]; refine k' _ _ ?_; clear k' K')
  all_goals (first | (refine S.y rfl rfl rfl rfl fun K' k' => ?_; simp only [zz, reduceIte, Nat.reduceEqDiff, Nat.reduceAdd, hbeg, hend, List.length_map]; refine k' _ _ ?_; clear k' K') | ((first | refine S.x rfl rfl rfl rfl fun K' k' => ?_ | refine S.u rfl rfl rfl rfl fun K' k' => ?_); simp only [ze, reduceIte, Nat.reduceEqDiff]; refine k' _ _ ?_; clear k' K'))
  all_goals iterate 2 (refine S.g rfl rfl fun K' k' => ?_; simp only [zz, reduceIte, Nat.reduceEqDiff, Nat.reduceAdd, hbeg, hend, List.length_map]; refine k' _ _ ?_; clear k' K')
  all_goals iterate 2 (first | (refine S.y rfl rfl rfl rfl fun K' k' => ?_; simp only [zz, reduceIte, Nat.reduceEqDiff, Nat.reduceAdd, hbeg, hend, List.length_map]; refine k' _ _ ?_; clear k' K') | ((first | refine S.x rfl rfl rfl rfl fun K' k' => ?_ | refine S.u rfl rfl rfl rfl fun K' k' => ?_); simp only [ze, reduceIte, Nat.reduceEqDiff]; refine k' _ _ ?_; clear k' K'))
  all_goals iterate 2 (refine S.g rfl rfl fun K' k' => ?_; simp only [zz, reduceIte, Nat.reduceEqDiff, Nat.reduceAdd, hbeg, hend, List.length_map]; refine k' _ _ ?_; clear k' K')
  all_goals (first | (refine S.y rfl rfl rfl rfl fun K' k' => ?_; simp only [zz, reduceIte, Nat.reduceEqDiff, Nat.reduceLT, Nat.reduceLeDiff, Nat.reduceAdd, reduceCtorEq, Nat.reduceMul, ok24, sz24, ag24, hbeg, hend, List.length_map]; refine k' _ _ ?_; clear k' K') | ((first | refine S.x rfl rfl rfl rfl fun K' k' => ?_ | refine S.u rfl rfl rfl rfl fun K' k' => ?_); simp only [ze, reduceIte, Nat.reduceEqDiff]; refine k' _ _ ?_; clear k' K'))
  all_goals (first | (refine S.y rfl rfl rfl rfl fun K' k' => ?_; simp only [zz, reduceIte, Nat.reduceEqDiff, Nat.reduceLT, Nat.reduceLeDiff, Nat.reduceAdd, reduceCtorEq, Nat.reduceMul, hbeg, hend, List.length_map]; refine PCalls.eqto (begin_spec [bA, bB] (by simp)) ?_ <;> (refine k' _ _ ?_; clear k' K')) | ((first | refine S.x rfl rfl rfl rfl fun K' k' => ?_ | refine S.u rfl rfl rfl rfl fun K' k' => ?_); simp only [ze, reduceIte, Nat.reduceEqDiff]; refine k' _ _ ?_; clear k' K'))
  all_goals (first | (refine S.y rfl rfl rfl rfl fun K' k' => ?_; simp only [zz, reduceIte, Nat.reduceEqDiff, Nat.reduceLT, Nat.reduceLeDiff, Nat.reduceAdd, reduceCtorEq, Nat.reduceMul, hbeg, hend, List.length_map]; refine S.bool fun b a61 => ?_; cases b <;> (try (exfalso; first | exact Bool.noConfusion a61 | (have h := of_decide_eq_true a61; omega) | (have h := of_decide_eq_false a61; omega))) <;> (refine k' _ _ ?_; clear k' K')) | ((first | refine S.x rfl rfl rfl rfl fun K' k' => ?_ | refine S.u rfl rfl rfl rfl fun K' k' => ?_); simp only [ze, reduceIte, Nat.reduceEqDiff]; refine k' _ _ ?_; clear k' K'))
  all_goals iterate 2 (refine S.g rfl rfl fun K' k' => ?_; simp only [zz, reduceIte, Nat.reduceEqDiff, Nat.reduceAdd, hbeg, hend, List.length_map]; refine k' _ _ ?_; clear k' K')
  all_goals (first | (refine S.y rfl rfl rfl rfl fun K' k' => ?_; simp only [zz, reduceIte, Nat.reduceEqDiff, Nat.reduceLT, Nat.reduceLeDiff, Nat.reduceAdd, reduceCtorEq, Nat.reduceMul, ok24, sz24, ag24, hbeg, hend, List.length_map]; refine k' _ _ ?_; clear k' K') | ((first | refine S.x rfl rfl rfl rfl fun K' k' => ?_ | refine S.u rfl rfl rfl rfl fun K' k' => ?_); simp only [ze, reduceIte, Nat.reduceEqDiff]; refine k' _ _ ?_; clear k' K'))
  all_goals (first | (refine S.y rfl rfl rfl rfl fun K' k' => ?_; simp only [zz, reduceIte, Nat.reduceEqDiff, Nat.reduceLT, Nat.reduceLeDiff, Nat.reduceAdd, reduceCtorEq, Nat.reduceMul, hbeg, hend, List.length_map]; refine PCalls.eqto (end_spec [bA, bB] (by simp)) ?_ <;> (refine k' _ _ ?_; clear k' K')) | ((first | refine S.x rfl rfl rfl rfl fun K' k' => ?_ | refine S.u rfl rfl rfl rfl fun K' k' => ?_); simp only [ze, reduceIte, Nat.reduceEqDiff]; refine k' _ _ ?_; clear k' K'))
  all_goals (first | (refine S.y rfl rfl rfl rfl fun K' k' => ?_; simp only [zz, reduceIte, Nat.reduceEqDiff, Nat.reduceLT, Nat.reduceLeDiff, Nat.reduceAdd, reduceCtorEq, Nat.reduceMul, hbeg, hend, List.length_map]; refine S.bool fun b a66 => ?_; cases b <;> (try (exfalso; first | exact Bool.noConfusion a66 | (have h := of_decide_eq_true a66; omega) | (have h := of_decide_eq_false a66; omega))) <;> (refine k' _ _ ?_; clear k' K')) | ((first | refine S.x rfl rfl rfl rfl fun K' k' => ?_ | refine S.u rfl rfl rfl rfl fun K' k' => ?_); simp only [ze, reduceIte, Nat.reduceEqDiff]; refine k' _ _ ?_; clear k' K'))
  all_goals iterate 2 (refine S.g rfl rfl fun K' k' => ?_; simp only [zz, reduceIte, Nat.reduceEqDiff, Nat.reduceAdd, hbeg, hend, List.length_map]; refine k' _ _ ?_; clear k' K')
  all_goals iterate 4 (first | (refine S.y rfl rfl rfl rfl fun K' k' => ?_; simp only [zz, reduceIte, Nat.reduceEqDiff, Nat.reduceLT, Nat.reduceLeDiff, Nat.reduceAdd, reduceCtorEq, Nat.reduceMul, of24_0, ok22, sz22, ag22, sl22, el22, ok42, sz42, ag42, hbeg, hend, List.length_map]; refine k' _ _ ?_; clear k' K') | ((first | refine S.x rfl rfl rfl rfl fun K' k' => ?_ | refine S.u rfl rfl rfl rfl fun K' k' => ?_); simp only [ze, reduceIte, Nat.reduceEqDiff]; refine k' _ _ ?_; clear k' K'))
  all_goals iterate 2 (refine S.g rfl rfl fun K' k' => ?_; simp only [zz, reduceIte, Nat.reduceEqDiff, Nat.reduceAdd, hbeg, hend, List.length_map]; refine k' _ _ ?_; clear k' K')
  all_goals refine S.nil ?_
  all_goals simp only [ze, reduceIte, Nat.reduceEqDiff, Nat.reduceLT, Nat.reduceLeDiff, Nat.reduceAdd, reduceCtorEq, Nat.reduceMul, hbeg, hend, List.length_map]
  all_goals apply_assumption
  refine AW.ret ?_
  all_goals simp only [zs, reduceIte, Nat.reduceEqDiff, Nat.reduceLT, Nat.reduceLeDiff, Nat.reduceAdd, reduceCtorEq, Nat.reduceMul]
  all_goals rfl
end Go.Abs.M
namespace Go.Abs.M
open Go Go.Abs Go.Proofs
set_option maxRecDepth 20000
set_option linter.unusedSimpArgs false
set_option linter.unusedVariables false
theorem allEq_refl {α : Type} {f : α → α → Bool} (h : ∀ x, f x x = true) : ∀ l : List α, allEq f l l = true
  | [] => rfl
  | x :: l => by simp [allEq, h, allEq_refl h l]
theorem eqAttr_refl (a : Attr) : eqAttr a a = true := by simp [eqAttr]
theorem eqEv_refl (a : Ev) : eqEv a a = true := by simp [eqEv, allEq_refl eqAttr_refl]
theorem eqBd_refl (a : Bd) : eqBd a a = true := by simp [eqBd, eqEv_refl]
/-- What a given part must be, for the contracts. -/
structure okI (l : List Bd) : Prop where
  ok : okP l
  attrs : ∀ x ∈ l, x.ev.attrs.length * 48 ≤ 140737488355328
  len : l.length * 80 ≤ 140737488355328
end Go.Abs.M
namespace Go.Abs.M
open Go Go.Abs Go.Proofs
set_option linter.unusedSimpArgs false
/-- The types of plain data that the laws' arguments are made of. -/
def plainTs : List TypeId := [24, 22, 42, 9, 36, 33, 3, 2, 34, 143, 141, 64, 48, 5]
theorem plain_ok : plainB Try.prog plainTs = true := by kernel_rfl
end Go.Abs.M
namespace Go.Abs.M
open Go Go.Abs Go.Proofs
set_option maxRecDepth 20000
set_option linter.unusedSimpArgs false
set_option linter.unusedVariables false
/-- What the contracts want of a list. -/
structure okM (l : List Bd) : Prop where
  ok : okP l
  attrs : ∀ x ∈ l, x.ev.attrs.length * 48 ≤ 140737488355328
theorem okI.m {l : List Bd} (h : okI l) : okM l := ⟨h.ok, h.attrs⟩
theorem okM.mrg {a b : List Bd} (ha : okM a) (hb : okM b) : okM (mrg a b) := by
  refine ⟨fun x hx => ?_, fun x hx => ?_⟩ <;> rcases List.mem_append.1 (mrg_mem a b x hx) with h | h
  · exact ha.ok x h
  · exact hb.ok x h
  · exact ha.attrs x h
  · exact hb.attrs x h
end Go.Abs.M
namespace Go.Abs
open Go
section
variable {P : Program} {T : Tab} {B : Base} {n : Nat} {cx cx' : Cx} {s : St} {σ σ' : Hp} {a : Act} {w w' : World} {K : St → Hp → Prop}
inductive Tr where
  | nil
  | st (i k : Nat) (t : Tr)
  | fork (i : Nat) (a : Tr) (j : Nat) (b : Tr)
def Tr.len : Tr → Nat
  | .nil => 0
  | .st _ _ t => t.len + 1
  | .fork _ a _ _ => a.len + 1
def one (P : Program) (T : Tab) (n : Nat) (ops : List Oper) (ds : List (Option Nat)) (i k : Nat) (N : St → Hp → Prop) (s : St) (σ : Hp) : Prop :=
  match ops[i]? with
  | none => False
  | some o => dOK n o.dst ∧ (match k, o.op with
       | 1, .load _ x => gate ds s o.guard (steady T.sd (ev s x) = true) True
       | 1, _ => False
       | _, _ => True) ∧ gate ds s o.guard (semOp P T o N s σ) (N (s.putO o.dst (.c undef)) σ)
def semT (P : Program) (T : Tab) (n : Nat) (ops : List Oper) (ds : List (Option Nat)) : Tr → (St → Hp → Prop) → St → Hp → Prop
  | .nil, K => K
  | .st i k r, K => one P T n ops ds i k (semT P T n ops ds r K)
  | .fork i a j b, K => fun s σ => one P T n ops ds i 2 (semT P T n ops ds a K) s σ ∧ one P T n ops ds j 2 (semT P T n ops ds b K) s σ
/-- The list, written out first. -/
def forceL {α : Type} : List Bool → (List Bool → α) → α
  | [], k => k []
  | true :: l, k => forceL l fun m => k (true :: m)
  | false :: l, k => forceL l fun m => k (false :: m)
theorem forceL_eq {α : Type} : ∀ (l : List Bool) (k : List Bool → α), forceL l k = k l
  | [], _ => rfl
  | true :: l, k => by rw [forceL, forceL_eq l]
  | false :: l, k => by rw [forceL, forceL_eq l]
def setL : List Bool → Nat → List Bool
  | [], _ => []
  | _ :: l, 0 => true :: l
  | b :: l, i + 1 => b :: setL l i
theorem setL_eq : ∀ (l : List Bool) (i : Nat), setL l i = l.set i true
  | [], _ => rfl
  | _ :: _, 0 => rfl
  | b :: l, i + 1 => by rw [setL, setL_eq l i]; rfl
def zipR (q : Oper → Bool) : List Oper → List Bool → Nat → List Nat
  | o :: os, b :: ls, i => bif b then zipR q os ls (i + 1) else bif q o then i :: zipR q os ls (i + 1) else zipR q os ls (i + 1)
  | _, _, _ => []
theorem zipR_eq (q : Oper → Bool) : ∀ (os : List Oper) (ls : List Bool) (k : Nat), ls.length = os.length →
    zipR q os ls k = (List.range' k os.length).filter fun i => !ls.getD (i - k) true && ((os[i - k]?).map q).getD false
  | [], [], k, _ => rfl
  | o :: os, b :: ls, k, h => by
    have ih := zipR_eq q os ls (k + 1) (by simpa using h)
    have hf : (List.range' (k + 1) os.length).filter (fun i => !(b :: ls).getD (i - k) true && (((o :: os)[i - k]?).map q).getD false) = zipR q os ls (k + 1) := by
      rw [ih]
      refine List.filter_congr fun i hi => ?_
      obtain ⟨h1, _⟩ := List.mem_range'_1.1 hi
      rw [show i - k = (i - (k + 1)) + 1 by omega]
      simp
    rw [zipR, List.length_cons, List.range'_succ, List.filter_cons, hf]
    cases b <;> cases hq : q o <;> simp [hq]
def rdy (os : List Oper) (l : List Bool) : List Nat := zipR (fun o => o.after.toList.all fun e => !Region.binds .any e || l.getD e.on false) os l 0
theorem rdy_eq {os : List Oper} {l : List Bool} (h : l.length = os.length) : rdy os l = Region.ready .any ⟨os⟩ ⟨l⟩ := by
  unfold rdy Region.ready
  rw [zipR_eq _ _ _ _ h, List.range_eq_range']
  simp [Array.getD_eq_getD_getElem?, List.getD]
def zipA (q : Oper → Bool) (i : Nat) : List Oper → List Bool → Nat → Bool
  | o :: os, b :: ls, j => bif b then zipA q i os ls (j + 1) else (j == i || q o) && zipA q i os ls (j + 1)
  | _, _, _ => true
theorem zipA_eq (q : Oper → Bool) (i : Nat) : ∀ (os : List Oper) (ls : List Bool) (k : Nat), ls.length = os.length →
    zipA q i os ls k = (List.range' k os.length).all fun j => j == i || ls.getD (j - k) true || match os[j - k]? with | some o => q o | none => true
  | [], [], k, _ => rfl
  | o :: os, b :: ls, k, h => by
    have ih := zipA_eq q i os ls (k + 1) (by simpa using h)
    have hf : ((List.range' (k + 1) os.length).all fun j => j == i || (b :: ls).getD (j - k) true || match (o :: os)[j - k]? with | some o => q o | none => true) = zipA q i os ls (k + 1) := by
      rw [ih, Bool.eq_iff_iff, List.all_eq_true, List.all_eq_true]
      refine forall_congr' fun j => ⟨fun h hj => ?_, fun h hj => ?_⟩
      all_goals
        have h2 := h hj
        obtain ⟨h1, _⟩ := List.mem_range'_1.1 hj
        rw [show j - k = (j - (k + 1)) + 1 by omega] at *
        simpa using h2
    rw [zipA, List.length_cons, List.range'_succ, List.all_cons, hf]
    cases b <;> simp
def fre (os : List Oper) (l : List Bool) (i : Nat) : Bool :=
  match os[i]? with
  | none => false
  | some oi => zipA (fun oj => oj.after.toList.any (fun e => Region.binds .any e && e.on == i) || oi.apart ⟨os⟩ oj) i os l 0
theorem fre_eq {os : List Oper} {l : List Bool} (h : l.length = os.length) (i : Nat) : fre os l i = Region.free .any ⟨os⟩ ⟨l⟩ i := by
  unfold fre Region.free
  simp only [List.getElem?_toArray]
  cases os[i]? with
  | none => rfl
  | some oi =>
    simp only []
    rw [zipA_eq _ _ _ _ _ h, List.range_eq_range']
    simp [Array.getD_eq_getD_getElem?, List.getD]
    rfl
theorem setL_len (l : List Bool) (i : Nat) : (setL l i).length = l.length := by rw [setL_eq, List.length_set]
/-- The two orders of two, then the rest. -/
def Tr.of : List (Nat × Nat) → Tr
  | [] => .nil
  | (i, 3) :: (j, _) :: r => .fork i (.st j 2 (Tr.of r)) j (.st i 2 (Tr.of r))
  | (i, k) :: r => .st i k (Tr.of r)
section
variable {ops : List Oper} {i k d j : Nat} {r : Tr} {o : Oper} {ds : List (Option Nat)} {b : Bool}
theorem T.g (ho : ops[i]? = some o) (hs : stC T s k o.op) (hd : okd n o.dst = true) (hg : o.guard = none)
    (h : ∀ K' : St → Hp → Prop, (∀ s σ, semT P T n ops ds r K s σ → K' s σ) → semOp P T o K' s σ) : semT P T n ops ds (.st i k r) K s σ := by
  have := D.g (P := P) (T := T) (n := n) (s := s) (σ := σ) (K := semT P T n ops ds r K) (ds := ds) (ops := ops) (i := i) (k := k) (l := []) ho hs hd hg h
  exact this
theorem T.y (ho : ops[i]? = some o) (hs : stC T s k o.op) (hd : okd n o.dst = true) (hg : o.guard = some (j, b)) (hj : ds[j]? = some (some d)) (hb : s.t d = .c (.bool b))
    (h : ∀ K' : St → Hp → Prop, (∀ s σ, semT P T n ops ds r K s σ → K' s σ) → semOp P T o K' s σ) : semT P T n ops ds (.st i k r) K s σ := by
  have := D.y (P := P) (T := T) (n := n) (s := s) (σ := σ) (K := semT P T n ops ds r K) (ds := ds) (ops := ops) (i := i) (k := k) (l := []) ho hs hd hg hj hb h
  exact this
theorem T.x (ho : ops[i]? = some o) (hk : k = 1 → isLoad o.op = true) (hd : okd n o.dst = true) (hg : o.guard = some (j, b)) (hj : ds[j]? = some (some d)) (hb : s.t d = .c (.bool (!b)))
    (h : ∀ K' : St → Hp → Prop, (∀ s σ, semT P T n ops ds r K s σ → K' s σ) → K' (s.putO o.dst (.c undef)) σ) : semT P T n ops ds (.st i k r) K s σ := by
  have := D.x (P := P) (T := T) (n := n) (s := s) (σ := σ) (K := semT P T n ops ds r K) (ds := ds) (ops := ops) (i := i) (k := k) (l := []) ho hk hd hg hj hb h
  exact this
theorem T.u (ho : ops[i]? = some o) (hk : k = 1 → isLoad o.op = true) (hd : okd n o.dst = true) (hg : o.guard = some (j, b)) (hj : ds[j]? = some (some d)) (hb : s.t d = .c undef)
    (h : ∀ K' : St → Hp → Prop, (∀ s σ, semT P T n ops ds r K s σ → K' s σ) → K' (s.putO o.dst (.c undef)) σ) : semT P T n ops ds (.st i k r) K s σ := by
  have := D.u (P := P) (T := T) (n := n) (s := s) (σ := σ) (K := semT P T n ops ds r K) (ds := ds) (ops := ops) (i := i) (k := k) (l := []) ho hk hd hg hj hb h
  exact this
theorem T.nil (h : K s σ) : semT P T n ops ds .nil K s σ := h
/-- Only so much of the state is wanted from here on. -/
theorem T.cut {t : Tr} (J : St → Hp → Prop) (h : J s σ) (k : ∀ s σ, J s σ → semT P T n ops ds t K s σ) : semT P T n ops ds t K s σ := k s σ h
theorem D.cut {t : List (Nat × Nat)} (J : St → Hp → Prop) (h : J s σ) (k : ∀ s σ, J s σ → semD P T n ops ds t K s σ) : semD P T n ops ds t K s σ := k s σ h
theorem S.cut {r : List Oper} (J : St → Hp → Prop) (h : J s σ) (k : ∀ s σ, J s σ → semL P T n ds r K s σ) : semL P T n ds r K s σ := k s σ h
theorem AW.cut {c : Code} {Q : Exit → St → Hp → Prop} (J : St → Hp → Prop) (h : J s σ) (k : ∀ s σ, J s σ → AW P n c Q s σ) : AW P n c Q s σ := k s σ h
theorem T.fork {a c : Tr} (h1 : semT P T n ops ds (.st i 2 a) K s σ) (h2 : semT P T n ops ds (.st j 2 c) K s σ) : semT P T n ops ds (.fork i a j c) K s σ := ⟨h1, h2⟩
end
end
end Go.Abs
namespace Go.Abs.M
open Go Go.Abs Go.Proofs
set_option linter.unusedSimpArgs false
def inI64 (n : Int) : Prop := -9223372036854775808 ≤ n ∧ n ≤ 9223372036854775807
theorem wrapI (n : Int) (h0 : -9223372036854775808 ≤ n) (h1 : n ≤ 9223372036854775807) : IntKind.i64.wrap n = n := by
  simp [IntKind.wrap, IntKind.signed, IntKind.bits, Int.bmod]; omega
end Go.Abs.M
namespace Go.Abs.M
open Go Go.Abs Go.Proofs
set_option linter.unusedSimpArgs false
set_option maxRecDepth 20000
theorem co5 : Try.prog.cellsOf 5 = 1 := by kernel_rfl
structure okT (l : List Bd) : Prop where
  i : okI l
  time : ∀ b ∈ l, inI64 b.ev.time
theorem flat_of {t : TypeId} {W : World} {base : Nat} {v : Value} (hu : (∃ k, Try.prog.underlying t = some (.int k)) ∨ Try.prog.underlying t = some .string ∨ ∃ e, Try.prog.underlying t = some (.slice e)) (hval : Value.okWide Try.prog W .any base t v) : ∀ cs, v ≠ .agg cs := by
  rintro cs rfl
  rcases hu with ⟨k, hu⟩ | hu | ⟨e, hu⟩ <;> simp [Value.okWide, Cell.okWide, Cell.ok, hu] at hval
section
variable {H : Type} {enc : TypeId × Value → H} {W : World} {base : Nat} {v : Value} {d : DataW H} {ps : List MemPlace}
theorem arg_u8 (hval : Value.okWide Try.prog W .any base 5 v)
    (h : DataW.Trod enc Try.prog W 0 (fun _ => true) true 5 v d ps) (hw : ∀ n ∈ d.weights Try.prog 5, n ≤ reachBytes) : ∃ x : Nat, VR W (cx0 W) (.c (.int .u8 x)) v ∧ x < 256 := by
  have hm : (5 : TypeId) ∈ plainTs := by decide
  obtain ⟨n, us, h1, h2⟩ := open_arg (P := Try.prog) (t := 5) plainTs plain_ok hm h hw
  obtain ⟨s, rfl, hs⟩ := h2.int Try.underlying5
  simp [Lit.wf, IntKind.min, IntKind.max, IntKind.signed, IntKind.bits] at hs
  exact ⟨s.toNat, by rw [Int.toNat_of_nonneg hs.1]; exact VR.of_cell h1 (flat_of (.inl ⟨_, Try.underlying5⟩) hval), by omega⟩
def encB (x : Nat) : List V := [.c (.int .u8 x)]
theorem arg_bytes (hval : Value.okWide Try.prog W .any base 48 v)
    (h : DataW.Trod enc Try.prog W 0 (fun _ => true) true 48 v d ps) (hw : ∀ n ∈ d.weights Try.prog 48, n ≤ reachBytes) : ∃ l : List Nat, VR W (cx0 W) (.sl (l.map encB)) v ∧ (∀ x ∈ l, x < 256) ∧ l.length ≤ reachBytes := by
  have hm : (48 : TypeId) ∈ plainTs := by decide
  obtain ⟨n, us, h1, h2⟩ := open_arg (P := Try.prog) (t := 48) plainTs plain_ok hm h hw
  obtain ⟨es, rfl, hes, m, _, hk⟩ := h2.sl Try.underlying48
  obtain ⟨l, rfl, hl⟩ := rows_of (f := encB) (p := fun x => x < 256) (es := es) fun x hx => by
    obtain ⟨y, hy, hw⟩ := (hk x hx).2.int Try.underlying5
    simp [Lit.wf, IntKind.min, IntKind.max, IntKind.signed, IntKind.bits] at hw
    exact ⟨y.toNat, by rw [hy, encB, Int.toNat_of_nonneg hw.1], by omega⟩
  exact ⟨l, VR.of_cell h1 (flat_of (.inr (.inr ⟨_, Try.underlying48⟩)) hval), hl, by simpa [by5] using hes⟩
end
end Go.Abs.M
namespace Go.Abs
open Go
section
variable {P : Program} {T : Tab} {B : Base} {n : Nat} {cx cx' : Cx} {s : St} {σ σ' : Hp} {a : Act} {w w' : World} {K : St → Hp → Prop}
inductive Tf where
  | nil
  | st (i k : Nat) (t : Tf)
  | fork (i : Nat) (a : Tf) (j : Nat) (b : Tf)
  | fork3 (i : Nat) (a : Tf) (j : Nat) (b : Tf) (k : Nat) (c : Tf)
def Tf.len : Tf → Nat
  | .nil => 0
  | .st _ _ t => t.len + 1
  | .fork _ a _ _ => a.len + 1
  | .fork3 _ a _ _ _ _ => a.len + 1
def semF (P : Program) (T : Tab) (n : Nat) (ops : List Oper) (ds : List (Option Nat)) : Tf → (St → Hp → Prop) → St → Hp → Prop
  | .nil, K => K
  | .st i k r, K => one P T n ops ds i k (semF P T n ops ds r K)
  | .fork i a j b, K => fun s σ => one P T n ops ds i 2 (semF P T n ops ds a K) s σ ∧ one P T n ops ds j 2 (semF P T n ops ds b K) s σ
  | .fork3 i a j b k c, K => fun s σ => one P T n ops ds i 2 (semF P T n ops ds a K) s σ ∧ one P T n ops ds j 2 (semF P T n ops ds b K) s σ ∧ one P T n ops ds k 2 (semF P T n ops ds c K) s σ
def schedG (P : Program) (ops : Array Oper) : Tf → Bool → Array Bool → Bool
  | .nil, _, listed => (Region.ready .any ops listed).isEmpty
  | .st i k r, early, listed =>
    (match k with
     | 0 => ((ops[i]?).map fun o => pureOp P o.op).getD false && (Region.ready .any ops listed).contains i && Region.free .any ops listed i
     | 1 => early && ((ops[i]?).map fun o => isLoad o.op).getD false && (Region.ready .any ops listed).contains i && Region.free .any ops listed i
     | _ => Region.ready .any ops listed == [i]) &&
    schedG P ops r early (listed.setIfInBounds i true)
  | .fork i a j b, early, listed => Region.ready .any ops listed == [i, j] && a.len == b.len && schedG P ops a early (listed.setIfInBounds i true) && schedG P ops b early (listed.setIfInBounds j true)
  | .fork3 i a j b k c, early, listed => Region.ready .any ops listed == [i, j, k] && (a.len == b.len && a.len == c.len) && schedG P ops a early (listed.setIfInBounds i true) && schedG P ops b early (listed.setIfInBounds j true) && schedG P ops c early (listed.setIfInBounds k true)
/-- The same look, its list written out at each step, and read side by side with the operations. -/
def schedH (P : Program) (ops : List Oper) : Tf → Bool → List Bool → Bool
  | .nil, _, l => (rdy ops l).isEmpty
  | .st i k r, early, l =>
    (match k with
     | 0 => ((ops[i]?).map fun o => pureOp P o.op).getD false && (rdy ops l).contains i && fre ops l i
     | 1 => early && ((ops[i]?).map fun o => isLoad o.op).getD false && (rdy ops l).contains i && fre ops l i
     | _ => rdy ops l == [i]) &&
    forceL (setL l i) fun m => schedH P ops r early m
  | .fork i a j b, early, l => rdy ops l == [i, j] && a.len == b.len && (forceL (setL l i) fun m => schedH P ops a early m) && (forceL (setL l j) fun m => schedH P ops b early m)
  | .fork3 i a j b k c, early, l => rdy ops l == [i, j, k] && (a.len == b.len && a.len == c.len) && (forceL (setL l i) fun m => schedH P ops a early m) && (forceL (setL l j) fun m => schedH P ops b early m) && (forceL (setL l k) fun m => schedH P ops c early m)
theorem schedH_eq (P : Program) (ops : List Oper) : ∀ (t : Tf) (early : Bool) (l : List Bool), l.length = ops.length → schedH P ops t early l = schedG P ⟨ops⟩ t early ⟨l⟩
  | .nil, _, _, h => by simp only [schedH, schedG, rdy_eq h]
  | .st i k r, early, l, h => by
    simp only [schedH, schedG, forceL_eq, schedH_eq P ops r early (setL l i) ((setL_len l i).trans h), rdy_eq h, fre_eq h, List.getElem?_toArray, List.setIfInBounds_toArray]
    rw [setL_eq]
  | .fork i a j b, early, l, h => by
    simp only [schedH, schedG, forceL_eq, schedH_eq P ops a early (setL l i) ((setL_len l i).trans h), schedH_eq P ops b early (setL l j) ((setL_len l j).trans h), rdy_eq h, List.setIfInBounds_toArray]
    rw [setL_eq, setL_eq]
  | .fork3 i a j b k c, early, l, h => by
    simp only [schedH, schedG, forceL_eq, schedH_eq P ops a early (setL l i) ((setL_len l i).trans h), schedH_eq P ops b early (setL l j) ((setL_len l j).trans h), schedH_eq P ops c early (setL l k) ((setL_len l k).trans h), rdy_eq h, List.setIfInBounds_toArray]
    rw [setL_eq, setL_eq, setL_eq]
theorem semF_sound (hT : T.ok P) {ops : Array Oper} (hs : Region.noSelect ops = true) {Q : Act → World → Prop} :
    ∀ (sched : Tf) (early : Bool) (listed : Array Bool) {B : Base} (_hsd : B.sd = T.sd) (_hQ : ∀ a w, KC B n K a w → Q a w) {cx : Cx} {s : St} {σ : Hp} {a : Act} {w : World}, schedG P ops sched early listed = true → SR B n cx s σ a w →
    (early = true → (∀ g, cx.I g → B.still g) ∧ (∀ d cells, T.sd d = true → s.l d = some cells → B.still (cx.L d))) →
    semF P T n ops.toList (ops.toList.map (·.dst)) sched K s σ → wpAnyH P .any ops (onlyN Q) (stillW B) sched.len listed a w
  | .nil, early, listed, B, hsd, hQ, cx, s, σ, a, w, hB, h, he, hk => by
    simp only [schedG, List.isEmpty_iff] at hB
    exact wpAnyH_done hB (hQ a w ⟨cx, s, σ, h, hk⟩) 0
  | .st i k r, early, listed, B, hsd, hQ, cx, s, σ, a, w, hB, h, he, hk => by
    simp only [schedG, Bool.and_eq_true] at hB
    obtain ⟨hB1, hB2⟩ := hB
    simp only [semF, one] at hk
    cases hi : ops.toList[i]? with
    | none => simp [hi] at hk
    | some o =>
      simp only [hi] at hk
      obtain ⟨hd, hst, hk⟩ := hk
      have hi' : ops[i]? = some o := by simpa using hi
      have take : ∀ {v : V} {x : Value}, (Region.wanted o (yielded ops a.tmps) = true ∧ (∀ w', stillW B w' → (execOp a.eval o).run P w' = .ok (.value x) w') ∨ Region.wanted o (yielded ops a.tmps) = false ∧ x = undef) → TR w cx v x →
          semF P T n ops.toList (ops.toList.map (·.dst)) r K (s.putO o.dst v) σ → (Region.ready .any ops listed).contains i = true → Region.free .any ops listed i = true →
          wpAnyH P .any ops (onlyN Q) (stillW B) (Tf.st i k r).len listed a w := fun {v x} hy hv hkr hr hf => by
        have h' := h.putO (dOK_spec hd) hv
        refine wpAnyH_take hi' hs hf hr (fun _ _ _ hq => hq.elim) (v := x) hy h.stillW ?_
        refine semF_sound hT hs r early _ hsd hQ hB2 h' (fun e1 => ?_) hkr
        obtain ⟨h1, h2⟩ := he e1
        refine ⟨h1, fun d cells hsd' hd' => h2 d cells hsd' ?_⟩
        cases hdst : o.dst with
        | none => rw [hdst] at hd'; exact hd'
        | some e => rw [hdst] at hd'; exact hd'
      rcases k with _ | _ | k
      · simp only [hi', Option.map_some, Option.getD_some, Bool.and_eq_true] at hB1
        obtain ⟨⟨hp, hr⟩, hf⟩ := hB1
        rcases gate_wanted (ops := ops) h hk with ⟨hw, hk⟩ | ⟨hw, hk⟩
        · obtain ⟨v, hv, hy⟩ := sem_pure hT hp hk
          obtain ⟨x, hx, ht⟩ := hy h
          exact take (.inl ⟨hw, fun w' _ => hx w'⟩) ht hv hr hf
        · exact take (.inr ⟨hw, rfl⟩) (.v (.c undef)) hk hr hf
      · simp only [hi', Option.map_some, Option.getD_some, Bool.and_eq_true] at hB1
        obtain ⟨⟨⟨hea, hp⟩, hr⟩, hf⟩ := hB1
        obtain ⟨h1, h2⟩ := he hea
        cases ho : o.op <;> simp only [ho, isLoad] at hp hst <;> try (cases hp; done)
        rename_i t x
        have hk2 := gate_and hst hk
        rcases gate_wanted (ops := ops) h hk2 with ⟨hw, hst, hk⟩ | ⟨hw, _, hk⟩
        · unfold semOp at hk
          simp only [ho] at hk
          obtain ⟨c1, c2, c3, hk⟩ := hk
          obtain ⟨v, hv, hy⟩ := qLoad_sound (P := P) (s := s) (σ := σ) c1 c2 c3 hk
          obtain ⟨y, b, off, hp', hyr, ht, hlp, hip⟩ := hy cx w (a.eval x) h.heap h.box (h.tr x)
          have hb : B.still b := by
            cases hx : ev s x with
            | lp d off' =>
              rw [hlp d off' hx]
              have hsd' : T.sd d = true := by simpa [steady, hx] using hst
              have hl : ∃ cells, s.l d = some cells := by
                rw [hx] at hk
                unfold qLoad at hk
                cases hld : s.l d with
                | none => simp [hld] at hk
                | some cells => exact ⟨cells, rfl⟩
              obtain ⟨cells, hl⟩ := hl
              exact h2 d cells hsd' hl
            | ip es i' off' => exact h1 b (hip es i' off' hx)
            | _ => simp [steady, hx] at hst
          refine take (.inl ⟨hw, fun w' hw' => ?_⟩) ht hv hr hf
          have := hyr w' ((hw' b hb).trans (h.stab b hb).symm)
          simp [execOp, ho, this]
        · exact take (.inr ⟨hw, rfl⟩) (.v (.c undef)) hk hr hf
      · have hB1 : Region.ready .any ops listed = [i] := by simpa using hB1
        refine wpAnyH_all (rs := [i]) hB1 (by simp) (fun j hj => ?_)
        have hj : j = i := by simpa using hj
        subst hj
        have next : ∀ a' w', KC B n (semF P T n ops.toList (ops.toList.map (·.dst)) r K) a' w' → stillW B w' ∧ wpAnyH P .any ops (onlyN Q) (stillW B) r.len (listed.setIfInBounds j true) a' w' := fun a' w' ⟨cx', s', σ', h', hk'⟩ =>
          ⟨h'.stillW, wpAnyH_mono (S' := stillW (B.re cx' s'.l T.sd w')) (fun w'' hw g hg => (hw g (.inl hg)).trans (h'.stab g hg)) _ _ _ _
            (semF_sound hT hs r early _ rfl (fun a'' w'' ⟨cx2, s2, σ2, h2, hk2⟩ => hQ a'' w'' ⟨cx2, s2, σ2, h2.ofRe hsd (fun g hg => h'.stab g hg), hk2⟩) hB2 (h'.re hsd)
              (fun _ => ⟨fun g hg => .inr (.inl hg), fun d cells hd hl => .inr (.inr ⟨d, cells, hd, hl, rfl⟩)⟩) hk')⟩
        unfold wpOp
        simp only [hi']
        rcases gate_wanted (ops := ops) h hk with ⟨hw, hk⟩ | ⟨hw, hk⟩
        · simp only [hw, if_true]
          exact .inl (Oper.wp_mono next (sem_sound hT hsd hd h hk))
        · simp only [hw, Bool.false_eq_true, if_false]
          exact next _ _ ⟨cx, _, σ, h.putO (dOK_spec hd) (.v (.c undef)), hk⟩

  | .fork i ra j rb, early, listed, B, hsd, hQ, cx, s, σ, a, w, hB, h, he, hk => by
    simp only [schedG, Bool.and_eq_true] at hB
    obtain ⟨⟨⟨hB1, hlen⟩, hBa⟩, hBb⟩ := hB
    have hlen : ra.len = rb.len := by simpa using hlen
    have hB1 : Region.ready .any ops listed = [i, j] := by simpa using hB1
    simp only [semF] at hk
    have go : ∀ (q : Nat) (r : Tf), r.len = ra.len → schedG P ops r early (listed.setIfInBounds q true) = true → (∀ {B : Base} (_hsd : B.sd = T.sd) (_hQ : ∀ a w, KC B n K a w → Q a w) {cx : Cx} {s : St} {σ : Hp} {a : Act} {w : World}, SR B n cx s σ a w →
        (early = true → (∀ g, cx.I g → B.still g) ∧ (∀ d cells, T.sd d = true → s.l d = some cells → B.still (cx.L d))) →
        semF P T n ops.toList (ops.toList.map (·.dst)) r K s σ → wpAnyH P .any ops (onlyN Q) (stillW B) r.len (listed.setIfInBounds q true) a w) →
        one P T n ops.toList (ops.toList.map (·.dst)) q 2 (semF P T n ops.toList (ops.toList.map (·.dst)) r K) s σ → wpOp P ops (onlyN Q) q (fun a' w' => stillW B w' ∧ wpAnyH P .any ops (onlyN Q) (stillW B) ra.len (listed.setIfInBounds q true) a' w') a w := fun q r hl hBr ih hk => by
      simp only [one] at hk
      cases hi : ops.toList[q]? with
      | none => simp [hi] at hk
      | some o =>
        simp only [hi] at hk
        obtain ⟨hd, hst, hk⟩ := hk
        have hi' : ops[q]? = some o := by simpa using hi
        have next : ∀ a' w', KC B n (semF P T n ops.toList (ops.toList.map (·.dst)) r K) a' w' → stillW B w' ∧ wpAnyH P .any ops (onlyN Q) (stillW B) ra.len (listed.setIfInBounds q true) a' w' := fun a' w' ⟨cx', s', σ', h', hk'⟩ =>
          ⟨h'.stillW, wpAnyH_mono (S' := stillW (B.re cx' s'.l T.sd w')) (fun w'' hw g hg => (hw g (.inl hg)).trans (h'.stab g hg)) _ _ _ _
            (hl ▸ ih rfl (fun a'' w'' ⟨cx2, s2, σ2, h2, hk2⟩ => hQ a'' w'' ⟨cx2, s2, σ2, h2.ofRe hsd (fun g hg => h'.stab g hg), hk2⟩) (h'.re hsd)
              (fun _ => ⟨fun g hg => .inr (.inl hg), fun d cells hd hl => .inr (.inr ⟨d, cells, hd, hl, rfl⟩)⟩) hk')⟩
        unfold wpOp
        simp only [hi']
        rcases gate_wanted (ops := ops) h hk with ⟨hw, hk⟩ | ⟨hw, hk⟩
        · simp only [hw, if_true]
          exact .inl (Oper.wp_mono next (sem_sound hT hsd hd h hk))
        · simp only [hw, Bool.false_eq_true, if_false]
          exact next _ _ ⟨cx, _, σ, h.putO (dOK_spec hd) (.v (.c undef)), hk⟩
    refine wpAnyH_all (rs := [i, j]) hB1 (by simp) (fun q hq => ?_)
    rcases List.mem_cons.1 hq with rfl | hq
    · exact go q ra rfl hBa (fun {B} hsd hQ {cx s σ a w} h he hk => semF_sound hT hs ra early _ hsd hQ hBa h he hk) hk.1
    · have hq : q = j := by simpa using hq
      subst hq
      exact go q rb hlen.symm hBb (fun {B} hsd hQ {cx s σ a w} h he hk => semF_sound hT hs rb early _ hsd hQ hBb h he hk) hk.2

  | .fork3 i ra j rb k rc, early, listed, B, hsd, hQ, cx, s, σ, a, w, hB, h, he, hk => by
    simp only [schedG, Bool.and_eq_true] at hB
    obtain ⟨⟨⟨⟨hB1, hlen, hlen2⟩, hBa⟩, hBb⟩, hBc⟩ := hB
    have hlen : ra.len = rb.len := by simpa using hlen
    have hlen2 : ra.len = rc.len := by simpa using hlen2
    have hB1 : Region.ready .any ops listed = [i, j, k] := by simpa using hB1
    simp only [semF] at hk
    have go : ∀ (q : Nat) (r : Tf), r.len = ra.len → schedG P ops r early (listed.setIfInBounds q true) = true → (∀ {B : Base} (_hsd : B.sd = T.sd) (_hQ : ∀ a w, KC B n K a w → Q a w) {cx : Cx} {s : St} {σ : Hp} {a : Act} {w : World}, SR B n cx s σ a w →
        (early = true → (∀ g, cx.I g → B.still g) ∧ (∀ d cells, T.sd d = true → s.l d = some cells → B.still (cx.L d))) →
        semF P T n ops.toList (ops.toList.map (·.dst)) r K s σ → wpAnyH P .any ops (onlyN Q) (stillW B) r.len (listed.setIfInBounds q true) a w) →
        one P T n ops.toList (ops.toList.map (·.dst)) q 2 (semF P T n ops.toList (ops.toList.map (·.dst)) r K) s σ → wpOp P ops (onlyN Q) q (fun a' w' => stillW B w' ∧ wpAnyH P .any ops (onlyN Q) (stillW B) ra.len (listed.setIfInBounds q true) a' w') a w := fun q r hl hBr ih hk => by
      simp only [one] at hk
      cases hi : ops.toList[q]? with
      | none => simp [hi] at hk
      | some o =>
        simp only [hi] at hk
        obtain ⟨hd, hst, hk⟩ := hk
        have hi' : ops[q]? = some o := by simpa using hi
        have next : ∀ a' w', KC B n (semF P T n ops.toList (ops.toList.map (·.dst)) r K) a' w' → stillW B w' ∧ wpAnyH P .any ops (onlyN Q) (stillW B) ra.len (listed.setIfInBounds q true) a' w' := fun a' w' ⟨cx', s', σ', h', hk'⟩ =>
          ⟨h'.stillW, wpAnyH_mono (S' := stillW (B.re cx' s'.l T.sd w')) (fun w'' hw g hg => (hw g (.inl hg)).trans (h'.stab g hg)) _ _ _ _
            (hl ▸ ih rfl (fun a'' w'' ⟨cx2, s2, σ2, h2, hk2⟩ => hQ a'' w'' ⟨cx2, s2, σ2, h2.ofRe hsd (fun g hg => h'.stab g hg), hk2⟩) (h'.re hsd)
              (fun _ => ⟨fun g hg => .inr (.inl hg), fun d cells hd hl => .inr (.inr ⟨d, cells, hd, hl, rfl⟩)⟩) hk')⟩
        unfold wpOp
        simp only [hi']
        rcases gate_wanted (ops := ops) h hk with ⟨hw, hk⟩ | ⟨hw, hk⟩
        · simp only [hw, if_true]
          exact .inl (Oper.wp_mono next (sem_sound hT hsd hd h hk))
        · simp only [hw, Bool.false_eq_true, if_false]
          exact next _ _ ⟨cx, _, σ, h.putO (dOK_spec hd) (.v (.c undef)), hk⟩
    refine wpAnyH_all (rs := [i, j, k]) hB1 (by simp) (fun q hq => ?_)
    rcases List.mem_cons.1 hq with rfl | hq
    · exact go q ra rfl hBa (fun {B} hsd hQ {cx s σ a w} h he hk => semF_sound hT hs ra early _ hsd hQ hBa h he hk) hk.1
    rcases List.mem_cons.1 hq with rfl | hq
    · exact go q rb hlen.symm hBb (fun {B} hsd hQ {cx s σ a w} h he hk => semF_sound hT hs rb early _ hsd hQ hBb h he hk) hk.2.1
    · have hq : q = k := by simpa using hq
      subst hq
      exact go q rc hlen2.symm hBc (fun {B} hsd hQ {cx s σ a w} h he hk => semF_sound hT hs rc early _ hsd hQ hBc h he hk) hk.2.2
/-- A region that draws its order, by a schedule that parts. -/
theorem AW.drawF {Q : Exit → St → Hp → Prop} (hT : T.ok P) (hm : P.follows .mixedOrders = true) {id : Nat} {l : List Oper} (t : Tf) (hlen : t.len = l.length) (hs : Region.noSelect l.toArray = true)
    (hB : schedH P l t true (List.replicate l.length false) = true) (h : semF P T n l (l.map (·.dst)) t (fun s σ => Q .normal s σ) s σ) : AW P n (.region id l.toArray true) Q s σ :=
  fun B cx a w h1 _ h3 => by
    have hB : schedG P l.toArray t true (Array.replicate l.length false) = true := by
      rw [schedH_eq _ _ _ _ _ (by simp)] at hB
      exact hB
    have h4 := h3.drew
    have h5 := h4.toAt T.sd
    refine wp_mono (Q := onlyN (fun a w => QC B n Q .normal a w)) (wp_region_held (S := stillW (B.at cx s.l T.sd w.drew)) hm ?_) (fun e a w hq => by cases e <;> first | exact hq | exact hq.elim)
    have := semF_sound hT hs (Q := fun a w => QC B n Q .normal a w) (K := fun s σ => Q .normal s σ)
      t true (Array.replicate l.length false) (B := B.at cx s.l T.sd w.drew) rfl (fun a w ⟨cx', s', σ', h6, h7⟩ => ⟨cx', s', σ', h6.ofAt h1, h7⟩) hB h5 (fun _ => ⟨fun g hg => .inl hg, fun d cells hd hl => .inr ⟨d, cells, hd, hl, rfl⟩⟩) (by simpa using h)
    rw [hlen] at this
    simpa using this
section
variable {ops : List Oper} {i k d j : Nat} {r : Tf} {o : Oper} {ds : List (Option Nat)} {b : Bool}
theorem F.g (ho : ops[i]? = some o) (hs : stC T s k o.op) (hd : okd n o.dst = true) (hg : o.guard = none)
    (h : ∀ K' : St → Hp → Prop, (∀ s σ, semF P T n ops ds r K s σ → K' s σ) → semOp P T o K' s σ) : semF P T n ops ds (.st i k r) K s σ := by
  have := D.g (P := P) (T := T) (n := n) (s := s) (σ := σ) (K := semF P T n ops ds r K) (ds := ds) (ops := ops) (i := i) (k := k) (l := []) ho hs hd hg h
  exact this
theorem F.y (ho : ops[i]? = some o) (hs : stC T s k o.op) (hd : okd n o.dst = true) (hg : o.guard = some (j, b)) (hj : ds[j]? = some (some d)) (hb : s.t d = .c (.bool b))
    (h : ∀ K' : St → Hp → Prop, (∀ s σ, semF P T n ops ds r K s σ → K' s σ) → semOp P T o K' s σ) : semF P T n ops ds (.st i k r) K s σ := by
  have := D.y (P := P) (T := T) (n := n) (s := s) (σ := σ) (K := semF P T n ops ds r K) (ds := ds) (ops := ops) (i := i) (k := k) (l := []) ho hs hd hg hj hb h
  exact this
theorem F.x (ho : ops[i]? = some o) (hk : k = 1 → isLoad o.op = true) (hd : okd n o.dst = true) (hg : o.guard = some (j, b)) (hj : ds[j]? = some (some d)) (hb : s.t d = .c (.bool (!b)))
    (h : ∀ K' : St → Hp → Prop, (∀ s σ, semF P T n ops ds r K s σ → K' s σ) → K' (s.putO o.dst (.c undef)) σ) : semF P T n ops ds (.st i k r) K s σ := by
  have := D.x (P := P) (T := T) (n := n) (s := s) (σ := σ) (K := semF P T n ops ds r K) (ds := ds) (ops := ops) (i := i) (k := k) (l := []) ho hk hd hg hj hb h
  exact this
theorem F.u (ho : ops[i]? = some o) (hk : k = 1 → isLoad o.op = true) (hd : okd n o.dst = true) (hg : o.guard = some (j, b)) (hj : ds[j]? = some (some d)) (hb : s.t d = .c undef)
    (h : ∀ K' : St → Hp → Prop, (∀ s σ, semF P T n ops ds r K s σ → K' s σ) → K' (s.putO o.dst (.c undef)) σ) : semF P T n ops ds (.st i k r) K s σ := by
  have := D.u (P := P) (T := T) (n := n) (s := s) (σ := σ) (K := semF P T n ops ds r K) (ds := ds) (ops := ops) (i := i) (k := k) (l := []) ho hk hd hg hj hb h
  exact this
theorem F.nil (h : K s σ) : semF P T n ops ds .nil K s σ := h
/-- Only so much of the state is wanted from here on. -/
theorem F.cut {t : Tf} (J : St → Hp → Prop) (h : J s σ) (k : ∀ s σ, J s σ → semF P T n ops ds t K s σ) : semF P T n ops ds t K s σ := k s σ h
theorem F.fork3 {a c e : Tf} {q : Nat} (h1 : semF P T n ops ds (.st i 2 a) K s σ) (h2 : semF P T n ops ds (.st j 2 c) K s σ) (h3 : semF P T n ops ds (.st q 2 e) K s σ) : semF P T n ops ds (.fork3 i a j c q e) K s σ := ⟨h1, h2, h3⟩
theorem F.fork {a c : Tf} (h1 : semF P T n ops ds (.st i 2 a) K s σ) (h2 : semF P T n ops ds (.st j 2 c) K s σ) : semF P T n ops ds (.fork i a j c) K s σ := ⟨h1, h2⟩
end
end
end Go.Abs
namespace Go.Abs.M
open Go Go.Abs Go.Proofs
set_option linter.unusedSimpArgs false
/-- A number in n bits. -/
def lowB (u : Nat) : Nat → List Bool
  | 0 => []
  | n + 1 => (u / 2 ^ n % 2 == 1) :: lowB u n
theorem lowB_len (u : Nat) : ∀ n, (lowB u n).length = n
  | 0 => rfl
  | n + 1 => by rw [lowB, List.length_cons, lowB_len u n]
theorem lowB_get (u : Nat) : ∀ (n i : Nat), i < n → (lowB u n)[i]? = some (u / 2 ^ (n - 1 - i) % 2 == 1)
  | n + 1, 0, _ => by simp [lowB]
  | n + 1, i + 1, h => by
    rw [lowB, List.getElem?_cons_succ, lowB_get u n i (by omega)]
    rw [show n + 1 - 1 - (i + 1) = n - 1 - i by omega]
theorem lowB_take (u n i : Nat) (h : i < n) : (lowB u n).take (i + 1) = (lowB u n).take i ++ [u / 2 ^ (n - 1 - i) % 2 == 1] := by
  have h2 : i < (lowB u n).length := by rw [lowB_len]; exact h
  have := lowB_get u n i h
  rw [List.take_add_one, this]; rfl
/-- The i-th bit is put to bytes that have place for it. -/
def putB (l : List Nat) (i : Nat) (b : Bool) : List Nat := if b then l.modify (i / 8) (· + 128 / 2 ^ (i % 8)) else l
def putsB : List Nat → Nat → List Bool → List Nat
  | l, _, [] => l
  | l, i, b :: bs => putsB (putB l i b) (i + 1) bs
def zerosB (n : Nat) : List Nat := List.replicate n 0
def packB (bs : List Bool) : List Nat := putsB (zerosB ((bs.length + 7) / 8)) 0 bs
end Go.Abs.M
namespace Go.Abs.M
open Go Go.Abs Go.Proofs
set_option maxRecDepth 20000
set_option linter.unusedSimpArgs false
set_option linter.unusedVariables false
def ptrV (g : Nat) : V := .c (.pointer (some ⟨g, 0, none⟩))
def skC (n : Nat) (v : V) : List V := [.c (.bool true), v, .c (.int .i64 n)]
theorem map3 (a b c : V) : isMap [a, b, c] = false := by cases a <;> rfl
/-- The list that a sink holds. -/
def skN (g : Nat) (σ : Hp) : Option Nat := match σ.obj g with | some [_, .gl k, _] => some k | _ => none
/-- A sink of some bits. -/
def Snk (g : Nat) (bs : List Bool) (σ : Hp) : Prop := (bs = [] ∧ σ.obj g = some (skC 0 (.c (.slice none 0 0)))) ∨ ∃ k, σ.obj g = some (skC bs.length (.gl k)) ∧ σ.gr k = some ((5, 1), (packB bs).map encB)
/-- What else there is stays. -/
structure Fr (g : Nat) (σ σ' : Hp) : Prop where
  obj : ∀ x c, x ≠ g → σ.obj x = some c → σ'.obj x = some c
  gr : ∀ k x, σ.gr k = some x → skN g σ ≠ some k → σ'.gr k = some x ∧ skN g σ' ≠ some k
theorem Fr.refl (g : Nat) (σ : Hp) : Fr g σ σ := ⟨fun _ _ _ h => h, fun _ _ h k => ⟨h, k⟩⟩
theorem Fr.trans {g : Nat} {a b c : Hp} (h : Fr g a b) (k : Fr g b c) : Fr g a c :=
  ⟨fun x d hx hd => k.obj x d hx (h.obj x d hx hd), fun n x hx hn => by
    obtain ⟨h1, h2⟩ := h.gr n x hx hn
    exact k.gr n x h1 h2⟩
theorem encB_at {l : List Nat} {i x : Nat} (h : l[i]? = some x) : (l.map encB).getD i [] = encB x := by simp [List.getD, h]
/-- The next bit's place. -/
def InvB (l : List Nat) (i : Nat) : Prop := ∀ j x, l[j]? = some x → x < 256 ∧ (j = i / 8 → x % 2 ^ (8 - i % 8) = 0) ∧ (i / 8 < j → x = 0)
theorem byte_put : ∀ r : Nat, r < 8 → ∀ x : Nat, x < 256 → x % 2 ^ (8 - r) = 0 → x + 128 / 2 ^ r < 256 ∧ (x + 128 / 2 ^ r) % 2 ^ (7 - r) = 0 ∧ x % 2 ^ (7 - r) = 0 ∧ (BitVec.ofInt 8 (x : Int) ||| BitVec.ofInt 8 ((128 / 2 ^ r : Nat) : Int)).toNat = x + 128 / 2 ^ r := by decide +kernel
theorem InvB.put {l : List Nat} {i : Nat} (h : InvB l i) (b : Bool) : InvB (putB l i b) (i + 1) := by
  intro j x hx
  have key : ∀ y, l[j]? = some y → (x = y ∨ (j = i / 8 ∧ x = y + 128 / 2 ^ (i % 8))) → x < 256 ∧ (j = (i + 1) / 8 → x % 2 ^ (8 - (i + 1) % 8) = 0) ∧ ((i + 1) / 8 < j → x = 0) := fun y hy hxy => by
    obtain ⟨h1, h2, h3⟩ := h j y hy
    by_cases hj : j = i / 8
    · obtain ⟨k1, k2, k3, _⟩ := byte_put (i % 8) (Nat.mod_lt _ (by omega)) y h1 (h2 hj)
      have hp : x % 2 ^ (7 - i % 8) = 0 ∧ x < 256 := by
        rcases hxy with rfl | ⟨_, rfl⟩
        · exact ⟨k3, h1⟩
        · exact ⟨k2, k1⟩
      refine ⟨hp.2, fun e => ?_, fun e => by omega⟩
      rw [show 8 - (i + 1) % 8 = 7 - i % 8 by omega]; exact hp.1
    · have hxy : x = y := by rcases hxy with h | h; exact h; exact absurd h.1 hj
      subst hxy
      refine ⟨h1, fun e => ?_, fun e => h3 (by omega)⟩
      rw [h3 (by omega)]; exact Nat.zero_mod _
  unfold putB at hx
  split at hx
  · rw [List.getElem?_modify] at hx
    cases hl : l[j]? with
    | none => rw [hl] at hx; cases hx
    | some y =>
      rw [hl] at hx
      have hx : (if i / 8 = j then y + 128 / 2 ^ (i % 8) else y) = x := by simpa using hx
      refine key y hl ?_
      split at hx
      · rename_i e; exact .inr ⟨e.symm, hx.symm⟩
      · exact .inl hx.symm
  · exact key x hx (.inl rfl)
theorem wrap_u8 {n : Nat} (h : n < 256) : IntKind.u8.wrap (n : Int) = n := by
  have : ∀ n, n < 256 → IntKind.u8.wrap ((n : Nat) : Int) = n := by decide +kernel
  exact this n h
end Go.Abs.M
namespace Go.Abs.M
open Go Go.Abs Go.Proofs
set_option maxRecDepth 20000
set_option linter.unusedSimpArgs false
set_option linter.unusedVariables false
theorem Fr.grow {g : Nat} {σ : Hp} {ok : Option Nat} {k2 n : Nat} {x : (TypeId × Nat) × List (List V)} (ho : skN g σ = ok) (hk2 : (σ.delO ok).gr k2 = none) : Fr g σ (((σ.delO ok).setGr k2 (some x)).setObj g (some (skC n (.gl k2)))) := by
  refine ⟨fun y c hy hc => ?_, fun k y hk hn => ?_⟩
  · cases ok <;> simp [Hp.delO, hy, hc]
  · have hd : (σ.delO ok).gr k = some y := by
      cases ok with
      | none => exact hk
      | some q =>
        have : k ≠ q := fun e => hn (by rw [ho, e])
        simp [Hp.delO, this, hk]
    have hne : k ≠ k2 := fun e => by rw [e, hk2] at hd; cases hd
    refine ⟨by simp [hne, hd], ?_⟩
    simp [skN, skC]
    exact fun e => hne e.symm
end Go.Abs.M
namespace Go.Abs.M
open Go Go.Abs Go.Proofs
set_option maxRecDepth 20000
set_option linter.unusedSimpArgs false
set_option linter.unusedVariables false
theorem wrap_u64 {n : Nat} (h : n < 18446744073709551616) : IntKind.u64.wrap (n : Int) = n := by
  unfold IntKind.wrap
  simp [IntKind.signed, IntKind.bits]
  omega
theorem and1 {x : Nat} (h : x < 18446744073709551616) : IntKind.u64.wrap ((BitVec.ofInt IntKind.u64.bits (x : Int) &&& BitVec.ofInt IntKind.u64.bits 1).toNat : Int) = ((x % 2 : Nat) : Int) := by
  have : (BitVec.ofInt IntKind.u64.bits (x : Int) &&& BitVec.ofInt IntKind.u64.bits 1).toNat = x % 2 := by
    rw [BitVec.toNat_and]
    have h1 : (BitVec.ofInt IntKind.u64.bits (x : Int)).toNat = x := by
      rw [BitVec.ofInt_natCast, BitVec.toNat_ofNat]; exact Nat.mod_eq_of_lt h
    have h2 : (BitVec.ofInt IntKind.u64.bits 1).toNat = 1 := by decide
    rw [h1, h2, Nat.and_one_is_mod]
  rw [this, wrap_u64 (by omega)]
theorem shr64 (u k : Nat) (h : k ≤ 64) : Int.fdiv (u : Int) ((2 : Int) ^ min k IntKind.u64.bits) = ((u / 2 ^ k : Nat) : Int) := by
  rw [show min k IntKind.u64.bits = k from Nat.min_eq_left h]
  rw [show ((2 : Int) ^ k) = ((2 ^ k : Nat) : Int) by simp]
  exact (Int.ofNat_fdiv u (2 ^ k)).symm
theorem okPt (g : Nat) : okV (ptrV g) = true := rfl
theorem wkPt (g : Nat) : wk (ptrV g) = ptrV g := rfl
theorem eq1 (x : Nat) : (((x % 2 : Nat) : Int) == 1) = (x % 2 == 1) := by rw [Bool.eq_iff_iff]; simp; omega
end Go.Abs.M
namespace Go.Abs.M
open Go Go.Abs Go.Proofs
set_option maxRecDepth 20000
set_option linter.unusedSimpArgs false
set_option linter.unusedVariables false
theorem Snk.obj {g : Nat} {bs : List Bool} {σ : Hp} (h : Snk g bs σ) : ∃ v, σ.obj g = some [.c (.bool true), v, .c (.int .i64 (bs.length : Nat))] := by
  rcases h with ⟨rfl, h⟩ | ⟨k, h, _⟩
  · exact ⟨_, h⟩
  · exact ⟨_, h⟩
end Go.Abs.M
namespace Go.Abs.M
open Go Go.Abs Go.Proofs
set_option maxRecDepth 20000
set_option linter.unusedSimpArgs false
set_option linter.unusedVariables false
theorem flat_len (l : List UInt8) : (l.flatMap fun b => lowB b.toNat 8).length = 8 * l.length := by
  induction l with
  | nil => rfl
  | cons b l ih => rw [List.flatMap_cons, List.length_append, ih, lowB_len, List.length_cons]; omega
end Go.Abs.M
namespace Go.Abs.M
open Go Go.Abs Go.Proofs
set_option maxRecDepth 20000
set_option linter.unusedSimpArgs false
set_option linter.unusedVariables false
theorem encB_u8 {l : List Nat} (h : ∀ x ∈ l, x < 256) : l.map encB = (l.map UInt8.ofNat).map encU8 := by
  rw [List.map_map]
  refine List.map_congr_left fun x hx => ?_
  have : (UInt8.ofNat x).toNat = x := by simp [UInt8.toNat_ofNat']; exact h x hx
  simp [encB, encU8, this]
end Go.Abs.M
namespace Go.Abs.M
open Go Go.Abs Go.Proofs
set_option maxRecDepth 20000
set_option linter.unusedSimpArgs false
set_option linter.unusedVariables false
theorem Snk.other {g o : Nat} {bs : List Bool} {σ : Hp} {x : Option (List V)} (h : Snk g bs σ) (ho : σ.obj o = none) : Snk g bs (σ.setObj o x) := by
  have hne : g ≠ o := fun e => by
    obtain ⟨v, hv⟩ := h.obj
    rw [e, ho] at hv; cases hv
  rcases h with ⟨h1, h2⟩ | ⟨k, h1, h2⟩
  · exact .inl ⟨h1, by simp [hne, h2]⟩
  · exact .inr ⟨k, by simp [hne, h1], by simp [h2]⟩
theorem Fr.other {g o : Nat} {σ : Hp} {x : Option (List V)} (ho : σ.obj o = none) (hg : g ≠ o) : Fr g σ (σ.setObj o x) := by
  refine ⟨fun y c hy hc => ?_, fun k y hk hn => ⟨by simp [hk], ?_⟩⟩
  · have : y ≠ o := fun e => by rw [e, ho] at hc; cases hc
    simp [this, hc]
  · unfold skN at hn ⊢
    simpa [hg] using hn
theorem setObj_id {σ : Hp} {g : Nat} {x : List V} (h : σ.obj g = some x) : σ.setObj g (some x) = σ := by
  cases σ with
  | mk o r =>
    simp only [Hp.setObj, Hp.mk.injEq, and_true]
    funext j
    by_cases e : j = g
    · simp only [e, if_true]; exact h.symm
    · simp only [e, if_false]
theorem map1 (a : Value) : isMap [.c a] = false := rfl
end Go.Abs.M
namespace Go.Abs.M
open Go Go.Abs Go.Proofs
set_option maxRecDepth 20000
set_option linter.unusedSimpArgs false
set_option linter.unusedVariables false
theorem killPt (g d : Nat) : kill d (ptrV g) = ptrV g := rfl
theorem pw : (∀ g, okV (ptrV g) = true) ∧ (∀ g, wk (ptrV g) = ptrV g) ∧ (∀ g d, kill d (ptrV g) = ptrV g) := ⟨okPt, wkPt, killPt⟩
theorem Fr.at {g o : Nat} {σ σ' : Hp} {c : List V} (h : Fr g σ σ') (hne : o ≠ g) (hc : σ.obj o = some c) : σ'.obj o = some c := h.obj o c hne hc
end Go.Abs.M
namespace Go.Abs.M
open Go Go.Abs Go.Proofs
set_option maxRecDepth 20000
set_option linter.unusedSimpArgs false
set_option linter.unusedVariables false
theorem Fr.new {g o : Nat} {σ σ3 : Hp} {x : Option (List V)} (ho : σ.obj o = none) (hg : g ≠ o) (hgo : ∃ c, σ.obj g = some c) (hn : skN o (σ.setObj o x) = none) (hf : Fr o (σ.setObj o x) σ3) : Fr g σ σ3 := by
  refine ⟨fun y c hy hc => ?_, fun k y hk hnk => ?_⟩
  · have hyo : y ≠ o := fun e => by rw [e, ho] at hc; cases hc
    exact hf.obj y c hyo (by simp [hyo, hc])
  · obtain ⟨h1, h2⟩ := hf.gr k y (by simp [hk]) (by rw [hn]; exact fun e => by cases e)
    refine ⟨h1, ?_⟩
    obtain ⟨c, hc⟩ := hgo
    have : σ3.obj g = some c := hf.obj g c hg (by simp [hg, hc])
    unfold skN at hnk ⊢
    rw [hc] at hnk
    rw [this]; exact hnk
theorem Snk.ne {g o : Nat} {bs : List Bool} {σ : Hp} (h : Snk g bs σ) (ho : σ.obj o = none) : g ≠ o := fun e => by
  obtain ⟨v, hv⟩ := h.obj
  rw [e, ho] at hv; cases hv
end Go.Abs.M
namespace Go.Abs
open Go
section
variable {P : Program} {σ : Hp}
/-- A call whose result is a list that grows: the result, frozen. -/
theorem ACalls.freeze {f : FuncId} {args : List V} {R R' : V → Hp → Prop} (h : ACalls P f args σ R)
    (hr : ∀ v σ', R v σ' → ∃ k T es, v = .gl k ∧ σ'.gr k = some (T, es) ∧ R' (.sl es) (σ'.setGr k none)) : ACalls P f args σ R' := by
  refine ⟨h.1, fun cx w xs hH ha => (h.2 cx w xs hH ha).mono fun e w' ⟨v, r, cx', σ', h1, h2, h3, h4⟩ => ?_⟩
  obtain ⟨k, T, es, rfl, hk, hR⟩ := hr v σ' h4
  obtain ⟨cx2, hle, hL, hI, hH2, hv⟩ := h3.heap.freeze hk
  have hsub : ∀ g, (σ'.setGr k none).own cx2 g → σ'.own cx' g := fun g hg => by
    rcases hg with ⟨c, hc⟩ | ⟨j, x, hj, hb⟩
    · exact .inl ⟨c, hc⟩
    · by_cases ej : j = k
      · simp [Hp.setGr, ej] at hj
      · simp only [Hp.setGr, ej, if_false] at hj
        have hjn := (h3.heap.gr j x.1 x.2 hj).1
        rw [hle.M j hjn] at hb
        exact .inr ⟨j, x, hj, hb⟩
  have hcx : r = cx'.M k := by cases h2; rfl
  refine ⟨.sl es, r, cx2, σ'.setGr k none, h1, hcx ▸ hv, ⟨hH2, ⟨h3.ext.os, h3.ext.tape, h3.ext.output, h3.ext.size, h3.ext.block, h3.ext.le.trans hle, fun g hg => ?_, fun g hg => h3.ext.fnew g (hsub g hg)⟩, fun j x hj => ?_, fun g x hg => h3.onew g x hg⟩, hR⟩
  · rcases hI g hg with hg | hg
    · exact h3.ext.inew g hg
    · rcases h3.ext.fnew g (.inr ⟨k, _, hk, hg⟩) with h | h
      · exact .inr (.inl h)
      · exact .inr (.inr h)
  · by_cases ej : j = k
    · simp [Hp.setGr, ej] at hj
    · simp only [Hp.setGr, ej, if_false] at hj
      exact h3.gnew j x hj
end
end Go.Abs
