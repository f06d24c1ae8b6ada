import Derived.Test.YtmhamgllanihoaaMf
namespace Go.Abs.M
open Go Go.Abs Go.Proofs
set_option maxRecDepth 20000
set_option linter.unusedSimpArgs false
set_option linter.unusedVariables false

def mrg : List Bd → List Bd → List Bd
  | [], b => b
  | x :: a, [] => x :: a
  | x :: a, y :: b => if leS x.var y.var = true then x :: mrg a (y :: b) else y :: mrg (x :: a) b
termination_by a b => a.length + b.length
theorem mrg_nil (a : List Bd) : mrg a [] = a := by
  cases a <;> simp [mrg]
theorem mrg_len (a b : List Bd) : (mrg a b).length = a.length + b.length := by
  fun_induction mrg a b <;> simp_all <;> omega
theorem mrg_mem (a b : List Bd) : ∀ x ∈ mrg a b, x ∈ a ++ b := by
  fun_induction mrg a b
  · intro x hx; simpa using hx
  · intro x hx; simpa using hx
  · rename_i ih
    intro z hz
    rcases List.mem_cons.1 hz with rfl | hz
    · simp
    · have := ih z hz; simp at this ⊢; rcases this with h | h | h <;> simp_all
  · rename_i ih
    intro z hz
    rcases List.mem_cons.1 hz with rfl | hz
    · simp
    · have := ih z hz; simp at this ⊢; rcases this with h | h | h <;> simp [h]
/-- A list of the call's own, collected in the variable 't'. -/
def own (s : St) (σ : Hp) (t : Nat) (l : List Bd) : Prop := (l = [] ∧ s.t t = .c (.slice none 0 0) ∧ σ = Hp.empty) ∨ ∃ g, s.t t = .gl g ∧ σ = hpB g l

def rmergeV (a b : List Bd) : V := mergeV a b (mrg a b)
theorem rmerge_spec (a b : List Bd) (ha : okP a) (hb : okP b) (hat : ∀ x ∈ a ++ b, x.ev.attrs.length * 48 ≤ 140737488355328) :
    PCalls Try.prog 12 [.agg [.sl (a.map encBd)], .agg [.sl (b.map encBd)]] (fun v => v = rmergeV a b) := by
  refine PCalls.intro Try.call12 Try.func12 rfl Try.ntmps12 Try.results12 (by simp) ?_
  refine AW.seq_k fun K1 h1 => ?_
  all_goals refine AW.reg0 ?_
  all_goals iterate 4 (refine S.g rfl rfl fun K' k' => ?_; simp only [zz, reduceIte, Nat.reduceEqDiff, Nat.reduceLT, Nat.reduceLeDiff, Nat.reduceAdd, reduceCtorEq, Nat.reduceMul, ok24, sz24, ag24, zt24]; refine k' _ _ ?_; clear k' K')
  all_goals refine S.nil ?_
  all_goals simp only [ze, reduceIte, Nat.reduceEqDiff, Nat.reduceLT, Nat.reduceLeDiff, Nat.reduceAdd, reduceCtorEq, Nat.reduceMul]
  all_goals first | refine h1 _ _ ?_
  refine AW.seq_j (fun s' σ' => σ' = Hp.empty ∧ s'.t 2 = .lp 2 0 ∧ s'.l 2 = some [.sl (a.map encBd)] ∧ s'.t 3 = .lp 3 0 ∧ s'.l 3 = some [.sl (b.map encBd)] ∧ s'.t 4 = .lp 4 0 ∧ s'.l 4 = some [.c (.slice none 0 0)] ∧ partErr a = 0 ∧ partErr b = 0) ?_ ?_
  · refine AW.seq_j (fun s' σ' => σ' = Hp.empty ∧ s'.t 2 = .lp 2 0 ∧ s'.l 2 = some [.sl (a.map encBd)] ∧ s'.t 3 = .lp 3 0 ∧ s'.l 3 = some [.sl (b.map encBd)] ∧ s'.t 4 = .lp 4 0 ∧ s'.l 4 = some [.c (.slice none 0 0)] ∧ s'.t 17 = .c (.bool (decide (partErr a ≠ 0 ∨ partErr b ≠ 0)))) ?_ ?_
    · skip
      all_goals refine AW.reg0 ?_
      all_goals (refine S.g rfl rfl fun K' k' => ?_; simp only [zz, reduceIte, Nat.reduceEqDiff, Nat.reduceLT, Nat.reduceLeDiff, Nat.reduceAdd, reduceCtorEq, Nat.reduceMul, ok24, sz24, ag24]; refine k' _ _ ?_; clear k' K')
      all_goals (refine S.g rfl rfl fun K' k' => ?_; simp only [zz, reduceIte, Nat.reduceEqDiff, Nat.reduceLT, Nat.reduceLeDiff, Nat.reduceAdd, reduceCtorEq, Nat.reduceMul]; refine PCalls.eqto (rcheck_part _ (by assumption)) ?_ <;> (refine k' _ _ ?_; clear k' K'))
      all_goals (refine S.g rfl rfl fun K' k' => ?_; simp only [zz, reduceIte, Nat.reduceEqDiff, Nat.reduceLT, Nat.reduceLeDiff, Nat.reduceAdd, reduceCtorEq, Nat.reduceMul]; refine S.bool fun b a12 => ?_; cases b <;> (try (exfalso; first | exact Bool.noConfusion a12 | (have h := of_decide_eq_true a12; omega) | (have h := of_decide_eq_false a12; omega))) <;> (refine k' _ _ ?_; clear k' K'))
      all_goals (refine S.g rfl rfl fun K' k' => ?_; simp only [zz, reduceIte, Nat.reduceEqDiff, Nat.reduceAdd]; refine k' _ _ ?_; clear k' K')
      all_goals (first | (refine S.y rfl rfl rfl rfl fun K' k' => ?_; simp only [zz, reduceIte, Nat.reduceEqDiff, Nat.reduceLT, Nat.reduceLeDiff, Nat.reduceAdd, reduceCtorEq, Nat.reduceMul, ok24, sz24, ag24]; refine k' _ _ ?_; clear k' K') | ((first | refine S.x rfl rfl rfl rfl fun K' k' => ?_ | refine S.u rfl rfl rfl rfl fun K' k' => ?_); simp only [ze, reduceIte, Nat.reduceEqDiff]; refine k' _ _ ?_; clear k' K'))
      all_goals first | (refine S.y rfl rfl rfl rfl fun K' k' => ?_; simp only [zz, reduceIte, Nat.reduceEqDiff, Nat.reduceLT, Nat.reduceLeDiff, Nat.reduceAdd, reduceCtorEq, Nat.reduceMul]; refine PCalls.eqto (rcheck_part _ (by assumption)) ?_ <;> (refine k' _ _ ?_; clear k' K')) | ((first | refine S.x rfl rfl rfl rfl fun K' k' => ?_ | refine S.u rfl rfl rfl rfl fun K' k' => ?_); simp only [ze, reduceIte, Nat.reduceEqDiff]; (refine k' _ _ ?_; clear k' K'))
      all_goals (first | (refine S.y rfl rfl rfl rfl fun K' k' => ?_; simp only [zz, reduceIte, Nat.reduceEqDiff, Nat.reduceAdd]; refine k' _ _ ?_; clear k' K') | ((first | refine S.x rfl rfl rfl rfl fun K' k' => ?_ | refine S.u rfl rfl rfl rfl fun K' k' => ?_); simp only [ze, reduceIte, Nat.reduceEqDiff]; refine k' _ _ ?_; clear k' K'))
      all_goals (refine S.g rfl rfl fun K' k' => ?_; simp only [zz, reduceIte, Nat.reduceEqDiff, Nat.reduceAdd]; refine k' _ _ ?_; clear k' K')
      all_goals refine S.nil ?_
      all_goals simp only [ze, reduceIte, Nat.reduceEqDiff, Nat.reduceLT, Nat.reduceLeDiff, Nat.reduceAdd, reduceCtorEq, Nat.reduceMul]
      all_goals simp_all
      by_cases h0 : partErr b = 0 <;> simp [h0]
    rintro s σ ⟨rfl, e2, l2, e3, l3, e4, l4, e14⟩
    refine AW.cond (b := _) e14 (fun hc => ?_) (fun hc => ?_)
    · have hx := of_decide_eq_true hc
      refine AW.seq_k fun K2 h2 => ?_
      all_goals refine AW.reg0 ?_
      all_goals (refine S.g rfl rfl fun K' k' => ?_; simp only [zz, reduceIte, Nat.reduceEqDiff, Nat.reduceLT, Nat.reduceLeDiff, Nat.reduceAdd, reduceCtorEq, Nat.reduceMul, zt24, pl24, e4, l4]; refine k' _ _ ?_; clear k' K')
      all_goals iterate 2 (refine S.g rfl rfl fun K' k' => ?_; simp only [zz, reduceIte, Nat.reduceEqDiff, Nat.reduceLT, Nat.reduceLeDiff, Nat.reduceAdd, reduceCtorEq, Nat.reduceMul, ok24, sz24, ag24, e4, l4]; refine k' _ _ ?_; clear k' K')
      all_goals refine S.nil ?_
      all_goals simp only [ze, reduceIte, Nat.reduceEqDiff, Nat.reduceLT, Nat.reduceLeDiff, Nat.reduceAdd, reduceCtorEq, Nat.reduceMul, e4, l4]
      all_goals first | refine h2 _ _ ?_ | refine h1 _ _ ?_
      refine AW.ret ?_
      all_goals simp only [zs, reduceIte, Nat.reduceEqDiff, Nat.reduceLT, Nat.reduceLeDiff, Nat.reduceAdd, reduceCtorEq, Nat.reduceMul, qLoad, ok24, sz24, ag24, cut, List.drop_zero, List.take_succ_cons, List.take_zero, List.map, e4]
      rw [rmergeV, mergeV, if_pos hx]; rfl
    · have hx := of_decide_eq_false hc
      refine AW.skip ?_
      all_goals simp only [zs, reduceIte, Nat.reduceEqDiff, Nat.reduceLT, Nat.reduceLeDiff, Nat.reduceAdd, reduceCtorEq, Nat.reduceMul]
      exact ⟨e2, l2, e3, l3, e4, l4, Decidable.not_not.1 fun h => hx (.inl h), Decidable.not_not.1 fun h => hx (.inr h)⟩
  rintro s σ ⟨rfl, e2, l2, e3, l3, e4, l4, hpa, hpb⟩
  have hx : ¬ (partErr a ≠ 0 ∨ partErr b ≠ 0) := by simp [hpa, hpb]
  have hla : a.length ≤ 12 := by
    by_cases h : 12 < a.length
    · simp [partErr, h] at hpa
    · omega
  have hlb : b.length ≤ 12 := by
    by_cases h : 12 < b.length
    · simp [partErr, h] at hpb
    · omega
  refine AW.seq_k fun K3 h3 => ?_
  all_goals refine AW.reg0 ?_
  all_goals (refine S.g rfl rfl fun K' k' => ?_; simp only [zz, reduceIte, Nat.reduceEqDiff, Nat.reduceAdd]; refine k' _ _ ?_; clear k' K')
  all_goals refine S.nil ?_
  all_goals simp only [ze, reduceIte, Nat.reduceEqDiff, Nat.reduceLT, Nat.reduceLeDiff, Nat.reduceAdd, reduceCtorEq, Nat.reduceMul]
  all_goals first | refine h3 _ _ ?_ | refine h2 _ _ ?_ | refine h1 _ _ ?_
  refine AW.seq_k fun K4 h4 => ?_
  all_goals refine AW.reg0 ?_
  all_goals (refine S.g rfl rfl fun K' k' => ?_; simp only [zz, reduceIte, Nat.reduceEqDiff, Nat.reduceAdd]; refine k' _ _ ?_; clear k' K')
  all_goals refine S.nil ?_
  all_goals simp only [ze, reduceIte, Nat.reduceEqDiff, Nat.reduceLT, Nat.reduceLeDiff, Nat.reduceAdd, reduceCtorEq, Nat.reduceMul]
  all_goals first | refine h4 _ _ ?_ | refine h3 _ _ ?_ | refine h2 _ _ ?_ | refine h1 _ _ ?_
  refine AW.seq_k fun K5 h5 => ?_
  all_goals refine AW.reg0 ?_
  all_goals (refine S.g rfl rfl fun K' k' => ?_; simp only [zz, reduceIte, Nat.reduceEqDiff, Nat.reduceAdd]; refine k' _ _ ?_; clear k' K')
  all_goals refine S.nil ?_
  all_goals simp only [ze, reduceIte, Nat.reduceEqDiff, Nat.reduceLT, Nat.reduceLeDiff, Nat.reduceAdd, reduceCtorEq, Nat.reduceMul]
  all_goals first | refine h5 _ _ ?_ | refine h4 _ _ ?_ | refine h3 _ _ ?_ | refine h2 _ _ ?_ | refine h1 _ _ ?_
  refine AW.seq_j (fun s σ => s.t 4 = .lp 4 0 ∧ s.l 4 = some [.c (.slice none 0 0)] ∧ own s σ 6 (mrg a b)) ?_ ?_
  · refine AW.block ?_   -- 0
    refine AW.loop (fun m s σ => ∃ (i k : Nat) (out : List Bd), m = (a.length - i) + (b.length - k) ∧ i ≤ a.length ∧ k ≤ b.length ∧ out.length = i + k ∧ s.t 2 = .lp 2 0 ∧ s.l 2 = some [.sl (a.map encBd)] ∧ s.t 3 = .lp 3 0 ∧ s.l 3 = some [.sl (b.map encBd)] ∧ s.t 4 = .lp 4 0 ∧ s.l 4 = some [.c (.slice none 0 0)] ∧
      s.t 7 = .c (.int .i64 i) ∧ s.t 8 = .c (.int .i64 k) ∧ own s σ 6 out ∧ mrg a b = out ++ mrg (a.drop i) (b.drop k)) (a.length + b.length) ?_ ?_
    · refine ⟨0, 0, [], rfl, by omega, by omega, rfl, ?_⟩
      all_goals simp only [zs, reduceIte, Nat.reduceEqDiff, Nat.reduceLT, Nat.reduceLeDiff, Nat.reduceAdd, reduceCtorEq, Nat.reduceMul, own]
      simp [e2, l2, e3, l3, e4, l4]
    clear e2 l2 e3 l3 e4 l4
    rintro m s σ ⟨i, k, out, hm, hia, hkb, hol, e2, l2, e3, l3, e4, l4, e7, e8, hown, hp⟩
    refine AW.seq_k fun K6 h6 => ?_
    refine AW.seq_j (fun s' σ' => σ' = σ ∧ s'.t 2 = .lp 2 0 ∧ s'.l 2 = some [.sl (a.map encBd)] ∧ s'.t 3 = .lp 3 0 ∧ s'.l 3 = some [.sl (b.map encBd)] ∧ s'.t 4 = .lp 4 0 ∧ s'.l 4 = some [.c (.slice none 0 0)] ∧ s'.t 6 = s.t 6 ∧ s'.t 7 = .c (.int .i64 i) ∧ s'.t 8 = .c (.int .i64 k) ∧ s'.t 30 = .c (.bool (decide (i < a.length ∨ k < b.length)))) ?_ ?_
    · clear hp hown
      all_goals refine AW.reg0 ?_
      all_goals iterate 4 (refine S.g rfl rfl fun K' k' => ?_; simp only [zz, reduceIte, Nat.reduceEqDiff, Nat.reduceLT, Nat.reduceLeDiff, Nat.reduceAdd, reduceCtorEq, Nat.reduceMul, of24_0, ok22, sz22, ag22, sl22, el22, ok42, sz42, ag42, e2, l2, e3, l3, e7, e8]; refine k' _ _ ?_; clear k' K')
      all_goals (refine S.g rfl rfl fun K' k' => ?_; simp only [zz, reduceIte, Nat.reduceEqDiff, Nat.reduceLT, Nat.reduceLeDiff, Nat.reduceAdd, reduceCtorEq, Nat.reduceMul, e2, l2, e3, l3, e7, e8]; refine S.bool fun b a23 => ?_; cases b <;> (try (exfalso; first | exact Bool.noConfusion a23 | (have h := of_decide_eq_true a23; omega) | (have h := of_decide_eq_false a23; omega))) <;> (refine k' _ _ ?_; clear k' K'))
      all_goals (refine S.g rfl rfl fun K' k' => ?_; simp only [zz, reduceIte, Nat.reduceEqDiff, Nat.reduceAdd, e2, l2, e3, l3, e7, e8]; refine k' _ _ ?_; clear k' K')
      all_goals iterate 5 (first | (refine S.y rfl rfl rfl rfl fun K' k' => ?_; simp only [zz, reduceIte, Nat.reduceEqDiff, Nat.reduceLT, Nat.reduceLeDiff, Nat.reduceAdd, reduceCtorEq, Nat.reduceMul, of24_0, ok22, sz22, ag22, sl22, el22, ok42, sz42, ag42, e2, l2, e3, l3, e7, e8]; refine k' _ _ ?_; clear k' K') | ((first | refine S.x rfl rfl rfl rfl fun K' k' => ?_ | refine S.u rfl rfl rfl rfl fun K' k' => ?_); simp only [ze, reduceIte, Nat.reduceEqDiff]; refine k' _ _ ?_; clear k' K'))
      all_goals (refine S.g rfl rfl fun K' k' => ?_; simp only [zz, reduceIte, Nat.reduceEqDiff, Nat.reduceAdd, e2, l2, e3, l3, e7, e8]; refine k' _ _ ?_; clear k' K')
      all_goals refine S.nil ?_
      all_goals simp only [ze, reduceIte, Nat.reduceEqDiff, Nat.reduceLT, Nat.reduceLeDiff, Nat.reduceAdd, reduceCtorEq, Nat.reduceMul, e2, l2, e3, l3, e7, e8]
      all_goals refine ⟨e4, l4, ?_⟩
      all_goals (simp only [decide_eq_true_eq, decide_eq_false_iff_not] at a23; simp; omega)
    rintro s1 σ1 ⟨rfl, f2, k2, f3, k3, f4, k4, f6, f7, f8, f30⟩
    refine AW.cond (b := _) f30 (fun hc => ?_) (fun hc => ?_)
    · have hc := of_decide_eq_true hc
      refine AW.skip ?_
      all_goals simp only [zs, reduceIte, Nat.reduceEqDiff, Nat.reduceLT, Nat.reduceLeDiff, Nat.reduceAdd, reduceCtorEq, Nat.reduceMul]
      all_goals first | refine h6 _ _ ?_ | refine h5 _ _ ?_ | refine h4 _ _ ?_ | refine h3 _ _ ?_ | refine h2 _ _ ?_ | refine h1 _ _ ?_
      refine AW.block ?_   -- 1
      refine AW.seq_j (fun s' σ' => σ' = σ1 ∧ s'.t 2 = .lp 2 0 ∧ s'.l 2 = some [.sl (a.map encBd)] ∧ s'.t 3 = .lp 3 0 ∧ s'.l 3 = some [.sl (b.map encBd)] ∧ s'.t 4 = .lp 4 0 ∧ s'.l 4 = some [.c (.slice none 0 0)] ∧ s'.t 6 = s.t 6 ∧ s'.t 7 = .c (.int .i64 i) ∧ s'.t 8 = .c (.int .i64 k) ∧ ∃ q, s'.t 57 = .c (.bool q) ∧
        (q = true → ∃ x, a[i]? = some x ∧ mrg (a.drop i) (b.drop k) = x :: mrg (a.drop (i + 1)) (b.drop k)) ∧ (q = false → ∃ y, b[k]? = some y ∧ mrg (a.drop i) (b.drop k) = y :: mrg (a.drop i) (b.drop (k + 1)))) ?_ ?_
      · clear hp
        by_cases hk : k < b.length
        · obtain ⟨y, hy, hgy⟩ := get_bd hk
          have hdy : b.drop k = y :: b.drop (k + 1) := by rw [List.drop_eq_getElem_cons hk, (List.getElem?_eq_some_iff.1 hy).2]
          have hkne : ((k : Int) == b.length) = false := by simp; omega
          by_cases hi : i < a.length
          · obtain ⟨x, hx, hgx⟩ := get_bd hi
            have hdx : a.drop i = x :: a.drop (i + 1) := by rw [List.drop_eq_getElem_cons hi, (List.getElem?_eq_some_iff.1 hx).2]
            all_goals refine AW.draw (T := { sd := fun d => d == 2 || d == 3 }) (fun _ _ h => by cases h) mixedO [(0, 0), (1, 0), (2, 1), (3, 0), (4, 0), (5, 0), (6, 0), (7, 0), (8, 1), (9, 0), (10, 0), (11, 0), (12, 0), (14, 0), (18, 0), (20, 0), (13, 1), (15, 0), (16, 0), (17, 1), (19, 1), (21, 0), (22, 0), (23, 1), (24, 0), (25, 0), (26, 0)] rfl (by kernel_rfl) (by kernel_rfl) ?_
            all_goals iterate 2 (refine D.g rfl trivial rfl rfl fun K' k' => ?_; simp only [zz, reduceIte, Nat.reduceEqDiff, Nat.reduceLT, Nat.reduceLeDiff, Nat.reduceAdd, reduceCtorEq, Nat.reduceMul, of24_0, f2, k2, f3, k3, f7, f8, hk, hi, hgx, hgy, encBd, hkne]; refine k' _ _ ?_; clear k' K')
            all_goals (refine D.g rfl rfl rfl rfl fun K' k' => ?_; simp only [zz, reduceIte, Nat.reduceEqDiff, Nat.reduceLT, Nat.reduceLeDiff, Nat.reduceAdd, reduceCtorEq, Nat.reduceMul, ok22, sz22, ag22, f2, k2, f3, k3, f7, f8, hk, hi, hgx, hgy, encBd, hkne]; refine k' _ _ ?_; clear k' K')
            all_goals (refine D.g rfl trivial rfl rfl fun K' k' => ?_; simp only [zz, reduceIte, Nat.reduceEqDiff, Nat.reduceLT, Nat.reduceLeDiff, Nat.reduceAdd, reduceCtorEq, Nat.reduceMul, sl22, el22, ok42, sz42, ag42, f2, k2, f3, k3, f7, f8, hk, hi, hgx, hgy, encBd, hkne]; refine k' _ _ ?_; clear k' K')
            all_goals (refine D.g rfl trivial rfl rfl fun K' k' => ?_; simp only [zz, reduceIte, Nat.reduceEqDiff, Nat.reduceLT, Nat.reduceLeDiff, Nat.reduceAdd, reduceCtorEq, Nat.reduceMul, f2, k2, f3, k3, f7, f8, hk, hi, hgx, hgy, encBd, hkne]; refine S.bool fun b a35 => ?_; cases b <;> (try (exfalso; first | exact Bool.noConfusion a35 | (have h := of_decide_eq_true a35; omega) | (have h := of_decide_eq_false a35; omega))) <;> (refine k' _ _ ?_; clear k' K'))
            all_goals (refine D.g rfl trivial rfl rfl fun K' k' => ?_; simp only [zz, reduceIte, Nat.reduceEqDiff, Nat.reduceAdd, f2, k2, f3, k3, f7, f8, hk, hi, hgx, hgy, encBd, hkne]; refine k' _ _ ?_; clear k' K')
            all_goals iterate 2 (first | (refine D.y rfl trivial rfl rfl rfl rfl fun K' k' => ?_; simp only [zz, reduceIte, Nat.reduceEqDiff, Nat.reduceLT, Nat.reduceLeDiff, Nat.reduceAdd, reduceCtorEq, Nat.reduceMul, of24_0, f2, k2, f3, k3, f7, f8, hk, hi, hgx, hgy, encBd, hkne]; refine k' _ _ ?_; clear k' K') | ((first | refine D.x rfl (fun h => by cases h) rfl rfl rfl rfl fun K' k' => ?_ | refine D.u rfl (fun h => by cases h) rfl rfl rfl rfl fun K' k' => ?_); simp only [ze, reduceIte, Nat.reduceEqDiff]; refine k' _ _ ?_; clear k' K'))
            all_goals (first | (refine D.y rfl rfl rfl rfl rfl rfl fun K' k' => ?_; simp only [zz, reduceIte, Nat.reduceEqDiff, Nat.reduceLT, Nat.reduceLeDiff, Nat.reduceAdd, reduceCtorEq, Nat.reduceMul, ok22, sz22, ag22, f2, k2, f3, k3, f7, f8, hk, hi, hgx, hgy, encBd, hkne]; refine k' _ _ ?_; clear k' K') | ((first | refine D.x rfl (fun _ => rfl) rfl rfl rfl rfl fun K' k' => ?_ | refine D.u rfl (fun _ => rfl) rfl rfl rfl rfl fun K' k' => ?_); simp only [ze, reduceIte, Nat.reduceEqDiff]; refine k' _ _ ?_; clear k' K'))
            all_goals (first | (refine D.y rfl trivial rfl rfl rfl rfl fun K' k' => ?_; simp only [zz, reduceIte, Nat.reduceEqDiff, Nat.reduceLT, Nat.reduceLeDiff, Nat.reduceAdd, reduceCtorEq, Nat.reduceMul, sl22, el22, ok42, sz42, ag42, f2, k2, f3, k3, f7, f8, hk, hi, hgx, hgy, encBd, hkne]; refine k' _ _ ?_; clear k' K') | ((first | refine D.x rfl (fun h => by cases h) rfl rfl rfl rfl fun K' k' => ?_ | refine D.u rfl (fun h => by cases h) rfl rfl rfl rfl fun K' k' => ?_); simp only [ze, reduceIte, Nat.reduceEqDiff]; refine k' _ _ ?_; clear k' K'))
            all_goals first | (refine D.y rfl trivial rfl rfl rfl rfl fun K' k' => ?_; simp only [zz, reduceIte, Nat.reduceEqDiff, Nat.reduceLT, Nat.reduceLeDiff, Nat.reduceAdd, reduceCtorEq, Nat.reduceMul, f2, k2, f3, k3, f7, f8, hk, hi, hgx, hgy, encBd, hkne]; refine S.bool fun b a41 => ?_; cases b <;> (try (exfalso; first | exact Bool.noConfusion a41 | (have h := of_decide_eq_true a41; omega) | (have h := of_decide_eq_false a41; omega))) <;> (refine k' _ _ ?_; clear k' K')) | ((first | refine D.x rfl (fun h => by cases h) rfl rfl rfl rfl fun K' k' => ?_ | refine D.u rfl (fun h => by cases h) rfl rfl rfl rfl fun K' k' => ?_); simp only [ze, reduceIte, Nat.reduceEqDiff]; (refine k' _ _ ?_; clear k' K'))
            all_goals iterate 5 (first | (refine D.y rfl trivial rfl rfl rfl rfl fun K' k' => ?_; simp only [zz, reduceIte, Nat.reduceEqDiff, Nat.reduceLT, Nat.reduceLeDiff, Nat.reduceAdd, reduceCtorEq, Nat.reduceMul, of24_0, f2, k2, f3, k3, f7, f8, hk, hi, hgx, hgy, encBd, hkne]; refine k' _ _ ?_; clear k' K') | ((first | refine D.x rfl (fun h => by cases h) rfl rfl rfl rfl fun K' k' => ?_ | refine D.u rfl (fun h => by cases h) rfl rfl rfl rfl fun K' k' => ?_); simp only [ze, reduceIte, Nat.reduceEqDiff]; refine k' _ _ ?_; clear k' K'))
            all_goals (first | (refine D.y rfl rfl rfl rfl rfl rfl fun K' k' => ?_; simp only [zz, reduceIte, Nat.reduceEqDiff, Nat.reduceLT, Nat.reduceLeDiff, Nat.reduceAdd, reduceCtorEq, Nat.reduceMul, ok22, sz22, ag22, f2, k2, f3, k3, f7, f8, hk, hi, hgx, hgy, encBd, hkne]; refine k' _ _ ?_; clear k' K') | ((first | refine D.x rfl (fun _ => rfl) rfl rfl rfl rfl fun K' k' => ?_ | refine D.u rfl (fun _ => rfl) rfl rfl rfl rfl fun K' k' => ?_); simp only [ze, reduceIte, Nat.reduceEqDiff]; refine k' _ _ ?_; clear k' K'))
            all_goals iterate 2 (first | (refine D.y rfl trivial rfl rfl rfl rfl fun K' k' => ?_; simp only [zz, reduceIte, Nat.reduceEqDiff, Nat.reduceLT, Nat.reduceLeDiff, Nat.reduceAdd, reduceCtorEq, Nat.reduceMul, sl22, el22, ok42, sz42, ag42, of42_0, f2, k2, f3, k3, f7, f8, hk, hi, hgx, hgy, encBd, hkne]; refine k' _ _ ?_; clear k' K') | ((first | refine D.x rfl (fun h => by cases h) rfl rfl rfl rfl fun K' k' => ?_ | refine D.u rfl (fun h => by cases h) rfl rfl rfl rfl fun K' k' => ?_); simp only [ze, reduceIte, Nat.reduceEqDiff]; refine k' _ _ ?_; clear k' K'))
            all_goals iterate 2 (first | (refine D.y rfl rfl rfl rfl rfl rfl fun K' k' => ?_; simp only [zz, reduceIte, Nat.reduceEqDiff, Nat.reduceLT, Nat.reduceLeDiff, Nat.reduceAdd, reduceCtorEq, Nat.reduceMul, ok9, sz9, ag9, ok22, sz22, ag22, f2, k2, f3, k3, f7, f8, hk, hi, hgx, hgy, encBd, hkne]; refine k' _ _ ?_; clear k' K') | ((first | refine D.x rfl (fun _ => rfl) rfl rfl rfl rfl fun K' k' => ?_ | refine D.u rfl (fun _ => rfl) rfl rfl rfl rfl fun K' k' => ?_); simp only [ze, reduceIte, Nat.reduceEqDiff]; refine k' _ _ ?_; clear k' K'))
            all_goals iterate 2 (first | (refine D.y rfl trivial rfl rfl rfl rfl fun K' k' => ?_; simp only [zz, reduceIte, Nat.reduceEqDiff, Nat.reduceLT, Nat.reduceLeDiff, Nat.reduceAdd, reduceCtorEq, Nat.reduceMul, sl22, el22, ok42, sz42, ag42, of42_0, f2, k2, f3, k3, f7, f8, hk, hi, hgx, hgy, encBd, hkne]; refine k' _ _ ?_; clear k' K') | ((first | refine D.x rfl (fun h => by cases h) rfl rfl rfl rfl fun K' k' => ?_ | refine D.u rfl (fun h => by cases h) rfl rfl rfl rfl fun K' k' => ?_); simp only [ze, reduceIte, Nat.reduceEqDiff]; refine k' _ _ ?_; clear k' K'))
            all_goals (first | (refine D.y rfl rfl rfl rfl rfl rfl fun K' k' => ?_; simp only [zz, reduceIte, Nat.reduceEqDiff, Nat.reduceLT, Nat.reduceLeDiff, Nat.reduceAdd, reduceCtorEq, Nat.reduceMul, ok9, sz9, ag9, f2, k2, f3, k3, f7, f8, hk, hi, hgx, hgy, encBd, hkne]; refine k' _ _ ?_; clear k' K') | ((first | refine D.x rfl (fun _ => rfl) rfl rfl rfl rfl fun K' k' => ?_ | refine D.u rfl (fun _ => rfl) rfl rfl rfl rfl fun K' k' => ?_); simp only [ze, reduceIte, Nat.reduceEqDiff]; refine k' _ _ ?_; clear k' K'))
            all_goals iterate 2 (first | (refine D.y rfl trivial rfl rfl rfl rfl fun K' k' => ?_; simp only [zz, reduceIte, Nat.reduceEqDiff, Nat.reduceAdd, f2, k2, f3, k3, f7, f8, hk, hi, hgx, hgy, encBd, hkne]; refine k' _ _ ?_; clear k' K') | ((first | refine D.x rfl (fun h => by cases h) rfl rfl rfl rfl fun K' k' => ?_ | refine D.u rfl (fun h => by cases h) rfl rfl rfl rfl fun K' k' => ?_); simp only [ze, reduceIte, Nat.reduceEqDiff]; refine k' _ _ ?_; clear k' K'))
            all_goals (refine D.g rfl trivial rfl rfl fun K' k' => ?_; simp only [zz, reduceIte, Nat.reduceEqDiff, Nat.reduceAdd, f2, k2, f3, k3, f7, f8, hk, hi, hgx, hgy, encBd, hkne]; refine k' _ _ ?_; clear k' K')
            all_goals refine D.nil ?_
            all_goals simp only [ze, reduceIte, Nat.reduceEqDiff, Nat.reduceLT, Nat.reduceLeDiff, Nat.reduceAdd, reduceCtorEq, Nat.reduceMul, f2, k2, f3, k3, f7, f8, hk, hi, hgx, hgy, encBd, hkne]
            all_goals refine ⟨f4, k4, f6, leS x.var y.var, rfl, fun h => ⟨x, hx, ?_⟩, fun h => ⟨y, hy, ?_⟩⟩
            · rw [hdx, hdy, mrg, if_pos h]
            · rw [hdx, hdy, mrg, if_neg (by rw [h]; simp)]
          · skip
            all_goals refine AW.draw (T := { sd := fun d => d == 2 || d == 3 }) (fun _ _ h => by cases h) mixedO [(0, 0), (1, 0), (2, 1), (3, 0), (4, 0), (5, 0), (6, 0), (7, 0), (8, 1), (9, 0), (10, 0), (11, 0), (12, 0), (14, 0), (18, 0), (20, 0), (13, 1), (15, 0), (16, 0), (17, 1), (19, 1), (21, 0), (22, 0), (23, 1), (24, 0), (25, 0), (26, 0)] rfl (by kernel_rfl) (by kernel_rfl) ?_
            all_goals iterate 2 (refine D.g rfl trivial rfl rfl fun K' k' => ?_; simp only [zz, reduceIte, Nat.reduceEqDiff, Nat.reduceLT, Nat.reduceLeDiff, Nat.reduceAdd, reduceCtorEq, Nat.reduceMul, of24_0, f2, k2, f3, k3, f7, f8, hk, hgy, encBd, hkne]; refine k' _ _ ?_; clear k' K')
            all_goals (refine D.g rfl rfl rfl rfl fun K' k' => ?_; simp only [zz, reduceIte, Nat.reduceEqDiff, Nat.reduceLT, Nat.reduceLeDiff, Nat.reduceAdd, reduceCtorEq, Nat.reduceMul, ok22, sz22, ag22, f2, k2, f3, k3, f7, f8, hk, hgy, encBd, hkne]; refine k' _ _ ?_; clear k' K')
            all_goals (refine D.g rfl trivial rfl rfl fun K' k' => ?_; simp only [zz, reduceIte, Nat.reduceEqDiff, Nat.reduceLT, Nat.reduceLeDiff, Nat.reduceAdd, reduceCtorEq, Nat.reduceMul, sl22, el22, ok42, sz42, ag42, f2, k2, f3, k3, f7, f8, hk, hgy, encBd, hkne]; refine k' _ _ ?_; clear k' K')
            all_goals (refine D.g rfl trivial rfl rfl fun K' k' => ?_; simp only [zz, reduceIte, Nat.reduceEqDiff, Nat.reduceLT, Nat.reduceLeDiff, Nat.reduceAdd, reduceCtorEq, Nat.reduceMul, f2, k2, f3, k3, f7, f8, hk, hgy, encBd, hkne]; refine S.bool fun b a35 => ?_; cases b <;> (try (exfalso; first | exact Bool.noConfusion a35 | (have h := of_decide_eq_true a35; omega) | (have h := of_decide_eq_false a35; omega))) <;> (refine k' _ _ ?_; clear k' K'))
            all_goals (refine D.g rfl trivial rfl rfl fun K' k' => ?_; simp only [zz, reduceIte, Nat.reduceEqDiff, Nat.reduceAdd, f2, k2, f3, k3, f7, f8, hk, hgy, encBd, hkne]; refine k' _ _ ?_; clear k' K')
            all_goals iterate 2 (first | (refine D.y rfl trivial rfl rfl rfl rfl fun K' k' => ?_; simp only [zz, reduceIte, Nat.reduceEqDiff, Nat.reduceLT, Nat.reduceLeDiff, Nat.reduceAdd, reduceCtorEq, Nat.reduceMul, of24_0, f2, k2, f3, k3, f7, f8, hk, hgy, encBd, hkne]; refine k' _ _ ?_; clear k' K') | ((first | refine D.x rfl (fun h => by cases h) rfl rfl rfl rfl fun K' k' => ?_ | refine D.u rfl (fun h => by cases h) rfl rfl rfl rfl fun K' k' => ?_); simp only [ze, reduceIte, Nat.reduceEqDiff]; refine k' _ _ ?_; clear k' K'))
            all_goals (first | (refine D.y rfl rfl rfl rfl rfl rfl fun K' k' => ?_; simp only [zz, reduceIte, Nat.reduceEqDiff, Nat.reduceLT, Nat.reduceLeDiff, Nat.reduceAdd, reduceCtorEq, Nat.reduceMul, ok22, sz22, ag22, f2, k2, f3, k3, f7, f8, hk, hgy, encBd, hkne]; refine k' _ _ ?_; clear k' K') | ((first | refine D.x rfl (fun _ => rfl) rfl rfl rfl rfl fun K' k' => ?_ | refine D.u rfl (fun _ => rfl) rfl rfl rfl rfl fun K' k' => ?_); simp only [ze, reduceIte, Nat.reduceEqDiff]; refine k' _ _ ?_; clear k' K'))
            all_goals (first | (refine D.y rfl trivial rfl rfl rfl rfl fun K' k' => ?_; simp only [zz, reduceIte, Nat.reduceEqDiff, Nat.reduceLT, Nat.reduceLeDiff, Nat.reduceAdd, reduceCtorEq, Nat.reduceMul, sl22, el22, ok42, sz42, ag42, f2, k2, f3, k3, f7, f8, hk, hgy, encBd, hkne]; refine k' _ _ ?_; clear k' K') | ((first | refine D.x rfl (fun h => by cases h) rfl rfl rfl rfl fun K' k' => ?_ | refine D.u rfl (fun h => by cases h) rfl rfl rfl rfl fun K' k' => ?_); simp only [ze, reduceIte, Nat.reduceEqDiff]; refine k' _ _ ?_; clear k' K'))
            all_goals first | (refine D.y rfl trivial rfl rfl rfl rfl fun K' k' => ?_; simp only [zz, reduceIte, Nat.reduceEqDiff, Nat.reduceLT, Nat.reduceLeDiff, Nat.reduceAdd, reduceCtorEq, Nat.reduceMul, f2, k2, f3, k3, f7, f8, hk, hgy, encBd, hkne]; refine S.bool fun b a41 => ?_; cases b <;> (try (exfalso; first | exact Bool.noConfusion a41 | (have h := of_decide_eq_true a41; omega) | (have h := of_decide_eq_false a41; omega))) <;> (refine k' _ _ ?_; clear k' K')) | ((first | refine D.x rfl (fun h => by cases h) rfl rfl rfl rfl fun K' k' => ?_ | refine D.u rfl (fun h => by cases h) rfl rfl rfl rfl fun K' k' => ?_); simp only [ze, reduceIte, Nat.reduceEqDiff]; (refine k' _ _ ?_; clear k' K'))
            all_goals iterate 5 (first | (refine D.y rfl trivial rfl rfl rfl rfl fun K' k' => ?_; simp only [zz, reduceIte, Nat.reduceEqDiff, Nat.reduceLT, Nat.reduceLeDiff, Nat.reduceAdd, reduceCtorEq, Nat.reduceMul, of24_0, f2, k2, f3, k3, f7, f8, hk, hgy, encBd, hkne]; refine k' _ _ ?_; clear k' K') | ((first | refine D.x rfl (fun h => by cases h) rfl rfl rfl rfl fun K' k' => ?_ | refine D.u rfl (fun h => by cases h) rfl rfl rfl rfl fun K' k' => ?_); simp only [ze, reduceIte, Nat.reduceEqDiff]; refine k' _ _ ?_; clear k' K'))
            all_goals (first | (refine D.y rfl rfl rfl rfl rfl rfl fun K' k' => ?_; simp only [zz, reduceIte, Nat.reduceEqDiff, Nat.reduceLT, Nat.reduceLeDiff, Nat.reduceAdd, reduceCtorEq, Nat.reduceMul, ok22, sz22, ag22, f2, k2, f3, k3, f7, f8, hk, hgy, encBd, hkne]; refine k' _ _ ?_; clear k' K') | ((first | refine D.x rfl (fun _ => rfl) rfl rfl rfl rfl fun K' k' => ?_ | refine D.u rfl (fun _ => rfl) rfl rfl rfl rfl fun K' k' => ?_); simp only [ze, reduceIte, Nat.reduceEqDiff]; refine k' _ _ ?_; clear k' K'))
            all_goals iterate 2 (first | (refine D.y rfl trivial rfl rfl rfl rfl fun K' k' => ?_; simp only [zz, reduceIte, Nat.reduceEqDiff, Nat.reduceLT, Nat.reduceLeDiff, Nat.reduceAdd, reduceCtorEq, Nat.reduceMul, sl22, el22, ok42, sz42, ag42, of42_0, f2, k2, f3, k3, f7, f8, hk, hgy, encBd, hkne]; refine k' _ _ ?_; clear k' K') | ((first | refine D.x rfl (fun h => by cases h) rfl rfl rfl rfl fun K' k' => ?_ | refine D.u rfl (fun h => by cases h) rfl rfl rfl rfl fun K' k' => ?_); simp only [ze, reduceIte, Nat.reduceEqDiff]; refine k' _ _ ?_; clear k' K'))
            all_goals iterate 2 (first | (refine D.y rfl rfl rfl rfl rfl rfl fun K' k' => ?_; simp only [zz, reduceIte, Nat.reduceEqDiff, Nat.reduceLT, Nat.reduceLeDiff, Nat.reduceAdd, reduceCtorEq, Nat.reduceMul, ok9, sz9, ag9, ok22, sz22, ag22, f2, k2, f3, k3, f7, f8, hk, hgy, encBd, hkne]; refine k' _ _ ?_; clear k' K') | ((first | refine D.x rfl (fun _ => rfl) rfl rfl rfl rfl fun K' k' => ?_ | refine D.u rfl (fun _ => rfl) rfl rfl rfl rfl fun K' k' => ?_); simp only [ze, reduceIte, Nat.reduceEqDiff]; refine k' _ _ ?_; clear k' K'))
            all_goals iterate 2 (first | (refine D.y rfl trivial rfl rfl rfl rfl fun K' k' => ?_; simp only [zz, reduceIte, Nat.reduceEqDiff, Nat.reduceLT, Nat.reduceLeDiff, Nat.reduceAdd, reduceCtorEq, Nat.reduceMul, sl22, el22, ok42, sz42, ag42, of42_0, f2, k2, f3, k3, f7, f8, hk, hgy, encBd, hkne]; refine k' _ _ ?_; clear k' K') | ((first | refine D.x rfl (fun h => by cases h) rfl rfl rfl rfl fun K' k' => ?_ | refine D.u rfl (fun h => by cases h) rfl rfl rfl rfl fun K' k' => ?_); simp only [ze, reduceIte, Nat.reduceEqDiff]; refine k' _ _ ?_; clear k' K'))
            all_goals (first | (refine D.y rfl rfl rfl rfl rfl rfl fun K' k' => ?_; simp only [zz, reduceIte, Nat.reduceEqDiff, Nat.reduceLT, Nat.reduceLeDiff, Nat.reduceAdd, reduceCtorEq, Nat.reduceMul, ok9, sz9, ag9, f2, k2, f3, k3, f7, f8, hk, hgy, encBd, hkne]; refine k' _ _ ?_; clear k' K') | ((first | refine D.x rfl (fun _ => rfl) rfl rfl rfl rfl fun K' k' => ?_ | refine D.u rfl (fun _ => rfl) rfl rfl rfl rfl fun K' k' => ?_); simp only [ze, reduceIte, Nat.reduceEqDiff]; refine k' _ _ ?_; clear k' K'))
            all_goals iterate 2 (first | (refine D.y rfl trivial rfl rfl rfl rfl fun K' k' => ?_; simp only [zz, reduceIte, Nat.reduceEqDiff, Nat.reduceAdd, f2, k2, f3, k3, f7, f8, hk, hgy, encBd, hkne]; refine k' _ _ ?_; clear k' K') | ((first | refine D.x rfl (fun h => by cases h) rfl rfl rfl rfl fun K' k' => ?_ | refine D.u rfl (fun h => by cases h) rfl rfl rfl rfl fun K' k' => ?_); simp only [ze, reduceIte, Nat.reduceEqDiff]; refine k' _ _ ?_; clear k' K'))
            all_goals (refine D.g rfl trivial rfl rfl fun K' k' => ?_; simp only [zz, reduceIte, Nat.reduceEqDiff, Nat.reduceAdd, f2, k2, f3, k3, f7, f8, hk, hgy, encBd, hkne]; refine k' _ _ ?_; clear k' K')
            all_goals refine D.nil ?_
            all_goals simp only [ze, reduceIte, Nat.reduceEqDiff, Nat.reduceLT, Nat.reduceLeDiff, Nat.reduceAdd, reduceCtorEq, Nat.reduceMul, f2, k2, f3, k3, f7, f8, hk, hgy, encBd, hkne]
            all_goals refine ⟨f4, k4, f6, false, rfl, (fun h => by cases h), fun h => ⟨y, hy, ?_⟩⟩
            rw [List.drop_of_length_le (by omega), hdy, mrg, mrg]
        · have hi : i < a.length := by omega
          have hkne : ((k : Int) == b.length) = true := by simp; omega
          obtain ⟨x, hx, hgx⟩ := get_bd hi
          have hdx : a.drop i = x :: a.drop (i + 1) := by rw [List.drop_eq_getElem_cons hi, (List.getElem?_eq_some_iff.1 hx).2]
          all_goals refine AW.draw (T := { sd := fun d => d == 2 || d == 3 }) (fun _ _ h => by cases h) mixedO [(0, 0), (1, 0), (2, 1), (3, 0), (4, 0), (5, 0), (6, 0), (7, 0), (8, 1), (9, 0), (10, 0), (11, 0), (12, 0), (14, 0), (18, 0), (20, 0), (13, 1), (15, 0), (16, 0), (17, 1), (19, 1), (21, 0), (22, 0), (23, 1), (24, 0), (25, 0), (26, 0)] rfl (by kernel_rfl) (by kernel_rfl) ?_
          all_goals iterate 2 (refine D.g rfl trivial rfl rfl fun K' k' => ?_; simp only [zz, reduceIte, Nat.reduceEqDiff, Nat.reduceLT, Nat.reduceLeDiff, Nat.reduceAdd, reduceCtorEq, Nat.reduceMul, of24_0, f2, k2, f3, k3, f7, f8, hkne]; refine k' _ _ ?_; clear k' K')
          all_goals (refine D.g rfl rfl rfl rfl fun K' k' => ?_; simp only [zz, reduceIte, Nat.reduceEqDiff, Nat.reduceLT, Nat.reduceLeDiff, Nat.reduceAdd, reduceCtorEq, Nat.reduceMul, ok22, sz22, ag22, f2, k2, f3, k3, f7, f8, hkne]; refine k' _ _ ?_; clear k' K')
          all_goals (refine D.g rfl trivial rfl rfl fun K' k' => ?_; simp only [zz, reduceIte, Nat.reduceEqDiff, Nat.reduceLT, Nat.reduceLeDiff, Nat.reduceAdd, reduceCtorEq, Nat.reduceMul, sl22, el22, ok42, sz42, ag42, f2, k2, f3, k3, f7, f8, hkne]; refine k' _ _ ?_; clear k' K')
          all_goals (refine D.g rfl trivial rfl rfl fun K' k' => ?_; simp only [zz, reduceIte, Nat.reduceEqDiff, Nat.reduceLT, Nat.reduceLeDiff, Nat.reduceAdd, reduceCtorEq, Nat.reduceMul, f2, k2, f3, k3, f7, f8, hkne]; refine S.bool fun b a35 => ?_; cases b <;> (try (exfalso; first | exact Bool.noConfusion a35 | (have h := of_decide_eq_true a35; omega) | (have h := of_decide_eq_false a35; omega))) <;> (refine k' _ _ ?_; clear k' K'))
          all_goals (refine D.g rfl trivial rfl rfl fun K' k' => ?_; simp only [zz, reduceIte, Nat.reduceEqDiff, Nat.reduceAdd, f2, k2, f3, k3, f7, f8, hkne]; refine k' _ _ ?_; clear k' K')
          all_goals iterate 2 (first | (refine D.y rfl trivial rfl rfl rfl rfl fun K' k' => ?_; simp only [zz, reduceIte, Nat.reduceEqDiff, Nat.reduceLT, Nat.reduceLeDiff, Nat.reduceAdd, reduceCtorEq, Nat.reduceMul, of24_0, f2, k2, f3, k3, f7, f8, hkne]; refine k' _ _ ?_; clear k' K') | ((first | refine D.x rfl (fun h => by cases h) rfl rfl rfl rfl fun K' k' => ?_ | refine D.u rfl (fun h => by cases h) rfl rfl rfl rfl fun K' k' => ?_); simp only [ze, reduceIte, Nat.reduceEqDiff]; refine k' _ _ ?_; clear k' K'))
          all_goals (first | (refine D.y rfl rfl rfl rfl rfl rfl fun K' k' => ?_; simp only [zz, reduceIte, Nat.reduceEqDiff, Nat.reduceLT, Nat.reduceLeDiff, Nat.reduceAdd, reduceCtorEq, Nat.reduceMul, ok22, sz22, ag22, f2, k2, f3, k3, f7, f8, hkne]; refine k' _ _ ?_; clear k' K') | ((first | refine D.x rfl (fun _ => rfl) rfl rfl rfl rfl fun K' k' => ?_ | refine D.u rfl (fun _ => rfl) rfl rfl rfl rfl fun K' k' => ?_); simp only [ze, reduceIte, Nat.reduceEqDiff]; refine k' _ _ ?_; clear k' K'))
          all_goals (first | (refine D.y rfl trivial rfl rfl rfl rfl fun K' k' => ?_; simp only [zz, reduceIte, Nat.reduceEqDiff, Nat.reduceLT, Nat.reduceLeDiff, Nat.reduceAdd, reduceCtorEq, Nat.reduceMul, sl22, el22, ok42, sz42, ag42, f2, k2, f3, k3, f7, f8, hkne]; refine k' _ _ ?_; clear k' K') | ((first | refine D.x rfl (fun h => by cases h) rfl rfl rfl rfl fun K' k' => ?_ | refine D.u rfl (fun h => by cases h) rfl rfl rfl rfl fun K' k' => ?_); simp only [ze, reduceIte, Nat.reduceEqDiff]; refine k' _ _ ?_; clear k' K'))
          all_goals first | (refine D.y rfl trivial rfl rfl rfl rfl fun K' k' => ?_; simp only [zz, reduceIte, Nat.reduceEqDiff, Nat.reduceLT, Nat.reduceLeDiff, Nat.reduceAdd, reduceCtorEq, Nat.reduceMul, f2, k2, f3, k3, f7, f8, hkne]; refine S.bool fun b a41 => ?_; cases b <;> (try (exfalso; first | exact Bool.noConfusion a41 | (have h := of_decide_eq_true a41; omega) | (have h := of_decide_eq_false a41; omega))) <;> (refine k' _ _ ?_; clear k' K')) | ((first | refine D.x rfl (fun h => by cases h) rfl rfl rfl rfl fun K' k' => ?_ | refine D.u rfl (fun h => by cases h) rfl rfl rfl rfl fun K' k' => ?_); simp only [ze, reduceIte, Nat.reduceEqDiff]; (refine k' _ _ ?_; clear k' K'))
          all_goals iterate 5 (first | (refine D.y rfl trivial rfl rfl rfl rfl fun K' k' => ?_; simp only [zz, reduceIte, Nat.reduceEqDiff, Nat.reduceLT, Nat.reduceLeDiff, Nat.reduceAdd, reduceCtorEq, Nat.reduceMul, of24_0, f2, k2, f3, k3, f7, f8, hkne]; refine k' _ _ ?_; clear k' K') | ((first | refine D.x rfl (fun h => by cases h) rfl rfl rfl rfl fun K' k' => ?_ | refine D.u rfl (fun h => by cases h) rfl rfl rfl rfl fun K' k' => ?_); simp only [ze, reduceIte, Nat.reduceEqDiff]; refine k' _ _ ?_; clear k' K'))
          all_goals (first | (refine D.y rfl rfl rfl rfl rfl rfl fun K' k' => ?_; simp only [zz, reduceIte, Nat.reduceEqDiff, Nat.reduceLT, Nat.reduceLeDiff, Nat.reduceAdd, reduceCtorEq, Nat.reduceMul, ok22, sz22, ag22, f2, k2, f3, k3, f7, f8, hkne]; refine k' _ _ ?_; clear k' K') | ((first | refine D.x rfl (fun _ => rfl) rfl rfl rfl rfl fun K' k' => ?_ | refine D.u rfl (fun _ => rfl) rfl rfl rfl rfl fun K' k' => ?_); simp only [ze, reduceIte, Nat.reduceEqDiff]; refine k' _ _ ?_; clear k' K'))
          all_goals iterate 2 (first | (refine D.y rfl trivial rfl rfl rfl rfl fun K' k' => ?_; simp only [zz, reduceIte, Nat.reduceEqDiff, Nat.reduceLT, Nat.reduceLeDiff, Nat.reduceAdd, reduceCtorEq, Nat.reduceMul, sl22, el22, ok42, sz42, ag42, of42_0, f2, k2, f3, k3, f7, f8, hkne]; refine k' _ _ ?_; clear k' K') | ((first | refine D.x rfl (fun h => by cases h) rfl rfl rfl rfl fun K' k' => ?_ | refine D.u rfl (fun h => by cases h) rfl rfl rfl rfl fun K' k' => ?_); simp only [ze, reduceIte, Nat.reduceEqDiff]; refine k' _ _ ?_; clear k' K'))
          all_goals iterate 2 (first | (refine D.y rfl rfl rfl rfl rfl rfl fun K' k' => ?_; simp only [zz, reduceIte, Nat.reduceEqDiff, Nat.reduceLT, Nat.reduceLeDiff, Nat.reduceAdd, reduceCtorEq, Nat.reduceMul, ok9, sz9, ag9, ok22, sz22, ag22, f2, k2, f3, k3, f7, f8, hkne]; refine k' _ _ ?_; clear k' K') | ((first | refine D.x rfl (fun _ => rfl) rfl rfl rfl rfl fun K' k' => ?_ | refine D.u rfl (fun _ => rfl) rfl rfl rfl rfl fun K' k' => ?_); simp only [ze, reduceIte, Nat.reduceEqDiff]; refine k' _ _ ?_; clear k' K'))
          all_goals iterate 2 (first | (refine D.y rfl trivial rfl rfl rfl rfl fun K' k' => ?_; simp only [zz, reduceIte, Nat.reduceEqDiff, Nat.reduceLT, Nat.reduceLeDiff, Nat.reduceAdd, reduceCtorEq, Nat.reduceMul, sl22, el22, ok42, sz42, ag42, of42_0, f2, k2, f3, k3, f7, f8, hkne]; refine k' _ _ ?_; clear k' K') | ((first | refine D.x rfl (fun h => by cases h) rfl rfl rfl rfl fun K' k' => ?_ | refine D.u rfl (fun h => by cases h) rfl rfl rfl rfl fun K' k' => ?_); simp only [ze, reduceIte, Nat.reduceEqDiff]; refine k' _ _ ?_; clear k' K'))
          all_goals (first | (refine D.y rfl rfl rfl rfl rfl rfl fun K' k' => ?_; simp only [zz, reduceIte, Nat.reduceEqDiff, Nat.reduceLT, Nat.reduceLeDiff, Nat.reduceAdd, reduceCtorEq, Nat.reduceMul, ok9, sz9, ag9, f2, k2, f3, k3, f7, f8, hkne]; refine k' _ _ ?_; clear k' K') | ((first | refine D.x rfl (fun _ => rfl) rfl rfl rfl rfl fun K' k' => ?_ | refine D.u rfl (fun _ => rfl) rfl rfl rfl rfl fun K' k' => ?_); simp only [ze, reduceIte, Nat.reduceEqDiff]; refine k' _ _ ?_; clear k' K'))
          all_goals iterate 2 (first | (refine D.y rfl trivial rfl rfl rfl rfl fun K' k' => ?_; simp only [zz, reduceIte, Nat.reduceEqDiff, Nat.reduceAdd, f2, k2, f3, k3, f7, f8, hkne]; refine k' _ _ ?_; clear k' K') | ((first | refine D.x rfl (fun h => by cases h) rfl rfl rfl rfl fun K' k' => ?_ | refine D.u rfl (fun h => by cases h) rfl rfl rfl rfl fun K' k' => ?_); simp only [ze, reduceIte, Nat.reduceEqDiff]; refine k' _ _ ?_; clear k' K'))
          all_goals (refine D.g rfl trivial rfl rfl fun K' k' => ?_; simp only [zz, reduceIte, Nat.reduceEqDiff, Nat.reduceAdd, f2, k2, f3, k3, f7, f8, hkne]; refine k' _ _ ?_; clear k' K')
          all_goals refine D.nil ?_
          all_goals simp only [ze, reduceIte, Nat.reduceEqDiff, Nat.reduceLT, Nat.reduceLeDiff, Nat.reduceAdd, reduceCtorEq, Nat.reduceMul, f2, k2, f3, k3, f7, f8, hkne]
          all_goals refine ⟨f4, k4, f6, true, rfl, fun h => ⟨x, hx, ?_⟩, (fun h => by cases h)⟩
          rw [hdx, List.drop_of_length_le (show b.length ≤ k by omega), mrg_nil, mrg_nil]
      rintro s2 σ2 ⟨rfl, g2, j2, g3, j3, g4, j4, g6, g7, g8, q, g57, hqt, hqf⟩
      refine AW.cond (b := q) g57 (fun hd => ?_) (fun hd => ?_)
      · obtain ⟨x, hx, hmx⟩ := hqt hd
        have hi : i < a.length := (List.getElem?_eq_some_iff.1 hx).1
        have hgx : (a.map encBd).getD i [] = encBd x := by rw [getD_map hi, (List.getElem?_eq_some_iff.1 hx).2]
        have hw : IntKind.i64.wrap ((i : Int) + 1) = ((i + 1 : Nat) : Int) := by rw [wrap_small _ (by omega) (by omega)]; rfl
        rw [hmx] at hp
        rcases hown with ⟨rfl, e6, rfl⟩ | ⟨g, e6, rfl⟩
        · rw [e6] at g6
          refine AW.seq_k fun K7 h7 => ?_
          all_goals refine AW.reg0 ?_
          all_goals iterate 6 (refine S.g rfl rfl fun K' k' => ?_; simp only [zz, reduceIte, Nat.reduceEqDiff, Nat.reduceLT, Nat.reduceLeDiff, Nat.reduceAdd, reduceCtorEq, Nat.reduceMul, of24_0, ok22, sz22, ag22, sl22, el22, ok42, sz42, ag42, g2, j2, g6, g7, hi, hgx, encBd]; refine k' _ _ ?_; clear k' K')
          all_goals (refine S.g rfl rfl fun K' k' => ?_; simp only [zb, reduceIte, Nat.reduceEqDiff, Nat.reduceLT, Nat.reduceLeDiff, Nat.reduceAdd, reduceCtorEq, Nat.reduceMul, sl22, el22, ok42, sz42, ag42, zt42, by42, g2, j2, g6, g7, hi, hgx, encBd]; refine k' _ _ ?_; clear k' K')
          all_goals (refine S.g rfl rfl fun K' k' => ?_; simp only [zz, reduceIte, Nat.reduceEqDiff, Nat.reduceLT, Nat.reduceLeDiff, Nat.reduceAdd, reduceCtorEq, Nat.reduceMul, sl22, el22, ok42, sz42, ag42, zt42, by42, g2, j2, g6, g7, hi, hgx, encBd]; refine ⟨len_bd [x], by unfold maxLen; omega, by unfold reach; omega, fun k2 hk2 => ?_⟩ <;> (refine k' _ _ ?_; clear k' K'))
          all_goals (refine S.g rfl rfl fun K' k' => ?_; simp only [zz, reduceIte, Nat.reduceEqDiff, Nat.reduceAdd, g2, j2, g6, g7, hi, hgx, encBd]; refine k' _ _ ?_; clear k' K')
          all_goals refine S.nil ?_
          all_goals simp only [ze, reduceIte, Nat.reduceEqDiff, Nat.reduceLT, Nat.reduceLeDiff, Nat.reduceAdd, reduceCtorEq, Nat.reduceMul, g2, j2, g6, g7, hi, hgx, encBd]
          all_goals first | refine h7 _ _ ?_ | refine h6 _ _ ?_ | refine h5 _ _ ?_ | refine h4 _ _ ?_ | refine h3 _ _ ?_ | refine h2 _ _ ?_ | refine h1 _ _ ?_
          all_goals refine AW.reg0 ?_
          all_goals iterate 3 (refine S.g rfl rfl fun K' k' => ?_; simp only [zz, reduceIte, Nat.reduceEqDiff, Nat.reduceAdd, g7, hw]; refine k' _ _ ?_; clear k' K')
          all_goals refine S.nil ?_
          all_goals simp only [ze, reduceIte, Nat.reduceEqDiff, Nat.reduceLT, Nat.reduceLeDiff, Nat.reduceAdd, reduceCtorEq, Nat.reduceMul, g7, hw]
          exact ⟨m - 1, by omega, i + 1, k, [x], by omega, by omega, by omega, by simp at hol ⊢; omega, g2, j2, g3, j3, g4, j4, rfl, g8, .inr ⟨k2, rfl, rfl⟩, hp⟩
        · rw [e6] at g6
          refine AW.seq_k fun K8 h8 => ?_
          all_goals refine AW.reg0 ?_
          all_goals iterate 6 (refine S.g rfl rfl fun K' k' => ?_; simp only [zz, reduceIte, Nat.reduceEqDiff, Nat.reduceLT, Nat.reduceLeDiff, Nat.reduceAdd, reduceCtorEq, Nat.reduceMul, of24_0, ok22, sz22, ag22, sl22, el22, ok42, sz42, ag42, g2, j2, g6, g7, hi, hgx, encBd, hpB, hol]; refine k' _ _ ?_; clear k' K')
          all_goals (refine S.g rfl rfl fun K' k' => ?_; simp only [zb, reduceIte, Nat.reduceEqDiff, Nat.reduceLT, Nat.reduceLeDiff, Nat.reduceAdd, reduceCtorEq, Nat.reduceMul, sl22, el22, ok42, sz42, ag42, zt42, by42, g2, j2, g6, g7, hi, hgx, encBd, hpB, hol]; refine k' _ _ ?_; clear k' K')
          all_goals (refine S.g rfl rfl fun K' k' => ?_; simp only [zz, reduceIte, Nat.reduceEqDiff, Nat.reduceLT, Nat.reduceLeDiff, Nat.reduceAdd, reduceCtorEq, Nat.reduceMul, sl22, el22, ok42, sz42, ag42, zt42, by42, g2, j2, g6, g7, hi, hgx, encBd, hpB, hol]; refine ⟨len_bd [x], by unfold maxLen; omega, by unfold reach; omega, fun k2 hk2 => ?_⟩ <;> (refine k' _ _ ?_; clear k' K'))
          all_goals (refine S.g rfl rfl fun K' k' => ?_; simp only [zz, reduceIte, Nat.reduceEqDiff, Nat.reduceAdd, g2, j2, g6, g7, hi, hgx, encBd, hpB, hol]; refine k' _ _ ?_; clear k' K')
          all_goals refine S.nil ?_
          all_goals simp only [ze, reduceIte, Nat.reduceEqDiff, Nat.reduceLT, Nat.reduceLeDiff, Nat.reduceAdd, reduceCtorEq, Nat.reduceMul, g2, j2, g6, g7, hi, hgx, encBd, hpB, hol]
          all_goals first | refine h8 _ _ ?_ | refine h7 _ _ ?_ | refine h6 _ _ ?_ | refine h5 _ _ ?_ | refine h4 _ _ ?_ | refine h3 _ _ ?_ | refine h2 _ _ ?_ | refine h1 _ _ ?_
          all_goals refine AW.reg0 ?_
          all_goals iterate 3 (refine S.g rfl rfl fun K' k' => ?_; simp only [zz, reduceIte, Nat.reduceEqDiff, Nat.reduceAdd, g7, hw]; refine k' _ _ ?_; clear k' K')
          all_goals refine S.nil ?_
          all_goals simp only [ze, reduceIte, Nat.reduceEqDiff, Nat.reduceLT, Nat.reduceLeDiff, Nat.reduceAdd, reduceCtorEq, Nat.reduceMul, g7, hw]
          refine ⟨m - 1, by omega, i + 1, k, out ++ [x], by omega, by omega, by omega, by simp [hol]; omega, g2, j2, g3, j3, g4, j4, rfl, g8, .inr ⟨k2, rfl, ?_⟩, by rw [hp]; simp⟩
          simp [hpB, encBd]
      · obtain ⟨y, hy, hmx⟩ := hqf hd
        have hi : k < b.length := (List.getElem?_eq_some_iff.1 hy).1
        have hgx : (b.map encBd).getD k [] = encBd y := by rw [getD_map hi, (List.getElem?_eq_some_iff.1 hy).2]
        have hw : IntKind.i64.wrap ((k : Int) + 1) = ((k + 1 : Nat) : Int) := by rw [wrap_small _ (by omega) (by omega)]; rfl
        rw [hmx] at hp
        rcases hown with ⟨rfl, e6, rfl⟩ | ⟨g, e6, rfl⟩
        · rw [e6] at g6
          refine AW.seq_k fun K9 h9 => ?_
          all_goals refine AW.reg0 ?_
          all_goals iterate 6 (refine S.g rfl rfl fun K' k' => ?_; simp only [zz, reduceIte, Nat.reduceEqDiff, Nat.reduceLT, Nat.reduceLeDiff, Nat.reduceAdd, reduceCtorEq, Nat.reduceMul, of24_0, ok22, sz22, ag22, sl22, el22, ok42, sz42, ag42, g3, j3, g6, g8, hi, hgx, encBd]; refine k' _ _ ?_; clear k' K')
          all_goals (refine S.g rfl rfl fun K' k' => ?_; simp only [zb, reduceIte, Nat.reduceEqDiff, Nat.reduceLT, Nat.reduceLeDiff, Nat.reduceAdd, reduceCtorEq, Nat.reduceMul, sl22, el22, ok42, sz42, ag42, zt42, by42, g3, j3, g6, g8, hi, hgx, encBd]; refine k' _ _ ?_; clear k' K')
          all_goals (refine S.g rfl rfl fun K' k' => ?_; simp only [zz, reduceIte, Nat.reduceEqDiff, Nat.reduceLT, Nat.reduceLeDiff, Nat.reduceAdd, reduceCtorEq, Nat.reduceMul, sl22, el22, ok42, sz42, ag42, zt42, by42, g3, j3, g6, g8, hi, hgx, encBd]; refine ⟨len_bd [y], by unfold maxLen; omega, by unfold reach; omega, fun k2 hk2 => ?_⟩ <;> (refine k' _ _ ?_; clear k' K'))
          all_goals (refine S.g rfl rfl fun K' k' => ?_; simp only [zz, reduceIte, Nat.reduceEqDiff, Nat.reduceAdd, g3, j3, g6, g8, hi, hgx, encBd]; refine k' _ _ ?_; clear k' K')
          all_goals refine S.nil ?_
          all_goals simp only [ze, reduceIte, Nat.reduceEqDiff, Nat.reduceLT, Nat.reduceLeDiff, Nat.reduceAdd, reduceCtorEq, Nat.reduceMul, g3, j3, g6, g8, hi, hgx, encBd]
          all_goals first | refine h9 _ _ ?_ | refine h8 _ _ ?_ | refine h7 _ _ ?_ | refine h6 _ _ ?_ | refine h5 _ _ ?_ | refine h4 _ _ ?_ | refine h3 _ _ ?_ | refine h2 _ _ ?_ | refine h1 _ _ ?_
          all_goals refine AW.reg0 ?_
          all_goals iterate 3 (refine S.g rfl rfl fun K' k' => ?_; simp only [zz, reduceIte, Nat.reduceEqDiff, Nat.reduceAdd, g8, hw]; refine k' _ _ ?_; clear k' K')
          all_goals refine S.nil ?_
          all_goals simp only [ze, reduceIte, Nat.reduceEqDiff, Nat.reduceLT, Nat.reduceLeDiff, Nat.reduceAdd, reduceCtorEq, Nat.reduceMul, g8, hw]
          exact ⟨m - 1, by omega, i, k + 1, [y], by omega, by omega, by omega, by simp at hol ⊢; omega, g2, j2, g3, j3, g4, j4, g7, rfl, .inr ⟨k2, rfl, rfl⟩, hp⟩
        · rw [e6] at g6
          refine AW.seq_k fun K10 h10 => ?_
          all_goals refine AW.reg0 ?_
          all_goals iterate 6 (refine S.g rfl rfl fun K' k' => ?_; simp only [zz, reduceIte, Nat.reduceEqDiff, Nat.reduceLT, Nat.reduceLeDiff, Nat.reduceAdd, reduceCtorEq, Nat.reduceMul, of24_0, ok22, sz22, ag22, sl22, el22, ok42, sz42, ag42, g3, j3, g6, g8, hi, hgx, encBd, hpB, hol]; refine k' _ _ ?_; clear k' K')
          all_goals (refine S.g rfl rfl fun K' k' => ?_; simp only [zb, reduceIte, Nat.reduceEqDiff, Nat.reduceLT, Nat.reduceLeDiff, Nat.reduceAdd, reduceCtorEq, Nat.reduceMul, sl22, el22, ok42, sz42, ag42, zt42, by42, g3, j3, g6, g8, hi, hgx, encBd, hpB, hol]; refine k' _ _ ?_; clear k' K')
          all_goals (refine S.g rfl rfl fun K' k' => ?_; simp only [zz, reduceIte, Nat.reduceEqDiff, Nat.reduceLT, Nat.reduceLeDiff, Nat.reduceAdd, reduceCtorEq, Nat.reduceMul, sl22, el22, ok42, sz42, ag42, zt42, by42, g3, j3, g6, g8, hi, hgx, encBd, hpB, hol]; refine ⟨len_bd [y], by unfold maxLen; omega, by unfold reach; omega, fun k2 hk2 => ?_⟩ <;> (refine k' _ _ ?_; clear k' K'))
          all_goals (refine S.g rfl rfl fun K' k' => ?_; simp only [zz, reduceIte, Nat.reduceEqDiff, Nat.reduceAdd, g3, j3, g6, g8, hi, hgx, encBd, hpB, hol]; refine k' _ _ ?_; clear k' K')
          all_goals refine S.nil ?_
          all_goals simp only [ze, reduceIte, Nat.reduceEqDiff, Nat.reduceLT, Nat.reduceLeDiff, Nat.reduceAdd, reduceCtorEq, Nat.reduceMul, g3, j3, g6, g8, hi, hgx, encBd, hpB, hol]
          all_goals first | refine h10 _ _ ?_ | refine h9 _ _ ?_ | refine h8 _ _ ?_ | refine h7 _ _ ?_ | refine h6 _ _ ?_ | refine h5 _ _ ?_ | refine h4 _ _ ?_ | refine h3 _ _ ?_ | refine h2 _ _ ?_ | refine h1 _ _ ?_
          all_goals refine AW.reg0 ?_
          all_goals iterate 3 (refine S.g rfl rfl fun K' k' => ?_; simp only [zz, reduceIte, Nat.reduceEqDiff, Nat.reduceAdd, g8, hw]; refine k' _ _ ?_; clear k' K')
          all_goals refine S.nil ?_
          all_goals simp only [ze, reduceIte, Nat.reduceEqDiff, Nat.reduceLT, Nat.reduceLeDiff, Nat.reduceAdd, reduceCtorEq, Nat.reduceMul, g8, hw]
          refine ⟨m - 1, by omega, i, k + 1, out ++ [y], by omega, by omega, by omega, by simp [hol]; omega, g2, j2, g3, j3, g4, j4, g7, rfl, .inr ⟨k2, rfl, ?_⟩, by rw [hp]; simp⟩
          simp [hpB, encBd]
    · have hc := of_decide_eq_false hc
      refine AW.exit ?_
      all_goals simp only [zs, reduceIte, Nat.reduceEqDiff, Nat.reduceLT, Nat.reduceLeDiff, Nat.reduceAdd, reduceCtorEq, Nat.reduceMul]
      refine ⟨f4, k4, ?_⟩
      rw [hp, List.drop_of_length_le (by omega), List.drop_of_length_le (by omega)]
      simp only [mrg, List.append_nil, own, f6]
      exact hown
  clear e2 l2 e3 l3 e4 l4
  rintro s0 σ0 ⟨e4, l4, hown⟩
  have hml := mrg_len a b
  have hmm := mrg_mem a b
  have hpo : okP (mrg a b) := fun x hx => by
    rcases List.mem_append.1 (hmm x hx) with h | h
    · exact ha x h
    · exact hb x h
  have hcl : ∀ x ∈ mrg a b, x.ev.attrs.length * 48 ≤ 140737488355328 := fun x hx => hat x (hmm x hx)
  have hlen : (mrg a b).length * 80 ≤ 140737488355328 := by omega
  rw [rmergeV, mergeV, if_neg hx]
  generalize mrg a b = p at hown hpo hcl hlen ⊢
  refine AW.seq_j (fun s σ => σ = Hp.empty ∧ s.t 4 = .lp 4 0 ∧ s.l 4 = some [.c (.slice none 0 0)] ∧ s.t 9 = .lp 9 0 ∧ s.l 9 = some [.sl (p.map encBd)]) ?_ ?_
  · rcases hown with ⟨rfl, e6, rfl⟩ | ⟨g, e6, rfl⟩
    · skip
      all_goals refine AW.reg0 ?_
      all_goals (refine S.g rfl rfl fun K' k' => ?_; simp only [zz, reduceIte, Nat.reduceEqDiff, Nat.reduceAdd, e6, e4, l4]; refine k' _ _ ?_; clear k' K')
      all_goals (refine S.g rfl rfl fun K' k' => ?_; simp only [zz, reduceIte, Nat.reduceEqDiff, Nat.reduceLT, Nat.reduceLeDiff, Nat.reduceAdd, reduceCtorEq, Nat.reduceMul, zt24, pl24, e6, e4, l4]; refine k' _ _ ?_; clear k' K')
      all_goals (refine S.g rfl rfl fun K' k' => ?_; simp only [zz, reduceIte, Nat.reduceEqDiff, Nat.reduceLT, Nat.reduceLeDiff, Nat.reduceAdd, reduceCtorEq, Nat.reduceMul, e6, e4, l4]; refine PCalls.eqto (rclone_part _ hcl hlen) ?_ <;> (refine k' _ _ ?_; clear k' K'))
      all_goals iterate 2 (refine S.g rfl rfl fun K' k' => ?_; simp only [zz, reduceIte, Nat.reduceEqDiff, Nat.reduceLT, Nat.reduceLeDiff, Nat.reduceAdd, reduceCtorEq, Nat.reduceMul, zt24, ok24, sz24, ag24, e6, e4, l4]; refine k' _ _ ?_; clear k' K')
      all_goals refine S.nil ?_
      all_goals simp only [ze, reduceIte, Nat.reduceEqDiff, Nat.reduceLT, Nat.reduceLeDiff, Nat.reduceAdd, reduceCtorEq, Nat.reduceMul, e6, e4, l4]
      rfl
    · refine AW.freeze (k := g) (T := (42, 6)) (es := p.map encBd) (by simp [hpB]) ?_
      have hem : (hpB g p).setGr g none = Hp.empty := by simp [hpB]
      rw [hem]
      all_goals refine AW.reg0 ?_
      all_goals (refine S.g rfl rfl fun K' k' => ?_; simp only [zz, reduceIte, Nat.reduceEqDiff, Nat.reduceAdd, e6, St.fz_t, St.fz_l, fzV, fz1, Option.map_some]; refine k' _ _ ?_; clear k' K')
      all_goals (refine S.g rfl rfl fun K' k' => ?_; simp only [zz, reduceIte, Nat.reduceEqDiff, Nat.reduceLT, Nat.reduceLeDiff, Nat.reduceAdd, reduceCtorEq, Nat.reduceMul, zt24, pl24, e6, St.fz_t, St.fz_l, fzV, fz1, Option.map_some]; refine k' _ _ ?_; clear k' K')
      all_goals (refine S.g rfl rfl fun K' k' => ?_; simp only [zz, reduceIte, Nat.reduceEqDiff, Nat.reduceLT, Nat.reduceLeDiff, Nat.reduceAdd, reduceCtorEq, Nat.reduceMul, e6, St.fz_t, St.fz_l, fzV, fz1, Option.map_some]; refine PCalls.eqto (rclone_part _ hcl hlen) ?_ <;> (refine k' _ _ ?_; clear k' K'))
      all_goals iterate 2 (refine S.g rfl rfl fun K' k' => ?_; simp only [zz, reduceIte, Nat.reduceEqDiff, Nat.reduceLT, Nat.reduceLeDiff, Nat.reduceAdd, reduceCtorEq, Nat.reduceMul, zt24, ok24, sz24, ag24, e6, St.fz_t, St.fz_l, fzV, fz1, Option.map_some]; refine k' _ _ ?_; clear k' K')
      all_goals refine S.nil ?_
      all_goals simp only [ze, reduceIte, Nat.reduceEqDiff, Nat.reduceLT, Nat.reduceLeDiff, Nat.reduceAdd, reduceCtorEq, Nat.reduceMul, e6, St.fz_t, St.fz_l, fzV, fz1, Option.map_some]
      simp [e4, l4, fzV, fz1, kill]
  clear e4 l4 hown hml hmm hat
  rintro s σ ⟨rfl, e4, l4, e9, l9⟩
  refine AW.seq_k fun K11 h11 => ?_
  refine AW.seq_k fun K12 h12 => ?_
  all_goals refine AW.reg0 ?_
  all_goals (refine S.g rfl rfl fun K' k' => ?_; simp only [zz, reduceIte, Nat.reduceEqDiff, Nat.reduceLT, Nat.reduceLeDiff, Nat.reduceAdd, reduceCtorEq, Nat.reduceMul, ok24, sz24, ag24, e9, l9]; refine k' _ _ ?_; clear k' K')
  all_goals (refine S.g rfl rfl fun K' k' => ?_; simp only [zz, reduceIte, Nat.reduceEqDiff, Nat.reduceLT, Nat.reduceLeDiff, Nat.reduceAdd, reduceCtorEq, Nat.reduceMul, e9, l9]; refine PCalls.eqto (rcheck_part _ (by assumption)) ?_ <;> (refine k' _ _ ?_; clear k' K'))
  all_goals (refine S.g rfl rfl fun K' k' => ?_; simp only [zz, reduceIte, Nat.reduceEqDiff, Nat.reduceAdd, e9, l9]; refine k' _ _ ?_; clear k' K')
  all_goals refine S.nil ?_
  all_goals simp only [ze, reduceIte, Nat.reduceEqDiff, Nat.reduceLT, Nat.reduceLeDiff, Nat.reduceAdd, reduceCtorEq, Nat.reduceMul, e9, l9]
  all_goals first | refine h12 _ _ ?_ | refine h11 _ _ ?_ | refine h10 _ _ ?_ | refine h9 _ _ ?_ | refine h8 _ _ ?_ | refine h7 _ _ ?_ | refine h6 _ _ ?_ | refine h5 _ _ ?_ | refine h4 _ _ ?_ | refine h3 _ _ ?_ | refine h2 _ _ ?_ | refine h1 _ _ ?_
  refine AW.cond (b := partErr p != 0) (by simp [ev]) (fun hc => ?_) (fun hc => ?_)
  · have hc : partErr p ≠ 0 := by simpa using hc
    refine AW.seq_k fun K13 h13 => ?_
    all_goals refine AW.reg0 ?_
    all_goals (refine S.g rfl rfl fun K' k' => ?_; simp only [zz, reduceIte, Nat.reduceEqDiff, Nat.reduceLT, Nat.reduceLeDiff, Nat.reduceAdd, reduceCtorEq, Nat.reduceMul, zt24, pl24, e4, l4]; refine k' _ _ ?_; clear k' K')
    all_goals iterate 2 (refine S.g rfl rfl fun K' k' => ?_; simp only [zz, reduceIte, Nat.reduceEqDiff, Nat.reduceLT, Nat.reduceLeDiff, Nat.reduceAdd, reduceCtorEq, Nat.reduceMul, ok24, sz24, ag24, e4, l4]; refine k' _ _ ?_; clear k' K')
    all_goals refine S.nil ?_
    all_goals simp only [ze, reduceIte, Nat.reduceEqDiff, Nat.reduceLT, Nat.reduceLeDiff, Nat.reduceAdd, reduceCtorEq, Nat.reduceMul, e4, l4]
    all_goals first | refine h13 _ _ ?_ | refine h12 _ _ ?_ | refine h11 _ _ ?_ | refine h10 _ _ ?_ | refine h9 _ _ ?_ | refine h8 _ _ ?_ | refine h7 _ _ ?_ | refine h6 _ _ ?_ | refine h5 _ _ ?_ | refine h4 _ _ ?_ | refine h3 _ _ ?_ | refine h2 _ _ ?_ | refine h1 _ _ ?_
    refine AW.ret ?_
    all_goals simp only [zs, reduceIte, Nat.reduceEqDiff, Nat.reduceLT, Nat.reduceLeDiff, Nat.reduceAdd, reduceCtorEq, Nat.reduceMul, qLoad, ok24, sz24, ag24, cut, List.drop_zero, List.take_succ_cons, List.take_zero, List.map, e4]
    rw [if_pos hc]; rfl
  · have hc : partErr p = 0 := by simpa using hc
    refine AW.skip ?_
    all_goals simp only [zs, reduceIte, Nat.reduceEqDiff, Nat.reduceLT, Nat.reduceLeDiff, Nat.reduceAdd, reduceCtorEq, Nat.reduceMul]
    all_goals first | refine h13 _ _ ?_ | refine h12 _ _ ?_ | refine h11 _ _ ?_ | refine h10 _ _ ?_ | refine h9 _ _ ?_ | refine h8 _ _ ?_ | refine h7 _ _ ?_ | refine h6 _ _ ?_ | refine h5 _ _ ?_ | refine h4 _ _ ?_ | refine h3 _ _ ?_ | refine h2 _ _ ?_ | refine h1 _ _ ?_
    refine AW.seq_k fun K14 h14 => ?_
    all_goals refine AW.reg0 ?_
    all_goals iterate 3 (refine S.g rfl rfl fun K' k' => ?_; simp only [zz, reduceIte, Nat.reduceEqDiff, Nat.reduceLT, Nat.reduceLeDiff, Nat.reduceAdd, reduceCtorEq, Nat.reduceMul, ok24, sz24, ag24, e9, l9, e4, l4]; refine k' _ _ ?_; clear k' K')
    all_goals refine S.nil ?_
    all_goals simp only [ze, reduceIte, Nat.reduceEqDiff, Nat.reduceLT, Nat.reduceLeDiff, Nat.reduceAdd, reduceCtorEq, Nat.reduceMul, e9, l9, e4, l4]
    all_goals first | refine h14 _ _ ?_ | refine h13 _ _ ?_ | refine h12 _ _ ?_ | refine h11 _ _ ?_ | refine h10 _ _ ?_ | refine h9 _ _ ?_ | refine h8 _ _ ?_ | refine h7 _ _ ?_ | refine h6 _ _ ?_ | refine h5 _ _ ?_ | refine h4 _ _ ?_ | refine h3 _ _ ?_ | refine h2 _ _ ?_ | refine h1 _ _ ?_
    refine AW.ret ?_
    all_goals simp only [zs, reduceIte, Nat.reduceEqDiff, Nat.reduceLT, Nat.reduceLeDiff, Nat.reduceAdd, reduceCtorEq, Nat.reduceMul, qLoad, ok24, sz24, ag24, cut, List.drop_zero, List.take_succ_cons, List.take_zero, List.map, e4]
    rw [if_neg (by rw [hc]; simp)]
end Go.Abs.M
namespace Go.Abs.M
open Go Go.Abs Go.Proofs
set_option maxRecDepth 20000
set_option linter.unusedSimpArgs false
set_option linter.unusedVariables false

theorem insort_nil : PCalls Try.prog 128 [.c (.slice none 0 0), .c (.int .i64 0), .c (.int .i64 0), .fn (.func 64) [] []] (fun v => v = .tup []) := by
  refine PCalls.intro Try.call128 Try.func128 rfl Try.ntmps128 Try.results128 (by simp) ?_
  have hw1 : IntKind.i64.wrap ((0 : Int) + 1) = 1 := by rw [wrap_small _ (by omega) (by omega)]; rfl
  refine AW.seq_k fun K1 h1 => ?_
  all_goals refine AW.reg0 ?_
  all_goals iterate 3 (refine S.g rfl rfl fun K' k' => ?_; simp only [zz, reduceIte, Nat.reduceEqDiff, Nat.reduceAdd, hw1]; refine k' _ _ ?_; clear k' K')
  all_goals refine S.nil ?_
  all_goals simp only [ze, reduceIte, Nat.reduceEqDiff, Nat.reduceLT, Nat.reduceLeDiff, Nat.reduceAdd, reduceCtorEq, Nat.reduceMul, hw1]
  all_goals first | refine h1 _ _ ?_
  refine AW.block ?_   -- 0
  refine AW.loop (fun m s σ => s.t 2 = .c (.int .i64 0) ∧ s.t 8 = .c (.int .i64 1) ∧ σ = Hp.empty) 0 ?_ ?_
  · all_goals simp only [zs, reduceIte, Nat.reduceEqDiff, Nat.reduceLT, Nat.reduceLeDiff, Nat.reduceAdd, reduceCtorEq, Nat.reduceMul]
  rintro m s σ ⟨e2, e8, rfl⟩
  refine AW.seq_k fun K2 h2 => ?_
  refine AW.seq_k fun K3 h3 => ?_
  all_goals refine AW.reg0 ?_
  all_goals iterate 3 (refine S.g rfl rfl fun K' k' => ?_; simp only [zz, reduceIte, Nat.reduceEqDiff, Nat.reduceAdd, e2, e8]; refine k' _ _ ?_; clear k' K')
  all_goals refine S.nil ?_
  all_goals simp only [ze, reduceIte, Nat.reduceEqDiff, Nat.reduceLT, Nat.reduceLeDiff, Nat.reduceAdd, reduceCtorEq, Nat.reduceMul, e2, e8]
  all_goals first | refine h3 _ _ ?_ | refine h2 _ _ ?_ | refine h1 _ _ ?_
  refine AW.cond (b := false) (by simp [ev]) (fun hc => by cases hc) (fun hc => AW.exit ?_)
  all_goals simp only [zs, reduceIte, Nat.reduceEqDiff, Nat.reduceLT, Nat.reduceLeDiff, Nat.reduceAdd, reduceCtorEq, Nat.reduceMul]
  rfl

theorem stable_nil : PCalls Try.prog 104 [.c (.slice none 0 0), .c (.int .i64 0), .fn (.func 64) [] []] (fun v => v = .tup []) := by
  refine PCalls.intro Try.call104 Try.func104 rfl Try.ntmps104 Try.results104 (by simp) ?_
  refine AW.seq_k fun K1 h1 => ?_
  all_goals refine AW.reg0 ?_
  all_goals (refine S.g rfl rfl fun K' k' => ?_; simp only [zz, reduceIte, Nat.reduceEqDiff, Nat.reduceAdd]; refine k' _ _ ?_; clear k' K')
  all_goals refine S.nil ?_
  all_goals simp only [ze, reduceIte, Nat.reduceEqDiff, Nat.reduceLT, Nat.reduceLeDiff, Nat.reduceAdd, reduceCtorEq, Nat.reduceMul]
  all_goals first | refine h1 _ _ ?_
  refine AW.seq_k fun K2 h2 => ?_
  all_goals refine AW.reg0 ?_
  all_goals iterate 3 (refine S.g rfl rfl fun K' k' => ?_; simp only [zz, reduceIte, Nat.reduceEqDiff, Nat.reduceAdd]; refine k' _ _ ?_; clear k' K')
  all_goals refine S.nil ?_
  all_goals simp only [ze, reduceIte, Nat.reduceEqDiff, Nat.reduceLT, Nat.reduceLeDiff, Nat.reduceAdd, reduceCtorEq, Nat.reduceMul]
  all_goals first | refine h2 _ _ ?_ | refine h1 _ _ ?_
  refine AW.seq_k fun K3 h3 => ?_
  refine AW.block ?_   -- 0
  refine AW.loop (fun m s σ => σ = Hp.empty ∧ s.t 0 = .c (.slice none 0 0) ∧ s.t 1 = .c (.int .i64 0) ∧ s.t 2 = .fn (.func 64) [] [] ∧ s.t 6 = .c (.int .i64 20) ∧ s.t 7 = .c (.int .i64 0) ∧ s.t 8 = .c (.int .i64 20)) 0 ?_ ?_
  · all_goals simp only [zs, reduceIte, Nat.reduceEqDiff, Nat.reduceLT, Nat.reduceLeDiff, Nat.reduceAdd, reduceCtorEq, Nat.reduceMul]
  rintro m s σ ⟨rfl, e0, e1, e2, e6, e7, e8⟩
  refine AW.seq_k fun K4 h4 => ?_
  refine AW.seq_k fun K5 h5 => ?_
  all_goals refine AW.reg0 ?_
  all_goals iterate 3 (refine S.g rfl rfl fun K' k' => ?_; simp only [zz, reduceIte, Nat.reduceEqDiff, Nat.reduceAdd, e1, e8]; refine k' _ _ ?_; clear k' K')
  all_goals refine S.nil ?_
  all_goals simp only [ze, reduceIte, Nat.reduceEqDiff, Nat.reduceLT, Nat.reduceLeDiff, Nat.reduceAdd, reduceCtorEq, Nat.reduceMul, e1, e8]
  all_goals first | refine h5 _ _ ?_ | refine h4 _ _ ?_ | refine h3 _ _ ?_ | refine h2 _ _ ?_ | refine h1 _ _ ?_
  refine AW.cond (b := false) (by simp [ev]) (fun hc => by cases hc) (fun hc => AW.exit ?_)
  all_goals simp only [zs, reduceIte, Nat.reduceEqDiff, Nat.reduceLT, Nat.reduceLeDiff, Nat.reduceAdd, reduceCtorEq, Nat.reduceMul]
  all_goals first | refine h5 _ _ ?_ | refine h4 _ _ ?_ | refine h3 _ _ ?_ | refine h2 _ _ ?_ | refine h1 _ _ ?_
  refine AW.seq_k fun K6 h6 => ?_
  all_goals refine AW.region (T := { raw := fun d => d == 128 }) (fun _ _ h => by cases h) rfl ?_
  all_goals iterate 4 (refine S.g rfl rfl fun K' k' => ?_; simp only [zz, reduceIte, Nat.reduceEqDiff, Nat.reduceAdd, e0, e1, e2, e7]; refine k' _ _ ?_; clear k' K')
  all_goals (refine S.g rfl rfl fun K' k' => ?_; simp only [zz, reduceIte, Nat.reduceEqDiff, Nat.reduceLT, Nat.reduceLeDiff, Nat.reduceAdd, reduceCtorEq, Nat.reduceMul, e0, e1, e2, e7]; refine PCalls.eqto insort_nil ?_ <;> (refine k' _ _ ?_; clear k' K'))
  all_goals refine S.nil ?_
  all_goals simp only [ze, reduceIte, Nat.reduceEqDiff, Nat.reduceLT, Nat.reduceLeDiff, Nat.reduceAdd, reduceCtorEq, Nat.reduceMul, e0, e1, e2, e7]
  all_goals first | refine h6 _ _ ?_ | refine h5 _ _ ?_ | refine h4 _ _ ?_ | refine h3 _ _ ?_ | refine h2 _ _ ?_ | refine h1 _ _ ?_
  refine AW.block ?_   -- 2
  refine AW.loop (fun m s σ => σ = Hp.empty ∧ s.t 1 = .c (.int .i64 0) ∧ s.t 6 = .c (.int .i64 20)) 0 ?_ ?_
  · all_goals simp only [zs, reduceIte, Nat.reduceEqDiff, Nat.reduceLT, Nat.reduceLeDiff, Nat.reduceAdd, reduceCtorEq, Nat.reduceMul]
    exact ⟨e1, e6⟩
  rintro m2 s2 σ2 ⟨rfl, f1, f6⟩
  refine AW.seq_k fun K7 h7 => ?_
  refine AW.seq_k fun K8 h8 => ?_
  all_goals refine AW.reg0 ?_
  all_goals iterate 3 (refine S.g rfl rfl fun K' k' => ?_; simp only [zz, reduceIte, Nat.reduceEqDiff, Nat.reduceAdd, f1, f6]; refine k' _ _ ?_; clear k' K')
  all_goals refine S.nil ?_
  all_goals simp only [ze, reduceIte, Nat.reduceEqDiff, Nat.reduceLT, Nat.reduceLeDiff, Nat.reduceAdd, reduceCtorEq, Nat.reduceMul, f1, f6]
  all_goals first | refine h8 _ _ ?_ | refine h7 _ _ ?_ | refine h6 _ _ ?_ | refine h5 _ _ ?_ | refine h4 _ _ ?_ | refine h3 _ _ ?_ | refine h2 _ _ ?_ | refine h1 _ _ ?_
  refine AW.cond (b := false) (by simp [ev]) (fun hc => by cases hc) (fun hc => AW.exit ?_)
  all_goals simp only [zs, reduceIte, Nat.reduceEqDiff, Nat.reduceLT, Nat.reduceLeDiff, Nat.reduceAdd, reduceCtorEq, Nat.reduceMul]
  rfl

theorem sort_nil : PCalls Try.prog 63 [.c (.slice none 0 0), .fn (.func 64) [] []] (fun v => v = .tup []) := by
  refine PCalls.intro Try.call63 Try.func63 rfl Try.ntmps63 Try.results63 (by simp) ?_
  refine AW.mono (Q := thenS (fun s' σ' => σ' = Hp.empty) (fun _ _ _ => False)) ?_ ?_
  · skip
    all_goals refine AW.region (T := { raw := fun d => d == 104 }) (fun _ _ h => by cases h) rfl ?_
    all_goals iterate 4 (refine S.g rfl rfl fun K' k' => ?_; simp only [zz, reduceIte, Nat.reduceEqDiff, Nat.reduceLT, Nat.reduceLeDiff, Nat.reduceAdd, reduceCtorEq, Nat.reduceMul, sl22, el22, ok42, sz42, ag42]; refine k' _ _ ?_; clear k' K')
    all_goals (refine S.g rfl rfl fun K' k' => ?_; simp only [zz, reduceIte, Nat.reduceEqDiff, Nat.reduceLT, Nat.reduceLeDiff, Nat.reduceAdd, reduceCtorEq, Nat.reduceMul]; refine PCalls.eqto stable_nil ?_ <;> (refine k' _ _ ?_; clear k' K'))
    all_goals refine S.nil ?_
    all_goals simp only [ze, reduceIte, Nat.reduceEqDiff, Nat.reduceLT, Nat.reduceLeDiff, Nat.reduceAdd, reduceCtorEq, Nat.reduceMul]
  rintro e s σ hq
  cases e with
  | normal =>
    obtain rfl : σ = Hp.empty := hq
    all_goals simp only [zs, reduceIte, Nat.reduceEqDiff, Nat.reduceLT, Nat.reduceLeDiff, Nat.reduceAdd, reduceCtorEq, Nat.reduceMul]
    rfl
  | _ => exact hq.elim

theorem merge_nil : PCalls Try.prog 11 [.agg [.sl []], .agg [.sl []]] (fun v => v = .tup [.agg [.sl []], .c (.bool true)]) := by
  have hok : okP [] := fun _ h => by cases h
  have hpe : partErr [] = 0 := rfl
  refine PCalls.intro Try.call11 Try.func11 rfl Try.ntmps11 Try.results11 (by simp) ?_
  refine AW.seq_k fun K1 h1 => ?_
  all_goals refine AW.reg0 ?_
  all_goals iterate 4 (refine S.g rfl rfl fun K' k' => ?_; simp only [zz, reduceIte, Nat.reduceEqDiff, Nat.reduceLT, Nat.reduceLeDiff, Nat.reduceAdd, reduceCtorEq, Nat.reduceMul, ok24, sz24, ag24, zt24]; refine k' _ _ ?_; clear k' K')
  all_goals refine S.nil ?_
  all_goals simp only [ze, reduceIte, Nat.reduceEqDiff, Nat.reduceLT, Nat.reduceLeDiff, Nat.reduceAdd, reduceCtorEq, Nat.reduceMul]
  all_goals first | refine h1 _ _ ?_
  refine AW.seq_k fun K2 h2 => ?_
  refine AW.seq_k fun K3 h3 => ?_
  all_goals refine AW.reg0 ?_
  all_goals (refine S.g rfl rfl fun K' k' => ?_; simp only [zz, reduceIte, Nat.reduceEqDiff, Nat.reduceLT, Nat.reduceLeDiff, Nat.reduceAdd, reduceCtorEq, Nat.reduceMul, ok24, sz24, ag24, hpe]; refine k' _ _ ?_; clear k' K')
  all_goals (refine S.g rfl rfl fun K' k' => ?_; simp only [zz, reduceIte, Nat.reduceEqDiff, Nat.reduceLT, Nat.reduceLeDiff, Nat.reduceAdd, reduceCtorEq, Nat.reduceMul, hpe]; refine PCalls.eqto (check_part [] hok) ?_ <;> (refine k' _ _ ?_; clear k' K'))
  all_goals (refine S.g rfl rfl fun K' k' => ?_; simp only [zz, reduceIte, Nat.reduceEqDiff, Nat.reduceLT, Nat.reduceLeDiff, Nat.reduceAdd, reduceCtorEq, Nat.reduceMul, hpe]; refine S.bool fun b a9 => ?_; cases b <;> (try (exfalso; first | exact Bool.noConfusion a9 | (have h := of_decide_eq_true a9; omega) | (have h := of_decide_eq_false a9; omega))) <;> (refine k' _ _ ?_; clear k' K'))
  all_goals (refine S.g rfl rfl fun K' k' => ?_; simp only [zz, reduceIte, Nat.reduceEqDiff, Nat.reduceAdd, hpe]; refine k' _ _ ?_; clear k' K')
  all_goals (first | (refine S.y rfl rfl rfl rfl fun K' k' => ?_; simp only [zz, reduceIte, Nat.reduceEqDiff, Nat.reduceLT, Nat.reduceLeDiff, Nat.reduceAdd, reduceCtorEq, Nat.reduceMul, ok24, sz24, ag24, hpe]; refine k' _ _ ?_; clear k' K') | ((first | refine S.x rfl rfl rfl rfl fun K' k' => ?_ | refine S.u rfl rfl rfl rfl fun K' k' => ?_); simp only [ze, reduceIte, Nat.reduceEqDiff]; refine k' _ _ ?_; clear k' K'))
  all_goals first | (refine S.y rfl rfl rfl rfl fun K' k' => ?_; simp only [zz, reduceIte, Nat.reduceEqDiff, Nat.reduceLT, Nat.reduceLeDiff, Nat.reduceAdd, reduceCtorEq, Nat.reduceMul, hpe]; refine PCalls.eqto (check_part [] hok) ?_ <;> (refine k' _ _ ?_; clear k' K')) | ((first | refine S.x rfl rfl rfl rfl fun K' k' => ?_ | refine S.u rfl rfl rfl rfl fun K' k' => ?_); simp only [ze, reduceIte, Nat.reduceEqDiff]; (refine k' _ _ ?_; clear k' K'))
  all_goals (first | (refine S.y rfl rfl rfl rfl fun K' k' => ?_; simp only [zz, reduceIte, Nat.reduceEqDiff, Nat.reduceAdd, hpe]; refine k' _ _ ?_; clear k' K') | ((first | refine S.x rfl rfl rfl rfl fun K' k' => ?_ | refine S.u rfl rfl rfl rfl fun K' k' => ?_); simp only [ze, reduceIte, Nat.reduceEqDiff]; refine k' _ _ ?_; clear k' K'))
  all_goals (refine S.g rfl rfl fun K' k' => ?_; simp only [zz, reduceIte, Nat.reduceEqDiff, Nat.reduceAdd, hpe]; refine k' _ _ ?_; clear k' K')
  all_goals refine S.nil ?_
  all_goals simp only [ze, reduceIte, Nat.reduceEqDiff, Nat.reduceLT, Nat.reduceLeDiff, Nat.reduceAdd, reduceCtorEq, Nat.reduceMul, hpe]
  all_goals first | refine h3 _ _ ?_ | refine h2 _ _ ?_ | refine h1 _ _ ?_
  refine AW.cond (b := false) (by simp [ev]) (fun hc => by cases hc) (fun hc => AW.skip ?_)
  all_goals simp only [zs, reduceIte, Nat.reduceEqDiff, Nat.reduceLT, Nat.reduceLeDiff, Nat.reduceAdd, reduceCtorEq, Nat.reduceMul]
  all_goals first | refine h3 _ _ ?_ | refine h2 _ _ ?_ | refine h1 _ _ ?_
  have htot : tot [[], []] * 80 ≤ 140737488355328 := by simp [tot]
  refine AW.seq_k fun K4 h4 => ?_
  all_goals refine AW.reg0 ?_
  all_goals iterate 4 (refine S.g rfl rfl fun K' k' => ?_; simp only [zz, reduceIte, Nat.reduceEqDiff, Nat.reduceLT, Nat.reduceLeDiff, Nat.reduceAdd, reduceCtorEq, Nat.reduceMul, of24_0, ok22, sz22, ag22, List.flatten_cons, List.flatten_nil, List.nil_append, List.map_nil]; refine k' _ _ ?_; clear k' K')
  all_goals (refine S.g rfl rfl fun K' k' => ?_; simp only [zb, reduceIte, Nat.reduceEqDiff, Nat.reduceLT, Nat.reduceLeDiff, Nat.reduceAdd, reduceCtorEq, Nat.reduceMul, sl132, el132, ok22, sz22, ag22, zt22, by22, List.flatten_cons, List.flatten_nil, List.nil_append, List.map_nil]; refine ⟨rfl, (by simp), ?_⟩ <;> (refine k' _ _ ?_; clear k' K'))
  all_goals (refine S.g rfl rfl fun K' k' => ?_; simp only [zz, reduceIte, Nat.reduceEqDiff, Nat.reduceLT, Nat.reduceLeDiff, Nat.reduceAdd, reduceCtorEq, Nat.reduceMul, List.flatten_cons, List.flatten_nil, List.nil_append, List.map_nil]; refine PCalls.eqto (concat_frozen [[], []] (by simp) (by simp) htot) ?_ <;> (refine k' _ _ ?_; clear k' K'))
  all_goals (refine S.g rfl rfl fun K' k' => ?_; simp only [zz, reduceIte, Nat.reduceEqDiff, Nat.reduceLT, Nat.reduceLeDiff, Nat.reduceAdd, reduceCtorEq, Nat.reduceMul, zt24, pl24, List.flatten_cons, List.flatten_nil, List.nil_append, List.map_nil]; refine k' _ _ ?_; clear k' K')
  all_goals (refine S.g rfl rfl fun K' k' => ?_; simp only [zz, reduceIte, Nat.reduceEqDiff, Nat.reduceLT, Nat.reduceLeDiff, Nat.reduceAdd, reduceCtorEq, Nat.reduceMul, List.flatten_cons, List.flatten_nil, List.nil_append, List.map_nil]; refine ((clone_grow [] (by simp) (by simp)).to fun v σ1 hv => ?_); replace hv := hv.resolve_right (fun h => by obtain ⟨_, h, _⟩ := h; exact h rfl); obtain ⟨_, rfl, rfl⟩ := hv <;> (refine k' _ _ ?_; clear k' K'))
  all_goals iterate 2 (refine S.g rfl rfl fun K' k' => ?_; simp only [zz, reduceIte, Nat.reduceEqDiff, Nat.reduceLT, Nat.reduceLeDiff, Nat.reduceAdd, reduceCtorEq, Nat.reduceMul, zt24, ok24, sz24, ag24, List.flatten_cons, List.flatten_nil, List.nil_append, List.map_nil]; refine k' _ _ ?_; clear k' K')
  all_goals refine S.nil ?_
  all_goals simp only [ze, reduceIte, Nat.reduceEqDiff, Nat.reduceLT, Nat.reduceLeDiff, Nat.reduceAdd, reduceCtorEq, Nat.reduceMul, List.flatten_cons, List.flatten_nil, List.nil_append, List.map_nil]
  all_goals first | refine h4 _ _ ?_ | refine h3 _ _ ?_ | refine h2 _ _ ?_ | refine h1 _ _ ?_
  refine AW.seq_k fun K5 h5 => ?_
  all_goals refine AW.region (T := { raw := fun d => d == 63 }) (fun _ _ h => by cases h) rfl ?_
  all_goals iterate 2 (refine S.g rfl rfl fun K' k' => ?_; simp only [zz, reduceIte, Nat.reduceEqDiff, Nat.reduceLT, Nat.reduceLeDiff, Nat.reduceAdd, reduceCtorEq, Nat.reduceMul, of24_0, ok22, sz22, ag22]; refine k' _ _ ?_; clear k' K')
  all_goals (refine S.g rfl rfl fun K' k' => ?_; simp only [zz, reduceIte, Nat.reduceEqDiff, Nat.reduceLT, Nat.reduceLeDiff, Nat.reduceAdd, reduceCtorEq, Nat.reduceMul]; refine PCalls.eqto sort_nil ?_ <;> (refine k' _ _ ?_; clear k' K'))
  all_goals refine S.nil ?_
  all_goals simp only [ze, reduceIte, Nat.reduceEqDiff, Nat.reduceLT, Nat.reduceLeDiff, Nat.reduceAdd, reduceCtorEq, Nat.reduceMul]
  all_goals first | refine h5 _ _ ?_ | refine h4 _ _ ?_ | refine h3 _ _ ?_ | refine h2 _ _ ?_ | refine h1 _ _ ?_
  refine AW.seq_k fun K6 h6 => ?_
  refine AW.seq_k fun K7 h7 => ?_
  all_goals refine AW.reg0 ?_
  all_goals (refine S.g rfl rfl fun K' k' => ?_; simp only [zz, reduceIte, Nat.reduceEqDiff, Nat.reduceLT, Nat.reduceLeDiff, Nat.reduceAdd, reduceCtorEq, Nat.reduceMul, ok24, sz24, ag24, hpe]; refine k' _ _ ?_; clear k' K')
  all_goals (refine S.g rfl rfl fun K' k' => ?_; simp only [zz, reduceIte, Nat.reduceEqDiff, Nat.reduceLT, Nat.reduceLeDiff, Nat.reduceAdd, reduceCtorEq, Nat.reduceMul, hpe]; refine PCalls.eqto (check_part [] hok) ?_ <;> (refine k' _ _ ?_; clear k' K'))
  all_goals (refine S.g rfl rfl fun K' k' => ?_; simp only [zz, reduceIte, Nat.reduceEqDiff, Nat.reduceAdd, hpe]; refine k' _ _ ?_; clear k' K')
  all_goals refine S.nil ?_
  all_goals simp only [ze, reduceIte, Nat.reduceEqDiff, Nat.reduceLT, Nat.reduceLeDiff, Nat.reduceAdd, reduceCtorEq, Nat.reduceMul, hpe]
  all_goals first | refine h7 _ _ ?_ | refine h6 _ _ ?_ | refine h5 _ _ ?_ | refine h4 _ _ ?_ | refine h3 _ _ ?_ | refine h2 _ _ ?_ | refine h1 _ _ ?_
  refine AW.cond (b := false) (by simp [ev]) (fun hc => by cases hc) (fun hc => AW.skip ?_)
  all_goals simp only [zs, reduceIte, Nat.reduceEqDiff, Nat.reduceLT, Nat.reduceLeDiff, Nat.reduceAdd, reduceCtorEq, Nat.reduceMul]
  all_goals first | refine h7 _ _ ?_ | refine h6 _ _ ?_ | refine h5 _ _ ?_ | refine h4 _ _ ?_ | refine h3 _ _ ?_ | refine h2 _ _ ?_ | refine h1 _ _ ?_
  refine AW.seq_k fun K8 h8 => ?_
  all_goals refine AW.reg0 ?_
  all_goals iterate 3 (refine S.g rfl rfl fun K' k' => ?_; simp only [zz, reduceIte, Nat.reduceEqDiff, Nat.reduceLT, Nat.reduceLeDiff, Nat.reduceAdd, reduceCtorEq, Nat.reduceMul, ok24, sz24, ag24]; refine k' _ _ ?_; clear k' K')
  all_goals refine S.nil ?_
  all_goals simp only [ze, reduceIte, Nat.reduceEqDiff, Nat.reduceLT, Nat.reduceLeDiff, Nat.reduceAdd, reduceCtorEq, Nat.reduceMul]
  all_goals first | refine h8 _ _ ?_ | refine h7 _ _ ?_ | refine h6 _ _ ?_ | refine h5 _ _ ?_ | refine h4 _ _ ?_ | refine h3 _ _ ?_ | refine h2 _ _ ?_ | refine h1 _ _ ?_
  refine AW.ret ?_
  all_goals simp only [zs, reduceIte, Nat.reduceEqDiff, Nat.reduceLT, Nat.reduceLeDiff, Nat.reduceAdd, reduceCtorEq, Nat.reduceMul, qLoad, ok24, sz24, ag24, cut, List.drop_zero, List.take_succ_cons, List.take_zero, List.map]
end Go.Abs.M
namespace Go.Abs.M
open Go Go.Abs Go.Proofs

/-! #### the order of the names -/
theorem bytesLess_eq' : ∀ (x y : List UInt8), Op.bytesLess x y = decide (x < y)
  | [], [] => by simp [Op.bytesLess]
  | _ :: _, [] => by simp [Op.bytesLess]
  | [], _ :: _ => by simp [Op.bytesLess]
  | a :: x, b :: y => by
    rw [Op.bytesLess, bytesLess_eq' x y]
    simp only [List.cons_lt_cons_iff]
    by_cases h1 : a < b <;> by_cases h2 : a = b <;> by_cases h3 : x < y <;> simp [h1, h2, h3]
theorem leS_iff (a b : ByteArray) : leS a b = true ↔ ¬ b.toList < a.toList := by
  simp only [leS, bytesLess_eq', Bool.or_eq_true, decide_eq_true_eq, beq_iff_eq]
  constructor
  · rintro (h | h)
    · exact List.lt_asymm h
    · rw [h]; exact List.lt_irrefl _
  · intro h
    have h : a.toList ≤ b.toList := h
    by_cases e : a.toList = b.toList
    · exact .inr e
    · rcases List.le_iff_lt_or_eq.1 h with h | h
      · exact .inl h
      · exact absurd h e
theorem leS_false (a b : ByteArray) : leS a b = false ↔ b.toList < a.toList := by
  rw [← Bool.not_eq_true, leS_iff, Decidable.not_not]
theorem leS_trans {a b c : ByteArray} (h : leS a b = true) (k : leS b c = true) : leS a c = true := by
  rw [leS_iff] at *
  exact List.le_trans (show a.toList ≤ b.toList from h) (show b.toList ≤ c.toList from k)
theorem leS_total {a b : ByteArray} (h : leS a b = false) : leS b a = true := by
  rw [leS_false] at h; rw [leS_iff]; exact List.lt_asymm h
theorem cmpS_neg (a b : ByteArray) : cmpS a b < 0 ↔ leS b a = false := by
  rw [leS_false]
  unfold cmpS
  rw [bytesLess_eq']
  by_cases h : a.toList < b.toList
  · simp [h]
  · simp only [h, decide_false, Bool.false_eq_true, if_false, Bool.false_or, iff_false]
    split <;> omega

/-! #### insertion -/
def insL : List Bd → Bd → List Bd
  | [], y => [y]
  | x :: p, y => if leS x.var y.var = true then x :: insL p y else y :: x :: p
def Srt : List Bd → Prop
  | [] => True
  | x :: p => (∀ y ∈ p, leS x.var y.var = true) ∧ Srt p
theorem Srt.append {p q : List Bd} (h : Srt (p ++ q)) : Srt p ∧ Srt q ∧ ∀ x ∈ p, ∀ y ∈ q, leS x.var y.var = true := by
  induction p with
  | nil => exact ⟨trivial, h, fun x hx => by cases hx⟩
  | cons x p ih =>
    obtain ⟨h1, h2⟩ := h
    obtain ⟨a, b, c⟩ := ih h2
    refine ⟨⟨fun y hy => h1 y (List.mem_append_left _ hy), a⟩, b, fun z hz y hy => ?_⟩
    rcases List.mem_cons.1 hz with rfl | hz
    · exact h1 y (List.mem_append_right _ hy)
    · exact c z hz y hy
theorem insL_end {p : List Bd} {y : Bd} (h : ∀ x ∈ p, leS x.var y.var = true) : insL p y = p ++ [y] := by
  induction p with
  | nil => rfl
  | cons x p ih => simp only [insL]; rw [if_pos (h x List.mem_cons_self), ih (fun z hz => h z (List.mem_cons_of_mem _ hz))]; rfl
theorem insL_last {q : List Bd} {z y : Bd} (h : leS z.var y.var = false) : insL (q ++ [z]) y = insL q y ++ [z] := by
  induction q with
  | nil => simp [insL, h]
  | cons x q ih =>
    simp only [List.cons_append, insL]
    split
    · rw [ih]; rfl
    · rfl
theorem insL_mem {p : List Bd} {y z : Bd} : z ∈ insL p y ↔ z = y ∨ z ∈ p := by
  induction p with
  | nil => simp [insL]
  | cons x p ih =>
    simp only [insL]
    split
    · simp only [List.mem_cons, ih]
      constructor
      · rintro (h | h | h) <;> simp [h]
      · rintro (h | h | h) <;> simp [h]
    · simp only [List.mem_cons]
theorem insL_len (p : List Bd) (y : Bd) : (insL p y).length = p.length + 1 := by
  induction p with
  | nil => rfl
  | cons x p ih => simp only [insL]; split <;> simp [ih]
theorem insL_srt {p : List Bd} {y : Bd} (h : Srt p) : Srt (insL p y) := by
  induction p with
  | nil => exact ⟨(fun _ h => by cases h), trivial⟩
  | cons x p ih =>
    simp only [insL]
    split
    · rename_i hxy
      refine ⟨fun z hz => ?_, ih h.2⟩
      rcases insL_mem.1 hz with rfl | hz
      · exact hxy
      · exact h.1 z hz
    · rename_i hxy
      have hyx := leS_total (by simpa using hxy)
      refine ⟨fun z hz => ?_, h⟩
      rcases List.mem_cons.1 hz with rfl | hz
      · exact hyx
      · exact leS_trans hyx (h.1 z hz)

theorem sink_ins : ∀ (n : Nat) (p : List Bd) (y : Bd) (r : List Bd), p.length = n → Srt p → sink 0 n (p ++ y :: r) = insL p y ++ r := by
  intro n
  induction n with
  | zero => intro p y r hp _; rw [List.eq_nil_of_length_eq_zero hp]; rfl
  | succ n ih =>
    intro p y r hp hs
    obtain ⟨q, z, rfl⟩ : ∃ q z, p = q ++ [z] := by
      refine ⟨p.dropLast, p.getLast (by intro e; simp [e] at hp), ?_⟩
      exact (List.dropLast_concat_getLast _).symm
    have hq : q.length = n := by simpa using hp
    have g1 : (q ++ [z] ++ y :: r)[n + 1]? = some y := by simp [hq]
    have g2 : (q ++ [z] ++ y :: r)[n]? = some z := by simp [hq]
    simp only [sink, g1, g2]
    obtain ⟨hs1, hs2, hs3⟩ := hs.append
    by_cases hlt : cmpS y.var z.var < 0
    · rw [if_pos ⟨by omega, hlt⟩]
      have e : ((q ++ [z] ++ y :: r).set (n + 1) z).set n y = q ++ y :: (z :: r) := by
        subst hq
        simp
      rw [e, ih q y (z :: r) hq hs1, insL_last ((cmpS_neg _ _).1 hlt)]
      simp
    · rw [if_neg (fun h => hlt h.2)]
      have hzy : leS z.var y.var = true := by
        cases h : leS z.var y.var
        · exact absurd ((cmpS_neg _ _).2 h) hlt
        · rfl
      rw [insL_end (fun x hx => ?_)]
      · simp
      · rcases List.mem_append.1 hx with h | h
        · exact leS_trans (hs3 x h z (by simp)) hzy
        · simp at h; rw [h]; exact hzy
theorem insFrom_ins : ∀ (bs p r : List Bd), Srt p → insFrom 0 (p ++ (bs ++ r)) p.length bs.length = bs.foldl insL p ++ r := by
  intro bs
  induction bs with
  | nil => intro p r _; rfl
  | cons y bs ih =>
    intro p r hs
    have h := ih (insL p y) r (insL_srt hs)
    rw [insL_len] at h
    simp only [List.length_cons, insFrom, List.range'_succ, List.foldl_cons] at h ⊢
    rw [List.cons_append, sink_ins p.length p y (bs ++ r) rfl hs]
    exact h
theorem insort_eq (l : List Bd) : insort 0 l.length l = l.foldl insL [] := by
  cases l with
  | nil => rfl
  | cons x l =>
    have h := insFrom_ins l [x] [] ⟨(fun _ h => by cases h), trivial⟩
    simpa [insort, insL] using h
theorem foldl_skip {x : Bd} : ∀ {b a : List Bd}, (∀ y ∈ b, leS x.var y.var = true) → b.foldl insL (x :: a) = x :: b.foldl insL a := by
  intro b
  induction b with
  | nil => intro a _; rfl
  | cons y b ih =>
    intro a h
    simp only [List.foldl_cons, insL]
    rw [if_pos (h y List.mem_cons_self), ih (fun z hz => h z (List.mem_cons_of_mem _ hz))]
theorem foldl_srt : ∀ {b : List Bd}, Srt b → b.foldl insL [] = b := by
  intro b
  induction b with
  | nil => intro _; rfl
  | cons y b ih =>
    intro h
    simp only [List.foldl_cons, insL]
    rw [foldl_skip h.1, ih h.2]
theorem foldl_mrg (a b : List Bd) : Srt a → Srt b → b.foldl insL a = mrg a b := by
  fun_induction mrg a b
  · intro _ hb; exact foldl_srt hb
  · intro _ _; rfl
  · rename_i x a y b hxy ih
    intro ha hb
    rw [foldl_skip, ih ha.2 hb]
    intro z hz
    rcases List.mem_cons.1 hz with rfl | hz
    · exact hxy
    · exact leS_trans hxy (hb.1 z hz)
  · rename_i x a y b hxy ih
    intro ha hb
    rw [List.foldl_cons, insL, if_neg hxy, foldl_skip hb.1, ih ha hb.2]
theorem insort_mrg (a b : List Bd) (ha : Srt a) (hb : Srt b) : insort 0 (a ++ b).length (a ++ b) = mrg a b := by
  rw [insort_eq, List.foldl_append, foldl_srt ha, foldl_mrg a b ha hb]

/-! #### a part that may be is sorted -/
theorem partFrom_srt (n : Nat) : ∀ (l : List Bd) (p : Option ByteArray) (sn : List (Int × Int)), partFrom n p sn l = 0 → Srt l ∧ ∀ q, p = some q → ∀ x ∈ l, leS q x.var = true := by
  intro l
  induction l with
  | nil => intro p sn _; exact ⟨trivial, fun _ _ _ h => by cases h⟩
  | cons x l ih =>
    intro p sn h
    simp only [partFrom] at h
    split at h
    · cases h
    · rename_i hx
      split at h
      · rename_i h1; exact absurd h h1
      · obtain ⟨h1, h2⟩ := ih _ _ h
        refine ⟨⟨fun y hy => h2 _ rfl y hy, h1⟩, fun q hq y hy => ?_⟩
        subst hq
        have hqx : leS q x.var = true := by
          cases e : leS x.var q
          · exact leS_total e
          · exact absurd (.inr (.inl (by simpa using e))) hx
        rcases List.mem_cons.1 hy with rfl | hy
        · exact hqx
        · exact leS_trans hqx (h2 _ rfl y hy)
theorem part_srt {l : List Bd} (h : partErr l = 0) : Srt l := by
  unfold partErr at h
  split at h
  · cases h
  · exact (partFrom_srt _ l none [] h).1
end Go.Abs.M
namespace Go.Abs.M
open Go Go.Abs Go.Proofs
set_option maxRecDepth 20000
set_option linter.unusedSimpArgs false
set_option linter.unusedVariables false

theorem merge_spec (a b : List Bd) (ha : okP a) (hb : okP b) (hat : ∀ x ∈ a ++ b, x.ev.attrs.length * 48 ≤ 140737488355328) :
    PCalls Try.prog 11 [.agg [.sl (a.map encBd)], .agg [.sl (b.map encBd)]] (fun v => v = mergeV a b (mrg a b)) := by
  have hab : okP (a ++ b) := fun x hx => by
    rcases List.mem_append.1 hx with h | h
    · exact ha x h
    · exact hb x h
  by_cases h0 : a ++ b = []
  · obtain ⟨rfl, rfl⟩ := List.append_eq_nil_iff.1 h0
    exact merge_nil.mono fun v h => by rw [h]; rw [mergeV, if_neg (by decide), mrg, if_neg (by decide)]; rfl
  by_cases hl : (a ++ b).length < 20
  · refine (merge_gen a b ha hb hat (fun p => p = mrg a b) ⟨_, rfl⟩ h0 fun hx k => (sort_small (a ++ b) k hl).mono fun v σ' h => ⟨h.1, _, ?_, ?_, h.2⟩).mono fun v h => ?_
    · intro x hx
      exact hab x ((insort_sub _ _ _).2 x hx)
    · exact insort_mrg a b (part_srt (Decidable.not_not.1 fun h => hx (.inl h))) (part_srt (Decidable.not_not.1 fun h => hx (.inr h)))
    · obtain ⟨p, rfl, rfl⟩ := h; rfl
  · refine (merge_gen a b ha hb hat (fun p => 12 < p.length) ⟨a ++ b, by omega⟩ h0 fun hx k => ?_).mono fun v h => ?_
    · have h1 : a.length ≤ 12 := by
        by_cases h : 12 < a.length
        · exact absurd (.inl (by simp [partErr, h])) hx
        · omega
      have h2 : b.length ≤ 12 := by
        by_cases h : 12 < b.length
        · exact absurd (.inr (by simp [partErr, h])) hx
        · omega
      refine (sort_weak (a ++ b) k (by rw [List.length_append]; omega)).mono fun v σ' h => ?_
      obtain ⟨h3, p, hp, h4⟩ := h
      exact ⟨h3, p, fun x hx => hab x (hp.2 x hx), by rw [hp.1]; omega, h4⟩
    · obtain ⟨p, hp, rfl⟩ := h
      have h1 : partErr p ≠ 0 := by simp [partErr, hp]
      have hm := mrg_len a b
      rw [List.length_append] at hl
      have h2 : partErr (mrg a b) ≠ 0 := by simp [partErr, show 12 < (mrg a b).length by omega]
      rw [mergeV, mergeV, if_pos h1, if_pos h2]
end Go.Abs.M
