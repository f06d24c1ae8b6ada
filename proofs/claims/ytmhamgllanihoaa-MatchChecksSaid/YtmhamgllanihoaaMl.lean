import Derived.Test.YtmhamgllanihoaaMk
namespace Go.Abs.M
open Go Go.Abs Go.Proofs
set_option linter.unusedSimpArgs false

theorem minL_snoc (a : Int) (r : List Int) (b : Int) : minL a (r ++ [b]) = if b < minL a r then b else minL a r := by unfold minL; rw [List.foldl_append]; rfl
theorem maxL_snoc (a : Int) (r : List Int) (b : Int) : maxL a (r ++ [b]) = if maxL a r < b then b else maxL a r := by unfold maxL; rw [List.foldl_append]; rfl
theorem begin_snoc (p : List Bd) (b : Bd) : beginOf (p ++ [b]) = if p = [] then b.ev.time else if b.ev.time < beginOf p then b.ev.time else beginOf p := by
  cases p with
  | nil => rfl
  | cons x p => simp [beginOf, minL_snoc]
theorem end_snoc (p : List Bd) (b : Bd) : endOf (p ++ [b]) = if p = [] then b.ev.time else if endOf p < b.ev.time then b.ev.time else endOf p := by
  cases p with
  | nil => rfl
  | cons x p => simp [endOf, maxL_snoc]
def inI64 (n : Int) : Prop := -9223372036854775808 ≤ n ∧ n ≤ 9223372036854775807
theorem minL_mem (a : Int) (r : List Int) : minL a r ∈ a :: r := by
  induction r generalizing a with
  | nil => simp [minL]
  | cons b r ih =>
    simp only [minL, List.foldl_cons] at ih ⊢
    have := ih (if b < a then b else a)
    split at this
    · rename_i h; rw [if_pos h]
      exact List.mem_cons_of_mem _ this
    · rename_i h; rw [if_neg h]
      rcases List.mem_cons.1 this with h1 | h1
      · rw [h1]; exact List.mem_cons_self
      · exact List.mem_cons_of_mem _ (List.mem_cons_of_mem _ h1)
theorem maxL_mem (a : Int) (r : List Int) : maxL a r ∈ a :: r := by
  induction r generalizing a with
  | nil => simp [maxL]
  | cons b r ih =>
    simp only [maxL, List.foldl_cons] at ih ⊢
    have := ih (if a < b then b else a)
    split at this
    · rename_i h; rw [if_pos h]
      exact List.mem_cons_of_mem _ this
    · rename_i h; rw [if_neg h]
      rcases List.mem_cons.1 this with h1 | h1
      · rw [h1]; exact List.mem_cons_self
      · exact List.mem_cons_of_mem _ (List.mem_cons_of_mem _ h1)
theorem minL_le (a : Int) (r : List Int) : minL a r ≤ a := by
  induction r generalizing a with
  | nil => simp [minL]
  | cons b r ih =>
    simp only [minL, List.foldl_cons] at ih ⊢
    have := ih (if b < a then b else a)
    split at this
    · rename_i h; rw [if_pos h]; omega
    · rename_i h; rw [if_neg h]; omega
theorem le_maxL (a : Int) (r : List Int) : a ≤ maxL a r := by
  induction r generalizing a with
  | nil => simp [maxL]
  | cons b r ih =>
    simp only [maxL, List.foldl_cons] at ih ⊢
    have := ih (if a < b then b else a)
    split at this
    · rename_i h; rw [if_pos h]; omega
    · rename_i h; rw [if_neg h]; omega
theorem begin_le_end (l : List Bd) : beginOf l ≤ endOf l := by
  cases l with
  | nil => simp [beginOf, endOf]
  | cons x l => exact Int.le_trans (minL_le _ _) (le_maxL _ _)
theorem begin_in {l : List Bd} (h : ∀ b ∈ l, inI64 b.ev.time) : inI64 (beginOf l) := by
  cases l with
  | nil => simp [beginOf, inI64]
  | cons x l =>
    have := minL_mem x.ev.time (l.map (·.ev.time))
    show inI64 (minL _ _)
    rw [show x.ev.time :: l.map (·.ev.time) = (x :: l).map (·.ev.time) from rfl] at this
    obtain ⟨b, hb, e⟩ := List.mem_map.1 this
    rw [← e]; exact h b hb
theorem end_in {l : List Bd} (h : ∀ b ∈ l, inI64 b.ev.time) : inI64 (endOf l) := by
  cases l with
  | nil => simp [endOf, inI64]
  | cons x l =>
    have := maxL_mem x.ev.time (l.map (·.ev.time))
    show inI64 (maxL _ _)
    rw [show x.ev.time :: l.map (·.ev.time) = (x :: l).map (·.ev.time) from rfl] at this
    obtain ⟨b, hb, e⟩ := List.mem_map.1 this
    rw [← e]; exact h b hb
theorem wrapI (n : Int) (h0 : -9223372036854775808 ≤ n) (h1 : n ≤ 9223372036854775807) : IntKind.i64.wrap n = n := by
  simp [IntKind.wrap, IntKind.signed, IntKind.bits, Int.bmod]; omega
def withinB (l : List Bd) (w : Int) : Bool := decide (0 ≤ w ∧ endOf l - beginOf l ≤ w)
end Go.Abs.M
namespace Go.Abs.M
open Go Go.Abs Go.Proofs
set_option maxRecDepth 20000
set_option linter.unusedSimpArgs false
set_option linter.unusedVariables false

theorem rbegin_spec (l : List Bd) (hn : l.length < 4611686018427387904) : PCalls Try.prog 23 [.agg [.sl (l.map encBd)]] (fun v => v = .c (.int .i64 (beginOf l))) := by
  refine PCalls.intro Try.call23 Try.func23 rfl Try.ntmps23 Try.results23 (by simp) ?_
  refine AW.seq_k fun K1 h1 => ?_
  all_goals refine AW.reg0 ?_
  all_goals iterate 2 (refine S.g rfl rfl fun K' k' => ?_; simp only [zz, reduceIte, Nat.reduceEqDiff, Nat.reduceLT, Nat.reduceLeDiff, Nat.reduceAdd, reduceCtorEq, Nat.reduceMul, ok24, sz24, ag24]; refine k' _ _ ?_; clear k' K')
  all_goals refine S.nil ?_
  all_goals simp only [ze, reduceIte, Nat.reduceEqDiff, Nat.reduceLT, Nat.reduceLeDiff, Nat.reduceAdd, reduceCtorEq, Nat.reduceMul]
  all_goals first | refine h1 _ _ ?_
  refine AW.seq_k fun K2 h2 => ?_
  all_goals refine AW.reg0 ?_
  all_goals (refine S.g rfl rfl fun K' k' => ?_; simp only [zz, reduceIte, Nat.reduceEqDiff, Nat.reduceAdd]; refine k' _ _ ?_; clear k' K')
  all_goals refine S.nil ?_
  all_goals simp only [ze, reduceIte, Nat.reduceEqDiff, Nat.reduceLT, Nat.reduceLeDiff, Nat.reduceAdd, reduceCtorEq, Nat.reduceMul]
  all_goals first | refine h2 _ _ ?_ | refine h1 _ _ ?_
  refine AW.seq_j (fun s σ => σ = Hp.empty ∧ s.t 3 = .c (.int .i64 (beginOf l))) ?_ ?_
  · refine AW.seq_k fun K3 h3 => ?_
    all_goals refine AW.reg0 ?_
    all_goals (refine S.g rfl rfl fun K' k' => ?_; simp only [zz, reduceIte, Nat.reduceEqDiff, Nat.reduceAdd]; refine k' _ _ ?_; clear k' K')
    all_goals refine S.nil ?_
    all_goals simp only [ze, reduceIte, Nat.reduceEqDiff, Nat.reduceLT, Nat.reduceLeDiff, Nat.reduceAdd, reduceCtorEq, Nat.reduceMul]
    all_goals first | refine h3 _ _ ?_ | refine h2 _ _ ?_ | refine h1 _ _ ?_
    refine AW.block ?_   -- 0
    refine AW.loop (fun m s σ => σ = Hp.empty ∧ ∃ i : Nat, m + i = l.length ∧ s.t 1 = .lp 1 0 ∧ s.l 1 = some [.sl (l.map encBd)] ∧ s.t 4 = .c (.int .i64 i) ∧ s.t 3 = .c (.int .i64 (beginOf (l.take i)))) l.length ?_ ?_
    · refine ⟨rfl, 0, by simp, ?_⟩
      all_goals simp only [zs, reduceIte, Nat.reduceEqDiff, Nat.reduceLT, Nat.reduceLeDiff, Nat.reduceAdd, reduceCtorEq, Nat.reduceMul]
      simp [beginOf]
    rintro m s σ ⟨rfl, i, hm, e1, l1, e4, e3⟩
    refine AW.seq_k fun K4 h4 => ?_
    refine AW.seq_k fun K5 h5 => ?_
    all_goals refine AW.reg0 ?_
    all_goals iterate 5 (refine S.g rfl rfl fun K' k' => ?_; simp only [zz, reduceIte, Nat.reduceEqDiff, Nat.reduceLT, Nat.reduceLeDiff, Nat.reduceAdd, reduceCtorEq, Nat.reduceMul, of24_0, ok22, sz22, ag22, sl22, el22, ok42, sz42, ag42, e1, l1, e4]; refine k' _ _ ?_; clear k' K')
    all_goals refine S.nil ?_
    all_goals simp only [ze, reduceIte, Nat.reduceEqDiff, Nat.reduceLT, Nat.reduceLeDiff, Nat.reduceAdd, reduceCtorEq, Nat.reduceMul, e1, l1, e4]
    all_goals first | refine h5 _ _ ?_ | refine h4 _ _ ?_ | refine h3 _ _ ?_ | refine h2 _ _ ?_ | refine h1 _ _ ?_
    refine AW.cond (b := decide (i < l.length)) (by simp [ev]) (fun hc => ?_) (fun hc => ?_)
    · have hi := of_decide_eq_true hc
      refine AW.skip ?_
      all_goals simp only [zs, reduceIte, Nat.reduceEqDiff, Nat.reduceLT, Nat.reduceLeDiff, Nat.reduceAdd, reduceCtorEq, Nat.reduceMul]
      all_goals first | refine h5 _ _ ?_ | refine h4 _ _ ?_ | refine h3 _ _ ?_ | refine h2 _ _ ?_ | refine h1 _ _ ?_
      have hg := getD_map (f := encBd) hi
      have htk : l.take (i + 1) = l.take i ++ [l[i]] := by rw [List.take_append_getElem]
      have hnil : (l.take i = []) ↔ (i = 0) := by
        constructor
        · intro h
          have := congrArg List.length h
          rw [List.length_take, List.length_nil] at this; omega
        · rintro rfl; rfl
      generalize ha : l[i] = a at hg htk
      have hw : IntKind.i64.wrap ((i : Int) + 1) = ((i + 1 : Nat) : Int) := by rw [wrap_small _ (by omega) (by omega)]; rfl
      have hsn := begin_snoc (l.take i) a
      rw [← htk] at hsn
      simp only [hnil] at hsn
      refine AW.seq_k fun K6 h6 => ?_
      refine AW.block ?_   -- 1
      refine AW.seq_k fun K7 h7 => ?_
      all_goals refine AW.reg0 ?_
      all_goals iterate 8 (refine S.g rfl rfl fun K' k' => ?_; simp only [zz, reduceIte, Nat.reduceEqDiff, Nat.reduceLT, Nat.reduceLeDiff, Nat.reduceAdd, reduceCtorEq, Nat.reduceMul, of24_0, ok22, sz22, ag22, sl22, el22, ok42, sz42, ag42, of42_1, of36_1, ok2, sz2, ag2, e1, l1, e4, hi, hg, encBd]; refine k' _ _ ?_; clear k' K')
      all_goals refine S.nil ?_
      all_goals simp only [ze, reduceIte, Nat.reduceEqDiff, Nat.reduceLT, Nat.reduceLeDiff, Nat.reduceAdd, reduceCtorEq, Nat.reduceMul, e1, l1, e4, hi, hg, encBd]
      all_goals first | refine h7 _ _ ?_ | refine h6 _ _ ?_ | refine h5 _ _ ?_ | refine h4 _ _ ?_ | refine h3 _ _ ?_ | refine h2 _ _ ?_ | refine h1 _ _ ?_
      refine AW.seq_j (fun s' σ => σ = Hp.empty ∧ s'.t 1 = .lp 1 0 ∧ s'.l 1 = some [.sl (l.map encBd)] ∧ s'.t 4 = .c (.int .i64 i) ∧ s'.t 3 = .c (.int .i64 (beginOf (l.take i))) ∧ s'.t 5 = .c (.int .i64 a.ev.time) ∧ s'.t 26 = .c (.bool (decide (i = 0 ∨ a.ev.time < beginOf (l.take i))))) ?_ ?_
      · clear hsn htk hnil hg
        generalize beginOf (l.take i) = q at *
        all_goals refine AW.reg0 ?_
        all_goals (refine S.g rfl rfl fun K' k' => ?_; simp only [zz, reduceIte, Nat.reduceEqDiff, Nat.reduceAdd, e1, l1, e4, e3]; refine k' _ _ ?_; clear k' K')
        all_goals (refine S.g rfl rfl fun K' k' => ?_; simp only [zz, reduceIte, Nat.reduceEqDiff, Nat.reduceLT, Nat.reduceLeDiff, Nat.reduceAdd, reduceCtorEq, Nat.reduceMul, e1, l1, e4, e3]; refine S.bool fun b a21 => ?_; cases b <;> (try (exfalso; first | exact Bool.noConfusion a21 | (have h := of_decide_eq_true a21; omega) | (have h := of_decide_eq_false a21; omega))) <;> (refine k' _ _ ?_; clear k' K'))
        all_goals (refine S.g rfl rfl fun K' k' => ?_; simp only [zz, reduceIte, Nat.reduceEqDiff, Nat.reduceAdd, e1, l1, e4, e3]; refine k' _ _ ?_; clear k' K')
        all_goals iterate 3 (first | (refine S.y rfl rfl rfl rfl fun K' k' => ?_; simp only [zz, reduceIte, Nat.reduceEqDiff, Nat.reduceAdd, e1, l1, e4, e3]; refine k' _ _ ?_; clear k' K') | ((first | refine S.x rfl rfl rfl rfl fun K' k' => ?_ | refine S.u rfl rfl rfl rfl fun K' k' => ?_); simp only [ze, reduceIte, Nat.reduceEqDiff]; refine k' _ _ ?_; clear k' K'))
        all_goals (refine S.g rfl rfl fun K' k' => ?_; simp only [zz, reduceIte, Nat.reduceEqDiff, Nat.reduceAdd, e1, l1, e4, e3]; refine k' _ _ ?_; clear k' K')
        all_goals refine S.nil ?_
        all_goals simp only [ze, reduceIte, Nat.reduceEqDiff, Nat.reduceLT, Nat.reduceLeDiff, Nat.reduceAdd, reduceCtorEq, Nat.reduceMul, e1, l1, e4, e3]
        all_goals (try simp only [beq_eq_false_iff_ne, decide_eq_true_eq, decide_eq_false_iff_not, beq_iff_eq, ne_eq, Bool.not_eq_true', Bool.not_eq_false', bne_iff_ne, bne_eq_false_iff_eq] at *)
        all_goals (try simp only [V.c.injEq, Value.bool.injEq, Value.int.injEq, true_and])
        all_goals first | done | rfl | omega | ((rw [Bool.eq_iff_iff]; simp only [beq_eq_false_iff_ne, decide_eq_true_eq, decide_eq_false_iff_not, beq_iff_eq, ne_eq, Bool.not_eq_true', Bool.not_eq_false', bne_iff_ne, bne_eq_false_iff_eq, Bool.false_or, Bool.true_or, Bool.or_false, Bool.or_true, Bool.false_and, Bool.and_false, Bool.true_and, Bool.and_true, Bool.not_true, Bool.not_false, Bool.or_eq_false_iff, Bool.and_eq_false_iff, Bool.or_eq_true, Bool.and_eq_true, Bool.false_eq_true, Bool.true_eq_false, true_iff, iff_true, false_iff, iff_false]) <;> omega)
      clear e1 l1 e4 e3
      rintro s σ ⟨rfl, e1, l1, e4, e3, e5, e26⟩
      refine AW.cond (b := _) e26 (fun hx => ?_) (fun hx => ?_)
      · have hx := of_decide_eq_true hx
        all_goals refine AW.reg0 ?_
        all_goals iterate 2 (refine S.g rfl rfl fun K' k' => ?_; simp only [zz, reduceIte, Nat.reduceEqDiff, Nat.reduceAdd, e5]; refine k' _ _ ?_; clear k' K')
        all_goals refine S.nil ?_
        all_goals simp only [ze, reduceIte, Nat.reduceEqDiff, Nat.reduceLT, Nat.reduceLeDiff, Nat.reduceAdd, reduceCtorEq, Nat.reduceMul, e5]
        all_goals first | refine h7 _ _ ?_ | refine h6 _ _ ?_ | refine h5 _ _ ?_ | refine h4 _ _ ?_ | refine h3 _ _ ?_ | refine h2 _ _ ?_ | refine h1 _ _ ?_
        all_goals refine AW.reg0 ?_
        all_goals iterate 3 (refine S.g rfl rfl fun K' k' => ?_; simp only [zz, reduceIte, Nat.reduceEqDiff, Nat.reduceAdd, e4, hw, e1, l1]; refine k' _ _ ?_; clear k' K')
        all_goals refine S.nil ?_
        all_goals simp only [ze, reduceIte, Nat.reduceEqDiff, Nat.reduceLT, Nat.reduceLeDiff, Nat.reduceAdd, reduceCtorEq, Nat.reduceMul, e4, hw, e1, l1]
        refine ⟨m - 1, by omega, i + 1, by omega, rfl, ?_⟩
        rw [hsn]
        by_cases h0 : i = 0
        · rw [if_pos h0]
        · rw [if_neg h0, if_pos (hx.resolve_left h0)]
      · have hx := of_decide_eq_false hx
        refine AW.skip ?_
        all_goals simp only [zs, reduceIte, Nat.reduceEqDiff, Nat.reduceLT, Nat.reduceLeDiff, Nat.reduceAdd, reduceCtorEq, Nat.reduceMul]
        all_goals first | refine h7 _ _ ?_ | refine h6 _ _ ?_ | refine h5 _ _ ?_ | refine h4 _ _ ?_ | refine h3 _ _ ?_ | refine h2 _ _ ?_ | refine h1 _ _ ?_
        all_goals refine AW.reg0 ?_
        all_goals iterate 3 (refine S.g rfl rfl fun K' k' => ?_; simp only [zz, reduceIte, Nat.reduceEqDiff, Nat.reduceAdd, e4, hw, e1, l1, e3]; refine k' _ _ ?_; clear k' K')
        all_goals refine S.nil ?_
        all_goals simp only [ze, reduceIte, Nat.reduceEqDiff, Nat.reduceLT, Nat.reduceLeDiff, Nat.reduceAdd, reduceCtorEq, Nat.reduceMul, e4, hw, e1, l1, e3]
        refine ⟨m - 1, by omega, i + 1, by omega, rfl, ?_⟩
        rw [hsn, if_neg (fun h => hx (.inl h)), if_neg (fun h => hx (.inr h))]
    · have hc := of_decide_eq_false hc
      refine AW.exit ?_
      all_goals simp only [zs, reduceIte, Nat.reduceEqDiff, Nat.reduceLT, Nat.reduceLeDiff, Nat.reduceAdd, reduceCtorEq, Nat.reduceMul]
      rw [List.take_of_length_le (by omega)] at e3
      exact e3
  rintro s σ ⟨rfl, e3⟩
  refine AW.seq_k fun K8 h8 => ?_
  all_goals refine AW.reg0 ?_
  all_goals iterate 2 (refine S.g rfl rfl fun K' k' => ?_; simp only [zz, reduceIte, Nat.reduceEqDiff, Nat.reduceAdd, e3]; refine k' _ _ ?_; clear k' K')
  all_goals refine S.nil ?_
  all_goals simp only [ze, reduceIte, Nat.reduceEqDiff, Nat.reduceLT, Nat.reduceLeDiff, Nat.reduceAdd, reduceCtorEq, Nat.reduceMul, e3]
  all_goals first | refine h8 _ _ ?_ | refine h7 _ _ ?_ | refine h6 _ _ ?_ | refine h5 _ _ ?_ | refine h4 _ _ ?_ | refine h3 _ _ ?_ | refine h2 _ _ ?_ | refine h1 _ _ ?_
  refine AW.ret ?_
  all_goals simp only [zs, reduceIte, Nat.reduceEqDiff, Nat.reduceLT, Nat.reduceLeDiff, Nat.reduceAdd, reduceCtorEq, Nat.reduceMul]

theorem rend_spec (l : List Bd) (hn : l.length < 4611686018427387904) : PCalls Try.prog 25 [.agg [.sl (l.map encBd)]] (fun v => v = .c (.int .i64 (endOf l))) := by
  refine PCalls.intro Try.call25 Try.func25 rfl Try.ntmps25 Try.results25 (by simp) ?_
  refine AW.seq_k fun K1 h1 => ?_
  all_goals refine AW.reg0 ?_
  all_goals iterate 2 (refine S.g rfl rfl fun K' k' => ?_; simp only [zz, reduceIte, Nat.reduceEqDiff, Nat.reduceLT, Nat.reduceLeDiff, Nat.reduceAdd, reduceCtorEq, Nat.reduceMul, ok24, sz24, ag24]; refine k' _ _ ?_; clear k' K')
  all_goals refine S.nil ?_
  all_goals simp only [ze, reduceIte, Nat.reduceEqDiff, Nat.reduceLT, Nat.reduceLeDiff, Nat.reduceAdd, reduceCtorEq, Nat.reduceMul]
  all_goals first | refine h1 _ _ ?_
  refine AW.seq_k fun K2 h2 => ?_
  all_goals refine AW.reg0 ?_
  all_goals (refine S.g rfl rfl fun K' k' => ?_; simp only [zz, reduceIte, Nat.reduceEqDiff, Nat.reduceAdd]; refine k' _ _ ?_; clear k' K')
  all_goals refine S.nil ?_
  all_goals simp only [ze, reduceIte, Nat.reduceEqDiff, Nat.reduceLT, Nat.reduceLeDiff, Nat.reduceAdd, reduceCtorEq, Nat.reduceMul]
  all_goals first | refine h2 _ _ ?_ | refine h1 _ _ ?_
  refine AW.seq_j (fun s σ => σ = Hp.empty ∧ s.t 3 = .c (.int .i64 (endOf l))) ?_ ?_
  · refine AW.seq_k fun K3 h3 => ?_
    all_goals refine AW.reg0 ?_
    all_goals (refine S.g rfl rfl fun K' k' => ?_; simp only [zz, reduceIte, Nat.reduceEqDiff, Nat.reduceAdd]; refine k' _ _ ?_; clear k' K')
    all_goals refine S.nil ?_
    all_goals simp only [ze, reduceIte, Nat.reduceEqDiff, Nat.reduceLT, Nat.reduceLeDiff, Nat.reduceAdd, reduceCtorEq, Nat.reduceMul]
    all_goals first | refine h3 _ _ ?_ | refine h2 _ _ ?_ | refine h1 _ _ ?_
    refine AW.block ?_   -- 0
    refine AW.loop (fun m s σ => σ = Hp.empty ∧ ∃ i : Nat, m + i = l.length ∧ s.t 1 = .lp 1 0 ∧ s.l 1 = some [.sl (l.map encBd)] ∧ s.t 4 = .c (.int .i64 i) ∧ s.t 3 = .c (.int .i64 (endOf (l.take i)))) l.length ?_ ?_
    · refine ⟨rfl, 0, by simp, ?_⟩
      all_goals simp only [zs, reduceIte, Nat.reduceEqDiff, Nat.reduceLT, Nat.reduceLeDiff, Nat.reduceAdd, reduceCtorEq, Nat.reduceMul]
      simp [endOf]
    rintro m s σ ⟨rfl, i, hm, e1, l1, e4, e3⟩
    refine AW.seq_k fun K4 h4 => ?_
    refine AW.seq_k fun K5 h5 => ?_
    all_goals refine AW.reg0 ?_
    all_goals iterate 5 (refine S.g rfl rfl fun K' k' => ?_; simp only [zz, reduceIte, Nat.reduceEqDiff, Nat.reduceLT, Nat.reduceLeDiff, Nat.reduceAdd, reduceCtorEq, Nat.reduceMul, of24_0, ok22, sz22, ag22, sl22, el22, ok42, sz42, ag42, e1, l1, e4]; refine k' _ _ ?_; clear k' K')
    all_goals refine S.nil ?_
    all_goals simp only [ze, reduceIte, Nat.reduceEqDiff, Nat.reduceLT, Nat.reduceLeDiff, Nat.reduceAdd, reduceCtorEq, Nat.reduceMul, e1, l1, e4]
    all_goals first | refine h5 _ _ ?_ | refine h4 _ _ ?_ | refine h3 _ _ ?_ | refine h2 _ _ ?_ | refine h1 _ _ ?_
    refine AW.cond (b := decide (i < l.length)) (by simp [ev]) (fun hc => ?_) (fun hc => ?_)
    · have hi := of_decide_eq_true hc
      refine AW.skip ?_
      all_goals simp only [zs, reduceIte, Nat.reduceEqDiff, Nat.reduceLT, Nat.reduceLeDiff, Nat.reduceAdd, reduceCtorEq, Nat.reduceMul]
      all_goals first | refine h5 _ _ ?_ | refine h4 _ _ ?_ | refine h3 _ _ ?_ | refine h2 _ _ ?_ | refine h1 _ _ ?_
      have hg := getD_map (f := encBd) hi
      have htk : l.take (i + 1) = l.take i ++ [l[i]] := by rw [List.take_append_getElem]
      have hnil : (l.take i = []) ↔ (i = 0) := by
        constructor
        · intro h
          have := congrArg List.length h
          rw [List.length_take, List.length_nil] at this; omega
        · rintro rfl; rfl
      generalize ha : l[i] = a at hg htk
      have hw : IntKind.i64.wrap ((i : Int) + 1) = ((i + 1 : Nat) : Int) := by rw [wrap_small _ (by omega) (by omega)]; rfl
      have hsn := end_snoc (l.take i) a
      rw [← htk] at hsn
      simp only [hnil] at hsn
      refine AW.seq_k fun K6 h6 => ?_
      refine AW.block ?_   -- 1
      refine AW.seq_k fun K7 h7 => ?_
      all_goals refine AW.reg0 ?_
      all_goals iterate 8 (refine S.g rfl rfl fun K' k' => ?_; simp only [zz, reduceIte, Nat.reduceEqDiff, Nat.reduceLT, Nat.reduceLeDiff, Nat.reduceAdd, reduceCtorEq, Nat.reduceMul, of24_0, ok22, sz22, ag22, sl22, el22, ok42, sz42, ag42, of42_1, of36_1, ok2, sz2, ag2, e1, l1, e4, hi, hg, encBd]; refine k' _ _ ?_; clear k' K')
      all_goals refine S.nil ?_
      all_goals simp only [ze, reduceIte, Nat.reduceEqDiff, Nat.reduceLT, Nat.reduceLeDiff, Nat.reduceAdd, reduceCtorEq, Nat.reduceMul, e1, l1, e4, hi, hg, encBd]
      all_goals first | refine h7 _ _ ?_ | refine h6 _ _ ?_ | refine h5 _ _ ?_ | refine h4 _ _ ?_ | refine h3 _ _ ?_ | refine h2 _ _ ?_ | refine h1 _ _ ?_
      refine AW.seq_j (fun s' σ => σ = Hp.empty ∧ s'.t 1 = .lp 1 0 ∧ s'.l 1 = some [.sl (l.map encBd)] ∧ s'.t 4 = .c (.int .i64 i) ∧ s'.t 3 = .c (.int .i64 (endOf (l.take i))) ∧ s'.t 5 = .c (.int .i64 a.ev.time) ∧ s'.t 26 = .c (.bool (decide (i = 0 ∨ endOf (l.take i) < a.ev.time)))) ?_ ?_
      · clear hsn htk hnil hg
        generalize endOf (l.take i) = q at *
        all_goals refine AW.reg0 ?_
        all_goals (refine S.g rfl rfl fun K' k' => ?_; simp only [zz, reduceIte, Nat.reduceEqDiff, Nat.reduceAdd, e1, l1, e4, e3]; refine k' _ _ ?_; clear k' K')
        all_goals (refine S.g rfl rfl fun K' k' => ?_; simp only [zz, reduceIte, Nat.reduceEqDiff, Nat.reduceLT, Nat.reduceLeDiff, Nat.reduceAdd, reduceCtorEq, Nat.reduceMul, e1, l1, e4, e3]; refine S.bool fun b a21 => ?_; cases b <;> (try (exfalso; first | exact Bool.noConfusion a21 | (have h := of_decide_eq_true a21; omega) | (have h := of_decide_eq_false a21; omega))) <;> (refine k' _ _ ?_; clear k' K'))
        all_goals (refine S.g rfl rfl fun K' k' => ?_; simp only [zz, reduceIte, Nat.reduceEqDiff, Nat.reduceAdd, e1, l1, e4, e3]; refine k' _ _ ?_; clear k' K')
        all_goals iterate 3 (first | (refine S.y rfl rfl rfl rfl fun K' k' => ?_; simp only [zz, reduceIte, Nat.reduceEqDiff, Nat.reduceAdd, e1, l1, e4, e3]; refine k' _ _ ?_; clear k' K') | ((first | refine S.x rfl rfl rfl rfl fun K' k' => ?_ | refine S.u rfl rfl rfl rfl fun K' k' => ?_); simp only [ze, reduceIte, Nat.reduceEqDiff]; refine k' _ _ ?_; clear k' K'))
        all_goals (refine S.g rfl rfl fun K' k' => ?_; simp only [zz, reduceIte, Nat.reduceEqDiff, Nat.reduceAdd, e1, l1, e4, e3]; refine k' _ _ ?_; clear k' K')
        all_goals refine S.nil ?_
        all_goals simp only [ze, reduceIte, Nat.reduceEqDiff, Nat.reduceLT, Nat.reduceLeDiff, Nat.reduceAdd, reduceCtorEq, Nat.reduceMul, e1, l1, e4, e3]
        all_goals (try simp only [beq_eq_false_iff_ne, decide_eq_true_eq, decide_eq_false_iff_not, beq_iff_eq, ne_eq, Bool.not_eq_true', Bool.not_eq_false', bne_iff_ne, bne_eq_false_iff_eq] at *)
        all_goals (try simp only [V.c.injEq, Value.bool.injEq, Value.int.injEq, true_and])
        all_goals first | done | rfl | omega | ((rw [Bool.eq_iff_iff]; simp only [beq_eq_false_iff_ne, decide_eq_true_eq, decide_eq_false_iff_not, beq_iff_eq, ne_eq, Bool.not_eq_true', Bool.not_eq_false', bne_iff_ne, bne_eq_false_iff_eq, Bool.false_or, Bool.true_or, Bool.or_false, Bool.or_true, Bool.false_and, Bool.and_false, Bool.true_and, Bool.and_true, Bool.not_true, Bool.not_false, Bool.or_eq_false_iff, Bool.and_eq_false_iff, Bool.or_eq_true, Bool.and_eq_true, Bool.false_eq_true, Bool.true_eq_false, true_iff, iff_true, false_iff, iff_false]) <;> omega)
      clear e1 l1 e4 e3
      rintro s σ ⟨rfl, e1, l1, e4, e3, e5, e26⟩
      refine AW.cond (b := _) e26 (fun hx => ?_) (fun hx => ?_)
      · have hx := of_decide_eq_true hx
        all_goals refine AW.reg0 ?_
        all_goals iterate 2 (refine S.g rfl rfl fun K' k' => ?_; simp only [zz, reduceIte, Nat.reduceEqDiff, Nat.reduceAdd, e5]; refine k' _ _ ?_; clear k' K')
        all_goals refine S.nil ?_
        all_goals simp only [ze, reduceIte, Nat.reduceEqDiff, Nat.reduceLT, Nat.reduceLeDiff, Nat.reduceAdd, reduceCtorEq, Nat.reduceMul, e5]
        all_goals first | refine h7 _ _ ?_ | refine h6 _ _ ?_ | refine h5 _ _ ?_ | refine h4 _ _ ?_ | refine h3 _ _ ?_ | refine h2 _ _ ?_ | refine h1 _ _ ?_
        all_goals refine AW.reg0 ?_
        all_goals iterate 3 (refine S.g rfl rfl fun K' k' => ?_; simp only [zz, reduceIte, Nat.reduceEqDiff, Nat.reduceAdd, e4, hw, e1, l1]; refine k' _ _ ?_; clear k' K')
        all_goals refine S.nil ?_
        all_goals simp only [ze, reduceIte, Nat.reduceEqDiff, Nat.reduceLT, Nat.reduceLeDiff, Nat.reduceAdd, reduceCtorEq, Nat.reduceMul, e4, hw, e1, l1]
        refine ⟨m - 1, by omega, i + 1, by omega, rfl, ?_⟩
        rw [hsn]
        by_cases h0 : i = 0
        · rw [if_pos h0]
        · rw [if_neg h0, if_pos (hx.resolve_left h0)]
      · have hx := of_decide_eq_false hx
        refine AW.skip ?_
        all_goals simp only [zs, reduceIte, Nat.reduceEqDiff, Nat.reduceLT, Nat.reduceLeDiff, Nat.reduceAdd, reduceCtorEq, Nat.reduceMul]
        all_goals first | refine h7 _ _ ?_ | refine h6 _ _ ?_ | refine h5 _ _ ?_ | refine h4 _ _ ?_ | refine h3 _ _ ?_ | refine h2 _ _ ?_ | refine h1 _ _ ?_
        all_goals refine AW.reg0 ?_
        all_goals iterate 3 (refine S.g rfl rfl fun K' k' => ?_; simp only [zz, reduceIte, Nat.reduceEqDiff, Nat.reduceAdd, e4, hw, e1, l1, e3]; refine k' _ _ ?_; clear k' K')
        all_goals refine S.nil ?_
        all_goals simp only [ze, reduceIte, Nat.reduceEqDiff, Nat.reduceLT, Nat.reduceLeDiff, Nat.reduceAdd, reduceCtorEq, Nat.reduceMul, e4, hw, e1, l1, e3]
        refine ⟨m - 1, by omega, i + 1, by omega, rfl, ?_⟩
        rw [hsn, if_neg (fun h => hx (.inl h)), if_neg (fun h => hx (.inr h))]
    · have hc := of_decide_eq_false hc
      refine AW.exit ?_
      all_goals simp only [zs, reduceIte, Nat.reduceEqDiff, Nat.reduceLT, Nat.reduceLeDiff, Nat.reduceAdd, reduceCtorEq, Nat.reduceMul]
      rw [List.take_of_length_le (by omega)] at e3
      exact e3
  rintro s σ ⟨rfl, e3⟩
  refine AW.seq_k fun K8 h8 => ?_
  all_goals refine AW.reg0 ?_
  all_goals iterate 2 (refine S.g rfl rfl fun K' k' => ?_; simp only [zz, reduceIte, Nat.reduceEqDiff, Nat.reduceAdd, e3]; refine k' _ _ ?_; clear k' K')
  all_goals refine S.nil ?_
  all_goals simp only [ze, reduceIte, Nat.reduceEqDiff, Nat.reduceLT, Nat.reduceLeDiff, Nat.reduceAdd, reduceCtorEq, Nat.reduceMul, e3]
  all_goals first | refine h8 _ _ ?_ | refine h7 _ _ ?_ | refine h6 _ _ ?_ | refine h5 _ _ ?_ | refine h4 _ _ ?_ | refine h3 _ _ ?_ | refine h2 _ _ ?_ | refine h1 _ _ ?_
  refine AW.ret ?_
  all_goals simp only [zs, reduceIte, Nat.reduceEqDiff, Nat.reduceLT, Nat.reduceLeDiff, Nat.reduceAdd, reduceCtorEq, Nat.reduceMul]

theorem within_spec (l : List Bd) (w : Int) (hn : l.length * 80 ≤ 140737488355328) (ht : ∀ b ∈ l, inI64 b.ev.time) (hw : inI64 w) : PCalls Try.prog 26 [.agg [.sl (l.map encBd)], .c (.int .i64 w)] (fun v => v = .c (.bool (withinB l w))) := by
  have hb := begin_in ht
  have he := end_in ht
  have hle := begin_le_end l
  unfold withinB
  refine PCalls.intro Try.call26 Try.func26 rfl Try.ntmps26 Try.results26 (by simp) ?_
  refine AW.seq_k fun K1 h1 => ?_
  all_goals refine AW.reg0 ?_
  all_goals iterate 2 (refine S.g rfl rfl fun K' k' => ?_; simp only [zz, reduceIte, Nat.reduceEqDiff, Nat.reduceLT, Nat.reduceLeDiff, Nat.reduceAdd, reduceCtorEq, Nat.reduceMul, ok24, sz24, ag24]; refine k' _ _ ?_; clear k' K')
  all_goals refine S.nil ?_
  all_goals simp only [ze, reduceIte, Nat.reduceEqDiff, Nat.reduceLT, Nat.reduceLeDiff, Nat.reduceAdd, reduceCtorEq, Nat.reduceMul]
  all_goals first | refine h1 _ _ ?_
  refine AW.seq_k fun K2 h2 => ?_
  all_goals refine AW.draw (T := { sd := fun d => d == 2 }) (fun _ _ h => by cases h) mixedO [(0, 1), (2, 1), (1, 2), (3, 2), (4, 0), (5, 0)] rfl (by kernel_rfl) (by kernel_rfl) ?_
  all_goals iterate 2 (refine D.g rfl rfl rfl rfl fun K' k' => ?_; simp only [zz, reduceIte, Nat.reduceEqDiff, Nat.reduceLT, Nat.reduceLeDiff, Nat.reduceAdd, reduceCtorEq, Nat.reduceMul, ok24, sz24, ag24]; refine k' _ _ ?_; clear k' K')
  all_goals (refine D.g rfl trivial rfl rfl fun K' k' => ?_; simp only [zz, reduceIte, Nat.reduceEqDiff, Nat.reduceLT, Nat.reduceLeDiff, Nat.reduceAdd, reduceCtorEq, Nat.reduceMul]; refine PCalls.eqto (begin_spec l hn) ?_ <;> (refine k' _ _ ?_; clear k' K'))
  all_goals (refine D.g rfl trivial rfl rfl fun K' k' => ?_; simp only [zz, reduceIte, Nat.reduceEqDiff, Nat.reduceLT, Nat.reduceLeDiff, Nat.reduceAdd, reduceCtorEq, Nat.reduceMul]; refine PCalls.eqto (end_spec l hn) ?_ <;> (refine k' _ _ ?_; clear k' K'))
  all_goals iterate 2 (refine D.g rfl trivial rfl rfl fun K' k' => ?_; simp only [zz, reduceIte, Nat.reduceEqDiff, Nat.reduceAdd]; refine k' _ _ ?_; clear k' K')
  all_goals refine D.nil ?_
  all_goals simp only [ze, reduceIte, Nat.reduceEqDiff, Nat.reduceLT, Nat.reduceLeDiff, Nat.reduceAdd, reduceCtorEq, Nat.reduceMul]
  all_goals first | refine h2 _ _ ?_ | refine h1 _ _ ?_
  generalize beginOf l = a at *
  generalize endOf l = b at *
  unfold inI64 at *
  refine AW.seq_j (fun s σ => σ = Hp.empty ∧ s.t 1 = .c (.int .i64 w) ∧ s.t 5 = .c (.int .i64 a) ∧ s.t 6 = .c (.int .i64 b) ∧ ¬ (a < 0 ∧ b > 9223372036854775807 + a) ) ?_ ?_
  · refine AW.seq_j (fun s σ => σ = Hp.empty ∧ s.t 1 = .c (.int .i64 w) ∧ s.t 5 = .c (.int .i64 a) ∧ s.t 6 = .c (.int .i64 b) ∧ s.t 18 = .c (.bool (decide (a < 0 ∧ b > 9223372036854775807 + a)))) ?_ ?_
    · by_cases h0 : a < 0
      · have hw2 : IntKind.i64.wrap (9223372036854775807 + a) = 9223372036854775807 + a := wrapI _ (by omega) (by omega)
        all_goals refine AW.reg0 ?_
        all_goals (refine S.g rfl rfl fun K' k' => ?_; simp only [zz, reduceIte, Nat.reduceEqDiff, Nat.reduceAdd, hw2]; refine k' _ _ ?_; clear k' K')
        all_goals (refine S.g rfl rfl fun K' k' => ?_; simp only [zz, reduceIte, Nat.reduceEqDiff, Nat.reduceLT, Nat.reduceLeDiff, Nat.reduceAdd, reduceCtorEq, Nat.reduceMul, hw2]; refine S.bool fun b a12 => ?_; cases b <;> (try (exfalso; first | exact Bool.noConfusion a12 | (have h := of_decide_eq_true a12; omega) | (have h := of_decide_eq_false a12; omega))) <;> (refine k' _ _ ?_; clear k' K'))
        all_goals (refine S.g rfl rfl fun K' k' => ?_; simp only [zz, reduceIte, Nat.reduceEqDiff, Nat.reduceAdd, hw2]; refine k' _ _ ?_; clear k' K')
        all_goals iterate 4 (first | (refine S.y rfl rfl rfl rfl fun K' k' => ?_; simp only [zz, reduceIte, Nat.reduceEqDiff, Nat.reduceAdd, hw2]; refine k' _ _ ?_; clear k' K') | ((first | refine S.x rfl rfl rfl rfl fun K' k' => ?_ | refine S.u rfl rfl rfl rfl fun K' k' => ?_); simp only [ze, reduceIte, Nat.reduceEqDiff]; refine k' _ _ ?_; clear k' K'))
        all_goals (refine S.g rfl rfl fun K' k' => ?_; simp only [zz, reduceIte, Nat.reduceEqDiff, Nat.reduceAdd, hw2]; refine k' _ _ ?_; clear k' K')
        all_goals refine S.nil ?_
        all_goals simp only [ze, reduceIte, Nat.reduceEqDiff, Nat.reduceLT, Nat.reduceLeDiff, Nat.reduceAdd, reduceCtorEq, Nat.reduceMul, hw2]
        all_goals (simp [h0])
      · skip
        all_goals refine AW.reg0 ?_
        all_goals (refine S.g rfl rfl fun K' k' => ?_; simp only [zz, reduceIte, Nat.reduceEqDiff, Nat.reduceAdd]; refine k' _ _ ?_; clear k' K')
        all_goals (refine S.g rfl rfl fun K' k' => ?_; simp only [zz, reduceIte, Nat.reduceEqDiff, Nat.reduceLT, Nat.reduceLeDiff, Nat.reduceAdd, reduceCtorEq, Nat.reduceMul]; refine S.bool fun b a12 => ?_; cases b <;> (try (exfalso; first | exact Bool.noConfusion a12 | (have h := of_decide_eq_true a12; omega) | (have h := of_decide_eq_false a12; omega))) <;> (refine k' _ _ ?_; clear k' K'))
        all_goals (refine S.g rfl rfl fun K' k' => ?_; simp only [zz, reduceIte, Nat.reduceEqDiff, Nat.reduceAdd]; refine k' _ _ ?_; clear k' K')
        all_goals iterate 4 (first | (refine S.y rfl rfl rfl rfl fun K' k' => ?_; simp only [zz, reduceIte, Nat.reduceEqDiff, Nat.reduceAdd]; refine k' _ _ ?_; clear k' K') | ((first | refine S.x rfl rfl rfl rfl fun K' k' => ?_ | refine S.u rfl rfl rfl rfl fun K' k' => ?_); simp only [ze, reduceIte, Nat.reduceEqDiff]; refine k' _ _ ?_; clear k' K'))
        all_goals (refine S.g rfl rfl fun K' k' => ?_; simp only [zz, reduceIte, Nat.reduceEqDiff, Nat.reduceAdd]; refine k' _ _ ?_; clear k' K')
        all_goals refine S.nil ?_
        all_goals simp only [ze, reduceIte, Nat.reduceEqDiff, Nat.reduceLT, Nat.reduceLeDiff, Nat.reduceAdd, reduceCtorEq, Nat.reduceMul]
        all_goals (simp [h0])
    rintro s σ ⟨rfl, e1, e5, e6, e18⟩
    refine AW.cond (b := _) e18 (fun hc => ?_) (fun hc => ?_)
    · have hc := of_decide_eq_true hc
      refine AW.seq_k fun K3 h3 => ?_
      all_goals refine AW.reg0 ?_
      all_goals (refine S.g rfl rfl fun K' k' => ?_; simp only [zz, reduceIte, Nat.reduceEqDiff, Nat.reduceAdd]; refine k' _ _ ?_; clear k' K')
      all_goals refine S.nil ?_
      all_goals simp only [ze, reduceIte, Nat.reduceEqDiff, Nat.reduceLT, Nat.reduceLeDiff, Nat.reduceAdd, reduceCtorEq, Nat.reduceMul]
      all_goals first | refine h3 _ _ ?_ | refine h2 _ _ ?_ | refine h1 _ _ ?_
      refine AW.ret ?_
      all_goals simp only [zs, reduceIte, Nat.reduceEqDiff, Nat.reduceLT, Nat.reduceLeDiff, Nat.reduceAdd, reduceCtorEq, Nat.reduceMul]
      have : ¬ (0 ≤ w ∧ b - a ≤ w) := by omega
      rw [decide_eq_false this]
    · have hc := of_decide_eq_false hc
      refine AW.skip ?_
      all_goals simp only [zs, reduceIte, Nat.reduceEqDiff, Nat.reduceLT, Nat.reduceLeDiff, Nat.reduceAdd, reduceCtorEq, Nat.reduceMul]
      exact ⟨e1, e5, e6, hc⟩
  rintro s σ ⟨rfl, e1, e5, e6, hc⟩
  have hw2 : IntKind.i64.wrap (b - a) = b - a := wrapI _ (by omega) (by omega)
  refine AW.seq_k fun K4 h4 => ?_
  all_goals refine AW.reg0 ?_
  all_goals iterate 6 (refine S.g rfl rfl fun K' k' => ?_; simp only [zz, reduceIte, Nat.reduceEqDiff, Nat.reduceAdd, e1, e5, e6, hw2]; refine k' _ _ ?_; clear k' K')
  all_goals refine S.nil ?_
  all_goals simp only [ze, reduceIte, Nat.reduceEqDiff, Nat.reduceLT, Nat.reduceLeDiff, Nat.reduceAdd, reduceCtorEq, Nat.reduceMul, e1, e5, e6, hw2]
  all_goals first | refine h4 _ _ ?_ | refine h3 _ _ ?_ | refine h2 _ _ ?_ | refine h1 _ _ ?_
  refine AW.ret ?_
  all_goals simp only [zs, reduceIte, Nat.reduceEqDiff, Nat.reduceLT, Nat.reduceLeDiff, Nat.reduceAdd, reduceCtorEq, Nat.reduceMul]
  simp only [V.c.injEq, Value.bool.injEq, decide_eq_decide]
  omega

theorem rwithin_spec (l : List Bd) (w : Int) (hl : l.length < 4611686018427387904) (ht : ∀ b ∈ l, inI64 b.ev.time) (hw : inI64 w) : PCalls Try.prog 27 [.agg [.sl (l.map encBd)], .c (.int .i64 w)] (fun v => v = .c (.bool (withinB l w))) := by
  have hb := begin_in ht
  have he := end_in ht
  have hle := begin_le_end l
  unfold withinB
  refine PCalls.intro Try.call27 Try.func27 rfl Try.ntmps27 Try.results27 (by simp) ?_
  refine AW.seq_k fun K1 h1 => ?_
  all_goals refine AW.reg0 ?_
  all_goals iterate 2 (refine S.g rfl rfl fun K' k' => ?_; simp only [zz, reduceIte, Nat.reduceEqDiff, Nat.reduceLT, Nat.reduceLeDiff, Nat.reduceAdd, reduceCtorEq, Nat.reduceMul, ok24, sz24, ag24]; refine k' _ _ ?_; clear k' K')
  all_goals refine S.nil ?_
  all_goals simp only [ze, reduceIte, Nat.reduceEqDiff, Nat.reduceLT, Nat.reduceLeDiff, Nat.reduceAdd, reduceCtorEq, Nat.reduceMul]
  all_goals first | refine h1 _ _ ?_
  refine AW.seq_j (fun s σ => σ = Hp.empty ∧ s.t 4 = .c (.bool (decide (0 ≤ w ∧ endOf l - beginOf l ≤ w)))) ?_ ?_
  · by_cases h0 : 0 ≤ w
    · have hw1 : IntKind.u64.wrap (IntKind.u64.wrap (endOf l) - IntKind.u64.wrap (beginOf l)) = endOf l - beginOf l := by
        generalize beginOf l = a at *
        generalize endOf l = b at *
        unfold inI64 at *
        simp [IntKind.wrap, IntKind.signed, IntKind.bits]; omega
      have hw2 : IntKind.u64.wrap w = w := by
        unfold inI64 at *
        simp [IntKind.wrap, IntKind.signed, IntKind.bits]; omega
      all_goals refine AW.draw (T := { sd := fun d => d == 2 }) (fun _ _ h => by cases h) mixedO [(0, 0), (1, 0), (2, 0), (10, 0), (11, 0), (3, 1), (6, 1), (4, 2), (5, 0), (7, 2), (8, 0), (9, 0), (12, 0), (13, 0), (14, 0)] rfl (by kernel_rfl) (by kernel_rfl) ?_
      all_goals (refine D.g rfl trivial rfl rfl fun K' k' => ?_; simp only [zz, reduceIte, Nat.reduceEqDiff, Nat.reduceAdd, hw1, hw2]; refine k' _ _ ?_; clear k' K')
      all_goals (refine D.g rfl trivial rfl rfl fun K' k' => ?_; simp only [zz, reduceIte, Nat.reduceEqDiff, Nat.reduceLT, Nat.reduceLeDiff, Nat.reduceAdd, reduceCtorEq, Nat.reduceMul, hw1, hw2]; refine S.bool fun b a6 => ?_; cases b <;> (try (exfalso; first | exact Bool.noConfusion a6 | (have h := of_decide_eq_true a6; omega) | (have h := of_decide_eq_false a6; omega))) <;> (refine k' _ _ ?_; clear k' K'))
      all_goals (refine D.g rfl trivial rfl rfl fun K' k' => ?_; simp only [zz, reduceIte, Nat.reduceEqDiff, Nat.reduceAdd, hw1, hw2]; refine k' _ _ ?_; clear k' K')
      all_goals iterate 2 (first | (refine D.y rfl trivial rfl rfl rfl rfl fun K' k' => ?_; simp only [zz, reduceIte, Nat.reduceEqDiff, Nat.reduceAdd, cv2_54, hw1, hw2]; refine k' _ _ ?_; clear k' K') | ((first | refine D.x rfl (fun h => by cases h) rfl rfl rfl rfl fun K' k' => ?_ | refine D.u rfl (fun h => by cases h) rfl rfl rfl rfl fun K' k' => ?_); simp only [ze, reduceIte, Nat.reduceEqDiff]; refine k' _ _ ?_; clear k' K'))
      all_goals iterate 2 (first | (refine D.y rfl rfl rfl rfl rfl rfl fun K' k' => ?_; simp only [zz, reduceIte, Nat.reduceEqDiff, Nat.reduceLT, Nat.reduceLeDiff, Nat.reduceAdd, reduceCtorEq, Nat.reduceMul, ok24, sz24, ag24, hw1, hw2]; refine k' _ _ ?_; clear k' K') | ((first | refine D.x rfl (fun _ => rfl) rfl rfl rfl rfl fun K' k' => ?_ | refine D.u rfl (fun _ => rfl) rfl rfl rfl rfl fun K' k' => ?_); simp only [ze, reduceIte, Nat.reduceEqDiff]; refine k' _ _ ?_; clear k' K'))
      all_goals (first | (refine D.y rfl trivial rfl rfl rfl rfl fun K' k' => ?_; simp only [zz, reduceIte, Nat.reduceEqDiff, Nat.reduceLT, Nat.reduceLeDiff, Nat.reduceAdd, reduceCtorEq, Nat.reduceMul, hw1, hw2]; refine PCalls.eqto (rend_spec l hl) ?_ <;> (refine k' _ _ ?_; clear k' K')) | ((first | refine D.x rfl (fun h => by cases h) rfl rfl rfl rfl fun K' k' => ?_ | refine D.u rfl (fun h => by cases h) rfl rfl rfl rfl fun K' k' => ?_); simp only [ze, reduceIte, Nat.reduceEqDiff]; refine k' _ _ ?_; clear k' K'))
      all_goals (first | (refine D.y rfl trivial rfl rfl rfl rfl fun K' k' => ?_; simp only [zz, reduceIte, Nat.reduceEqDiff, Nat.reduceAdd, cv2_54, hw1, hw2]; refine k' _ _ ?_; clear k' K') | ((first | refine D.x rfl (fun h => by cases h) rfl rfl rfl rfl fun K' k' => ?_ | refine D.u rfl (fun h => by cases h) rfl rfl rfl rfl fun K' k' => ?_); simp only [ze, reduceIte, Nat.reduceEqDiff]; refine k' _ _ ?_; clear k' K'))
      all_goals (first | (refine D.y rfl trivial rfl rfl rfl rfl fun K' k' => ?_; simp only [zz, reduceIte, Nat.reduceEqDiff, Nat.reduceLT, Nat.reduceLeDiff, Nat.reduceAdd, reduceCtorEq, Nat.reduceMul, hw1, hw2]; refine PCalls.eqto (rbegin_spec l hl) ?_ <;> (refine k' _ _ ?_; clear k' K')) | ((first | refine D.x rfl (fun h => by cases h) rfl rfl rfl rfl fun K' k' => ?_ | refine D.u rfl (fun h => by cases h) rfl rfl rfl rfl fun K' k' => ?_); simp only [ze, reduceIte, Nat.reduceEqDiff]; refine k' _ _ ?_; clear k' K'))
      all_goals iterate 3 (first | (refine D.y rfl trivial rfl rfl rfl rfl fun K' k' => ?_; simp only [zz, reduceIte, Nat.reduceEqDiff, Nat.reduceAdd, cv2_54, hw1, hw2]; refine k' _ _ ?_; clear k' K') | ((first | refine D.x rfl (fun h => by cases h) rfl rfl rfl rfl fun K' k' => ?_ | refine D.u rfl (fun h => by cases h) rfl rfl rfl rfl fun K' k' => ?_); simp only [ze, reduceIte, Nat.reduceEqDiff]; refine k' _ _ ?_; clear k' K'))
      all_goals iterate 2 (refine D.g rfl trivial rfl rfl fun K' k' => ?_; simp only [zz, reduceIte, Nat.reduceEqDiff, Nat.reduceAdd, hw1, hw2]; refine k' _ _ ?_; clear k' K')
      all_goals refine D.nil ?_
      all_goals simp only [ze, reduceIte, Nat.reduceEqDiff, Nat.reduceLT, Nat.reduceLeDiff, Nat.reduceAdd, reduceCtorEq, Nat.reduceMul, hw1, hw2]
      all_goals simp [h0]
    · skip
      all_goals refine AW.draw (T := { sd := fun d => d == 2 }) (fun _ _ h => by cases h) mixedO [(0, 0), (1, 0), (2, 0), (10, 0), (11, 0), (3, 1), (6, 1), (4, 2), (5, 0), (7, 2), (8, 0), (9, 0), (12, 0), (13, 0), (14, 0)] rfl (by kernel_rfl) (by kernel_rfl) ?_
      all_goals (refine D.g rfl trivial rfl rfl fun K' k' => ?_; simp only [zz, reduceIte, Nat.reduceEqDiff, Nat.reduceAdd]; refine k' _ _ ?_; clear k' K')
      all_goals (refine D.g rfl trivial rfl rfl fun K' k' => ?_; simp only [zz, reduceIte, Nat.reduceEqDiff, Nat.reduceLT, Nat.reduceLeDiff, Nat.reduceAdd, reduceCtorEq, Nat.reduceMul]; refine S.bool fun b a6 => ?_; cases b <;> (try (exfalso; first | exact Bool.noConfusion a6 | (have h := of_decide_eq_true a6; omega) | (have h := of_decide_eq_false a6; omega))) <;> (refine k' _ _ ?_; clear k' K'))
      all_goals (refine D.g rfl trivial rfl rfl fun K' k' => ?_; simp only [zz, reduceIte, Nat.reduceEqDiff, Nat.reduceAdd]; refine k' _ _ ?_; clear k' K')
      all_goals iterate 2 (first | (refine D.y rfl trivial rfl rfl rfl rfl fun K' k' => ?_; simp only [zz, reduceIte, Nat.reduceEqDiff, Nat.reduceAdd, cv2_54]; refine k' _ _ ?_; clear k' K') | ((first | refine D.x rfl (fun h => by cases h) rfl rfl rfl rfl fun K' k' => ?_ | refine D.u rfl (fun h => by cases h) rfl rfl rfl rfl fun K' k' => ?_); simp only [ze, reduceIte, Nat.reduceEqDiff]; refine k' _ _ ?_; clear k' K'))
      all_goals iterate 2 (first | (refine D.y rfl rfl rfl rfl rfl rfl fun K' k' => ?_; simp only [zz, reduceIte, Nat.reduceEqDiff, Nat.reduceLT, Nat.reduceLeDiff, Nat.reduceAdd, reduceCtorEq, Nat.reduceMul, ok24, sz24, ag24]; refine k' _ _ ?_; clear k' K') | ((first | refine D.x rfl (fun _ => rfl) rfl rfl rfl rfl fun K' k' => ?_ | refine D.u rfl (fun _ => rfl) rfl rfl rfl rfl fun K' k' => ?_); simp only [ze, reduceIte, Nat.reduceEqDiff]; refine k' _ _ ?_; clear k' K'))
      all_goals (first | (refine D.y rfl trivial rfl rfl rfl rfl fun K' k' => ?_; simp only [zz, reduceIte, Nat.reduceEqDiff, Nat.reduceLT, Nat.reduceLeDiff, Nat.reduceAdd, reduceCtorEq, Nat.reduceMul]; refine PCalls.eqto (rend_spec l hl) ?_ <;> (refine k' _ _ ?_; clear k' K')) | ((first | refine D.x rfl (fun h => by cases h) rfl rfl rfl rfl fun K' k' => ?_ | refine D.u rfl (fun h => by cases h) rfl rfl rfl rfl fun K' k' => ?_); simp only [ze, reduceIte, Nat.reduceEqDiff]; refine k' _ _ ?_; clear k' K'))
      all_goals (first | (refine D.y rfl trivial rfl rfl rfl rfl fun K' k' => ?_; simp only [zz, reduceIte, Nat.reduceEqDiff, Nat.reduceAdd, cv2_54]; refine k' _ _ ?_; clear k' K') | ((first | refine D.x rfl (fun h => by cases h) rfl rfl rfl rfl fun K' k' => ?_ | refine D.u rfl (fun h => by cases h) rfl rfl rfl rfl fun K' k' => ?_); simp only [ze, reduceIte, Nat.reduceEqDiff]; refine k' _ _ ?_; clear k' K'))
      all_goals (first | (refine D.y rfl trivial rfl rfl rfl rfl fun K' k' => ?_; simp only [zz, reduceIte, Nat.reduceEqDiff, Nat.reduceLT, Nat.reduceLeDiff, Nat.reduceAdd, reduceCtorEq, Nat.reduceMul]; refine PCalls.eqto (rbegin_spec l hl) ?_ <;> (refine k' _ _ ?_; clear k' K')) | ((first | refine D.x rfl (fun h => by cases h) rfl rfl rfl rfl fun K' k' => ?_ | refine D.u rfl (fun h => by cases h) rfl rfl rfl rfl fun K' k' => ?_); simp only [ze, reduceIte, Nat.reduceEqDiff]; refine k' _ _ ?_; clear k' K'))
      all_goals iterate 3 (first | (refine D.y rfl trivial rfl rfl rfl rfl fun K' k' => ?_; simp only [zz, reduceIte, Nat.reduceEqDiff, Nat.reduceAdd, cv2_54]; refine k' _ _ ?_; clear k' K') | ((first | refine D.x rfl (fun h => by cases h) rfl rfl rfl rfl fun K' k' => ?_ | refine D.u rfl (fun h => by cases h) rfl rfl rfl rfl fun K' k' => ?_); simp only [ze, reduceIte, Nat.reduceEqDiff]; refine k' _ _ ?_; clear k' K'))
      all_goals iterate 2 (refine D.g rfl trivial rfl rfl fun K' k' => ?_; simp only [zz, reduceIte, Nat.reduceEqDiff, Nat.reduceAdd]; refine k' _ _ ?_; clear k' K')
      all_goals refine D.nil ?_
      all_goals simp only [ze, reduceIte, Nat.reduceEqDiff, Nat.reduceLT, Nat.reduceLeDiff, Nat.reduceAdd, reduceCtorEq, Nat.reduceMul]
      all_goals simp [h0]
  rintro s σ ⟨rfl, e4⟩
  refine AW.ret ?_
  all_goals simp only [zs, reduceIte, Nat.reduceEqDiff, Nat.reduceLT, Nat.reduceLeDiff, Nat.reduceAdd, reduceCtorEq, Nat.reduceMul, e4]
end Go.Abs.M
namespace Go.Abs.M
open Go Go.Abs Go.Proofs
set_option maxRecDepth 20000
set_option linter.unusedSimpArgs false
set_option linter.unusedVariables false

def ptrV (g : Nat) : V := .c (.pointer (some ⟨g, 0, none⟩))
theorem get_fn (b : Bd) (nm : ByteArray) (g : Nat) (σ : Hp) (hg : σ.obj g = some [.c (.string nm)]) : ACalls Try.prog 74 [.agg (encBd b), ptrV g] σ (fun v σ' => σ' = σ ∧ v = .c (.bool (b.var.toList == nm.toList))) := by
  refine ACalls.intro Try.call74 Try.func74 rfl Try.ntmps74 Try.results74 (by simp) ?_
  refine AW.seq_k fun K1 h1 => ?_
  all_goals refine AW.reg0 ?_
  all_goals iterate 2 (refine S.g rfl rfl fun K' k' => ?_; simp only [zz, reduceIte, Nat.reduceEqDiff, Nat.reduceLT, Nat.reduceLeDiff, Nat.reduceAdd, reduceCtorEq, Nat.reduceMul, ok42, sz42, ag42, encBd, ptrV]; refine k' _ _ ?_; clear k' K')
  all_goals refine S.nil ?_
  all_goals simp only [ze, reduceIte, Nat.reduceEqDiff, Nat.reduceLT, Nat.reduceLeDiff, Nat.reduceAdd, reduceCtorEq, Nat.reduceMul, encBd, ptrV]
  all_goals first | refine h1 _ _ ?_
  refine AW.seq_k fun K2 h2 => ?_
  all_goals refine AW.reg0 ?_
  all_goals iterate 5 (refine S.g rfl rfl fun K' k' => ?_; simp only [zz, reduceIte, Nat.reduceEqDiff, Nat.reduceLT, Nat.reduceLeDiff, Nat.reduceAdd, reduceCtorEq, Nat.reduceMul, of42_0, ok9, sz9, ag9, hg, isMap]; refine k' _ _ ?_; clear k' K')
  all_goals refine S.nil ?_
  all_goals simp only [ze, reduceIte, Nat.reduceEqDiff, Nat.reduceLT, Nat.reduceLeDiff, Nat.reduceAdd, reduceCtorEq, Nat.reduceMul, hg, isMap]
  all_goals first | refine h2 _ _ ?_ | refine h1 _ _ ?_
  refine AW.ret ?_
  all_goals simp only [zs, reduceIte, Nat.reduceEqDiff, Nat.reduceLT, Nat.reduceLeDiff, Nat.reduceAdd, reduceCtorEq, Nat.reduceMul]

def idx (nm : ByteArray) : Nat → List Bd → Int
  | _, [] => -1
  | i, b :: l => if (b.var.toList == nm.toList) = true then (i : Int) else idx nm (i + 1) l
def noEv : Ev := ⟨0, 0, 0, ⟨#[]⟩, []⟩
def getR (nm : ByteArray) : List Bd → Ev × Bool
  | [] => (noEv, false)
  | b :: l => if (b.var.toList == nm.toList) = true then (b.ev, true) else getR nm l
theorem idx_cases (nm : ByteArray) : ∀ (l : List Bd) (i : Nat), (idx nm i l = -1 ∧ getR nm l = (noEv, false)) ∨ ∃ k b, idx nm i l = ((i + k : Nat) : Int) ∧ l[k]? = some b ∧ getR nm l = (b.ev, true) := by
  intro l
  induction l with
  | nil => intro i; exact .inl ⟨rfl, rfl⟩
  | cons b l ih =>
    intro i
    simp only [idx, getR]
    by_cases h : (b.var.toList == nm.toList) = true
    · exact .inr ⟨0, b, by rw [if_pos h]; rfl, rfl, by rw [if_pos h]⟩
    · rw [if_neg h, if_neg h]
      rcases ih (i + 1) with h1 | ⟨k, b', h1, h2, h3⟩
      · exact .inl h1
      · exact .inr ⟨k + 1, b', by rw [h1]; congr 1; omega, by simpa using h2, h3⟩
theorem index_fn (l : List Bd) (nm : ByteArray) (g : Nat) (σ0 : Hp) (hg : σ0.obj g = some [.c (.string nm)]) (hl : l.length < 4611686018427387904) : ACalls Try.prog 73 [.sl (l.map encBd), .fn (.func 74) [] [ptrV g]] σ0 (fun v σ' => σ' = σ0 ∧ v = .c (.int .i64 (idx nm 0 l))) := by
  refine ACalls.intro Try.call73 Try.func73 rfl Try.ntmps73 Try.results73 (by simp) ?_
  refine AW.seq_k fun K1 h1 => ?_
  all_goals refine AW.reg0 ?_
  all_goals (refine S.g rfl rfl fun K' k' => ?_; simp only [zz, reduceIte, Nat.reduceEqDiff, Nat.reduceAdd]; refine k' _ _ ?_; clear k' K')
  all_goals refine S.nil ?_
  all_goals simp only [ze, reduceIte, Nat.reduceEqDiff, Nat.reduceLT, Nat.reduceLeDiff, Nat.reduceAdd, reduceCtorEq, Nat.reduceMul]
  all_goals first | refine h1 _ _ ?_
  refine AW.seq_k fun K2 h2 => ?_
  refine AW.seq_k fun K3 h3 => ?_
  all_goals refine AW.reg0 ?_
  all_goals iterate 3 (refine S.g rfl rfl fun K' k' => ?_; simp only [zz, reduceIte, Nat.reduceEqDiff, Nat.reduceLT, Nat.reduceLeDiff, Nat.reduceAdd, reduceCtorEq, Nat.reduceMul, sl22, el22, ok42, sz42, ag42]; refine k' _ _ ?_; clear k' K')
  all_goals refine S.nil ?_
  all_goals simp only [ze, reduceIte, Nat.reduceEqDiff, Nat.reduceLT, Nat.reduceLeDiff, Nat.reduceAdd, reduceCtorEq, Nat.reduceMul]
  all_goals first | refine h3 _ _ ?_ | refine h2 _ _ ?_ | refine h1 _ _ ?_
  refine AW.block ?_   -- 0
  refine AW.loop (fun m s σ => σ = σ0 ∧ ∃ i : Nat, m + i = l.length ∧ s.t 0 = .sl (l.map encBd) ∧ s.t 1 = .fn (.func 74) [] [ptrV g] ∧ s.t 7 = .c (.int .i64 l.length) ∧ s.t 8 = .c (.int .i64 i) ∧ idx nm 0 l = idx nm i (l.drop i)) l.length ?_ ?_
  · refine ⟨rfl, 0, by simp, ?_⟩
    all_goals simp only [zs, reduceIte, Nat.reduceEqDiff, Nat.reduceLT, Nat.reduceLeDiff, Nat.reduceAdd, reduceCtorEq, Nat.reduceMul]
    simp
  rintro m s σ ⟨rfl, i, hm, e0, e1, e7, e8, hp⟩
  refine AW.seq_k fun K4 h4 => ?_
  all_goals refine AW.reg0 ?_
  all_goals (refine S.g rfl rfl fun K' k' => ?_; simp only [zz, reduceIte, Nat.reduceEqDiff, Nat.reduceAdd, e7, e8]; refine k' _ _ ?_; clear k' K')
  all_goals refine S.nil ?_
  all_goals simp only [ze, reduceIte, Nat.reduceEqDiff, Nat.reduceLT, Nat.reduceLeDiff, Nat.reduceAdd, reduceCtorEq, Nat.reduceMul, e7, e8]
  all_goals first | refine h4 _ _ ?_ | refine h3 _ _ ?_ | refine h2 _ _ ?_ | refine h1 _ _ ?_
  refine AW.seq_k fun K5 h5 => ?_
  refine AW.cond (b := decide (i < l.length)) (by simp [ev]) (fun hc => ?_) (fun hc => ?_)
  · have hi := of_decide_eq_true hc
    have hgt := getD_map (f := encBd) hi
    have hd : l.drop i = l[i] :: l.drop (i + 1) := List.drop_eq_getElem_cons hi
    generalize ha : l[i] = a at hgt hd
    have hw : IntKind.i64.wrap ((i : Int) + 1) = ((i + 1 : Nat) : Int) := by rw [wrap_small _ (by omega) (by omega)]; rfl
    rw [hd, idx] at hp
    refine AW.skip ?_
    all_goals simp only [zs, reduceIte, Nat.reduceEqDiff, Nat.reduceLT, Nat.reduceLeDiff, Nat.reduceAdd, reduceCtorEq, Nat.reduceMul]
    all_goals first | refine h5 _ _ ?_ | refine h4 _ _ ?_ | refine h3 _ _ ?_ | refine h2 _ _ ?_ | refine h1 _ _ ?_
    refine AW.seq_k fun K6 h6 => ?_
    refine AW.block ?_   -- 1
    refine AW.seq_k fun K7 h7 => ?_
    all_goals refine AW.reg0 ?_
    all_goals iterate 2 (refine S.g rfl rfl fun K' k' => ?_; simp only [zz, reduceIte, Nat.reduceEqDiff, Nat.reduceAdd, e8]; refine k' _ _ ?_; clear k' K')
    all_goals refine S.nil ?_
    all_goals simp only [ze, reduceIte, Nat.reduceEqDiff, Nat.reduceLT, Nat.reduceLeDiff, Nat.reduceAdd, reduceCtorEq, Nat.reduceMul, e8]
    all_goals first | refine h7 _ _ ?_ | refine h6 _ _ ?_ | refine h5 _ _ ?_ | refine h4 _ _ ?_ | refine h3 _ _ ?_ | refine h2 _ _ ?_ | refine h1 _ _ ?_
    refine AW.seq_k fun K8 h8 => ?_
    all_goals refine AW.reg0 ?_
    all_goals iterate 5 (refine S.g rfl rfl fun K' k' => ?_; simp only [zz, reduceIte, Nat.reduceEqDiff, Nat.reduceLT, Nat.reduceLeDiff, Nat.reduceAdd, reduceCtorEq, Nat.reduceMul, sl22, el22, ok42, sz42, ag42, e0, e1, hi, hgt, encBd, ptrV]; refine k' _ _ ?_; clear k' K')
    all_goals (refine S.g rfl rfl fun K' k' => ?_; simp only [zz, reduceIte, Nat.reduceEqDiff, Nat.reduceLT, Nat.reduceLeDiff, Nat.reduceAdd, reduceCtorEq, Nat.reduceMul, e0, e1, hi, hgt, encBd, ptrV]; refine (get_fn a nm g _ hg).to fun v σ1 hv => ?_; obtain ⟨rfl, rfl⟩ := hv <;> (refine k' _ _ ?_; clear k' K'))
    all_goals refine S.nil ?_
    all_goals simp only [ze, reduceIte, Nat.reduceEqDiff, Nat.reduceLT, Nat.reduceLeDiff, Nat.reduceAdd, reduceCtorEq, Nat.reduceMul, e0, e1, hi, hgt, encBd, ptrV]
    all_goals first | refine h8 _ _ ?_ | refine h7 _ _ ?_ | refine h6 _ _ ?_ | refine h5 _ _ ?_ | refine h4 _ _ ?_ | refine h3 _ _ ?_ | refine h2 _ _ ?_ | refine h1 _ _ ?_
    refine AW.cond (b := (a.var.toList == nm.toList)) (by simp [ev]) (fun hx => ?_) (fun hx => ?_)
    · refine AW.seq_k fun K9 h9 => ?_
      all_goals refine AW.reg0 ?_
      all_goals iterate 2 (refine S.g rfl rfl fun K' k' => ?_; simp only [zz, reduceIte, Nat.reduceEqDiff, Nat.reduceAdd]; refine k' _ _ ?_; clear k' K')
      all_goals refine S.nil ?_
      all_goals simp only [ze, reduceIte, Nat.reduceEqDiff, Nat.reduceLT, Nat.reduceLeDiff, Nat.reduceAdd, reduceCtorEq, Nat.reduceMul]
      all_goals first | refine h9 _ _ ?_ | refine h8 _ _ ?_ | refine h7 _ _ ?_ | refine h6 _ _ ?_ | refine h5 _ _ ?_ | refine h4 _ _ ?_ | refine h3 _ _ ?_ | refine h2 _ _ ?_ | refine h1 _ _ ?_
      refine AW.ret ?_
      all_goals simp only [zs, reduceIte, Nat.reduceEqDiff, Nat.reduceLT, Nat.reduceLeDiff, Nat.reduceAdd, reduceCtorEq, Nat.reduceMul]
      rw [hp, if_pos hx]
    · rw [if_neg (by rw [hx]; simp)] at hp
      refine AW.skip ?_
      all_goals simp only [zs, reduceIte, Nat.reduceEqDiff, Nat.reduceLT, Nat.reduceLeDiff, Nat.reduceAdd, reduceCtorEq, Nat.reduceMul]
      all_goals first | refine h9 _ _ ?_ | refine h8 _ _ ?_ | refine h7 _ _ ?_ | refine h6 _ _ ?_ | refine h5 _ _ ?_ | refine h4 _ _ ?_ | refine h3 _ _ ?_ | refine h2 _ _ ?_ | refine h1 _ _ ?_
      all_goals refine AW.reg0 ?_
      all_goals iterate 2 (refine S.g rfl rfl fun K' k' => ?_; simp only [zz, reduceIte, Nat.reduceEqDiff, Nat.reduceAdd, e8, hw]; refine k' _ _ ?_; clear k' K')
      all_goals refine S.nil ?_
      all_goals simp only [ze, reduceIte, Nat.reduceEqDiff, Nat.reduceLT, Nat.reduceLeDiff, Nat.reduceAdd, reduceCtorEq, Nat.reduceMul, e8, hw]
      exact ⟨m - 1, by omega, i + 1, by omega, e0, e1, e7, rfl, hp⟩
  · have hc := of_decide_eq_false hc
    refine AW.exit ?_
    all_goals simp only [zs, reduceIte, Nat.reduceEqDiff, Nat.reduceLT, Nat.reduceLeDiff, Nat.reduceAdd, reduceCtorEq, Nat.reduceMul]
    all_goals first | refine h9 _ _ ?_ | refine h8 _ _ ?_ | refine h7 _ _ ?_ | refine h6 _ _ ?_ | refine h5 _ _ ?_ | refine h4 _ _ ?_ | refine h3 _ _ ?_ | refine h2 _ _ ?_ | refine h1 _ _ ?_
    refine AW.seq_k fun K10 h10 => ?_
    all_goals refine AW.reg0 ?_
    all_goals (refine S.g rfl rfl fun K' k' => ?_; simp only [zz, reduceIte, Nat.reduceEqDiff, Nat.reduceAdd]; refine k' _ _ ?_; clear k' K')
    all_goals refine S.nil ?_
    all_goals simp only [ze, reduceIte, Nat.reduceEqDiff, Nat.reduceLT, Nat.reduceLeDiff, Nat.reduceAdd, reduceCtorEq, Nat.reduceMul]
    all_goals first | refine h10 _ _ ?_ | refine h9 _ _ ?_ | refine h8 _ _ ?_ | refine h7 _ _ ?_ | refine h6 _ _ ?_ | refine h5 _ _ ?_ | refine h4 _ _ ?_ | refine h3 _ _ ?_ | refine h2 _ _ ?_ | refine h1 _ _ ?_
    refine AW.ret ?_
    all_goals simp only [zs, reduceIte, Nat.reduceEqDiff, Nat.reduceLT, Nat.reduceLeDiff, Nat.reduceAdd, reduceCtorEq, Nat.reduceMul]
    rw [hp, List.drop_of_length_le (by omega)]; rfl
end Go.Abs.M
namespace Go.Abs.M
open Go Go.Abs Go.Proofs
set_option maxRecDepth 20000
set_option linter.unusedSimpArgs false
set_option linter.unusedVariables false

def getV (p : Ev × Bool) : V := .tup [.agg (encEv p.1), .c (.bool p.2)]
theorem get_spec (l : List Bd) (nm : ByteArray) (hl : l.length < 4611686018427387904) (ha : ∀ x ∈ l, x.ev.attrs.length * 48 ≤ 140737488355328) : PCalls Try.prog 17 [.agg [.sl (l.map encBd)], .c (.string nm)] (fun v => v = getV (getR nm l)) := by
  refine PCalls.intro Try.call17 Try.func17 rfl Try.ntmps17 Try.results17 (by simp) ?_
  refine AW.seq_k fun K1 h1 => ?_
  all_goals refine AW.region (T := { hp := fun d => d == 3 }) (fun _ _ h => by cases h) rfl ?_
  all_goals (refine S.g rfl rfl fun K' k' => ?_; simp only [zz, reduceIte, Nat.reduceEqDiff, Nat.reduceLT, Nat.reduceLeDiff, Nat.reduceAdd, reduceCtorEq, Nat.reduceMul, ok24, sz24, ag24]; refine k' _ _ ?_; clear k' K')
  all_goals (refine S.g rfl rfl fun K' k' => ?_; simp only [zz, reduceIte, Nat.reduceEqDiff, Nat.reduceLT, Nat.reduceLeDiff, Nat.reduceAdd, reduceCtorEq, Nat.reduceMul, ok9, sz9, ag9]; intro g hg0 <;> (refine k' _ _ ?_; clear k' K'))
  all_goals iterate 2 (refine S.g rfl rfl fun K' k' => ?_; simp only [zz, reduceIte, Nat.reduceEqDiff, Nat.reduceLT, Nat.reduceLeDiff, Nat.reduceAdd, reduceCtorEq, Nat.reduceMul, zt36]; refine k' _ _ ?_; clear k' K')
  all_goals refine S.nil ?_
  all_goals simp only [ze, reduceIte, Nat.reduceEqDiff, Nat.reduceLT, Nat.reduceLeDiff, Nat.reduceAdd, reduceCtorEq, Nat.reduceMul]
  all_goals first | refine h1 _ _ ?_
  refine AW.seq_k fun K2 h2 => ?_
  all_goals refine AW.reg0 ?_
  all_goals iterate 3 (refine S.g rfl rfl fun K' k' => ?_; simp only [zz, reduceIte, Nat.reduceEqDiff, Nat.reduceLT, Nat.reduceLeDiff, Nat.reduceAdd, reduceCtorEq, Nat.reduceMul, of24_0, ok22, sz22, ag22, ptrV]; refine k' _ _ ?_; clear k' K')
  all_goals (refine S.g rfl rfl fun K' k' => ?_; simp only [zz, reduceIte, Nat.reduceEqDiff, Nat.reduceLT, Nat.reduceLeDiff, Nat.reduceAdd, reduceCtorEq, Nat.reduceMul, ptrV]; refine (index_fn l nm g _ (by simp) hl).to fun v σ1 hv => ?_; obtain ⟨rfl, rfl⟩ := hv <;> (refine k' _ _ ?_; clear k' K'))
  all_goals (refine S.g rfl rfl fun K' k' => ?_; simp only [zz, reduceIte, Nat.reduceEqDiff, Nat.reduceAdd, ptrV]; refine k' _ _ ?_; clear k' K')
  all_goals refine S.nil ?_
  all_goals simp only [ze, reduceIte, Nat.reduceEqDiff, Nat.reduceLT, Nat.reduceLeDiff, Nat.reduceAdd, reduceCtorEq, Nat.reduceMul, ptrV]
  all_goals first | refine h2 _ _ ?_ | refine h1 _ _ ?_
  refine AW.seq_k fun K3 h3 => ?_
  refine AW.seq_k fun K4 h4 => ?_
  all_goals refine AW.reg0 ?_
  all_goals iterate 2 (refine S.g rfl rfl fun K' k' => ?_; simp only [zz, reduceIte, Nat.reduceEqDiff, Nat.reduceAdd]; refine k' _ _ ?_; clear k' K')
  all_goals refine S.nil ?_
  all_goals simp only [ze, reduceIte, Nat.reduceEqDiff, Nat.reduceLT, Nat.reduceLeDiff, Nat.reduceAdd, reduceCtorEq, Nat.reduceMul]
  all_goals first | refine h4 _ _ ?_ | refine h3 _ _ ?_ | refine h2 _ _ ?_ | refine h1 _ _ ?_
  refine AW.cond (b := decide (idx nm 0 l < 0)) (by simp [ev]) (fun hc => ?_) (fun hc => ?_)
  · have hc := of_decide_eq_true hc
    refine AW.seq_k fun K5 h5 => ?_
    all_goals refine AW.reg0 ?_
    all_goals (refine S.g rfl rfl fun K' k' => ?_; simp only [zz, reduceIte, Nat.reduceEqDiff, Nat.reduceLT, Nat.reduceLeDiff, Nat.reduceAdd, reduceCtorEq, Nat.reduceMul, zt36, pl36]; refine k' _ _ ?_; clear k' K')
    all_goals iterate 2 (refine S.g rfl rfl fun K' k' => ?_; simp only [zz, reduceIte, Nat.reduceEqDiff, Nat.reduceLT, Nat.reduceLeDiff, Nat.reduceAdd, reduceCtorEq, Nat.reduceMul, ok36, sz36, ag36]; refine k' _ _ ?_; clear k' K')
    all_goals refine S.nil ?_
    all_goals simp only [ze, reduceIte, Nat.reduceEqDiff, Nat.reduceLT, Nat.reduceLeDiff, Nat.reduceAdd, reduceCtorEq, Nat.reduceMul]
    all_goals first | refine h5 _ _ ?_ | refine h4 _ _ ?_ | refine h3 _ _ ?_ | refine h2 _ _ ?_ | refine h1 _ _ ?_
    refine AW.bare (AW.ret ?_)
    all_goals simp only [zs, reduceIte, Nat.reduceEqDiff, Nat.reduceLT, Nat.reduceLeDiff, Nat.reduceAdd, reduceCtorEq, Nat.reduceMul, qLoad, ok36, sz36, ag36, cut, List.drop_zero, List.take_succ_cons, List.take_zero, List.map]
    rcases idx_cases nm l 0 with ⟨_, h2⟩ | ⟨k, b, h1, _⟩
    · rw [h2]; rfl
    · rw [h1] at hc; omega
  · have hc := of_decide_eq_false hc
    rcases idx_cases nm l 0 with ⟨g1, _⟩ | ⟨k, b, g1, g2, g3⟩
    · rw [g1] at hc; omega
    rw [g1, Nat.zero_add]
    have hi : k < l.length := (List.getElem?_eq_some_iff.1 g2).1
    have hgx : (l.map encBd).getD k [] = encBd b := by rw [getD_map hi, (List.getElem?_eq_some_iff.1 g2).2]
    have hat := ha b (List.mem_of_getElem? g2)
    refine AW.skip ?_
    all_goals simp only [zs, reduceIte, Nat.reduceEqDiff, Nat.reduceLT, Nat.reduceLeDiff, Nat.reduceAdd, reduceCtorEq, Nat.reduceMul]
    all_goals first | refine h5 _ _ ?_ | refine h4 _ _ ?_ | refine h3 _ _ ?_ | refine h2 _ _ ?_ | refine h1 _ _ ?_
    refine AW.seq_k fun K6 h6 => ?_
    all_goals refine AW.reg0 ?_
    all_goals iterate 6 (refine S.g rfl rfl fun K' k' => ?_; simp only [zz, reduceIte, Nat.reduceEqDiff, Nat.reduceLT, Nat.reduceLeDiff, Nat.reduceAdd, reduceCtorEq, Nat.reduceMul, of24_0, ok22, sz22, ag22, sl22, el22, ok42, sz42, ag42, of42_1, ok36, sz36, ag36, hi, hgx, encBd, encEv]; refine k' _ _ ?_; clear k' K')
    all_goals (refine S.g rfl rfl fun K' k' => ?_; simp only [zz, reduceIte, Nat.reduceEqDiff, Nat.reduceLT, Nat.reduceLeDiff, Nat.reduceAdd, reduceCtorEq, Nat.reduceMul, hi, hgx, encBd, encEv]; refine ((clone_ev b.ev hat).at _).to fun v σ1 hv => ?_; obtain ⟨rfl, rfl⟩ := hv <;> (refine k' _ _ ?_; clear k' K'))
    all_goals iterate 2 (refine S.g rfl rfl fun K' k' => ?_; simp only [zz, reduceIte, Nat.reduceEqDiff, Nat.reduceLT, Nat.reduceLeDiff, Nat.reduceAdd, reduceCtorEq, Nat.reduceMul, ok36, sz36, ag36, hi, hgx, encBd, encEv]; refine k' _ _ ?_; clear k' K')
    all_goals refine S.nil ?_
    all_goals simp only [ze, reduceIte, Nat.reduceEqDiff, Nat.reduceLT, Nat.reduceLeDiff, Nat.reduceAdd, reduceCtorEq, Nat.reduceMul, hi, hgx, encBd, encEv]
    all_goals first | refine h6 _ _ ?_ | refine h5 _ _ ?_ | refine h4 _ _ ?_ | refine h3 _ _ ?_ | refine h2 _ _ ?_ | refine h1 _ _ ?_
    refine AW.bare (AW.ret ?_)
    all_goals simp only [zs, reduceIte, Nat.reduceEqDiff, Nat.reduceLT, Nat.reduceLeDiff, Nat.reduceAdd, reduceCtorEq, Nat.reduceMul, qLoad, ok36, sz36, ag36, cut, List.drop_zero, List.take_succ_cons, List.take_zero, List.map, encEv]
    rw [g3]; rfl

theorem rget_spec (l : List Bd) (nm : ByteArray) (hl : l.length < 4611686018427387904) : PCalls Try.prog 18 [.agg [.sl (l.map encBd)], .c (.string nm)] (fun v => v = getV (getR nm l)) := by
  refine PCalls.intro Try.call18 Try.func18 rfl Try.ntmps18 Try.results18 (by simp) ?_
  refine AW.seq_k fun K1 h1 => ?_
  all_goals refine AW.reg0 ?_
  all_goals iterate 3 (refine S.g rfl rfl fun K' k' => ?_; simp only [zz, reduceIte, Nat.reduceEqDiff, Nat.reduceLT, Nat.reduceLeDiff, Nat.reduceAdd, reduceCtorEq, Nat.reduceMul, ok24, sz24, ag24, zt36]; refine k' _ _ ?_; clear k' K')
  all_goals refine S.nil ?_
  all_goals simp only [ze, reduceIte, Nat.reduceEqDiff, Nat.reduceLT, Nat.reduceLeDiff, Nat.reduceAdd, reduceCtorEq, Nat.reduceMul]
  all_goals first | refine h1 _ _ ?_
  refine AW.seq_j (fun s σ => σ = Hp.empty ∧ s.t 4 = .lp 4 0 ∧ s.l 4 = some [.c (.int .i64 0), .c (.int .i64 0), .c (.int .i64 0), .c (.string ⟨#[]⟩), .c (.slice none 0 0)] ∧ getR nm l = (noEv, false)) ?_ ?_
  · refine AW.seq_k fun K2 h2 => ?_
    all_goals refine AW.reg0 ?_
    all_goals (refine S.g rfl rfl fun K' k' => ?_; simp only [zz, reduceIte, Nat.reduceEqDiff, Nat.reduceAdd]; refine k' _ _ ?_; clear k' K')
    all_goals refine S.nil ?_
    all_goals simp only [ze, reduceIte, Nat.reduceEqDiff, Nat.reduceLT, Nat.reduceLeDiff, Nat.reduceAdd, reduceCtorEq, Nat.reduceMul]
    all_goals first | refine h2 _ _ ?_ | refine h1 _ _ ?_
    refine AW.block ?_   -- 0
    refine AW.loop (fun m s σ => σ = Hp.empty ∧ ∃ i : Nat, m + i = l.length ∧ s.t 1 = .c (.string nm) ∧ s.t 2 = .lp 2 0 ∧ s.l 2 = some [.sl (l.map encBd)] ∧ s.t 4 = .lp 4 0 ∧ s.l 4 = some [.c (.int .i64 0), .c (.int .i64 0), .c (.int .i64 0), .c (.string ⟨#[]⟩), .c (.slice none 0 0)] ∧ s.t 6 = .c (.int .i64 i) ∧ getR nm l = getR nm (l.drop i)) l.length ?_ ?_
    · refine ⟨rfl, 0, by simp, ?_⟩
      all_goals simp only [zs, reduceIte, Nat.reduceEqDiff, Nat.reduceLT, Nat.reduceLeDiff, Nat.reduceAdd, reduceCtorEq, Nat.reduceMul]
      simp
    rintro m s σ ⟨rfl, i, hm, e1, e2, l2, e4, l4, e6, hp⟩
    refine AW.seq_k fun K3 h3 => ?_
    refine AW.seq_k fun K4 h4 => ?_
    all_goals refine AW.reg0 ?_
    all_goals iterate 5 (refine S.g rfl rfl fun K' k' => ?_; simp only [zz, reduceIte, Nat.reduceEqDiff, Nat.reduceLT, Nat.reduceLeDiff, Nat.reduceAdd, reduceCtorEq, Nat.reduceMul, of24_0, ok22, sz22, ag22, sl22, el22, ok42, sz42, ag42, e2, l2, e6]; refine k' _ _ ?_; clear k' K')
    all_goals refine S.nil ?_
    all_goals simp only [ze, reduceIte, Nat.reduceEqDiff, Nat.reduceLT, Nat.reduceLeDiff, Nat.reduceAdd, reduceCtorEq, Nat.reduceMul, e2, l2, e6]
    all_goals first | refine h4 _ _ ?_ | refine h3 _ _ ?_ | refine h2 _ _ ?_ | refine h1 _ _ ?_
    refine AW.cond (b := decide (i < l.length)) (by simp [ev]) (fun hc => ?_) (fun hc => ?_)
    · have hi := of_decide_eq_true hc
      have hgt := getD_map (f := encBd) hi
      have hd : l.drop i = l[i] :: l.drop (i + 1) := List.drop_eq_getElem_cons hi
      generalize ha : l[i] = a at hgt hd
      have hw : IntKind.i64.wrap ((i : Int) + 1) = ((i + 1 : Nat) : Int) := by rw [wrap_small _ (by omega) (by omega)]; rfl
      rw [hd, getR] at hp
      refine AW.skip ?_
      all_goals simp only [zs, reduceIte, Nat.reduceEqDiff, Nat.reduceLT, Nat.reduceLeDiff, Nat.reduceAdd, reduceCtorEq, Nat.reduceMul]
      all_goals first | refine h4 _ _ ?_ | refine h3 _ _ ?_ | refine h2 _ _ ?_ | refine h1 _ _ ?_
      refine AW.seq_k fun K5 h5 => ?_
      refine AW.block ?_   -- 1
      refine AW.seq_k fun K6 h6 => ?_
      all_goals refine AW.reg0 ?_
      all_goals iterate 8 (refine S.g rfl rfl fun K' k' => ?_; simp only [zz, reduceIte, Nat.reduceEqDiff, Nat.reduceLT, Nat.reduceLeDiff, Nat.reduceAdd, reduceCtorEq, Nat.reduceMul, of24_0, ok22, sz22, ag22, sl22, el22, ok42, sz42, ag42, of42_0, ok9, sz9, ag9, e1, e2, l2, e6, hi, hgt, encBd]; refine k' _ _ ?_; clear k' K')
      all_goals refine S.nil ?_
      all_goals simp only [ze, reduceIte, Nat.reduceEqDiff, Nat.reduceLT, Nat.reduceLeDiff, Nat.reduceAdd, reduceCtorEq, Nat.reduceMul, e1, e2, l2, e6, hi, hgt, encBd]
      all_goals first | refine h6 _ _ ?_ | refine h5 _ _ ?_ | refine h4 _ _ ?_ | refine h3 _ _ ?_ | refine h2 _ _ ?_ | refine h1 _ _ ?_
      refine AW.cond (b := (a.var.toList == nm.toList)) (by simp [ev]) (fun hx => ?_) (fun hx => ?_)
      · refine AW.seq_k fun K7 h7 => ?_
        all_goals refine AW.reg0 ?_
        all_goals iterate 8 (refine S.g rfl rfl fun K' k' => ?_; simp only [zz, reduceIte, Nat.reduceEqDiff, Nat.reduceLT, Nat.reduceLeDiff, Nat.reduceAdd, reduceCtorEq, Nat.reduceMul, of24_0, ok22, sz22, ag22, sl22, el22, ok42, sz42, ag42, of42_1, ok36, sz36, ag36, e1, e2, l2, e6, hi, hgt, encBd, e4, l4]; refine k' _ _ ?_; clear k' K')
        all_goals refine S.nil ?_
        all_goals simp only [ze, reduceIte, Nat.reduceEqDiff, Nat.reduceLT, Nat.reduceLeDiff, Nat.reduceAdd, reduceCtorEq, Nat.reduceMul, e1, e2, l2, e6, hi, hgt, encBd, e4, l4]
        all_goals first | refine h7 _ _ ?_ | refine h6 _ _ ?_ | refine h5 _ _ ?_ | refine h4 _ _ ?_ | refine h3 _ _ ?_ | refine h2 _ _ ?_ | refine h1 _ _ ?_
        refine AW.ret ?_
        all_goals simp only [zs, reduceIte, Nat.reduceEqDiff, Nat.reduceLT, Nat.reduceLeDiff, Nat.reduceAdd, reduceCtorEq, Nat.reduceMul, qLoad, ok36, sz36, ag36, cut, List.drop_zero, List.take_succ_cons, List.take_zero, List.map, e4]
        rw [hp, if_pos hx]; rfl
      · rw [if_neg (by rw [hx]; simp)] at hp
        refine AW.skip ?_
        all_goals simp only [zs, reduceIte, Nat.reduceEqDiff, Nat.reduceLT, Nat.reduceLeDiff, Nat.reduceAdd, reduceCtorEq, Nat.reduceMul]
        all_goals first | refine h7 _ _ ?_ | refine h6 _ _ ?_ | refine h5 _ _ ?_ | refine h4 _ _ ?_ | refine h3 _ _ ?_ | refine h2 _ _ ?_ | refine h1 _ _ ?_
        all_goals refine AW.reg0 ?_
        all_goals iterate 3 (refine S.g rfl rfl fun K' k' => ?_; simp only [zz, reduceIte, Nat.reduceEqDiff, Nat.reduceAdd, e6, hw, e1, e2, l2, e4, l4]; refine k' _ _ ?_; clear k' K')
        all_goals refine S.nil ?_
        all_goals simp only [ze, reduceIte, Nat.reduceEqDiff, Nat.reduceLT, Nat.reduceLeDiff, Nat.reduceAdd, reduceCtorEq, Nat.reduceMul, e6, hw, e1, e2, l2, e4, l4]
        exact ⟨m - 1, by omega, i + 1, by omega, rfl, hp⟩
    · have hc := of_decide_eq_false hc
      refine AW.exit ?_
      all_goals simp only [zs, reduceIte, Nat.reduceEqDiff, Nat.reduceLT, Nat.reduceLeDiff, Nat.reduceAdd, reduceCtorEq, Nat.reduceMul]
      rw [List.drop_of_length_le (by omega)] at hp
      exact ⟨e4, l4, hp⟩
  rintro s σ ⟨rfl, e4, l4, hp⟩
  refine AW.seq_k fun K8 h8 => ?_
  all_goals refine AW.reg0 ?_
  all_goals (refine S.g rfl rfl fun K' k' => ?_; simp only [zz, reduceIte, Nat.reduceEqDiff, Nat.reduceLT, Nat.reduceLeDiff, Nat.reduceAdd, reduceCtorEq, Nat.reduceMul, zt36, pl36, e4, l4, encEv, noEv]; refine k' _ _ ?_; clear k' K')
  all_goals iterate 2 (refine S.g rfl rfl fun K' k' => ?_; simp only [zz, reduceIte, Nat.reduceEqDiff, Nat.reduceLT, Nat.reduceLeDiff, Nat.reduceAdd, reduceCtorEq, Nat.reduceMul, ok36, sz36, ag36, e4, l4, encEv, noEv]; refine k' _ _ ?_; clear k' K')
  all_goals refine S.nil ?_
  all_goals simp only [ze, reduceIte, Nat.reduceEqDiff, Nat.reduceLT, Nat.reduceLeDiff, Nat.reduceAdd, reduceCtorEq, Nat.reduceMul, e4, l4, encEv, noEv]
  all_goals first | refine h8 _ _ ?_ | refine h7 _ _ ?_ | refine h6 _ _ ?_ | refine h5 _ _ ?_ | refine h4 _ _ ?_ | refine h3 _ _ ?_ | refine h2 _ _ ?_ | refine h1 _ _ ?_
  refine AW.ret ?_
  all_goals simp only [zs, reduceIte, Nat.reduceEqDiff, Nat.reduceLT, Nat.reduceLeDiff, Nat.reduceAdd, reduceCtorEq, Nat.reduceMul, qLoad, ok36, sz36, ag36, cut, List.drop_zero, List.take_succ_cons, List.take_zero, List.map, e4]
  rw [hp]; rfl

def ofV (nm : ByteArray) (e : Ev) : V := if partErr [⟨nm, e⟩] ≠ 0 then .tup [.agg [.sl []], .c (.int .i64 (partErr [⟨nm, e⟩]))] else .tup [.agg [.sl ([(⟨nm, e⟩ : Bd)].map encBd)], .c (.int .i64 0)]
theorem rof_spec (nm : ByteArray) (e : Ev) (hp : okP [⟨nm, e⟩]) (hl : e.attrs.length * 48 ≤ 140737488355328) : PCalls Try.prog 20 [.c (.string nm), .agg (encEv e)]
    (fun v => v = ofV nm e) := by
  unfold ofV
  refine PCalls.intro Try.call20 Try.func20 rfl Try.ntmps20 Try.results20 (by simp) ?_
  refine AW.seq_k fun K1 h1 => ?_
  all_goals refine AW.reg0 ?_
  all_goals iterate 3 (refine S.g rfl rfl fun K' k' => ?_; simp only [zz, reduceIte, Nat.reduceEqDiff, Nat.reduceLT, Nat.reduceLeDiff, Nat.reduceAdd, reduceCtorEq, Nat.reduceMul, ok36, sz36, ag36, zt24, encEv]; refine k' _ _ ?_; clear k' K')
  all_goals refine S.nil ?_
  all_goals simp only [ze, reduceIte, Nat.reduceEqDiff, Nat.reduceLT, Nat.reduceLeDiff, Nat.reduceAdd, reduceCtorEq, Nat.reduceMul, encEv]
  all_goals first | refine h1 _ _ ?_
  refine AW.seq_k fun K2 h2 => ?_
  all_goals refine AW.reg0 ?_
  all_goals iterate 2 (refine S.g rfl rfl fun K' k' => ?_; simp only [zz, reduceIte, Nat.reduceEqDiff, Nat.reduceLT, Nat.reduceLeDiff, Nat.reduceAdd, reduceCtorEq, Nat.reduceMul, ok36, sz36, ag36, encEv]; refine k' _ _ ?_; clear k' K')
  all_goals (refine S.g rfl rfl fun K' k' => ?_; simp only [zz, reduceIte, Nat.reduceEqDiff, Nat.reduceLT, Nat.reduceLeDiff, Nat.reduceAdd, reduceCtorEq, Nat.reduceMul, encEv]; refine PCalls.eqto (rclone_ev _ (by assumption)) ?_ <;> (refine k' _ _ ?_; clear k' K'))
  all_goals (refine S.g rfl rfl fun K' k' => ?_; simp only [zz, reduceIte, Nat.reduceEqDiff, Nat.reduceLT, Nat.reduceLeDiff, Nat.reduceAdd, reduceCtorEq, Nat.reduceMul, zt42, pl42, encEv]; refine k' _ _ ?_; clear k' K')
  all_goals (refine S.g rfl rfl fun K' k' => ?_; simp only [zb, reduceIte, Nat.reduceEqDiff, Nat.reduceLT, Nat.reduceLeDiff, Nat.reduceAdd, reduceCtorEq, Nat.reduceMul, sl22, el22, ok42, sz42, ag42, zt42, by42, encEv]; refine k' _ _ ?_; clear k' K')
  all_goals (refine S.g rfl rfl fun K' k' => ?_; simp only [zz, reduceIte, Nat.reduceEqDiff, Nat.reduceLT, Nat.reduceLeDiff, Nat.reduceAdd, reduceCtorEq, Nat.reduceMul, zt24, pl24, encEv]; refine k' _ _ ?_; clear k' K')
  all_goals iterate 2 (refine S.g rfl rfl fun K' k' => ?_; simp only [zz, reduceIte, Nat.reduceEqDiff, Nat.reduceLT, Nat.reduceLeDiff, Nat.reduceAdd, reduceCtorEq, Nat.reduceMul, zt24, ok24, sz24, ag24, encEv]; refine k' _ _ ?_; clear k' K')
  all_goals refine S.nil ?_
  all_goals simp only [ze, reduceIte, Nat.reduceEqDiff, Nat.reduceLT, Nat.reduceLeDiff, Nat.reduceAdd, reduceCtorEq, Nat.reduceMul, encEv]
  all_goals first | refine h2 _ _ ?_ | refine h1 _ _ ?_
  refine AW.seq_k fun K3 h3 => ?_
  refine AW.seq_k fun K4 h4 => ?_
  all_goals refine AW.reg0 ?_
  all_goals (refine S.g rfl rfl fun K' k' => ?_; simp only [zz, reduceIte, Nat.reduceEqDiff, Nat.reduceLT, Nat.reduceLeDiff, Nat.reduceAdd, reduceCtorEq, Nat.reduceMul, ok24, sz24, ag24]; refine k' _ _ ?_; clear k' K')
  all_goals (refine S.g rfl rfl fun K' k' => ?_; simp only [zz, reduceIte, Nat.reduceEqDiff, Nat.reduceLT, Nat.reduceLeDiff, Nat.reduceAdd, reduceCtorEq, Nat.reduceMul]; refine PCalls.eqto (rcheck_part [⟨nm, e⟩] (by assumption)) ?_ <;> (refine k' _ _ ?_; clear k' K'))
  all_goals (refine S.g rfl rfl fun K' k' => ?_; simp only [zz, reduceIte, Nat.reduceEqDiff, Nat.reduceAdd]; refine k' _ _ ?_; clear k' K')
  all_goals refine S.nil ?_
  all_goals simp only [ze, reduceIte, Nat.reduceEqDiff, Nat.reduceLT, Nat.reduceLeDiff, Nat.reduceAdd, reduceCtorEq, Nat.reduceMul]
  all_goals first | refine h4 _ _ ?_ | refine h3 _ _ ?_ | refine h2 _ _ ?_ | refine h1 _ _ ?_
  refine AW.seq_k fun K5 h5 => ?_
  all_goals refine AW.reg0 ?_
  all_goals iterate 2 (refine S.g rfl rfl fun K' k' => ?_; simp only [zz, reduceIte, Nat.reduceEqDiff, Nat.reduceAdd]; refine k' _ _ ?_; clear k' K')
  all_goals refine S.nil ?_
  all_goals simp only [ze, reduceIte, Nat.reduceEqDiff, Nat.reduceLT, Nat.reduceLeDiff, Nat.reduceAdd, reduceCtorEq, Nat.reduceMul]
  all_goals first | refine h5 _ _ ?_ | refine h4 _ _ ?_ | refine h3 _ _ ?_ | refine h2 _ _ ?_ | refine h1 _ _ ?_
  refine AW.cond (b := partErr [⟨nm, e⟩] != 0) (by simp [ev]) (fun hc => ?_) (fun hc => ?_)
  · have hx : partErr [⟨nm, e⟩] ≠ 0 := by simpa using hc
    refine AW.seq_k fun K6 h6 => ?_
    all_goals refine AW.reg0 ?_
    all_goals (refine S.g rfl rfl fun K' k' => ?_; simp only [zz, reduceIte, Nat.reduceEqDiff, Nat.reduceLT, Nat.reduceLeDiff, Nat.reduceAdd, reduceCtorEq, Nat.reduceMul, zt24, pl24]; refine k' _ _ ?_; clear k' K')
    all_goals iterate 3 (refine S.g rfl rfl fun K' k' => ?_; simp only [zz, reduceIte, Nat.reduceEqDiff, Nat.reduceLT, Nat.reduceLeDiff, Nat.reduceAdd, reduceCtorEq, Nat.reduceMul, ok24, sz24, ag24]; refine k' _ _ ?_; clear k' K')
    all_goals refine S.nil ?_
    all_goals simp only [ze, reduceIte, Nat.reduceEqDiff, Nat.reduceLT, Nat.reduceLeDiff, Nat.reduceAdd, reduceCtorEq, Nat.reduceMul]
    all_goals first | refine h6 _ _ ?_ | refine h5 _ _ ?_ | refine h4 _ _ ?_ | refine h3 _ _ ?_ | refine h2 _ _ ?_ | refine h1 _ _ ?_
    refine AW.ret ?_
    all_goals simp only [zs, reduceIte, Nat.reduceEqDiff, Nat.reduceLT, Nat.reduceLeDiff, Nat.reduceAdd, reduceCtorEq, Nat.reduceMul, qLoad, ok24, sz24, ag24, cut, List.drop_zero, List.take_succ_cons, List.take_zero, List.map]
    exact (if_pos hx).symm
  · have hx : ¬ partErr [⟨nm, e⟩] ≠ 0 := by simpa using hc
    refine AW.skip ?_
    all_goals simp only [zs, reduceIte, Nat.reduceEqDiff, Nat.reduceLT, Nat.reduceLeDiff, Nat.reduceAdd, reduceCtorEq, Nat.reduceMul]
    all_goals first | refine h6 _ _ ?_ | refine h5 _ _ ?_ | refine h4 _ _ ?_ | refine h3 _ _ ?_ | refine h2 _ _ ?_ | refine h1 _ _ ?_
    refine AW.seq_k fun K7 h7 => ?_
    all_goals refine AW.reg0 ?_
    all_goals iterate 3 (refine S.g rfl rfl fun K' k' => ?_; simp only [zz, reduceIte, Nat.reduceEqDiff, Nat.reduceLT, Nat.reduceLeDiff, Nat.reduceAdd, reduceCtorEq, Nat.reduceMul, ok24, sz24, ag24]; refine k' _ _ ?_; clear k' K')
    all_goals refine S.nil ?_
    all_goals simp only [ze, reduceIte, Nat.reduceEqDiff, Nat.reduceLT, Nat.reduceLeDiff, Nat.reduceAdd, reduceCtorEq, Nat.reduceMul]
    all_goals first | refine h7 _ _ ?_ | refine h6 _ _ ?_ | refine h5 _ _ ?_ | refine h4 _ _ ?_ | refine h3 _ _ ?_ | refine h2 _ _ ?_ | refine h1 _ _ ?_
    refine AW.ret ?_
    all_goals simp only [zs, reduceIte, Nat.reduceEqDiff, Nat.reduceLT, Nat.reduceLeDiff, Nat.reduceAdd, reduceCtorEq, Nat.reduceMul, qLoad, ok24, sz24, ag24, cut, List.drop_zero, List.take_succ_cons, List.take_zero, List.map, encBd]
    exact (if_neg hx).symm
end Go.Abs.M
