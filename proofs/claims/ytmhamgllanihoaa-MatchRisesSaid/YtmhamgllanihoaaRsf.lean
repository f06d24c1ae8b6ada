import Derived.Test.YtmhamgllanihoaaRse
namespace Go.Abs.M
open Go Go.Abs Go.Proofs
set_option maxRecDepth 20000
set_option linter.unusedSimpArgs false
set_option linter.unusedVariables false
theorem isMap_c (x : Value) : isMap [.c x] = false := rfl
theorem isMap_sl (x : List (List V)) : isMap [.sl x] = false := rfl
/-- What holds between two rounds. -/
structure RI (g r8 r12 r13 r14 : Nat) (S : List (List Bd)) (i : Nat) (σ : Hp) : Prop where
  set : PSet g S σ
  o8 : σ.obj r8 = some [.c (.bool false)]
  o12 : σ.obj r12 = some [.c (.pointer (some ⟨g, 0, none⟩))]
  o13 : ∃ lv, σ.obj r13 = some [lv] ∧ isMap [lv] = false ∧ (0 < i → ∃ x, S[i-1]? = some x ∧ lv = .sl (x.map encBd))
  o14 : σ.obj r14 = some [.c (.int .i64 (i : Nat))]
set_option maxHeartbeats 2000000 in
theorem rises_spec (a b c : List Bd) (rows : List (List Bd)) (ha : okI a) (hb : okI b) (hc : okI c) (hr : rows.length * 24 ≤ 140737488355328) (hrows : ∀ x ∈ rows, okI x) :
    ACalls Try.prog 7 [.agg [.sl (a.map encBd)], .agg [.sl (b.map encBd)], .agg [.sl (c.map encBd)], .sl (rows.map encP)] Hp.empty (fun v _ => v = .c (.bool true)) := by
  refine ACalls.intro Try.call7 Try.func7 rfl Try.ntmps7 Try.results7 (by simp) ?_
  have hal : a.length < 4611686018427387904 := by have := ha.len; omega
  have hbl : b.length < 4611686018427387904 := by have := hb.len; omega
  have hba : PCalls Try.prog 28 [.agg [.sl (b.map encBd)], .agg [.sl (a.map encBd)]] (fun v => v = .c (.int .i64 (- cmpL a b))) := by rw [← tri_L.flip a b]; exact compare_part b a hbl
  have haa : PCalls Try.prog 28 [.agg [.sl (a.map encBd)], .agg [.sl (a.map encBd)]] (fun v => v = .c (.int .i64 (0 : Int))) := by have := compare_part a a hal; rwa [tri_L.refl] at this
  have hsm := tri_L.small a b
  have hwn : IntKind.i64.wrap (0 - cmpL a b) = - cmpL a b := by rw [wrapI _ (by omega) (by omega)]; omega
  have htr := tri_L.trans a b c
  refine AW.seq_k fun K1 h1 => ?_
  all_goals refine AW.region (T := { hp := fun d => d == 8 }) (fun _ _ h => by cases h) rfl ?_
  all_goals iterate 3 (refine S.g rfl rfl fun K' k' => ?_; simp only [zz, reduceIte, Nat.reduceEqDiff, Nat.reduceLT, Nat.reduceLeDiff, Nat.reduceAdd, reduceCtorEq, Nat.reduceMul, ok24, sz24, ag24]; refine k' _ _ ?_; clear k' K')
  all_goals (refine S.g rfl rfl fun K' k' => ?_; simp only [zz, reduceIte, Nat.reduceEqDiff, Nat.reduceLT, Nat.reduceLeDiff, Nat.reduceAdd, reduceCtorEq, Nat.reduceMul, zt4]; intro r8 hr8 <;> (refine k' _ _ ?_; clear k' K'))
  all_goals refine S.nil ?_
  all_goals simp only [ze, reduceIte, Nat.reduceEqDiff, Nat.reduceLT, Nat.reduceLeDiff, Nat.reduceAdd, reduceCtorEq, Nat.reduceMul]
  all_goals apply_assumption
  refine AW.seq_k fun K2 h2 => ?_
  all_goals refine AW.draw (T := { sd := fun d => d == 4 || d == 5 || d == 6 }) (fun _ _ h => by cases h) mixedO [(0, 1), (1, 1), (3, 1), (4, 1), (6, 1), (7, 1), (2, 2), (5, 2), (8, 2), (9, 0), (10, 0), (11, 0)] rfl (by kernel_rfl) (by kernel_rfl) ?_
  all_goals iterate 6 (refine D.g rfl rfl rfl rfl fun K' k' => ?_; simp only [zz, reduceIte, Nat.reduceEqDiff, Nat.reduceLT, Nat.reduceLeDiff, Nat.reduceAdd, reduceCtorEq, Nat.reduceMul, ok24, sz24, ag24]; refine k' _ _ ?_; clear k' K')
  all_goals (refine D.g rfl trivial rfl rfl fun K' k' => ?_; simp only [zz, reduceIte, Nat.reduceEqDiff, Nat.reduceLT, Nat.reduceLeDiff, Nat.reduceAdd, reduceCtorEq, Nat.reduceMul]; refine PCalls.eqto (compare_part a b hal) ?_ <;> (refine k' _ _ ?_; clear k' K'))
  all_goals (refine D.g rfl trivial rfl rfl fun K' k' => ?_; simp only [zz, reduceIte, Nat.reduceEqDiff, Nat.reduceLT, Nat.reduceLeDiff, Nat.reduceAdd, reduceCtorEq, Nat.reduceMul]; refine PCalls.eqto (compare_part b c hbl) ?_ <;> (refine k' _ _ ?_; clear k' K'))
  all_goals (refine D.g rfl trivial rfl rfl fun K' k' => ?_; simp only [zz, reduceIte, Nat.reduceEqDiff, Nat.reduceLT, Nat.reduceLeDiff, Nat.reduceAdd, reduceCtorEq, Nat.reduceMul]; refine PCalls.eqto (compare_part a c hal) ?_ <;> (refine k' _ _ ?_; clear k' K'))
  all_goals iterate 3 (refine D.g rfl trivial rfl rfl fun K' k' => ?_; simp only [zz, reduceIte, Nat.reduceEqDiff, Nat.reduceAdd]; refine k' _ _ ?_; clear k' K')
  all_goals refine D.nil ?_
  all_goals simp only [ze, reduceIte, Nat.reduceEqDiff, Nat.reduceLT, Nat.reduceLeDiff, Nat.reduceAdd, reduceCtorEq, Nat.reduceMul]
  all_goals apply_assumption
  refine AW.seq_j (fun s σ' => s.t 3 = .sl (rows.map encP) ∧ s.t 8 = .c (.pointer (some ⟨r8, 0, none⟩)) ∧ σ' = Hp.empty.setObj r8 (some [.c (.bool false)])) ?_ ?_
  · refine AW.seq_j (fun s σ' => s.t 52 = .c (.bool false) ∧ s.t 3 = .sl (rows.map encP) ∧ s.t 8 = .c (.pointer (some ⟨r8, 0, none⟩)) ∧ σ' = Hp.empty.setObj r8 (some [.c (.bool false)])) ?_ ?_
    · by_cases hx : cmpL a b ≤ 0
      · have hdx : decide (cmpL a b ≤ 0) = true := by simpa using hx
        by_cases hy : cmpL b c ≤ 0
        · have hdy : decide (cmpL b c ≤ 0) = true := by simpa using hy
          have hdz : decide (cmpL a c > 0) = false := by have := htr hx hy; simp; omega
          all_goals refine AW.reg0 ?_
          all_goals (refine S.g rfl rfl fun K' k' => ?_; simp only [zz, reduceIte, Nat.reduceEqDiff, Nat.reduceLT, Nat.reduceLeDiff, Nat.reduceAdd, reduceCtorEq, Nat.reduceMul, hwn, bne_self_eq_false, hdx, hdy, hdz]; refine PCalls.eqto begun_spec ?_; refine S.bool fun b a25 => ?_; cases b <;> (try (exfalso; first | exact Bool.noConfusion a25 | (have h := of_decide_eq_true a25; omega) | (have h := of_decide_eq_false a25; omega))) <;> (refine k' _ _ ?_; clear k' K'))
          all_goals iterate 2 (refine S.g rfl rfl fun K' k' => ?_; simp only [zz, reduceIte, Nat.reduceEqDiff, Nat.reduceAdd, hwn, bne_self_eq_false, hdx, hdy, hdz]; refine k' _ _ ?_; clear k' K')
          all_goals iterate 2 (first | (refine S.y rfl rfl rfl rfl fun K' k' => ?_; simp only [zz, reduceIte, Nat.reduceEqDiff, Nat.reduceLT, Nat.reduceLeDiff, Nat.reduceAdd, reduceCtorEq, Nat.reduceMul, ok24, sz24, ag24, hwn, bne_self_eq_false, hdx, hdy, hdz]; refine k' _ _ ?_; clear k' K') | ((first | refine S.x rfl rfl rfl rfl fun K' k' => ?_ | refine S.u rfl rfl rfl rfl fun K' k' => ?_); simp only [ze, reduceIte, Nat.reduceEqDiff]; refine k' _ _ ?_; clear k' K'))
          all_goals (first | (refine S.y rfl rfl rfl rfl fun K' k' => ?_; simp only [zz, reduceIte, Nat.reduceEqDiff, Nat.reduceLT, Nat.reduceLeDiff, Nat.reduceAdd, reduceCtorEq, Nat.reduceMul, hwn, bne_self_eq_false, hdx, hdy, hdz]; refine PCalls.eqto hba ?_ <;> (refine k' _ _ ?_; clear k' K')) | ((first | refine S.x rfl rfl rfl rfl fun K' k' => ?_ | refine S.u rfl rfl rfl rfl fun K' k' => ?_); simp only [ze, reduceIte, Nat.reduceEqDiff]; refine k' _ _ ?_; clear k' K'))
          all_goals iterate 2 (first | (refine S.y rfl rfl rfl rfl fun K' k' => ?_; simp only [zz, reduceIte, Nat.reduceEqDiff, Nat.reduceAdd, hwn, bne_self_eq_false, hdx, hdy, hdz]; refine k' _ _ ?_; clear k' K') | ((first | refine S.x rfl rfl rfl rfl fun K' k' => ?_ | refine S.u rfl rfl rfl rfl fun K' k' => ?_); simp only [ze, reduceIte, Nat.reduceEqDiff]; refine k' _ _ ?_; clear k' K'))
          all_goals (first | (refine S.y rfl rfl rfl rfl fun K' k' => ?_; simp only [zz, reduceIte, Nat.reduceEqDiff, Nat.reduceLT, Nat.reduceLeDiff, Nat.reduceAdd, reduceCtorEq, Nat.reduceMul, hwn, bne_self_eq_false, hdx, hdy, hdz]; refine S.bool fun b a33 => ?_; cases b <;> (try (exfalso; first | exact Bool.noConfusion a33 | (have h := of_decide_eq_true a33; omega) | (have h := of_decide_eq_false a33; omega))) <;> (refine k' _ _ ?_; clear k' K')) | ((first | refine S.x rfl rfl rfl rfl fun K' k' => ?_ | refine S.u rfl rfl rfl rfl fun K' k' => ?_); simp only [ze, reduceIte, Nat.reduceEqDiff]; refine k' _ _ ?_; clear k' K'))
          all_goals iterate 2 (refine S.g rfl rfl fun K' k' => ?_; simp only [zz, reduceIte, Nat.reduceEqDiff, Nat.reduceAdd, hwn, bne_self_eq_false, hdx, hdy, hdz]; refine k' _ _ ?_; clear k' K')
          all_goals (first | (refine S.y rfl rfl rfl rfl fun K' k' => ?_; simp only [zz, reduceIte, Nat.reduceEqDiff, Nat.reduceAdd, hwn, bne_self_eq_false, hdx, hdy, hdz]; refine k' _ _ ?_; clear k' K') | ((first | refine S.x rfl rfl rfl rfl fun K' k' => ?_ | refine S.u rfl rfl rfl rfl fun K' k' => ?_); simp only [ze, reduceIte, Nat.reduceEqDiff]; refine k' _ _ ?_; clear k' K'))
          all_goals (first | (refine S.y rfl rfl rfl rfl fun K' k' => ?_; simp only [zz, reduceIte, Nat.reduceEqDiff, Nat.reduceLT, Nat.reduceLeDiff, Nat.reduceAdd, reduceCtorEq, Nat.reduceMul, hwn, bne_self_eq_false, hdx, hdy, hdz]; refine S.bool fun b a37 => ?_; cases b <;> (try (exfalso; first | exact Bool.noConfusion a37 | (have h := of_decide_eq_true a37; omega) | (have h := of_decide_eq_false a37; omega))) <;> (refine k' _ _ ?_; clear k' K')) | ((first | refine S.x rfl rfl rfl rfl fun K' k' => ?_ | refine S.u rfl rfl rfl rfl fun K' k' => ?_); simp only [ze, reduceIte, Nat.reduceEqDiff]; refine k' _ _ ?_; clear k' K'))
          all_goals iterate 2 (first | (refine S.y rfl rfl rfl rfl fun K' k' => ?_; simp only [zz, reduceIte, Nat.reduceEqDiff, Nat.reduceAdd, hwn, bne_self_eq_false, hdx, hdy, hdz]; refine k' _ _ ?_; clear k' K') | ((first | refine S.x rfl rfl rfl rfl fun K' k' => ?_ | refine S.u rfl rfl rfl rfl fun K' k' => ?_); simp only [ze, reduceIte, Nat.reduceEqDiff]; refine k' _ _ ?_; clear k' K'))
          all_goals (first | (refine S.y rfl rfl rfl rfl fun K' k' => ?_; simp only [zz, reduceIte, Nat.reduceEqDiff, Nat.reduceLT, Nat.reduceLeDiff, Nat.reduceAdd, reduceCtorEq, Nat.reduceMul, hwn, bne_self_eq_false, hdx, hdy, hdz]; refine S.bool fun b a40 => ?_; cases b <;> (try (exfalso; first | exact Bool.noConfusion a40 | (have h := of_decide_eq_true a40; omega) | (have h := of_decide_eq_false a40; omega))) <;> (refine k' _ _ ?_; clear k' K')) | ((first | refine S.x rfl rfl rfl rfl fun K' k' => ?_ | refine S.u rfl rfl rfl rfl fun K' k' => ?_); simp only [ze, reduceIte, Nat.reduceEqDiff]; refine k' _ _ ?_; clear k' K'))
          all_goals iterate 3 (first | (refine S.y rfl rfl rfl rfl fun K' k' => ?_; simp only [zz, reduceIte, Nat.reduceEqDiff, Nat.reduceAdd, hwn, bne_self_eq_false, hdx, hdy, hdz]; refine k' _ _ ?_; clear k' K') | ((first | refine S.x rfl rfl rfl rfl fun K' k' => ?_ | refine S.u rfl rfl rfl rfl fun K' k' => ?_); simp only [ze, reduceIte, Nat.reduceEqDiff]; refine k' _ _ ?_; clear k' K'))
          all_goals (first | (refine S.y rfl rfl rfl rfl fun K' k' => ?_; simp only [zz, reduceIte, Nat.reduceEqDiff, Nat.reduceLT, Nat.reduceLeDiff, Nat.reduceAdd, reduceCtorEq, Nat.reduceMul, hwn, bne_self_eq_false, hdx, hdy, hdz]; refine S.bool fun b a44 => ?_; cases b <;> (try (exfalso; first | exact Bool.noConfusion a44 | (have h := of_decide_eq_true a44; omega) | (have h := of_decide_eq_false a44; omega))) <;> (refine k' _ _ ?_; clear k' K')) | ((first | refine S.x rfl rfl rfl rfl fun K' k' => ?_ | refine S.u rfl rfl rfl rfl fun K' k' => ?_); simp only [ze, reduceIte, Nat.reduceEqDiff]; refine k' _ _ ?_; clear k' K'))
          all_goals (first | (refine S.y rfl rfl rfl rfl fun K' k' => ?_; simp only [zz, reduceIte, Nat.reduceEqDiff, Nat.reduceAdd, hwn, bne_self_eq_false, hdx, hdy, hdz]; refine k' _ _ ?_; clear k' K') | ((first | refine S.x rfl rfl rfl rfl fun K' k' => ?_ | refine S.u rfl rfl rfl rfl fun K' k' => ?_); simp only [ze, reduceIte, Nat.reduceEqDiff]; refine k' _ _ ?_; clear k' K'))
          all_goals iterate 2 (refine S.g rfl rfl fun K' k' => ?_; simp only [zz, reduceIte, Nat.reduceEqDiff, Nat.reduceAdd, hwn, bne_self_eq_false, hdx, hdy, hdz]; refine k' _ _ ?_; clear k' K')
          all_goals iterate 2 (first | (refine S.y rfl rfl rfl rfl fun K' k' => ?_; simp only [zz, reduceIte, Nat.reduceEqDiff, Nat.reduceLT, Nat.reduceLeDiff, Nat.reduceAdd, reduceCtorEq, Nat.reduceMul, ok24, sz24, ag24, hwn, bne_self_eq_false, hdx, hdy, hdz]; refine k' _ _ ?_; clear k' K') | ((first | refine S.x rfl rfl rfl rfl fun K' k' => ?_ | refine S.u rfl rfl rfl rfl fun K' k' => ?_); simp only [ze, reduceIte, Nat.reduceEqDiff]; refine k' _ _ ?_; clear k' K'))
          all_goals (first | (refine S.y rfl rfl rfl rfl fun K' k' => ?_; simp only [zz, reduceIte, Nat.reduceEqDiff, Nat.reduceLT, Nat.reduceLeDiff, Nat.reduceAdd, reduceCtorEq, Nat.reduceMul, hwn, bne_self_eq_false, hdx, hdy, hdz]; refine PCalls.eqto haa ?_ <;> (refine k' _ _ ?_; clear k' K')) | ((first | refine S.x rfl rfl rfl rfl fun K' k' => ?_ | refine S.u rfl rfl rfl rfl fun K' k' => ?_); simp only [ze, reduceIte, Nat.reduceEqDiff]; refine k' _ _ ?_; clear k' K'))
          all_goals (first | (refine S.y rfl rfl rfl rfl fun K' k' => ?_; simp only [zz, reduceIte, Nat.reduceEqDiff, Nat.reduceAdd, hwn, bne_self_eq_false, hdx, hdy, hdz]; refine k' _ _ ?_; clear k' K') | ((first | refine S.x rfl rfl rfl rfl fun K' k' => ?_ | refine S.u rfl rfl rfl rfl fun K' k' => ?_); simp only [ze, reduceIte, Nat.reduceEqDiff]; refine k' _ _ ?_; clear k' K'))
          all_goals (refine S.g rfl rfl fun K' k' => ?_; simp only [zz, reduceIte, Nat.reduceEqDiff, Nat.reduceAdd, hwn, bne_self_eq_false, hdx, hdy, hdz]; refine k' _ _ ?_; clear k' K')
          all_goals refine S.nil ?_
          all_goals simp only [ze, reduceIte, Nat.reduceEqDiff, Nat.reduceLT, Nat.reduceLeDiff, Nat.reduceAdd, reduceCtorEq, Nat.reduceMul, hwn, bne_self_eq_false, hdx, hdy, hdz]
          all_goals exact rfl
        · have hdy : decide (cmpL b c ≤ 0) = false := by simpa using hy
          all_goals refine AW.reg0 ?_
          all_goals (refine S.g rfl rfl fun K' k' => ?_; simp only [zz, reduceIte, Nat.reduceEqDiff, Nat.reduceLT, Nat.reduceLeDiff, Nat.reduceAdd, reduceCtorEq, Nat.reduceMul, hwn, bne_self_eq_false, hdx, hdy]; refine PCalls.eqto begun_spec ?_; refine S.bool fun b a25 => ?_; cases b <;> (try (exfalso; first | exact Bool.noConfusion a25 | (have h := of_decide_eq_true a25; omega) | (have h := of_decide_eq_false a25; omega))) <;> (refine k' _ _ ?_; clear k' K'))
          all_goals iterate 2 (refine S.g rfl rfl fun K' k' => ?_; simp only [zz, reduceIte, Nat.reduceEqDiff, Nat.reduceAdd, hwn, bne_self_eq_false, hdx, hdy]; refine k' _ _ ?_; clear k' K')
          all_goals iterate 2 (first | (refine S.y rfl rfl rfl rfl fun K' k' => ?_; simp only [zz, reduceIte, Nat.reduceEqDiff, Nat.reduceLT, Nat.reduceLeDiff, Nat.reduceAdd, reduceCtorEq, Nat.reduceMul, ok24, sz24, ag24, hwn, bne_self_eq_false, hdx, hdy]; refine k' _ _ ?_; clear k' K') | ((first | refine S.x rfl rfl rfl rfl fun K' k' => ?_ | refine S.u rfl rfl rfl rfl fun K' k' => ?_); simp only [ze, reduceIte, Nat.reduceEqDiff]; refine k' _ _ ?_; clear k' K'))
          all_goals (first | (refine S.y rfl rfl rfl rfl fun K' k' => ?_; simp only [zz, reduceIte, Nat.reduceEqDiff, Nat.reduceLT, Nat.reduceLeDiff, Nat.reduceAdd, reduceCtorEq, Nat.reduceMul, hwn, bne_self_eq_false, hdx, hdy]; refine PCalls.eqto hba ?_ <;> (refine k' _ _ ?_; clear k' K')) | ((first | refine S.x rfl rfl rfl rfl fun K' k' => ?_ | refine S.u rfl rfl rfl rfl fun K' k' => ?_); simp only [ze, reduceIte, Nat.reduceEqDiff]; refine k' _ _ ?_; clear k' K'))
          all_goals iterate 2 (first | (refine S.y rfl rfl rfl rfl fun K' k' => ?_; simp only [zz, reduceIte, Nat.reduceEqDiff, Nat.reduceAdd, hwn, bne_self_eq_false, hdx, hdy]; refine k' _ _ ?_; clear k' K') | ((first | refine S.x rfl rfl rfl rfl fun K' k' => ?_ | refine S.u rfl rfl rfl rfl fun K' k' => ?_); simp only [ze, reduceIte, Nat.reduceEqDiff]; refine k' _ _ ?_; clear k' K'))
          all_goals (first | (refine S.y rfl rfl rfl rfl fun K' k' => ?_; simp only [zz, reduceIte, Nat.reduceEqDiff, Nat.reduceLT, Nat.reduceLeDiff, Nat.reduceAdd, reduceCtorEq, Nat.reduceMul, hwn, bne_self_eq_false, hdx, hdy]; refine S.bool fun b a33 => ?_; cases b <;> (try (exfalso; first | exact Bool.noConfusion a33 | (have h := of_decide_eq_true a33; omega) | (have h := of_decide_eq_false a33; omega))) <;> (refine k' _ _ ?_; clear k' K')) | ((first | refine S.x rfl rfl rfl rfl fun K' k' => ?_ | refine S.u rfl rfl rfl rfl fun K' k' => ?_); simp only [ze, reduceIte, Nat.reduceEqDiff]; refine k' _ _ ?_; clear k' K'))
          all_goals iterate 2 (refine S.g rfl rfl fun K' k' => ?_; simp only [zz, reduceIte, Nat.reduceEqDiff, Nat.reduceAdd, hwn, bne_self_eq_false, hdx, hdy]; refine k' _ _ ?_; clear k' K')
          all_goals (first | (refine S.y rfl rfl rfl rfl fun K' k' => ?_; simp only [zz, reduceIte, Nat.reduceEqDiff, Nat.reduceAdd, hwn, bne_self_eq_false, hdx, hdy]; refine k' _ _ ?_; clear k' K') | ((first | refine S.x rfl rfl rfl rfl fun K' k' => ?_ | refine S.u rfl rfl rfl rfl fun K' k' => ?_); simp only [ze, reduceIte, Nat.reduceEqDiff]; refine k' _ _ ?_; clear k' K'))
          all_goals (first | (refine S.y rfl rfl rfl rfl fun K' k' => ?_; simp only [zz, reduceIte, Nat.reduceEqDiff, Nat.reduceLT, Nat.reduceLeDiff, Nat.reduceAdd, reduceCtorEq, Nat.reduceMul, hwn, bne_self_eq_false, hdx, hdy]; refine S.bool fun b a37 => ?_; cases b <;> (try (exfalso; first | exact Bool.noConfusion a37 | (have h := of_decide_eq_true a37; omega) | (have h := of_decide_eq_false a37; omega))) <;> (refine k' _ _ ?_; clear k' K')) | ((first | refine S.x rfl rfl rfl rfl fun K' k' => ?_ | refine S.u rfl rfl rfl rfl fun K' k' => ?_); simp only [ze, reduceIte, Nat.reduceEqDiff]; refine k' _ _ ?_; clear k' K'))
          all_goals iterate 2 (first | (refine S.y rfl rfl rfl rfl fun K' k' => ?_; simp only [zz, reduceIte, Nat.reduceEqDiff, Nat.reduceAdd, hwn, bne_self_eq_false, hdx, hdy]; refine k' _ _ ?_; clear k' K') | ((first | refine S.x rfl rfl rfl rfl fun K' k' => ?_ | refine S.u rfl rfl rfl rfl fun K' k' => ?_); simp only [ze, reduceIte, Nat.reduceEqDiff]; refine k' _ _ ?_; clear k' K'))
          all_goals (first | (refine S.y rfl rfl rfl rfl fun K' k' => ?_; simp only [zz, reduceIte, Nat.reduceEqDiff, Nat.reduceLT, Nat.reduceLeDiff, Nat.reduceAdd, reduceCtorEq, Nat.reduceMul, hwn, bne_self_eq_false, hdx, hdy]; refine S.bool fun b a40 => ?_; cases b <;> (try (exfalso; first | exact Bool.noConfusion a40 | (have h := of_decide_eq_true a40; omega) | (have h := of_decide_eq_false a40; omega))) <;> (refine k' _ _ ?_; clear k' K')) | ((first | refine S.x rfl rfl rfl rfl fun K' k' => ?_ | refine S.u rfl rfl rfl rfl fun K' k' => ?_); simp only [ze, reduceIte, Nat.reduceEqDiff]; refine k' _ _ ?_; clear k' K'))
          all_goals iterate 3 (first | (refine S.y rfl rfl rfl rfl fun K' k' => ?_; simp only [zz, reduceIte, Nat.reduceEqDiff, Nat.reduceAdd, hwn, bne_self_eq_false, hdx, hdy]; refine k' _ _ ?_; clear k' K') | ((first | refine S.x rfl rfl rfl rfl fun K' k' => ?_ | refine S.u rfl rfl rfl rfl fun K' k' => ?_); simp only [ze, reduceIte, Nat.reduceEqDiff]; refine k' _ _ ?_; clear k' K'))
          all_goals (first | (refine S.y rfl rfl rfl rfl fun K' k' => ?_; simp only [zz, reduceIte, Nat.reduceEqDiff, Nat.reduceLT, Nat.reduceLeDiff, Nat.reduceAdd, reduceCtorEq, Nat.reduceMul, hwn, bne_self_eq_false, hdx, hdy]; refine S.bool fun b a44 => ?_; cases b <;> (try (exfalso; first | exact Bool.noConfusion a44 | (have h := of_decide_eq_true a44; omega) | (have h := of_decide_eq_false a44; omega))) <;> (refine k' _ _ ?_; clear k' K')) | ((first | refine S.x rfl rfl rfl rfl fun K' k' => ?_ | refine S.u rfl rfl rfl rfl fun K' k' => ?_); simp only [ze, reduceIte, Nat.reduceEqDiff]; refine k' _ _ ?_; clear k' K'))
          all_goals (first | (refine S.y rfl rfl rfl rfl fun K' k' => ?_; simp only [zz, reduceIte, Nat.reduceEqDiff, Nat.reduceAdd, hwn, bne_self_eq_false, hdx, hdy]; refine k' _ _ ?_; clear k' K') | ((first | refine S.x rfl rfl rfl rfl fun K' k' => ?_ | refine S.u rfl rfl rfl rfl fun K' k' => ?_); simp only [ze, reduceIte, Nat.reduceEqDiff]; refine k' _ _ ?_; clear k' K'))
          all_goals iterate 2 (refine S.g rfl rfl fun K' k' => ?_; simp only [zz, reduceIte, Nat.reduceEqDiff, Nat.reduceAdd, hwn, bne_self_eq_false, hdx, hdy]; refine k' _ _ ?_; clear k' K')
          all_goals iterate 2 (first | (refine S.y rfl rfl rfl rfl fun K' k' => ?_; simp only [zz, reduceIte, Nat.reduceEqDiff, Nat.reduceLT, Nat.reduceLeDiff, Nat.reduceAdd, reduceCtorEq, Nat.reduceMul, ok24, sz24, ag24, hwn, bne_self_eq_false, hdx, hdy]; refine k' _ _ ?_; clear k' K') | ((first | refine S.x rfl rfl rfl rfl fun K' k' => ?_ | refine S.u rfl rfl rfl rfl fun K' k' => ?_); simp only [ze, reduceIte, Nat.reduceEqDiff]; refine k' _ _ ?_; clear k' K'))
          all_goals (first | (refine S.y rfl rfl rfl rfl fun K' k' => ?_; simp only [zz, reduceIte, Nat.reduceEqDiff, Nat.reduceLT, Nat.reduceLeDiff, Nat.reduceAdd, reduceCtorEq, Nat.reduceMul, hwn, bne_self_eq_false, hdx, hdy]; refine PCalls.eqto haa ?_ <;> (refine k' _ _ ?_; clear k' K')) | ((first | refine S.x rfl rfl rfl rfl fun K' k' => ?_ | refine S.u rfl rfl rfl rfl fun K' k' => ?_); simp only [ze, reduceIte, Nat.reduceEqDiff]; refine k' _ _ ?_; clear k' K'))
          all_goals (first | (refine S.y rfl rfl rfl rfl fun K' k' => ?_; simp only [zz, reduceIte, Nat.reduceEqDiff, Nat.reduceAdd, hwn, bne_self_eq_false, hdx, hdy]; refine k' _ _ ?_; clear k' K') | ((first | refine S.x rfl rfl rfl rfl fun K' k' => ?_ | refine S.u rfl rfl rfl rfl fun K' k' => ?_); simp only [ze, reduceIte, Nat.reduceEqDiff]; refine k' _ _ ?_; clear k' K'))
          all_goals (refine S.g rfl rfl fun K' k' => ?_; simp only [zz, reduceIte, Nat.reduceEqDiff, Nat.reduceAdd, hwn, bne_self_eq_false, hdx, hdy]; refine k' _ _ ?_; clear k' K')
          all_goals refine S.nil ?_
          all_goals simp only [ze, reduceIte, Nat.reduceEqDiff, Nat.reduceLT, Nat.reduceLeDiff, Nat.reduceAdd, reduceCtorEq, Nat.reduceMul, hwn, bne_self_eq_false, hdx, hdy]
          all_goals exact rfl
      · have hdx : decide (cmpL a b ≤ 0) = false := by simpa using hx
        all_goals refine AW.reg0 ?_
        all_goals (refine S.g rfl rfl fun K' k' => ?_; simp only [zz, reduceIte, Nat.reduceEqDiff, Nat.reduceLT, Nat.reduceLeDiff, Nat.reduceAdd, reduceCtorEq, Nat.reduceMul, hwn, bne_self_eq_false, hdx]; refine PCalls.eqto begun_spec ?_; refine S.bool fun b a25 => ?_; cases b <;> (try (exfalso; first | exact Bool.noConfusion a25 | (have h := of_decide_eq_true a25; omega) | (have h := of_decide_eq_false a25; omega))) <;> (refine k' _ _ ?_; clear k' K'))
        all_goals iterate 2 (refine S.g rfl rfl fun K' k' => ?_; simp only [zz, reduceIte, Nat.reduceEqDiff, Nat.reduceAdd, hwn, bne_self_eq_false, hdx]; refine k' _ _ ?_; clear k' K')
        all_goals iterate 2 (first | (refine S.y rfl rfl rfl rfl fun K' k' => ?_; simp only [zz, reduceIte, Nat.reduceEqDiff, Nat.reduceLT, Nat.reduceLeDiff, Nat.reduceAdd, reduceCtorEq, Nat.reduceMul, ok24, sz24, ag24, hwn, bne_self_eq_false, hdx]; refine k' _ _ ?_; clear k' K') | ((first | refine S.x rfl rfl rfl rfl fun K' k' => ?_ | refine S.u rfl rfl rfl rfl fun K' k' => ?_); simp only [ze, reduceIte, Nat.reduceEqDiff]; refine k' _ _ ?_; clear k' K'))
        all_goals (first | (refine S.y rfl rfl rfl rfl fun K' k' => ?_; simp only [zz, reduceIte, Nat.reduceEqDiff, Nat.reduceLT, Nat.reduceLeDiff, Nat.reduceAdd, reduceCtorEq, Nat.reduceMul, hwn, bne_self_eq_false, hdx]; refine PCalls.eqto hba ?_ <;> (refine k' _ _ ?_; clear k' K')) | ((first | refine S.x rfl rfl rfl rfl fun K' k' => ?_ | refine S.u rfl rfl rfl rfl fun K' k' => ?_); simp only [ze, reduceIte, Nat.reduceEqDiff]; refine k' _ _ ?_; clear k' K'))
        all_goals iterate 2 (first | (refine S.y rfl rfl rfl rfl fun K' k' => ?_; simp only [zz, reduceIte, Nat.reduceEqDiff, Nat.reduceAdd, hwn, bne_self_eq_false, hdx]; refine k' _ _ ?_; clear k' K') | ((first | refine S.x rfl rfl rfl rfl fun K' k' => ?_ | refine S.u rfl rfl rfl rfl fun K' k' => ?_); simp only [ze, reduceIte, Nat.reduceEqDiff]; refine k' _ _ ?_; clear k' K'))
        all_goals (first | (refine S.y rfl rfl rfl rfl fun K' k' => ?_; simp only [zz, reduceIte, Nat.reduceEqDiff, Nat.reduceLT, Nat.reduceLeDiff, Nat.reduceAdd, reduceCtorEq, Nat.reduceMul, hwn, bne_self_eq_false, hdx]; refine S.bool fun b a33 => ?_; cases b <;> (try (exfalso; first | exact Bool.noConfusion a33 | (have h := of_decide_eq_true a33; omega) | (have h := of_decide_eq_false a33; omega))) <;> (refine k' _ _ ?_; clear k' K')) | ((first | refine S.x rfl rfl rfl rfl fun K' k' => ?_ | refine S.u rfl rfl rfl rfl fun K' k' => ?_); simp only [ze, reduceIte, Nat.reduceEqDiff]; refine k' _ _ ?_; clear k' K'))
        all_goals iterate 2 (refine S.g rfl rfl fun K' k' => ?_; simp only [zz, reduceIte, Nat.reduceEqDiff, Nat.reduceAdd, hwn, bne_self_eq_false, hdx]; refine k' _ _ ?_; clear k' K')
        all_goals (first | (refine S.y rfl rfl rfl rfl fun K' k' => ?_; simp only [zz, reduceIte, Nat.reduceEqDiff, Nat.reduceAdd, hwn, bne_self_eq_false, hdx]; refine k' _ _ ?_; clear k' K') | ((first | refine S.x rfl rfl rfl rfl fun K' k' => ?_ | refine S.u rfl rfl rfl rfl fun K' k' => ?_); simp only [ze, reduceIte, Nat.reduceEqDiff]; refine k' _ _ ?_; clear k' K'))
        all_goals (first | (refine S.y rfl rfl rfl rfl fun K' k' => ?_; simp only [zz, reduceIte, Nat.reduceEqDiff, Nat.reduceLT, Nat.reduceLeDiff, Nat.reduceAdd, reduceCtorEq, Nat.reduceMul, hwn, bne_self_eq_false, hdx]; refine S.bool fun b a37 => ?_; cases b <;> (try (exfalso; first | exact Bool.noConfusion a37 | (have h := of_decide_eq_true a37; omega) | (have h := of_decide_eq_false a37; omega))) <;> (refine k' _ _ ?_; clear k' K')) | ((first | refine S.x rfl rfl rfl rfl fun K' k' => ?_ | refine S.u rfl rfl rfl rfl fun K' k' => ?_); simp only [ze, reduceIte, Nat.reduceEqDiff]; refine k' _ _ ?_; clear k' K'))
        all_goals iterate 2 (first | (refine S.y rfl rfl rfl rfl fun K' k' => ?_; simp only [zz, reduceIte, Nat.reduceEqDiff, Nat.reduceAdd, hwn, bne_self_eq_false, hdx]; refine k' _ _ ?_; clear k' K') | ((first | refine S.x rfl rfl rfl rfl fun K' k' => ?_ | refine S.u rfl rfl rfl rfl fun K' k' => ?_); simp only [ze, reduceIte, Nat.reduceEqDiff]; refine k' _ _ ?_; clear k' K'))
        all_goals (first | (refine S.y rfl rfl rfl rfl fun K' k' => ?_; simp only [zz, reduceIte, Nat.reduceEqDiff, Nat.reduceLT, Nat.reduceLeDiff, Nat.reduceAdd, reduceCtorEq, Nat.reduceMul, hwn, bne_self_eq_false, hdx]; refine S.bool fun b a40 => ?_; cases b <;> (try (exfalso; first | exact Bool.noConfusion a40 | (have h := of_decide_eq_true a40; omega) | (have h := of_decide_eq_false a40; omega))) <;> (refine k' _ _ ?_; clear k' K')) | ((first | refine S.x rfl rfl rfl rfl fun K' k' => ?_ | refine S.u rfl rfl rfl rfl fun K' k' => ?_); simp only [ze, reduceIte, Nat.reduceEqDiff]; refine k' _ _ ?_; clear k' K'))
        all_goals iterate 3 (first | (refine S.y rfl rfl rfl rfl fun K' k' => ?_; simp only [zz, reduceIte, Nat.reduceEqDiff, Nat.reduceAdd, hwn, bne_self_eq_false, hdx]; refine k' _ _ ?_; clear k' K') | ((first | refine S.x rfl rfl rfl rfl fun K' k' => ?_ | refine S.u rfl rfl rfl rfl fun K' k' => ?_); simp only [ze, reduceIte, Nat.reduceEqDiff]; refine k' _ _ ?_; clear k' K'))
        all_goals (first | (refine S.y rfl rfl rfl rfl fun K' k' => ?_; simp only [zz, reduceIte, Nat.reduceEqDiff, Nat.reduceLT, Nat.reduceLeDiff, Nat.reduceAdd, reduceCtorEq, Nat.reduceMul, hwn, bne_self_eq_false, hdx]; refine S.bool fun b a44 => ?_; cases b <;> (try (exfalso; first | exact Bool.noConfusion a44 | (have h := of_decide_eq_true a44; omega) | (have h := of_decide_eq_false a44; omega))) <;> (refine k' _ _ ?_; clear k' K')) | ((first | refine S.x rfl rfl rfl rfl fun K' k' => ?_ | refine S.u rfl rfl rfl rfl fun K' k' => ?_); simp only [ze, reduceIte, Nat.reduceEqDiff]; refine k' _ _ ?_; clear k' K'))
        all_goals (first | (refine S.y rfl rfl rfl rfl fun K' k' => ?_; simp only [zz, reduceIte, Nat.reduceEqDiff, Nat.reduceAdd, hwn, bne_self_eq_false, hdx]; refine k' _ _ ?_; clear k' K') | ((first | refine S.x rfl rfl rfl rfl fun K' k' => ?_ | refine S.u rfl rfl rfl rfl fun K' k' => ?_); simp only [ze, reduceIte, Nat.reduceEqDiff]; refine k' _ _ ?_; clear k' K'))
        all_goals iterate 2 (refine S.g rfl rfl fun K' k' => ?_; simp only [zz, reduceIte, Nat.reduceEqDiff, Nat.reduceAdd, hwn, bne_self_eq_false, hdx]; refine k' _ _ ?_; clear k' K')
        all_goals iterate 2 (first | (refine S.y rfl rfl rfl rfl fun K' k' => ?_; simp only [zz, reduceIte, Nat.reduceEqDiff, Nat.reduceLT, Nat.reduceLeDiff, Nat.reduceAdd, reduceCtorEq, Nat.reduceMul, ok24, sz24, ag24, hwn, bne_self_eq_false, hdx]; refine k' _ _ ?_; clear k' K') | ((first | refine S.x rfl rfl rfl rfl fun K' k' => ?_ | refine S.u rfl rfl rfl rfl fun K' k' => ?_); simp only [ze, reduceIte, Nat.reduceEqDiff]; refine k' _ _ ?_; clear k' K'))
        all_goals (first | (refine S.y rfl rfl rfl rfl fun K' k' => ?_; simp only [zz, reduceIte, Nat.reduceEqDiff, Nat.reduceLT, Nat.reduceLeDiff, Nat.reduceAdd, reduceCtorEq, Nat.reduceMul, hwn, bne_self_eq_false, hdx]; refine PCalls.eqto haa ?_ <;> (refine k' _ _ ?_; clear k' K')) | ((first | refine S.x rfl rfl rfl rfl fun K' k' => ?_ | refine S.u rfl rfl rfl rfl fun K' k' => ?_); simp only [ze, reduceIte, Nat.reduceEqDiff]; refine k' _ _ ?_; clear k' K'))
        all_goals (first | (refine S.y rfl rfl rfl rfl fun K' k' => ?_; simp only [zz, reduceIte, Nat.reduceEqDiff, Nat.reduceAdd, hwn, bne_self_eq_false, hdx]; refine k' _ _ ?_; clear k' K') | ((first | refine S.x rfl rfl rfl rfl fun K' k' => ?_ | refine S.u rfl rfl rfl rfl fun K' k' => ?_); simp only [ze, reduceIte, Nat.reduceEqDiff]; refine k' _ _ ?_; clear k' K'))
        all_goals (refine S.g rfl rfl fun K' k' => ?_; simp only [zz, reduceIte, Nat.reduceEqDiff, Nat.reduceAdd, hwn, bne_self_eq_false, hdx]; refine k' _ _ ?_; clear k' K')
        all_goals refine S.nil ?_
        all_goals simp only [ze, reduceIte, Nat.reduceEqDiff, Nat.reduceLT, Nat.reduceLeDiff, Nat.reduceAdd, reduceCtorEq, Nat.reduceMul, hwn, bne_self_eq_false, hdx]
        all_goals exact rfl
    rintro s σ' ⟨e52, e3, e8, rfl⟩
    refine AW.cond (b := false) e52 (fun hc => by cases hc) (fun _ => AW.skip ?_)
    exact ⟨e3, e8, rfl⟩
  rintro s σ' ⟨e3, e8, rfl⟩
  refine AW.seq_k fun K3 h3 => ?_
  all_goals refine AW.region (T := { hp := fun d => d == 12 }) (fun _ _ h => by cases h) rfl ?_
  all_goals (refine S.g rfl rfl fun K' k' => ?_; simp only [zz, reduceIte, Nat.reduceEqDiff, Nat.reduceAdd, e3, e8, ptrV, isMap, cellsV, List.length_cons, List.length_nil, List.drop_succ_cons, List.drop_nil, List.cons_append, List.nil_append, true_and, not_false_eq_true]; refine k' _ _ ?_; clear k' K')
  all_goals (refine S.g rfl rfl fun K' k' => ?_; simp only [zz, reduceIte, Nat.reduceEqDiff, Nat.reduceLT, Nat.reduceLeDiff, Nat.reduceAdd, reduceCtorEq, Nat.reduceMul, e3, e8, ptrV, isMap, cellsV, List.length_cons, List.length_nil, List.drop_succ_cons, List.drop_nil, List.cons_append, List.nil_append, true_and, not_false_eq_true]; refine (newSet_spec rows _ hr hrows).to fun v σ1 hv => ?_; obtain ⟨g, rfl, hnew⟩ := hv <;> (refine k' _ _ ?_; clear k' K'))
  all_goals (refine S.g rfl rfl fun K' k' => ?_; simp only [zz, reduceIte, Nat.reduceEqDiff, Nat.reduceLT, Nat.reduceLeDiff, Nat.reduceAdd, reduceCtorEq, Nat.reduceMul, zt65, e3, e8, ptrV, isMap, cellsV, List.length_cons, List.length_nil, List.drop_succ_cons, List.drop_nil, List.cons_append, List.nil_append, true_and, not_false_eq_true]; intro r12 hr12 <;> (refine k' _ _ ?_; clear k' K'))
  all_goals (refine S.g rfl rfl fun K' k' => ?_; simp only [zz, reduceIte, Nat.reduceEqDiff, Nat.reduceLT, Nat.reduceLeDiff, Nat.reduceAdd, reduceCtorEq, Nat.reduceMul, ok65, sz65, ag65, e3, e8, ptrV, isMap, cellsV, List.length_cons, List.length_nil, List.drop_succ_cons, List.drop_nil, List.cons_append, List.nil_append, true_and, not_false_eq_true]; refine k' _ _ ?_; clear k' K')
  all_goals refine S.nil ?_
  all_goals simp only [ze, reduceIte, Nat.reduceEqDiff, Nat.reduceLT, Nat.reduceLeDiff, Nat.reduceAdd, reduceCtorEq, Nat.reduceMul, e3, e8, ptrV, isMap, cellsV, List.length_cons, List.length_nil, List.drop_succ_cons, List.drop_nil, List.cons_append, List.nil_append, true_and, not_false_eq_true]
  all_goals apply_assumption
  have ho12 : (σ1.setObj r12 (some [.c (.pointer (some ⟨g, 0, none⟩))])).obj r12 = some [.c (.pointer (some ⟨g, 0, none⟩))] := by simp
  have hpg : PSet g (setL rows) (σ1.setObj r12 (some [.c (.pointer (some ⟨g, 0, none⟩))])) := hnew.set.frame (by
    have : g ≠ r12 := fun e => by
      obtain ⟨lv, h⟩ := hnew.set.ex
      rw [e, hr12] at h; cases h
    simp [this]) (fun k _ => rfl)
  have hr8g : r8 ≠ g := fun e => by
    have := hnew.new
    rw [← e] at this; simp at this
  have ho8 : (σ1.setObj r12 (some [.c (.pointer (some ⟨g, 0, none⟩))])).obj r8 = some [.c (.bool false)] := by
    have h1 : r8 ≠ r12 := fun e => by
      have := hnew.obj r8 hr8g
      rw [e, hr12] at this
      simp at this
    simp only [Hp.setObj_obj, if_neg h1, hnew.obj r8 hr8g, if_true]
  obtain ⟨hsrt, hlen, hmem⟩ := setL_ind rows
  generalize setL rows = rs at hpg hsrt hlen hmem
  have hSok : ∀ x ∈ rs, okI x := fun x hx => hrows x (hmem x hx)
  have hne12 : ∀ x, (σ1.setObj r12 (some [.c (.pointer (some ⟨g, 0, none⟩))])).obj x = none → x ≠ r12 ∧ x ≠ g ∧ x ≠ r8 := fun x hx => by
    refine ⟨fun e => ?_, fun e => ?_, fun e => ?_⟩
    · rw [e, ho12] at hx; cases hx
    · obtain ⟨lv, h⟩ := hpg.ex
      rw [e, h] at hx; cases hx
    · rw [e, ho8] at hx; cases hx
  clear hnew hr8g hr12
  generalize σ1.setObj r12 (some [.c (.pointer (some ⟨g, 0, none⟩))]) = σ2 at hpg ho8 ho12 hne12 ⊢
  refine AW.seq_k fun K4 h4 => ?_
  refine AW.seq_k fun K5 h5 => ?_
  all_goals refine AW.reg0 ?_
  all_goals iterate 2 (refine S.g rfl rfl fun K' k' => ?_; simp only [zz, reduceIte, Nat.reduceEqDiff, Nat.reduceLT, Nat.reduceLeDiff, Nat.reduceAdd, reduceCtorEq, Nat.reduceMul, ok65, sz65, ag65, un65, ho12, ptrV, isMap_c, un65, TypeDesc.pointer.injEq]; refine k' _ _ ?_; clear k' K')
  all_goals refine S.nil ?_
  all_goals simp only [ze, reduceIte, Nat.reduceEqDiff, Nat.reduceLT, Nat.reduceLeDiff, Nat.reduceAdd, reduceCtorEq, Nat.reduceMul, ho12, ptrV, isMap_c, un65, TypeDesc.pointer.injEq]
  all_goals apply_assumption
  refine AW.cond (b := false) (by simp [ev]) (fun hc => by cases hc) (fun hc => ?_)
  refine AW.skip ?_
  all_goals simp only [zs, reduceIte, Nat.reduceEqDiff, Nat.reduceLT, Nat.reduceLeDiff, Nat.reduceAdd, reduceCtorEq, Nat.reduceMul]
  all_goals apply_assumption
  refine AW.seq_k fun K6 h6 => ?_
  all_goals refine AW.region (T := { hp := fun d => d == 13 }) (fun _ _ h => by cases h) rfl ?_
  all_goals (refine S.g rfl rfl fun K' k' => ?_; simp only [zz, reduceIte, Nat.reduceEqDiff, Nat.reduceLT, Nat.reduceLeDiff, Nat.reduceAdd, reduceCtorEq, Nat.reduceMul, zt24]; intro r13 hr13 <;> (refine k' _ _ ?_; clear k' K'))
  all_goals refine S.nil ?_
  all_goals simp only [ze, reduceIte, Nat.reduceEqDiff, Nat.reduceLT, Nat.reduceLeDiff, Nat.reduceAdd, reduceCtorEq, Nat.reduceMul]
  all_goals apply_assumption
  refine AW.seq_k fun K7 h7 => ?_
  all_goals refine AW.region (T := { hp := fun d => d == 14 }) (fun _ _ h => by cases h) rfl ?_
  all_goals (refine S.g rfl rfl fun K' k' => ?_; simp only [zz, reduceIte, Nat.reduceEqDiff, Nat.reduceLT, Nat.reduceLeDiff, Nat.reduceAdd, reduceCtorEq, Nat.reduceMul, zt3, isMap_c, true_and]; intro r14 hr14 <;> (refine k' _ _ ?_; clear k' K'))
  all_goals (refine S.g rfl rfl fun K' k' => ?_; simp only [zz, reduceIte, Nat.reduceEqDiff, Nat.reduceLT, Nat.reduceLeDiff, Nat.reduceAdd, reduceCtorEq, Nat.reduceMul, ok3, sz3, ag3, isMap_c, true_and]; refine k' _ _ ?_; clear k' K')
  all_goals refine S.nil ?_
  all_goals simp only [ze, reduceIte, Nat.reduceEqDiff, Nat.reduceLT, Nat.reduceLeDiff, Nat.reduceAdd, reduceCtorEq, Nat.reduceMul, isMap_c, true_and]
  all_goals apply_assumption
  have hri0 : RI g r8 r12 r13 r14 rs 0 ((σ2.setObj r13 (some [.c (.slice none 0 0)])).setObj r14 (some [.c (.int .i64 (0 : Int))])) := by
    obtain ⟨m1, m2, m3⟩ := hne12 r13 hr13
    have m0 : r14 ≠ r13 := fun e => by rw [e] at hr14; simp at hr14
    have hq : σ2.obj r14 = none := by simpa [m0] using hr14
    obtain ⟨q1, q2, q3⟩ := hne12 r14 hq
    refine ⟨hpg.frame (by simp [Ne.symm m2, Ne.symm q2]) (fun k _ => rfl), by simp [Ne.symm m3, Ne.symm q3, ho8], by simp [Ne.symm m1, Ne.symm q1, ho12], ⟨.c (.slice none 0 0), by simp [Ne.symm m0], rfl, fun h => by omega⟩, by simp⟩
  have hne : r12 ≠ r13 ∧ r12 ≠ r14 ∧ r8 ≠ r13 ∧ r8 ≠ r14 ∧ r13 ≠ r14 ∧ g ≠ r13 ∧ g ≠ r14 := by
    obtain ⟨m1, m2, m3⟩ := hne12 r13 hr13
    have m0 : r14 ≠ r13 := fun e => by rw [e] at hr14; simp at hr14
    have hq : σ2.obj r14 = none := by simpa [m0] using hr14
    obtain ⟨q1, q2, q3⟩ := hne12 r14 hq
    exact ⟨Ne.symm m1, Ne.symm q1, Ne.symm m3, Ne.symm q3, Ne.symm m0, Ne.symm m2, Ne.symm q2⟩
  clear hr14 hr13
  generalize (σ2.setObj r13 (some [.c (.slice none 0 0)])).setObj r14 (some [.c (.int .i64 (0 : Int))]) = σ3 at hri0 ⊢
  have hps0 := hri0.set
  have ho12' := hri0.o12
  have hlr : rs.length * 24 ≤ 140737488355328 := by omega
  refine AW.seq_j (fun s σ' => s.t 3 = .sl (rows.map encP) ∧ s.t 8 = .c (.pointer (some ⟨r8, 0, none⟩)) ∧ s.t 12 = .c (.pointer (some ⟨r12, 0, none⟩)) ∧ s.t 14 = .c (.pointer (some ⟨r14, 0, none⟩)) ∧ RI g r8 r12 r13 r14 rs rs.length σ') ?_ ?_
  · refine AW.seq_j (fun s σ' => s.t 3 = .sl (rows.map encP) ∧ s.t 8 = .c (.pointer (some ⟨r8, 0, none⟩)) ∧ s.t 12 = .c (.pointer (some ⟨r12, 0, none⟩)) ∧ s.t 13 = .c (.pointer (some ⟨r13, 0, none⟩)) ∧ s.t 14 = .c (.pointer (some ⟨r14, 0, none⟩)) ∧ s.t 58 = .fn (.func 95) [] [capV rs] ∧ σ' = σ3) ?_ ?_
    · skip
      all_goals refine AW.reg0 ?_
      all_goals (refine S.g rfl rfl fun K' k' => ?_; simp only [zz, reduceIte, Nat.reduceEqDiff, Nat.reduceLT, Nat.reduceLeDiff, Nat.reduceAdd, reduceCtorEq, Nat.reduceMul, ok65, sz65, ag65, ho12', isMap_c, List.getD_cons_zero, e3, e8]; refine k' _ _ ?_; clear k' K')
      all_goals (refine S.g rfl rfl fun K' k' => ?_; simp only [zz, reduceIte, Nat.reduceEqDiff, Nat.reduceLT, Nat.reduceLeDiff, Nat.reduceAdd, reduceCtorEq, Nat.reduceMul, ho12', isMap_c, List.getD_cons_zero, e3, e8]; refine (setAll_spec g rs _ hps0 hlr hSok).to fun v σx hv => ?_; obtain ⟨rfl, rfl⟩ := hv <;> (refine k' _ _ ?_; clear k' K'))
      all_goals refine S.nil ?_
      all_goals simp only [ze, reduceIte, Nat.reduceEqDiff, Nat.reduceLT, Nat.reduceLeDiff, Nat.reduceAdd, reduceCtorEq, Nat.reduceMul, ho12', isMap_c, List.getD_cons_zero, e3, e8]
    rintro s σ' ⟨e3, e8, e12, e13, e14, e58, rfl⟩
    refine AW.block ?_   -- 0
    refine AW.rangeFunc (f := 95) (caps := [capV rs]) (xs := rs.map partA) (by simp [ev, e58]) (iter_all rs (fun l hl => ⟨(hSok l hl).attrs, (hSok l hl).len⟩) (by omega)) (fun v hv => by simp at hv; rw [hv]; exact imm_cap rs) (by decide) (fun i σ' => RI g r8 r12 r13 r14 rs i σ') (fun _ _ => False) hri0 ?_ ?_ (fun _ h => h.elim) (fun _ _ h => h.elim)
    · intro r i v σ4 hv hri
      obtain ⟨x, hx, rfl⟩ : ∃ x, rs[i]? = some x ∧ v = partA x := by
        rw [List.getElem?_map, Option.map_eq_some_iff] at hv
        obtain ⟨x, h, e⟩ := hv
        exact ⟨x, h, e.symm⟩
      have hxm := List.mem_of_getElem? hx
      have hil := (List.getElem?_eq_some_iff.1 hx).1
      have f8 : ((plainS s).put 59 (partA x)).t 8 = .c (.pointer (some ⟨r8, 0, none⟩)) := by simp [plainS, keepV, e8]
      have f12 : ((plainS s).put 59 (partA x)).t 12 = .c (.pointer (some ⟨r12, 0, none⟩)) := by simp [plainS, keepV, e12]
      have f13 : ((plainS s).put 59 (partA x)).t 13 = .c (.pointer (some ⟨r13, 0, none⟩)) := by simp [plainS, keepV, e13]
      have f14 : ((plainS s).put 59 (partA x)).t 14 = .c (.pointer (some ⟨r14, 0, none⟩)) := by simp [plainS, keepV, e14]
      have f59 : ((plainS s).put 59 (partA x)).t 59 = .agg [.sl (x.map encBd)] := by simp [partA]
      generalize (plainS s).put 59 (partA x) = s1 at f8 f12 f13 f14 f59 ⊢
      obtain ⟨hps5, o8, o12, ⟨lv, o13, oml, olast⟩, o14⟩ := hri
      have hhas := has_spec g rs x σ4 hps5 hsrt (by omega) (fun y hy => by have := (hSok y hy).len; omega)
      rw [hasL_self hxm] at hhas
      have hw1 : IntKind.i64.wrap ((i : Int) + 1) = ((i + 1 : Nat) : Int) := by rw [wrap_small _ (by omega) (by omega)]; rfl
      all_goals refine AWR.reg0 ⟨rfl, ?_⟩
      all_goals iterate 2 (refine S.g rfl rfl fun K' k' => ?_; simp only [zz, reduceIte, Nat.reduceEqDiff, Nat.reduceLT, Nat.reduceLeDiff, Nat.reduceAdd, reduceCtorEq, Nat.reduceMul, zt24, ok24, sz24, ag24, f59]; refine k' _ _ ?_; clear k' K')
      all_goals refine S.nil ?_
      all_goals simp only [ze, reduceIte, Nat.reduceEqDiff, Nat.reduceLT, Nat.reduceLeDiff, Nat.reduceAdd, reduceCtorEq, Nat.reduceMul, f59]
      refine AWR.block ?_
      refine AWR.seq_k fun K2 k2 => ?_
      refine AWR.seq_k fun K3 k3 => ?_
      obtain ⟨n1, n2, n3, n4, n5, n6, n7⟩ := hne
      have hn43 : (r14 = r13) = False := eq_false (Ne.symm n5)
      have hgo : ∀ s2 σ2, (σ2 = σ4 ∧ s2.t 73 = .c (.bool false) ∧ s2.t 13 = .c (.pointer (some ⟨r13, 0, none⟩)) ∧ s2.t 14 = .c (.pointer (some ⟨r14, 0, none⟩)) ∧ s2.t 15 = .lp 15 0 ∧ s2.l 15 = some [.sl (x.map encBd)]) → thenS K3 (thenS K2 (inBlockS 1 (roundS (fun σ' => RI g r8 r12 r13 r14 rs (i + 1) σ') fun _ _ => False))) .normal s2 σ2 := by
        rintro s2 σ2 ⟨rfl, g73, g13, g14, g15, m15⟩
        refine k3 _ _ ?_
        refine AWR.cond (b := false) g73 (fun hc => by cases hc) (fun _ => ?_)
        refine AWR.skip ?_
        refine k2 _ _ ?_
        refine AWR.seq_k fun K4 k4 => ?_
        all_goals refine AWR.reg0 ⟨rfl, ?_⟩
        all_goals iterate 2 (refine S.g rfl rfl fun K' k' => ?_; simp only [zz, reduceIte, Nat.reduceEqDiff, Nat.reduceLT, Nat.reduceLeDiff, Nat.reduceAdd, reduceCtorEq, Nat.reduceMul, ok24, sz24, ag24, g15, m15, g13, o13, oml, List.length_cons, List.length_nil, List.drop_succ_cons, List.drop_nil, true_and]; refine k' _ _ ?_; clear k' K')
        all_goals refine S.nil ?_
        all_goals simp only [ze, reduceIte, Nat.reduceEqDiff, Nat.reduceLT, Nat.reduceLeDiff, Nat.reduceAdd, reduceCtorEq, Nat.reduceMul, g15, m15, g13, o13, oml, List.length_cons, List.length_nil, List.drop_succ_cons, List.drop_nil, true_and]
        refine k4 _ _ ?_
        all_goals refine AWR.reg0 ⟨rfl, ?_⟩
        all_goals iterate 3 (refine S.g rfl rfl fun K' k' => ?_; simp only [zz, reduceIte, Nat.reduceEqDiff, Nat.reduceLT, Nat.reduceLeDiff, Nat.reduceAdd, reduceCtorEq, Nat.reduceMul, ok3, sz3, ag3, g14, o14, hn43, if_false, isMap_c, List.getD_cons_zero, hw1, List.length_cons, List.length_nil, List.drop_succ_cons, List.drop_nil, true_and]; refine k' _ _ ?_; clear k' K')
        all_goals refine S.nil ?_
        all_goals simp only [ze, reduceIte, Nat.reduceEqDiff, Nat.reduceLT, Nat.reduceLeDiff, Nat.reduceAdd, reduceCtorEq, Nat.reduceMul, g14, o14, hn43, if_false, isMap_c, List.getD_cons_zero, hw1, List.length_cons, List.length_nil, List.drop_succ_cons, List.drop_nil, true_and]
        exact ⟨hps5.frame (by simp [n6, n7]) (fun k _ => rfl), by simp [n3, n4, o8], by simp [n1, n2, o12], ⟨.sl (x.map encBd), by simp [n5], rfl, fun _ => ⟨x, hx, rfl⟩⟩, by simp⟩
      by_cases hi0 : i = 0
      · have hd0 : decide ((i : Int) > 0) = false := by simp; omega
        all_goals refine AWR.reg0 ⟨rfl, ?_⟩
        all_goals (refine S.g rfl rfl fun K' k' => ?_; simp only [zz, reduceIte, Nat.reduceEqDiff, Nat.reduceLT, Nat.reduceLeDiff, Nat.reduceAdd, reduceCtorEq, Nat.reduceMul, ok3, sz3, ag3, f8, f12, f13, f14, o8, o12, o13, o14, isMap_c, List.getD_cons_zero, hd0]; refine k' _ _ ?_; clear k' K')
        all_goals (refine S.g rfl rfl fun K' k' => ?_; simp only [zz, reduceIte, Nat.reduceEqDiff, Nat.reduceLT, Nat.reduceLeDiff, Nat.reduceAdd, reduceCtorEq, Nat.reduceMul, f8, f12, f13, f14, o8, o12, o13, o14, isMap_c, List.getD_cons_zero, hd0]; refine S.bool fun b a61 => ?_; cases b <;> (try (exfalso; first | exact Bool.noConfusion a61 | (have h := of_decide_eq_true a61; omega) | (have h := of_decide_eq_false a61; omega))) <;> (refine k' _ _ ?_; clear k' K'))
        all_goals (refine S.g rfl rfl fun K' k' => ?_; simp only [zz, reduceIte, Nat.reduceEqDiff, Nat.reduceAdd, f8, f12, f13, f14, o8, o12, o13, o14, isMap_c, List.getD_cons_zero, hd0]; refine k' _ _ ?_; clear k' K')
        all_goals iterate 2 (first | (refine S.y rfl rfl rfl rfl fun K' k' => ?_; simp only [zz, reduceIte, Nat.reduceEqDiff, Nat.reduceLT, Nat.reduceLeDiff, Nat.reduceAdd, reduceCtorEq, Nat.reduceMul, ok24, sz24, ag24, f8, f12, f13, f14, o8, o12, o13, o14, isMap_c, List.getD_cons_zero, hd0]; refine k' _ _ ?_; clear k' K') | ((first | refine S.x rfl rfl rfl rfl fun K' k' => ?_ | refine S.u rfl rfl rfl rfl fun K' k' => ?_); simp only [ze, reduceIte, Nat.reduceEqDiff]; refine k' _ _ ?_; clear k' K'))
        all_goals (first | (refine S.y rfl rfl rfl rfl fun K' k' => ?_; simp only [zz, reduceIte, Nat.reduceEqDiff, Nat.reduceLT, Nat.reduceLeDiff, Nat.reduceAdd, reduceCtorEq, Nat.reduceMul, f8, f12, f13, f14, o8, o12, o13, o14, isMap_c, List.getD_cons_zero, hd0]; refine PCalls.eqto (compare_part y x hyl) ?_ <;> (refine k' _ _ ?_; clear k' K')) | ((first | refine S.x rfl rfl rfl rfl fun K' k' => ?_ | refine S.u rfl rfl rfl rfl fun K' k' => ?_); simp only [ze, reduceIte, Nat.reduceEqDiff]; refine k' _ _ ?_; clear k' K'))
        all_goals (first | (refine S.y rfl rfl rfl rfl fun K' k' => ?_; simp only [zz, reduceIte, Nat.reduceEqDiff, Nat.reduceLT, Nat.reduceLeDiff, Nat.reduceAdd, reduceCtorEq, Nat.reduceMul, f8, f12, f13, f14, o8, o12, o13, o14, isMap_c, List.getD_cons_zero, hd0]; refine S.bool fun b a66 => ?_; cases b <;> (try (exfalso; first | exact Bool.noConfusion a66 | (have h := of_decide_eq_true a66; omega) | (have h := of_decide_eq_false a66; omega))) <;> (refine k' _ _ ?_; clear k' K')) | ((first | refine S.x rfl rfl rfl rfl fun K' k' => ?_ | refine S.u rfl rfl rfl rfl fun K' k' => ?_); simp only [ze, reduceIte, Nat.reduceEqDiff]; refine k' _ _ ?_; clear k' K'))
        all_goals iterate 2 (refine S.g rfl rfl fun K' k' => ?_; simp only [zz, reduceIte, Nat.reduceEqDiff, Nat.reduceAdd, f8, f12, f13, f14, o8, o12, o13, o14, isMap_c, List.getD_cons_zero, hd0]; refine k' _ _ ?_; clear k' K')
        all_goals iterate 2 (first | (refine S.y rfl rfl rfl rfl fun K' k' => ?_; simp only [zz, reduceIte, Nat.reduceEqDiff, Nat.reduceLT, Nat.reduceLeDiff, Nat.reduceAdd, reduceCtorEq, Nat.reduceMul, ok65, sz65, ag65, ok24, sz24, ag24, f8, f12, f13, f14, o8, o12, o13, o14, isMap_c, List.getD_cons_zero, hd0]; refine k' _ _ ?_; clear k' K') | ((first | refine S.x rfl rfl rfl rfl fun K' k' => ?_ | refine S.u rfl rfl rfl rfl fun K' k' => ?_); simp only [ze, reduceIte, Nat.reduceEqDiff]; refine k' _ _ ?_; clear k' K'))
        all_goals (first | (refine S.y rfl rfl rfl rfl fun K' k' => ?_; simp only [zz, reduceIte, Nat.reduceEqDiff, Nat.reduceLT, Nat.reduceLeDiff, Nat.reduceAdd, reduceCtorEq, Nat.reduceMul, f8, f12, f13, f14, o8, o12, o13, o14, isMap_c, List.getD_cons_zero, hd0]; refine hhas.to fun v σx hv => ?_; obtain ⟨rfl, rfl⟩ := hv <;> (refine k' _ _ ?_; clear k' K')) | ((first | refine S.x rfl rfl rfl rfl fun K' k' => ?_ | refine S.u rfl rfl rfl rfl fun K' k' => ?_); simp only [ze, reduceIte, Nat.reduceEqDiff]; refine k' _ _ ?_; clear k' K'))
        all_goals (first | (refine S.y rfl rfl rfl rfl fun K' k' => ?_; simp only [zz, reduceIte, Nat.reduceEqDiff, Nat.reduceAdd, f8, f12, f13, f14, o8, o12, o13, o14, isMap_c, List.getD_cons_zero, hd0]; refine k' _ _ ?_; clear k' K') | ((first | refine S.x rfl rfl rfl rfl fun K' k' => ?_ | refine S.u rfl rfl rfl rfl fun K' k' => ?_); simp only [ze, reduceIte, Nat.reduceEqDiff]; refine k' _ _ ?_; clear k' K'))
        all_goals (refine S.g rfl rfl fun K' k' => ?_; simp only [zz, reduceIte, Nat.reduceEqDiff, Nat.reduceAdd, f8, f12, f13, f14, o8, o12, o13, o14, isMap_c, List.getD_cons_zero, hd0]; refine k' _ _ ?_; clear k' K')
        all_goals refine S.nil ?_
        all_goals simp only [ze, reduceIte, Nat.reduceEqDiff, Nat.reduceLT, Nat.reduceLeDiff, Nat.reduceAdd, reduceCtorEq, Nat.reduceMul, f8, f12, f13, f14, o8, o12, o13, o14, isMap_c, List.getD_cons_zero, hd0]
        all_goals exact hgo _ _ ⟨rfl, rfl, by simp [kill, f13], by simp [kill, f14], rfl, rfl⟩
      · have hd0 : decide ((i : Int) > 0) = true := by simp; omega
        obtain ⟨y, hy, rfl⟩ := olast (by omega)
        have hyl : y.length < 4611686018427387904 := by have := (hSok y (List.mem_of_getElem? hy)).len; omega
        have hyx : cmpL y x < 0 := hsrt.get hy hx (by omega)
        have hd1 : decide (cmpL y x ≥ 0) = false := by simp; omega
        all_goals refine AWR.reg0 ⟨rfl, ?_⟩
        all_goals (refine S.g rfl rfl fun K' k' => ?_; simp only [zz, reduceIte, Nat.reduceEqDiff, Nat.reduceLT, Nat.reduceLeDiff, Nat.reduceAdd, reduceCtorEq, Nat.reduceMul, ok3, sz3, ag3, f8, f12, f13, f14, o8, o12, o13, o14, isMap_c, isMap_sl, List.getD_cons_zero, hd0, hd1]; refine k' _ _ ?_; clear k' K')
        all_goals (refine S.g rfl rfl fun K' k' => ?_; simp only [zz, reduceIte, Nat.reduceEqDiff, Nat.reduceLT, Nat.reduceLeDiff, Nat.reduceAdd, reduceCtorEq, Nat.reduceMul, f8, f12, f13, f14, o8, o12, o13, o14, isMap_c, isMap_sl, List.getD_cons_zero, hd0, hd1]; refine S.bool fun b a61 => ?_; cases b <;> (try (exfalso; first | exact Bool.noConfusion a61 | (have h := of_decide_eq_true a61; omega) | (have h := of_decide_eq_false a61; omega))) <;> (refine k' _ _ ?_; clear k' K'))
        all_goals (refine S.g rfl rfl fun K' k' => ?_; simp only [zz, reduceIte, Nat.reduceEqDiff, Nat.reduceAdd, f8, f12, f13, f14, o8, o12, o13, o14, isMap_c, isMap_sl, List.getD_cons_zero, hd0, hd1]; refine k' _ _ ?_; clear k' K')
        all_goals iterate 2 (first | (refine S.y rfl rfl rfl rfl fun K' k' => ?_; simp only [zz, reduceIte, Nat.reduceEqDiff, Nat.reduceLT, Nat.reduceLeDiff, Nat.reduceAdd, reduceCtorEq, Nat.reduceMul, ok24, sz24, ag24, f8, f12, f13, f14, o8, o12, o13, o14, isMap_c, isMap_sl, List.getD_cons_zero, hd0, hd1]; refine k' _ _ ?_; clear k' K') | ((first | refine S.x rfl rfl rfl rfl fun K' k' => ?_ | refine S.u rfl rfl rfl rfl fun K' k' => ?_); simp only [ze, reduceIte, Nat.reduceEqDiff]; refine k' _ _ ?_; clear k' K'))
        all_goals (first | (refine S.y rfl rfl rfl rfl fun K' k' => ?_; simp only [zz, reduceIte, Nat.reduceEqDiff, Nat.reduceLT, Nat.reduceLeDiff, Nat.reduceAdd, reduceCtorEq, Nat.reduceMul, f8, f12, f13, f14, o8, o12, o13, o14, isMap_c, isMap_sl, List.getD_cons_zero, hd0, hd1]; refine PCalls.eqto (compare_part y x hyl) ?_ <;> (refine k' _ _ ?_; clear k' K')) | ((first | refine S.x rfl rfl rfl rfl fun K' k' => ?_ | refine S.u rfl rfl rfl rfl fun K' k' => ?_); simp only [ze, reduceIte, Nat.reduceEqDiff]; refine k' _ _ ?_; clear k' K'))
        all_goals (first | (refine S.y rfl rfl rfl rfl fun K' k' => ?_; simp only [zz, reduceIte, Nat.reduceEqDiff, Nat.reduceLT, Nat.reduceLeDiff, Nat.reduceAdd, reduceCtorEq, Nat.reduceMul, f8, f12, f13, f14, o8, o12, o13, o14, isMap_c, isMap_sl, List.getD_cons_zero, hd0, hd1]; refine S.bool fun b a66 => ?_; cases b <;> (try (exfalso; first | exact Bool.noConfusion a66 | (have h := of_decide_eq_true a66; omega) | (have h := of_decide_eq_false a66; omega))) <;> (refine k' _ _ ?_; clear k' K')) | ((first | refine S.x rfl rfl rfl rfl fun K' k' => ?_ | refine S.u rfl rfl rfl rfl fun K' k' => ?_); simp only [ze, reduceIte, Nat.reduceEqDiff]; refine k' _ _ ?_; clear k' K'))
        all_goals iterate 2 (refine S.g rfl rfl fun K' k' => ?_; simp only [zz, reduceIte, Nat.reduceEqDiff, Nat.reduceAdd, f8, f12, f13, f14, o8, o12, o13, o14, isMap_c, isMap_sl, List.getD_cons_zero, hd0, hd1]; refine k' _ _ ?_; clear k' K')
        all_goals iterate 2 (first | (refine S.y rfl rfl rfl rfl fun K' k' => ?_; simp only [zz, reduceIte, Nat.reduceEqDiff, Nat.reduceLT, Nat.reduceLeDiff, Nat.reduceAdd, reduceCtorEq, Nat.reduceMul, ok65, sz65, ag65, ok24, sz24, ag24, f8, f12, f13, f14, o8, o12, o13, o14, isMap_c, isMap_sl, List.getD_cons_zero, hd0, hd1]; refine k' _ _ ?_; clear k' K') | ((first | refine S.x rfl rfl rfl rfl fun K' k' => ?_ | refine S.u rfl rfl rfl rfl fun K' k' => ?_); simp only [ze, reduceIte, Nat.reduceEqDiff]; refine k' _ _ ?_; clear k' K'))
        all_goals (first | (refine S.y rfl rfl rfl rfl fun K' k' => ?_; simp only [zz, reduceIte, Nat.reduceEqDiff, Nat.reduceLT, Nat.reduceLeDiff, Nat.reduceAdd, reduceCtorEq, Nat.reduceMul, f8, f12, f13, f14, o8, o12, o13, o14, isMap_c, isMap_sl, List.getD_cons_zero, hd0, hd1]; refine hhas.to fun v σx hv => ?_; obtain ⟨rfl, rfl⟩ := hv <;> (refine k' _ _ ?_; clear k' K')) | ((first | refine S.x rfl rfl rfl rfl fun K' k' => ?_ | refine S.u rfl rfl rfl rfl fun K' k' => ?_); simp only [ze, reduceIte, Nat.reduceEqDiff]; refine k' _ _ ?_; clear k' K'))
        all_goals (first | (refine S.y rfl rfl rfl rfl fun K' k' => ?_; simp only [zz, reduceIte, Nat.reduceEqDiff, Nat.reduceAdd, f8, f12, f13, f14, o8, o12, o13, o14, isMap_c, isMap_sl, List.getD_cons_zero, hd0, hd1]; refine k' _ _ ?_; clear k' K') | ((first | refine S.x rfl rfl rfl rfl fun K' k' => ?_ | refine S.u rfl rfl rfl rfl fun K' k' => ?_); simp only [ze, reduceIte, Nat.reduceEqDiff]; refine k' _ _ ?_; clear k' K'))
        all_goals (refine S.g rfl rfl fun K' k' => ?_; simp only [zz, reduceIte, Nat.reduceEqDiff, Nat.reduceAdd, f8, f12, f13, f14, o8, o12, o13, o14, isMap_c, isMap_sl, List.getD_cons_zero, hd0, hd1]; refine k' _ _ ?_; clear k' K')
        all_goals refine S.nil ?_
        all_goals simp only [ze, reduceIte, Nat.reduceEqDiff, Nat.reduceLT, Nat.reduceLeDiff, Nat.reduceAdd, reduceCtorEq, Nat.reduceMul, f8, f12, f13, f14, o8, o12, o13, o14, isMap_c, isMap_sl, List.getD_cons_zero, hd0, hd1]
        all_goals exact hgo _ _ ⟨rfl, rfl, by simp [kill, f13], by simp [kill, f14], rfl, rfl⟩
    · intro σ4 hri
      have hl : (rs.map partA).length = rs.length := by simp
      rw [hl] at hri
      exact ⟨by simp [plainS, keepV, e3], by simp [plainS, keepV, e8], by simp [plainS, keepV, e12], by simp [plainS, keepV, e14], hri⟩
  rintro s σ4 ⟨e3, e8, e12, e14, hri⟩
  have ho8' := hri.o8
  have ho12'' := hri.o12
  have ho14' := hri.o14
  have hps4 := hri.set
  have hbl2 : decide ((rs.length : Int) ≤ (rows.length : Int)) = true := by simp; omega
  refine AW.seq_k fun K8 h8 => ?_
  all_goals refine AW.drawF (T := { sd := fun _ => false }) (fun _ _ h => by cases h) mixedO (.fork 0 (.st 1 2 (.st 2 2 (.st 3 0 (.st 4 0 (.st 6 0 (.st 7 0 (.st 5 2 (.st 8 0 (.st 9 0 (.st 10 2 .nil)))))))))) 1 (.fork 0 (.st 2 2 (.st 3 0 (.st 4 0 (.st 6 0 (.st 7 0 (.st 5 2 (.st 8 0 (.st 9 0 (.st 10 2 .nil))))))))) 2 (.st 0 2 (.st 3 0 (.st 4 0 (.st 6 0 (.st 7 0 (.st 5 2 (.st 8 0 (.st 9 0 (.st 10 2 .nil))))))))))) rfl (by kernel_rfl) (by kernel_rfl) ?_
  all_goals (try first | refine F.fork ?_ ?_ | refine F.fork3 ?_ ?_ ?_)
  all_goals first | (refine F.g rfl trivial rfl rfl fun K' k' => ?_; simp only [zz, reduceIte, Nat.reduceEqDiff, Nat.reduceLT, Nat.reduceLeDiff, Nat.reduceAdd, reduceCtorEq, Nat.reduceMul, ok3, sz3, ag3, e3, e8, e12, e14, ho8', ho12'', ho14', isMap_c, List.getD_cons_zero, List.length_map, hbl2, beq_self_eq_true, List.length_cons, List.length_nil, true_and, List.drop_succ_cons, List.drop_nil]; refine k' _ _ ?_; clear k' K') | (refine F.g rfl trivial rfl rfl fun K' k' => ?_; simp only [zz, reduceIte, Nat.reduceEqDiff, Nat.reduceLT, Nat.reduceLeDiff, Nat.reduceAdd, reduceCtorEq, Nat.reduceMul, ok65, sz65, ag65, e3, e8, e12, e14, ho8', ho12'', ho14', isMap_c, List.getD_cons_zero, List.length_map, hbl2, beq_self_eq_true, List.length_cons, List.length_nil, true_and, List.drop_succ_cons, List.drop_nil]; refine k' _ _ ?_; clear k' K')
  all_goals (try first | refine F.fork ?_ ?_ | refine F.fork3 ?_ ?_ ?_)
  all_goals first | (refine F.g rfl trivial rfl rfl fun K' k' => ?_; simp only [zz, reduceIte, Nat.reduceEqDiff, Nat.reduceLT, Nat.reduceLeDiff, Nat.reduceAdd, reduceCtorEq, Nat.reduceMul, e3, e8, e12, e14, ho8', ho12'', ho14', isMap_c, List.getD_cons_zero, List.length_map, hbl2, beq_self_eq_true, List.length_cons, List.length_nil, true_and, List.drop_succ_cons, List.drop_nil]; refine (len_spec g rs _ hps4).to fun v σx hv => ?_; obtain ⟨rfl, rfl⟩ := hv <;> (refine k' _ _ ?_; clear k' K')) | (refine F.g rfl trivial rfl rfl fun K' k' => ?_; simp only [zz, reduceIte, Nat.reduceEqDiff, Nat.reduceLT, Nat.reduceLeDiff, Nat.reduceAdd, reduceCtorEq, Nat.reduceMul, ok65, sz65, ag65, e3, e8, e12, e14, ho8', ho12'', ho14', isMap_c, List.getD_cons_zero, List.length_map, hbl2, beq_self_eq_true, List.length_cons, List.length_nil, true_and, List.drop_succ_cons, List.drop_nil]; refine k' _ _ ?_; clear k' K') | (refine F.g rfl trivial rfl rfl fun K' k' => ?_; simp only [zz, reduceIte, Nat.reduceEqDiff, Nat.reduceLT, Nat.reduceLeDiff, Nat.reduceAdd, reduceCtorEq, Nat.reduceMul, ok3, sz3, ag3, e3, e8, e12, e14, ho8', ho12'', ho14', isMap_c, List.getD_cons_zero, List.length_map, hbl2, beq_self_eq_true, List.length_cons, List.length_nil, true_and, List.drop_succ_cons, List.drop_nil]; refine k' _ _ ?_; clear k' K')
  all_goals first | (refine F.g rfl trivial rfl rfl fun K' k' => ?_; simp only [zz, reduceIte, Nat.reduceEqDiff, Nat.reduceLT, Nat.reduceLeDiff, Nat.reduceAdd, reduceCtorEq, Nat.reduceMul, e3, e8, e12, e14, ho8', ho12'', ho14', isMap_c, List.getD_cons_zero, List.length_map, hbl2, beq_self_eq_true, List.length_cons, List.length_nil, true_and, List.drop_succ_cons, List.drop_nil]; refine (len_spec g rs _ hps4).to fun v σx hv => ?_; obtain ⟨rfl, rfl⟩ := hv <;> (refine k' _ _ ?_; clear k' K')) | (refine F.g rfl trivial rfl rfl fun K' k' => ?_; simp only [zz, reduceIte, Nat.reduceEqDiff, Nat.reduceLT, Nat.reduceLeDiff, Nat.reduceAdd, reduceCtorEq, Nat.reduceMul, ok3, sz3, ag3, e3, e8, e12, e14, ho8', ho12'', ho14', isMap_c, List.getD_cons_zero, List.length_map, hbl2, beq_self_eq_true, List.length_cons, List.length_nil, true_and, List.drop_succ_cons, List.drop_nil]; refine k' _ _ ?_; clear k' K')
  all_goals (refine F.g rfl trivial rfl rfl fun K' k' => ?_; simp only [zz, reduceIte, Nat.reduceEqDiff, Nat.reduceLT, Nat.reduceLeDiff, Nat.reduceAdd, reduceCtorEq, Nat.reduceMul, e3, e8, e12, e14, ho8', ho12'', ho14', isMap_c, List.getD_cons_zero, List.length_map, hbl2, beq_self_eq_true, List.length_cons, List.length_nil, true_and, List.drop_succ_cons, List.drop_nil]; refine S.bool fun b a80 => ?_; cases b <;> (try (exfalso; first | exact Bool.noConfusion a80 | (have h := of_decide_eq_true a80; omega) | (have h := of_decide_eq_false a80; omega))) <;> (refine k' _ _ ?_; clear k' K'))
  all_goals (refine F.g rfl trivial rfl rfl fun K' k' => ?_; simp only [zz, reduceIte, Nat.reduceEqDiff, Nat.reduceAdd, e3, e8, e12, e14, ho8', ho12'', ho14', isMap_c, List.getD_cons_zero, List.length_map, hbl2, beq_self_eq_true, List.length_cons, List.length_nil, true_and, List.drop_succ_cons, List.drop_nil]; refine k' _ _ ?_; clear k' K')
  all_goals iterate 4 (first | (refine F.y rfl trivial rfl rfl rfl rfl fun K' k' => ?_; simp only [zz, reduceIte, Nat.reduceEqDiff, Nat.reduceLT, Nat.reduceLeDiff, Nat.reduceAdd, reduceCtorEq, Nat.reduceMul, sl64, el64, ok24, sz24, ag24, ok3, sz3, ag3, e3, e8, e12, e14, ho8', ho12'', ho14', isMap_c, List.getD_cons_zero, List.length_map, hbl2, beq_self_eq_true, List.length_cons, List.length_nil, true_and, List.drop_succ_cons, List.drop_nil]; refine k' _ _ ?_; clear k' K') | ((first | refine F.x rfl (fun h => by cases h) rfl rfl rfl rfl fun K' k' => ?_ | refine F.u rfl (fun h => by cases h) rfl rfl rfl rfl fun K' k' => ?_); simp only [ze, reduceIte, Nat.reduceEqDiff]; refine k' _ _ ?_; clear k' K'))
  all_goals iterate 2 (refine F.g rfl trivial rfl rfl fun K' k' => ?_; simp only [zz, reduceIte, Nat.reduceEqDiff, Nat.reduceLT, Nat.reduceLeDiff, Nat.reduceAdd, reduceCtorEq, Nat.reduceMul, ok4, sz4, ag4, e3, e8, e12, e14, ho8', ho12'', ho14', isMap_c, List.getD_cons_zero, List.length_map, hbl2, beq_self_eq_true, List.length_cons, List.length_nil, true_and, List.drop_succ_cons, List.drop_nil]; refine k' _ _ ?_; clear k' K')
  all_goals refine F.nil ?_
  all_goals simp only [ze, reduceIte, Nat.reduceEqDiff, Nat.reduceLT, Nat.reduceLeDiff, Nat.reduceAdd, reduceCtorEq, Nat.reduceMul, e3, e8, e12, e14, ho8', ho12'', ho14', isMap_c, List.getD_cons_zero, List.length_map, hbl2, beq_self_eq_true, List.length_cons, List.length_nil, true_and, List.drop_succ_cons, List.drop_nil]
  all_goals apply_assumption
  all_goals refine AW.ret ?_
  all_goals simp only [zs, reduceIte, Nat.reduceEqDiff, Nat.reduceLT, Nat.reduceLeDiff, Nat.reduceAdd, reduceCtorEq, Nat.reduceMul, ok4, sz4, ag4, cut, List.drop_zero, List.take_succ_cons, List.take_zero, isMap_c, Hp.setObj_obj, e8, ho8', List.getD_cons_zero]
  all_goals simp [qLoad, isMap, cut, okV, wk, wk1, hlen]
end Go.Abs.M
namespace Go.Abs.M
open Go Go.Abs Go.Proofs
theorem law_rises (a b c : List Bd) (rows : List (List Bd)) (ha : okT a) (hb : okT b) (hc : okT c) (hr : (∀ x ∈ rows, okT x) ∧ rows.length * 24 ≤ reachBytes) :
    PCalls Try.prog 7 [.agg [.sl (a.map encBd)], .agg [.sl (b.map encBd)], .agg [.sl (c.map encBd)], .sl (rows.map encP)] (fun v => v = .c (.bool true)) :=
  (rises_spec a b c rows ha.i hb.i hc.i (by have : reachBytes = 140737488351232 := rfl; omega) (fun x hx => (hr.1 x hx).i)).bare fun v _ h => h
end Go.Abs.M
