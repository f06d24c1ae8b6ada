import Derived.Test.YtmhamgllanihoaaMh
namespace Go.Abs.M
open Go Go.Abs Go.Proofs
set_option maxRecDepth 20000
set_option linter.unusedSimpArgs false
set_option linter.unusedVariables false

theorem equal_attrs (l r : List Attr) (hl : l.length < 4611686018427387904) : PCalls Try.prog 130 [.sl (l.map encAttr), .sl (r.map encAttr)] (fun v => v = .c (.bool (allEq eqAttr l r))) := by
  refine PCalls.intro Try.call130 Try.func130 rfl Try.ntmps130 Try.results130 (by simp) ?_
  refine AW.seq_k fun K1 h1 => ?_
  all_goals refine AW.reg0 ?_
  all_goals (refine S.g rfl rfl fun K' k' => ?_; simp only [zz, reduceIte, Nat.reduceEqDiff, Nat.reduceAdd]; refine k' _ _ ?_; clear k' K')
  all_goals refine S.nil ?_
  all_goals simp only [ze, reduceIte, Nat.reduceEqDiff, Nat.reduceLT, Nat.reduceLeDiff, Nat.reduceAdd, reduceCtorEq, Nat.reduceMul]
  all_goals first | refine h1 _ _ ?_
  refine AW.seq_k fun K2 h2 => ?_
  refine AW.seq_k fun K3 h3 => ?_
  all_goals refine AW.reg0 ?_
  all_goals iterate 5 (refine S.g rfl rfl fun K' k' => ?_; simp only [zz, reduceIte, Nat.reduceEqDiff, Nat.reduceLT, Nat.reduceLeDiff, Nat.reduceAdd, reduceCtorEq, Nat.reduceMul, sl34, el34, ok143, sz143, ag143]; refine k' _ _ ?_; clear k' K')
  all_goals refine S.nil ?_
  all_goals simp only [ze, reduceIte, Nat.reduceEqDiff, Nat.reduceLT, Nat.reduceLeDiff, Nat.reduceAdd, reduceCtorEq, Nat.reduceMul]
  all_goals first | refine h3 _ _ ?_ | refine h2 _ _ ?_ | refine h1 _ _ ?_
  refine AW.cond (b := ((l.length : Int) != r.length)) (by simp [ev]) (fun hc => ?_) (fun hc => ?_)
  · refine AW.seq_k fun K4 h4 => ?_
    all_goals refine AW.reg0 ?_
    all_goals (refine S.g rfl rfl fun K' k' => ?_; simp only [zz, reduceIte, Nat.reduceEqDiff, Nat.reduceAdd]; refine k' _ _ ?_; clear k' K')
    all_goals refine S.nil ?_
    all_goals simp only [ze, reduceIte, Nat.reduceEqDiff, Nat.reduceLT, Nat.reduceLeDiff, Nat.reduceAdd, reduceCtorEq, Nat.reduceMul]
    all_goals first | refine h4 _ _ ?_ | refine h3 _ _ ?_ | refine h2 _ _ ?_ | refine h1 _ _ ?_
    refine AW.ret ?_
    all_goals simp only [zs, reduceIte, Nat.reduceEqDiff, Nat.reduceLT, Nat.reduceLeDiff, Nat.reduceAdd, reduceCtorEq, Nat.reduceMul]
    rw [allEq_len (by simp at hc; omega)]
  · refine AW.skip ?_
    all_goals simp only [zs, reduceIte, Nat.reduceEqDiff, Nat.reduceLT, Nat.reduceLeDiff, Nat.reduceAdd, reduceCtorEq, Nat.reduceMul]
    all_goals first | refine h4 _ _ ?_ | refine h3 _ _ ?_ | refine h2 _ _ ?_ | refine h1 _ _ ?_
    have hlr : l.length = r.length := by simp at hc; omega
    refine AW.seq_k fun K5 h5 => ?_
    refine AW.seq_k fun K6 h6 => ?_
    all_goals refine AW.reg0 ?_
    all_goals iterate 3 (refine S.g rfl rfl fun K' k' => ?_; simp only [zz, reduceIte, Nat.reduceEqDiff, Nat.reduceLT, Nat.reduceLeDiff, Nat.reduceAdd, reduceCtorEq, Nat.reduceMul, sl34, el34, ok143, sz143, ag143]; refine k' _ _ ?_; clear k' K')
    all_goals refine S.nil ?_
    all_goals simp only [ze, reduceIte, Nat.reduceEqDiff, Nat.reduceLT, Nat.reduceLeDiff, Nat.reduceAdd, reduceCtorEq, Nat.reduceMul]
    all_goals first | refine h6 _ _ ?_ | refine h5 _ _ ?_ | refine h4 _ _ ?_ | refine h3 _ _ ?_ | refine h2 _ _ ?_ | refine h1 _ _ ?_
    refine AW.block ?_   -- 0
    refine AW.loop (fun m s σ => σ = Hp.empty ∧ ∃ i : Nat, m + i = l.length ∧ s.t 0 = .sl (l.map encAttr) ∧ s.t 1 = .sl (r.map encAttr) ∧ s.t 12 = .c (.int .i64 l.length) ∧ s.t 13 = .c (.int .i64 i) ∧ allEq eqAttr l r = allEq eqAttr (l.drop i) (r.drop i)) l.length ?_ ?_
    · refine ⟨rfl, 0, by simp, ?_⟩
      all_goals simp only [zs, reduceIte, Nat.reduceEqDiff, Nat.reduceLT, Nat.reduceLeDiff, Nat.reduceAdd, reduceCtorEq, Nat.reduceMul]
      simp
    rintro m s σ ⟨rfl, i, hm, e0, e1, e12, e13, hp⟩
    refine AW.seq_k fun K7 h7 => ?_
    all_goals refine AW.reg0 ?_
    all_goals (refine S.g rfl rfl fun K' k' => ?_; simp only [zz, reduceIte, Nat.reduceEqDiff, Nat.reduceAdd, e12, e13]; refine k' _ _ ?_; clear k' K')
    all_goals refine S.nil ?_
    all_goals simp only [ze, reduceIte, Nat.reduceEqDiff, Nat.reduceLT, Nat.reduceLeDiff, Nat.reduceAdd, reduceCtorEq, Nat.reduceMul, e12, e13]
    all_goals first | refine h7 _ _ ?_ | refine h6 _ _ ?_ | refine h5 _ _ ?_ | refine h4 _ _ ?_ | refine h3 _ _ ?_ | refine h2 _ _ ?_ | refine h1 _ _ ?_
    refine AW.seq_k fun K8 h8 => ?_
    refine AW.cond (b := decide (i < l.length)) (by simp [ev]) (fun hc => ?_) (fun hc => ?_)
    · refine AW.skip ?_
      all_goals simp only [zs, reduceIte, Nat.reduceEqDiff, Nat.reduceLT, Nat.reduceLeDiff, Nat.reduceAdd, reduceCtorEq, Nat.reduceMul]
      all_goals first | refine h8 _ _ ?_ | refine h7 _ _ ?_ | refine h6 _ _ ?_ | refine h5 _ _ ?_ | refine h4 _ _ ?_ | refine h3 _ _ ?_ | refine h2 _ _ ?_ | refine h1 _ _ ?_
      have hi : i < l.length := by simpa using hc
      have hj : i < r.length := by omega
      have hg := getD_map (f := encAttr) hi
      have hg2 := getD_map (f := encAttr) hj
      have hd : l.drop i = l[i] :: l.drop (i + 1) := List.drop_eq_getElem_cons hi
      have hd2 : r.drop i = r[i] :: r.drop (i + 1) := List.drop_eq_getElem_cons hj
      generalize ha : l[i] = a at hg hd
      generalize hb : r[i] = b at hg2 hd2
      rw [hd, hd2, allEq] at hp
      have hw : IntKind.i64.wrap ((i : Int) + 1) = ((i + 1 : Nat) : Int) := by rw [wrap_small _ (by omega) (by omega)]; rfl
      refine AW.seq_k fun K9 h9 => ?_
      refine AW.block ?_   -- 1
      refine AW.seq_k fun K10 h10 => ?_
      all_goals refine AW.reg0 ?_
      all_goals iterate 2 (refine S.g rfl rfl fun K' k' => ?_; simp only [zz, reduceIte, Nat.reduceEqDiff, Nat.reduceAdd, e13]; refine k' _ _ ?_; clear k' K')
      all_goals refine S.nil ?_
      all_goals simp only [ze, reduceIte, Nat.reduceEqDiff, Nat.reduceLT, Nat.reduceLeDiff, Nat.reduceAdd, reduceCtorEq, Nat.reduceMul, e13]
      all_goals first | refine h10 _ _ ?_ | refine h9 _ _ ?_ | refine h8 _ _ ?_ | refine h7 _ _ ?_ | refine h6 _ _ ?_ | refine h5 _ _ ?_ | refine h4 _ _ ?_ | refine h3 _ _ ?_ | refine h2 _ _ ?_ | refine h1 _ _ ?_
      refine AW.seq_k fun K11 h11 => ?_
      all_goals refine AW.draw (T := { sd := fun _ => false, eqk := eqTab }) (eqTab_ok) mixedO [(0, 0), (1, 0), (2, 0), (4, 0), (5, 0), (6, 0), (3, 1), (7, 1), (8, 0)] rfl (by kernel_rfl) (by kernel_rfl) ?_
      all_goals iterate 6 (refine D.g rfl trivial rfl rfl fun K' k' => ?_; simp only [zz, reduceIte, Nat.reduceEqDiff, Nat.reduceLT, Nat.reduceLeDiff, Nat.reduceAdd, reduceCtorEq, Nat.reduceMul, sl34, el34, ok143, sz143, ag143, e0, e1, e13, hi, hj, hg, hg2, encAttr]; refine k' _ _ ?_; clear k' K')
      all_goals iterate 2 (refine D.g rfl rfl rfl rfl fun K' k' => ?_; simp only [zz, reduceIte, Nat.reduceEqDiff, Nat.reduceLT, Nat.reduceLeDiff, Nat.reduceAdd, reduceCtorEq, Nat.reduceMul, ok143, sz143, ag143, e0, e1, e13, hi, hj, hg, hg2, encAttr]; refine k' _ _ ?_; clear k' K')
      all_goals (refine D.g rfl trivial rfl rfl fun K' k' => ?_; simp only [zz, reduceIte, Nat.reduceEqDiff, Nat.reduceAdd, eqk143, fitsAll, SK.fits, cellsEq, cellEq, e0, e1, e13, hi, hj, hg, hg2, encAttr]; refine k' _ _ ?_; clear k' K')
      all_goals refine D.nil ?_
      all_goals simp only [ze, reduceIte, Nat.reduceEqDiff, Nat.reduceLT, Nat.reduceLeDiff, Nat.reduceAdd, reduceCtorEq, Nat.reduceMul, e0, e1, e13, hi, hj, hg, hg2, encAttr]
      all_goals first | refine h11 _ _ ?_ | refine h10 _ _ ?_ | refine h9 _ _ ?_ | refine h8 _ _ ?_ | refine h7 _ _ ?_ | refine h6 _ _ ?_ | refine h5 _ _ ?_ | refine h4 _ _ ?_ | refine h3 _ _ ?_ | refine h2 _ _ ?_ | refine h1 _ _ ?_
      refine AW.cond (b := !eqAttr a b) (by simp only [ev, St.put_t, Nat.reduceEqDiff, if_true]; rfl) (fun hc => ?_) (fun hc => ?_)
      · refine AW.seq_k fun K12 h12 => ?_
        all_goals refine AW.reg0 ?_
        all_goals (refine S.g rfl rfl fun K' k' => ?_; simp only [zz, reduceIte, Nat.reduceEqDiff, Nat.reduceAdd]; refine k' _ _ ?_; clear k' K')
        all_goals refine S.nil ?_
        all_goals simp only [ze, reduceIte, Nat.reduceEqDiff, Nat.reduceLT, Nat.reduceLeDiff, Nat.reduceAdd, reduceCtorEq, Nat.reduceMul]
        all_goals first | refine h12 _ _ ?_ | refine h11 _ _ ?_ | refine h10 _ _ ?_ | refine h9 _ _ ?_ | refine h8 _ _ ?_ | refine h7 _ _ ?_ | refine h6 _ _ ?_ | refine h5 _ _ ?_ | refine h4 _ _ ?_ | refine h3 _ _ ?_ | refine h2 _ _ ?_ | refine h1 _ _ ?_
        refine AW.ret ?_
        all_goals simp only [zs, reduceIte, Nat.reduceEqDiff, Nat.reduceLT, Nat.reduceLeDiff, Nat.reduceAdd, reduceCtorEq, Nat.reduceMul]
        have hx : eqAttr a b = false := by simpa using hc
        simp [hp, hx]
      · refine AW.skip ?_
        all_goals simp only [zs, reduceIte, Nat.reduceEqDiff, Nat.reduceLT, Nat.reduceLeDiff, Nat.reduceAdd, reduceCtorEq, Nat.reduceMul]
        all_goals first | refine h12 _ _ ?_ | refine h11 _ _ ?_ | refine h10 _ _ ?_ | refine h9 _ _ ?_ | refine h8 _ _ ?_ | refine h7 _ _ ?_ | refine h6 _ _ ?_ | refine h5 _ _ ?_ | refine h4 _ _ ?_ | refine h3 _ _ ?_ | refine h2 _ _ ?_ | refine h1 _ _ ?_
        have hx : eqAttr a b = true := by simpa using hc
        all_goals refine AW.reg0 ?_
        all_goals iterate 2 (refine S.g rfl rfl fun K' k' => ?_; simp only [zz, reduceIte, Nat.reduceEqDiff, Nat.reduceAdd, e13, hw]; refine k' _ _ ?_; clear k' K')
        all_goals refine S.nil ?_
        all_goals simp only [ze, reduceIte, Nat.reduceEqDiff, Nat.reduceLT, Nat.reduceLeDiff, Nat.reduceAdd, reduceCtorEq, Nat.reduceMul, e13, hw]
        refine ⟨m - 1, by omega, i + 1, by omega, e0, e1, e12, rfl, ?_⟩
        rw [hp, hx, Bool.true_and]
    · refine AW.exit ?_
      all_goals simp only [zs, reduceIte, Nat.reduceEqDiff, Nat.reduceLT, Nat.reduceLeDiff, Nat.reduceAdd, reduceCtorEq, Nat.reduceMul]
      -- EXIT 0
      all_goals first | refine h12 _ _ ?_ | refine h11 _ _ ?_ | refine h10 _ _ ?_ | refine h9 _ _ ?_ | refine h8 _ _ ?_ | refine h7 _ _ ?_ | refine h6 _ _ ?_ | refine h5 _ _ ?_ | refine h4 _ _ ?_ | refine h3 _ _ ?_ | refine h2 _ _ ?_ | refine h1 _ _ ?_
      refine AW.seq_k fun K13 h13 => ?_
      all_goals refine AW.reg0 ?_
      all_goals (refine S.g rfl rfl fun K' k' => ?_; simp only [zz, reduceIte, Nat.reduceEqDiff, Nat.reduceAdd]; refine k' _ _ ?_; clear k' K')
      all_goals refine S.nil ?_
      all_goals simp only [ze, reduceIte, Nat.reduceEqDiff, Nat.reduceLT, Nat.reduceLeDiff, Nat.reduceAdd, reduceCtorEq, Nat.reduceMul]
      all_goals first | refine h13 _ _ ?_ | refine h12 _ _ ?_ | refine h11 _ _ ?_ | refine h10 _ _ ?_ | refine h9 _ _ ?_ | refine h8 _ _ ?_ | refine h7 _ _ ?_ | refine h6 _ _ ?_ | refine h5 _ _ ?_ | refine h4 _ _ ?_ | refine h3 _ _ ?_ | refine h2 _ _ ?_ | refine h1 _ _ ?_
      refine AW.ret ?_
      all_goals simp only [zs, reduceIte, Nat.reduceEqDiff, Nat.reduceLT, Nat.reduceLeDiff, Nat.reduceAdd, reduceCtorEq, Nat.reduceMul]
      have hi : l.length ≤ i := by simpa using hc
      simp [hp, List.drop_of_length_le hi, List.drop_of_length_le (hlr ▸ hi), allEq]

theorem same_attrs (l r : List Attr) (hl : l.length < 4611686018427387904) : PCalls Try.prog 107 [.sl (l.map encAttr), .sl (r.map encAttr)] (fun v => v = .c (.bool (allEq eqAttr l r))) := by
  refine PCalls.intro Try.call107 Try.func107 rfl Try.ntmps107 Try.results107 (by simp) ?_
  refine AW.seq_k fun K1 h1 => ?_
  all_goals refine AW.reg0 ?_
  all_goals (refine S.g rfl rfl fun K' k' => ?_; simp only [zz, reduceIte, Nat.reduceEqDiff, Nat.reduceAdd]; refine k' _ _ ?_; clear k' K')
  all_goals refine S.nil ?_
  all_goals simp only [ze, reduceIte, Nat.reduceEqDiff, Nat.reduceLT, Nat.reduceLeDiff, Nat.reduceAdd, reduceCtorEq, Nat.reduceMul]
  all_goals first | refine h1 _ _ ?_
  refine AW.seq_k fun K2 h2 => ?_
  all_goals refine AW.reg0 ?_
  all_goals iterate 2 (refine S.g rfl rfl fun K' k' => ?_; simp only [zz, reduceIte, Nat.reduceEqDiff, Nat.reduceAdd]; refine k' _ _ ?_; clear k' K')
  all_goals (refine S.g rfl rfl fun K' k' => ?_; simp only [zz, reduceIte, Nat.reduceEqDiff, Nat.reduceLT, Nat.reduceLeDiff, Nat.reduceAdd, reduceCtorEq, Nat.reduceMul]; refine PCalls.eqto (equal_attrs _ _ (by assumption)) ?_ <;> (refine k' _ _ ?_; clear k' K'))
  all_goals (refine S.g rfl rfl fun K' k' => ?_; simp only [zz, reduceIte, Nat.reduceEqDiff, Nat.reduceAdd]; refine k' _ _ ?_; clear k' K')
  all_goals refine S.nil ?_
  all_goals simp only [ze, reduceIte, Nat.reduceEqDiff, Nat.reduceLT, Nat.reduceLeDiff, Nat.reduceAdd, reduceCtorEq, Nat.reduceMul]
  all_goals first | refine h2 _ _ ?_ | refine h1 _ _ ?_
  refine AW.ret ?_
  all_goals simp only [zs, reduceIte, Nat.reduceEqDiff, Nat.reduceLT, Nat.reduceLeDiff, Nat.reduceAdd, reduceCtorEq, Nat.reduceMul]

theorem same_ev (a b : Ev) (ha : a.attrs.length < 4611686018427387904) : PCalls Try.prog 70 [.agg (encEv a), .agg (encEv b)] (fun v => v = .c (.bool (eqEv a b))) := by
  refine PCalls.intro Try.call70 Try.func70 rfl Try.ntmps70 Try.results70 (by simp) ?_
  refine AW.seq_k fun K1 h1 => ?_
  all_goals refine AW.reg0 ?_
  all_goals iterate 3 (refine S.g rfl rfl fun K' k' => ?_; simp only [zz, reduceIte, Nat.reduceEqDiff, Nat.reduceLT, Nat.reduceLeDiff, Nat.reduceAdd, reduceCtorEq, Nat.reduceMul, ok36, sz36, ag36, encEv]; refine k' _ _ ?_; clear k' K')
  all_goals refine S.nil ?_
  all_goals simp only [ze, reduceIte, Nat.reduceEqDiff, Nat.reduceLT, Nat.reduceLeDiff, Nat.reduceAdd, reduceCtorEq, Nat.reduceMul, encEv]
  all_goals first | refine h1 _ _ ?_
  refine AW.seq_j (fun s' σ' => σ' = Hp.empty ∧ s'.t 4 = .c (.bool (eqEv a b))) ?_ ?_
  · skip
    all_goals refine AW.region (T := { eqk := eqTab }) (eqTab_ok) rfl ?_
    all_goals iterate 4 (refine S.g rfl rfl fun K' k' => ?_; simp only [zz, reduceIte, Nat.reduceEqDiff, Nat.reduceLT, Nat.reduceLeDiff, Nat.reduceAdd, reduceCtorEq, Nat.reduceMul, of36_0, ok33, sz33, ag33, encEv]; refine k' _ _ ?_; clear k' K')
    all_goals (refine S.g rfl rfl fun K' k' => ?_; simp only [zz, reduceIte, Nat.reduceEqDiff, Nat.reduceLT, Nat.reduceLeDiff, Nat.reduceAdd, reduceCtorEq, Nat.reduceMul, eqk33, fitsAll, SK.fits, cellsEq, cellEq, encEv]; refine S.bool fun b a9 => ?_; cases b <;> (try (exfalso; first | exact Bool.noConfusion a9 | (have h := of_decide_eq_true a9; omega) | (have h := of_decide_eq_false a9; omega))) <;> (refine k' _ _ ?_; clear k' K'))
    all_goals (refine S.g rfl rfl fun K' k' => ?_; simp only [zz, reduceIte, Nat.reduceEqDiff, Nat.reduceAdd, encEv]; refine k' _ _ ?_; clear k' K')
    all_goals iterate 4 (first | (refine S.y rfl rfl rfl rfl fun K' k' => ?_; simp only [zz, reduceIte, Nat.reduceEqDiff, Nat.reduceLT, Nat.reduceLeDiff, Nat.reduceAdd, reduceCtorEq, Nat.reduceMul, of36_1, ok2, sz2, ag2, encEv]; refine k' _ _ ?_; clear k' K') | ((first | refine S.x rfl rfl rfl rfl fun K' k' => ?_ | refine S.u rfl rfl rfl rfl fun K' k' => ?_); simp only [ze, reduceIte, Nat.reduceEqDiff]; refine k' _ _ ?_; clear k' K'))
    all_goals first | (refine S.y rfl rfl rfl rfl fun K' k' => ?_; simp only [zz, reduceIte, Nat.reduceEqDiff, Nat.reduceLT, Nat.reduceLeDiff, Nat.reduceAdd, reduceCtorEq, Nat.reduceMul, encEv]; refine S.bool fun b a15 => ?_; cases b <;> (try (exfalso; first | exact Bool.noConfusion a15 | (have h := of_decide_eq_true a15; omega) | (have h := of_decide_eq_false a15; omega))) <;> (refine k' _ _ ?_; clear k' K')) | ((first | refine S.x rfl rfl rfl rfl fun K' k' => ?_ | refine S.u rfl rfl rfl rfl fun K' k' => ?_); simp only [ze, reduceIte, Nat.reduceEqDiff]; (refine k' _ _ ?_; clear k' K'))
    all_goals iterate 2 (refine S.g rfl rfl fun K' k' => ?_; simp only [zz, reduceIte, Nat.reduceEqDiff, Nat.reduceAdd, encEv]; refine k' _ _ ?_; clear k' K')
    all_goals iterate 4 (first | (refine S.y rfl rfl rfl rfl fun K' k' => ?_; simp only [zz, reduceIte, Nat.reduceEqDiff, Nat.reduceLT, Nat.reduceLeDiff, Nat.reduceAdd, reduceCtorEq, Nat.reduceMul, of36_2, ok9, sz9, ag9, encEv]; refine k' _ _ ?_; clear k' K') | ((first | refine S.x rfl rfl rfl rfl fun K' k' => ?_ | refine S.u rfl rfl rfl rfl fun K' k' => ?_); simp only [ze, reduceIte, Nat.reduceEqDiff]; refine k' _ _ ?_; clear k' K'))
    all_goals first | (refine S.y rfl rfl rfl rfl fun K' k' => ?_; simp only [zz, reduceIte, Nat.reduceEqDiff, Nat.reduceLT, Nat.reduceLeDiff, Nat.reduceAdd, reduceCtorEq, Nat.reduceMul, encEv]; refine S.bool fun b a22 => ?_; cases b <;> (try (exfalso; first | exact Bool.noConfusion a22 | (have h := of_decide_eq_true a22; omega) | (have h := of_decide_eq_false a22; omega))) <;> (refine k' _ _ ?_; clear k' K')) | ((first | refine S.x rfl rfl rfl rfl fun K' k' => ?_ | refine S.u rfl rfl rfl rfl fun K' k' => ?_); simp only [ze, reduceIte, Nat.reduceEqDiff]; (refine k' _ _ ?_; clear k' K'))
    all_goals iterate 2 (refine S.g rfl rfl fun K' k' => ?_; simp only [zz, reduceIte, Nat.reduceEqDiff, Nat.reduceAdd, encEv]; refine k' _ _ ?_; clear k' K')
    all_goals iterate 4 (first | (refine S.y rfl rfl rfl rfl fun K' k' => ?_; simp only [zz, reduceIte, Nat.reduceEqDiff, Nat.reduceLT, Nat.reduceLeDiff, Nat.reduceAdd, reduceCtorEq, Nat.reduceMul, of36_3, ok34, sz34, ag34, encEv]; refine k' _ _ ?_; clear k' K') | ((first | refine S.x rfl rfl rfl rfl fun K' k' => ?_ | refine S.u rfl rfl rfl rfl fun K' k' => ?_); simp only [ze, reduceIte, Nat.reduceEqDiff]; refine k' _ _ ?_; clear k' K'))
    all_goals first | (refine S.y rfl rfl rfl rfl fun K' k' => ?_; simp only [zz, reduceIte, Nat.reduceEqDiff, Nat.reduceLT, Nat.reduceLeDiff, Nat.reduceAdd, reduceCtorEq, Nat.reduceMul, encEv]; refine PCalls.eqto (same_attrs _ _ (by assumption)) ?_ <;> (refine k' _ _ ?_; clear k' K')) | ((first | refine S.x rfl rfl rfl rfl fun K' k' => ?_ | refine S.u rfl rfl rfl rfl fun K' k' => ?_); simp only [ze, reduceIte, Nat.reduceEqDiff]; (refine k' _ _ ?_; clear k' K'))
    all_goals iterate 2 (refine S.g rfl rfl fun K' k' => ?_; simp only [zz, reduceIte, Nat.reduceEqDiff, Nat.reduceAdd, encEv]; refine k' _ _ ?_; clear k' K')
    all_goals refine S.nil ?_
    all_goals simp only [ze, reduceIte, Nat.reduceEqDiff, Nat.reduceLT, Nat.reduceLeDiff, Nat.reduceAdd, reduceCtorEq, Nat.reduceMul, encEv]
    all_goals simp_all [eqEv]
  rintro s σ ⟨rfl, e4⟩
  refine AW.ret ?_
  all_goals simp only [zs, reduceIte, Nat.reduceEqDiff, Nat.reduceLT, Nat.reduceLeDiff, Nat.reduceAdd, reduceCtorEq, Nat.reduceMul, e4]

theorem same_bd (a b : Bd) (ha : a.ev.attrs.length < 4611686018427387904) : PCalls Try.prog 69 [.agg (encBd a), .agg (encBd b)] (fun v => v = .c (.bool (eqBd a b))) := by
  refine PCalls.intro Try.call69 Try.func69 rfl Try.ntmps69 Try.results69 (by simp) ?_
  refine AW.seq_k fun K1 h1 => ?_
  all_goals refine AW.reg0 ?_
  all_goals iterate 3 (refine S.g rfl rfl fun K' k' => ?_; simp only [zz, reduceIte, Nat.reduceEqDiff, Nat.reduceLT, Nat.reduceLeDiff, Nat.reduceAdd, reduceCtorEq, Nat.reduceMul, ok42, sz42, ag42, encBd]; refine k' _ _ ?_; clear k' K')
  all_goals refine S.nil ?_
  all_goals simp only [ze, reduceIte, Nat.reduceEqDiff, Nat.reduceLT, Nat.reduceLeDiff, Nat.reduceAdd, reduceCtorEq, Nat.reduceMul, encBd]
  all_goals first | refine h1 _ _ ?_
  refine AW.seq_j (fun s' σ' => σ' = Hp.empty ∧ s'.t 4 = .c (.bool (eqBd a b))) ?_ ?_
  · skip
    all_goals refine AW.reg0 ?_
    all_goals iterate 4 (refine S.g rfl rfl fun K' k' => ?_; simp only [zz, reduceIte, Nat.reduceEqDiff, Nat.reduceLT, Nat.reduceLeDiff, Nat.reduceAdd, reduceCtorEq, Nat.reduceMul, of42_0, ok9, sz9, ag9, encBd]; refine k' _ _ ?_; clear k' K')
    all_goals (refine S.g rfl rfl fun K' k' => ?_; simp only [zz, reduceIte, Nat.reduceEqDiff, Nat.reduceLT, Nat.reduceLeDiff, Nat.reduceAdd, reduceCtorEq, Nat.reduceMul, encBd]; refine S.bool fun b a9 => ?_; cases b <;> (try (exfalso; first | exact Bool.noConfusion a9 | (have h := of_decide_eq_true a9; omega) | (have h := of_decide_eq_false a9; omega))) <;> (refine k' _ _ ?_; clear k' K'))
    all_goals (refine S.g rfl rfl fun K' k' => ?_; simp only [zz, reduceIte, Nat.reduceEqDiff, Nat.reduceAdd, encBd]; refine k' _ _ ?_; clear k' K')
    all_goals iterate 4 (first | (refine S.y rfl rfl rfl rfl fun K' k' => ?_; simp only [zz, reduceIte, Nat.reduceEqDiff, Nat.reduceLT, Nat.reduceLeDiff, Nat.reduceAdd, reduceCtorEq, Nat.reduceMul, of42_1, ok36, sz36, ag36, encBd]; refine k' _ _ ?_; clear k' K') | ((first | refine S.x rfl rfl rfl rfl fun K' k' => ?_ | refine S.u rfl rfl rfl rfl fun K' k' => ?_); simp only [ze, reduceIte, Nat.reduceEqDiff]; refine k' _ _ ?_; clear k' K'))
    all_goals first | (refine S.y rfl rfl rfl rfl fun K' k' => ?_; simp only [zz, reduceIte, Nat.reduceEqDiff, Nat.reduceLT, Nat.reduceLeDiff, Nat.reduceAdd, reduceCtorEq, Nat.reduceMul, encBd]; refine PCalls.eqto (same_ev a.ev b.ev (by assumption)) ?_ <;> (refine k' _ _ ?_; clear k' K')) | ((first | refine S.x rfl rfl rfl rfl fun K' k' => ?_ | refine S.u rfl rfl rfl rfl fun K' k' => ?_); simp only [ze, reduceIte, Nat.reduceEqDiff]; (refine k' _ _ ?_; clear k' K'))
    all_goals iterate 2 (refine S.g rfl rfl fun K' k' => ?_; simp only [zz, reduceIte, Nat.reduceEqDiff, Nat.reduceAdd, encBd]; refine k' _ _ ?_; clear k' K')
    all_goals refine S.nil ?_
    all_goals simp only [ze, reduceIte, Nat.reduceEqDiff, Nat.reduceLT, Nat.reduceLeDiff, Nat.reduceAdd, reduceCtorEq, Nat.reduceMul, encBd]
    all_goals simp_all [eqBd]
  rintro s σ ⟨rfl, e4⟩
  refine AW.ret ?_
  all_goals simp only [zs, reduceIte, Nat.reduceEqDiff, Nat.reduceLT, Nat.reduceLeDiff, Nat.reduceAdd, reduceCtorEq, Nat.reduceMul, e4]

theorem equal_bds (l r : List Bd) (hl : l.length < 4611686018427387904) (hla : ∀ b ∈ l, b.ev.attrs.length < 4611686018427387904) : PCalls Try.prog 68 [.sl (l.map encBd), .sl (r.map encBd), .fn (.func 69) [] []] (fun v => v = .c (.bool (allEq eqBd l r))) := by
  refine PCalls.intro Try.call68 Try.func68 rfl Try.ntmps68 Try.results68 (by simp) ?_
  refine AW.seq_k fun K1 h1 => ?_
  all_goals refine AW.reg0 ?_
  all_goals (refine S.g rfl rfl fun K' k' => ?_; simp only [zz, reduceIte, Nat.reduceEqDiff, Nat.reduceAdd]; refine k' _ _ ?_; clear k' K')
  all_goals refine S.nil ?_
  all_goals simp only [ze, reduceIte, Nat.reduceEqDiff, Nat.reduceLT, Nat.reduceLeDiff, Nat.reduceAdd, reduceCtorEq, Nat.reduceMul]
  all_goals first | refine h1 _ _ ?_
  refine AW.seq_k fun K2 h2 => ?_
  refine AW.seq_k fun K3 h3 => ?_
  all_goals refine AW.reg0 ?_
  all_goals iterate 5 (refine S.g rfl rfl fun K' k' => ?_; simp only [zz, reduceIte, Nat.reduceEqDiff, Nat.reduceLT, Nat.reduceLeDiff, Nat.reduceAdd, reduceCtorEq, Nat.reduceMul, sl22, el22, ok42, sz42, ag42]; refine k' _ _ ?_; clear k' K')
  all_goals refine S.nil ?_
  all_goals simp only [ze, reduceIte, Nat.reduceEqDiff, Nat.reduceLT, Nat.reduceLeDiff, Nat.reduceAdd, reduceCtorEq, Nat.reduceMul]
  all_goals first | refine h3 _ _ ?_ | refine h2 _ _ ?_ | refine h1 _ _ ?_
  refine AW.cond (b := ((l.length : Int) != r.length)) (by simp [ev]) (fun hc => ?_) (fun hc => ?_)
  · refine AW.seq_k fun K4 h4 => ?_
    all_goals refine AW.reg0 ?_
    all_goals (refine S.g rfl rfl fun K' k' => ?_; simp only [zz, reduceIte, Nat.reduceEqDiff, Nat.reduceAdd]; refine k' _ _ ?_; clear k' K')
    all_goals refine S.nil ?_
    all_goals simp only [ze, reduceIte, Nat.reduceEqDiff, Nat.reduceLT, Nat.reduceLeDiff, Nat.reduceAdd, reduceCtorEq, Nat.reduceMul]
    all_goals first | refine h4 _ _ ?_ | refine h3 _ _ ?_ | refine h2 _ _ ?_ | refine h1 _ _ ?_
    refine AW.ret ?_
    all_goals simp only [zs, reduceIte, Nat.reduceEqDiff, Nat.reduceLT, Nat.reduceLeDiff, Nat.reduceAdd, reduceCtorEq, Nat.reduceMul]
    rw [allEq_len (by simp at hc; omega)]
  · refine AW.skip ?_
    all_goals simp only [zs, reduceIte, Nat.reduceEqDiff, Nat.reduceLT, Nat.reduceLeDiff, Nat.reduceAdd, reduceCtorEq, Nat.reduceMul]
    all_goals first | refine h4 _ _ ?_ | refine h3 _ _ ?_ | refine h2 _ _ ?_ | refine h1 _ _ ?_
    have hlr : l.length = r.length := by simp at hc; omega
    refine AW.seq_k fun K5 h5 => ?_
    refine AW.seq_k fun K6 h6 => ?_
    all_goals refine AW.reg0 ?_
    all_goals iterate 3 (refine S.g rfl rfl fun K' k' => ?_; simp only [zz, reduceIte, Nat.reduceEqDiff, Nat.reduceLT, Nat.reduceLeDiff, Nat.reduceAdd, reduceCtorEq, Nat.reduceMul, sl22, el22, ok42, sz42, ag42]; refine k' _ _ ?_; clear k' K')
    all_goals refine S.nil ?_
    all_goals simp only [ze, reduceIte, Nat.reduceEqDiff, Nat.reduceLT, Nat.reduceLeDiff, Nat.reduceAdd, reduceCtorEq, Nat.reduceMul]
    all_goals first | refine h6 _ _ ?_ | refine h5 _ _ ?_ | refine h4 _ _ ?_ | refine h3 _ _ ?_ | refine h2 _ _ ?_ | refine h1 _ _ ?_
    refine AW.block ?_   -- 0
    refine AW.loop (fun m s σ => σ = Hp.empty ∧ ∃ i : Nat, m + i = l.length ∧ s.t 1 = .sl (r.map encBd) ∧ s.t 2 = .fn (.func 69) [] [] ∧ s.t 15 = .sl (l.map encBd) ∧ s.t 16 = .c (.int .i64 l.length) ∧ s.t 17 = .c (.int .i64 i) ∧ allEq eqBd l r = allEq eqBd (l.drop i) (r.drop i)) l.length ?_ ?_
    · refine ⟨rfl, 0, by simp, ?_⟩
      all_goals simp only [zs, reduceIte, Nat.reduceEqDiff, Nat.reduceLT, Nat.reduceLeDiff, Nat.reduceAdd, reduceCtorEq, Nat.reduceMul]
      simp
    rintro m s σ ⟨rfl, i, hm, e1, e2, e15, e16, e17, hp⟩
    refine AW.seq_k fun K7 h7 => ?_
    all_goals refine AW.reg0 ?_
    all_goals (refine S.g rfl rfl fun K' k' => ?_; simp only [zz, reduceIte, Nat.reduceEqDiff, Nat.reduceAdd, e16, e17]; refine k' _ _ ?_; clear k' K')
    all_goals refine S.nil ?_
    all_goals simp only [ze, reduceIte, Nat.reduceEqDiff, Nat.reduceLT, Nat.reduceLeDiff, Nat.reduceAdd, reduceCtorEq, Nat.reduceMul, e16, e17]
    all_goals first | refine h7 _ _ ?_ | refine h6 _ _ ?_ | refine h5 _ _ ?_ | refine h4 _ _ ?_ | refine h3 _ _ ?_ | refine h2 _ _ ?_ | refine h1 _ _ ?_
    refine AW.seq_k fun K8 h8 => ?_
    refine AW.cond (b := decide (i < l.length)) (by simp [ev]) (fun hc => ?_) (fun hc => ?_)
    · refine AW.skip ?_
      all_goals simp only [zs, reduceIte, Nat.reduceEqDiff, Nat.reduceLT, Nat.reduceLeDiff, Nat.reduceAdd, reduceCtorEq, Nat.reduceMul]
      all_goals first | refine h8 _ _ ?_ | refine h7 _ _ ?_ | refine h6 _ _ ?_ | refine h5 _ _ ?_ | refine h4 _ _ ?_ | refine h3 _ _ ?_ | refine h2 _ _ ?_ | refine h1 _ _ ?_
      have hi : i < l.length := by simpa using hc
      have hj : i < r.length := by omega
      have hg := getD_map (f := encBd) hi
      have hg2 := getD_map (f := encBd) hj
      have hd : l.drop i = l[i] :: l.drop (i + 1) := List.drop_eq_getElem_cons hi
      have hd2 : r.drop i = r[i] :: r.drop (i + 1) := List.drop_eq_getElem_cons hj
      have hla' := hla _ (List.getElem_mem hi)
      generalize ha : l[i] = a at hg hd hla'
      generalize hb : r[i] = b at hg2 hd2
      rw [hd, hd2, allEq] at hp
      have hw : IntKind.i64.wrap ((i : Int) + 1) = ((i + 1 : Nat) : Int) := by rw [wrap_small _ (by omega) (by omega)]; rfl
      refine AW.seq_k fun K9 h9 => ?_
      refine AW.block ?_   -- 1
      refine AW.seq_k fun K10 h10 => ?_
      all_goals refine AW.reg0 ?_
      all_goals iterate 6 (refine S.g rfl rfl fun K' k' => ?_; simp only [zz, reduceIte, Nat.reduceEqDiff, Nat.reduceLT, Nat.reduceLeDiff, Nat.reduceAdd, reduceCtorEq, Nat.reduceMul, sl22, el22, ok42, sz42, ag42, zt42, e15, e17, hi, hg, encBd]; refine k' _ _ ?_; clear k' K')
      all_goals refine S.nil ?_
      all_goals simp only [ze, reduceIte, Nat.reduceEqDiff, Nat.reduceLT, Nat.reduceLeDiff, Nat.reduceAdd, reduceCtorEq, Nat.reduceMul, e15, e17, hi, hg, encBd]
      all_goals first | refine h10 _ _ ?_ | refine h9 _ _ ?_ | refine h8 _ _ ?_ | refine h7 _ _ ?_ | refine h6 _ _ ?_ | refine h5 _ _ ?_ | refine h4 _ _ ?_ | refine h3 _ _ ?_ | refine h2 _ _ ?_ | refine h1 _ _ ?_
      refine AW.seq_k fun K11 h11 => ?_
      all_goals refine AW.reg0 ?_
      all_goals iterate 6 (refine S.g rfl rfl fun K' k' => ?_; simp only [zz, reduceIte, Nat.reduceEqDiff, Nat.reduceLT, Nat.reduceLeDiff, Nat.reduceAdd, reduceCtorEq, Nat.reduceMul, sl22, el22, ok42, sz42, ag42, zt42, e1, hj, hg2, encBd]; refine k' _ _ ?_; clear k' K')
      all_goals refine S.nil ?_
      all_goals simp only [ze, reduceIte, Nat.reduceEqDiff, Nat.reduceLT, Nat.reduceLeDiff, Nat.reduceAdd, reduceCtorEq, Nat.reduceMul, e1, hj, hg2, encBd]
      all_goals first | refine h11 _ _ ?_ | refine h10 _ _ ?_ | refine h9 _ _ ?_ | refine h8 _ _ ?_ | refine h7 _ _ ?_ | refine h6 _ _ ?_ | refine h5 _ _ ?_ | refine h4 _ _ ?_ | refine h3 _ _ ?_ | refine h2 _ _ ?_ | refine h1 _ _ ?_
      refine AW.seq_k fun K12 h12 => ?_
      all_goals refine AW.reg0 ?_
      all_goals iterate 3 (refine S.g rfl rfl fun K' k' => ?_; simp only [zz, reduceIte, Nat.reduceEqDiff, Nat.reduceLT, Nat.reduceLeDiff, Nat.reduceAdd, reduceCtorEq, Nat.reduceMul, ok42, sz42, ag42, e2, encBd]; refine k' _ _ ?_; clear k' K')
      all_goals (refine S.g rfl rfl fun K' k' => ?_; simp only [zz, reduceIte, Nat.reduceEqDiff, Nat.reduceLT, Nat.reduceLeDiff, Nat.reduceAdd, reduceCtorEq, Nat.reduceMul, e2, encBd]; refine PCalls.eqto (same_bd a b hla') ?_ <;> (refine k' _ _ ?_; clear k' K'))
      all_goals (refine S.g rfl rfl fun K' k' => ?_; simp only [zz, reduceIte, Nat.reduceEqDiff, Nat.reduceAdd, e2, encBd]; refine k' _ _ ?_; clear k' K')
      all_goals refine S.nil ?_
      all_goals simp only [ze, reduceIte, Nat.reduceEqDiff, Nat.reduceLT, Nat.reduceLeDiff, Nat.reduceAdd, reduceCtorEq, Nat.reduceMul, e2, encBd]
      all_goals first | refine h12 _ _ ?_ | refine h11 _ _ ?_ | refine h10 _ _ ?_ | refine h9 _ _ ?_ | refine h8 _ _ ?_ | refine h7 _ _ ?_ | refine h6 _ _ ?_ | refine h5 _ _ ?_ | refine h4 _ _ ?_ | refine h3 _ _ ?_ | refine h2 _ _ ?_ | refine h1 _ _ ?_
      refine AW.cond (b := !eqBd a b) (by simp [ev]) (fun hc => ?_) (fun hc => ?_)
      · refine AW.seq_k fun K13 h13 => ?_
        all_goals refine AW.reg0 ?_
        all_goals (refine S.g rfl rfl fun K' k' => ?_; simp only [zz, reduceIte, Nat.reduceEqDiff, Nat.reduceAdd]; refine k' _ _ ?_; clear k' K')
        all_goals refine S.nil ?_
        all_goals simp only [ze, reduceIte, Nat.reduceEqDiff, Nat.reduceLT, Nat.reduceLeDiff, Nat.reduceAdd, reduceCtorEq, Nat.reduceMul]
        all_goals first | refine h13 _ _ ?_ | refine h12 _ _ ?_ | refine h11 _ _ ?_ | refine h10 _ _ ?_ | refine h9 _ _ ?_ | refine h8 _ _ ?_ | refine h7 _ _ ?_ | refine h6 _ _ ?_ | refine h5 _ _ ?_ | refine h4 _ _ ?_ | refine h3 _ _ ?_ | refine h2 _ _ ?_ | refine h1 _ _ ?_
        refine AW.ret ?_
        all_goals simp only [zs, reduceIte, Nat.reduceEqDiff, Nat.reduceLT, Nat.reduceLeDiff, Nat.reduceAdd, reduceCtorEq, Nat.reduceMul]
        have hx : eqBd a b = false := by simpa using hc
        simp [hp, hx]
      · refine AW.skip ?_
        all_goals simp only [zs, reduceIte, Nat.reduceEqDiff, Nat.reduceLT, Nat.reduceLeDiff, Nat.reduceAdd, reduceCtorEq, Nat.reduceMul]
        all_goals first | refine h13 _ _ ?_ | refine h12 _ _ ?_ | refine h11 _ _ ?_ | refine h10 _ _ ?_ | refine h9 _ _ ?_ | refine h8 _ _ ?_ | refine h7 _ _ ?_ | refine h6 _ _ ?_ | refine h5 _ _ ?_ | refine h4 _ _ ?_ | refine h3 _ _ ?_ | refine h2 _ _ ?_ | refine h1 _ _ ?_
        have hx : eqBd a b = true := by simpa using hc
        all_goals refine AW.reg0 ?_
        all_goals iterate 2 (refine S.g rfl rfl fun K' k' => ?_; simp only [zz, reduceIte, Nat.reduceEqDiff, Nat.reduceAdd, e17, hw, e1, e2, e15, e16]; refine k' _ _ ?_; clear k' K')
        all_goals refine S.nil ?_
        all_goals simp only [ze, reduceIte, Nat.reduceEqDiff, Nat.reduceLT, Nat.reduceLeDiff, Nat.reduceAdd, reduceCtorEq, Nat.reduceMul, e17, hw, e1, e2, e15, e16]
        refine ⟨m - 1, by omega, i + 1, by omega, rfl, ?_⟩
        rw [hp, hx, Bool.true_and]
    · refine AW.exit ?_
      all_goals simp only [zs, reduceIte, Nat.reduceEqDiff, Nat.reduceLT, Nat.reduceLeDiff, Nat.reduceAdd, reduceCtorEq, Nat.reduceMul]
      -- EXIT 0
      all_goals first | refine h13 _ _ ?_ | refine h12 _ _ ?_ | refine h11 _ _ ?_ | refine h10 _ _ ?_ | refine h9 _ _ ?_ | refine h8 _ _ ?_ | refine h7 _ _ ?_ | refine h6 _ _ ?_ | refine h5 _ _ ?_ | refine h4 _ _ ?_ | refine h3 _ _ ?_ | refine h2 _ _ ?_ | refine h1 _ _ ?_
      refine AW.seq_k fun K14 h14 => ?_
      all_goals refine AW.reg0 ?_
      all_goals (refine S.g rfl rfl fun K' k' => ?_; simp only [zz, reduceIte, Nat.reduceEqDiff, Nat.reduceAdd]; refine k' _ _ ?_; clear k' K')
      all_goals refine S.nil ?_
      all_goals simp only [ze, reduceIte, Nat.reduceEqDiff, Nat.reduceLT, Nat.reduceLeDiff, Nat.reduceAdd, reduceCtorEq, Nat.reduceMul]
      all_goals first | refine h14 _ _ ?_ | refine h13 _ _ ?_ | refine h12 _ _ ?_ | refine h11 _ _ ?_ | refine h10 _ _ ?_ | refine h9 _ _ ?_ | refine h8 _ _ ?_ | refine h7 _ _ ?_ | refine h6 _ _ ?_ | refine h5 _ _ ?_ | refine h4 _ _ ?_ | refine h3 _ _ ?_ | refine h2 _ _ ?_ | refine h1 _ _ ?_
      refine AW.ret ?_
      all_goals simp only [zs, reduceIte, Nat.reduceEqDiff, Nat.reduceLT, Nat.reduceLeDiff, Nat.reduceAdd, reduceCtorEq, Nat.reduceMul]
      have hi : l.length ≤ i := by simpa using hc
      simp [hp, List.drop_of_length_le hi, List.drop_of_length_le (hlr ▸ hi), allEq]

theorem same_part (l r : List Bd) (hl : l.length < 4611686018427387904) (hla : ∀ b ∈ l, b.ev.attrs.length < 4611686018427387904) : PCalls Try.prog 15 [.agg [.sl (l.map encBd)], .agg [.sl (r.map encBd)]] (fun v => v = .c (.bool (allEq eqBd l r))) := by
  refine PCalls.intro Try.call15 Try.func15 rfl Try.ntmps15 Try.results15 (by simp) ?_
  refine AW.seq_k fun K1 h1 => ?_
  all_goals refine AW.reg0 ?_
  all_goals iterate 3 (refine S.g rfl rfl fun K' k' => ?_; simp only [zz, reduceIte, Nat.reduceEqDiff, Nat.reduceLT, Nat.reduceLeDiff, Nat.reduceAdd, reduceCtorEq, Nat.reduceMul, ok24, sz24, ag24]; refine k' _ _ ?_; clear k' K')
  all_goals refine S.nil ?_
  all_goals simp only [ze, reduceIte, Nat.reduceEqDiff, Nat.reduceLT, Nat.reduceLeDiff, Nat.reduceAdd, reduceCtorEq, Nat.reduceMul]
  all_goals first | refine h1 _ _ ?_
  refine AW.seq_k fun K2 h2 => ?_
  all_goals refine AW.reg0 ?_
  all_goals iterate 4 (refine S.g rfl rfl fun K' k' => ?_; simp only [zz, reduceIte, Nat.reduceEqDiff, Nat.reduceLT, Nat.reduceLeDiff, Nat.reduceAdd, reduceCtorEq, Nat.reduceMul, of24_0, ok22, sz22, ag22]; refine k' _ _ ?_; clear k' K')
  all_goals (refine S.g rfl rfl fun K' k' => ?_; simp only [zz, reduceIte, Nat.reduceEqDiff, Nat.reduceLT, Nat.reduceLeDiff, Nat.reduceAdd, reduceCtorEq, Nat.reduceMul]; refine PCalls.eqto (equal_bds _ _ (by assumption) (by assumption)) ?_ <;> (refine k' _ _ ?_; clear k' K'))
  all_goals (refine S.g rfl rfl fun K' k' => ?_; simp only [zz, reduceIte, Nat.reduceEqDiff, Nat.reduceAdd]; refine k' _ _ ?_; clear k' K')
  all_goals refine S.nil ?_
  all_goals simp only [ze, reduceIte, Nat.reduceEqDiff, Nat.reduceLT, Nat.reduceLeDiff, Nat.reduceAdd, reduceCtorEq, Nat.reduceMul]
  all_goals first | refine h2 _ _ ?_ | refine h1 _ _ ?_
  refine AW.ret ?_
  all_goals simp only [zs, reduceIte, Nat.reduceEqDiff, Nat.reduceLT, Nat.reduceLeDiff, Nat.reduceAdd, reduceCtorEq, Nat.reduceMul]
end Go.Abs.M
namespace Go.Abs.M
open Go Go.Abs Go.Proofs
set_option linter.unusedSimpArgs false

/-- Of two bounds of a part, one behind the other. -/
def Aft (x y : Bd) : Prop := leS y.var x.var = false ∧ idOf x ≠ idOf y
theorem partFrom_iff (n : Nat) : ∀ (l : List Bd) (p : Option ByteArray) (sn : List (Int × Int)), partFrom n p sn l = 0 ↔
    (∀ b ∈ l, named n b = true ∧ evErr b.ev = 0 ∧ idOf b ∉ sn) ∧ l.Pairwise Aft ∧ (∀ q, p = some q → ∀ b ∈ l, leS b.var q = false) := by
  intro l
  induction l with
  | nil => intro p sn; simp [partFrom]
  | cons b l ih =>
    intro p sn
    have hid : idOf b = (b.ev.src, b.ev.seq) := rfl
    constructor
    · intro h
      simp only [partFrom] at h
      split at h
      · cases h
      · rename_i hx
        split at h
        · rename_i h1; exact absurd h h1
        · rename_i he
          have he : evErr b.ev = 0 := Decidable.not_not.1 he
          obtain ⟨h1, h2, h3⟩ := (ih _ _).1 h
          have hnm : named n b = true := by
            cases e : named n b
            · exact absurd (.inl e) hx
            · rfl
          have hsn : idOf b ∉ sn := fun e => hx (.inr (.inr (by rw [← hid]; exact e)))
          have hq : ∀ q, p = some q → leS b.var q = false := fun q hq => by
            subst hq
            cases e : leS b.var q
            · rfl
            · exact absurd (.inr (.inl (by simpa using e))) hx
          refine ⟨fun y hy => ?_, List.pairwise_cons.2 ⟨fun y hy => ⟨h3 _ rfl y hy, fun e => ?_⟩, h2⟩, fun q hpq y hy => ?_⟩
          · rcases List.mem_cons.1 hy with rfl | hy
            · exact ⟨hnm, he, hsn⟩
            · obtain ⟨a1, a2, a3⟩ := h1 y hy
              exact ⟨a1, a2, fun e => a3 (List.mem_append_left _ e)⟩
          · exact (h1 y hy).2.2 (by rw [← e, hid]; simp)
          · rcases List.mem_cons.1 hy with rfl | hy
            · exact hq q hpq
            · cases e : leS y.var q
              · rfl
              · have := leS_trans e (leS_total (hq q hpq))
                rw [h3 _ rfl y hy] at this; cases this
    · rintro ⟨h1, h2, h3⟩
      obtain ⟨a1, a2, a3⟩ := h1 b List.mem_cons_self
      obtain ⟨b1, b2⟩ := List.pairwise_cons.1 h2
      simp only [partFrom]
      rw [if_neg, if_neg (by rw [a2]; simp)]
      · refine (ih _ _).2 ⟨fun y hy => ?_, b2, fun q hq y hy => ?_⟩
        · obtain ⟨c1, c2, c3⟩ := h1 y (List.mem_cons_of_mem _ hy)
          refine ⟨c1, c2, fun e => ?_⟩
          rcases List.mem_append.1 e with e | e
          · exact c3 e
          · exact (b1 y hy).2 (by rw [hid]; simpa using (List.mem_singleton.1 e).symm)
        · cases hq; exact (b1 y hy).1
      · rintro (e | e | e)
        · rw [a1] at e; cases e
        · cases p with
          | none => simp at e
          | some q => simp at e; rw [h3 q rfl b List.mem_cons_self] at e; cases e
        · exact a3 (by rw [hid]; exact e)
theorem part_iff (l : List Bd) : partErr l = 0 ↔ l.length ≤ 12 ∧ (∀ b ∈ l, named l.length b = true ∧ evErr b.ev = 0) ∧ l.Pairwise Aft := by
  unfold partErr
  split
  · simp; omega
  · rw [partFrom_iff]
    simp
    omega

theorem mrg_perm (a b : List Bd) : (mrg a b).Perm (a ++ b) := by
  fun_induction mrg a b
  · exact .refl _
  · simp
  · rename_i ih; exact .cons _ ih
  · rename_i x a y b _ ih
    exact (List.Perm.cons y ih).trans List.perm_middle.symm
theorem mrg_comm : ∀ (a b : List Bd), (∀ x ∈ a, ∀ y ∈ b, leS x.var y.var = true → leS y.var x.var = false) → mrg a b = mrg b a := by
  intro a b
  fun_induction mrg a b
  · intro _; rw [mrg_nil]
  · intro _; rw [mrg]
  · rename_i x a y b hxy ih
    intro h
    have hyx := h x List.mem_cons_self y List.mem_cons_self hxy
    rw [mrg, if_neg (by rw [hyx]; simp), ih (fun z hz w hw => h z (List.mem_cons_of_mem _ hz) w hw)]
  · rename_i x a y b hxy ih
    intro h
    have hyx := leS_total (by simpa using hxy)
    rw [mrg, if_pos hyx, ih (fun z hz w hw => h z hz w (List.mem_cons_of_mem _ hw))]
theorem mrg_assoc : ∀ (n : Nat) (a b c : List Bd), a.length + b.length + c.length ≤ n → mrg (mrg a b) c = mrg a (mrg b c) := by
  intro n
  induction n with
  | zero =>
    intro a b c h
    rw [List.eq_nil_of_length_eq_zero (show a.length = 0 by omega), List.eq_nil_of_length_eq_zero (show b.length = 0 by omega), List.eq_nil_of_length_eq_zero (show c.length = 0 by omega)]
    simp [mrg]
  | succ n ih =>
    intro a b c h
    match a, b, c with
    | [], b, c => simp [mrg]
    | x :: a, [], c => simp [mrg, mrg_nil]
    | x :: a, y :: b, [] => simp [mrg_nil]
    | x :: a, y :: b, z :: c =>
      simp only [List.length_cons] at h
      by_cases hxy : leS x.var y.var = true
      · by_cases hyz : leS y.var z.var = true
        · have hxz := leS_trans hxy hyz
          have e := ih a (y :: b) (z :: c) (by simp; omega)
          rw [mrg, if_pos hxy, mrg, if_pos hxz, e]
          conv => rhs; rw [show mrg (y :: b) (z :: c) = y :: mrg b (z :: c) from by rw [mrg, if_pos hyz], mrg, if_pos hxy]
          rw [show mrg (y :: b) (z :: c) = y :: mrg b (z :: c) from by rw [mrg, if_pos hyz]]
        · have e1 : mrg (y :: b) (z :: c) = z :: mrg (y :: b) c := by rw [mrg, if_neg hyz]
          by_cases hxz : leS x.var z.var = true
          · have e := ih a (y :: b) (z :: c) (by simp; omega)
            rw [mrg, if_pos hxy, mrg, if_pos hxz, e, e1, mrg.eq_3, if_pos hxz]
          · have e := ih (x :: a) (y :: b) c (by simp; omega)
            have e2 : mrg (x :: a) (y :: b) = x :: mrg a (y :: b) := by rw [mrg, if_pos hxy]
            rw [e2, mrg, if_neg hxz, ← e2, e, e1, mrg, if_neg hxz]
      · have e2 : mrg (x :: a) (y :: b) = y :: mrg (x :: a) b := by rw [mrg, if_neg hxy]
        by_cases hyz : leS y.var z.var = true
        · have e1 : mrg (y :: b) (z :: c) = y :: mrg b (z :: c) := by rw [mrg, if_pos hyz]
          have e := ih (x :: a) b (z :: c) (by simp; omega)
          rw [e2, mrg, if_pos hyz, e, e1, mrg, if_neg hxy]
        · have e1 : mrg (y :: b) (z :: c) = z :: mrg (y :: b) c := by rw [mrg, if_neg hyz]
          have hxz : ¬ leS x.var z.var = true := fun h => hyz (leS_trans (leS_total (by simpa using hxy)) h)
          have e := ih (x :: a) (y :: b) c (by simp; omega)
          rw [e2, mrg, if_neg hyz, ← e2, e, e1, mrg, if_neg hxz]

/-- Two put together, or none. -/
def mg (a b : List Bd) : Option (List Bd) := if partErr a = 0 ∧ partErr b = 0 ∧ partErr (mrg a b) = 0 then some (mrg a b) else none
def optV : Option (List Bd) → V
  | none => noPart
  | some p => .tup [.agg [.sl (p.map encBd)], .c (.bool true)]
theorem mergeV_eq (a b : List Bd) : mergeV a b (mrg a b) = optV (mg a b) := by
  unfold mergeV mg
  by_cases h1 : partErr a = 0 <;> by_cases h2 : partErr b = 0 <;> by_cases h3 : partErr (mrg a b) = 0 <;> simp [h1, h2, h3, optV]
theorem dist_of {a b : List Bd} (h : partErr (mrg a b) = 0) : ∀ x ∈ a, ∀ y ∈ b, leS x.var y.var = true → leS y.var x.var = false := by
  obtain ⟨_, _, h3⟩ := (part_iff _).1 h
  have h4 : (mrg a b).Pairwise (fun x y => leS x.var y.var = false ∨ leS y.var x.var = false) := h3.imp fun k => .inr k.1
  have h5 := ((mrg_perm a b).pairwise_iff (fun {x y} k => k.symm)).1 h4
  obtain ⟨_, _, h6⟩ := List.pairwise_append.1 h5
  intro x hx y hy hxy
  rcases h6 x hx y hy with k | k
  · rw [hxy] at k; cases k
  · exact k
theorem mg_comm_some {a b p : List Bd} (h : mg a b = some p) : mg b a = some p := by
  unfold mg at h ⊢
  split at h
  · rename_i hc
    obtain ⟨h1, h2, h3⟩ := hc
    have e := mrg_comm a b (dist_of h3)
    rw [if_pos ⟨h2, h1, by rw [← e]; exact h3⟩, ← e]; exact h
  · cases h
theorem mg_comm (a b : List Bd) : mg a b = mg b a := by
  cases h : mg a b with
  | some p => exact (mg_comm_some h).symm
  | none =>
    cases k : mg b a with
    | none => rfl
    | some p => rw [mg_comm_some k] at h; cases h
/-- A part of a part may be. -/
theorem part_sub {p q : List Bd} (hp : partErr p = 0) (hs : Srt q) (hq : ∃ r, p.Perm (q ++ r)) : partErr q = 0 := by
  obtain ⟨r, hr⟩ := hq
  obtain ⟨h1, h2, h3⟩ := (part_iff p).1 hp
  have hl : p.length = q.length + r.length := by rw [hr.length_eq, List.length_append]
  refine (part_iff q).2 ⟨by omega, fun b hb => ?_, ?_⟩
  · obtain ⟨k1, k2⟩ := h2 b (hr.symm.subset (List.mem_append_left _ hb))
    refine ⟨?_, k2⟩
    unfold named at k1 ⊢
    simp only [Bool.or_eq_true, decide_eq_true_eq] at k1 ⊢
    rcases k1 with k | ⟨k, kn⟩
    · exact .inl k
    · have : 0 < q.length := List.length_pos_of_mem hb
      exact .inr ⟨k, by omega⟩
  · have h4 : p.Pairwise (fun x y => (leS x.var y.var = false ∨ leS y.var x.var = false) ∧ idOf x ≠ idOf y) := h3.imp fun k => ⟨.inr k.1, k.2⟩
    have h5 := (hr.pairwise_iff (fun {x y} k => ⟨k.1.symm, fun e => k.2 e.symm⟩)).1 h4
    have h6 := (List.pairwise_append.1 h5).1
    clear h5 h4 h3 hr h2 h1 hl hp
    induction q with
    | nil => exact .nil
    | cons x q ih =>
      obtain ⟨a1, a2⟩ := List.pairwise_cons.1 h6
      refine List.pairwise_cons.2 ⟨fun y hy => ?_, ih hs.2 a2⟩
      obtain ⟨b1, b2⟩ := a1 y hy
      refine ⟨?_, b2⟩
      rcases b1 with b | b
      · rw [hs.1 y hy] at b; cases b
      · exact b
theorem mrg_srt {a b : List Bd} (ha : Srt a) (hb : Srt b) : Srt (mrg a b) := by
  fun_induction mrg a b
  · exact hb
  · exact ha
  · rename_i x a y b hxy ih
    refine ⟨fun z hz => ?_, ih ha.2 hb⟩
    rcases List.mem_append.1 (mrg_mem _ _ z hz) with h | h
    · exact ha.1 z h
    · rcases List.mem_cons.1 h with rfl | h
      · exact hxy
      · exact leS_trans hxy (hb.1 z h)
  · rename_i x a y b hxy ih
    have hyx := leS_total (by simpa using hxy)
    refine ⟨fun z hz => ?_, ih ha hb.2⟩
    rcases List.mem_append.1 (mrg_mem _ _ z hz) with h | h
    · rcases List.mem_cons.1 h with rfl | h
      · exact hyx
      · exact leS_trans hyx (ha.1 z h)
    · exact hb.1 z h
theorem mg_some {a b p : List Bd} (h : mg a b = some p) : partErr a = 0 ∧ partErr b = 0 ∧ partErr p = 0 ∧ p = mrg a b := by
  unfold mg at h
  split at h
  · rename_i hc; cases h; exact ⟨hc.1, hc.2.1, hc.2.2, rfl⟩
  · cases h
theorem mg_mk {a b : List Bd} (h1 : partErr a = 0) (h2 : partErr b = 0) (h3 : partErr (mrg a b) = 0) : mg a b = some (mrg a b) := by
  unfold mg; rw [if_pos ⟨h1, h2, h3⟩]
theorem mg_assoc (a b c : List Bd) : ((mg a b).bind fun p => mg p c) = (mg b c).bind fun r => mg a r := by
  have key : ∀ p, ((mg a b).bind fun p => mg p c) = some p ↔ ((mg b c).bind fun r => mg a r) = some p := by
    intro p
    have hass := mrg_assoc _ a b c (Nat.le_refl _)
    constructor
    · intro h
      obtain ⟨q, h1, h2⟩ := Option.bind_eq_some_iff.1 h
      obtain ⟨ha, hb, hq, rfl⟩ := mg_some h1
      obtain ⟨_, hc, hp, rfl⟩ := mg_some h2
      have hbc : partErr (mrg b c) = 0 := part_sub hp (mrg_srt (part_srt hb) (part_srt hc)) ⟨a, by
        rw [hass]
        exact (mrg_perm _ _).trans List.perm_append_comm⟩
      rw [mg_mk hb hc hbc]
      show mg a (mrg b c) = _
      rw [hass] at hp ⊢
      exact mg_mk ha hbc hp
    · intro h
      obtain ⟨q, h1, h2⟩ := Option.bind_eq_some_iff.1 h
      obtain ⟨hb, hc, hq, rfl⟩ := mg_some h1
      obtain ⟨ha, _, hp, rfl⟩ := mg_some h2
      have hab : partErr (mrg a b) = 0 := part_sub hp (mrg_srt (part_srt ha) (part_srt hb)) ⟨c, by
        rw [← hass]
        exact mrg_perm _ _⟩
      rw [mg_mk ha hb hab]
      show mg (mrg a b) c = _
      rw [← hass] at hp ⊢
      exact mg_mk hab hc hp
  cases h : ((mg a b).bind fun p => mg p c) with
  | some p => exact ((key p).1 h).symm
  | none =>
    cases k : ((mg b c).bind fun r => mg a r) with
    | none => rfl
    | some p => rw [(key p).2 k] at h; cases h
end Go.Abs.M
namespace Go.Abs.M
open Go Go.Abs Go.Proofs
set_option maxRecDepth 20000
set_option linter.unusedSimpArgs false
set_option linter.unusedVariables false

def optL : Option (List Bd) → List Bd
  | none => []
  | some p => p
def optB : Option (List Bd) → Bool
  | none => false
  | some _ => true
theorem optV_eq (o : Option (List Bd)) : optV o = .tup [.agg [.sl ((optL o).map encBd)], .c (.bool (optB o))] := by cases o <;> rfl
/-- What the contracts want of a list. -/
structure okM (l : List Bd) : Prop where
  ok : okP l
  attrs : ∀ x ∈ l, x.ev.attrs.length * 48 ≤ 140737488355328
theorem okI.m {l : List Bd} (h : okI l) : okM l := ⟨h.ok, h.attrs⟩
theorem okM.mrg {a b : List Bd} (ha : okM a) (hb : okM b) : okM (mrg a b) := by
  refine ⟨fun x hx => ?_, fun x hx => ?_⟩ <;> rcases List.mem_append.1 (mrg_mem a b x hx) with h | h
  · exact ha.ok x h
  · exact hb.ok x h
  · exact ha.attrs x h
  · exact hb.attrs x h
theorem okM.mg {a b : List Bd} (ha : okM a) (hb : okM b) : okM (optL (mg a b)) := by
  cases h : Abs.M.mg a b with
  | none => exact ⟨(fun _ h => by cases h), (fun _ h => by cases h)⟩
  | some p => obtain ⟨_, _, _, rfl⟩ := mg_some h; exact ha.mrg hb
theorem mergeC {a b : List Bd} (ha : okM a) (hb : okM b) : PCalls Try.prog 11 [.agg [.sl (a.map encBd)], .agg [.sl (b.map encBd)]] (fun v => v = .tup [.agg [.sl ((optL (mg a b)).map encBd)], .c (.bool (optB (mg a b)))]) :=
  (merge_spec a b ha.ok hb.ok (fun x hx => by
    rcases List.mem_append.1 hx with h | h
    · exact ha.attrs x h
    · exact hb.attrs x h)).mono fun v h => by rw [h, mergeV_eq, optV_eq]
theorem sameC {l : List Bd} (h : okM l) (hl : l.length < 4611686018427387904) : PCalls Try.prog 15 [.agg [.sl (l.map encBd)], .agg [.sl (l.map encBd)]] (fun v => v = .c (.bool true)) :=
  (same_part l l hl (fun b hb => by have := h.attrs b hb; omega)).mono fun v h => by rw [h, allEq_refl eqBd_refl]
theorem mg_len (a b : List Bd) : (optL (mg a b)).length < 4611686018427387904 := by
  cases h : Abs.M.mg a b with
  | none => simp [optL]
  | some p =>
    obtain ⟨_, _, h1, rfl⟩ := mg_some h
    have := ((part_iff _).1 h1).1
    simp only [optL]; omega
theorem mg_err {a b p : List Bd} (h : mg a b = some p) : partErr p = 0 := (mg_some h).2.2.1

theorem law_orders (a b c : List Bd) (ha : okM a) (hb : okM b) (hc : okM c) : PCalls Try.prog 4 [.agg [.sl (a.map encBd)], .agg [.sl (b.map encBd)], .agg [.sl (c.map encBd)]] (fun v => v = .c (.bool true)) := by
  have hba := mergeC hb ha
  rw [mg_comm b a] at hba
  have hass := mg_assoc a b c
  refine PCalls.intro Try.call4 Try.func4 rfl Try.ntmps4 Try.results4 (by simp) ?_
  refine AW.seq_k fun K1 h1 => ?_
  all_goals refine AW.reg0 ?_
  all_goals iterate 4 (refine S.g rfl rfl fun K' k' => ?_; simp only [zz, reduceIte, Nat.reduceEqDiff, Nat.reduceLT, Nat.reduceLeDiff, Nat.reduceAdd, reduceCtorEq, Nat.reduceMul, ok24, sz24, ag24]; refine k' _ _ ?_; clear k' K')
  all_goals refine S.nil ?_
  all_goals simp only [ze, reduceIte, Nat.reduceEqDiff, Nat.reduceLT, Nat.reduceLeDiff, Nat.reduceAdd, reduceCtorEq, Nat.reduceMul]
  all_goals first | refine h1 _ _ ?_
  refine AW.seq_k fun K2 h2 => ?_
  refine AW.seq_k fun K3 h3 => ?_
  all_goals refine AW.reg0 ?_
  all_goals (refine S.g rfl rfl fun K' k' => ?_; simp only [zz, reduceIte, Nat.reduceEqDiff, Nat.reduceLT, Nat.reduceLeDiff, Nat.reduceAdd, reduceCtorEq, Nat.reduceMul]; refine PCalls.eqto begun_spec ?_ <;> (refine k' _ _ ?_; clear k' K'))
  all_goals (refine S.g rfl rfl fun K' k' => ?_; simp only [zz, reduceIte, Nat.reduceEqDiff, Nat.reduceAdd]; refine k' _ _ ?_; clear k' K')
  all_goals refine S.nil ?_
  all_goals simp only [ze, reduceIte, Nat.reduceEqDiff, Nat.reduceLT, Nat.reduceLeDiff, Nat.reduceAdd, reduceCtorEq, Nat.reduceMul]
  all_goals first | refine h3 _ _ ?_ | refine h2 _ _ ?_ | refine h1 _ _ ?_
  refine AW.cond (b := false) (by simp [ev]) (fun he => by cases he) (fun he => AW.skip ?_)
  all_goals simp only [zs, reduceIte, Nat.reduceEqDiff, Nat.reduceLT, Nat.reduceLeDiff, Nat.reduceAdd, reduceCtorEq, Nat.reduceMul]
  all_goals first | refine h3 _ _ ?_ | refine h2 _ _ ?_ | refine h1 _ _ ?_
  refine AW.seq_k fun K4 h4 => ?_
  all_goals refine AW.reg0 ?_
  all_goals iterate 2 (refine S.g rfl rfl fun K' k' => ?_; simp only [zz, reduceIte, Nat.reduceEqDiff, Nat.reduceLT, Nat.reduceLeDiff, Nat.reduceAdd, reduceCtorEq, Nat.reduceMul, ok24, sz24, ag24]; refine k' _ _ ?_; clear k' K')
  all_goals (refine S.g rfl rfl fun K' k' => ?_; simp only [zz, reduceIte, Nat.reduceEqDiff, Nat.reduceLT, Nat.reduceLeDiff, Nat.reduceAdd, reduceCtorEq, Nat.reduceMul]; refine PCalls.eqto (mergeC ha hb) ?_ <;> (refine k' _ _ ?_; clear k' K'))
  all_goals iterate 6 (refine S.g rfl rfl fun K' k' => ?_; simp only [zz, reduceIte, Nat.reduceEqDiff, Nat.reduceLT, Nat.reduceLeDiff, Nat.reduceAdd, reduceCtorEq, Nat.reduceMul, zt24, ok24, sz24, ag24]; refine k' _ _ ?_; clear k' K')
  all_goals refine S.nil ?_
  all_goals simp only [ze, reduceIte, Nat.reduceEqDiff, Nat.reduceLT, Nat.reduceLeDiff, Nat.reduceAdd, reduceCtorEq, Nat.reduceMul]
  all_goals first | refine h4 _ _ ?_ | refine h3 _ _ ?_ | refine h2 _ _ ?_ | refine h1 _ _ ?_
  refine AW.seq_k fun K5 h5 => ?_
  all_goals refine AW.reg0 ?_
  all_goals iterate 2 (refine S.g rfl rfl fun K' k' => ?_; simp only [zz, reduceIte, Nat.reduceEqDiff, Nat.reduceLT, Nat.reduceLeDiff, Nat.reduceAdd, reduceCtorEq, Nat.reduceMul, ok24, sz24, ag24]; refine k' _ _ ?_; clear k' K')
  all_goals (refine S.g rfl rfl fun K' k' => ?_; simp only [zz, reduceIte, Nat.reduceEqDiff, Nat.reduceLT, Nat.reduceLeDiff, Nat.reduceAdd, reduceCtorEq, Nat.reduceMul]; refine PCalls.eqto hba ?_ <;> (refine k' _ _ ?_; clear k' K'))
  all_goals iterate 6 (refine S.g rfl rfl fun K' k' => ?_; simp only [zz, reduceIte, Nat.reduceEqDiff, Nat.reduceLT, Nat.reduceLeDiff, Nat.reduceAdd, reduceCtorEq, Nat.reduceMul, zt24, ok24, sz24, ag24]; refine k' _ _ ?_; clear k' K')
  all_goals refine S.nil ?_
  all_goals simp only [ze, reduceIte, Nat.reduceEqDiff, Nat.reduceLT, Nat.reduceLeDiff, Nat.reduceAdd, reduceCtorEq, Nat.reduceMul]
  all_goals first | refine h5 _ _ ?_ | refine h4 _ _ ?_ | refine h3 _ _ ?_ | refine h2 _ _ ?_ | refine h1 _ _ ?_
  refine AW.seq_j (fun s σ => σ = Hp.empty ∧ s.t 3 = .lp 3 0 ∧ s.l 3 = some [.sl (a.map encBd)] ∧ s.t 4 = .lp 4 0 ∧ s.l 4 = some [.sl (b.map encBd)] ∧ s.t 5 = .lp 5 0 ∧ s.l 5 = some [.sl (c.map encBd)] ∧ s.t 7 = .lp 7 0 ∧ s.l 7 = some [.sl ((optL (mg a b)).map encBd)] ∧ s.t 8 = .c (.bool (optB (mg a b)))) ?_ ?_
  · refine AW.seq_j (fun s σ => σ = Hp.empty ∧ s.t 3 = .lp 3 0 ∧ s.l 3 = some [.sl (a.map encBd)] ∧ s.t 4 = .lp 4 0 ∧ s.l 4 = some [.sl (b.map encBd)] ∧ s.t 5 = .lp 5 0 ∧ s.l 5 = some [.sl (c.map encBd)] ∧ s.t 7 = .lp 7 0 ∧ s.l 7 = some [.sl ((optL (mg a b)).map encBd)] ∧ s.t 8 = .c (.bool (optB (mg a b))) ∧ s.t 35 = .c (.bool false)) ?_ ?_
    · generalize optB (mg a b) = y
      cases y
      all_goals refine AW.reg0 ?_
      all_goals iterate 2 (refine S.g rfl rfl fun K' k' => ?_; simp only [zz, reduceIte, Nat.reduceEqDiff, Nat.reduceAdd, un4]; refine k' _ _ ?_; clear k' K')
      all_goals (refine S.g rfl rfl fun K' k' => ?_; simp only [zz, reduceIte, Nat.reduceEqDiff, Nat.reduceLT, Nat.reduceLeDiff, Nat.reduceAdd, reduceCtorEq, Nat.reduceMul, un4, un4]; refine S.bool fun b a29 => ?_; cases b <;> (try (exfalso; first | exact Bool.noConfusion a29 | (have h := of_decide_eq_true a29; omega) | (have h := of_decide_eq_false a29; omega))) <;> (refine k' _ _ ?_; clear k' K'))
      all_goals (refine S.g rfl rfl fun K' k' => ?_; simp only [zz, reduceIte, Nat.reduceEqDiff, Nat.reduceAdd, un4]; refine k' _ _ ?_; clear k' K')
      all_goals iterate 2 (first | (refine S.y rfl rfl rfl rfl fun K' k' => ?_; simp only [zz, reduceIte, Nat.reduceEqDiff, Nat.reduceLT, Nat.reduceLeDiff, Nat.reduceAdd, reduceCtorEq, Nat.reduceMul, ok24, sz24, ag24, un4]; refine k' _ _ ?_; clear k' K') | ((first | refine S.x rfl rfl rfl rfl fun K' k' => ?_ | refine S.u rfl rfl rfl rfl fun K' k' => ?_); simp only [ze, reduceIte, Nat.reduceEqDiff]; refine k' _ _ ?_; clear k' K'))
      all_goals first | (refine S.y rfl rfl rfl rfl fun K' k' => ?_; simp only [zz, reduceIte, Nat.reduceEqDiff, Nat.reduceLT, Nat.reduceLeDiff, Nat.reduceAdd, reduceCtorEq, Nat.reduceMul, un4]; refine PCalls.eqto (sameC (ha.mg hb) (mg_len a b)) ?_ <;> (refine k' _ _ ?_; clear k' K')) | ((first | refine S.x rfl rfl rfl rfl fun K' k' => ?_ | refine S.u rfl rfl rfl rfl fun K' k' => ?_); simp only [ze, reduceIte, Nat.reduceEqDiff]; (refine k' _ _ ?_; clear k' K'))
      all_goals (first | (refine S.y rfl rfl rfl rfl fun K' k' => ?_; simp only [zz, reduceIte, Nat.reduceEqDiff, Nat.reduceAdd, un4]; refine k' _ _ ?_; clear k' K') | ((first | refine S.x rfl rfl rfl rfl fun K' k' => ?_ | refine S.u rfl rfl rfl rfl fun K' k' => ?_); simp only [ze, reduceIte, Nat.reduceEqDiff]; refine k' _ _ ?_; clear k' K'))
      all_goals (refine S.g rfl rfl fun K' k' => ?_; simp only [zz, reduceIte, Nat.reduceEqDiff, Nat.reduceAdd, un4]; refine k' _ _ ?_; clear k' K')
      all_goals refine S.nil ?_
      all_goals simp only [ze, reduceIte, Nat.reduceEqDiff, Nat.reduceLT, Nat.reduceLeDiff, Nat.reduceAdd, reduceCtorEq, Nat.reduceMul, un4]
    rintro s σ ⟨rfl, e3, l3, e4, l4, e5, l5, e7, l7, e8, e35⟩
    refine AW.cond (b := false) e35 (fun he => by cases he) (fun he => AW.skip ?_)
    all_goals simp only [zs, reduceIte, Nat.reduceEqDiff, Nat.reduceLT, Nat.reduceLeDiff, Nat.reduceAdd, reduceCtorEq, Nat.reduceMul]
    exact ⟨e3, l3, e4, l4, e5, l5, e7, l7, e8⟩
  rintro s σ ⟨rfl, e3, l3, e4, l4, e5, l5, e7, l7, e8⟩
  refine AW.seq_j (fun s σ => σ = Hp.empty ∧ s.t 3 = .lp 3 0 ∧ s.l 3 = some [.sl (a.map encBd)] ∧ s.t 4 = .lp 4 0 ∧ s.l 4 = some [.sl (b.map encBd)] ∧ s.t 5 = .lp 5 0 ∧ s.l 5 = some [.sl (c.map encBd)] ∧ s.t 7 = .lp 7 0 ∧ s.l 7 = some [.sl ((optL ((mg a b).bind fun p => mg p c)).map encBd)] ∧ s.t 8 = .c (.bool (optB ((mg a b).bind fun p => mg p c)))) ?_ ?_
  · refine AW.seq_k fun K6 h6 => ?_
    all_goals refine AW.reg0 ?_
    all_goals (refine S.g rfl rfl fun K' k' => ?_; simp only [zz, reduceIte, Nat.reduceEqDiff, Nat.reduceAdd, e8]; refine k' _ _ ?_; clear k' K')
    all_goals refine S.nil ?_
    all_goals simp only [ze, reduceIte, Nat.reduceEqDiff, Nat.reduceLT, Nat.reduceLeDiff, Nat.reduceAdd, reduceCtorEq, Nat.reduceMul, e8]
    all_goals first | refine h6 _ _ ?_ | refine h5 _ _ ?_ | refine h4 _ _ ?_ | refine h3 _ _ ?_ | refine h2 _ _ ?_ | refine h1 _ _ ?_
    refine AW.cond (b := optB (mg a b)) (by simp [ev]) (fun hd => ?_) (fun hd => ?_)
    · skip
      all_goals refine AW.reg0 ?_
      all_goals iterate 2 (refine S.g rfl rfl fun K' k' => ?_; simp only [zz, reduceIte, Nat.reduceEqDiff, Nat.reduceLT, Nat.reduceLeDiff, Nat.reduceAdd, reduceCtorEq, Nat.reduceMul, ok24, sz24, ag24, e7, l7, e5, l5, e3, l3, e4, l4]; refine k' _ _ ?_; clear k' K')
      all_goals (refine S.g rfl rfl fun K' k' => ?_; simp only [zz, reduceIte, Nat.reduceEqDiff, Nat.reduceLT, Nat.reduceLeDiff, Nat.reduceAdd, reduceCtorEq, Nat.reduceMul, e7, l7, e5, l5, e3, l3, e4, l4]; refine PCalls.eqto (mergeC (ha.mg hb) hc) ?_ <;> (refine k' _ _ ?_; clear k' K'))
      all_goals iterate 5 (refine S.g rfl rfl fun K' k' => ?_; simp only [zz, reduceIte, Nat.reduceEqDiff, Nat.reduceLT, Nat.reduceLeDiff, Nat.reduceAdd, reduceCtorEq, Nat.reduceMul, ok24, sz24, ag24, e7, l7, e5, l5, e3, l3, e4, l4]; refine k' _ _ ?_; clear k' K')
      all_goals refine S.nil ?_
      all_goals simp only [ze, reduceIte, Nat.reduceEqDiff, Nat.reduceLT, Nat.reduceLeDiff, Nat.reduceAdd, reduceCtorEq, Nat.reduceMul, e7, l7, e5, l5, e3, l3, e4, l4]
      cases h : mg a b with
      | none => rw [h] at hd; cases hd
      | some p => exact ⟨rfl, rfl⟩
    · refine AW.skip ?_
      all_goals simp only [zs, reduceIte, Nat.reduceEqDiff, Nat.reduceLT, Nat.reduceLeDiff, Nat.reduceAdd, reduceCtorEq, Nat.reduceMul]
      refine ⟨e3, l3, e4, l4, e5, l5, e7, ?_, ?_⟩
      all_goals (cases h : mg a b with
        | none => simp [e8, l7, h, optL, optB]
        | some p => rw [h] at hd; cases hd)
  clear e3 l3 e4 l4 e5 l5 e7 l7 e8
  generalize hXe : ((mg a b).bind fun p => mg p c) = X at hass
  have hXok : okM (optL X) ∧ (optL X).length < 4611686018427387904 ∧ (optB X = true → partErr (optL X) = 0) := by
    rw [← hXe]
    cases h : mg a b with
    | none => exact ⟨⟨(fun _ h => by cases h), (fun _ h => by cases h)⟩, by simp [optL], (fun h => by cases h)⟩
    | some p =>
      have hp : okM p := by have := ha.mg hb; rw [h] at this; exact this
      refine ⟨hp.mg hc, mg_len p c, fun hh => ?_⟩
      show partErr (optL (mg p c)) = 0
      cases h2 : mg p c with
      | none => simp [h2, optB] at hh
      | some q => exact mg_err h2
  obtain ⟨hX, hXl, hXe2⟩ := hXok
  rintro s σ ⟨rfl, e3, l3, e4, l4, e5, l5, e7, l7, e8⟩
  refine AW.seq_k fun K7 h7 => ?_
  all_goals refine AW.reg0 ?_
  all_goals iterate 2 (refine S.g rfl rfl fun K' k' => ?_; simp only [zz, reduceIte, Nat.reduceEqDiff, Nat.reduceLT, Nat.reduceLeDiff, Nat.reduceAdd, reduceCtorEq, Nat.reduceMul, ok24, sz24, ag24, e3, l3, e4, l4, e5, l5, e7, l7, e8]; refine k' _ _ ?_; clear k' K')
  all_goals (refine S.g rfl rfl fun K' k' => ?_; simp only [zz, reduceIte, Nat.reduceEqDiff, Nat.reduceLT, Nat.reduceLeDiff, Nat.reduceAdd, reduceCtorEq, Nat.reduceMul, e3, l3, e4, l4, e5, l5, e7, l7, e8]; refine PCalls.eqto (mergeC hb hc) ?_ <;> (refine k' _ _ ?_; clear k' K'))
  all_goals iterate 6 (refine S.g rfl rfl fun K' k' => ?_; simp only [zz, reduceIte, Nat.reduceEqDiff, Nat.reduceLT, Nat.reduceLeDiff, Nat.reduceAdd, reduceCtorEq, Nat.reduceMul, zt24, ok24, sz24, ag24, e3, l3, e4, l4, e5, l5, e7, l7, e8]; refine k' _ _ ?_; clear k' K')
  all_goals refine S.nil ?_
  all_goals simp only [ze, reduceIte, Nat.reduceEqDiff, Nat.reduceLT, Nat.reduceLeDiff, Nat.reduceAdd, reduceCtorEq, Nat.reduceMul, e3, l3, e4, l4, e5, l5, e7, l7, e8]
  all_goals first | refine h7 _ _ ?_ | refine h6 _ _ ?_ | refine h5 _ _ ?_ | refine h4 _ _ ?_ | refine h3 _ _ ?_ | refine h2 _ _ ?_ | refine h1 _ _ ?_
  refine AW.seq_j (fun s σ => σ = Hp.empty ∧ s.t 7 = .lp 7 0 ∧ s.l 7 = some [.sl ((optL X).map encBd)] ∧ s.t 8 = .c (.bool (optB X)) ∧ s.t 11 = .lp 11 0 ∧ s.l 11 = some [.sl ((optL X).map encBd)] ∧ s.t 12 = .c (.bool (optB X))) ?_ ?_
  · refine AW.seq_k fun K8 h8 => ?_
    all_goals refine AW.reg0 ?_
    all_goals (refine S.g rfl rfl fun K' k' => ?_; simp only [zz, reduceIte, Nat.reduceEqDiff, Nat.reduceAdd]; refine k' _ _ ?_; clear k' K')
    all_goals refine S.nil ?_
    all_goals simp only [ze, reduceIte, Nat.reduceEqDiff, Nat.reduceLT, Nat.reduceLeDiff, Nat.reduceAdd, reduceCtorEq, Nat.reduceMul]
    all_goals first | refine h8 _ _ ?_ | refine h7 _ _ ?_ | refine h6 _ _ ?_ | refine h5 _ _ ?_ | refine h4 _ _ ?_ | refine h3 _ _ ?_ | refine h2 _ _ ?_ | refine h1 _ _ ?_
    refine AW.cond (b := optB (mg b c)) (by simp [ev]) (fun hd => ?_) (fun hd => ?_)
    · skip
      all_goals refine AW.reg0 ?_
      all_goals iterate 2 (refine S.g rfl rfl fun K' k' => ?_; simp only [zz, reduceIte, Nat.reduceEqDiff, Nat.reduceLT, Nat.reduceLeDiff, Nat.reduceAdd, reduceCtorEq, Nat.reduceMul, ok24, sz24, ag24, e7, l7, e3, l3, e8]; refine k' _ _ ?_; clear k' K')
      all_goals (refine S.g rfl rfl fun K' k' => ?_; simp only [zz, reduceIte, Nat.reduceEqDiff, Nat.reduceLT, Nat.reduceLeDiff, Nat.reduceAdd, reduceCtorEq, Nat.reduceMul, e7, l7, e3, l3, e8]; refine PCalls.eqto (mergeC ha (hb.mg hc)) ?_ <;> (refine k' _ _ ?_; clear k' K'))
      all_goals iterate 5 (refine S.g rfl rfl fun K' k' => ?_; simp only [zz, reduceIte, Nat.reduceEqDiff, Nat.reduceLT, Nat.reduceLeDiff, Nat.reduceAdd, reduceCtorEq, Nat.reduceMul, ok24, sz24, ag24, e7, l7, e3, l3, e8]; refine k' _ _ ?_; clear k' K')
      all_goals refine S.nil ?_
      all_goals simp only [ze, reduceIte, Nat.reduceEqDiff, Nat.reduceLT, Nat.reduceLeDiff, Nat.reduceAdd, reduceCtorEq, Nat.reduceMul, e7, l7, e3, l3, e8]
      rw [hass]
      cases h : mg b c with
      | none => rw [h] at hd; cases hd
      | some p => exact ⟨rfl, rfl⟩
    · refine AW.skip ?_
      all_goals simp only [zs, reduceIte, Nat.reduceEqDiff, Nat.reduceLT, Nat.reduceLeDiff, Nat.reduceAdd, reduceCtorEq, Nat.reduceMul, e7, l7, e8]
      rw [hass]
      cases h : mg b c with
      | none => simp [h, optL, optB]
      | some p => rw [h] at hd; cases hd
  clear e3 l3 e4 l4 e5 l5 e7 l7 e8
  rintro s σ ⟨rfl, e7, l7, e8, e11, l11, e12⟩
  refine AW.seq_j (fun s σ => σ = Hp.empty ∧ s.t 6 = .c (.bool true)) ?_ ?_
  · cases h : optB X
    · rw [h] at e8 e12
      all_goals refine AW.reg0 ?_
      all_goals iterate 2 (refine S.g rfl rfl fun K' k' => ?_; simp only [zz, reduceIte, Nat.reduceEqDiff, Nat.reduceAdd, e7, l7, e8, e11, l11, e12, un4]; refine k' _ _ ?_; clear k' K')
      all_goals (refine S.g rfl rfl fun K' k' => ?_; simp only [zz, reduceIte, Nat.reduceEqDiff, Nat.reduceLT, Nat.reduceLeDiff, Nat.reduceAdd, reduceCtorEq, Nat.reduceMul, un4, e7, l7, e8, e11, l11, e12, un4]; refine S.bool fun b a58 => ?_; cases b <;> (try (exfalso; first | exact Bool.noConfusion a58 | (have h := of_decide_eq_true a58; omega) | (have h := of_decide_eq_false a58; omega))) <;> (refine k' _ _ ?_; clear k' K'))
      all_goals (refine S.g rfl rfl fun K' k' => ?_; simp only [zz, reduceIte, Nat.reduceEqDiff, Nat.reduceAdd, e7, l7, e8, e11, l11, e12, un4]; refine k' _ _ ?_; clear k' K')
      all_goals iterate 5 (first | (refine S.y rfl rfl rfl rfl fun K' k' => ?_; simp only [zz, reduceIte, Nat.reduceEqDiff, Nat.reduceLT, Nat.reduceLeDiff, Nat.reduceAdd, reduceCtorEq, Nat.reduceMul, ok24, sz24, ag24, e7, l7, e8, e11, l11, e12, un4]; refine k' _ _ ?_; clear k' K') | ((first | refine S.x rfl rfl rfl rfl fun K' k' => ?_ | refine S.u rfl rfl rfl rfl fun K' k' => ?_); simp only [ze, reduceIte, Nat.reduceEqDiff]; refine k' _ _ ?_; clear k' K'))
      all_goals first | (refine S.y rfl rfl rfl rfl fun K' k' => ?_; simp only [zz, reduceIte, Nat.reduceEqDiff, Nat.reduceLT, Nat.reduceLeDiff, Nat.reduceAdd, reduceCtorEq, Nat.reduceMul, e7, l7, e8, e11, l11, e12, un4]; refine PCalls.eqto (sameC hX hXl) ?_; refine S.bool fun b a65 => ?_; cases b <;> (try (exfalso; first | exact Bool.noConfusion a65 | (have h := of_decide_eq_true a65; omega) | (have h := of_decide_eq_false a65; omega))) <;> (refine k' _ _ ?_; clear k' K')) | ((first | refine S.x rfl rfl rfl rfl fun K' k' => ?_ | refine S.u rfl rfl rfl rfl fun K' k' => ?_); simp only [ze, reduceIte, Nat.reduceEqDiff]; (refine k' _ _ ?_; clear k' K'))
      all_goals iterate 2 (first | (refine S.y rfl rfl rfl rfl fun K' k' => ?_; simp only [zz, reduceIte, Nat.reduceEqDiff, Nat.reduceLT, Nat.reduceLeDiff, Nat.reduceAdd, reduceCtorEq, Nat.reduceMul, ok24, sz24, ag24, e7, l7, e8, e11, l11, e12, un4]; refine k' _ _ ?_; clear k' K') | ((first | refine S.x rfl rfl rfl rfl fun K' k' => ?_ | refine S.u rfl rfl rfl rfl fun K' k' => ?_); simp only [ze, reduceIte, Nat.reduceEqDiff]; refine k' _ _ ?_; clear k' K'))
      all_goals first | (refine S.y rfl rfl rfl rfl fun K' k' => ?_; simp only [zz, reduceIte, Nat.reduceEqDiff, Nat.reduceLT, Nat.reduceLeDiff, Nat.reduceAdd, reduceCtorEq, Nat.reduceMul, e7, l7, e8, e11, l11, e12, un4]; refine PCalls.eqto (rcheck_part _ hX.ok) ?_ <;> (refine k' _ _ ?_; clear k' K')) | ((first | refine S.x rfl rfl rfl rfl fun K' k' => ?_ | refine S.u rfl rfl rfl rfl fun K' k' => ?_); simp only [ze, reduceIte, Nat.reduceEqDiff]; (refine k' _ _ ?_; clear k' K'))
      all_goals iterate 3 (first | (refine S.y rfl rfl rfl rfl fun K' k' => ?_; simp only [zz, reduceIte, Nat.reduceEqDiff, Nat.reduceAdd, e7, l7, e8, e11, l11, e12, un4]; refine k' _ _ ?_; clear k' K') | ((first | refine S.x rfl rfl rfl rfl fun K' k' => ?_ | refine S.u rfl rfl rfl rfl fun K' k' => ?_); simp only [ze, reduceIte, Nat.reduceEqDiff]; refine k' _ _ ?_; clear k' K'))
      all_goals iterate 2 (refine S.g rfl rfl fun K' k' => ?_; simp only [zz, reduceIte, Nat.reduceEqDiff, Nat.reduceAdd, e7, l7, e8, e11, l11, e12, un4]; refine k' _ _ ?_; clear k' K')
      all_goals refine S.nil ?_
      all_goals simp only [ze, reduceIte, Nat.reduceEqDiff, Nat.reduceLT, Nat.reduceLeDiff, Nat.reduceAdd, reduceCtorEq, Nat.reduceMul, e7, l7, e8, e11, l11, e12, un4]
      all_goals simp
    · rw [h] at e8 e12
      have hpe := hXe2 h
      all_goals refine AW.reg0 ?_
      all_goals iterate 2 (refine S.g rfl rfl fun K' k' => ?_; simp only [zz, reduceIte, Nat.reduceEqDiff, Nat.reduceAdd, e7, l7, e8, e11, l11, e12, un4, hpe]; refine k' _ _ ?_; clear k' K')
      all_goals (refine S.g rfl rfl fun K' k' => ?_; simp only [zz, reduceIte, Nat.reduceEqDiff, Nat.reduceLT, Nat.reduceLeDiff, Nat.reduceAdd, reduceCtorEq, Nat.reduceMul, un4, e7, l7, e8, e11, l11, e12, un4, hpe]; refine S.bool fun b a58 => ?_; cases b <;> (try (exfalso; first | exact Bool.noConfusion a58 | (have h := of_decide_eq_true a58; omega) | (have h := of_decide_eq_false a58; omega))) <;> (refine k' _ _ ?_; clear k' K'))
      all_goals (refine S.g rfl rfl fun K' k' => ?_; simp only [zz, reduceIte, Nat.reduceEqDiff, Nat.reduceAdd, e7, l7, e8, e11, l11, e12, un4, hpe]; refine k' _ _ ?_; clear k' K')
      all_goals iterate 5 (first | (refine S.y rfl rfl rfl rfl fun K' k' => ?_; simp only [zz, reduceIte, Nat.reduceEqDiff, Nat.reduceLT, Nat.reduceLeDiff, Nat.reduceAdd, reduceCtorEq, Nat.reduceMul, ok24, sz24, ag24, e7, l7, e8, e11, l11, e12, un4, hpe]; refine k' _ _ ?_; clear k' K') | ((first | refine S.x rfl rfl rfl rfl fun K' k' => ?_ | refine S.u rfl rfl rfl rfl fun K' k' => ?_); simp only [ze, reduceIte, Nat.reduceEqDiff]; refine k' _ _ ?_; clear k' K'))
      all_goals first | (refine S.y rfl rfl rfl rfl fun K' k' => ?_; simp only [zz, reduceIte, Nat.reduceEqDiff, Nat.reduceLT, Nat.reduceLeDiff, Nat.reduceAdd, reduceCtorEq, Nat.reduceMul, e7, l7, e8, e11, l11, e12, un4, hpe]; refine PCalls.eqto (sameC hX hXl) ?_; refine S.bool fun b a65 => ?_; cases b <;> (try (exfalso; first | exact Bool.noConfusion a65 | (have h := of_decide_eq_true a65; omega) | (have h := of_decide_eq_false a65; omega))) <;> (refine k' _ _ ?_; clear k' K')) | ((first | refine S.x rfl rfl rfl rfl fun K' k' => ?_ | refine S.u rfl rfl rfl rfl fun K' k' => ?_); simp only [ze, reduceIte, Nat.reduceEqDiff]; (refine k' _ _ ?_; clear k' K'))
      all_goals iterate 2 (first | (refine S.y rfl rfl rfl rfl fun K' k' => ?_; simp only [zz, reduceIte, Nat.reduceEqDiff, Nat.reduceLT, Nat.reduceLeDiff, Nat.reduceAdd, reduceCtorEq, Nat.reduceMul, ok24, sz24, ag24, e7, l7, e8, e11, l11, e12, un4, hpe]; refine k' _ _ ?_; clear k' K') | ((first | refine S.x rfl rfl rfl rfl fun K' k' => ?_ | refine S.u rfl rfl rfl rfl fun K' k' => ?_); simp only [ze, reduceIte, Nat.reduceEqDiff]; refine k' _ _ ?_; clear k' K'))
      all_goals first | (refine S.y rfl rfl rfl rfl fun K' k' => ?_; simp only [zz, reduceIte, Nat.reduceEqDiff, Nat.reduceLT, Nat.reduceLeDiff, Nat.reduceAdd, reduceCtorEq, Nat.reduceMul, e7, l7, e8, e11, l11, e12, un4, hpe]; refine PCalls.eqto (rcheck_part _ hX.ok) ?_ <;> (refine k' _ _ ?_; clear k' K')) | ((first | refine S.x rfl rfl rfl rfl fun K' k' => ?_ | refine S.u rfl rfl rfl rfl fun K' k' => ?_); simp only [ze, reduceIte, Nat.reduceEqDiff]; (refine k' _ _ ?_; clear k' K'))
      all_goals iterate 3 (first | (refine S.y rfl rfl rfl rfl fun K' k' => ?_; simp only [zz, reduceIte, Nat.reduceEqDiff, Nat.reduceAdd, e7, l7, e8, e11, l11, e12, un4, hpe]; refine k' _ _ ?_; clear k' K') | ((first | refine S.x rfl rfl rfl rfl fun K' k' => ?_ | refine S.u rfl rfl rfl rfl fun K' k' => ?_); simp only [ze, reduceIte, Nat.reduceEqDiff]; refine k' _ _ ?_; clear k' K'))
      all_goals iterate 2 (refine S.g rfl rfl fun K' k' => ?_; simp only [zz, reduceIte, Nat.reduceEqDiff, Nat.reduceAdd, e7, l7, e8, e11, l11, e12, un4, hpe]; refine k' _ _ ?_; clear k' K')
      all_goals refine S.nil ?_
      all_goals simp only [ze, reduceIte, Nat.reduceEqDiff, Nat.reduceLT, Nat.reduceLeDiff, Nat.reduceAdd, reduceCtorEq, Nat.reduceMul, e7, l7, e8, e11, l11, e12, un4, hpe]
      all_goals simp
  rintro s2 σ2 ⟨rfl, f6⟩
  refine AW.ret ?_
  all_goals simp only [zs, reduceIte, Nat.reduceEqDiff, Nat.reduceLT, Nat.reduceLeDiff, Nat.reduceAdd, reduceCtorEq, Nat.reduceMul, f6]
end Go.Abs.M
