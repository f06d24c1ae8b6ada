import Derived.Test.YtmhamgllanihoaaMc
import Derived.Test.YtmhamgllanihoaaLb
namespace Go.Abs.M
open Go Go.Abs Go.Proofs
set_option maxRecDepth 20000
set_option linter.unusedSimpArgs false
set_option linter.unusedVariables false

def eqEv (a b : Ev) : Bool := (a.src == b.src && a.seq == b.seq) && (a.time == b.time) && (a.type.toList == b.type.toList) && allEq eqAttr a.attrs b.attrs
def eqBd (a b : Bd) : Bool := (a.var.toList == b.var.toList) && eqEv a.ev b.ev
theorem rsame_ev (a b : Ev) (ha : a.attrs.length < 4611686018427387904) : PCalls Try.prog 67 [.agg (encEv a), .agg (encEv b)] (fun v => v = .c (.bool (eqEv a b))) := by
  refine PCalls.intro Try.call67 Try.func67 rfl Try.ntmps67 Try.results67 (by simp) ?_
  refine AW.seq_k fun K1 h1 => ?_
  all_goals refine AW.reg0 ?_
  all_goals iterate 3 (refine S.g rfl rfl fun K' k' => ?_; simp only [zz, reduceIte, Nat.reduceEqDiff, Nat.reduceLT, Nat.reduceLeDiff, Nat.reduceAdd, reduceCtorEq, Nat.reduceMul, ok36, sz36, ag36, encEv]; refine k' _ _ ?_; clear k' K')
  all_goals refine S.nil ?_
  all_goals simp only [ze, reduceIte, Nat.reduceEqDiff, Nat.reduceLT, Nat.reduceLeDiff, Nat.reduceAdd, reduceCtorEq, Nat.reduceMul, encEv]
  all_goals first | refine h1 _ _ ?_
  refine AW.seq_j (fun s' σ' => σ' = Hp.empty ∧ s'.t 4 = .c (.bool (eqEv a b))) ?_ ?_
  · skip
    all_goals refine AW.region (T := { eqk := eqTab }) (eqTab_ok) rfl ?_
    all_goals iterate 4 (refine S.g rfl rfl fun K' k' => ?_; simp only [zz, reduceIte, Nat.reduceEqDiff, Nat.reduceLT, Nat.reduceLeDiff, Nat.reduceAdd, reduceCtorEq, Nat.reduceMul, of36_0, ok33, sz33, ag33, encEv]; refine k' _ _ ?_; clear k' K')
    all_goals (refine S.g rfl rfl fun K' k' => ?_; simp only [zz, reduceIte, Nat.reduceEqDiff, Nat.reduceLT, Nat.reduceLeDiff, Nat.reduceAdd, reduceCtorEq, Nat.reduceMul, eqk33, fitsAll, SK.fits, cellsEq, cellEq, encEv]; refine S.bool fun b a9 => ?_; cases b <;> (try (exfalso; first | exact Bool.noConfusion a9 | (have h := of_decide_eq_true a9; omega) | (have h := of_decide_eq_false a9; omega))) <;> (refine k' _ _ ?_; clear k' K'))
    all_goals (refine S.g rfl rfl fun K' k' => ?_; simp only [zz, reduceIte, Nat.reduceEqDiff, Nat.reduceAdd, encEv]; refine k' _ _ ?_; clear k' K')
    all_goals iterate 4 (first | (refine S.y rfl rfl rfl rfl fun K' k' => ?_; simp only [zz, reduceIte, Nat.reduceEqDiff, Nat.reduceLT, Nat.reduceLeDiff, Nat.reduceAdd, reduceCtorEq, Nat.reduceMul, of36_1, ok2, sz2, ag2, encEv]; refine k' _ _ ?_; clear k' K') | ((first | refine S.x rfl rfl rfl rfl fun K' k' => ?_ | refine S.u rfl rfl rfl rfl fun K' k' => ?_); simp only [ze, reduceIte, Nat.reduceEqDiff]; refine k' _ _ ?_; clear k' K'))
    all_goals first | (refine S.y rfl rfl rfl rfl fun K' k' => ?_; simp only [zz, reduceIte, Nat.reduceEqDiff, Nat.reduceLT, Nat.reduceLeDiff, Nat.reduceAdd, reduceCtorEq, Nat.reduceMul, encEv]; refine S.bool fun b a15 => ?_; cases b <;> (try (exfalso; first | exact Bool.noConfusion a15 | (have h := of_decide_eq_true a15; omega) | (have h := of_decide_eq_false a15; omega))) <;> (refine k' _ _ ?_; clear k' K')) | ((first | refine S.x rfl rfl rfl rfl fun K' k' => ?_ | refine S.u rfl rfl rfl rfl fun K' k' => ?_); simp only [ze, reduceIte, Nat.reduceEqDiff]; (refine k' _ _ ?_; clear k' K'))
    all_goals iterate 2 (refine S.g rfl rfl fun K' k' => ?_; simp only [zz, reduceIte, Nat.reduceEqDiff, Nat.reduceAdd, encEv]; refine k' _ _ ?_; clear k' K')
    all_goals iterate 4 (first | (refine S.y rfl rfl rfl rfl fun K' k' => ?_; simp only [zz, reduceIte, Nat.reduceEqDiff, Nat.reduceLT, Nat.reduceLeDiff, Nat.reduceAdd, reduceCtorEq, Nat.reduceMul, of36_2, ok9, sz9, ag9, encEv]; refine k' _ _ ?_; clear k' K') | ((first | refine S.x rfl rfl rfl rfl fun K' k' => ?_ | refine S.u rfl rfl rfl rfl fun K' k' => ?_); simp only [ze, reduceIte, Nat.reduceEqDiff]; refine k' _ _ ?_; clear k' K'))
    all_goals first | (refine S.y rfl rfl rfl rfl fun K' k' => ?_; simp only [zz, reduceIte, Nat.reduceEqDiff, Nat.reduceLT, Nat.reduceLeDiff, Nat.reduceAdd, reduceCtorEq, Nat.reduceMul, encEv]; refine S.bool fun b a22 => ?_; cases b <;> (try (exfalso; first | exact Bool.noConfusion a22 | (have h := of_decide_eq_true a22; omega) | (have h := of_decide_eq_false a22; omega))) <;> (refine k' _ _ ?_; clear k' K')) | ((first | refine S.x rfl rfl rfl rfl fun K' k' => ?_ | refine S.u rfl rfl rfl rfl fun K' k' => ?_); simp only [ze, reduceIte, Nat.reduceEqDiff]; (refine k' _ _ ?_; clear k' K'))
    all_goals iterate 2 (refine S.g rfl rfl fun K' k' => ?_; simp only [zz, reduceIte, Nat.reduceEqDiff, Nat.reduceAdd, encEv]; refine k' _ _ ?_; clear k' K')
    all_goals iterate 4 (first | (refine S.y rfl rfl rfl rfl fun K' k' => ?_; simp only [zz, reduceIte, Nat.reduceEqDiff, Nat.reduceLT, Nat.reduceLeDiff, Nat.reduceAdd, reduceCtorEq, Nat.reduceMul, of36_3, ok34, sz34, ag34, encEv]; refine k' _ _ ?_; clear k' K') | ((first | refine S.x rfl rfl rfl rfl fun K' k' => ?_ | refine S.u rfl rfl rfl rfl fun K' k' => ?_); simp only [ze, reduceIte, Nat.reduceEqDiff]; refine k' _ _ ?_; clear k' K'))
    all_goals first | (refine S.y rfl rfl rfl rfl fun K' k' => ?_; simp only [zz, reduceIte, Nat.reduceEqDiff, Nat.reduceLT, Nat.reduceLeDiff, Nat.reduceAdd, reduceCtorEq, Nat.reduceMul, encEv]; refine PCalls.eqto (rsame_attrs _ _ (by assumption)) ?_ <;> (refine k' _ _ ?_; clear k' K')) | ((first | refine S.x rfl rfl rfl rfl fun K' k' => ?_ | refine S.u rfl rfl rfl rfl fun K' k' => ?_); simp only [ze, reduceIte, Nat.reduceEqDiff]; (refine k' _ _ ?_; clear k' K'))
    all_goals iterate 2 (refine S.g rfl rfl fun K' k' => ?_; simp only [zz, reduceIte, Nat.reduceEqDiff, Nat.reduceAdd, encEv]; refine k' _ _ ?_; clear k' K')
    all_goals refine S.nil ?_
    all_goals simp only [ze, reduceIte, Nat.reduceEqDiff, Nat.reduceLT, Nat.reduceLeDiff, Nat.reduceAdd, reduceCtorEq, Nat.reduceMul, encEv]
    all_goals simp_all [eqEv]
  rintro s σ ⟨rfl, e4⟩
  refine AW.ret ?_
  all_goals simp only [zs, reduceIte, Nat.reduceEqDiff, Nat.reduceLT, Nat.reduceLeDiff, Nat.reduceAdd, reduceCtorEq, Nat.reduceMul, e4]

theorem rsame_part (l r : List Bd) (hl : l.length < 4611686018427387904) (hla : ∀ b ∈ l, b.ev.attrs.length < 4611686018427387904) : PCalls Try.prog 14 [.agg [.sl (l.map encBd)], .agg [.sl (r.map encBd)]] (fun v => v = .c (.bool (allEq eqBd l r))) := by
  refine PCalls.intro Try.call14 Try.func14 rfl Try.ntmps14 Try.results14 (by simp) ?_
  refine AW.seq_k fun K1 h1 => ?_
  all_goals refine AW.reg0 ?_
  all_goals iterate 3 (refine S.g rfl rfl fun K' k' => ?_; simp only [zz, reduceIte, Nat.reduceEqDiff, Nat.reduceLT, Nat.reduceLeDiff, Nat.reduceAdd, reduceCtorEq, Nat.reduceMul, ok24, sz24, ag24]; refine k' _ _ ?_; clear k' K')
  all_goals refine S.nil ?_
  all_goals simp only [ze, reduceIte, Nat.reduceEqDiff, Nat.reduceLT, Nat.reduceLeDiff, Nat.reduceAdd, reduceCtorEq, Nat.reduceMul]
  all_goals first | refine h1 _ _ ?_
  refine AW.seq_k fun K2 h2 => ?_
  refine AW.seq_k fun K3 h3 => ?_
  all_goals refine AW.reg0 ?_
  all_goals iterate 7 (refine S.g rfl rfl fun K' k' => ?_; simp only [zz, reduceIte, Nat.reduceEqDiff, Nat.reduceLT, Nat.reduceLeDiff, Nat.reduceAdd, reduceCtorEq, Nat.reduceMul, of24_0, ok22, sz22, ag22, sl22, el22, ok42, sz42, ag42]; refine k' _ _ ?_; clear k' K')
  all_goals refine S.nil ?_
  all_goals simp only [ze, reduceIte, Nat.reduceEqDiff, Nat.reduceLT, Nat.reduceLeDiff, Nat.reduceAdd, reduceCtorEq, Nat.reduceMul]
  all_goals first | refine h3 _ _ ?_ | refine h2 _ _ ?_ | refine h1 _ _ ?_
  refine AW.cond (b := ((l.length : Int) != r.length)) (by simp [ev]) (fun hc => ?_) (fun hc => ?_)
  · refine AW.seq_k fun K4 h4 => ?_
    all_goals refine AW.reg0 ?_
    all_goals (refine S.g rfl rfl fun K' k' => ?_; simp only [zz, reduceIte, Nat.reduceEqDiff, Nat.reduceAdd]; refine k' _ _ ?_; clear k' K')
    all_goals refine S.nil ?_
    all_goals simp only [ze, reduceIte, Nat.reduceEqDiff, Nat.reduceLT, Nat.reduceLeDiff, Nat.reduceAdd, reduceCtorEq, Nat.reduceMul]
    all_goals first | refine h4 _ _ ?_ | refine h3 _ _ ?_ | refine h2 _ _ ?_ | refine h1 _ _ ?_
    refine AW.ret ?_
    all_goals simp only [zs, reduceIte, Nat.reduceEqDiff, Nat.reduceLT, Nat.reduceLeDiff, Nat.reduceAdd, reduceCtorEq, Nat.reduceMul]
    rw [allEq_len (by simp at hc; omega)]
  · refine AW.skip ?_
    all_goals simp only [zs, reduceIte, Nat.reduceEqDiff, Nat.reduceLT, Nat.reduceLeDiff, Nat.reduceAdd, reduceCtorEq, Nat.reduceMul]
    all_goals first | refine h4 _ _ ?_ | refine h3 _ _ ?_ | refine h2 _ _ ?_ | refine h1 _ _ ?_
    have hlr : l.length = r.length := by simp at hc; omega
    refine AW.seq_k fun K5 h5 => ?_
    refine AW.seq_k fun K6 h6 => ?_
    all_goals refine AW.reg0 ?_
    all_goals (refine S.g rfl rfl fun K' k' => ?_; simp only [zz, reduceIte, Nat.reduceEqDiff, Nat.reduceAdd]; refine k' _ _ ?_; clear k' K')
    all_goals refine S.nil ?_
    all_goals simp only [ze, reduceIte, Nat.reduceEqDiff, Nat.reduceLT, Nat.reduceLeDiff, Nat.reduceAdd, reduceCtorEq, Nat.reduceMul]
    all_goals first | refine h6 _ _ ?_ | refine h5 _ _ ?_ | refine h4 _ _ ?_ | refine h3 _ _ ?_ | refine h2 _ _ ?_ | refine h1 _ _ ?_
    refine AW.block ?_   -- 0
    refine AW.loop (fun m s σ => σ = Hp.empty ∧ ∃ i : Nat, m + i = l.length ∧ s.t 2 = .lp 2 0 ∧ s.l 2 = some [.sl (l.map encBd)] ∧ s.t 3 = .lp 3 0 ∧ s.l 3 = some [.sl (r.map encBd)] ∧ s.t 5 = .c (.int .i64 i) ∧ allEq eqBd l r = allEq eqBd (l.drop i) (r.drop i)) l.length ?_ ?_
    · refine ⟨rfl, 0, by simp, ?_⟩
      all_goals simp only [zs, reduceIte, Nat.reduceEqDiff, Nat.reduceLT, Nat.reduceLeDiff, Nat.reduceAdd, reduceCtorEq, Nat.reduceMul]
      simp
    rintro m s σ ⟨rfl, i, hm, e2, l2, e3, l3, e5, hp⟩
    refine AW.seq_k fun K7 h7 => ?_
    refine AW.seq_k fun K8 h8 => ?_
    all_goals refine AW.reg0 ?_
    all_goals iterate 5 (refine S.g rfl rfl fun K' k' => ?_; simp only [zz, reduceIte, Nat.reduceEqDiff, Nat.reduceLT, Nat.reduceLeDiff, Nat.reduceAdd, reduceCtorEq, Nat.reduceMul, of24_0, ok22, sz22, ag22, sl22, el22, ok42, sz42, ag42, e5, e2, l2]; refine k' _ _ ?_; clear k' K')
    all_goals refine S.nil ?_
    all_goals simp only [ze, reduceIte, Nat.reduceEqDiff, Nat.reduceLT, Nat.reduceLeDiff, Nat.reduceAdd, reduceCtorEq, Nat.reduceMul, e5, e2, l2]
    all_goals first | refine h8 _ _ ?_ | refine h7 _ _ ?_ | refine h6 _ _ ?_ | refine h5 _ _ ?_ | refine h4 _ _ ?_ | refine h3 _ _ ?_ | refine h2 _ _ ?_ | refine h1 _ _ ?_
    refine AW.cond (b := decide (i < l.length)) (by simp [ev]) (fun hc => ?_) (fun hc => ?_)
    · refine AW.skip ?_
      all_goals simp only [zs, reduceIte, Nat.reduceEqDiff, Nat.reduceLT, Nat.reduceLeDiff, Nat.reduceAdd, reduceCtorEq, Nat.reduceMul]
      all_goals first | refine h8 _ _ ?_ | refine h7 _ _ ?_ | refine h6 _ _ ?_ | refine h5 _ _ ?_ | refine h4 _ _ ?_ | refine h3 _ _ ?_ | refine h2 _ _ ?_ | refine h1 _ _ ?_
      have hi : i < l.length := by simpa using hc
      have hj : i < r.length := by omega
      have hg := getD_map (f := encBd) hi
      have hg2 := getD_map (f := encBd) hj
      have hd : l.drop i = l[i] :: l.drop (i + 1) := List.drop_eq_getElem_cons hi
      have hd2 : r.drop i = r[i] :: r.drop (i + 1) := List.drop_eq_getElem_cons hj
      have hn1 := hla _ (List.getElem_mem hi)
      generalize ha : l[i] = a at hg hd hn1
      generalize hb : r[i] = b at hg2 hd2
      rw [hd, hd2, allEq] at hp
      have hw : IntKind.i64.wrap ((i : Int) + 1) = ((i + 1 : Nat) : Int) := by rw [wrap_small _ (by omega) (by omega)]; rfl
      refine AW.seq_k fun K9 h9 => ?_
      refine AW.block ?_   -- 1
      refine AW.seq_j (fun s' σ' => σ' = Hp.empty ∧ s'.t 2 = .lp 2 0 ∧ s'.l 2 = some [.sl (l.map encBd)] ∧ s'.t 3 = .lp 3 0 ∧ s'.l 3 = some [.sl (r.map encBd)] ∧ s'.t 5 = .c (.int .i64 i) ∧ s'.t 48 = .c (.bool (!eqBd a b))) ?_ ?_
      · clear hp hd hd2
        all_goals refine AW.draw (T := { sd := fun d => d == 2 || d == 3 }) (fun _ _ h => by cases h) mixedO [(0, 0), (2, 0), (6, 0), (8, 0), (1, 1), (3, 0), (4, 0), (5, 1), (7, 1), (9, 0), (10, 0), (11, 1), (12, 0), (13, 0), (14, 0), (16, 0), (20, 0), (22, 0), (15, 1), (17, 0), (18, 0), (19, 1), (21, 1), (23, 0), (24, 0), (25, 1), (26, 2), (27, 0), (28, 0)] rfl (by kernel_rfl) (by kernel_rfl) ?_
        all_goals iterate 4 (refine D.g rfl trivial rfl rfl fun K' k' => ?_; simp only [zz, reduceIte, Nat.reduceEqDiff, Nat.reduceLT, Nat.reduceLeDiff, Nat.reduceAdd, reduceCtorEq, Nat.reduceMul, of24_0, e2, l2, e3, l3, e5, hi, hj, hg, hg2, encBd]; refine k' _ _ ?_; clear k' K')
        all_goals (refine D.g rfl rfl rfl rfl fun K' k' => ?_; simp only [zz, reduceIte, Nat.reduceEqDiff, Nat.reduceLT, Nat.reduceLeDiff, Nat.reduceAdd, reduceCtorEq, Nat.reduceMul, ok22, sz22, ag22, e2, l2, e3, l3, e5, hi, hj, hg, hg2, encBd]; refine k' _ _ ?_; clear k' K')
        all_goals iterate 2 (refine D.g rfl trivial rfl rfl fun K' k' => ?_; simp only [zz, reduceIte, Nat.reduceEqDiff, Nat.reduceLT, Nat.reduceLeDiff, Nat.reduceAdd, reduceCtorEq, Nat.reduceMul, sl22, el22, ok42, sz42, ag42, of42_0, e2, l2, e3, l3, e5, hi, hj, hg, hg2, encBd]; refine k' _ _ ?_; clear k' K')
        all_goals iterate 2 (refine D.g rfl rfl rfl rfl fun K' k' => ?_; simp only [zz, reduceIte, Nat.reduceEqDiff, Nat.reduceLT, Nat.reduceLeDiff, Nat.reduceAdd, reduceCtorEq, Nat.reduceMul, ok9, sz9, ag9, ok22, sz22, ag22, e2, l2, e3, l3, e5, hi, hj, hg, hg2, encBd]; refine k' _ _ ?_; clear k' K')
        all_goals iterate 2 (refine D.g rfl trivial rfl rfl fun K' k' => ?_; simp only [zz, reduceIte, Nat.reduceEqDiff, Nat.reduceLT, Nat.reduceLeDiff, Nat.reduceAdd, reduceCtorEq, Nat.reduceMul, sl22, el22, ok42, sz42, ag42, of42_0, e2, l2, e3, l3, e5, hi, hj, hg, hg2, encBd]; refine k' _ _ ?_; clear k' K')
        all_goals (refine D.g rfl rfl rfl rfl fun K' k' => ?_; simp only [zz, reduceIte, Nat.reduceEqDiff, Nat.reduceLT, Nat.reduceLeDiff, Nat.reduceAdd, reduceCtorEq, Nat.reduceMul, ok9, sz9, ag9, e2, l2, e3, l3, e5, hi, hj, hg, hg2, encBd]; refine k' _ _ ?_; clear k' K')
        all_goals (refine D.g rfl trivial rfl rfl fun K' k' => ?_; simp only [zz, reduceIte, Nat.reduceEqDiff, Nat.reduceLT, Nat.reduceLeDiff, Nat.reduceAdd, reduceCtorEq, Nat.reduceMul, e2, l2, e3, l3, e5, hi, hj, hg, hg2, encBd]; refine S.bool fun b a32 => ?_; cases b <;> (try (exfalso; first | exact Bool.noConfusion a32 | (have h := of_decide_eq_true a32; omega) | (have h := of_decide_eq_false a32; omega))) <;> (refine k' _ _ ?_; clear k' K'))
        all_goals (refine D.g rfl trivial rfl rfl fun K' k' => ?_; simp only [zz, reduceIte, Nat.reduceEqDiff, Nat.reduceAdd, e2, l2, e3, l3, e5, hi, hj, hg, hg2, encBd]; refine k' _ _ ?_; clear k' K')
        all_goals iterate 4 (first | (refine D.y rfl trivial rfl rfl rfl rfl fun K' k' => ?_; simp only [zz, reduceIte, Nat.reduceEqDiff, Nat.reduceLT, Nat.reduceLeDiff, Nat.reduceAdd, reduceCtorEq, Nat.reduceMul, of24_0, e2, l2, e3, l3, e5, hi, hj, hg, hg2, encBd]; refine k' _ _ ?_; clear k' K') | ((first | refine D.x rfl (fun h => by cases h) rfl rfl rfl rfl fun K' k' => ?_ | refine D.u rfl (fun h => by cases h) rfl rfl rfl rfl fun K' k' => ?_); simp only [ze, reduceIte, Nat.reduceEqDiff]; refine k' _ _ ?_; clear k' K'))
        all_goals (first | (refine D.y rfl rfl rfl rfl rfl rfl fun K' k' => ?_; simp only [zz, reduceIte, Nat.reduceEqDiff, Nat.reduceLT, Nat.reduceLeDiff, Nat.reduceAdd, reduceCtorEq, Nat.reduceMul, ok22, sz22, ag22, e2, l2, e3, l3, e5, hi, hj, hg, hg2, encBd]; refine k' _ _ ?_; clear k' K') | ((first | refine D.x rfl (fun _ => rfl) rfl rfl rfl rfl fun K' k' => ?_ | refine D.u rfl (fun _ => rfl) rfl rfl rfl rfl fun K' k' => ?_); simp only [ze, reduceIte, Nat.reduceEqDiff]; refine k' _ _ ?_; clear k' K'))
        all_goals iterate 2 (first | (refine D.y rfl trivial rfl rfl rfl rfl fun K' k' => ?_; simp only [zz, reduceIte, Nat.reduceEqDiff, Nat.reduceLT, Nat.reduceLeDiff, Nat.reduceAdd, reduceCtorEq, Nat.reduceMul, sl22, el22, ok42, sz42, ag42, of42_1, e2, l2, e3, l3, e5, hi, hj, hg, hg2, encBd]; refine k' _ _ ?_; clear k' K') | ((first | refine D.x rfl (fun h => by cases h) rfl rfl rfl rfl fun K' k' => ?_ | refine D.u rfl (fun h => by cases h) rfl rfl rfl rfl fun K' k' => ?_); simp only [ze, reduceIte, Nat.reduceEqDiff]; refine k' _ _ ?_; clear k' K'))
        all_goals iterate 2 (first | (refine D.y rfl rfl rfl rfl rfl rfl fun K' k' => ?_; simp only [zz, reduceIte, Nat.reduceEqDiff, Nat.reduceLT, Nat.reduceLeDiff, Nat.reduceAdd, reduceCtorEq, Nat.reduceMul, ok36, sz36, ag36, ok22, sz22, ag22, e2, l2, e3, l3, e5, hi, hj, hg, hg2, encBd]; refine k' _ _ ?_; clear k' K') | ((first | refine D.x rfl (fun _ => rfl) rfl rfl rfl rfl fun K' k' => ?_ | refine D.u rfl (fun _ => rfl) rfl rfl rfl rfl fun K' k' => ?_); simp only [ze, reduceIte, Nat.reduceEqDiff]; refine k' _ _ ?_; clear k' K'))
        all_goals iterate 2 (first | (refine D.y rfl trivial rfl rfl rfl rfl fun K' k' => ?_; simp only [zz, reduceIte, Nat.reduceEqDiff, Nat.reduceLT, Nat.reduceLeDiff, Nat.reduceAdd, reduceCtorEq, Nat.reduceMul, sl22, el22, ok42, sz42, ag42, of42_1, e2, l2, e3, l3, e5, hi, hj, hg, hg2, encBd]; refine k' _ _ ?_; clear k' K') | ((first | refine D.x rfl (fun h => by cases h) rfl rfl rfl rfl fun K' k' => ?_ | refine D.u rfl (fun h => by cases h) rfl rfl rfl rfl fun K' k' => ?_); simp only [ze, reduceIte, Nat.reduceEqDiff]; refine k' _ _ ?_; clear k' K'))
        all_goals (first | (refine D.y rfl rfl rfl rfl rfl rfl fun K' k' => ?_; simp only [zz, reduceIte, Nat.reduceEqDiff, Nat.reduceLT, Nat.reduceLeDiff, Nat.reduceAdd, reduceCtorEq, Nat.reduceMul, ok36, sz36, ag36, e2, l2, e3, l3, e5, hi, hj, hg, hg2, encBd]; refine k' _ _ ?_; clear k' K') | ((first | refine D.x rfl (fun _ => rfl) rfl rfl rfl rfl fun K' k' => ?_ | refine D.u rfl (fun _ => rfl) rfl rfl rfl rfl fun K' k' => ?_); simp only [ze, reduceIte, Nat.reduceEqDiff]; refine k' _ _ ?_; clear k' K'))
        all_goals first | (refine D.y rfl trivial rfl rfl rfl rfl fun K' k' => ?_; simp only [zz, reduceIte, Nat.reduceEqDiff, Nat.reduceLT, Nat.reduceLeDiff, Nat.reduceAdd, reduceCtorEq, Nat.reduceMul, e2, l2, e3, l3, e5, hi, hj, hg, hg2, encBd]; refine PCalls.eqto (rsame_ev _ _ (by assumption)) ?_ <;> (refine k' _ _ ?_; clear k' K')) | ((first | refine D.x rfl (fun h => by cases h) rfl rfl rfl rfl fun K' k' => ?_ | refine D.u rfl (fun h => by cases h) rfl rfl rfl rfl fun K' k' => ?_); simp only [ze, reduceIte, Nat.reduceEqDiff]; (refine k' _ _ ?_; clear k' K'))
        all_goals (first | (refine D.y rfl trivial rfl rfl rfl rfl fun K' k' => ?_; simp only [zz, reduceIte, Nat.reduceEqDiff, Nat.reduceAdd, e2, l2, e3, l3, e5, hi, hj, hg, hg2, encBd]; refine k' _ _ ?_; clear k' K') | ((first | refine D.x rfl (fun h => by cases h) rfl rfl rfl rfl fun K' k' => ?_ | refine D.u rfl (fun h => by cases h) rfl rfl rfl rfl fun K' k' => ?_); simp only [ze, reduceIte, Nat.reduceEqDiff]; refine k' _ _ ?_; clear k' K'))
        all_goals (refine D.g rfl trivial rfl rfl fun K' k' => ?_; simp only [zz, reduceIte, Nat.reduceEqDiff, Nat.reduceAdd, e2, l2, e3, l3, e5, hi, hj, hg, hg2, encBd]; refine k' _ _ ?_; clear k' K')
        all_goals refine D.nil ?_
        all_goals simp only [ze, reduceIte, Nat.reduceEqDiff, Nat.reduceLT, Nat.reduceLeDiff, Nat.reduceAdd, reduceCtorEq, Nat.reduceMul, e2, l2, e3, l3, e5, hi, hj, hg, hg2, encBd]
        all_goals simp_all [eqBd]
      rintro s1 σ1 ⟨rfl, f2, k2, f3, k3, f5, f48⟩
      refine AW.cond (b := !eqBd a b) f48 (fun hc => ?_) (fun hc => ?_)
      · refine AW.seq_k fun K10 h10 => ?_
        all_goals refine AW.reg0 ?_
        all_goals (refine S.g rfl rfl fun K' k' => ?_; simp only [zz, reduceIte, Nat.reduceEqDiff, Nat.reduceAdd]; refine k' _ _ ?_; clear k' K')
        all_goals refine S.nil ?_
        all_goals simp only [ze, reduceIte, Nat.reduceEqDiff, Nat.reduceLT, Nat.reduceLeDiff, Nat.reduceAdd, reduceCtorEq, Nat.reduceMul]
        all_goals first | refine h10 _ _ ?_ | refine h9 _ _ ?_ | refine h8 _ _ ?_ | refine h7 _ _ ?_ | refine h6 _ _ ?_ | refine h5 _ _ ?_ | refine h4 _ _ ?_ | refine h3 _ _ ?_ | refine h2 _ _ ?_ | refine h1 _ _ ?_
        refine AW.ret ?_
        all_goals simp only [zs, reduceIte, Nat.reduceEqDiff, Nat.reduceLT, Nat.reduceLeDiff, Nat.reduceAdd, reduceCtorEq, Nat.reduceMul]
        have hx : eqBd a b = false := by simpa using hc
        simp [hp, hx]
      · refine AW.skip ?_
        all_goals simp only [zs, reduceIte, Nat.reduceEqDiff, Nat.reduceLT, Nat.reduceLeDiff, Nat.reduceAdd, reduceCtorEq, Nat.reduceMul]
        all_goals first | refine h10 _ _ ?_ | refine h9 _ _ ?_ | refine h8 _ _ ?_ | refine h7 _ _ ?_ | refine h6 _ _ ?_ | refine h5 _ _ ?_ | refine h4 _ _ ?_ | refine h3 _ _ ?_ | refine h2 _ _ ?_ | refine h1 _ _ ?_
        have hx : eqBd a b = true := by simpa using hc
        all_goals refine AW.reg0 ?_
        all_goals iterate 3 (refine S.g rfl rfl fun K' k' => ?_; simp only [zz, reduceIte, Nat.reduceEqDiff, Nat.reduceAdd, f5, hw]; refine k' _ _ ?_; clear k' K')
        all_goals refine S.nil ?_
        all_goals simp only [ze, reduceIte, Nat.reduceEqDiff, Nat.reduceLT, Nat.reduceLeDiff, Nat.reduceAdd, reduceCtorEq, Nat.reduceMul, f5, hw]
        refine ⟨m - 1, by omega, i + 1, by omega, f2, k2, f3, k3, rfl, ?_⟩
        rw [hp, hx, Bool.true_and]
    · refine AW.exit ?_
      all_goals simp only [zs, reduceIte, Nat.reduceEqDiff, Nat.reduceLT, Nat.reduceLeDiff, Nat.reduceAdd, reduceCtorEq, Nat.reduceMul]
      -- EXIT 0
      all_goals first | refine h10 _ _ ?_ | refine h9 _ _ ?_ | refine h8 _ _ ?_ | refine h7 _ _ ?_ | refine h6 _ _ ?_ | refine h5 _ _ ?_ | refine h4 _ _ ?_ | refine h3 _ _ ?_ | refine h2 _ _ ?_ | refine h1 _ _ ?_
      refine AW.seq_k fun K11 h11 => ?_
      all_goals refine AW.reg0 ?_
      all_goals (refine S.g rfl rfl fun K' k' => ?_; simp only [zz, reduceIte, Nat.reduceEqDiff, Nat.reduceAdd]; refine k' _ _ ?_; clear k' K')
      all_goals refine S.nil ?_
      all_goals simp only [ze, reduceIte, Nat.reduceEqDiff, Nat.reduceLT, Nat.reduceLeDiff, Nat.reduceAdd, reduceCtorEq, Nat.reduceMul]
      all_goals first | refine h11 _ _ ?_ | refine h10 _ _ ?_ | refine h9 _ _ ?_ | refine h8 _ _ ?_ | refine h7 _ _ ?_ | refine h6 _ _ ?_ | refine h5 _ _ ?_ | refine h4 _ _ ?_ | refine h3 _ _ ?_ | refine h2 _ _ ?_ | refine h1 _ _ ?_
      refine AW.ret ?_
      all_goals simp only [zs, reduceIte, Nat.reduceEqDiff, Nat.reduceLT, Nat.reduceLeDiff, Nat.reduceAdd, reduceCtorEq, Nat.reduceMul]
      have hi : l.length ≤ i := by simpa using hc
      simp [hp, List.drop_of_length_le hi, List.drop_of_length_le (hlr ▸ hi), allEq]
end Go.Abs.M
namespace Go.Abs.M
open Go Go.Abs Go.Proofs
set_option maxRecDepth 20000
set_option linter.unusedSimpArgs false
set_option linter.unusedVariables false

def cmpS (a b : ByteArray) : Int := if Op.bytesLess a.toList b.toList then -1 else if (Op.bytesLess a.toList b.toList || a.toList == b.toList) then 0 else 1
theorem isnan_spec (a : ByteArray) : PCalls Try.prog 105 [.c (.string a)] (fun v => v = .c (.bool false)) := by
  refine PCalls.intro Try.call105 Try.func105 rfl Try.ntmps105 Try.results105 (by simp) ?_
  refine AW.seq_k fun K1 h1 => ?_
  all_goals refine AW.reg0 ?_
  all_goals (refine S.g rfl rfl fun K' k' => ?_; simp only [zz, reduceIte, Nat.reduceEqDiff, Nat.reduceAdd]; refine k' _ _ ?_; clear k' K')
  all_goals refine S.nil ?_
  all_goals simp only [ze, reduceIte, Nat.reduceEqDiff, Nat.reduceLT, Nat.reduceLeDiff, Nat.reduceAdd, reduceCtorEq, Nat.reduceMul]
  all_goals first | refine h1 _ _ ?_
  refine AW.seq_k fun K2 h2 => ?_
  all_goals refine AW.reg0 ?_
  all_goals iterate 4 (refine S.g rfl rfl fun K' k' => ?_; simp only [zz, reduceIte, Nat.reduceEqDiff, Nat.reduceAdd]; refine k' _ _ ?_; clear k' K')
  all_goals refine S.nil ?_
  all_goals simp only [ze, reduceIte, Nat.reduceEqDiff, Nat.reduceLT, Nat.reduceLeDiff, Nat.reduceAdd, reduceCtorEq, Nat.reduceMul]
  all_goals first | refine h2 _ _ ?_ | refine h1 _ _ ?_
  refine AW.ret ?_
  all_goals simp only [zs, reduceIte, Nat.reduceEqDiff, Nat.reduceLT, Nat.reduceLeDiff, Nat.reduceAdd, reduceCtorEq, Nat.reduceMul]
  all_goals simp
theorem compare_str (a b : ByteArray) : PCalls Try.prog 65 [.c (.string a), .c (.string b)] (fun v => v = .c (.int .i64 (cmpS a b))) := by
  refine PCalls.intro Try.call65 Try.func65 rfl Try.ntmps65 Try.results65 (by simp) ?_
  refine AW.seq_k fun K1 h1 => ?_
  all_goals refine AW.reg0 ?_
  all_goals (refine S.g rfl rfl fun K' k' => ?_; simp only [zz, reduceIte, Nat.reduceEqDiff, Nat.reduceAdd]; refine k' _ _ ?_; clear k' K')
  all_goals refine S.nil ?_
  all_goals simp only [ze, reduceIte, Nat.reduceEqDiff, Nat.reduceLT, Nat.reduceLeDiff, Nat.reduceAdd, reduceCtorEq, Nat.reduceMul]
  all_goals first | refine h1 _ _ ?_
  refine AW.seq_k fun K2 h2 => ?_
  all_goals refine AW.reg0 ?_
  all_goals (refine S.g rfl rfl fun K' k' => ?_; simp only [zz, reduceIte, Nat.reduceEqDiff, Nat.reduceAdd]; refine k' _ _ ?_; clear k' K')
  all_goals (refine S.g rfl rfl fun K' k' => ?_; simp only [zz, reduceIte, Nat.reduceEqDiff, Nat.reduceLT, Nat.reduceLeDiff, Nat.reduceAdd, reduceCtorEq, Nat.reduceMul]; refine PCalls.eqto (isnan_spec _) ?_ <;> (refine k' _ _ ?_; clear k' K'))
  all_goals (refine S.g rfl rfl fun K' k' => ?_; simp only [zz, reduceIte, Nat.reduceEqDiff, Nat.reduceAdd]; refine k' _ _ ?_; clear k' K')
  all_goals refine S.nil ?_
  all_goals simp only [ze, reduceIte, Nat.reduceEqDiff, Nat.reduceLT, Nat.reduceLeDiff, Nat.reduceAdd, reduceCtorEq, Nat.reduceMul]
  all_goals first | refine h2 _ _ ?_ | refine h1 _ _ ?_
  refine AW.seq_k fun K3 h3 => ?_
  all_goals refine AW.reg0 ?_
  all_goals (refine S.g rfl rfl fun K' k' => ?_; simp only [zz, reduceIte, Nat.reduceEqDiff, Nat.reduceAdd]; refine k' _ _ ?_; clear k' K')
  all_goals (refine S.g rfl rfl fun K' k' => ?_; simp only [zz, reduceIte, Nat.reduceEqDiff, Nat.reduceLT, Nat.reduceLeDiff, Nat.reduceAdd, reduceCtorEq, Nat.reduceMul]; refine PCalls.eqto (isnan_spec _) ?_ <;> (refine k' _ _ ?_; clear k' K'))
  all_goals (refine S.g rfl rfl fun K' k' => ?_; simp only [zz, reduceIte, Nat.reduceEqDiff, Nat.reduceAdd]; refine k' _ _ ?_; clear k' K')
  all_goals refine S.nil ?_
  all_goals simp only [ze, reduceIte, Nat.reduceEqDiff, Nat.reduceLT, Nat.reduceLeDiff, Nat.reduceAdd, reduceCtorEq, Nat.reduceMul]
  all_goals first | refine h3 _ _ ?_ | refine h2 _ _ ?_ | refine h1 _ _ ?_
  refine AW.seq_k fun K4 h4 => ?_
  refine AW.seq_k fun K5 h5 => ?_
  all_goals refine AW.reg0 ?_
  all_goals (refine S.g rfl rfl fun K' k' => ?_; simp only [zz, reduceIte, Nat.reduceEqDiff, Nat.reduceAdd]; refine k' _ _ ?_; clear k' K')
  all_goals refine S.nil ?_
  all_goals simp only [ze, reduceIte, Nat.reduceEqDiff, Nat.reduceLT, Nat.reduceLeDiff, Nat.reduceAdd, reduceCtorEq, Nat.reduceMul]
  all_goals first | refine h5 _ _ ?_ | refine h4 _ _ ?_ | refine h3 _ _ ?_ | refine h2 _ _ ?_ | refine h1 _ _ ?_
  refine AW.cond (b := false) (by simp [ev]) (fun hc => by cases hc) (fun hc => ?_)
  refine AW.skip ?_
  all_goals simp only [zs, reduceIte, Nat.reduceEqDiff, Nat.reduceLT, Nat.reduceLeDiff, Nat.reduceAdd, reduceCtorEq, Nat.reduceMul]
  all_goals first | refine h5 _ _ ?_ | refine h4 _ _ ?_ | refine h3 _ _ ?_ | refine h2 _ _ ?_ | refine h1 _ _ ?_
  refine AW.seq_k fun K6 h6 => ?_
  refine AW.seq_k fun K7 h7 => ?_
  all_goals refine AW.reg0 ?_
  all_goals (refine S.g rfl rfl fun K' k' => ?_; simp only [zz, reduceIte, Nat.reduceEqDiff, Nat.reduceAdd]; refine k' _ _ ?_; clear k' K')
  all_goals refine S.nil ?_
  all_goals simp only [ze, reduceIte, Nat.reduceEqDiff, Nat.reduceLT, Nat.reduceLeDiff, Nat.reduceAdd, reduceCtorEq, Nat.reduceMul]
  all_goals first | refine h7 _ _ ?_ | refine h6 _ _ ?_ | refine h5 _ _ ?_ | refine h4 _ _ ?_ | refine h3 _ _ ?_ | refine h2 _ _ ?_ | refine h1 _ _ ?_
  refine AW.cond (b := false) (by simp [ev]) (fun hc => by cases hc) (fun hc => ?_)
  refine AW.skip ?_
  all_goals simp only [zs, reduceIte, Nat.reduceEqDiff, Nat.reduceLT, Nat.reduceLeDiff, Nat.reduceAdd, reduceCtorEq, Nat.reduceMul]
  all_goals first | refine h7 _ _ ?_ | refine h6 _ _ ?_ | refine h5 _ _ ?_ | refine h4 _ _ ?_ | refine h3 _ _ ?_ | refine h2 _ _ ?_ | refine h1 _ _ ?_
  refine AW.seq_k fun K8 h8 => ?_
  refine AW.seq_k fun K9 h9 => ?_
  all_goals refine AW.reg0 ?_
  all_goals iterate 3 (refine S.g rfl rfl fun K' k' => ?_; simp only [zz, reduceIte, Nat.reduceEqDiff, Nat.reduceAdd]; refine k' _ _ ?_; clear k' K')
  all_goals refine S.nil ?_
  all_goals simp only [ze, reduceIte, Nat.reduceEqDiff, Nat.reduceLT, Nat.reduceLeDiff, Nat.reduceAdd, reduceCtorEq, Nat.reduceMul]
  all_goals first | refine h9 _ _ ?_ | refine h8 _ _ ?_ | refine h7 _ _ ?_ | refine h6 _ _ ?_ | refine h5 _ _ ?_ | refine h4 _ _ ?_ | refine h3 _ _ ?_ | refine h2 _ _ ?_ | refine h1 _ _ ?_
  refine AW.cond (b := Op.bytesLess a.toList b.toList) (by simp [ev]) (fun hc => ?_) (fun hc => ?_)
  · refine AW.seq_k fun K10 h10 => ?_
    all_goals refine AW.reg0 ?_
    all_goals (refine S.g rfl rfl fun K' k' => ?_; simp only [zz, reduceIte, Nat.reduceEqDiff, Nat.reduceAdd]; refine k' _ _ ?_; clear k' K')
    all_goals refine S.nil ?_
    all_goals simp only [ze, reduceIte, Nat.reduceEqDiff, Nat.reduceLT, Nat.reduceLeDiff, Nat.reduceAdd, reduceCtorEq, Nat.reduceMul]
    all_goals first | refine h10 _ _ ?_ | refine h9 _ _ ?_ | refine h8 _ _ ?_ | refine h7 _ _ ?_ | refine h6 _ _ ?_ | refine h5 _ _ ?_ | refine h4 _ _ ?_ | refine h3 _ _ ?_ | refine h2 _ _ ?_ | refine h1 _ _ ?_
    refine AW.ret ?_
    all_goals simp only [zs, reduceIte, Nat.reduceEqDiff, Nat.reduceLT, Nat.reduceLeDiff, Nat.reduceAdd, reduceCtorEq, Nat.reduceMul]
    simp [cmpS, hc]
  · refine AW.skip ?_
    all_goals simp only [zs, reduceIte, Nat.reduceEqDiff, Nat.reduceLT, Nat.reduceLeDiff, Nat.reduceAdd, reduceCtorEq, Nat.reduceMul]
    all_goals first | refine h10 _ _ ?_ | refine h9 _ _ ?_ | refine h8 _ _ ?_ | refine h7 _ _ ?_ | refine h6 _ _ ?_ | refine h5 _ _ ?_ | refine h4 _ _ ?_ | refine h3 _ _ ?_ | refine h2 _ _ ?_ | refine h1 _ _ ?_
    refine AW.seq_k fun K11 h11 => ?_
    refine AW.seq_k fun K12 h12 => ?_
    all_goals refine AW.reg0 ?_
    all_goals iterate 3 (refine S.g rfl rfl fun K' k' => ?_; simp only [zz, reduceIte, Nat.reduceEqDiff, Nat.reduceAdd]; refine k' _ _ ?_; clear k' K')
    all_goals refine S.nil ?_
    all_goals simp only [ze, reduceIte, Nat.reduceEqDiff, Nat.reduceLT, Nat.reduceLeDiff, Nat.reduceAdd, reduceCtorEq, Nat.reduceMul]
    all_goals first | refine h12 _ _ ?_ | refine h11 _ _ ?_ | refine h10 _ _ ?_ | refine h9 _ _ ?_ | refine h8 _ _ ?_ | refine h7 _ _ ?_ | refine h6 _ _ ?_ | refine h5 _ _ ?_ | refine h4 _ _ ?_ | refine h3 _ _ ?_ | refine h2 _ _ ?_ | refine h1 _ _ ?_
    refine AW.cond (b := !(Op.bytesLess a.toList b.toList || a.toList == b.toList)) (by simp [ev]) (fun hc2 => ?_) (fun hc2 => ?_)
    · refine AW.seq_k fun K13 h13 => ?_
      all_goals refine AW.reg0 ?_
      all_goals (refine S.g rfl rfl fun K' k' => ?_; simp only [zz, reduceIte, Nat.reduceEqDiff, Nat.reduceAdd]; refine k' _ _ ?_; clear k' K')
      all_goals refine S.nil ?_
      all_goals simp only [ze, reduceIte, Nat.reduceEqDiff, Nat.reduceLT, Nat.reduceLeDiff, Nat.reduceAdd, reduceCtorEq, Nat.reduceMul]
      all_goals first | refine h13 _ _ ?_ | refine h12 _ _ ?_ | refine h11 _ _ ?_ | refine h10 _ _ ?_ | refine h9 _ _ ?_ | refine h8 _ _ ?_ | refine h7 _ _ ?_ | refine h6 _ _ ?_ | refine h5 _ _ ?_ | refine h4 _ _ ?_ | refine h3 _ _ ?_ | refine h2 _ _ ?_ | refine h1 _ _ ?_
      refine AW.ret ?_
      all_goals simp only [zs, reduceIte, Nat.reduceEqDiff, Nat.reduceLT, Nat.reduceLeDiff, Nat.reduceAdd, reduceCtorEq, Nat.reduceMul]
      rw [Bool.not_eq_true'] at hc2
      rw [cmpS, if_neg (by rw [hc]; simp), if_neg (by rw [hc2]; simp)]
    · refine AW.skip ?_
      all_goals simp only [zs, reduceIte, Nat.reduceEqDiff, Nat.reduceLT, Nat.reduceLeDiff, Nat.reduceAdd, reduceCtorEq, Nat.reduceMul]
      all_goals first | refine h13 _ _ ?_ | refine h12 _ _ ?_ | refine h11 _ _ ?_ | refine h10 _ _ ?_ | refine h9 _ _ ?_ | refine h8 _ _ ?_ | refine h7 _ _ ?_ | refine h6 _ _ ?_ | refine h5 _ _ ?_ | refine h4 _ _ ?_ | refine h3 _ _ ?_ | refine h2 _ _ ?_ | refine h1 _ _ ?_
      refine AW.seq_k fun K14 h14 => ?_
      all_goals refine AW.reg0 ?_
      all_goals (refine S.g rfl rfl fun K' k' => ?_; simp only [zz, reduceIte, Nat.reduceEqDiff, Nat.reduceAdd]; refine k' _ _ ?_; clear k' K')
      all_goals refine S.nil ?_
      all_goals simp only [ze, reduceIte, Nat.reduceEqDiff, Nat.reduceLT, Nat.reduceLeDiff, Nat.reduceAdd, reduceCtorEq, Nat.reduceMul]
      all_goals first | refine h14 _ _ ?_ | refine h13 _ _ ?_ | refine h12 _ _ ?_ | refine h11 _ _ ?_ | refine h10 _ _ ?_ | refine h9 _ _ ?_ | refine h8 _ _ ?_ | refine h7 _ _ ?_ | refine h6 _ _ ?_ | refine h5 _ _ ?_ | refine h4 _ _ ?_ | refine h3 _ _ ?_ | refine h2 _ _ ?_ | refine h1 _ _ ?_
      refine AW.ret ?_
      all_goals simp only [zs, reduceIte, Nat.reduceEqDiff, Nat.reduceLT, Nat.reduceLeDiff, Nat.reduceAdd, reduceCtorEq, Nat.reduceMul]
      rw [Bool.not_eq_false'] at hc2
      rw [cmpS, if_neg (by rw [hc]; simp), if_pos hc2]
theorem less_spec (a b : Bd) : PCalls Try.prog 64 [.agg (encBd a), .agg (encBd b)] (fun v => v = .c (.int .i64 (cmpS a.var b.var))) := by
  refine PCalls.intro Try.call64 Try.func64 rfl Try.ntmps64 Try.results64 (by simp) ?_
  refine AW.seq_k fun K1 h1 => ?_
  all_goals refine AW.reg0 ?_
  all_goals iterate 3 (refine S.g rfl rfl fun K' k' => ?_; simp only [zz, reduceIte, Nat.reduceEqDiff, Nat.reduceLT, Nat.reduceLeDiff, Nat.reduceAdd, reduceCtorEq, Nat.reduceMul, ok42, sz42, ag42, encBd]; refine k' _ _ ?_; clear k' K')
  all_goals refine S.nil ?_
  all_goals simp only [ze, reduceIte, Nat.reduceEqDiff, Nat.reduceLT, Nat.reduceLeDiff, Nat.reduceAdd, reduceCtorEq, Nat.reduceMul, encBd]
  all_goals first | refine h1 _ _ ?_
  refine AW.seq_k fun K2 h2 => ?_
  all_goals refine AW.reg0 ?_
  all_goals iterate 4 (refine S.g rfl rfl fun K' k' => ?_; simp only [zz, reduceIte, Nat.reduceEqDiff, Nat.reduceLT, Nat.reduceLeDiff, Nat.reduceAdd, reduceCtorEq, Nat.reduceMul, of42_0, ok9, sz9, ag9]; refine k' _ _ ?_; clear k' K')
  all_goals (refine S.g rfl rfl fun K' k' => ?_; simp only [zz, reduceIte, Nat.reduceEqDiff, Nat.reduceLT, Nat.reduceLeDiff, Nat.reduceAdd, reduceCtorEq, Nat.reduceMul]; refine PCalls.eqto (compare_str _ _) ?_ <;> (refine k' _ _ ?_; clear k' K'))
  all_goals (refine S.g rfl rfl fun K' k' => ?_; simp only [zz, reduceIte, Nat.reduceEqDiff, Nat.reduceAdd]; refine k' _ _ ?_; clear k' K')
  all_goals refine S.nil ?_
  all_goals simp only [ze, reduceIte, Nat.reduceEqDiff, Nat.reduceLT, Nat.reduceLeDiff, Nat.reduceAdd, reduceCtorEq, Nat.reduceMul]
  all_goals first | refine h2 _ _ ?_ | refine h1 _ _ ?_
  refine AW.ret ?_
  all_goals simp only [zs, reduceIte, Nat.reduceEqDiff, Nat.reduceLT, Nat.reduceLeDiff, Nat.reduceAdd, reduceCtorEq, Nat.reduceMul]

theorem kk_lt (n : Nat) (h : n < 4611686018427387904) : True := trivial
/-- slices.Grow of nil: an empty list that may grow. -/
theorem grow_spec (n : Nat) (hn : n * 80 ≤ 140737488355328) : ACalls Try.prog 103 [.c (.slice none 0 0), .c (.int .i64 n)] Hp.empty (fun v σ' => (v = .c (.slice none 0 0) ∧ σ' = Hp.empty ∧ n = 0) ∨ ∃ k, v = .gl k ∧ σ' = Hp.empty.setGr k (some ((42, 6), []))) := by
  refine ACalls.introR Try.call103 Try.func103 rfl Try.ntmps103 Try.results103 (by simp) ?_
  refine AW.seq_k fun K1 h1 => ?_
  all_goals refine AW.reg0 ?_
  all_goals (refine S.g rfl rfl fun K' k' => ?_; simp only [zz, reduceIte, Nat.reduceEqDiff, Nat.reduceAdd]; refine k' _ _ ?_; clear k' K')
  all_goals refine S.nil ?_
  all_goals simp only [ze, reduceIte, Nat.reduceEqDiff, Nat.reduceLT, Nat.reduceLeDiff, Nat.reduceAdd, reduceCtorEq, Nat.reduceMul]
  all_goals first | refine h1 _ _ ?_
  refine AW.seq_k fun K2 h2 => ?_
  refine AW.seq_k fun K3 h3 => ?_
  all_goals refine AW.reg0 ?_
  all_goals iterate 2 (refine S.g rfl rfl fun K' k' => ?_; simp only [zz, reduceIte, Nat.reduceEqDiff, Nat.reduceAdd]; refine k' _ _ ?_; clear k' K')
  all_goals refine S.nil ?_
  all_goals simp only [ze, reduceIte, Nat.reduceEqDiff, Nat.reduceLT, Nat.reduceLeDiff, Nat.reduceAdd, reduceCtorEq, Nat.reduceMul]
  all_goals first | refine h3 _ _ ?_ | refine h2 _ _ ?_ | refine h1 _ _ ?_
  refine AW.cond (b := decide ((n : Int) < 0)) (by simp [ev]) (fun hc => ?_) (fun hc => ?_)
  · have := of_decide_eq_true hc; omega
  refine AW.skip ?_
  all_goals simp only [zs, reduceIte, Nat.reduceEqDiff, Nat.reduceLT, Nat.reduceLeDiff, Nat.reduceAdd, reduceCtorEq, Nat.reduceMul]
  all_goals first | refine h3 _ _ ?_ | refine h2 _ _ ?_ | refine h1 _ _ ?_
  have hw : IntKind.i64.wrap ((n : Int) - 0) = (n : Int) := by rw [wrap_small _ (by omega) (by omega)]; omega
  have hw0 : IntKind.i64.wrap (0 - ((0 : Nat) : Int)) = 0 := by rw [wrap_small _ (by omega) (by omega)]; rfl
  refine AW.seq_k fun K4 h4 => ?_
  refine AW.seq_k fun K5 h5 => ?_
  all_goals refine AW.reg0 ?_
  all_goals iterate 8 (refine S.g rfl rfl fun K' k' => ?_; simp only [zz, reduceIte, Nat.reduceEqDiff, Nat.reduceLT, Nat.reduceLeDiff, Nat.reduceAdd, reduceCtorEq, Nat.reduceMul, sl22, el22, ok42, sz42, ag42, hw, hw0]; refine k' _ _ ?_; clear k' K')
  all_goals refine S.nil ?_
  all_goals simp only [ze, reduceIte, Nat.reduceEqDiff, Nat.reduceLT, Nat.reduceLeDiff, Nat.reduceAdd, reduceCtorEq, Nat.reduceMul, hw, hw0]
  all_goals first | refine h5 _ _ ?_ | refine h4 _ _ ?_ | refine h3 _ _ ?_ | refine h2 _ _ ?_ | refine h1 _ _ ?_
  refine AW.seq_k fun K6 h6 => ?_
  all_goals refine AW.reg0 ?_
  all_goals iterate 2 (refine S.g rfl rfl fun K' k' => ?_; simp only [zz, reduceIte, Nat.reduceEqDiff, Nat.reduceAdd]; refine k' _ _ ?_; clear k' K')
  all_goals refine S.nil ?_
  all_goals simp only [ze, reduceIte, Nat.reduceEqDiff, Nat.reduceLT, Nat.reduceLeDiff, Nat.reduceAdd, reduceCtorEq, Nat.reduceMul]
  all_goals first | refine h6 _ _ ?_ | refine h5 _ _ ?_ | refine h4 _ _ ?_ | refine h3 _ _ ?_ | refine h2 _ _ ?_ | refine h1 _ _ ?_
  refine AW.cond (b := decide ((n : Int) > 0)) (by simp [ev]) (fun hc => ?_) (fun hc => ?_)
  · have hn0 : 0 < n := by have := of_decide_eq_true hc; omega
    all_goals refine AW.reg0 ?_
    all_goals iterate 5 (refine S.g rfl rfl fun K' k' => ?_; simp only [zz, reduceIte, Nat.reduceEqDiff, Nat.reduceLT, Nat.reduceLeDiff, Nat.reduceAdd, reduceCtorEq, Nat.reduceMul, sl22, el22, ok42, sz42, ag42]; refine k' _ _ ?_; clear k' K')
    all_goals (refine S.g rfl rfl fun K' k' => ?_; simp only [zz, reduceIte, Nat.reduceEqDiff, Nat.reduceLT, Nat.reduceLeDiff, Nat.reduceAdd, reduceCtorEq, Nat.reduceMul, sl22, el22, ok42, sz42, ag42, zt42, by42, (Try.underlying3), TypeDesc.int.injEq]; (first | refine ⟨by omega, by unfold maxLen; omega, by unfold reach; omega, fun k1 hk1 => ?_⟩ | refine ⟨rfl, by omega, by unfold maxLen; omega, by unfold reach; omega, fun k1 hk1 => ?_⟩) <;> (refine k' _ _ ?_; clear k' K'))
    all_goals iterate 2 (refine S.g rfl rfl fun K' k' => ?_; simp only [zz, reduceIte, Nat.reduceEqDiff, Nat.reduceLT, Nat.reduceLeDiff, Nat.reduceAdd, reduceCtorEq, Nat.reduceMul, sl22, el22, ok42, sz42, ag42]; refine k' _ _ ?_; clear k' K')
    all_goals (refine S.g rfl rfl fun K' k' => ?_; simp only [zz, reduceIte, Nat.reduceEqDiff, Nat.reduceLT, Nat.reduceLeDiff, Nat.reduceAdd, reduceCtorEq, Nat.reduceMul, sl22, el22, ok42, sz42, ag42]; (first | refine ⟨Nat.zero_le _, fun k2 hk2 => ?_⟩ | refine fun k2 hk2 => ?_) <;> (refine k' _ _ ?_; clear k' K'))
    all_goals (refine S.g rfl rfl fun K' k' => ?_; simp only [zz, reduceIte, Nat.reduceEqDiff, Nat.reduceAdd]; refine k' _ _ ?_; clear k' K')
    all_goals refine S.nil ?_
    all_goals simp only [ze, reduceIte, Nat.reduceEqDiff, Nat.reduceLT, Nat.reduceLeDiff, Nat.reduceAdd, reduceCtorEq, Nat.reduceMul]
    all_goals first | refine h6 _ _ ?_ | refine h5 _ _ ?_ | refine h4 _ _ ?_ | refine h3 _ _ ?_ | refine h2 _ _ ?_ | refine h1 _ _ ?_
    refine AW.seq_k fun K7 h7 => ?_
    all_goals refine AW.reg0 ?_
    all_goals iterate 2 (refine S.g rfl rfl fun K' k' => ?_; simp only [zz, reduceIte, Nat.reduceEqDiff, Nat.reduceAdd]; refine k' _ _ ?_; clear k' K')
    all_goals refine S.nil ?_
    all_goals simp only [ze, reduceIte, Nat.reduceEqDiff, Nat.reduceLT, Nat.reduceLeDiff, Nat.reduceAdd, reduceCtorEq, Nat.reduceMul]
    all_goals first | refine h7 _ _ ?_ | refine h6 _ _ ?_ | refine h5 _ _ ?_ | refine h4 _ _ ?_ | refine h3 _ _ ?_ | refine h2 _ _ ?_ | refine h1 _ _ ?_
    refine AW.ret ?_
    all_goals simp only [zs, reduceIte, Nat.reduceEqDiff, Nat.reduceLT, Nat.reduceLeDiff, Nat.reduceAdd, reduceCtorEq, Nat.reduceMul]
    exact .inr ⟨k2, rfl, rfl⟩
  · have hn0 : n = 0 := by have := of_decide_eq_false hc; omega
    refine AW.skip ?_
    all_goals simp only [zs, reduceIte, Nat.reduceEqDiff, Nat.reduceLT, Nat.reduceLeDiff, Nat.reduceAdd, reduceCtorEq, Nat.reduceMul]
    all_goals first | refine h7 _ _ ?_ | refine h6 _ _ ?_ | refine h5 _ _ ?_ | refine h4 _ _ ?_ | refine h3 _ _ ?_ | refine h2 _ _ ?_ | refine h1 _ _ ?_
    refine AW.seq_k fun K8 h8 => ?_
    all_goals refine AW.reg0 ?_
    all_goals iterate 2 (refine S.g rfl rfl fun K' k' => ?_; simp only [zz, reduceIte, Nat.reduceEqDiff, Nat.reduceAdd]; refine k' _ _ ?_; clear k' K')
    all_goals refine S.nil ?_
    all_goals simp only [ze, reduceIte, Nat.reduceEqDiff, Nat.reduceLT, Nat.reduceLeDiff, Nat.reduceAdd, reduceCtorEq, Nat.reduceMul]
    all_goals first | refine h8 _ _ ?_ | refine h7 _ _ ?_ | refine h6 _ _ ?_ | refine h5 _ _ ?_ | refine h4 _ _ ?_ | refine h3 _ _ ?_ | refine h2 _ _ ?_ | refine h1 _ _ ?_
    refine AW.ret ?_
    all_goals simp only [zs, reduceIte, Nat.reduceEqDiff, Nat.reduceLT, Nat.reduceLeDiff, Nat.reduceAdd, reduceCtorEq, Nat.reduceMul]
    exact .inl hn0
end Go.Abs.M
namespace Go.Abs.M
open Go Go.Abs Go.Proofs
set_option maxRecDepth 20000
set_option linter.unusedSimpArgs false
set_option linter.unusedVariables false

def encL (l : List Bd) : List V := [.sl (l.map encBd)]
def tot (ls : List (List Bd)) : Nat := (ls.map List.length).sum
theorem tot_snoc (ls : List (List Bd)) (l : List Bd) : tot (ls ++ [l]) = tot ls + l.length := by simp [tot]
theorem tot_take (ls : List (List Bd)) (i : Nat) : tot (ls.take i) ≤ tot ls := by
  have : tot ls = tot (ls.take i) + tot (ls.drop i) := by
    simp only [tot, List.map_take, List.map_drop]
    rw [← List.sum_append, List.take_append_drop]
  omega
theorem flat_tot (ls : List (List Bd)) : ls.flatten.length = tot ls := by simp [tot, List.length_flatten]

theorem concat_spec (ls : List (List Bd)) (h0 : ls ≠ []) (hn : ls.length < 4611686018427387904) (ht : tot ls * 80 ≤ 140737488355328) :
    ACalls Try.prog 62 [.sl (ls.map encL)] Hp.empty (fun v σ' => ∃ k, v = .gl k ∧ σ' = Hp.empty.setGr k (some ((42, 6), ls.flatten.map encBd))) := by
  refine ACalls.introR Try.call62 Try.func62 rfl Try.ntmps62 Try.results62 (by simp) ?_
  refine AW.seq_k fun K1 h1 => ?_
  all_goals refine AW.reg0 ?_
  all_goals (refine S.g rfl rfl fun K' k' => ?_; simp only [zz, reduceIte, Nat.reduceEqDiff, Nat.reduceAdd]; refine k' _ _ ?_; clear k' K')
  all_goals refine S.nil ?_
  all_goals simp only [ze, reduceIte, Nat.reduceEqDiff, Nat.reduceLT, Nat.reduceLeDiff, Nat.reduceAdd, reduceCtorEq, Nat.reduceMul]
  all_goals first | refine h1 _ _ ?_
  refine AW.seq_k fun K2 h2 => ?_
  all_goals refine AW.reg0 ?_
  all_goals (refine S.g rfl rfl fun K' k' => ?_; simp only [zz, reduceIte, Nat.reduceEqDiff, Nat.reduceAdd]; refine k' _ _ ?_; clear k' K')
  all_goals refine S.nil ?_
  all_goals simp only [ze, reduceIte, Nat.reduceEqDiff, Nat.reduceLT, Nat.reduceLeDiff, Nat.reduceAdd, reduceCtorEq, Nat.reduceMul]
  all_goals first | refine h2 _ _ ?_ | refine h1 _ _ ?_
  refine AW.seq_j (fun s' σ' => σ' = Hp.empty ∧ s'.t 0 = .sl (ls.map encL) ∧ s'.t 3 = .c (.int .i64 (tot ls))) ?_ ?_
  · refine AW.seq_k fun K3 h3 => ?_
    all_goals refine AW.reg0 ?_
    all_goals iterate 3 (refine S.g rfl rfl fun K' k' => ?_; simp only [zz, reduceIte, Nat.reduceEqDiff, Nat.reduceLT, Nat.reduceLeDiff, Nat.reduceAdd, reduceCtorEq, Nat.reduceMul, sl132, el132, ok22, sz22, ag22]; refine k' _ _ ?_; clear k' K')
    all_goals refine S.nil ?_
    all_goals simp only [ze, reduceIte, Nat.reduceEqDiff, Nat.reduceLT, Nat.reduceLeDiff, Nat.reduceAdd, reduceCtorEq, Nat.reduceMul]
    all_goals first | refine h3 _ _ ?_ | refine h2 _ _ ?_ | refine h1 _ _ ?_
    refine AW.block ?_   -- 0
    refine AW.loop (fun m s σ => σ = Hp.empty ∧ ∃ i : Nat, m + i = ls.length ∧ s.t 0 = .sl (ls.map encL) ∧ s.t 9 = .sl (ls.map encL) ∧ s.t 10 = .c (.int .i64 ls.length) ∧ s.t 11 = .c (.int .i64 i) ∧ s.t 3 = .c (.int .i64 (tot (ls.take i)))) ls.length ?_ ?_
    · refine ⟨rfl, 0, by simp, ?_⟩
      all_goals simp only [zs, reduceIte, Nat.reduceEqDiff, Nat.reduceLT, Nat.reduceLeDiff, Nat.reduceAdd, reduceCtorEq, Nat.reduceMul]
      simp [tot]
    rintro m s σ ⟨rfl, i, hm, e0, e9, e10, e11, e3⟩
    refine AW.seq_k fun K4 h4 => ?_
    all_goals refine AW.reg0 ?_
    all_goals (refine S.g rfl rfl fun K' k' => ?_; simp only [zz, reduceIte, Nat.reduceEqDiff, Nat.reduceAdd, e10, e11]; refine k' _ _ ?_; clear k' K')
    all_goals refine S.nil ?_
    all_goals simp only [ze, reduceIte, Nat.reduceEqDiff, Nat.reduceLT, Nat.reduceLeDiff, Nat.reduceAdd, reduceCtorEq, Nat.reduceMul, e10, e11]
    all_goals first | refine h4 _ _ ?_ | refine h3 _ _ ?_ | refine h2 _ _ ?_ | refine h1 _ _ ?_
    refine AW.seq_k fun K5 h5 => ?_
    refine AW.cond (b := decide (i < ls.length)) (by simp [ev]) (fun hc => ?_) (fun hc => ?_)
    · refine AW.skip ?_
      all_goals simp only [zs, reduceIte, Nat.reduceEqDiff, Nat.reduceLT, Nat.reduceLeDiff, Nat.reduceAdd, reduceCtorEq, Nat.reduceMul]
      all_goals first | refine h5 _ _ ?_ | refine h4 _ _ ?_ | refine h3 _ _ ?_ | refine h2 _ _ ?_ | refine h1 _ _ ?_
      have hi : i < ls.length := by simpa using hc
      have hg := getD_map (f := encL) hi
      have htk : ls.take (i + 1) = ls.take i ++ [ls[i]] := by rw [List.take_append_getElem]
      generalize ha : ls[i] = a at hg htk
      have hle : tot (ls.take (i + 1)) ≤ tot ls := tot_take ls (i + 1)
      rw [htk, tot_snoc] at hle
      have hw : IntKind.i64.wrap ((i : Int) + 1) = ((i + 1 : Nat) : Int) := by rw [wrap_small _ (by omega) (by omega)]; rfl
      have hw2 : IntKind.i64.wrap ((tot (ls.take i) : Int) + a.length) = ((tot (ls.take i) + a.length : Nat) : Int) := by rw [wrap_small _ (by omega) (by omega)]; omega
      refine AW.seq_k fun K6 h6 => ?_
      refine AW.block ?_   -- 1
      refine AW.seq_k fun K7 h7 => ?_
      all_goals refine AW.reg0 ?_
      all_goals iterate 3 (refine S.g rfl rfl fun K' k' => ?_; simp only [zz, reduceIte, Nat.reduceEqDiff, Nat.reduceLT, Nat.reduceLeDiff, Nat.reduceAdd, reduceCtorEq, Nat.reduceMul, sl132, el132, ok22, sz22, ag22, e9, e11, hi, hg, encL]; refine k' _ _ ?_; clear k' K')
      all_goals refine S.nil ?_
      all_goals simp only [ze, reduceIte, Nat.reduceEqDiff, Nat.reduceLT, Nat.reduceLeDiff, Nat.reduceAdd, reduceCtorEq, Nat.reduceMul, e9, e11, hi, hg, encL]
      all_goals first | refine h7 _ _ ?_ | refine h6 _ _ ?_ | refine h5 _ _ ?_ | refine h4 _ _ ?_ | refine h3 _ _ ?_ | refine h2 _ _ ?_ | refine h1 _ _ ?_
      refine AW.seq_k fun K8 h8 => ?_
      all_goals refine AW.reg0 ?_
      all_goals iterate 5 (refine S.g rfl rfl fun K' k' => ?_; simp only [zz, reduceIte, Nat.reduceEqDiff, Nat.reduceLT, Nat.reduceLeDiff, Nat.reduceAdd, reduceCtorEq, Nat.reduceMul, sl22, el22, ok42, sz42, ag42, e3, hw2]; refine k' _ _ ?_; clear k' K')
      all_goals refine S.nil ?_
      all_goals simp only [ze, reduceIte, Nat.reduceEqDiff, Nat.reduceLT, Nat.reduceLeDiff, Nat.reduceAdd, reduceCtorEq, Nat.reduceMul, e3, hw2]
      all_goals first | refine h8 _ _ ?_ | refine h7 _ _ ?_ | refine h6 _ _ ?_ | refine h5 _ _ ?_ | refine h4 _ _ ?_ | refine h3 _ _ ?_ | refine h2 _ _ ?_ | refine h1 _ _ ?_
      refine AW.seq_k fun K9 h9 => ?_
      all_goals refine AW.reg0 ?_
      all_goals iterate 2 (refine S.g rfl rfl fun K' k' => ?_; simp only [zz, reduceIte, Nat.reduceEqDiff, Nat.reduceAdd]; refine k' _ _ ?_; clear k' K')
      all_goals refine S.nil ?_
      all_goals simp only [ze, reduceIte, Nat.reduceEqDiff, Nat.reduceLT, Nat.reduceLeDiff, Nat.reduceAdd, reduceCtorEq, Nat.reduceMul]
      all_goals first | refine h9 _ _ ?_ | refine h8 _ _ ?_ | refine h7 _ _ ?_ | refine h6 _ _ ?_ | refine h5 _ _ ?_ | refine h4 _ _ ?_ | refine h3 _ _ ?_ | refine h2 _ _ ?_ | refine h1 _ _ ?_
      refine AW.cond (b := decide (((tot (ls.take i) + a.length : Nat) : Int) < 0)) (by simp [ev]) (fun hc => ?_) (fun hc => ?_)
      · have := of_decide_eq_true hc; omega
      refine AW.skip ?_
      all_goals simp only [zs, reduceIte, Nat.reduceEqDiff, Nat.reduceLT, Nat.reduceLeDiff, Nat.reduceAdd, reduceCtorEq, Nat.reduceMul]
      all_goals first | refine h9 _ _ ?_ | refine h8 _ _ ?_ | refine h7 _ _ ?_ | refine h6 _ _ ?_ | refine h5 _ _ ?_ | refine h4 _ _ ?_ | refine h3 _ _ ?_ | refine h2 _ _ ?_ | refine h1 _ _ ?_
      all_goals refine AW.reg0 ?_
      all_goals iterate 2 (refine S.g rfl rfl fun K' k' => ?_; simp only [zz, reduceIte, Nat.reduceEqDiff, Nat.reduceAdd, e11, hw]; refine k' _ _ ?_; clear k' K')
      all_goals refine S.nil ?_
      all_goals simp only [ze, reduceIte, Nat.reduceEqDiff, Nat.reduceLT, Nat.reduceLeDiff, Nat.reduceAdd, reduceCtorEq, Nat.reduceMul, e11, hw]
      refine ⟨m - 1, by omega, i + 1, by omega, e0, e9, e10, rfl, ?_⟩
      rw [htk, tot_snoc]
    · refine AW.exit ?_
      all_goals simp only [zs, reduceIte, Nat.reduceEqDiff, Nat.reduceLT, Nat.reduceLeDiff, Nat.reduceAdd, reduceCtorEq, Nat.reduceMul]
      have hi : ls.length ≤ i := by simpa using hc
      rw [List.take_of_length_le hi] at e3
      exact ⟨e0, e3⟩
  rintro s0 σ0 ⟨rfl, e0, e3⟩
  refine AW.seq_j (fun s' σ' => s'.t 0 = .sl (ls.map encL) ∧ ((s'.t 6 = .c (.slice none 0 0) ∧ σ' = Hp.empty) ∨ ∃ k, s'.t 6 = .gl k ∧ σ' = Hp.empty.setGr k (some ((42, 6), [])))) ?_ ?_
  · skip
    all_goals refine AW.region (T := { raw := fun d => d == 103 }) (fun _ _ h => by cases h) rfl ?_
    all_goals (refine S.g rfl rfl fun K' k' => ?_; simp only [zz, reduceIte, Nat.reduceEqDiff, Nat.reduceAdd, e0, e3]; refine k' _ _ ?_; clear k' K')
    all_goals (refine S.g rfl rfl fun K' k' => ?_; simp only [zz, reduceIte, Nat.reduceEqDiff, Nat.reduceLT, Nat.reduceLeDiff, Nat.reduceAdd, reduceCtorEq, Nat.reduceMul, e0, e3]; refine (grow_spec _ ht).mono fun v σ1 hv => ?_ <;> (refine k' _ _ ?_; clear k' K'))
    all_goals (refine S.g rfl rfl fun K' k' => ?_; simp only [zz, reduceIte, Nat.reduceEqDiff, Nat.reduceAdd, e0, e3]; refine k' _ _ ?_; clear k' K')
    all_goals refine S.nil ?_
    all_goals simp only [ze, reduceIte, Nat.reduceEqDiff, Nat.reduceLT, Nat.reduceLeDiff, Nat.reduceAdd, reduceCtorEq, Nat.reduceMul, e0, e3]
    rcases hv with ⟨h1, h2, _⟩ | h
    · exact .inl ⟨h1, h2⟩
    · exact .inr h
  rintro s1 σ1 ⟨f0, hv⟩
  refine AW.seq_k fun K10 h10 => ?_
  refine AW.seq_k fun K11 h11 => ?_
  all_goals refine AW.reg0 ?_
  all_goals iterate 3 (refine S.g rfl rfl fun K' k' => ?_; simp only [zz, reduceIte, Nat.reduceEqDiff, Nat.reduceLT, Nat.reduceLeDiff, Nat.reduceAdd, reduceCtorEq, Nat.reduceMul, sl132, el132, ok22, sz22, ag22, f0]; refine k' _ _ ?_; clear k' K')
  all_goals refine S.nil ?_
  all_goals simp only [ze, reduceIte, Nat.reduceEqDiff, Nat.reduceLT, Nat.reduceLeDiff, Nat.reduceAdd, reduceCtorEq, Nat.reduceMul, f0]
  all_goals first | refine h11 _ _ ?_ | refine h10 _ _ ?_ | refine h9 _ _ ?_ | refine h8 _ _ ?_ | refine h7 _ _ ?_ | refine h6 _ _ ?_ | refine h5 _ _ ?_ | refine h4 _ _ ?_ | refine h3 _ _ ?_ | refine h2 _ _ ?_ | refine h1 _ _ ?_
  refine AW.block ?_   -- 2
  refine AW.loop (fun m s σ => ∃ i : Nat, m + i = ls.length ∧ s.t 25 = .sl (ls.map encL) ∧ s.t 26 = .c (.int .i64 ls.length) ∧ s.t 27 = .c (.int .i64 i) ∧
    ((i = 0 ∧ s.t 6 = .c (.slice none 0 0) ∧ σ = Hp.empty) ∨ ∃ k, s.t 6 = .gl k ∧ σ = Hp.empty.setGr k (some ((42, 6), (ls.take i).flatten.map encBd)))) ls.length ?_ ?_
  · refine ⟨0, by simp, ?_⟩
    all_goals simp only [zs, reduceIte, Nat.reduceEqDiff, Nat.reduceLT, Nat.reduceLeDiff, Nat.reduceAdd, reduceCtorEq, Nat.reduceMul]
    refine ⟨by simp, ?_⟩
    rcases hv with ⟨h1, h2⟩ | ⟨k, h1, h2⟩
    · exact .inl ⟨h1, h2⟩
    · exact .inr ⟨k, h1, by rw [h2]; rfl⟩
  rintro m s σ ⟨i, hm, e25, e26, e27, hk⟩
  refine AW.seq_k fun K12 h12 => ?_
  all_goals refine AW.reg0 ?_
  all_goals (refine S.g rfl rfl fun K' k' => ?_; simp only [zz, reduceIte, Nat.reduceEqDiff, Nat.reduceAdd, e26, e27]; refine k' _ _ ?_; clear k' K')
  all_goals refine S.nil ?_
  all_goals simp only [ze, reduceIte, Nat.reduceEqDiff, Nat.reduceLT, Nat.reduceLeDiff, Nat.reduceAdd, reduceCtorEq, Nat.reduceMul, e26, e27]
  all_goals first | refine h12 _ _ ?_ | refine h11 _ _ ?_ | refine h10 _ _ ?_ | refine h9 _ _ ?_ | refine h8 _ _ ?_ | refine h7 _ _ ?_ | refine h6 _ _ ?_ | refine h5 _ _ ?_ | refine h4 _ _ ?_ | refine h3 _ _ ?_ | refine h2 _ _ ?_ | refine h1 _ _ ?_
  refine AW.seq_k fun K13 h13 => ?_
  refine AW.cond (b := decide (i < ls.length)) (by simp [ev]) (fun hc => ?_) (fun hc => ?_)
  · refine AW.skip ?_
    all_goals simp only [zs, reduceIte, Nat.reduceEqDiff, Nat.reduceLT, Nat.reduceLeDiff, Nat.reduceAdd, reduceCtorEq, Nat.reduceMul]
    all_goals first | refine h13 _ _ ?_ | refine h12 _ _ ?_ | refine h11 _ _ ?_ | refine h10 _ _ ?_ | refine h9 _ _ ?_ | refine h8 _ _ ?_ | refine h7 _ _ ?_ | refine h6 _ _ ?_ | refine h5 _ _ ?_ | refine h4 _ _ ?_ | refine h3 _ _ ?_ | refine h2 _ _ ?_ | refine h1 _ _ ?_
    have hi : i < ls.length := by simpa using hc
    have hg := getD_map (f := encL) hi
    have htk : ls.take (i + 1) = ls.take i ++ [ls[i]] := by rw [List.take_append_getElem]
    generalize ha : ls[i] = a at hg htk
    have hle : tot (ls.take (i + 1)) ≤ tot ls := tot_take ls (i + 1)
    rw [htk, tot_snoc] at hle
    have hw : IntKind.i64.wrap ((i : Int) + 1) = ((i + 1 : Nat) : Int) := by rw [wrap_small _ (by omega) (by omega)]; rfl
    have hfl : (ls.take i).flatten.length = tot (ls.take i) := flat_tot _
    refine AW.seq_k fun K14 h14 => ?_
    refine AW.block ?_   -- 3
    rcases hk with ⟨rfl, e6, rfl⟩ | ⟨k, e6, rfl⟩
    · refine AW.seq_k fun K15 h15 => ?_
      all_goals refine AW.reg0 ?_
      all_goals iterate 3 (refine S.g rfl rfl fun K' k' => ?_; simp only [zz, reduceIte, Nat.reduceEqDiff, Nat.reduceLT, Nat.reduceLeDiff, Nat.reduceAdd, reduceCtorEq, Nat.reduceMul, sl132, el132, ok22, sz22, ag22, e25, e27, hi, hg, encL]; refine k' _ _ ?_; clear k' K')
      all_goals refine S.nil ?_
      all_goals simp only [ze, reduceIte, Nat.reduceEqDiff, Nat.reduceLT, Nat.reduceLeDiff, Nat.reduceAdd, reduceCtorEq, Nat.reduceMul, e25, e27, hi, hg, encL]
      all_goals first | refine h15 _ _ ?_ | refine h14 _ _ ?_ | refine h13 _ _ ?_ | refine h12 _ _ ?_ | refine h11 _ _ ?_ | refine h10 _ _ ?_ | refine h9 _ _ ?_ | refine h8 _ _ ?_ | refine h7 _ _ ?_ | refine h6 _ _ ?_ | refine h5 _ _ ?_ | refine h4 _ _ ?_ | refine h3 _ _ ?_ | refine h2 _ _ ?_ | refine h1 _ _ ?_
      all_goals refine AW.reg0 ?_
      all_goals iterate 2 (refine S.g rfl rfl fun K' k' => ?_; simp only [zz, reduceIte, Nat.reduceEqDiff, Nat.reduceAdd, e6]; refine k' _ _ ?_; clear k' K')
      all_goals (refine S.g rfl rfl fun K' k' => ?_; simp only [zz, reduceIte, Nat.reduceEqDiff, Nat.reduceLT, Nat.reduceLeDiff, Nat.reduceAdd, reduceCtorEq, Nat.reduceMul, sl22, el22, ok42, sz42, ag42, zt42, by42, e6]; refine ⟨len_bd _, by unfold maxLen; omega, by unfold reach; omega, fun k2 hk2 => ?_⟩ <;> (refine k' _ _ ?_; clear k' K'))
      all_goals (refine S.g rfl rfl fun K' k' => ?_; simp only [zz, reduceIte, Nat.reduceEqDiff, Nat.reduceAdd, e6]; refine k' _ _ ?_; clear k' K')
      all_goals refine S.nil ?_
      all_goals simp only [ze, reduceIte, Nat.reduceEqDiff, Nat.reduceLT, Nat.reduceLeDiff, Nat.reduceAdd, reduceCtorEq, Nat.reduceMul, e6]
      all_goals first | refine h15 _ _ ?_ | refine h14 _ _ ?_ | refine h13 _ _ ?_ | refine h12 _ _ ?_ | refine h11 _ _ ?_ | refine h10 _ _ ?_ | refine h9 _ _ ?_ | refine h8 _ _ ?_ | refine h7 _ _ ?_ | refine h6 _ _ ?_ | refine h5 _ _ ?_ | refine h4 _ _ ?_ | refine h3 _ _ ?_ | refine h2 _ _ ?_ | refine h1 _ _ ?_
      all_goals refine AW.reg0 ?_
      all_goals iterate 2 (refine S.g rfl rfl fun K' k' => ?_; simp only [zz, reduceIte, Nat.reduceEqDiff, Nat.reduceAdd, e27, hw, e25, e26]; refine k' _ _ ?_; clear k' K')
      all_goals refine S.nil ?_
      all_goals simp only [ze, reduceIte, Nat.reduceEqDiff, Nat.reduceLT, Nat.reduceLeDiff, Nat.reduceAdd, reduceCtorEq, Nat.reduceMul, e27, hw, e25, e26]
      refine ⟨m - 1, by omega, 1, by omega, rfl, .inr ⟨k2, rfl, ?_⟩⟩
      rw [show ls.take 1 = [] ++ [a] from htk]; simp
    · refine AW.seq_k fun K16 h16 => ?_
      all_goals refine AW.reg0 ?_
      all_goals iterate 3 (refine S.g rfl rfl fun K' k' => ?_; simp only [zz, reduceIte, Nat.reduceEqDiff, Nat.reduceLT, Nat.reduceLeDiff, Nat.reduceAdd, reduceCtorEq, Nat.reduceMul, sl132, el132, ok22, sz22, ag22, e25, e27, hi, hg, encL]; refine k' _ _ ?_; clear k' K')
      all_goals refine S.nil ?_
      all_goals simp only [ze, reduceIte, Nat.reduceEqDiff, Nat.reduceLT, Nat.reduceLeDiff, Nat.reduceAdd, reduceCtorEq, Nat.reduceMul, e25, e27, hi, hg, encL]
      all_goals first | refine h16 _ _ ?_ | refine h15 _ _ ?_ | refine h14 _ _ ?_ | refine h13 _ _ ?_ | refine h12 _ _ ?_ | refine h11 _ _ ?_ | refine h10 _ _ ?_ | refine h9 _ _ ?_ | refine h8 _ _ ?_ | refine h7 _ _ ?_ | refine h6 _ _ ?_ | refine h5 _ _ ?_ | refine h4 _ _ ?_ | refine h3 _ _ ?_ | refine h2 _ _ ?_ | refine h1 _ _ ?_
      all_goals refine AW.reg0 ?_
      all_goals iterate 2 (refine S.g rfl rfl fun K' k' => ?_; simp only [zz, reduceIte, Nat.reduceEqDiff, Nat.reduceAdd, e6, hfl]; refine k' _ _ ?_; clear k' K')
      all_goals (refine S.g rfl rfl fun K' k' => ?_; simp only [zz, reduceIte, Nat.reduceEqDiff, Nat.reduceLT, Nat.reduceLeDiff, Nat.reduceAdd, reduceCtorEq, Nat.reduceMul, sl22, el22, ok42, sz42, ag42, zt42, by42, e6, hfl]; refine ⟨len_bd _, by unfold maxLen; omega, by unfold reach; omega, fun k2 hk2 => ?_⟩ <;> (refine k' _ _ ?_; clear k' K'))
      all_goals (refine S.g rfl rfl fun K' k' => ?_; simp only [zz, reduceIte, Nat.reduceEqDiff, Nat.reduceAdd, e6, hfl]; refine k' _ _ ?_; clear k' K')
      all_goals refine S.nil ?_
      all_goals simp only [ze, reduceIte, Nat.reduceEqDiff, Nat.reduceLT, Nat.reduceLeDiff, Nat.reduceAdd, reduceCtorEq, Nat.reduceMul, e6, hfl]
      all_goals first | refine h16 _ _ ?_ | refine h15 _ _ ?_ | refine h14 _ _ ?_ | refine h13 _ _ ?_ | refine h12 _ _ ?_ | refine h11 _ _ ?_ | refine h10 _ _ ?_ | refine h9 _ _ ?_ | refine h8 _ _ ?_ | refine h7 _ _ ?_ | refine h6 _ _ ?_ | refine h5 _ _ ?_ | refine h4 _ _ ?_ | refine h3 _ _ ?_ | refine h2 _ _ ?_ | refine h1 _ _ ?_
      all_goals refine AW.reg0 ?_
      all_goals iterate 2 (refine S.g rfl rfl fun K' k' => ?_; simp only [zz, reduceIte, Nat.reduceEqDiff, Nat.reduceAdd, e27, hw, e25, e26]; refine k' _ _ ?_; clear k' K')
      all_goals refine S.nil ?_
      all_goals simp only [ze, reduceIte, Nat.reduceEqDiff, Nat.reduceLT, Nat.reduceLeDiff, Nat.reduceAdd, reduceCtorEq, Nat.reduceMul, e27, hw, e25, e26]
      refine ⟨m - 1, by omega, i + 1, by omega, rfl, .inr ⟨k2, rfl, ?_⟩⟩
      rw [htk, List.flatten_append, List.map_append]; simp
  · refine AW.exit ?_
    all_goals simp only [zs, reduceIte, Nat.reduceEqDiff, Nat.reduceLT, Nat.reduceLeDiff, Nat.reduceAdd, reduceCtorEq, Nat.reduceMul]
    -- EXIT 2
    all_goals first | refine h16 _ _ ?_ | refine h15 _ _ ?_ | refine h14 _ _ ?_ | refine h13 _ _ ?_ | refine h12 _ _ ?_ | refine h11 _ _ ?_ | refine h10 _ _ ?_ | refine h9 _ _ ?_ | refine h8 _ _ ?_ | refine h7 _ _ ?_ | refine h6 _ _ ?_ | refine h5 _ _ ?_ | refine h4 _ _ ?_ | refine h3 _ _ ?_ | refine h2 _ _ ?_ | refine h1 _ _ ?_
    have hi : ls.length ≤ i := by simpa using hc
    rcases hk with ⟨rfl, e6, rfl⟩ | ⟨k, e6, rfl⟩
    · exact absurd (List.eq_nil_of_length_eq_zero (by omega)) h0
    rw [List.take_of_length_le hi]
    refine AW.seq_k fun K17 h17 => ?_
    all_goals refine AW.reg0 ?_
    all_goals iterate 2 (refine S.g rfl rfl fun K' k' => ?_; simp only [zz, reduceIte, Nat.reduceEqDiff, Nat.reduceAdd, e6]; refine k' _ _ ?_; clear k' K')
    all_goals refine S.nil ?_
    all_goals simp only [ze, reduceIte, Nat.reduceEqDiff, Nat.reduceLT, Nat.reduceLeDiff, Nat.reduceAdd, reduceCtorEq, Nat.reduceMul, e6]
    all_goals first | refine h17 _ _ ?_ | refine h16 _ _ ?_ | refine h15 _ _ ?_ | refine h14 _ _ ?_ | refine h13 _ _ ?_ | refine h12 _ _ ?_ | refine h11 _ _ ?_ | refine h10 _ _ ?_ | refine h9 _ _ ?_ | refine h8 _ _ ?_ | refine h7 _ _ ?_ | refine h6 _ _ ?_ | refine h5 _ _ ?_ | refine h4 _ _ ?_ | refine h3 _ _ ?_ | refine h2 _ _ ?_ | refine h1 _ _ ?_
    refine AW.ret ?_
    all_goals simp only [zs, reduceIte, Nat.reduceEqDiff, Nat.reduceLT, Nat.reduceLeDiff, Nat.reduceAdd, reduceCtorEq, Nat.reduceMul]
    exact ⟨k, rfl, rfl⟩
end Go.Abs.M
namespace Go.Abs.M
open Go Go.Abs Go.Proofs
set_option maxRecDepth 20000
set_option linter.unusedSimpArgs false
set_option linter.unusedVariables false

theorem of_spec (nm : ByteArray) (e : Ev) (hp : okP [⟨nm, e⟩]) (hl : e.attrs.length * 48 ≤ 140737488355328) : PCalls Try.prog 19 [.c (.string nm), .agg (encEv e)]
    (fun v => v = if partErr [⟨nm, e⟩] ≠ 0 then .tup [.agg [.sl []], .c (.int .i64 (partErr [⟨nm, e⟩]))] else .tup [.agg [.sl ([(⟨nm, e⟩ : Bd)].map encBd)], .c (.int .i64 0)]) := by
  refine PCalls.intro Try.call19 Try.func19 rfl Try.ntmps19 Try.results19 (by simp) ?_
  refine AW.seq_k fun K1 h1 => ?_
  all_goals refine AW.reg0 ?_
  all_goals iterate 3 (refine S.g rfl rfl fun K' k' => ?_; simp only [zz, reduceIte, Nat.reduceEqDiff, Nat.reduceLT, Nat.reduceLeDiff, Nat.reduceAdd, reduceCtorEq, Nat.reduceMul, ok36, sz36, ag36, zt24, encEv]; refine k' _ _ ?_; clear k' K')
  all_goals refine S.nil ?_
  all_goals simp only [ze, reduceIte, Nat.reduceEqDiff, Nat.reduceLT, Nat.reduceLeDiff, Nat.reduceAdd, reduceCtorEq, Nat.reduceMul, encEv]
  all_goals first | refine h1 _ _ ?_
  refine AW.seq_k fun K2 h2 => ?_
  all_goals refine AW.reg0 ?_
  all_goals iterate 2 (refine S.g rfl rfl fun K' k' => ?_; simp only [zz, reduceIte, Nat.reduceEqDiff, Nat.reduceLT, Nat.reduceLeDiff, Nat.reduceAdd, reduceCtorEq, Nat.reduceMul, ok36, sz36, ag36, encEv]; refine k' _ _ ?_; clear k' K')
  all_goals (refine S.g rfl rfl fun K' k' => ?_; simp only [zz, reduceIte, Nat.reduceEqDiff, Nat.reduceLT, Nat.reduceLeDiff, Nat.reduceAdd, reduceCtorEq, Nat.reduceMul, encEv]; refine PCalls.eqto (clone_ev _ (by assumption)) ?_ <;> (refine k' _ _ ?_; clear k' K'))
  all_goals (refine S.g rfl rfl fun K' k' => ?_; simp only [zz, reduceIte, Nat.reduceEqDiff, Nat.reduceLT, Nat.reduceLeDiff, Nat.reduceAdd, reduceCtorEq, Nat.reduceMul, zt42, pl42, encEv]; refine k' _ _ ?_; clear k' K')
  all_goals (refine S.g rfl rfl fun K' k' => ?_; simp only [zb, reduceIte, Nat.reduceEqDiff, Nat.reduceLT, Nat.reduceLeDiff, Nat.reduceAdd, reduceCtorEq, Nat.reduceMul, sl22, el22, ok42, sz42, ag42, zt42, by42, encEv]; refine k' _ _ ?_; clear k' K')
  all_goals (refine S.g rfl rfl fun K' k' => ?_; simp only [zz, reduceIte, Nat.reduceEqDiff, Nat.reduceLT, Nat.reduceLeDiff, Nat.reduceAdd, reduceCtorEq, Nat.reduceMul, zt24, pl24, encEv]; refine k' _ _ ?_; clear k' K')
  all_goals iterate 2 (refine S.g rfl rfl fun K' k' => ?_; simp only [zz, reduceIte, Nat.reduceEqDiff, Nat.reduceLT, Nat.reduceLeDiff, Nat.reduceAdd, reduceCtorEq, Nat.reduceMul, zt24, ok24, sz24, ag24, encEv]; refine k' _ _ ?_; clear k' K')
  all_goals refine S.nil ?_
  all_goals simp only [ze, reduceIte, Nat.reduceEqDiff, Nat.reduceLT, Nat.reduceLeDiff, Nat.reduceAdd, reduceCtorEq, Nat.reduceMul, encEv]
  all_goals first | refine h2 _ _ ?_ | refine h1 _ _ ?_
  refine AW.seq_k fun K3 h3 => ?_
  refine AW.seq_k fun K4 h4 => ?_
  all_goals refine AW.reg0 ?_
  all_goals (refine S.g rfl rfl fun K' k' => ?_; simp only [zz, reduceIte, Nat.reduceEqDiff, Nat.reduceLT, Nat.reduceLeDiff, Nat.reduceAdd, reduceCtorEq, Nat.reduceMul, ok24, sz24, ag24]; refine k' _ _ ?_; clear k' K')
  all_goals (refine S.g rfl rfl fun K' k' => ?_; simp only [zz, reduceIte, Nat.reduceEqDiff, Nat.reduceLT, Nat.reduceLeDiff, Nat.reduceAdd, reduceCtorEq, Nat.reduceMul]; refine PCalls.eqto (check_part [⟨nm, e⟩] (by assumption)) ?_ <;> (refine k' _ _ ?_; clear k' K'))
  all_goals (refine S.g rfl rfl fun K' k' => ?_; simp only [zz, reduceIte, Nat.reduceEqDiff, Nat.reduceAdd]; refine k' _ _ ?_; clear k' K')
  all_goals refine S.nil ?_
  all_goals simp only [ze, reduceIte, Nat.reduceEqDiff, Nat.reduceLT, Nat.reduceLeDiff, Nat.reduceAdd, reduceCtorEq, Nat.reduceMul]
  all_goals first | refine h4 _ _ ?_ | refine h3 _ _ ?_ | refine h2 _ _ ?_ | refine h1 _ _ ?_
  refine AW.seq_k fun K5 h5 => ?_
  all_goals refine AW.reg0 ?_
  all_goals iterate 2 (refine S.g rfl rfl fun K' k' => ?_; simp only [zz, reduceIte, Nat.reduceEqDiff, Nat.reduceAdd]; refine k' _ _ ?_; clear k' K')
  all_goals refine S.nil ?_
  all_goals simp only [ze, reduceIte, Nat.reduceEqDiff, Nat.reduceLT, Nat.reduceLeDiff, Nat.reduceAdd, reduceCtorEq, Nat.reduceMul]
  all_goals first | refine h5 _ _ ?_ | refine h4 _ _ ?_ | refine h3 _ _ ?_ | refine h2 _ _ ?_ | refine h1 _ _ ?_
  refine AW.cond (b := partErr [⟨nm, e⟩] != 0) (by simp [ev]) (fun hc => ?_) (fun hc => ?_)
  · have hx : partErr [⟨nm, e⟩] ≠ 0 := by simpa using hc
    refine AW.seq_k fun K6 h6 => ?_
    all_goals refine AW.reg0 ?_
    all_goals (refine S.g rfl rfl fun K' k' => ?_; simp only [zz, reduceIte, Nat.reduceEqDiff, Nat.reduceLT, Nat.reduceLeDiff, Nat.reduceAdd, reduceCtorEq, Nat.reduceMul, zt24, pl24]; refine k' _ _ ?_; clear k' K')
    all_goals iterate 3 (refine S.g rfl rfl fun K' k' => ?_; simp only [zz, reduceIte, Nat.reduceEqDiff, Nat.reduceLT, Nat.reduceLeDiff, Nat.reduceAdd, reduceCtorEq, Nat.reduceMul, ok24, sz24, ag24]; refine k' _ _ ?_; clear k' K')
    all_goals refine S.nil ?_
    all_goals simp only [ze, reduceIte, Nat.reduceEqDiff, Nat.reduceLT, Nat.reduceLeDiff, Nat.reduceAdd, reduceCtorEq, Nat.reduceMul]
    all_goals first | refine h6 _ _ ?_ | refine h5 _ _ ?_ | refine h4 _ _ ?_ | refine h3 _ _ ?_ | refine h2 _ _ ?_ | refine h1 _ _ ?_
    refine AW.ret ?_
    all_goals simp only [zs, reduceIte, Nat.reduceEqDiff, Nat.reduceLT, Nat.reduceLeDiff, Nat.reduceAdd, reduceCtorEq, Nat.reduceMul, qLoad, ok24, sz24, ag24, cut, List.drop_zero, List.take_succ_cons, List.take_zero, List.map]
    exact (if_pos hx).symm
  · have hx : ¬ partErr [⟨nm, e⟩] ≠ 0 := by simpa using hc
    refine AW.skip ?_
    all_goals simp only [zs, reduceIte, Nat.reduceEqDiff, Nat.reduceLT, Nat.reduceLeDiff, Nat.reduceAdd, reduceCtorEq, Nat.reduceMul]
    all_goals first | refine h6 _ _ ?_ | refine h5 _ _ ?_ | refine h4 _ _ ?_ | refine h3 _ _ ?_ | refine h2 _ _ ?_ | refine h1 _ _ ?_
    refine AW.seq_k fun K7 h7 => ?_
    all_goals refine AW.reg0 ?_
    all_goals iterate 3 (refine S.g rfl rfl fun K' k' => ?_; simp only [zz, reduceIte, Nat.reduceEqDiff, Nat.reduceLT, Nat.reduceLeDiff, Nat.reduceAdd, reduceCtorEq, Nat.reduceMul, ok24, sz24, ag24]; refine k' _ _ ?_; clear k' K')
    all_goals refine S.nil ?_
    all_goals simp only [ze, reduceIte, Nat.reduceEqDiff, Nat.reduceLT, Nat.reduceLeDiff, Nat.reduceAdd, reduceCtorEq, Nat.reduceMul]
    all_goals first | refine h7 _ _ ?_ | refine h6 _ _ ?_ | refine h5 _ _ ?_ | refine h4 _ _ ?_ | refine h3 _ _ ?_ | refine h2 _ _ ?_ | refine h1 _ _ ?_
    refine AW.ret ?_
    all_goals simp only [zs, reduceIte, Nat.reduceEqDiff, Nat.reduceLT, Nat.reduceLeDiff, Nat.reduceAdd, reduceCtorEq, Nat.reduceMul, qLoad, ok24, sz24, ag24, cut, List.drop_zero, List.take_succ_cons, List.take_zero, List.map, encBd]
    exact (if_neg hx).symm

def encI (n : Int) : List V := [.c (.int .i64 n)]
theorem len_int (l : List Int) : ∀ (e : List V), e ∈ l.map encI → e.length = 1 := fun e he => by
  obtain ⟨a, _, rfl⟩ := List.mem_map.1 he; rfl
theorem times_spec (l : List Bd) (hn : l.length * 80 ≤ 140737488355328) : PCalls Try.prog 80 [.agg [.sl (l.map encBd)]] (fun v => v = .sl ((l.map (·.ev.time)).map encI)) := by
  refine PCalls.intro Try.call80 Try.func80 rfl Try.ntmps80 Try.results80 (by simp) ?_
  refine AW.seq_k fun K1 h1 => ?_
  all_goals refine AW.reg0 ?_
  all_goals iterate 2 (refine S.g rfl rfl fun K' k' => ?_; simp only [zz, reduceIte, Nat.reduceEqDiff, Nat.reduceLT, Nat.reduceLeDiff, Nat.reduceAdd, reduceCtorEq, Nat.reduceMul, ok24, sz24, ag24]; refine k' _ _ ?_; clear k' K')
  all_goals refine S.nil ?_
  all_goals simp only [ze, reduceIte, Nat.reduceEqDiff, Nat.reduceLT, Nat.reduceLeDiff, Nat.reduceAdd, reduceCtorEq, Nat.reduceMul]
  all_goals first | refine h1 _ _ ?_
  refine AW.seq_k fun K2 h2 => ?_
  all_goals refine AW.reg0 ?_
  all_goals (refine S.g rfl rfl fun K' k' => ?_; simp only [zz, reduceIte, Nat.reduceEqDiff, Nat.reduceAdd]; refine k' _ _ ?_; clear k' K')
  all_goals refine S.nil ?_
  all_goals simp only [ze, reduceIte, Nat.reduceEqDiff, Nat.reduceLT, Nat.reduceLeDiff, Nat.reduceAdd, reduceCtorEq, Nat.reduceMul]
  all_goals first | refine h2 _ _ ?_ | refine h1 _ _ ?_
  refine AW.seq_k fun K3 h3 => ?_
  refine AW.seq_k fun K4 h4 => ?_
  all_goals refine AW.reg0 ?_
  all_goals iterate 4 (refine S.g rfl rfl fun K' k' => ?_; simp only [zz, reduceIte, Nat.reduceEqDiff, Nat.reduceLT, Nat.reduceLeDiff, Nat.reduceAdd, reduceCtorEq, Nat.reduceMul, of24_0, ok22, sz22, ag22, sl22, el22, ok42, sz42, ag42]; refine k' _ _ ?_; clear k' K')
  all_goals refine S.nil ?_
  all_goals simp only [ze, reduceIte, Nat.reduceEqDiff, Nat.reduceLT, Nat.reduceLeDiff, Nat.reduceAdd, reduceCtorEq, Nat.reduceMul]
  all_goals first | refine h4 _ _ ?_ | refine h3 _ _ ?_ | refine h2 _ _ ?_ | refine h1 _ _ ?_
  refine AW.block ?_   -- 0
  refine AW.loop (fun m s σ => ∃ i : Nat, m + i = l.length ∧ s.t 7 = .sl (l.map encBd) ∧ s.t 8 = .c (.int .i64 l.length) ∧ s.t 9 = .c (.int .i64 i) ∧
    ((i = 0 ∧ s.t 3 = .c (.slice none 0 0) ∧ σ = Hp.empty) ∨ ∃ k, s.t 3 = .gl k ∧ σ = Hp.empty.setGr k (some ((2, 1), ((l.take i).map (·.ev.time)).map encI)))) l.length ?_ ?_
  · refine ⟨0, by simp, ?_⟩
    all_goals simp only [zs, reduceIte, Nat.reduceEqDiff, Nat.reduceLT, Nat.reduceLeDiff, Nat.reduceAdd, reduceCtorEq, Nat.reduceMul]
    simp
  rintro m s σ ⟨i, hm, e7, e8, e9, hk⟩
  refine AW.seq_k fun K5 h5 => ?_
  all_goals refine AW.reg0 ?_
  all_goals (refine S.g rfl rfl fun K' k' => ?_; simp only [zz, reduceIte, Nat.reduceEqDiff, Nat.reduceAdd, e9, e8]; refine k' _ _ ?_; clear k' K')
  all_goals refine S.nil ?_
  all_goals simp only [ze, reduceIte, Nat.reduceEqDiff, Nat.reduceLT, Nat.reduceLeDiff, Nat.reduceAdd, reduceCtorEq, Nat.reduceMul, e9, e8]
  all_goals first | refine h5 _ _ ?_ | refine h4 _ _ ?_ | refine h3 _ _ ?_ | refine h2 _ _ ?_ | refine h1 _ _ ?_
  refine AW.seq_k fun K6 h6 => ?_
  refine AW.cond (b := decide (i < l.length)) (by simp [ev]) (fun hc => ?_) (fun hc => ?_)
  · refine AW.skip ?_
    all_goals simp only [zs, reduceIte, Nat.reduceEqDiff, Nat.reduceLT, Nat.reduceLeDiff, Nat.reduceAdd, reduceCtorEq, Nat.reduceMul]
    all_goals first | refine h6 _ _ ?_ | refine h5 _ _ ?_ | refine h4 _ _ ?_ | refine h3 _ _ ?_ | refine h2 _ _ ?_ | refine h1 _ _ ?_
    have hi : i < l.length := by simpa using hc
    have hg := getD_map (f := encBd) hi
    have htk : l.take (i + 1) = l.take i ++ [l[i]] := by rw [List.take_append_getElem]
    generalize ha : l[i] = a at hg htk
    have hw : IntKind.i64.wrap ((i : Int) + 1) = ((i + 1 : Nat) : Int) := by rw [wrap_small _ (by omega) (by omega)]; rfl
    have htl : (l.take i).length = i := by rw [List.length_take]; omega
    refine AW.seq_k fun K7 h7 => ?_
    refine AW.block ?_   -- 1
    refine AW.seq_k fun K8 h8 => ?_
    all_goals refine AW.reg0 ?_
    all_goals iterate 4 (refine S.g rfl rfl fun K' k' => ?_; simp only [zz, reduceIte, Nat.reduceEqDiff, Nat.reduceLT, Nat.reduceLeDiff, Nat.reduceAdd, reduceCtorEq, Nat.reduceMul, sl22, el22, ok42, sz42, ag42, zt42, e7, e9, hi, hg, encBd]; refine k' _ _ ?_; clear k' K')
    all_goals refine S.nil ?_
    all_goals simp only [ze, reduceIte, Nat.reduceEqDiff, Nat.reduceLT, Nat.reduceLeDiff, Nat.reduceAdd, reduceCtorEq, Nat.reduceMul, e7, e9, hi, hg, encBd]
    all_goals first | refine h8 _ _ ?_ | refine h7 _ _ ?_ | refine h6 _ _ ?_ | refine h5 _ _ ?_ | refine h4 _ _ ?_ | refine h3 _ _ ?_ | refine h2 _ _ ?_ | refine h1 _ _ ?_
    rcases hk with ⟨rfl, e3, rfl⟩ | ⟨k, e3, rfl⟩
    · skip
      all_goals refine AW.reg0 ?_
      all_goals iterate 4 (refine S.g rfl rfl fun K' k' => ?_; simp only [zz, reduceIte, Nat.reduceEqDiff, Nat.reduceLT, Nat.reduceLeDiff, Nat.reduceAdd, reduceCtorEq, Nat.reduceMul, of42_1, of36_1, ok2, sz2, ag2, e3]; refine k' _ _ ?_; clear k' K')
      all_goals (refine S.g rfl rfl fun K' k' => ?_; simp only [zb, reduceIte, Nat.reduceEqDiff, Nat.reduceLT, Nat.reduceLeDiff, Nat.reduceAdd, reduceCtorEq, Nat.reduceMul, sl108, el108, ok2, sz2, ag2, zt2, by2, e3]; refine k' _ _ ?_; clear k' K')
      all_goals (refine S.g rfl rfl fun K' k' => ?_; simp only [zz, reduceIte, Nat.reduceEqDiff, Nat.reduceLT, Nat.reduceLeDiff, Nat.reduceAdd, reduceCtorEq, Nat.reduceMul, sl108, el108, ok2, sz2, ag2, zt2, by2, e3]; refine ⟨len_int [a.ev.time], by unfold maxLen; omega, by unfold reach; omega, fun k2 hk2 => ?_⟩ <;> (refine k' _ _ ?_; clear k' K'))
      all_goals (refine S.g rfl rfl fun K' k' => ?_; simp only [zz, reduceIte, Nat.reduceEqDiff, Nat.reduceAdd, e3]; refine k' _ _ ?_; clear k' K')
      all_goals refine S.nil ?_
      all_goals simp only [ze, reduceIte, Nat.reduceEqDiff, Nat.reduceLT, Nat.reduceLeDiff, Nat.reduceAdd, reduceCtorEq, Nat.reduceMul, e3]
      all_goals first | refine h8 _ _ ?_ | refine h7 _ _ ?_ | refine h6 _ _ ?_ | refine h5 _ _ ?_ | refine h4 _ _ ?_ | refine h3 _ _ ?_ | refine h2 _ _ ?_ | refine h1 _ _ ?_
      all_goals refine AW.reg0 ?_
      all_goals iterate 2 (refine S.g rfl rfl fun K' k' => ?_; simp only [zz, reduceIte, Nat.reduceEqDiff, Nat.reduceAdd, e9, hw, e7, e8]; refine k' _ _ ?_; clear k' K')
      all_goals refine S.nil ?_
      all_goals simp only [ze, reduceIte, Nat.reduceEqDiff, Nat.reduceLT, Nat.reduceLeDiff, Nat.reduceAdd, reduceCtorEq, Nat.reduceMul, e9, hw, e7, e8]
      refine ⟨m - 1, by omega, 1, by omega, rfl, .inr ⟨k2, rfl, ?_⟩⟩
      rw [show l.take 1 = [] ++ [a] from htk]; rfl
    · skip
      all_goals refine AW.reg0 ?_
      all_goals iterate 4 (refine S.g rfl rfl fun K' k' => ?_; simp only [zz, reduceIte, Nat.reduceEqDiff, Nat.reduceLT, Nat.reduceLeDiff, Nat.reduceAdd, reduceCtorEq, Nat.reduceMul, of42_1, of36_1, ok2, sz2, ag2, e3, htl]; refine k' _ _ ?_; clear k' K')
      all_goals (refine S.g rfl rfl fun K' k' => ?_; simp only [zb, reduceIte, Nat.reduceEqDiff, Nat.reduceLT, Nat.reduceLeDiff, Nat.reduceAdd, reduceCtorEq, Nat.reduceMul, sl108, el108, ok2, sz2, ag2, zt2, by2, e3, htl]; refine k' _ _ ?_; clear k' K')
      all_goals (refine S.g rfl rfl fun K' k' => ?_; simp only [zz, reduceIte, Nat.reduceEqDiff, Nat.reduceLT, Nat.reduceLeDiff, Nat.reduceAdd, reduceCtorEq, Nat.reduceMul, sl108, el108, ok2, sz2, ag2, zt2, by2, e3, htl]; refine ⟨len_int [a.ev.time], by unfold maxLen; omega, by unfold reach; omega, fun k2 hk2 => ?_⟩ <;> (refine k' _ _ ?_; clear k' K'))
      all_goals (refine S.g rfl rfl fun K' k' => ?_; simp only [zz, reduceIte, Nat.reduceEqDiff, Nat.reduceAdd, e3, htl]; refine k' _ _ ?_; clear k' K')
      all_goals refine S.nil ?_
      all_goals simp only [ze, reduceIte, Nat.reduceEqDiff, Nat.reduceLT, Nat.reduceLeDiff, Nat.reduceAdd, reduceCtorEq, Nat.reduceMul, e3, htl]
      all_goals first | refine h8 _ _ ?_ | refine h7 _ _ ?_ | refine h6 _ _ ?_ | refine h5 _ _ ?_ | refine h4 _ _ ?_ | refine h3 _ _ ?_ | refine h2 _ _ ?_ | refine h1 _ _ ?_
      all_goals refine AW.reg0 ?_
      all_goals iterate 2 (refine S.g rfl rfl fun K' k' => ?_; simp only [zz, reduceIte, Nat.reduceEqDiff, Nat.reduceAdd, e9, hw, e7, e8]; refine k' _ _ ?_; clear k' K')
      all_goals refine S.nil ?_
      all_goals simp only [ze, reduceIte, Nat.reduceEqDiff, Nat.reduceLT, Nat.reduceLeDiff, Nat.reduceAdd, reduceCtorEq, Nat.reduceMul, e9, hw, e7, e8]
      refine ⟨m - 1, by omega, i + 1, by omega, rfl, .inr ⟨k2, rfl, ?_⟩⟩
      rw [htk, List.map_append, List.map_append]
      rfl
  · refine AW.exit ?_
    all_goals simp only [zs, reduceIte, Nat.reduceEqDiff, Nat.reduceLT, Nat.reduceLeDiff, Nat.reduceAdd, reduceCtorEq, Nat.reduceMul]
    -- EXIT 0
    all_goals first | refine h8 _ _ ?_ | refine h7 _ _ ?_ | refine h6 _ _ ?_ | refine h5 _ _ ?_ | refine h4 _ _ ?_ | refine h3 _ _ ?_ | refine h2 _ _ ?_ | refine h1 _ _ ?_
    have hi : l.length ≤ i := by simpa using hc
    rcases hk with ⟨rfl, e3, rfl⟩ | ⟨k, e3, rfl⟩
    · have h0 : l = [] := List.eq_nil_of_length_eq_zero (by omega)
      refine AW.seq_k fun K9 h9 => ?_
      all_goals refine AW.reg0 ?_
      all_goals iterate 2 (refine S.g rfl rfl fun K' k' => ?_; simp only [zz, reduceIte, Nat.reduceEqDiff, Nat.reduceAdd, e3]; refine k' _ _ ?_; clear k' K')
      all_goals refine S.nil ?_
      all_goals simp only [ze, reduceIte, Nat.reduceEqDiff, Nat.reduceLT, Nat.reduceLeDiff, Nat.reduceAdd, reduceCtorEq, Nat.reduceMul, e3]
      all_goals first | refine h9 _ _ ?_ | refine h8 _ _ ?_ | refine h7 _ _ ?_ | refine h6 _ _ ?_ | refine h5 _ _ ?_ | refine h4 _ _ ?_ | refine h3 _ _ ?_ | refine h2 _ _ ?_ | refine h1 _ _ ?_
      refine AW.ret ?_
      all_goals simp only [zs, reduceIte, Nat.reduceEqDiff, Nat.reduceLT, Nat.reduceLeDiff, Nat.reduceAdd, reduceCtorEq, Nat.reduceMul, h0, List.map]
    · rw [List.take_of_length_le hi]
      refine AW.seq_k fun K10 h10 => ?_
      all_goals refine AW.reg0 ?_
      all_goals iterate 2 (refine S.g rfl rfl fun K' k' => ?_; simp only [zz, reduceIte, Nat.reduceEqDiff, Nat.reduceAdd, e3]; refine k' _ _ ?_; clear k' K')
      all_goals refine S.nil ?_
      all_goals simp only [ze, reduceIte, Nat.reduceEqDiff, Nat.reduceLT, Nat.reduceLeDiff, Nat.reduceAdd, reduceCtorEq, Nat.reduceMul, e3]
      all_goals first | refine h10 _ _ ?_ | refine h9 _ _ ?_ | refine h8 _ _ ?_ | refine h7 _ _ ?_ | refine h6 _ _ ?_ | refine h5 _ _ ?_ | refine h4 _ _ ?_ | refine h3 _ _ ?_ | refine h2 _ _ ?_ | refine h1 _ _ ?_
      refine AW.freeze (k := k) (T := (2, 1)) (es := (l.map (·.ev.time)).map encI) (by simp only [Hp.setGr_gr, if_true]) (AW.bare (AW.ret ?_))
      all_goals simp only [zs, reduceIte, Nat.reduceEqDiff, Nat.reduceLT, Nat.reduceLeDiff, Nat.reduceAdd, reduceCtorEq, Nat.reduceMul, fzV, fz1, St.fz_t, St.fz_l]
end Go.Abs.M
namespace Go.Abs.M
open Go Go.Abs Go.Proofs
set_option maxRecDepth 20000
set_option linter.unusedSimpArgs false
set_option linter.unusedVariables false

def minL (a : Int) (r : List Int) : Int := r.foldl (fun m b => if b < m then b else m) a
theorem min_spec (a : Int) (r : List Int) (hn : r.length < 4611686018427387904) : PCalls Try.prog 79 [.sl ((a :: r).map encI)] (fun v => v = .c (.int .i64 (minL a r))) := by
  refine PCalls.intro Try.call79 Try.func79 rfl Try.ntmps79 Try.results79 (by simp) ?_
  have hlen : (a :: r).length = r.length + 1 := rfl
  have hg0 : ((a :: r).map encI).getD 0 [] = encI a := rfl
  have hlm : ((a :: r).map encI).length = r.length + 1 := by simp
  generalize hes : (a :: r).map encI = es at hg0 hlm ⊢
  refine AW.seq_k fun K1 h1 => ?_
  all_goals refine AW.reg0 ?_
  all_goals (refine S.g rfl rfl fun K' k' => ?_; simp only [zz, reduceIte, Nat.reduceEqDiff, Nat.reduceAdd]; refine k' _ _ ?_; clear k' K')
  all_goals refine S.nil ?_
  all_goals simp only [ze, reduceIte, Nat.reduceEqDiff, Nat.reduceLT, Nat.reduceLeDiff, Nat.reduceAdd, reduceCtorEq, Nat.reduceMul]
  all_goals first | refine h1 _ _ ?_
  have hw0 : IntKind.i64.wrap ((r.length : Int) + 1) = ((r.length + 1 : Nat) : Int) := by rw [wrap_small _ (by omega) (by omega)]; rfl
  refine AW.seq_k fun K2 h2 => ?_
  refine AW.seq_k fun K3 h3 => ?_
  all_goals refine AW.reg0 ?_
  all_goals iterate 3 (refine S.g rfl rfl fun K' k' => ?_; simp only [zz, reduceIte, Nat.reduceEqDiff, Nat.reduceLT, Nat.reduceLeDiff, Nat.reduceAdd, reduceCtorEq, Nat.reduceMul, sl108, el108, ok2, sz2, ag2, hlm]; refine k' _ _ ?_; clear k' K')
  all_goals refine S.nil ?_
  all_goals simp only [ze, reduceIte, Nat.reduceEqDiff, Nat.reduceLT, Nat.reduceLeDiff, Nat.reduceAdd, reduceCtorEq, Nat.reduceMul, hlm]
  all_goals first | refine h3 _ _ ?_ | refine h2 _ _ ?_ | refine h1 _ _ ?_
  refine AW.cond (b := decide (((r.length + 1 : Nat) : Int) < 1)) (by simp [ev]) (fun hc => ?_) (fun hc => ?_)
  · have := of_decide_eq_true hc; omega
  refine AW.skip ?_
  all_goals simp only [zs, reduceIte, Nat.reduceEqDiff, Nat.reduceLT, Nat.reduceLeDiff, Nat.reduceAdd, reduceCtorEq, Nat.reduceMul]
  all_goals first | refine h3 _ _ ?_ | refine h2 _ _ ?_ | refine h1 _ _ ?_
  have h00 : (0 : Int) < ((r.length + 1 : Nat) : Int) := by omega
  refine AW.seq_k fun K4 h4 => ?_
  all_goals refine AW.reg0 ?_
  all_goals iterate 4 (refine S.g rfl rfl fun K' k' => ?_; simp only [zz, reduceIte, Nat.reduceEqDiff, Nat.reduceLT, Nat.reduceLeDiff, Nat.reduceAdd, reduceCtorEq, Nat.reduceMul, sl108, el108, ok2, sz2, ag2, hlm, hg0, encI, h00, Int.toNat_zero, Int.le_refl]; refine k' _ _ ?_; clear k' K')
  all_goals refine S.nil ?_
  all_goals simp only [ze, reduceIte, Nat.reduceEqDiff, Nat.reduceLT, Nat.reduceLeDiff, Nat.reduceAdd, reduceCtorEq, Nat.reduceMul, hlm, hg0, encI, h00, Int.toNat_zero, Int.le_refl]
  all_goals first | refine h4 _ _ ?_ | refine h3 _ _ ?_ | refine h2 _ _ ?_ | refine h1 _ _ ?_
  refine AW.seq_k fun K5 h5 => ?_
  refine AW.seq_k fun K6 h6 => ?_
  all_goals refine AW.reg0 ?_
  all_goals (refine S.g rfl rfl fun K' k' => ?_; simp only [zz, reduceIte, Nat.reduceEqDiff, Nat.reduceAdd]; refine k' _ _ ?_; clear k' K')
  all_goals refine S.nil ?_
  all_goals simp only [ze, reduceIte, Nat.reduceEqDiff, Nat.reduceLT, Nat.reduceLeDiff, Nat.reduceAdd, reduceCtorEq, Nat.reduceMul]
  all_goals first | refine h6 _ _ ?_ | refine h5 _ _ ?_ | refine h4 _ _ ?_ | refine h3 _ _ ?_ | refine h2 _ _ ?_ | refine h1 _ _ ?_
  refine AW.block ?_   -- 0
  refine AW.loop (fun m s σ => σ = Hp.empty ∧ ∃ j : Nat, m + j = r.length ∧ s.t 0 = .sl es ∧ s.t 4 = .c (.int .i64 ((j + 1 : Nat) : Int)) ∧ s.t 3 = .c (.int .i64 (minL a (r.take j)))) r.length ?_ ?_
  · refine ⟨rfl, 0, by simp, ?_⟩
    all_goals simp only [zs, reduceIte, Nat.reduceEqDiff, Nat.reduceLT, Nat.reduceLeDiff, Nat.reduceAdd, reduceCtorEq, Nat.reduceMul]
    exact ⟨rfl, rfl⟩
  rintro m s σ ⟨rfl, j, hm, e0, e4, e3⟩
  refine AW.seq_k fun K7 h7 => ?_
  refine AW.seq_k fun K8 h8 => ?_
  all_goals refine AW.reg0 ?_
  all_goals iterate 4 (refine S.g rfl rfl fun K' k' => ?_; simp only [zz, reduceIte, Nat.reduceEqDiff, Nat.reduceLT, Nat.reduceLeDiff, Nat.reduceAdd, reduceCtorEq, Nat.reduceMul, sl108, el108, ok2, sz2, ag2, e0, e4, hlm]; refine k' _ _ ?_; clear k' K')
  all_goals refine S.nil ?_
  all_goals simp only [ze, reduceIte, Nat.reduceEqDiff, Nat.reduceLT, Nat.reduceLeDiff, Nat.reduceAdd, reduceCtorEq, Nat.reduceMul, e0, e4, hlm]
  all_goals first | refine h8 _ _ ?_ | refine h7 _ _ ?_ | refine h6 _ _ ?_ | refine h5 _ _ ?_ | refine h4 _ _ ?_ | refine h3 _ _ ?_ | refine h2 _ _ ?_ | refine h1 _ _ ?_
  refine AW.cond (b := decide (j + 1 < r.length + 1)) (by simp [ev]) (fun hc => ?_) (fun hc => ?_)
  · refine AW.skip ?_
    all_goals simp only [zs, reduceIte, Nat.reduceEqDiff, Nat.reduceLT, Nat.reduceLeDiff, Nat.reduceAdd, reduceCtorEq, Nat.reduceMul]
    all_goals first | refine h8 _ _ ?_ | refine h7 _ _ ?_ | refine h6 _ _ ?_ | refine h5 _ _ ?_ | refine h4 _ _ ?_ | refine h3 _ _ ?_ | refine h2 _ _ ?_ | refine h1 _ _ ?_
    have hj : j < r.length := by have := of_decide_eq_true hc; omega
    have hj1 : j + 1 < r.length + 1 := by omega
    have hg : es.getD (j + 1) [] = encI r[j] := by rw [← hes]; simp [hj]
    have htk : r.take (j + 1) = r.take j ++ [r[j]] := by rw [List.take_append_getElem]
    have hw : IntKind.i64.wrap (((j + 1 : Nat) : Int) + 1) = ((j + 1 + 1 : Nat) : Int) := by rw [wrap_small _ (by omega) (by omega)]; rfl
    generalize hb : r[j] = b at hg htk
    refine AW.seq_k fun K9 h9 => ?_
    refine AW.block ?_   -- 1
    all_goals refine AW.reg0 ?_
    all_goals iterate 7 (refine S.g rfl rfl fun K' k' => ?_; simp only [zz, reduceIte, Nat.reduceEqDiff, Nat.reduceLT, Nat.reduceLeDiff, Nat.reduceAdd, reduceCtorEq, Nat.reduceMul, sl108, el108, ok2, sz2, ag2, e0, e4, e3, hlm, hg, encI, hj1]; refine k' _ _ ?_; clear k' K')
    all_goals refine S.nil ?_
    all_goals simp only [ze, reduceIte, Nat.reduceEqDiff, Nat.reduceLT, Nat.reduceLeDiff, Nat.reduceAdd, reduceCtorEq, Nat.reduceMul, e0, e4, e3, hlm, hg, encI, hj1]
    all_goals first | refine h9 _ _ ?_ | refine h8 _ _ ?_ | refine h7 _ _ ?_ | refine h6 _ _ ?_ | refine h5 _ _ ?_ | refine h4 _ _ ?_ | refine h3 _ _ ?_ | refine h2 _ _ ?_ | refine h1 _ _ ?_
    all_goals refine AW.reg0 ?_
    all_goals iterate 3 (refine S.g rfl rfl fun K' k' => ?_; simp only [zz, reduceIte, Nat.reduceEqDiff, Nat.reduceAdd, e4, hw]; refine k' _ _ ?_; clear k' K')
    all_goals refine S.nil ?_
    all_goals simp only [ze, reduceIte, Nat.reduceEqDiff, Nat.reduceLT, Nat.reduceLeDiff, Nat.reduceAdd, reduceCtorEq, Nat.reduceMul, e4, hw]
    refine ⟨m - 1, by omega, j + 1, by omega, e0, rfl, ?_⟩
    rw [htk]
    simp only [minL, List.foldl_append, List.foldl_cons, List.foldl_nil]
    first | done | rfl | (congr 1)
  · refine AW.exit ?_
    all_goals simp only [zs, reduceIte, Nat.reduceEqDiff, Nat.reduceLT, Nat.reduceLeDiff, Nat.reduceAdd, reduceCtorEq, Nat.reduceMul]
    -- EXIT 0
    all_goals first | refine h9 _ _ ?_ | refine h8 _ _ ?_ | refine h7 _ _ ?_ | refine h6 _ _ ?_ | refine h5 _ _ ?_ | refine h4 _ _ ?_ | refine h3 _ _ ?_ | refine h2 _ _ ?_ | refine h1 _ _ ?_
    have hj : r.length ≤ j := by have := of_decide_eq_false hc; omega
    rw [List.take_of_length_le hj] at e3
    refine AW.seq_k fun K10 h10 => ?_
    all_goals refine AW.reg0 ?_
    all_goals iterate 2 (refine S.g rfl rfl fun K' k' => ?_; simp only [zz, reduceIte, Nat.reduceEqDiff, Nat.reduceAdd, e3]; refine k' _ _ ?_; clear k' K')
    all_goals refine S.nil ?_
    all_goals simp only [ze, reduceIte, Nat.reduceEqDiff, Nat.reduceLT, Nat.reduceLeDiff, Nat.reduceAdd, reduceCtorEq, Nat.reduceMul, e3]
    all_goals first | refine h10 _ _ ?_ | refine h9 _ _ ?_ | refine h8 _ _ ?_ | refine h7 _ _ ?_ | refine h6 _ _ ?_ | refine h5 _ _ ?_ | refine h4 _ _ ?_ | refine h3 _ _ ?_ | refine h2 _ _ ?_ | refine h1 _ _ ?_
    refine AW.ret ?_
    all_goals simp only [zs, reduceIte, Nat.reduceEqDiff, Nat.reduceLT, Nat.reduceLeDiff, Nat.reduceAdd, reduceCtorEq, Nat.reduceMul]

def maxL (a : Int) (r : List Int) : Int := r.foldl (fun m b => if m < b then b else m) a
theorem max_spec (a : Int) (r : List Int) (hn : r.length < 4611686018427387904) : PCalls Try.prog 81 [.sl ((a :: r).map encI)] (fun v => v = .c (.int .i64 (maxL a r))) := by
  refine PCalls.intro Try.call81 Try.func81 rfl Try.ntmps81 Try.results81 (by simp) ?_
  have hlen : (a :: r).length = r.length + 1 := rfl
  have hg0 : ((a :: r).map encI).getD 0 [] = encI a := rfl
  have hlm : ((a :: r).map encI).length = r.length + 1 := by simp
  generalize hes : (a :: r).map encI = es at hg0 hlm ⊢
  refine AW.seq_k fun K1 h1 => ?_
  all_goals refine AW.reg0 ?_
  all_goals (refine S.g rfl rfl fun K' k' => ?_; simp only [zz, reduceIte, Nat.reduceEqDiff, Nat.reduceAdd]; refine k' _ _ ?_; clear k' K')
  all_goals refine S.nil ?_
  all_goals simp only [ze, reduceIte, Nat.reduceEqDiff, Nat.reduceLT, Nat.reduceLeDiff, Nat.reduceAdd, reduceCtorEq, Nat.reduceMul]
  all_goals first | refine h1 _ _ ?_
  have hw0 : IntKind.i64.wrap ((r.length : Int) + 1) = ((r.length + 1 : Nat) : Int) := by rw [wrap_small _ (by omega) (by omega)]; rfl
  refine AW.seq_k fun K2 h2 => ?_
  refine AW.seq_k fun K3 h3 => ?_
  all_goals refine AW.reg0 ?_
  all_goals iterate 3 (refine S.g rfl rfl fun K' k' => ?_; simp only [zz, reduceIte, Nat.reduceEqDiff, Nat.reduceLT, Nat.reduceLeDiff, Nat.reduceAdd, reduceCtorEq, Nat.reduceMul, sl108, el108, ok2, sz2, ag2, hlm]; refine k' _ _ ?_; clear k' K')
  all_goals refine S.nil ?_
  all_goals simp only [ze, reduceIte, Nat.reduceEqDiff, Nat.reduceLT, Nat.reduceLeDiff, Nat.reduceAdd, reduceCtorEq, Nat.reduceMul, hlm]
  all_goals first | refine h3 _ _ ?_ | refine h2 _ _ ?_ | refine h1 _ _ ?_
  refine AW.cond (b := decide (((r.length + 1 : Nat) : Int) < 1)) (by simp [ev]) (fun hc => ?_) (fun hc => ?_)
  · have := of_decide_eq_true hc; omega
  refine AW.skip ?_
  all_goals simp only [zs, reduceIte, Nat.reduceEqDiff, Nat.reduceLT, Nat.reduceLeDiff, Nat.reduceAdd, reduceCtorEq, Nat.reduceMul]
  all_goals first | refine h3 _ _ ?_ | refine h2 _ _ ?_ | refine h1 _ _ ?_
  have h00 : (0 : Int) < ((r.length + 1 : Nat) : Int) := by omega
  refine AW.seq_k fun K4 h4 => ?_
  all_goals refine AW.reg0 ?_
  all_goals iterate 4 (refine S.g rfl rfl fun K' k' => ?_; simp only [zz, reduceIte, Nat.reduceEqDiff, Nat.reduceLT, Nat.reduceLeDiff, Nat.reduceAdd, reduceCtorEq, Nat.reduceMul, sl108, el108, ok2, sz2, ag2, hlm, hg0, encI, h00, Int.toNat_zero, Int.le_refl]; refine k' _ _ ?_; clear k' K')
  all_goals refine S.nil ?_
  all_goals simp only [ze, reduceIte, Nat.reduceEqDiff, Nat.reduceLT, Nat.reduceLeDiff, Nat.reduceAdd, reduceCtorEq, Nat.reduceMul, hlm, hg0, encI, h00, Int.toNat_zero, Int.le_refl]
  all_goals first | refine h4 _ _ ?_ | refine h3 _ _ ?_ | refine h2 _ _ ?_ | refine h1 _ _ ?_
  refine AW.seq_k fun K5 h5 => ?_
  refine AW.seq_k fun K6 h6 => ?_
  all_goals refine AW.reg0 ?_
  all_goals (refine S.g rfl rfl fun K' k' => ?_; simp only [zz, reduceIte, Nat.reduceEqDiff, Nat.reduceAdd]; refine k' _ _ ?_; clear k' K')
  all_goals refine S.nil ?_
  all_goals simp only [ze, reduceIte, Nat.reduceEqDiff, Nat.reduceLT, Nat.reduceLeDiff, Nat.reduceAdd, reduceCtorEq, Nat.reduceMul]
  all_goals first | refine h6 _ _ ?_ | refine h5 _ _ ?_ | refine h4 _ _ ?_ | refine h3 _ _ ?_ | refine h2 _ _ ?_ | refine h1 _ _ ?_
  refine AW.block ?_   -- 0
  refine AW.loop (fun m s σ => σ = Hp.empty ∧ ∃ j : Nat, m + j = r.length ∧ s.t 0 = .sl es ∧ s.t 4 = .c (.int .i64 ((j + 1 : Nat) : Int)) ∧ s.t 3 = .c (.int .i64 (maxL a (r.take j)))) r.length ?_ ?_
  · refine ⟨rfl, 0, by simp, ?_⟩
    all_goals simp only [zs, reduceIte, Nat.reduceEqDiff, Nat.reduceLT, Nat.reduceLeDiff, Nat.reduceAdd, reduceCtorEq, Nat.reduceMul]
    exact ⟨rfl, rfl⟩
  rintro m s σ ⟨rfl, j, hm, e0, e4, e3⟩
  refine AW.seq_k fun K7 h7 => ?_
  refine AW.seq_k fun K8 h8 => ?_
  all_goals refine AW.reg0 ?_
  all_goals iterate 4 (refine S.g rfl rfl fun K' k' => ?_; simp only [zz, reduceIte, Nat.reduceEqDiff, Nat.reduceLT, Nat.reduceLeDiff, Nat.reduceAdd, reduceCtorEq, Nat.reduceMul, sl108, el108, ok2, sz2, ag2, e0, e4, hlm]; refine k' _ _ ?_; clear k' K')
  all_goals refine S.nil ?_
  all_goals simp only [ze, reduceIte, Nat.reduceEqDiff, Nat.reduceLT, Nat.reduceLeDiff, Nat.reduceAdd, reduceCtorEq, Nat.reduceMul, e0, e4, hlm]
  all_goals first | refine h8 _ _ ?_ | refine h7 _ _ ?_ | refine h6 _ _ ?_ | refine h5 _ _ ?_ | refine h4 _ _ ?_ | refine h3 _ _ ?_ | refine h2 _ _ ?_ | refine h1 _ _ ?_
  refine AW.cond (b := decide (j + 1 < r.length + 1)) (by simp [ev]) (fun hc => ?_) (fun hc => ?_)
  · refine AW.skip ?_
    all_goals simp only [zs, reduceIte, Nat.reduceEqDiff, Nat.reduceLT, Nat.reduceLeDiff, Nat.reduceAdd, reduceCtorEq, Nat.reduceMul]
    all_goals first | refine h8 _ _ ?_ | refine h7 _ _ ?_ | refine h6 _ _ ?_ | refine h5 _ _ ?_ | refine h4 _ _ ?_ | refine h3 _ _ ?_ | refine h2 _ _ ?_ | refine h1 _ _ ?_
    have hj : j < r.length := by have := of_decide_eq_true hc; omega
    have hj1 : j + 1 < r.length + 1 := by omega
    have hg : es.getD (j + 1) [] = encI r[j] := by rw [← hes]; simp [hj]
    have htk : r.take (j + 1) = r.take j ++ [r[j]] := by rw [List.take_append_getElem]
    have hw : IntKind.i64.wrap (((j + 1 : Nat) : Int) + 1) = ((j + 1 + 1 : Nat) : Int) := by rw [wrap_small _ (by omega) (by omega)]; rfl
    generalize hb : r[j] = b at hg htk
    refine AW.seq_k fun K9 h9 => ?_
    refine AW.block ?_   -- 1
    all_goals refine AW.reg0 ?_
    all_goals iterate 7 (refine S.g rfl rfl fun K' k' => ?_; simp only [zz, reduceIte, Nat.reduceEqDiff, Nat.reduceLT, Nat.reduceLeDiff, Nat.reduceAdd, reduceCtorEq, Nat.reduceMul, sl108, el108, ok2, sz2, ag2, e0, e4, e3, hlm, hg, encI, hj1]; refine k' _ _ ?_; clear k' K')
    all_goals refine S.nil ?_
    all_goals simp only [ze, reduceIte, Nat.reduceEqDiff, Nat.reduceLT, Nat.reduceLeDiff, Nat.reduceAdd, reduceCtorEq, Nat.reduceMul, e0, e4, e3, hlm, hg, encI, hj1]
    all_goals first | refine h9 _ _ ?_ | refine h8 _ _ ?_ | refine h7 _ _ ?_ | refine h6 _ _ ?_ | refine h5 _ _ ?_ | refine h4 _ _ ?_ | refine h3 _ _ ?_ | refine h2 _ _ ?_ | refine h1 _ _ ?_
    all_goals refine AW.reg0 ?_
    all_goals iterate 3 (refine S.g rfl rfl fun K' k' => ?_; simp only [zz, reduceIte, Nat.reduceEqDiff, Nat.reduceAdd, e4, hw]; refine k' _ _ ?_; clear k' K')
    all_goals refine S.nil ?_
    all_goals simp only [ze, reduceIte, Nat.reduceEqDiff, Nat.reduceLT, Nat.reduceLeDiff, Nat.reduceAdd, reduceCtorEq, Nat.reduceMul, e4, hw]
    refine ⟨m - 1, by omega, j + 1, by omega, e0, rfl, ?_⟩
    rw [htk]
    simp only [maxL, List.foldl_append, List.foldl_cons, List.foldl_nil]
    first | done | rfl | (congr 1)
  · refine AW.exit ?_
    all_goals simp only [zs, reduceIte, Nat.reduceEqDiff, Nat.reduceLT, Nat.reduceLeDiff, Nat.reduceAdd, reduceCtorEq, Nat.reduceMul]
    -- EXIT 0
    all_goals first | refine h9 _ _ ?_ | refine h8 _ _ ?_ | refine h7 _ _ ?_ | refine h6 _ _ ?_ | refine h5 _ _ ?_ | refine h4 _ _ ?_ | refine h3 _ _ ?_ | refine h2 _ _ ?_ | refine h1 _ _ ?_
    have hj : r.length ≤ j := by have := of_decide_eq_false hc; omega
    rw [List.take_of_length_le hj] at e3
    refine AW.seq_k fun K10 h10 => ?_
    all_goals refine AW.reg0 ?_
    all_goals iterate 2 (refine S.g rfl rfl fun K' k' => ?_; simp only [zz, reduceIte, Nat.reduceEqDiff, Nat.reduceAdd, e3]; refine k' _ _ ?_; clear k' K')
    all_goals refine S.nil ?_
    all_goals simp only [ze, reduceIte, Nat.reduceEqDiff, Nat.reduceLT, Nat.reduceLeDiff, Nat.reduceAdd, reduceCtorEq, Nat.reduceMul, e3]
    all_goals first | refine h10 _ _ ?_ | refine h9 _ _ ?_ | refine h8 _ _ ?_ | refine h7 _ _ ?_ | refine h6 _ _ ?_ | refine h5 _ _ ?_ | refine h4 _ _ ?_ | refine h3 _ _ ?_ | refine h2 _ _ ?_ | refine h1 _ _ ?_
    refine AW.ret ?_
    all_goals simp only [zs, reduceIte, Nat.reduceEqDiff, Nat.reduceLT, Nat.reduceLeDiff, Nat.reduceAdd, reduceCtorEq, Nat.reduceMul]
end Go.Abs.M
namespace Go.Abs.M
open Go Go.Abs Go.Proofs
set_option maxRecDepth 20000
set_option linter.unusedSimpArgs false
set_option linter.unusedVariables false

def beginOf (l : List Bd) : Int := match l.map (·.ev.time) with
  | [] => 0
  | a :: r => minL a r
theorem begin_spec (l : List Bd) (hn : l.length * 80 ≤ 140737488355328) : PCalls Try.prog 22 [.agg [.sl (l.map encBd)]] (fun v => v = .c (.int .i64 (beginOf l))) := by
  refine PCalls.intro Try.call22 Try.func22 rfl Try.ntmps22 Try.results22 (by simp) ?_
  refine AW.seq_k fun K1 h1 => ?_
  all_goals refine AW.reg0 ?_
  all_goals iterate 2 (refine S.g rfl rfl fun K' k' => ?_; simp only [zz, reduceIte, Nat.reduceEqDiff, Nat.reduceLT, Nat.reduceLeDiff, Nat.reduceAdd, reduceCtorEq, Nat.reduceMul, ok24, sz24, ag24]; refine k' _ _ ?_; clear k' K')
  all_goals refine S.nil ?_
  all_goals simp only [ze, reduceIte, Nat.reduceEqDiff, Nat.reduceLT, Nat.reduceLeDiff, Nat.reduceAdd, reduceCtorEq, Nat.reduceMul]
  all_goals first | refine h1 _ _ ?_
  refine AW.seq_k fun K2 h2 => ?_
  refine AW.seq_k fun K3 h3 => ?_
  all_goals refine AW.reg0 ?_
  all_goals iterate 4 (refine S.g rfl rfl fun K' k' => ?_; simp only [zz, reduceIte, Nat.reduceEqDiff, Nat.reduceLT, Nat.reduceLeDiff, Nat.reduceAdd, reduceCtorEq, Nat.reduceMul, of24_0, ok22, sz22, ag22, sl22, el22, ok42, sz42, ag42]; refine k' _ _ ?_; clear k' K')
  all_goals refine S.nil ?_
  all_goals simp only [ze, reduceIte, Nat.reduceEqDiff, Nat.reduceLT, Nat.reduceLeDiff, Nat.reduceAdd, reduceCtorEq, Nat.reduceMul]
  all_goals first | refine h3 _ _ ?_ | refine h2 _ _ ?_ | refine h1 _ _ ?_
  refine AW.cond (b := ((l.length : Int) == 0)) (by simp [ev]) (fun hc => ?_) (fun hc => ?_)
  · refine AW.seq_k fun K4 h4 => ?_
    all_goals refine AW.reg0 ?_
    all_goals (refine S.g rfl rfl fun K' k' => ?_; simp only [zz, reduceIte, Nat.reduceEqDiff, Nat.reduceAdd]; refine k' _ _ ?_; clear k' K')
    all_goals refine S.nil ?_
    all_goals simp only [ze, reduceIte, Nat.reduceEqDiff, Nat.reduceLT, Nat.reduceLeDiff, Nat.reduceAdd, reduceCtorEq, Nat.reduceMul]
    all_goals first | refine h4 _ _ ?_ | refine h3 _ _ ?_ | refine h2 _ _ ?_ | refine h1 _ _ ?_
    refine AW.ret ?_
    all_goals simp only [zs, reduceIte, Nat.reduceEqDiff, Nat.reduceLT, Nat.reduceLeDiff, Nat.reduceAdd, reduceCtorEq, Nat.reduceMul]
    have h0 : l = [] := List.eq_nil_of_length_eq_zero (by have h := beq_iff_eq.mp hc; omega)
    simp [h0, beginOf]
  · refine AW.skip ?_
    all_goals simp only [zs, reduceIte, Nat.reduceEqDiff, Nat.reduceLT, Nat.reduceLeDiff, Nat.reduceAdd, reduceCtorEq, Nat.reduceMul]
    all_goals first | refine h4 _ _ ?_ | refine h3 _ _ ?_ | refine h2 _ _ ?_ | refine h1 _ _ ?_
    cases l with
    | nil => simp at hc
    | cons b r =>
    have hr : r.length + 1 = (b :: r).length := rfl
    have hn2 : (r.length + 1) * 80 ≤ 140737488355328 := hn
    refine AW.seq_k fun K5 h5 => ?_
    all_goals refine AW.reg0 ?_
    all_goals (refine S.g rfl rfl fun K' k' => ?_; simp only [zz, reduceIte, Nat.reduceEqDiff, Nat.reduceLT, Nat.reduceLeDiff, Nat.reduceAdd, reduceCtorEq, Nat.reduceMul, ok24, sz24, ag24]; refine k' _ _ ?_; clear k' K')
    all_goals (refine S.g rfl rfl fun K' k' => ?_; simp only [zz, reduceIte, Nat.reduceEqDiff, Nat.reduceLT, Nat.reduceLeDiff, Nat.reduceAdd, reduceCtorEq, Nat.reduceMul]; refine PCalls.eqto (times_spec (b :: r) hn) ?_ <;> (refine k' _ _ ?_; clear k' K'))
    all_goals (refine S.g rfl rfl fun K' k' => ?_; simp only [zz, reduceIte, Nat.reduceEqDiff, Nat.reduceLT, Nat.reduceLeDiff, Nat.reduceAdd, reduceCtorEq, Nat.reduceMul]; refine PCalls.eqto (min_spec b.ev.time (r.map (fun x : Bd => x.ev.time)) (by rw [List.length_map]; omega)) ?_ <;> (refine k' _ _ ?_; clear k' K'))
    all_goals (refine S.g rfl rfl fun K' k' => ?_; simp only [zz, reduceIte, Nat.reduceEqDiff, Nat.reduceAdd]; refine k' _ _ ?_; clear k' K')
    all_goals refine S.nil ?_
    all_goals simp only [ze, reduceIte, Nat.reduceEqDiff, Nat.reduceLT, Nat.reduceLeDiff, Nat.reduceAdd, reduceCtorEq, Nat.reduceMul]
    all_goals first | refine h5 _ _ ?_ | refine h4 _ _ ?_ | refine h3 _ _ ?_ | refine h2 _ _ ?_ | refine h1 _ _ ?_
    refine AW.ret ?_
    all_goals simp only [zs, reduceIte, Nat.reduceEqDiff, Nat.reduceLT, Nat.reduceLeDiff, Nat.reduceAdd, reduceCtorEq, Nat.reduceMul]
    rfl

def endOf (l : List Bd) : Int := match l.map (·.ev.time) with
  | [] => 0
  | a :: r => maxL a r
theorem end_spec (l : List Bd) (hn : l.length * 80 ≤ 140737488355328) : PCalls Try.prog 24 [.agg [.sl (l.map encBd)]] (fun v => v = .c (.int .i64 (endOf l))) := by
  refine PCalls.intro Try.call24 Try.func24 rfl Try.ntmps24 Try.results24 (by simp) ?_
  refine AW.seq_k fun K1 h1 => ?_
  all_goals refine AW.reg0 ?_
  all_goals iterate 2 (refine S.g rfl rfl fun K' k' => ?_; simp only [zz, reduceIte, Nat.reduceEqDiff, Nat.reduceLT, Nat.reduceLeDiff, Nat.reduceAdd, reduceCtorEq, Nat.reduceMul, ok24, sz24, ag24]; refine k' _ _ ?_; clear k' K')
  all_goals refine S.nil ?_
  all_goals simp only [ze, reduceIte, Nat.reduceEqDiff, Nat.reduceLT, Nat.reduceLeDiff, Nat.reduceAdd, reduceCtorEq, Nat.reduceMul]
  all_goals first | refine h1 _ _ ?_
  refine AW.seq_k fun K2 h2 => ?_
  refine AW.seq_k fun K3 h3 => ?_
  all_goals refine AW.reg0 ?_
  all_goals iterate 4 (refine S.g rfl rfl fun K' k' => ?_; simp only [zz, reduceIte, Nat.reduceEqDiff, Nat.reduceLT, Nat.reduceLeDiff, Nat.reduceAdd, reduceCtorEq, Nat.reduceMul, of24_0, ok22, sz22, ag22, sl22, el22, ok42, sz42, ag42]; refine k' _ _ ?_; clear k' K')
  all_goals refine S.nil ?_
  all_goals simp only [ze, reduceIte, Nat.reduceEqDiff, Nat.reduceLT, Nat.reduceLeDiff, Nat.reduceAdd, reduceCtorEq, Nat.reduceMul]
  all_goals first | refine h3 _ _ ?_ | refine h2 _ _ ?_ | refine h1 _ _ ?_
  refine AW.cond (b := ((l.length : Int) == 0)) (by simp [ev]) (fun hc => ?_) (fun hc => ?_)
  · refine AW.seq_k fun K4 h4 => ?_
    all_goals refine AW.reg0 ?_
    all_goals (refine S.g rfl rfl fun K' k' => ?_; simp only [zz, reduceIte, Nat.reduceEqDiff, Nat.reduceAdd]; refine k' _ _ ?_; clear k' K')
    all_goals refine S.nil ?_
    all_goals simp only [ze, reduceIte, Nat.reduceEqDiff, Nat.reduceLT, Nat.reduceLeDiff, Nat.reduceAdd, reduceCtorEq, Nat.reduceMul]
    all_goals first | refine h4 _ _ ?_ | refine h3 _ _ ?_ | refine h2 _ _ ?_ | refine h1 _ _ ?_
    refine AW.ret ?_
    all_goals simp only [zs, reduceIte, Nat.reduceEqDiff, Nat.reduceLT, Nat.reduceLeDiff, Nat.reduceAdd, reduceCtorEq, Nat.reduceMul]
    have h0 : l = [] := List.eq_nil_of_length_eq_zero (by have h := beq_iff_eq.mp hc; omega)
    simp [h0, endOf]
  · refine AW.skip ?_
    all_goals simp only [zs, reduceIte, Nat.reduceEqDiff, Nat.reduceLT, Nat.reduceLeDiff, Nat.reduceAdd, reduceCtorEq, Nat.reduceMul]
    all_goals first | refine h4 _ _ ?_ | refine h3 _ _ ?_ | refine h2 _ _ ?_ | refine h1 _ _ ?_
    cases l with
    | nil => simp at hc
    | cons b r =>
    have hr : r.length + 1 = (b :: r).length := rfl
    have hn2 : (r.length + 1) * 80 ≤ 140737488355328 := hn
    refine AW.seq_k fun K5 h5 => ?_
    all_goals refine AW.reg0 ?_
    all_goals (refine S.g rfl rfl fun K' k' => ?_; simp only [zz, reduceIte, Nat.reduceEqDiff, Nat.reduceLT, Nat.reduceLeDiff, Nat.reduceAdd, reduceCtorEq, Nat.reduceMul, ok24, sz24, ag24]; refine k' _ _ ?_; clear k' K')
    all_goals (refine S.g rfl rfl fun K' k' => ?_; simp only [zz, reduceIte, Nat.reduceEqDiff, Nat.reduceLT, Nat.reduceLeDiff, Nat.reduceAdd, reduceCtorEq, Nat.reduceMul]; refine PCalls.eqto (times_spec (b :: r) hn) ?_ <;> (refine k' _ _ ?_; clear k' K'))
    all_goals (refine S.g rfl rfl fun K' k' => ?_; simp only [zz, reduceIte, Nat.reduceEqDiff, Nat.reduceLT, Nat.reduceLeDiff, Nat.reduceAdd, reduceCtorEq, Nat.reduceMul]; refine PCalls.eqto (max_spec b.ev.time (r.map (fun x : Bd => x.ev.time)) (by rw [List.length_map]; omega)) ?_ <;> (refine k' _ _ ?_; clear k' K'))
    all_goals (refine S.g rfl rfl fun K' k' => ?_; simp only [zz, reduceIte, Nat.reduceEqDiff, Nat.reduceAdd]; refine k' _ _ ?_; clear k' K')
    all_goals refine S.nil ?_
    all_goals simp only [ze, reduceIte, Nat.reduceEqDiff, Nat.reduceLT, Nat.reduceLeDiff, Nat.reduceAdd, reduceCtorEq, Nat.reduceMul]
    all_goals first | refine h5 _ _ ?_ | refine h4 _ _ ?_ | refine h3 _ _ ?_ | refine h2 _ _ ?_ | refine h1 _ _ ?_
    refine AW.ret ?_
    all_goals simp only [zs, reduceIte, Nat.reduceEqDiff, Nat.reduceLT, Nat.reduceLeDiff, Nat.reduceAdd, reduceCtorEq, Nat.reduceMul]
    rfl
end Go.Abs.M
