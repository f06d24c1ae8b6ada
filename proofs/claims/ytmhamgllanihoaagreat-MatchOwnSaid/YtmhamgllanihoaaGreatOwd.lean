import Derived.Test.YtmhamgllanihoaaGreatOwc
namespace Go.Abs.M
open Go Go.Abs Go.Proofs
set_option maxRecDepth 20000
set_option linter.unusedSimpArgs false
set_option linter.unusedVariables false
def idOf (b : Bd) : Int × Int := (b.ev.src, b.ev.seq)
theorem rcheck_part (l : List Bd) (hl : okP l) : PCalls Tryz.prog 53 [.agg [.sl (l.map encBd)]] (fun r => r = .c (.int .i64 (partErr l))) := by
 refine PCalls.intro Tryz.call53 Tryz.func53 rfl Tryz.ntmps53 Tryz.results53 (by simp) ?_
 refine AW.seq_k fun K1 h1 => ?_
 all_goals refine AW.reg0 ?_
 all_goals iterate 2 (refine S.g rfl rfl fun Y Z => ?_; simp only [zz, reduceIte, Nat.reduceEqDiff, Nat.reduceLT, Nat.reduceLeDiff, Nat.reduceAdd, reduceCtorEq, Nat.reduceMul, ok24, sz24, ag24]; refine Z _ _ ?_; clear Z Y)
 all_goals refine S.nil ?_
 all_goals simp only [ze, reduceIte, Nat.reduceEqDiff, Nat.reduceLT, Nat.reduceLeDiff, Nat.reduceAdd, reduceCtorEq, Nat.reduceMul]
 all_goals apply_assumption
 refine AW.seq_k fun K2 h2 => ?_
 all_goals refine AW.reg0 ?_
 all_goals iterate 3 (refine S.g rfl rfl fun Y Z => ?_; simp only [zz, reduceIte, Nat.reduceEqDiff, Nat.reduceLT, Nat.reduceLeDiff, Nat.reduceAdd, reduceCtorEq, Nat.reduceMul, of24_0, ok22, sz22, ag22]; refine Z _ _ ?_; clear Z Y)
 all_goals refine S.nil ?_
 all_goals simp only [ze, reduceIte, Nat.reduceEqDiff, Nat.reduceLT, Nat.reduceLeDiff, Nat.reduceAdd, reduceCtorEq, Nat.reduceMul]
 all_goals apply_assumption
 refine AW.seq_k fun K3 h3 => ?_
 refine AW.seq_k fun K4 h4 => ?_
 all_goals refine AW.reg0 ?_
 all_goals iterate 3 (refine S.g rfl rfl fun Y Z => ?_; simp only [zz, reduceIte, Nat.reduceEqDiff, Nat.reduceLT, Nat.reduceLeDiff, Nat.reduceAdd, reduceCtorEq, Nat.reduceMul, sl22, el22, ok38, sz38, ag38]; refine Z _ _ ?_; clear Z Y)
 all_goals refine S.nil ?_
 all_goals simp only [ze, reduceIte, Nat.reduceEqDiff, Nat.reduceLT, Nat.reduceLeDiff, Nat.reduceAdd, reduceCtorEq, Nat.reduceMul]
 all_goals apply_assumption
 refine AW.cond (b := decide ((l.length : Int) > 12)) (by simp [ev]) (fun hc => ?_) (fun hc => ?_)
 ·refine AW.seq_k fun K5 h5 => ?_
  all_goals refine AW.reg0 ?_
  all_goals (refine S.g rfl rfl fun Y Z => ?_; simp only [zz, reduceIte, Nat.reduceEqDiff, Nat.reduceAdd]; refine Z _ _ ?_; clear Z Y)
  all_goals refine S.nil ?_
  all_goals simp only [ze, reduceIte, Nat.reduceEqDiff, Nat.reduceLT, Nat.reduceLeDiff, Nat.reduceAdd, reduceCtorEq, Nat.reduceMul]
  all_goals apply_assumption
  refine AW.ret ?_
  all_goals simp only [zs, reduceIte, Nat.reduceEqDiff, Nat.reduceLT, Nat.reduceLeDiff, Nat.reduceAdd, reduceCtorEq, Nat.reduceMul]
  have : 12 < l.length := by have := of_decide_eq_true hc; omega
  simp [partErr, this]
 ·refine AW.skip ?_
  all_goals simp only [zs, reduceIte, Nat.reduceEqDiff, Nat.reduceLT, Nat.reduceLeDiff, Nat.reduceAdd, reduceCtorEq, Nat.reduceMul]
  all_goals apply_assumption
  have hlen : l.length ≤ 12 := by have := of_decide_eq_false hc; omega
  refine AW.seq_k fun K6 h6 => ?_
  refine AW.seq_k fun K7 h7 => ?_
  all_goals refine AW.reg0 ?_
  all_goals (refine S.g rfl rfl fun Y Z => ?_; simp only [zz, reduceIte, Nat.reduceEqDiff, Nat.reduceAdd]; refine Z _ _ ?_; clear Z Y)
  all_goals refine S.nil ?_
  all_goals simp only [ze, reduceIte, Nat.reduceEqDiff, Nat.reduceLT, Nat.reduceLeDiff, Nat.reduceAdd, reduceCtorEq, Nat.reduceMul]
  all_goals apply_assumption
  refine AW.block ?_   -- 0
  refine AW.loop (fun m s σ => σ = Hp.empty ∧ ∃ i : Nat, m + i = l.length ∧ s.t 3 = .sl (l.map encBd) ∧ s.t 4 = .c (.int .i64 i) ∧
   partFrom l.length none [] l = partFrom l.length (if i = 0 then none else (l[i-1]?).map (·.var)) ((l.take i).map idOf) (l.drop i)) l.length ?_ ?_
  ·refine ⟨rfl, 0, by simp, ?_⟩
   all_goals simp only [zs, reduceIte, Nat.reduceEqDiff, Nat.reduceLT, Nat.reduceLeDiff, Nat.reduceAdd, reduceCtorEq, Nat.reduceMul]
   simp
  rintro m s σ ⟨rfl, i, hm, e3, e4, hp⟩
  refine AW.seq_k fun K8 h8 => ?_
  refine AW.seq_k fun K9 h9 => ?_
  all_goals refine AW.reg0 ?_
  all_goals iterate 4 (refine S.g rfl rfl fun Y Z => ?_; simp only [zz, reduceIte, Nat.reduceEqDiff, Nat.reduceLT, Nat.reduceLeDiff, Nat.reduceAdd, reduceCtorEq, Nat.reduceMul, sl22, el22, ok38, sz38, ag38, e3, e4]; refine Z _ _ ?_; clear Z Y)
  all_goals refine S.nil ?_
  all_goals simp only [ze, reduceIte, Nat.reduceEqDiff, Nat.reduceLT, Nat.reduceLeDiff, Nat.reduceAdd, reduceCtorEq, Nat.reduceMul, e3, e4]
  all_goals apply_assumption
  refine AW.cond (b := decide (i < l.length)) (by simp [ev]) (fun hc => ?_) (fun hc => ?_)
  ·refine AW.skip ?_
   all_goals simp only [zs, reduceIte, Nat.reduceEqDiff, Nat.reduceLT, Nat.reduceLeDiff, Nat.reduceAdd, reduceCtorEq, Nat.reduceMul]
   all_goals apply_assumption
   have hi : i < l.length := by simpa using hc
   have hg := getD_map (f := encBd) hi
   have hd : l.drop i = l[i] :: l.drop (i + 1) := List.drop_eq_getElem_cons hi
   have hmem := hl _ (List.getElem_mem hi)
   have htk : l.take (i + 1) = l.take i ++ [l[i]] := by rw [List.take_append_getElem]
   generalize ha : l[i] = a at hg hd hmem htk
   have hn1 := hmem.var
   have hn2 := hmem.ev
   have h8 : ¬ 12 < l.length := by omega
   refine AW.seq_k fun K10 h10 => ?_
   refine AW.block ?_   -- 1
   refine AW.seq_j (fun s' σ' => σ' = Hp.empty ∧ s'.t 3 = .sl (l.map encBd) ∧ s'.t 4 = .c (.int .i64 i) ∧ named l.length a = true ∧ (if i = 0 then none else (l[i-1]?).map (·.var)).any (leS a.var ·) = false) ?_ ?_
   ·refine AW.seq_j (fun s' σ' => σ' = Hp.empty ∧ s'.t 3 = .sl (l.map encBd) ∧ s'.t 4 = .c (.int .i64 i) ∧
     s'.t 55 = .c (.bool (!named l.length a || (if i = 0 then none else (l[i-1]?).map (·.var)).any (leS a.var ·)))) ?_ ?_
    ·clear hp hd hl hmem htk h8
     by_cases hi0 : i = 0
     ·have hpb : (if i = 0 then none else (l[i-1]?).map (·.var)).any (leS a.var ·) = false := by simp [hi0]
      rw [hpb]
      all_goals refine AW.draw (T := { sd := fun _ => false }) (fun _ _ h => by cases h) mixedO [(0, 0), (1, 0), (2, 0), (3, 0), (4, 1), (5, 2), (6, 0), (7, 0), (8, 0), (9, 0), (10, 0), (11, 0), (12, 1), (13, 0), (14, 0), (15, 0), (16, 0), (17, 0), (18, 0), (19, 0), (20, 0), (21, 0), (22, 0), (23, 0), (24, 0), (25, 0), (26, 0), (27, 0), (29, 0), (30, 0), (31, 0), (32, 0), (33, 0), (28, 1), (34, 1), (35, 0), (36, 0), (37, 0)] rfl (by kernel_rfl) (by kernel_rfl) ?_
      all_goals iterate 4 (refine D.g rfl trivial rfl rfl fun Y Z => ?_; simp only [zz, reduceIte, Nat.reduceEqDiff, Nat.reduceLT, Nat.reduceLeDiff, Nat.reduceAdd, reduceCtorEq, Nat.reduceMul, sl22, el22, ok38, sz38, ag38, of38_0, e3, e4, hi, hg, encBd]; refine Z _ _ ?_; clear Z Y)
      all_goals (refine D.g rfl (by first | rfl | (simp only [stC, ze, reduceIte, Nat.reduceEqDiff, e3, e4, hi, hg, encBd]; done) | (simp only [stC, ze, reduceIte, Nat.reduceEqDiff, e3, e4, hi, hg, encBd]; rfl)) rfl rfl fun Y Z => ?_; simp only [zz, reduceIte, Nat.reduceEqDiff, Nat.reduceLT, Nat.reduceLeDiff, Nat.reduceAdd, reduceCtorEq, Nat.reduceMul, ok9, sz9, ag9, e3, e4, hi, hg, encBd]; refine Z _ _ ?_; clear Z Y)
      all_goals (refine D.g rfl trivial rfl rfl fun Y Z => ?_; simp only [zz, reduceIte, Nat.reduceEqDiff, Nat.reduceLT, Nat.reduceLeDiff, Nat.reduceAdd, reduceCtorEq, Nat.reduceMul, e3, e4, hi, hg, encBd]; refine PCalls.eqto (rname_spec _ (by assumption)) ?_; refine S.bool fun b a23 => ?_; cases b <;> (try (exfalso; first | exact Bool.noConfusion a23 | (have h := of_decide_eq_true a23; omega) | (have h := of_decide_eq_false a23; omega))) <;> (refine Z _ _ ?_; clear Z Y))
      all_goals iterate 2 (refine D.g rfl trivial rfl rfl fun Y Z => ?_; simp only [zz, reduceIte, Nat.reduceEqDiff, Nat.reduceAdd, e3, e4, hi, hg, encBd]; refine Z _ _ ?_; clear Z Y)
      all_goals iterate 4 (first | (refine D.y rfl trivial rfl rfl rfl rfl fun Y Z => ?_; simp only [zz, reduceIte, Nat.reduceEqDiff, Nat.reduceLT, Nat.reduceLeDiff, Nat.reduceAdd, reduceCtorEq, Nat.reduceMul, sl22, el22, ok38, sz38, ag38, of38_0, e3, e4, hi, hg, encBd]; refine Z _ _ ?_; clear Z Y) | ((first | refine D.x rfl (fun h => by cases h) rfl rfl rfl rfl fun Y Z => ?_ | refine D.u rfl (fun h => by cases h) rfl rfl rfl rfl fun Y Z => ?_); simp only [ze, reduceIte, Nat.reduceEqDiff]; refine Z _ _ ?_; clear Z Y))
      all_goals (first | (refine D.y rfl (by first | rfl | (simp only [stC, ze, reduceIte, Nat.reduceEqDiff, e3, e4, hi, hg, encBd]; done) | (simp only [stC, ze, reduceIte, Nat.reduceEqDiff, e3, e4, hi, hg, encBd]; rfl)) rfl rfl rfl rfl fun Y Z => ?_; simp only [zz, reduceIte, Nat.reduceEqDiff, Nat.reduceLT, Nat.reduceLeDiff, Nat.reduceAdd, reduceCtorEq, Nat.reduceMul, ok9, sz9, ag9, e3, e4, hi, hg, encBd]; refine Z _ _ ?_; clear Z Y) | ((first | refine D.x rfl (fun _ => rfl) rfl rfl rfl rfl fun Y Z => ?_ | refine D.u rfl (fun _ => rfl) rfl rfl rfl rfl fun Y Z => ?_); simp only [ze, reduceIte, Nat.reduceEqDiff]; refine Z _ _ ?_; clear Z Y))
      all_goals (first | (refine D.y rfl trivial rfl rfl rfl rfl fun Y Z => ?_; simp only [zz, reduceIte, Nat.reduceEqDiff, Nat.reduceLT, Nat.reduceLeDiff, Nat.reduceAdd, reduceCtorEq, Nat.reduceMul, e3, e4, hi, hg, encBd]; refine S.bool fun b a31 => ?_; cases b <;> (try (exfalso; first | exact Bool.noConfusion a31 | (have h := of_decide_eq_true a31; omega) | (have h := of_decide_eq_false a31; omega))) <;> (refine Z _ _ ?_; clear Z Y)) | ((first | refine D.x rfl (fun h => by cases h) rfl rfl rfl rfl fun Y Z => ?_ | refine D.u rfl (fun h => by cases h) rfl rfl rfl rfl fun Y Z => ?_); simp only [ze, reduceIte, Nat.reduceEqDiff]; refine Z _ _ ?_; clear Z Y))
      all_goals iterate 3 (first | (refine D.y rfl trivial rfl rfl rfl rfl fun Y Z => ?_; simp only [zz, reduceIte, Nat.reduceEqDiff, Nat.reduceLT, Nat.reduceLeDiff, Nat.reduceAdd, reduceCtorEq, Nat.reduceMul, sl22, el22, ok38, sz38, ag38, e3, e4, hi, hg, encBd]; refine Z _ _ ?_; clear Z Y) | ((first | refine D.x rfl (fun h => by cases h) rfl rfl rfl rfl fun Y Z => ?_ | refine D.u rfl (fun h => by cases h) rfl rfl rfl rfl fun Y Z => ?_); simp only [ze, reduceIte, Nat.reduceEqDiff]; refine Z _ _ ?_; clear Z Y))
      all_goals (first | (refine D.y rfl trivial rfl rfl rfl rfl fun Y Z => ?_; simp only [zz, reduceIte, Nat.reduceEqDiff, Nat.reduceLT, Nat.reduceLeDiff, Nat.reduceAdd, reduceCtorEq, Nat.reduceMul, e3, e4, hi, hg, encBd]; refine S.bool fun b a35 => ?_; cases b <;> (try (exfalso; first | exact Bool.noConfusion a35 | (have h := of_decide_eq_true a35; omega) | (have h := of_decide_eq_false a35; omega))) <;> (refine Z _ _ ?_; clear Z Y)) | ((first | refine D.x rfl (fun h => by cases h) rfl rfl rfl rfl fun Y Z => ?_ | refine D.u rfl (fun h => by cases h) rfl rfl rfl rfl fun Y Z => ?_); simp only [ze, reduceIte, Nat.reduceEqDiff]; refine Z _ _ ?_; clear Z Y))
      all_goals (first | (refine D.y rfl trivial rfl rfl rfl rfl fun Y Z => ?_; simp only [zz, reduceIte, Nat.reduceEqDiff, Nat.reduceAdd, e3, e4, hi, hg, encBd]; refine Z _ _ ?_; clear Z Y) | ((first | refine D.x rfl (fun h => by cases h) rfl rfl rfl rfl fun Y Z => ?_ | refine D.u rfl (fun h => by cases h) rfl rfl rfl rfl fun Y Z => ?_); simp only [ze, reduceIte, Nat.reduceEqDiff]; refine Z _ _ ?_; clear Z Y))
      all_goals iterate 2 (refine D.g rfl trivial rfl rfl fun Y Z => ?_; simp only [zz, reduceIte, Nat.reduceEqDiff, Nat.reduceAdd, e3, e4, hi, hg, encBd]; refine Z _ _ ?_; clear Z Y)
      all_goals (first | (refine D.y rfl trivial rfl rfl rfl rfl fun Y Z => ?_; simp only [zz, reduceIte, Nat.reduceEqDiff, Nat.reduceAdd, e3, e4, hi, hg, encBd]; refine Z _ _ ?_; clear Z Y) | ((first | refine D.x rfl (fun h => by cases h) rfl rfl rfl rfl fun Y Z => ?_ | refine D.u rfl (fun h => by cases h) rfl rfl rfl rfl fun Y Z => ?_); simp only [ze, reduceIte, Nat.reduceEqDiff]; refine Z _ _ ?_; clear Z Y))
      all_goals (first | (refine D.y rfl trivial rfl rfl rfl rfl fun Y Z => ?_; simp only [zz, reduceIte, Nat.reduceEqDiff, Nat.reduceLT, Nat.reduceLeDiff, Nat.reduceAdd, reduceCtorEq, Nat.reduceMul, e3, e4, hi, hg, encBd]; refine S.bool fun b a40 => ?_; cases b <;> (try (exfalso; first | exact Bool.noConfusion a40 | (have h := of_decide_eq_true a40; omega) | (have h := of_decide_eq_false a40; omega))) <;> (refine Z _ _ ?_; clear Z Y)) | ((first | refine D.x rfl (fun h => by cases h) rfl rfl rfl rfl fun Y Z => ?_ | refine D.u rfl (fun h => by cases h) rfl rfl rfl rfl fun Y Z => ?_); simp only [ze, reduceIte, Nat.reduceEqDiff]; refine Z _ _ ?_; clear Z Y))
      all_goals iterate 10 (first | (refine D.y rfl trivial rfl rfl rfl rfl fun Y Z => ?_; simp only [zz, reduceIte, Nat.reduceEqDiff, Nat.reduceLT, Nat.reduceLeDiff, Nat.reduceAdd, reduceCtorEq, Nat.reduceMul, sl22, el22, ok38, sz38, ag38, of38_0, e3, e4, hi, hg, encBd]; refine Z _ _ ?_; clear Z Y) | ((first | refine D.x rfl (fun h => by cases h) rfl rfl rfl rfl fun Y Z => ?_ | refine D.u rfl (fun h => by cases h) rfl rfl rfl rfl fun Y Z => ?_); simp only [ze, reduceIte, Nat.reduceEqDiff]; refine Z _ _ ?_; clear Z Y))
      all_goals iterate 2 (first | (refine D.y rfl (by first | rfl | (simp only [stC, ze, reduceIte, Nat.reduceEqDiff, e3, e4, hi, hg, encBd]; done) | (simp only [stC, ze, reduceIte, Nat.reduceEqDiff, e3, e4, hi, hg, encBd]; rfl)) rfl rfl rfl rfl fun Y Z => ?_; simp only [zz, reduceIte, Nat.reduceEqDiff, Nat.reduceLT, Nat.reduceLeDiff, Nat.reduceAdd, reduceCtorEq, Nat.reduceMul, ok9, sz9, ag9, e3, e4, hi, hg, encBd]; refine Z _ _ ?_; clear Z Y) | ((first | refine D.x rfl (fun _ => rfl) rfl rfl rfl rfl fun Y Z => ?_ | refine D.u rfl (fun _ => rfl) rfl rfl rfl rfl fun Y Z => ?_); simp only [ze, reduceIte, Nat.reduceEqDiff]; refine Z _ _ ?_; clear Z Y))
      all_goals iterate 2 (first | (refine D.y rfl trivial rfl rfl rfl rfl fun Y Z => ?_; simp only [zz, reduceIte, Nat.reduceEqDiff, Nat.reduceAdd, e3, e4, hi, hg, encBd]; refine Z _ _ ?_; clear Z Y) | ((first | refine D.x rfl (fun h => by cases h) rfl rfl rfl rfl fun Y Z => ?_ | refine D.u rfl (fun h => by cases h) rfl rfl rfl rfl fun Y Z => ?_); simp only [ze, reduceIte, Nat.reduceEqDiff]; refine Z _ _ ?_; clear Z Y))
      all_goals (refine D.g rfl trivial rfl rfl fun Y Z => ?_; simp only [zz, reduceIte, Nat.reduceEqDiff, Nat.reduceAdd, e3, e4, hi, hg, encBd]; refine Z _ _ ?_; clear Z Y)
      all_goals refine D.nil ?_
      all_goals simp only [ze, reduceIte, Nat.reduceEqDiff, Nat.reduceLT, Nat.reduceLeDiff, Nat.reduceAdd, reduceCtorEq, Nat.reduceMul, e3, e4, hi, hg, encBd]
      all_goals clear hpb hg hn2 hn1 hc
      all_goals (try simp only [beq_eq_false_iff_ne, decide_eq_true_eq, decide_eq_false_iff_not, beq_iff_eq, ne_eq, Bool.not_eq_true', Bool.not_eq_false', bne_iff_ne, bne_eq_false_iff_eq] at *)
      all_goals (try simp only [V.c.injEq, Value.bool.injEq, Value.int.injEq, true_and, named, a23])
      all_goals first | done | rfl | omega | ((rw [Bool.eq_iff_iff]; simp only [beq_eq_false_iff_ne, decide_eq_true_eq, decide_eq_false_iff_not, beq_iff_eq, ne_eq, Bool.not_eq_true', Bool.not_eq_false', bne_iff_ne, bne_eq_false_iff_eq, Bool.false_or, Bool.true_or, Bool.or_false, Bool.or_true, Bool.false_and, Bool.and_false, Bool.true_and, Bool.and_true, Bool.not_true, Bool.not_false, Bool.or_eq_false_iff, Bool.and_eq_false_iff, Bool.or_eq_true, Bool.and_eq_true, Bool.false_eq_true, Bool.true_eq_false, true_iff, iff_true, false_iff, iff_false]) <;> omega)
     ·have hi1 : i - 1 < l.length := by omega
      have hpb : (if i = 0 then none else (l[i-1]?).map (·.var)).any (leS a.var ·) = leS a.var l[i-1].var := by simp [hi0, hi1]
      obtain ⟨q, hq⟩ : ∃ q, leS a.var l[i-1].var = q := ⟨_, rfl⟩
      have hle : (Op.bytesLess a.var.toList l[i-1].var.toList || a.var.toList == l[i-1].var.toList) = q := hq
      rw [hpb, hq]
      have hg1 := getD_map (f := encBd) hi1
      have hw : IntKind.i64.wrap ((i : Int) - 1) = ((i - 1 : Nat) : Int) := by rw [wrap_small _ (by omega) (by omega)]; omega
      all_goals refine AW.draw (T := { sd := fun _ => false }) (fun _ _ h => by cases h) mixedO [(0, 0), (1, 0), (2, 0), (3, 0), (4, 1), (5, 2), (6, 0), (7, 0), (8, 0), (9, 0), (10, 0), (11, 0), (12, 1), (13, 0), (14, 0), (15, 0), (16, 0), (17, 0), (18, 0), (19, 0), (20, 0), (21, 0), (22, 0), (23, 0), (24, 0), (25, 0), (26, 0), (27, 0), (29, 0), (30, 0), (31, 0), (32, 0), (33, 0), (28, 1), (34, 1), (35, 0), (36, 0), (37, 0)] rfl (by kernel_rfl) (by kernel_rfl) ?_
      all_goals iterate 4 (refine D.g rfl trivial rfl rfl fun Y Z => ?_; simp only [zz, reduceIte, Nat.reduceEqDiff, Nat.reduceLT, Nat.reduceLeDiff, Nat.reduceAdd, reduceCtorEq, Nat.reduceMul, sl22, el22, ok38, sz38, ag38, of38_0, e3, e4, hi, hg, encBd, hi1, hg1, hw, hle]; refine Z _ _ ?_; clear Z Y)
      all_goals (refine D.g rfl (by first | rfl | (simp only [stC, ze, reduceIte, Nat.reduceEqDiff, e3, e4, hi, hg, encBd, hi1, hg1, hw, hle]; done) | (simp only [stC, ze, reduceIte, Nat.reduceEqDiff, e3, e4, hi, hg, encBd, hi1, hg1, hw, hle]; rfl)) rfl rfl fun Y Z => ?_; simp only [zz, reduceIte, Nat.reduceEqDiff, Nat.reduceLT, Nat.reduceLeDiff, Nat.reduceAdd, reduceCtorEq, Nat.reduceMul, ok9, sz9, ag9, e3, e4, hi, hg, encBd, hi1, hg1, hw, hle]; refine Z _ _ ?_; clear Z Y)
      all_goals (refine D.g rfl trivial rfl rfl fun Y Z => ?_; simp only [zz, reduceIte, Nat.reduceEqDiff, Nat.reduceLT, Nat.reduceLeDiff, Nat.reduceAdd, reduceCtorEq, Nat.reduceMul, e3, e4, hi, hg, encBd, hi1, hg1, hw, hle]; refine PCalls.eqto (rname_spec _ (by assumption)) ?_; refine S.bool fun b a23 => ?_; cases b <;> (try (exfalso; first | exact Bool.noConfusion a23 | (have h := of_decide_eq_true a23; omega) | (have h := of_decide_eq_false a23; omega))) <;> (refine Z _ _ ?_; clear Z Y))
      all_goals iterate 2 (refine D.g rfl trivial rfl rfl fun Y Z => ?_; simp only [zz, reduceIte, Nat.reduceEqDiff, Nat.reduceAdd, e3, e4, hi, hg, encBd, hi1, hg1, hw, hle]; refine Z _ _ ?_; clear Z Y)
      all_goals iterate 4 (first | (refine D.y rfl trivial rfl rfl rfl rfl fun Y Z => ?_; simp only [zz, reduceIte, Nat.reduceEqDiff, Nat.reduceLT, Nat.reduceLeDiff, Nat.reduceAdd, reduceCtorEq, Nat.reduceMul, sl22, el22, ok38, sz38, ag38, of38_0, e3, e4, hi, hg, encBd, hi1, hg1, hw, hle]; refine Z _ _ ?_; clear Z Y) | ((first | refine D.x rfl (fun h => by cases h) rfl rfl rfl rfl fun Y Z => ?_ | refine D.u rfl (fun h => by cases h) rfl rfl rfl rfl fun Y Z => ?_); simp only [ze, reduceIte, Nat.reduceEqDiff]; refine Z _ _ ?_; clear Z Y))
      all_goals (first | (refine D.y rfl (by first | rfl | (simp only [stC, ze, reduceIte, Nat.reduceEqDiff, e3, e4, hi, hg, encBd, hi1, hg1, hw, hle]; done) | (simp only [stC, ze, reduceIte, Nat.reduceEqDiff, e3, e4, hi, hg, encBd, hi1, hg1, hw, hle]; rfl)) rfl rfl rfl rfl fun Y Z => ?_; simp only [zz, reduceIte, Nat.reduceEqDiff, Nat.reduceLT, Nat.reduceLeDiff, Nat.reduceAdd, reduceCtorEq, Nat.reduceMul, ok9, sz9, ag9, e3, e4, hi, hg, encBd, hi1, hg1, hw, hle]; refine Z _ _ ?_; clear Z Y) | ((first | refine D.x rfl (fun _ => rfl) rfl rfl rfl rfl fun Y Z => ?_ | refine D.u rfl (fun _ => rfl) rfl rfl rfl rfl fun Y Z => ?_); simp only [ze, reduceIte, Nat.reduceEqDiff]; refine Z _ _ ?_; clear Z Y))
      all_goals (first | (refine D.y rfl trivial rfl rfl rfl rfl fun Y Z => ?_; simp only [zz, reduceIte, Nat.reduceEqDiff, Nat.reduceLT, Nat.reduceLeDiff, Nat.reduceAdd, reduceCtorEq, Nat.reduceMul, e3, e4, hi, hg, encBd, hi1, hg1, hw, hle]; refine S.bool fun b a31 => ?_; cases b <;> (try (exfalso; first | exact Bool.noConfusion a31 | (have h := of_decide_eq_true a31; omega) | (have h := of_decide_eq_false a31; omega))) <;> (refine Z _ _ ?_; clear Z Y)) | ((first | refine D.x rfl (fun h => by cases h) rfl rfl rfl rfl fun Y Z => ?_ | refine D.u rfl (fun h => by cases h) rfl rfl rfl rfl fun Y Z => ?_); simp only [ze, reduceIte, Nat.reduceEqDiff]; refine Z _ _ ?_; clear Z Y))
      all_goals iterate 3 (first | (refine D.y rfl trivial rfl rfl rfl rfl fun Y Z => ?_; simp only [zz, reduceIte, Nat.reduceEqDiff, Nat.reduceLT, Nat.reduceLeDiff, Nat.reduceAdd, reduceCtorEq, Nat.reduceMul, sl22, el22, ok38, sz38, ag38, e3, e4, hi, hg, encBd, hi1, hg1, hw, hle]; refine Z _ _ ?_; clear Z Y) | ((first | refine D.x rfl (fun h => by cases h) rfl rfl rfl rfl fun Y Z => ?_ | refine D.u rfl (fun h => by cases h) rfl rfl rfl rfl fun Y Z => ?_); simp only [ze, reduceIte, Nat.reduceEqDiff]; refine Z _ _ ?_; clear Z Y))
      all_goals (first | (refine D.y rfl trivial rfl rfl rfl rfl fun Y Z => ?_; simp only [zz, reduceIte, Nat.reduceEqDiff, Nat.reduceLT, Nat.reduceLeDiff, Nat.reduceAdd, reduceCtorEq, Nat.reduceMul, e3, e4, hi, hg, encBd, hi1, hg1, hw, hle]; refine S.bool fun b a35 => ?_; cases b <;> (try (exfalso; first | exact Bool.noConfusion a35 | (have h := of_decide_eq_true a35; omega) | (have h := of_decide_eq_false a35; omega))) <;> (refine Z _ _ ?_; clear Z Y)) | ((first | refine D.x rfl (fun h => by cases h) rfl rfl rfl rfl fun Y Z => ?_ | refine D.u rfl (fun h => by cases h) rfl rfl rfl rfl fun Y Z => ?_); simp only [ze, reduceIte, Nat.reduceEqDiff]; refine Z _ _ ?_; clear Z Y))
      all_goals (first | (refine D.y rfl trivial rfl rfl rfl rfl fun Y Z => ?_; simp only [zz, reduceIte, Nat.reduceEqDiff, Nat.reduceAdd, e3, e4, hi, hg, encBd, hi1, hg1, hw, hle]; refine Z _ _ ?_; clear Z Y) | ((first | refine D.x rfl (fun h => by cases h) rfl rfl rfl rfl fun Y Z => ?_ | refine D.u rfl (fun h => by cases h) rfl rfl rfl rfl fun Y Z => ?_); simp only [ze, reduceIte, Nat.reduceEqDiff]; refine Z _ _ ?_; clear Z Y))
      all_goals iterate 2 (refine D.g rfl trivial rfl rfl fun Y Z => ?_; simp only [zz, reduceIte, Nat.reduceEqDiff, Nat.reduceAdd, e3, e4, hi, hg, encBd, hi1, hg1, hw, hle]; refine Z _ _ ?_; clear Z Y)
      all_goals (first | (refine D.y rfl trivial rfl rfl rfl rfl fun Y Z => ?_; simp only [zz, reduceIte, Nat.reduceEqDiff, Nat.reduceAdd, e3, e4, hi, hg, encBd, hi1, hg1, hw, hle]; refine Z _ _ ?_; clear Z Y) | ((first | refine D.x rfl (fun h => by cases h) rfl rfl rfl rfl fun Y Z => ?_ | refine D.u rfl (fun h => by cases h) rfl rfl rfl rfl fun Y Z => ?_); simp only [ze, reduceIte, Nat.reduceEqDiff]; refine Z _ _ ?_; clear Z Y))
      all_goals (first | (refine D.y rfl trivial rfl rfl rfl rfl fun Y Z => ?_; simp only [zz, reduceIte, Nat.reduceEqDiff, Nat.reduceLT, Nat.reduceLeDiff, Nat.reduceAdd, reduceCtorEq, Nat.reduceMul, e3, e4, hi, hg, encBd, hi1, hg1, hw, hle]; refine S.bool fun b a40 => ?_; cases b <;> (try (exfalso; first | exact Bool.noConfusion a40 | (have h := of_decide_eq_true a40; omega) | (have h := of_decide_eq_false a40; omega))) <;> (refine Z _ _ ?_; clear Z Y)) | ((first | refine D.x rfl (fun h => by cases h) rfl rfl rfl rfl fun Y Z => ?_ | refine D.u rfl (fun h => by cases h) rfl rfl rfl rfl fun Y Z => ?_); simp only [ze, reduceIte, Nat.reduceEqDiff]; refine Z _ _ ?_; clear Z Y))
      all_goals iterate 10 (first | (refine D.y rfl trivial rfl rfl rfl rfl fun Y Z => ?_; simp only [zz, reduceIte, Nat.reduceEqDiff, Nat.reduceLT, Nat.reduceLeDiff, Nat.reduceAdd, reduceCtorEq, Nat.reduceMul, sl22, el22, ok38, sz38, ag38, of38_0, e3, e4, hi, hg, encBd, hi1, hg1, hw, hle]; refine Z _ _ ?_; clear Z Y) | ((first | refine D.x rfl (fun h => by cases h) rfl rfl rfl rfl fun Y Z => ?_ | refine D.u rfl (fun h => by cases h) rfl rfl rfl rfl fun Y Z => ?_); simp only [ze, reduceIte, Nat.reduceEqDiff]; refine Z _ _ ?_; clear Z Y))
      all_goals iterate 2 (first | (refine D.y rfl (by first | rfl | (simp only [stC, ze, reduceIte, Nat.reduceEqDiff, e3, e4, hi, hg, encBd, hi1, hg1, hw, hle]; done) | (simp only [stC, ze, reduceIte, Nat.reduceEqDiff, e3, e4, hi, hg, encBd, hi1, hg1, hw, hle]; rfl)) rfl rfl rfl rfl fun Y Z => ?_; simp only [zz, reduceIte, Nat.reduceEqDiff, Nat.reduceLT, Nat.reduceLeDiff, Nat.reduceAdd, reduceCtorEq, Nat.reduceMul, ok9, sz9, ag9, e3, e4, hi, hg, encBd, hi1, hg1, hw, hle]; refine Z _ _ ?_; clear Z Y) | ((first | refine D.x rfl (fun _ => rfl) rfl rfl rfl rfl fun Y Z => ?_ | refine D.u rfl (fun _ => rfl) rfl rfl rfl rfl fun Y Z => ?_); simp only [ze, reduceIte, Nat.reduceEqDiff]; refine Z _ _ ?_; clear Z Y))
      all_goals iterate 2 (first | (refine D.y rfl trivial rfl rfl rfl rfl fun Y Z => ?_; simp only [zz, reduceIte, Nat.reduceEqDiff, Nat.reduceAdd, e3, e4, hi, hg, encBd, hi1, hg1, hw, hle]; refine Z _ _ ?_; clear Z Y) | ((first | refine D.x rfl (fun h => by cases h) rfl rfl rfl rfl fun Y Z => ?_ | refine D.u rfl (fun h => by cases h) rfl rfl rfl rfl fun Y Z => ?_); simp only [ze, reduceIte, Nat.reduceEqDiff]; refine Z _ _ ?_; clear Z Y))
      all_goals (refine D.g rfl trivial rfl rfl fun Y Z => ?_; simp only [zz, reduceIte, Nat.reduceEqDiff, Nat.reduceAdd, e3, e4, hi, hg, encBd, hi1, hg1, hw, hle]; refine Z _ _ ?_; clear Z Y)
      all_goals refine D.nil ?_
      all_goals simp only [ze, reduceIte, Nat.reduceEqDiff, Nat.reduceLT, Nat.reduceLeDiff, Nat.reduceAdd, reduceCtorEq, Nat.reduceMul, e3, e4, hi, hg, encBd, hi1, hg1, hw, hle]
      all_goals clear hpb hg hn2 hn1 hc hg1 hw hle hq
      all_goals cases q
      all_goals (try simp only [beq_eq_false_iff_ne, decide_eq_true_eq, decide_eq_false_iff_not, beq_iff_eq, ne_eq, Bool.not_eq_true', Bool.not_eq_false', bne_iff_ne, bne_eq_false_iff_eq] at *)
      all_goals (try simp only [V.c.injEq, Value.bool.injEq, Value.int.injEq, true_and, named, a23])
      all_goals first | done | rfl | omega | ((rw [Bool.eq_iff_iff]; simp only [beq_eq_false_iff_ne, decide_eq_true_eq, decide_eq_false_iff_not, beq_iff_eq, ne_eq, Bool.not_eq_true', Bool.not_eq_false', bne_iff_ne, bne_eq_false_iff_eq, Bool.false_or, Bool.true_or, Bool.or_false, Bool.or_true, Bool.false_and, Bool.and_false, Bool.true_and, Bool.and_true, Bool.not_true, Bool.not_false, Bool.or_eq_false_iff, Bool.and_eq_false_iff, Bool.or_eq_true, Bool.and_eq_true, Bool.false_eq_true, Bool.true_eq_false, true_iff, iff_true, false_iff, iff_false]) <;> omega)
    rintro s2 σ2 ⟨rfl, g3, g4, g55⟩
    refine AW.cond (b := _) g55 (fun hc => ?_) (fun hc => ?_)
    ·refine AW.seq_k fun K11 h11 => ?_
     all_goals refine AW.reg0 ?_
     all_goals (refine S.g rfl rfl fun Y Z => ?_; simp only [zz, reduceIte, Nat.reduceEqDiff, Nat.reduceAdd]; refine Z _ _ ?_; clear Z Y)
     all_goals refine S.nil ?_
     all_goals simp only [ze, reduceIte, Nat.reduceEqDiff, Nat.reduceLT, Nat.reduceLeDiff, Nat.reduceAdd, reduceCtorEq, Nat.reduceMul]
     all_goals apply_assumption
     refine AW.ret ?_
     all_goals simp only [zs, reduceIte, Nat.reduceEqDiff, Nat.reduceLT, Nat.reduceLeDiff, Nat.reduceAdd, reduceCtorEq, Nat.reduceMul]
     have hx : named l.length a = false ∨ (if i = 0 then none else (l[i-1]?).map (·.var)).any (leS a.var ·) = true ∨ (a.ev.src, a.ev.seq) ∈ (l.take i).map idOf := by
      simp only [Bool.or_eq_true, Bool.not_eq_true'] at hc
      rcases hc with h | h
      ·exact .inl h
      ·exact .inr (.inl h)
     simp only [partErr, if_neg h8, hp, hd, partFrom, if_pos hx, and_self]
    ·refine AW.skip ?_
     all_goals simp only [zs, reduceIte, Nat.reduceEqDiff, Nat.reduceLT, Nat.reduceLeDiff, Nat.reduceAdd, reduceCtorEq, Nat.reduceMul]
     simp only [Bool.or_eq_false_iff, Bool.not_eq_false'] at hc
     exact ⟨g3, g4, hc.1, hc.2⟩
   rintro s2 σ2 ⟨rfl, g3, g4, hx1, hx2⟩
   refine AW.seq_j (fun s' σ' => σ' = Hp.empty ∧ s'.t 3 = .sl (l.map encBd) ∧ s'.t 4 = .c (.int .i64 i) ∧ (a.ev.src, a.ev.seq) ∉ (l.take i).map idOf) ?_ ?_
   ·refine AW.seq_k fun K12 h12 => ?_
    all_goals refine AW.reg0 ?_
    all_goals (refine S.g rfl rfl fun Y Z => ?_; simp only [zz, reduceIte, Nat.reduceEqDiff, Nat.reduceAdd]; refine Z _ _ ?_; clear Z Y)
    all_goals refine S.nil ?_
    all_goals simp only [ze, reduceIte, Nat.reduceEqDiff, Nat.reduceLT, Nat.reduceLeDiff, Nat.reduceAdd, reduceCtorEq, Nat.reduceMul]
    all_goals apply_assumption
    refine AW.block ?_   -- 2
    refine AW.loop (fun m s σ => σ = Hp.empty ∧ ∃ k : Nat, m + k = i ∧ s.t 3 = .sl (l.map encBd) ∧ s.t 4 = .c (.int .i64 i) ∧ s.t 5 = .c (.int .i64 k) ∧ (a.ev.src, a.ev.seq) ∉ (l.take k).map idOf) i ?_ ?_
    ·refine ⟨rfl, 0, by simp, ?_⟩
     all_goals simp only [zs, reduceIte, Nat.reduceEqDiff, Nat.reduceLT, Nat.reduceLeDiff, Nat.reduceAdd, reduceCtorEq, Nat.reduceMul]
     exact ⟨g3, g4, rfl, by simp⟩
    rintro m2 s3 σ3 ⟨rfl, k, hm2, j3, j4, j5, hk⟩
    refine AW.seq_k fun K13 h13 => ?_
    refine AW.seq_k fun K14 h14 => ?_
    all_goals refine AW.reg0 ?_
    all_goals iterate 3 (refine S.g rfl rfl fun Y Z => ?_; simp only [zz, reduceIte, Nat.reduceEqDiff, Nat.reduceAdd, j4, j5]; refine Z _ _ ?_; clear Z Y)
    all_goals refine S.nil ?_
    all_goals simp only [ze, reduceIte, Nat.reduceEqDiff, Nat.reduceLT, Nat.reduceLeDiff, Nat.reduceAdd, reduceCtorEq, Nat.reduceMul, j4, j5]
    all_goals apply_assumption
    refine AW.cond (b := decide ((k : Int) < i)) (by simp [ev]) (fun hc => ?_) (fun hc => ?_)
    ·refine AW.skip ?_
     all_goals simp only [zs, reduceIte, Nat.reduceEqDiff, Nat.reduceLT, Nat.reduceLeDiff, Nat.reduceAdd, reduceCtorEq, Nat.reduceMul]
     all_goals apply_assumption
     have hki : k < i := by have := of_decide_eq_true hc; omega
     have hkl : k < l.length := by omega
     have hgk := getD_map (f := encBd) hkl
     have htkk : l.take (k + 1) = l.take k ++ [l[k]] := by rw [List.take_append_getElem]
     generalize hak : l[k] = b at hgk htkk
     refine AW.seq_k fun K15 h15 => ?_
     refine AW.block ?_   -- 3
     refine AW.seq_k fun K16 h16 => ?_
     all_goals refine AW.draw (T := { sd := fun _ => false, eqk := eqTab }) (eqTab_ok) mixedO [(0, 0), (1, 0), (2, 0), (3, 0), (4, 0), (6, 0), (7, 0), (8, 0), (9, 0), (10, 0), (5, 1), (11, 1), (12, 0)] rfl (by kernel_rfl) (by kernel_rfl) ?_
     all_goals iterate 10 (refine D.g rfl trivial rfl rfl fun Y Z => ?_; simp only [zz, reduceIte, Nat.reduceEqDiff, Nat.reduceLT, Nat.reduceLeDiff, Nat.reduceAdd, reduceCtorEq, Nat.reduceMul, sl22, el22, ok38, sz38, ag38, of38_1, of36_0, j3, j4, j5, hi, hg, hkl, hgk, encBd]; refine Z _ _ ?_; clear Z Y)
     all_goals iterate 2 (refine D.g rfl (by first | rfl | (simp only [stC, ze, reduceIte, Nat.reduceEqDiff, j3, j4, j5, hi, hg, hkl, hgk, encBd]; done) | (simp only [stC, ze, reduceIte, Nat.reduceEqDiff, j3, j4, j5, hi, hg, hkl, hgk, encBd]; rfl)) rfl rfl fun Y Z => ?_; simp only [zz, reduceIte, Nat.reduceEqDiff, Nat.reduceLT, Nat.reduceLeDiff, Nat.reduceAdd, reduceCtorEq, Nat.reduceMul, ok33, sz33, ag33, j3, j4, j5, hi, hg, hkl, hgk, encBd]; refine Z _ _ ?_; clear Z Y)
     all_goals (refine D.g rfl trivial rfl rfl fun Y Z => ?_; simp only [zz, reduceIte, Nat.reduceEqDiff, Nat.reduceAdd, eqk33, fitsAll, SK.fits, cellsEq, cellEq, j3, j4, j5, hi, hg, hkl, hgk, encBd]; refine Z _ _ ?_; clear Z Y)
     all_goals refine D.nil ?_
     all_goals simp only [ze, reduceIte, Nat.reduceEqDiff, Nat.reduceLT, Nat.reduceLeDiff, Nat.reduceAdd, reduceCtorEq, Nat.reduceMul, j3, j4, j5, hi, hg, hkl, hgk, encBd]
     all_goals apply_assumption
     refine AW.cond (b := _) (by simp only [ev, St.put_t, Nat.reduceEqDiff, if_true]; rfl) (fun hc => ?_) (fun hc => ?_)
     ·refine AW.seq_k fun K17 h17 => ?_
      all_goals refine AW.reg0 ?_
      all_goals (refine S.g rfl rfl fun Y Z => ?_; simp only [zz, reduceIte, Nat.reduceEqDiff, Nat.reduceAdd]; refine Z _ _ ?_; clear Z Y)
      all_goals refine S.nil ?_
      all_goals simp only [ze, reduceIte, Nat.reduceEqDiff, Nat.reduceLT, Nat.reduceLeDiff, Nat.reduceAdd, reduceCtorEq, Nat.reduceMul]
      all_goals apply_assumption
      refine AW.ret ?_
      all_goals simp only [zs, reduceIte, Nat.reduceEqDiff, Nat.reduceLT, Nat.reduceLeDiff, Nat.reduceAdd, reduceCtorEq, Nat.reduceMul]
      have hx : named l.length a = false ∨ (if i = 0 then none else (l[i-1]?).map (·.var)).any (leS a.var ·) = true ∨ (a.ev.src, a.ev.seq) ∈ (l.take i).map idOf := by
       refine .inr (.inr (List.mem_map.2 ⟨b, ?_, ?_⟩))
       ·rw [← hak, ← List.getElem_take (j := i) (h := by rw [List.length_take]; omega)]
        exact List.getElem_mem _
       ·simp only [Bool.and_eq_true, beq_iff_eq] at hc
        simp [idOf, hc.1, hc.2]
      simp only [partErr, if_neg h8, hp, hd, partFrom, if_pos hx, and_self]
     ·refine AW.skip ?_
      all_goals simp only [zs, reduceIte, Nat.reduceEqDiff, Nat.reduceLT, Nat.reduceLeDiff, Nat.reduceAdd, reduceCtorEq, Nat.reduceMul]
      all_goals apply_assumption
      have hw : IntKind.i64.wrap ((k : Int) + 1) = ((k + 1 : Nat) : Int) := by rw [wrap_small _ (by omega) (by omega)]; rfl
      all_goals refine AW.reg0 ?_
      all_goals iterate 3 (refine S.g rfl rfl fun Y Z => ?_; simp only [zz, reduceIte, Nat.reduceEqDiff, Nat.reduceAdd, j5, hw]; refine Z _ _ ?_; clear Z Y)
      all_goals refine S.nil ?_
      all_goals simp only [ze, reduceIte, Nat.reduceEqDiff, Nat.reduceLT, Nat.reduceLeDiff, Nat.reduceAdd, reduceCtorEq, Nat.reduceMul, j5, hw]
      refine ⟨m2 - 1, by omega, k + 1, by omega, j3, j4, rfl, ?_⟩
      rw [htkk, List.map_append, List.mem_append]
      rintro (h | h)
      ·exact hk h
      ·simp only [List.map_cons, List.map_nil, List.mem_singleton, idOf, Prod.mk.injEq] at h
       rw [h.1, h.2] at hc
       simp at hc
    ·refine AW.exit ?_
     all_goals simp only [zs, reduceIte, Nat.reduceEqDiff, Nat.reduceLT, Nat.reduceLeDiff, Nat.reduceAdd, reduceCtorEq, Nat.reduceMul]
     have hki : k = i := by have := of_decide_eq_false hc; omega
     subst hki
     exact ⟨j3, j4, hk⟩
   rintro s3 σ3 ⟨rfl, j3, j4, hx3⟩
   have hx : ¬ (named l.length a = false ∨ (if i = 0 then none else (l[i-1]?).map (·.var)).any (leS a.var ·) = true ∨ (a.ev.src, a.ev.seq) ∈ (l.take i).map idOf) := by
    rintro (h | h | h)
    ·rw [hx1] at h; cases h
    ·rw [hx2] at h; cases h
    ·exact hx3 h
   refine AW.seq_k fun K18 h18 => ?_
   all_goals refine AW.reg0 ?_
   all_goals iterate 5 (refine S.g rfl rfl fun Y Z => ?_; simp only [zz, reduceIte, Nat.reduceEqDiff, Nat.reduceLT, Nat.reduceLeDiff, Nat.reduceAdd, reduceCtorEq, Nat.reduceMul, sl22, el22, ok38, sz38, ag38, of38_1, ok36, sz36, ag36, j3, j4, hi, hg, encBd]; refine Z _ _ ?_; clear Z Y)
   all_goals (refine S.g rfl rfl fun Y Z => ?_; simp only [zz, reduceIte, Nat.reduceEqDiff, Nat.reduceLT, Nat.reduceLeDiff, Nat.reduceAdd, reduceCtorEq, Nat.reduceMul, j3, j4, hi, hg, encBd]; refine PCalls.eqto (rcheck_ev _ (by assumption)) ?_ <;> (refine Z _ _ ?_; clear Z Y))
   all_goals (refine S.g rfl rfl fun Y Z => ?_; simp only [zz, reduceIte, Nat.reduceEqDiff, Nat.reduceAdd, j3, j4, hi, hg, encBd]; refine Z _ _ ?_; clear Z Y)
   all_goals refine S.nil ?_
   all_goals simp only [ze, reduceIte, Nat.reduceEqDiff, Nat.reduceLT, Nat.reduceLeDiff, Nat.reduceAdd, reduceCtorEq, Nat.reduceMul, j3, j4, hi, hg, encBd]
   all_goals apply_assumption
   refine AW.seq_k fun K19 h19 => ?_
   all_goals refine AW.reg0 ?_
   all_goals iterate 2 (refine S.g rfl rfl fun Y Z => ?_; simp only [zz, reduceIte, Nat.reduceEqDiff, Nat.reduceAdd]; refine Z _ _ ?_; clear Z Y)
   all_goals refine S.nil ?_
   all_goals simp only [ze, reduceIte, Nat.reduceEqDiff, Nat.reduceLT, Nat.reduceLeDiff, Nat.reduceAdd, reduceCtorEq, Nat.reduceMul]
   all_goals apply_assumption
   refine AW.cond (b := evErr a.ev != 0) (by simp [ev]) (fun hc => ?_) (fun hc => ?_)
   ·refine AW.seq_k fun K20 h20 => ?_
    all_goals refine AW.reg0 ?_
    all_goals iterate 2 (refine S.g rfl rfl fun Y Z => ?_; simp only [zz, reduceIte, Nat.reduceEqDiff, Nat.reduceAdd]; refine Z _ _ ?_; clear Z Y)
    all_goals refine S.nil ?_
    all_goals simp only [ze, reduceIte, Nat.reduceEqDiff, Nat.reduceLT, Nat.reduceLeDiff, Nat.reduceAdd, reduceCtorEq, Nat.reduceMul]
    all_goals apply_assumption
    refine AW.ret ?_
    all_goals simp only [zs, reduceIte, Nat.reduceEqDiff, Nat.reduceLT, Nat.reduceLeDiff, Nat.reduceAdd, reduceCtorEq, Nat.reduceMul]
    have hy : evErr a.ev ≠ 0 := by simpa using hc
    simp only [partErr, if_neg h8, hp, hd, partFrom, if_neg hx, if_pos hy, and_self]
   ·refine AW.skip ?_
    all_goals simp only [zs, reduceIte, Nat.reduceEqDiff, Nat.reduceLT, Nat.reduceLeDiff, Nat.reduceAdd, reduceCtorEq, Nat.reduceMul]
    all_goals apply_assumption
    have hy : evErr a.ev = 0 := by simpa using hc
    have hw : IntKind.i64.wrap ((i : Int) + 1) = ((i + 1 : Nat) : Int) := by rw [wrap_small _ (by omega) (by omega)]; rfl
    all_goals refine AW.reg0 ?_
    all_goals iterate 3 (refine S.g rfl rfl fun Y Z => ?_; simp only [zz, reduceIte, Nat.reduceEqDiff, Nat.reduceAdd, j4, hw]; refine Z _ _ ?_; clear Z Y)
    all_goals refine S.nil ?_
    all_goals simp only [ze, reduceIte, Nat.reduceEqDiff, Nat.reduceLT, Nat.reduceLeDiff, Nat.reduceAdd, reduceCtorEq, Nat.reduceMul, j4, hw]
    refine ⟨m - 1, by omega, i + 1, by omega, j3, rfl, ?_⟩
    rw [hp, hd, partFrom, if_neg hx, if_neg (fun e => e hy), htk]
    simp [ha, hi, idOf]
  ·refine AW.exit ?_
   all_goals simp only [zs, reduceIte, Nat.reduceEqDiff, Nat.reduceLT, Nat.reduceLeDiff, Nat.reduceAdd, reduceCtorEq, Nat.reduceMul]
   -- EXIT 0
   all_goals apply_assumption
   refine AW.seq_k fun K21 h21 => ?_
   all_goals refine AW.reg0 ?_
   all_goals (refine S.g rfl rfl fun Y Z => ?_; simp only [zz, reduceIte, Nat.reduceEqDiff, Nat.reduceAdd]; refine Z _ _ ?_; clear Z Y)
   all_goals refine S.nil ?_
   all_goals simp only [ze, reduceIte, Nat.reduceEqDiff, Nat.reduceLT, Nat.reduceLeDiff, Nat.reduceAdd, reduceCtorEq, Nat.reduceMul]
   all_goals apply_assumption
   refine AW.ret ?_
   all_goals simp only [zs, reduceIte, Nat.reduceEqDiff, Nat.reduceLT, Nat.reduceLeDiff, Nat.reduceAdd, reduceCtorEq, Nat.reduceMul]
   have hi : l.length ≤ i := by simpa using hc
   have h8 : ¬ 12 < l.length := by omega
   simp [partErr, h8, hp, List.drop_of_length_le hi, partFrom]
end Go.Abs.M
namespace Go.Abs.M
open Go Go.Abs Go.Proofs
set_option maxRecDepth 20000
set_option linter.unusedSimpArgs false
set_option linter.unusedVariables false
theorem rclone_ev (e : Ev) (hl : e.attrs.length * 48 ≤ 140737488355328) : PCalls Tryz.prog 20 [.agg (encEv e)] (fun r => r = .agg (encEv e)) := by
 refine PCalls.intro Tryz.call20 Tryz.func20 rfl Tryz.ntmps20 Tryz.results20 (by simp) ?_
 refine AW.seq_k fun K1 h1 => ?_
 refine AW.reg0 ?_
 iterate 2 (refine S.g rfl rfl fun Y Z => ?_; simp only [zz, reduceIte, Nat.reduceEqDiff, Nat.reduceLT, Nat.reduceLeDiff, Nat.reduceAdd, reduceCtorEq, Nat.reduceMul, ok36, sz36, ag36, zt36, encEv]; refine Z _ _ ?_; clear Z Y)
 refine S.nil ?_
 simp only [ze, reduceIte, Nat.reduceEqDiff, Nat.reduceLT, Nat.reduceLeDiff, Nat.reduceAdd, reduceCtorEq, Nat.reduceMul, encEv]
 apply_assumption
 refine AW.seq_k fun K2 h2 => ?_
 refine AW.reg0 ?_
 iterate 2 (refine S.g rfl rfl fun Y Z => ?_; simp only [zz, reduceIte, Nat.reduceEqDiff, Nat.reduceLT, Nat.reduceLeDiff, Nat.reduceAdd, reduceCtorEq, Nat.reduceMul, of36_3, ok34, sz34, ag34]; refine Z _ _ ?_; clear Z Y)
 (refine S.g rfl rfl fun Y Z => ?_; simp only [zz, reduceIte, Nat.reduceEqDiff, Nat.reduceLT, Nat.reduceLeDiff, Nat.reduceAdd, reduceCtorEq, Nat.reduceMul, sl34, el34, ok42, sz42, ag42, zt42, by42]; refine ⟨len_attr _, by unfold maxLen; omega, by unfold reach; omega, fun k2 hk2 => ?_⟩ <;> (refine Z _ _ ?_; clear Z Y))
 iterate 2 (refine S.g rfl rfl fun Y Z => ?_; simp only [zz, reduceIte, Nat.reduceEqDiff, Nat.reduceLT, Nat.reduceLeDiff, Nat.reduceAdd, reduceCtorEq, Nat.reduceMul, of36_3, ok34, sz34, ag34]; refine Z _ _ ?_; clear Z Y)
 refine S.nil ?_
 simp only [ze, reduceIte, Nat.reduceEqDiff, Nat.reduceLT, Nat.reduceLeDiff, Nat.reduceAdd, reduceCtorEq, Nat.reduceMul]
 apply_assumption
 refine AW.seq_k fun K3 h3 => ?_
 refine AW.reg0 ?_
 iterate 2 (refine S.g rfl rfl fun Y Z => ?_; simp only [zz, reduceIte, Nat.reduceEqDiff, Nat.reduceLT, Nat.reduceLeDiff, Nat.reduceAdd, reduceCtorEq, Nat.reduceMul, ok36, sz36, ag36]; refine Z _ _ ?_; clear Z Y)
 refine S.nil ?_
 simp only [ze, reduceIte, Nat.reduceEqDiff, Nat.reduceLT, Nat.reduceLeDiff, Nat.reduceAdd, reduceCtorEq, Nat.reduceMul]
 apply_assumption
 refine AW.freeze (k := k2) (T := (42, 4)) (es := e.attrs.map encAttr) (by simp only [Hp.setGr_gr, if_true]) (AW.bare (AW.ret ?_))
 simp only [zs, reduceIte, Nat.reduceEqDiff, Nat.reduceLT, Nat.reduceLeDiff, Nat.reduceAdd, reduceCtorEq, Nat.reduceMul, qLoad, ok36, sz36, ag36, cut, List.drop_zero, List.take_succ_cons, List.take_zero, fzV, fz1, St.fz_t, St.fz_l, Option.map_some, List.map]
 simp only [List.map, wk1, encEv]
theorem rclone_part (l : List Bd) (hl : ∀ b ∈ l, b.ev.attrs.length * 48 ≤ 140737488355328) (hn : l.length * 80 ≤ 140737488355328) : PCalls Tryz.prog 4 [.agg [.sl (l.map encBd)]] (fun r => r = .agg [.sl (l.map encBd)]) := by
 refine PCalls.intro Tryz.call4 Tryz.func4 rfl Tryz.ntmps4 Tryz.results4 (by simp) ?_
 refine AW.seq_k fun K1 h1 => ?_
 refine AW.reg0 ?_
 iterate 2 (refine S.g rfl rfl fun Y Z => ?_; simp only [zz, reduceIte, Nat.reduceEqDiff, Nat.reduceLT, Nat.reduceLeDiff, Nat.reduceAdd, reduceCtorEq, Nat.reduceMul, ok24, sz24, ag24, zt24]; refine Z _ _ ?_; clear Z Y)
 refine S.nil ?_
 simp only [ze, reduceIte, Nat.reduceEqDiff, Nat.reduceLT, Nat.reduceLeDiff, Nat.reduceAdd, reduceCtorEq, Nat.reduceMul]
 apply_assumption
 refine AW.seq_k fun K2 h2 => ?_
 refine AW.reg0 ?_
 (refine S.g rfl rfl fun Y Z => ?_; simp only [zz, reduceIte, Nat.reduceEqDiff, Nat.reduceAdd]; refine Z _ _ ?_; clear Z Y)
 refine S.nil ?_
 simp only [ze, reduceIte, Nat.reduceEqDiff, Nat.reduceLT, Nat.reduceLeDiff, Nat.reduceAdd, reduceCtorEq, Nat.reduceMul]
 apply_assumption
 refine AW.seq_k fun K3 h3 => ?_
 refine AW.seq_k fun K4 h4 => ?_
 refine AW.reg0 ?_
 (refine S.g rfl rfl fun Y Z => ?_; simp only [zz, reduceIte, Nat.reduceEqDiff, Nat.reduceAdd]; refine Z _ _ ?_; clear Z Y)
 refine S.nil ?_
 simp only [ze, reduceIte, Nat.reduceEqDiff, Nat.reduceLT, Nat.reduceLeDiff, Nat.reduceAdd, reduceCtorEq, Nat.reduceMul]
 apply_assumption
 refine AW.block ?_   -- 0
 refine AW.loop (fun m s σ => ∃ i : Nat, m + i = l.length ∧ s.t 1 = .lp 1 0 ∧ s.l 1 = some [.sl (l.map encBd)] ∧ s.t 2 = .lp 2 0 ∧ s.l 2 = some [.c (.slice none 0 0)] ∧ s.t 4 = .c (.int .i64 i) ∧
  ((i = 0 ∧ s.t 3 = .c (.slice none 0 0) ∧ σ = Hp.empty) ∨ ∃ k, s.t 3 = .gl k ∧ σ = Hp.empty.setGr k (some ((38, 6), (l.take i).map encBd)))) l.length ?_ ?_
 ·refine ⟨0, by simp, ?_⟩
  simp only [zs, reduceIte, Nat.reduceEqDiff, Nat.reduceLT, Nat.reduceLeDiff, Nat.reduceAdd, reduceCtorEq, Nat.reduceMul]
  simp
 rintro m s σ ⟨i, hm, e1, l1, e2, l2, e4, hk⟩
 refine AW.seq_k fun K5 h5 => ?_
 refine AW.seq_k fun K6 h6 => ?_
 refine AW.reg0 ?_
 iterate 5 (refine S.g rfl rfl fun Y Z => ?_; simp only [zz, reduceIte, Nat.reduceEqDiff, Nat.reduceLT, Nat.reduceLeDiff, Nat.reduceAdd, reduceCtorEq, Nat.reduceMul, of24_0, ok22, sz22, ag22, sl22, el22, ok38, sz38, ag38, e1, l1, e4]; refine Z _ _ ?_; clear Z Y)
 refine S.nil ?_
 simp only [ze, reduceIte, Nat.reduceEqDiff, Nat.reduceLT, Nat.reduceLeDiff, Nat.reduceAdd, reduceCtorEq, Nat.reduceMul, e1, l1, e4]
 apply_assumption
 refine AW.cond (b := decide (i < l.length)) (by simp [ev]) (fun hc => ?_) (fun hc => ?_)
 ·refine AW.skip ?_
  simp only [zs, reduceIte, Nat.reduceEqDiff, Nat.reduceLT, Nat.reduceLeDiff, Nat.reduceAdd, reduceCtorEq, Nat.reduceMul]
  apply_assumption
  have hi : i < l.length := by simpa using hc
  have hg := getD_map (f := encBd) hi
  have htk : l.take (i + 1) = l.take i ++ [l[i]] := by rw [List.take_append_getElem]
  have hmem := hl _ (List.getElem_mem hi)
  generalize ha : l[i] = a at hg htk hmem
  have hw : IntKind.i64.wrap ((i : Int) + 1) = ((i + 1 : Nat) : Int) := by rw [wrap_small _ (by omega) (by omega)]; rfl
  refine AW.seq_k fun K7 h7 => ?_
  refine AW.block ?_   -- 1
  rcases hk with ⟨rfl, e3, rfl⟩ | ⟨k, e3, rfl⟩
  ·skip
   refine AW.draw (T := { sd := fun d => d == 1 }) (fun _ _ h => by cases h) mixedO [(0, 0), (1, 0), (3, 0), (7, 0), (9, 0), (2, 1), (4, 0), (5, 0), (6, 1), (8, 1), (10, 0), (11, 0), (12, 1), (13, 2), (14, 0), (15, 2), (16, 2), (17, 0)] rfl (by kernel_rfl) (by kernel_rfl) ?_
   iterate 5 (refine D.g rfl trivial rfl rfl fun Y Z => ?_; simp only [zz, reduceIte, Nat.reduceEqDiff, Nat.reduceLT, Nat.reduceLeDiff, Nat.reduceAdd, reduceCtorEq, Nat.reduceMul, of24_0, e3, e1, l1, e4, hi, hg, encBd, encEv]; refine Z _ _ ?_; clear Z Y)
   (refine D.g rfl (by first | rfl | (simp only [stC, ze, reduceIte, Nat.reduceEqDiff, e3, e1, l1, e4, hi, hg, encBd, encEv]; done) | (simp only [stC, ze, reduceIte, Nat.reduceEqDiff, e3, e1, l1, e4, hi, hg, encBd, encEv]; rfl)) rfl rfl fun Y Z => ?_; simp only [zz, reduceIte, Nat.reduceEqDiff, Nat.reduceLT, Nat.reduceLeDiff, Nat.reduceAdd, reduceCtorEq, Nat.reduceMul, ok22, sz22, ag22, e3, e1, l1, e4, hi, hg, encBd, encEv]; refine Z _ _ ?_; clear Z Y)
   iterate 2 (refine D.g rfl trivial rfl rfl fun Y Z => ?_; simp only [zz, reduceIte, Nat.reduceEqDiff, Nat.reduceLT, Nat.reduceLeDiff, Nat.reduceAdd, reduceCtorEq, Nat.reduceMul, sl22, el22, ok38, sz38, ag38, of38_0, e3, e1, l1, e4, hi, hg, encBd, encEv]; refine Z _ _ ?_; clear Z Y)
   iterate 2 (refine D.g rfl (by first | rfl | (simp only [stC, ze, reduceIte, Nat.reduceEqDiff, e3, e1, l1, e4, hi, hg, encBd, encEv]; done) | (simp only [stC, ze, reduceIte, Nat.reduceEqDiff, e3, e1, l1, e4, hi, hg, encBd, encEv]; rfl)) rfl rfl fun Y Z => ?_; simp only [zz, reduceIte, Nat.reduceEqDiff, Nat.reduceLT, Nat.reduceLeDiff, Nat.reduceAdd, reduceCtorEq, Nat.reduceMul, ok9, sz9, ag9, ok22, sz22, ag22, e3, e1, l1, e4, hi, hg, encBd, encEv]; refine Z _ _ ?_; clear Z Y)
   iterate 2 (refine D.g rfl trivial rfl rfl fun Y Z => ?_; simp only [zz, reduceIte, Nat.reduceEqDiff, Nat.reduceLT, Nat.reduceLeDiff, Nat.reduceAdd, reduceCtorEq, Nat.reduceMul, sl22, el22, ok38, sz38, ag38, of38_1, e3, e1, l1, e4, hi, hg, encBd, encEv]; refine Z _ _ ?_; clear Z Y)
   (refine D.g rfl (by first | rfl | (simp only [stC, ze, reduceIte, Nat.reduceEqDiff, e3, e1, l1, e4, hi, hg, encBd, encEv]; done) | (simp only [stC, ze, reduceIte, Nat.reduceEqDiff, e3, e1, l1, e4, hi, hg, encBd, encEv]; rfl)) rfl rfl fun Y Z => ?_; simp only [zz, reduceIte, Nat.reduceEqDiff, Nat.reduceLT, Nat.reduceLeDiff, Nat.reduceAdd, reduceCtorEq, Nat.reduceMul, ok36, sz36, ag36, e3, e1, l1, e4, hi, hg, encBd, encEv]; refine Z _ _ ?_; clear Z Y)
   (refine D.g rfl trivial rfl rfl fun Y Z => ?_; simp only [zz, reduceIte, Nat.reduceEqDiff, Nat.reduceLT, Nat.reduceLeDiff, Nat.reduceAdd, reduceCtorEq, Nat.reduceMul, e3, e1, l1, e4, hi, hg, encBd, encEv]; refine PCalls.eqto (rclone_ev _ (by assumption)) ?_ <;> (refine Z _ _ ?_; clear Z Y))
   (refine D.g rfl trivial rfl rfl fun Y Z => ?_; simp only [zz, reduceIte, Nat.reduceEqDiff, Nat.reduceLT, Nat.reduceLeDiff, Nat.reduceAdd, reduceCtorEq, Nat.reduceMul, zt38, pl38, e3, e1, l1, e4, hi, hg, encBd, encEv]; refine Z _ _ ?_; clear Z Y)
   (refine D.g rfl trivial rfl rfl fun Y Z => ?_; simp only [zb, reduceIte, Nat.reduceEqDiff, Nat.reduceLT, Nat.reduceLeDiff, Nat.reduceAdd, reduceCtorEq, Nat.reduceMul, sl22, el22, ok38, sz38, ag38, zt38, by38, e3, e1, l1, e4, hi, hg, encBd, encEv]; refine Z _ _ ?_; clear Z Y)
   (refine D.g rfl trivial rfl rfl fun Y Z => ?_; simp only [zz, reduceIte, Nat.reduceEqDiff, Nat.reduceLT, Nat.reduceLeDiff, Nat.reduceAdd, reduceCtorEq, Nat.reduceMul, sl22, el22, ok38, sz38, ag38, zt38, by38, e3, e1, l1, e4, hi, hg, encBd, encEv]; refine ⟨len_bd [a], by unfold maxLen; omega, by unfold reach; omega, fun k2 hk2 => ?_⟩ <;> (refine Z _ _ ?_; clear Z Y))
   (refine D.g rfl trivial rfl rfl fun Y Z => ?_; simp only [zz, reduceIte, Nat.reduceEqDiff, Nat.reduceAdd, e3, e1, l1, e4, hi, hg, encBd, encEv]; refine Z _ _ ?_; clear Z Y)
   refine D.nil ?_
   simp only [ze, reduceIte, Nat.reduceEqDiff, Nat.reduceLT, Nat.reduceLeDiff, Nat.reduceAdd, reduceCtorEq, Nat.reduceMul, e3, e1, l1, e4, hi, hg, encBd, encEv]
   apply_assumption
   refine AW.reg0 ?_
   iterate 3 (refine S.g rfl rfl fun Y Z => ?_; simp only [zz, reduceIte, Nat.reduceEqDiff, Nat.reduceAdd, e4, hw, e1, e2, l1, l2]; refine Z _ _ ?_; clear Z Y)
   refine S.nil ?_
   simp only [ze, reduceIte, Nat.reduceEqDiff, Nat.reduceLT, Nat.reduceLeDiff, Nat.reduceAdd, reduceCtorEq, Nat.reduceMul, e4, hw, e1, e2, l1, l2]
   refine ⟨m - 1, by omega, 1, by omega, rfl, .inr ⟨k2, rfl, ?_⟩⟩
   rw [show l.take 1 = [] ++ [a] from htk]; rfl
  ·have htl : (l.take i).length = i := by rw [List.length_take]; omega
   refine AW.draw (T := { sd := fun d => d == 1 }) (fun _ _ h => by cases h) mixedO [(0, 0), (1, 0), (3, 0), (7, 0), (9, 0), (2, 1), (4, 0), (5, 0), (6, 1), (8, 1), (10, 0), (11, 0), (12, 1), (13, 2), (14, 0), (15, 2), (16, 2), (17, 0)] rfl (by kernel_rfl) (by kernel_rfl) ?_
   iterate 5 (refine D.g rfl trivial rfl rfl fun Y Z => ?_; simp only [zz, reduceIte, Nat.reduceEqDiff, Nat.reduceLT, Nat.reduceLeDiff, Nat.reduceAdd, reduceCtorEq, Nat.reduceMul, of24_0, e3, e1, l1, e4, hi, hg, encBd, encEv, htl]; refine Z _ _ ?_; clear Z Y)
   (refine D.g rfl (by first | rfl | (simp only [stC, ze, reduceIte, Nat.reduceEqDiff, e3, e1, l1, e4, hi, hg, encBd, encEv, htl]; done) | (simp only [stC, ze, reduceIte, Nat.reduceEqDiff, e3, e1, l1, e4, hi, hg, encBd, encEv, htl]; rfl)) rfl rfl fun Y Z => ?_; simp only [zz, reduceIte, Nat.reduceEqDiff, Nat.reduceLT, Nat.reduceLeDiff, Nat.reduceAdd, reduceCtorEq, Nat.reduceMul, ok22, sz22, ag22, e3, e1, l1, e4, hi, hg, encBd, encEv, htl]; refine Z _ _ ?_; clear Z Y)
   iterate 2 (refine D.g rfl trivial rfl rfl fun Y Z => ?_; simp only [zz, reduceIte, Nat.reduceEqDiff, Nat.reduceLT, Nat.reduceLeDiff, Nat.reduceAdd, reduceCtorEq, Nat.reduceMul, sl22, el22, ok38, sz38, ag38, of38_0, e3, e1, l1, e4, hi, hg, encBd, encEv, htl]; refine Z _ _ ?_; clear Z Y)
   iterate 2 (refine D.g rfl (by first | rfl | (simp only [stC, ze, reduceIte, Nat.reduceEqDiff, e3, e1, l1, e4, hi, hg, encBd, encEv, htl]; done) | (simp only [stC, ze, reduceIte, Nat.reduceEqDiff, e3, e1, l1, e4, hi, hg, encBd, encEv, htl]; rfl)) rfl rfl fun Y Z => ?_; simp only [zz, reduceIte, Nat.reduceEqDiff, Nat.reduceLT, Nat.reduceLeDiff, Nat.reduceAdd, reduceCtorEq, Nat.reduceMul, ok9, sz9, ag9, ok22, sz22, ag22, e3, e1, l1, e4, hi, hg, encBd, encEv, htl]; refine Z _ _ ?_; clear Z Y)
   iterate 2 (refine D.g rfl trivial rfl rfl fun Y Z => ?_; simp only [zz, reduceIte, Nat.reduceEqDiff, Nat.reduceLT, Nat.reduceLeDiff, Nat.reduceAdd, reduceCtorEq, Nat.reduceMul, sl22, el22, ok38, sz38, ag38, of38_1, e3, e1, l1, e4, hi, hg, encBd, encEv, htl]; refine Z _ _ ?_; clear Z Y)
   (refine D.g rfl (by first | rfl | (simp only [stC, ze, reduceIte, Nat.reduceEqDiff, e3, e1, l1, e4, hi, hg, encBd, encEv, htl]; done) | (simp only [stC, ze, reduceIte, Nat.reduceEqDiff, e3, e1, l1, e4, hi, hg, encBd, encEv, htl]; rfl)) rfl rfl fun Y Z => ?_; simp only [zz, reduceIte, Nat.reduceEqDiff, Nat.reduceLT, Nat.reduceLeDiff, Nat.reduceAdd, reduceCtorEq, Nat.reduceMul, ok36, sz36, ag36, e3, e1, l1, e4, hi, hg, encBd, encEv, htl]; refine Z _ _ ?_; clear Z Y)
   (refine D.g rfl trivial rfl rfl fun Y Z => ?_; simp only [zz, reduceIte, Nat.reduceEqDiff, Nat.reduceLT, Nat.reduceLeDiff, Nat.reduceAdd, reduceCtorEq, Nat.reduceMul, e3, e1, l1, e4, hi, hg, encBd, encEv, htl]; refine PCalls.eqto (rclone_ev _ (by assumption)) ?_ <;> (refine Z _ _ ?_; clear Z Y))
   (refine D.g rfl trivial rfl rfl fun Y Z => ?_; simp only [zz, reduceIte, Nat.reduceEqDiff, Nat.reduceLT, Nat.reduceLeDiff, Nat.reduceAdd, reduceCtorEq, Nat.reduceMul, zt38, pl38, e3, e1, l1, e4, hi, hg, encBd, encEv, htl]; refine Z _ _ ?_; clear Z Y)
   (refine D.g rfl trivial rfl rfl fun Y Z => ?_; simp only [zb, reduceIte, Nat.reduceEqDiff, Nat.reduceLT, Nat.reduceLeDiff, Nat.reduceAdd, reduceCtorEq, Nat.reduceMul, sl22, el22, ok38, sz38, ag38, zt38, by38, e3, e1, l1, e4, hi, hg, encBd, encEv, htl]; refine Z _ _ ?_; clear Z Y)
   (refine D.g rfl trivial rfl rfl fun Y Z => ?_; simp only [zz, reduceIte, Nat.reduceEqDiff, Nat.reduceLT, Nat.reduceLeDiff, Nat.reduceAdd, reduceCtorEq, Nat.reduceMul, sl22, el22, ok38, sz38, ag38, zt38, by38, e3, e1, l1, e4, hi, hg, encBd, encEv, htl]; refine ⟨len_bd [a], by unfold maxLen; omega, by unfold reach; omega, fun k2 hk2 => ?_⟩ <;> (refine Z _ _ ?_; clear Z Y))
   (refine D.g rfl trivial rfl rfl fun Y Z => ?_; simp only [zz, reduceIte, Nat.reduceEqDiff, Nat.reduceAdd, e3, e1, l1, e4, hi, hg, encBd, encEv, htl]; refine Z _ _ ?_; clear Z Y)
   refine D.nil ?_
   simp only [ze, reduceIte, Nat.reduceEqDiff, Nat.reduceLT, Nat.reduceLeDiff, Nat.reduceAdd, reduceCtorEq, Nat.reduceMul, e3, e1, l1, e4, hi, hg, encBd, encEv, htl]
   apply_assumption
   refine AW.reg0 ?_
   iterate 3 (refine S.g rfl rfl fun Y Z => ?_; simp only [zz, reduceIte, Nat.reduceEqDiff, Nat.reduceAdd, e4, hw, e1, e2, l1, l2]; refine Z _ _ ?_; clear Z Y)
   refine S.nil ?_
   simp only [ze, reduceIte, Nat.reduceEqDiff, Nat.reduceLT, Nat.reduceLeDiff, Nat.reduceAdd, reduceCtorEq, Nat.reduceMul, e4, hw, e1, e2, l1, l2]
   refine ⟨m - 1, by omega, i + 1, by omega, rfl, .inr ⟨k2, rfl, ?_⟩⟩
   rw [htk, List.map_append]
   simp [encBd]
 ·refine AW.exit ?_
  simp only [zs, reduceIte, Nat.reduceEqDiff, Nat.reduceLT, Nat.reduceLeDiff, Nat.reduceAdd, reduceCtorEq, Nat.reduceMul]
  -- EXIT 0
  -- BEHIND THE LOOP
  apply_assumption
  have hi : l.length ≤ i := by simpa using hc
  rcases hk with ⟨rfl, e3, rfl⟩ | ⟨k, e3, rfl⟩
  ·have h0 : l = [] := List.eq_nil_of_length_eq_zero (by omega)
   refine AW.seq_k fun K8 h8 => ?_
   refine AW.reg0 ?_
   (refine S.g rfl rfl fun Y Z => ?_; simp only [zz, reduceIte, Nat.reduceEqDiff, Nat.reduceAdd, e3, e2, l2]; refine Z _ _ ?_; clear Z Y)
   (refine S.g rfl rfl fun Y Z => ?_; simp only [zz, reduceIte, Nat.reduceEqDiff, Nat.reduceLT, Nat.reduceLeDiff, Nat.reduceAdd, reduceCtorEq, Nat.reduceMul, zt24, pl24, e3, e2, l2]; refine Z _ _ ?_; clear Z Y)
   (refine S.g rfl rfl fun Y Z => ?_; simp only [zz, reduceIte, Nat.reduceEqDiff, Nat.reduceLT, Nat.reduceLeDiff, Nat.reduceAdd, reduceCtorEq, Nat.reduceMul, ok24, sz24, ag24, e3, e2, l2]; refine Z _ _ ?_; clear Z Y)
   refine S.nil ?_
   simp only [ze, reduceIte, Nat.reduceEqDiff, Nat.reduceLT, Nat.reduceLeDiff, Nat.reduceAdd, reduceCtorEq, Nat.reduceMul, e3, e2, l2]
   apply_assumption
   refine AW.ret ?_
   simp only [zs, reduceIte, Nat.reduceEqDiff, Nat.reduceLT, Nat.reduceLeDiff, Nat.reduceAdd, reduceCtorEq, Nat.reduceMul, qLoad, ok24, sz24, ag24, cut, List.drop_zero, List.take_succ_cons, List.take_zero, e2, List.map, h0]
  ·rw [List.take_of_length_le hi]
   refine AW.seq_k fun K9 h9 => ?_
   refine AW.reg0 ?_
   (refine S.g rfl rfl fun Y Z => ?_; simp only [zz, reduceIte, Nat.reduceEqDiff, Nat.reduceAdd, e3, e2, l2]; refine Z _ _ ?_; clear Z Y)
   (refine S.g rfl rfl fun Y Z => ?_; simp only [zz, reduceIte, Nat.reduceEqDiff, Nat.reduceLT, Nat.reduceLeDiff, Nat.reduceAdd, reduceCtorEq, Nat.reduceMul, zt24, pl24, e3, e2, l2]; refine Z _ _ ?_; clear Z Y)
   (refine S.g rfl rfl fun Y Z => ?_; simp only [zz, reduceIte, Nat.reduceEqDiff, Nat.reduceLT, Nat.reduceLeDiff, Nat.reduceAdd, reduceCtorEq, Nat.reduceMul, ok24, sz24, ag24, e3, e2, l2]; refine Z _ _ ?_; clear Z Y)
   refine S.nil ?_
   simp only [ze, reduceIte, Nat.reduceEqDiff, Nat.reduceLT, Nat.reduceLeDiff, Nat.reduceAdd, reduceCtorEq, Nat.reduceMul, e3, e2, l2]
   apply_assumption
   refine AW.freeze (k := k) (T := (38, 6)) (es := l.map encBd) (by simp only [Hp.setGr_gr, if_true]) (AW.bare (AW.ret ?_))
   simp only [zs, reduceIte, Nat.reduceEqDiff, Nat.reduceLT, Nat.reduceLeDiff, Nat.reduceAdd, reduceCtorEq, Nat.reduceMul, qLoad, ok24, sz24, ag24, cut, List.drop_zero, List.take_succ_cons, List.take_zero, e2, fzV, fz1, St.fz_t, St.fz_l, Option.map_some, List.map]
def allEq {α : Type} (f : α → α → Bool) : List α → List α → Bool
  | [], [] => true
  | a :: l, b :: m => f a b && allEq f l m
  | _, _ => false
theorem allEq_len {α : Type} {f : α → α → Bool} : ∀ {l m : List α}, l.length ≠ m.length → allEq f l m = false
 | [], [], h => absurd rfl h
 | a :: l, b :: m, h => by simp [allEq, allEq_len (f := f) (l := l) (m := m) (by simpa using h)]
 | [], _ :: _, _ => rfl
 | _ :: _, [], _ => rfl
def eqAttr (a b : Attr) : Bool := a.name.toList == b.name.toList && (a.v.kind == b.v.kind && (a.v.n == b.v.n && a.v.s.toList == b.v.s.toList))
theorem rsame_attrs (l r : List Attr) (hl : l.length < 4611686018427387904) : PCalls Tryz.prog 52 [.sl (l.map encAttr), .sl (r.map encAttr)] (fun v => v = .c (.bool (allEq eqAttr l r))) := by
 refine PCalls.intro Tryz.call52 Tryz.func52 rfl Tryz.ntmps52 Tryz.results52 (by simp) ?_
 refine AW.seq_k fun K1 h1 => ?_
 refine AW.reg0 ?_
 (refine S.g rfl rfl fun Y Z => ?_; simp only [zz, reduceIte, Nat.reduceEqDiff, Nat.reduceAdd]; refine Z _ _ ?_; clear Z Y)
 refine S.nil ?_
 simp only [ze, reduceIte, Nat.reduceEqDiff, Nat.reduceLT, Nat.reduceLeDiff, Nat.reduceAdd, reduceCtorEq, Nat.reduceMul]
 apply_assumption
 refine AW.seq_k fun K2 h2 => ?_
 refine AW.seq_k fun K3 h3 => ?_
 refine AW.reg0 ?_
 iterate 5 (refine S.g rfl rfl fun Y Z => ?_; simp only [zz, reduceIte, Nat.reduceEqDiff, Nat.reduceLT, Nat.reduceLeDiff, Nat.reduceAdd, reduceCtorEq, Nat.reduceMul, sl34, el34, ok42, sz42, ag42]; refine Z _ _ ?_; clear Z Y)
 refine S.nil ?_
 simp only [ze, reduceIte, Nat.reduceEqDiff, Nat.reduceLT, Nat.reduceLeDiff, Nat.reduceAdd, reduceCtorEq, Nat.reduceMul]
 apply_assumption
 refine AW.cond (b := ((l.length : Int) != r.length)) (by simp [ev]) (fun hc => ?_) (fun hc => ?_)
 ·refine AW.seq_k fun K4 h4 => ?_
  refine AW.reg0 ?_
  (refine S.g rfl rfl fun Y Z => ?_; simp only [zz, reduceIte, Nat.reduceEqDiff, Nat.reduceAdd]; refine Z _ _ ?_; clear Z Y)
  refine S.nil ?_
  simp only [ze, reduceIte, Nat.reduceEqDiff, Nat.reduceLT, Nat.reduceLeDiff, Nat.reduceAdd, reduceCtorEq, Nat.reduceMul]
  apply_assumption
  refine AW.ret ?_
  simp only [zs, reduceIte, Nat.reduceEqDiff, Nat.reduceLT, Nat.reduceLeDiff, Nat.reduceAdd, reduceCtorEq, Nat.reduceMul]
  rw [allEq_len (by simp at hc; omega)]
 ·refine AW.skip ?_
  simp only [zs, reduceIte, Nat.reduceEqDiff, Nat.reduceLT, Nat.reduceLeDiff, Nat.reduceAdd, reduceCtorEq, Nat.reduceMul]
  apply_assumption
  have hlr : l.length = r.length := by simp at hc; omega
  refine AW.seq_k fun K5 h5 => ?_
  refine AW.seq_k fun K6 h6 => ?_
  refine AW.reg0 ?_
  (refine S.g rfl rfl fun Y Z => ?_; simp only [zz, reduceIte, Nat.reduceEqDiff, Nat.reduceAdd]; refine Z _ _ ?_; clear Z Y)
  refine S.nil ?_
  simp only [ze, reduceIte, Nat.reduceEqDiff, Nat.reduceLT, Nat.reduceLeDiff, Nat.reduceAdd, reduceCtorEq, Nat.reduceMul]
  apply_assumption
  refine AW.block ?_   -- 0
  refine AW.loop (fun m s σ => σ = Hp.empty ∧ ∃ i : Nat, m + i = l.length ∧ s.t 0 = .sl (l.map encAttr) ∧ s.t 1 = .sl (r.map encAttr) ∧ s.t 5 = .c (.int .i64 i) ∧ allEq eqAttr l r = allEq eqAttr (l.drop i) (r.drop i)) l.length ?_ ?_
  ·refine ⟨rfl, 0, by simp, ?_⟩
   simp only [zs, reduceIte, Nat.reduceEqDiff, Nat.reduceLT, Nat.reduceLeDiff, Nat.reduceAdd, reduceCtorEq, Nat.reduceMul]
   simp
  rintro m s σ ⟨rfl, i, hm, e0, e1, e5, hp⟩
  refine AW.seq_k fun K7 h7 => ?_
  refine AW.seq_k fun K8 h8 => ?_
  refine AW.reg0 ?_
  iterate 4 (refine S.g rfl rfl fun Y Z => ?_; simp only [zz, reduceIte, Nat.reduceEqDiff, Nat.reduceLT, Nat.reduceLeDiff, Nat.reduceAdd, reduceCtorEq, Nat.reduceMul, sl34, el34, ok42, sz42, ag42, e5, e0]; refine Z _ _ ?_; clear Z Y)
  refine S.nil ?_
  simp only [ze, reduceIte, Nat.reduceEqDiff, Nat.reduceLT, Nat.reduceLeDiff, Nat.reduceAdd, reduceCtorEq, Nat.reduceMul, e5, e0]
  apply_assumption
  refine AW.cond (b := decide (i < l.length)) (by simp [ev]) (fun hc => ?_) (fun hc => ?_)
  ·refine AW.skip ?_
   simp only [zs, reduceIte, Nat.reduceEqDiff, Nat.reduceLT, Nat.reduceLeDiff, Nat.reduceAdd, reduceCtorEq, Nat.reduceMul]
   apply_assumption
   have hi : i < l.length := by simpa using hc
   have hj : i < r.length := by omega
   have hg := getD_map (f := encAttr) hi
   have hg2 := getD_map (f := encAttr) hj
   have hd : l.drop i = l[i] :: l.drop (i + 1) := List.drop_eq_getElem_cons hi
   have hd2 : r.drop i = r[i] :: r.drop (i + 1) := List.drop_eq_getElem_cons hj
   generalize ha : l[i] = a at hg hd
   generalize hb : r[i] = b at hg2 hd2
   rw [hd, hd2, allEq] at hp
   have hw : IntKind.i64.wrap ((i : Int) + 1) = ((i + 1 : Nat) : Int) := by rw [wrap_small _ (by omega) (by omega)]; rfl
   refine AW.seq_k fun K9 h9 => ?_
   refine AW.block ?_   -- 1
   refine AW.seq_k fun K10 h10 => ?_
   refine AW.draw (T := { sd := fun _ => false, eqk := eqTab }) (eqTab_ok) mixedO [(0, 0), (1, 0), (2, 0), (4, 0), (5, 0), (6, 0), (3, 1), (7, 1), (8, 0)] rfl (by kernel_rfl) (by kernel_rfl) ?_
   iterate 6 (refine D.g rfl trivial rfl rfl fun Y Z => ?_; simp only [zz, reduceIte, Nat.reduceEqDiff, Nat.reduceLT, Nat.reduceLeDiff, Nat.reduceAdd, reduceCtorEq, Nat.reduceMul, sl34, el34, ok42, sz42, ag42, e0, e1, e5, hi, hj, hg, hg2, encAttr]; refine Z _ _ ?_; clear Z Y)
   iterate 2 (refine D.g rfl (by first | rfl | (simp only [stC, ze, reduceIte, Nat.reduceEqDiff, e0, e1, e5, hi, hj, hg, hg2, encAttr]; done) | (simp only [stC, ze, reduceIte, Nat.reduceEqDiff, e0, e1, e5, hi, hj, hg, hg2, encAttr]; rfl)) rfl rfl fun Y Z => ?_; simp only [zz, reduceIte, Nat.reduceEqDiff, Nat.reduceLT, Nat.reduceLeDiff, Nat.reduceAdd, reduceCtorEq, Nat.reduceMul, ok42, sz42, ag42, e0, e1, e5, hi, hj, hg, hg2, encAttr]; refine Z _ _ ?_; clear Z Y)
   (refine D.g rfl trivial rfl rfl fun Y Z => ?_; simp only [zz, reduceIte, Nat.reduceEqDiff, Nat.reduceAdd, eqk42, fitsAll, SK.fits, cellsEq, cellEq, e0, e1, e5, hi, hj, hg, hg2, encAttr]; refine Z _ _ ?_; clear Z Y)
   refine D.nil ?_
   simp only [ze, reduceIte, Nat.reduceEqDiff, Nat.reduceLT, Nat.reduceLeDiff, Nat.reduceAdd, reduceCtorEq, Nat.reduceMul, e0, e1, e5, hi, hj, hg, hg2, encAttr]
   apply_assumption
   refine AW.cond (b := !eqAttr a b) (by simp only [ev, St.put_t, Nat.reduceEqDiff, if_true]; rfl) (fun hc => ?_) (fun hc => ?_)
   ·refine AW.seq_k fun K11 h11 => ?_
    refine AW.reg0 ?_
    (refine S.g rfl rfl fun Y Z => ?_; simp only [zz, reduceIte, Nat.reduceEqDiff, Nat.reduceAdd]; refine Z _ _ ?_; clear Z Y)
    refine S.nil ?_
    simp only [ze, reduceIte, Nat.reduceEqDiff, Nat.reduceLT, Nat.reduceLeDiff, Nat.reduceAdd, reduceCtorEq, Nat.reduceMul]
    apply_assumption
    refine AW.ret ?_
    simp only [zs, reduceIte, Nat.reduceEqDiff, Nat.reduceLT, Nat.reduceLeDiff, Nat.reduceAdd, reduceCtorEq, Nat.reduceMul]
    have hx : eqAttr a b = false := by simpa using hc
    simp [hp, hx]
   ·refine AW.skip ?_
    simp only [zs, reduceIte, Nat.reduceEqDiff, Nat.reduceLT, Nat.reduceLeDiff, Nat.reduceAdd, reduceCtorEq, Nat.reduceMul]
    apply_assumption
    have hx : eqAttr a b = true := by simpa using hc
    refine AW.reg0 ?_
    iterate 3 (refine S.g rfl rfl fun Y Z => ?_; simp only [zz, reduceIte, Nat.reduceEqDiff, Nat.reduceAdd, e5, hw]; refine Z _ _ ?_; clear Z Y)
    refine S.nil ?_
    simp only [ze, reduceIte, Nat.reduceEqDiff, Nat.reduceLT, Nat.reduceLeDiff, Nat.reduceAdd, reduceCtorEq, Nat.reduceMul, e5, hw]
    refine ⟨m - 1, by omega, i + 1, by omega, e0, e1, rfl, ?_⟩
    rw [hp, hx, Bool.true_and]
  ·refine AW.exit ?_
   simp only [zs, reduceIte, Nat.reduceEqDiff, Nat.reduceLT, Nat.reduceLeDiff, Nat.reduceAdd, reduceCtorEq, Nat.reduceMul]
   -- EXIT 0
   apply_assumption
   refine AW.seq_k fun K12 h12 => ?_
   refine AW.reg0 ?_
   (refine S.g rfl rfl fun Y Z => ?_; simp only [zz, reduceIte, Nat.reduceEqDiff, Nat.reduceAdd]; refine Z _ _ ?_; clear Z Y)
   refine S.nil ?_
   simp only [ze, reduceIte, Nat.reduceEqDiff, Nat.reduceLT, Nat.reduceLeDiff, Nat.reduceAdd, reduceCtorEq, Nat.reduceMul]
   apply_assumption
   refine AW.ret ?_
   simp only [zs, reduceIte, Nat.reduceEqDiff, Nat.reduceLT, Nat.reduceLeDiff, Nat.reduceAdd, reduceCtorEq, Nat.reduceMul]
   have hi : l.length ≤ i := by simpa using hc
   simp [hp, List.drop_of_length_le hi, List.drop_of_length_le (hlr ▸ hi), allEq]
end Go.Abs.M
namespace Go.Abs.M
open Go Go.Abs Go.Proofs
set_option maxRecDepth 20000
set_option linter.unusedSimpArgs false
set_option linter.unusedVariables false
def eqEv (a b : Ev) : Bool := (a.src == b.src && a.seq == b.seq) && (a.time == b.time) && (a.type.toList == b.type.toList) && allEq eqAttr a.attrs b.attrs
def eqBd (a b : Bd) : Bool := (a.var.toList == b.var.toList) && eqEv a.ev b.ev
theorem rsame_ev (a b : Ev) (ha : a.attrs.length < 4611686018427387904) : PCalls Tryz.prog 32 [.agg (encEv a), .agg (encEv b)] (fun v => v = .c (.bool (eqEv a b))) := by
 refine PCalls.intro Tryz.call32 Tryz.func32 rfl Tryz.ntmps32 Tryz.results32 (by simp) ?_
 refine AW.seq_k fun K1 h1 => ?_
 all_goals refine AW.reg0 ?_
 all_goals iterate 3 (refine S.g rfl rfl fun Y Z => ?_; simp only [zz, reduceIte, Nat.reduceEqDiff, Nat.reduceLT, Nat.reduceLeDiff, Nat.reduceAdd, reduceCtorEq, Nat.reduceMul, ok36, sz36, ag36, encEv]; refine Z _ _ ?_; clear Z Y)
 all_goals refine S.nil ?_
 all_goals simp only [ze, reduceIte, Nat.reduceEqDiff, Nat.reduceLT, Nat.reduceLeDiff, Nat.reduceAdd, reduceCtorEq, Nat.reduceMul, encEv]
 all_goals apply_assumption
 refine AW.seq_j (fun s' σ' => σ' = Hp.empty ∧ s'.t 4 = .c (.bool (eqEv a b))) ?_ ?_
 ·skip
  all_goals refine AW.region (T := { eqk := eqTab }) (eqTab_ok) rfl ?_
  all_goals iterate 4 (refine S.g rfl rfl fun Y Z => ?_; simp only [zz, reduceIte, Nat.reduceEqDiff, Nat.reduceLT, Nat.reduceLeDiff, Nat.reduceAdd, reduceCtorEq, Nat.reduceMul, of36_0, ok33, sz33, ag33, encEv]; refine Z _ _ ?_; clear Z Y)
  all_goals (refine S.g rfl rfl fun Y Z => ?_; simp only [zz, reduceIte, Nat.reduceEqDiff, Nat.reduceLT, Nat.reduceLeDiff, Nat.reduceAdd, reduceCtorEq, Nat.reduceMul, eqk33, fitsAll, SK.fits, cellsEq, cellEq, encEv]; refine S.bool fun b a9 => ?_; cases b <;> (try (exfalso; first | exact Bool.noConfusion a9 | (have h := of_decide_eq_true a9; omega) | (have h := of_decide_eq_false a9; omega))) <;> (refine Z _ _ ?_; clear Z Y))
  all_goals (refine S.g rfl rfl fun Y Z => ?_; simp only [zz, reduceIte, Nat.reduceEqDiff, Nat.reduceAdd, encEv]; refine Z _ _ ?_; clear Z Y)
  all_goals iterate 4 (first | (refine S.y rfl rfl rfl rfl fun Y Z => ?_; simp only [zz, reduceIte, Nat.reduceEqDiff, Nat.reduceLT, Nat.reduceLeDiff, Nat.reduceAdd, reduceCtorEq, Nat.reduceMul, of36_1, ok2, sz2, ag2, encEv]; refine Z _ _ ?_; clear Z Y) | ((first | refine S.x rfl rfl rfl rfl fun Y Z => ?_ | refine S.u rfl rfl rfl rfl fun Y Z => ?_); simp only [ze, reduceIte, Nat.reduceEqDiff]; refine Z _ _ ?_; clear Z Y))
  all_goals (first | (refine S.y rfl rfl rfl rfl fun Y Z => ?_; simp only [zz, reduceIte, Nat.reduceEqDiff, Nat.reduceLT, Nat.reduceLeDiff, Nat.reduceAdd, reduceCtorEq, Nat.reduceMul, encEv]; refine S.bool fun b a15 => ?_; cases b <;> (try (exfalso; first | exact Bool.noConfusion a15 | (have h := of_decide_eq_true a15; omega) | (have h := of_decide_eq_false a15; omega))) <;> (refine Z _ _ ?_; clear Z Y)) | ((first | refine S.x rfl rfl rfl rfl fun Y Z => ?_ | refine S.u rfl rfl rfl rfl fun Y Z => ?_); simp only [ze, reduceIte, Nat.reduceEqDiff]; refine Z _ _ ?_; clear Z Y))
  all_goals iterate 2 (refine S.g rfl rfl fun Y Z => ?_; simp only [zz, reduceIte, Nat.reduceEqDiff, Nat.reduceAdd, encEv]; refine Z _ _ ?_; clear Z Y)
  all_goals iterate 4 (first | (refine S.y rfl rfl rfl rfl fun Y Z => ?_; simp only [zz, reduceIte, Nat.reduceEqDiff, Nat.reduceLT, Nat.reduceLeDiff, Nat.reduceAdd, reduceCtorEq, Nat.reduceMul, of36_2, ok9, sz9, ag9, encEv]; refine Z _ _ ?_; clear Z Y) | ((first | refine S.x rfl rfl rfl rfl fun Y Z => ?_ | refine S.u rfl rfl rfl rfl fun Y Z => ?_); simp only [ze, reduceIte, Nat.reduceEqDiff]; refine Z _ _ ?_; clear Z Y))
  all_goals (first | (refine S.y rfl rfl rfl rfl fun Y Z => ?_; simp only [zz, reduceIte, Nat.reduceEqDiff, Nat.reduceLT, Nat.reduceLeDiff, Nat.reduceAdd, reduceCtorEq, Nat.reduceMul, encEv]; refine S.bool fun b a22 => ?_; cases b <;> (try (exfalso; first | exact Bool.noConfusion a22 | (have h := of_decide_eq_true a22; omega) | (have h := of_decide_eq_false a22; omega))) <;> (refine Z _ _ ?_; clear Z Y)) | ((first | refine S.x rfl rfl rfl rfl fun Y Z => ?_ | refine S.u rfl rfl rfl rfl fun Y Z => ?_); simp only [ze, reduceIte, Nat.reduceEqDiff]; refine Z _ _ ?_; clear Z Y))
  all_goals iterate 2 (refine S.g rfl rfl fun Y Z => ?_; simp only [zz, reduceIte, Nat.reduceEqDiff, Nat.reduceAdd, encEv]; refine Z _ _ ?_; clear Z Y)
  all_goals iterate 4 (first | (refine S.y rfl rfl rfl rfl fun Y Z => ?_; simp only [zz, reduceIte, Nat.reduceEqDiff, Nat.reduceLT, Nat.reduceLeDiff, Nat.reduceAdd, reduceCtorEq, Nat.reduceMul, of36_3, ok34, sz34, ag34, encEv]; refine Z _ _ ?_; clear Z Y) | ((first | refine S.x rfl rfl rfl rfl fun Y Z => ?_ | refine S.u rfl rfl rfl rfl fun Y Z => ?_); simp only [ze, reduceIte, Nat.reduceEqDiff]; refine Z _ _ ?_; clear Z Y))
  all_goals (first | (refine S.y rfl rfl rfl rfl fun Y Z => ?_; simp only [zz, reduceIte, Nat.reduceEqDiff, Nat.reduceLT, Nat.reduceLeDiff, Nat.reduceAdd, reduceCtorEq, Nat.reduceMul, encEv]; refine PCalls.eqto (rsame_attrs _ _ (by assumption)) ?_ <;> (refine Z _ _ ?_; clear Z Y)) | ((first | refine S.x rfl rfl rfl rfl fun Y Z => ?_ | refine S.u rfl rfl rfl rfl fun Y Z => ?_); simp only [ze, reduceIte, Nat.reduceEqDiff]; refine Z _ _ ?_; clear Z Y))
  all_goals iterate 2 (refine S.g rfl rfl fun Y Z => ?_; simp only [zz, reduceIte, Nat.reduceEqDiff, Nat.reduceAdd, encEv]; refine Z _ _ ?_; clear Z Y)
  all_goals refine S.nil ?_
  all_goals simp only [ze, reduceIte, Nat.reduceEqDiff, Nat.reduceLT, Nat.reduceLeDiff, Nat.reduceAdd, reduceCtorEq, Nat.reduceMul, encEv]
  all_goals simp_all [eqEv]
 rintro s σ ⟨rfl, e4⟩
 refine AW.ret ?_
 all_goals simp only [zs, reduceIte, Nat.reduceEqDiff, Nat.reduceLT, Nat.reduceLeDiff, Nat.reduceAdd, reduceCtorEq, Nat.reduceMul, e4]
theorem rsame_part (l r : List Bd) (hl : l.length < 4611686018427387904) (hla : ∀ b ∈ l, b.ev.attrs.length < 4611686018427387904) : PCalls Tryz.prog 10 [.agg [.sl (l.map encBd)], .agg [.sl (r.map encBd)]] (fun v => v = .c (.bool (allEq eqBd l r))) := by
 refine PCalls.intro Tryz.call10 Tryz.func10 rfl Tryz.ntmps10 Tryz.results10 (by simp) ?_
 refine AW.seq_k fun K1 h1 => ?_
 all_goals refine AW.reg0 ?_
 all_goals iterate 3 (refine S.g rfl rfl fun Y Z => ?_; simp only [zz, reduceIte, Nat.reduceEqDiff, Nat.reduceLT, Nat.reduceLeDiff, Nat.reduceAdd, reduceCtorEq, Nat.reduceMul, ok24, sz24, ag24]; refine Z _ _ ?_; clear Z Y)
 all_goals refine S.nil ?_
 all_goals simp only [ze, reduceIte, Nat.reduceEqDiff, Nat.reduceLT, Nat.reduceLeDiff, Nat.reduceAdd, reduceCtorEq, Nat.reduceMul]
 all_goals apply_assumption
 refine AW.seq_k fun K2 h2 => ?_
 refine AW.seq_k fun K3 h3 => ?_
 all_goals refine AW.reg0 ?_
 all_goals iterate 7 (refine S.g rfl rfl fun Y Z => ?_; simp only [zz, reduceIte, Nat.reduceEqDiff, Nat.reduceLT, Nat.reduceLeDiff, Nat.reduceAdd, reduceCtorEq, Nat.reduceMul, of24_0, ok22, sz22, ag22, sl22, el22, ok38, sz38, ag38]; refine Z _ _ ?_; clear Z Y)
 all_goals refine S.nil ?_
 all_goals simp only [ze, reduceIte, Nat.reduceEqDiff, Nat.reduceLT, Nat.reduceLeDiff, Nat.reduceAdd, reduceCtorEq, Nat.reduceMul]
 all_goals apply_assumption
 refine AW.cond (b := ((l.length : Int) != r.length)) (by simp [ev]) (fun hc => ?_) (fun hc => ?_)
 ·refine AW.seq_k fun K4 h4 => ?_
  all_goals refine AW.reg0 ?_
  all_goals (refine S.g rfl rfl fun Y Z => ?_; simp only [zz, reduceIte, Nat.reduceEqDiff, Nat.reduceAdd]; refine Z _ _ ?_; clear Z Y)
  all_goals refine S.nil ?_
  all_goals simp only [ze, reduceIte, Nat.reduceEqDiff, Nat.reduceLT, Nat.reduceLeDiff, Nat.reduceAdd, reduceCtorEq, Nat.reduceMul]
  all_goals apply_assumption
  refine AW.ret ?_
  all_goals simp only [zs, reduceIte, Nat.reduceEqDiff, Nat.reduceLT, Nat.reduceLeDiff, Nat.reduceAdd, reduceCtorEq, Nat.reduceMul]
  rw [allEq_len (by simp at hc; omega)]
 ·refine AW.skip ?_
  all_goals simp only [zs, reduceIte, Nat.reduceEqDiff, Nat.reduceLT, Nat.reduceLeDiff, Nat.reduceAdd, reduceCtorEq, Nat.reduceMul]
  all_goals apply_assumption
  have hlr : l.length = r.length := by simp at hc; omega
  refine AW.seq_k fun K5 h5 => ?_
  refine AW.seq_k fun K6 h6 => ?_
  all_goals refine AW.reg0 ?_
  all_goals (refine S.g rfl rfl fun Y Z => ?_; simp only [zz, reduceIte, Nat.reduceEqDiff, Nat.reduceAdd]; refine Z _ _ ?_; clear Z Y)
  all_goals refine S.nil ?_
  all_goals simp only [ze, reduceIte, Nat.reduceEqDiff, Nat.reduceLT, Nat.reduceLeDiff, Nat.reduceAdd, reduceCtorEq, Nat.reduceMul]
  all_goals apply_assumption
  refine AW.block ?_   -- 0
  refine AW.loop (fun m s σ => σ = Hp.empty ∧ ∃ i : Nat, m + i = l.length ∧ s.t 2 = .lp 2 0 ∧ s.l 2 = some [.sl (l.map encBd)] ∧ s.t 3 = .lp 3 0 ∧ s.l 3 = some [.sl (r.map encBd)] ∧ s.t 5 = .c (.int .i64 i) ∧ allEq eqBd l r = allEq eqBd (l.drop i) (r.drop i)) l.length ?_ ?_
  ·refine ⟨rfl, 0, by simp, ?_⟩
   all_goals simp only [zs, reduceIte, Nat.reduceEqDiff, Nat.reduceLT, Nat.reduceLeDiff, Nat.reduceAdd, reduceCtorEq, Nat.reduceMul]
   simp
  rintro m s σ ⟨rfl, i, hm, e2, l2, e3, l3, e5, hp⟩
  refine AW.seq_k fun K7 h7 => ?_
  refine AW.seq_k fun K8 h8 => ?_
  all_goals refine AW.reg0 ?_
  all_goals iterate 5 (refine S.g rfl rfl fun Y Z => ?_; simp only [zz, reduceIte, Nat.reduceEqDiff, Nat.reduceLT, Nat.reduceLeDiff, Nat.reduceAdd, reduceCtorEq, Nat.reduceMul, of24_0, ok22, sz22, ag22, sl22, el22, ok38, sz38, ag38, e5, e2, l2]; refine Z _ _ ?_; clear Z Y)
  all_goals refine S.nil ?_
  all_goals simp only [ze, reduceIte, Nat.reduceEqDiff, Nat.reduceLT, Nat.reduceLeDiff, Nat.reduceAdd, reduceCtorEq, Nat.reduceMul, e5, e2, l2]
  all_goals apply_assumption
  refine AW.cond (b := decide (i < l.length)) (by simp [ev]) (fun hc => ?_) (fun hc => ?_)
  ·refine AW.skip ?_
   all_goals simp only [zs, reduceIte, Nat.reduceEqDiff, Nat.reduceLT, Nat.reduceLeDiff, Nat.reduceAdd, reduceCtorEq, Nat.reduceMul]
   all_goals apply_assumption
   have hi : i < l.length := by simpa using hc
   have hj : i < r.length := by omega
   have hg := getD_map (f := encBd) hi
   have hg2 := getD_map (f := encBd) hj
   have hd : l.drop i = l[i] :: l.drop (i + 1) := List.drop_eq_getElem_cons hi
   have hd2 : r.drop i = r[i] :: r.drop (i + 1) := List.drop_eq_getElem_cons hj
   have hn1 := hla _ (List.getElem_mem hi)
   generalize ha : l[i] = a at hg hd hn1
   generalize hb : r[i] = b at hg2 hd2
   rw [hd, hd2, allEq] at hp
   have hw : IntKind.i64.wrap ((i : Int) + 1) = ((i + 1 : Nat) : Int) := by rw [wrap_small _ (by omega) (by omega)]; rfl
   refine AW.seq_k fun K9 h9 => ?_
   refine AW.block ?_   -- 1
   refine AW.seq_j (fun s' σ' => σ' = Hp.empty ∧ s'.t 2 = .lp 2 0 ∧ s'.l 2 = some [.sl (l.map encBd)] ∧ s'.t 3 = .lp 3 0 ∧ s'.l 3 = some [.sl (r.map encBd)] ∧ s'.t 5 = .c (.int .i64 i) ∧ s'.t 48 = .c (.bool (!eqBd a b))) ?_ ?_
   ·clear hp hd hd2
    all_goals refine AW.draw (T := { sd := fun d => d == 2 || d == 3 }) (fun _ _ h => by cases h) mixedO [(0, 0), (2, 0), (6, 0), (8, 0), (1, 1), (3, 0), (4, 0), (5, 1), (7, 1), (9, 0), (10, 0), (11, 1), (12, 0), (13, 0), (14, 0), (16, 0), (20, 0), (22, 0), (15, 1), (17, 0), (18, 0), (19, 1), (21, 1), (23, 0), (24, 0), (25, 1), (26, 2), (27, 0), (28, 0)] rfl (by kernel_rfl) (by kernel_rfl) ?_
    all_goals iterate 4 (refine D.g rfl trivial rfl rfl fun Y Z => ?_; simp only [zz, reduceIte, Nat.reduceEqDiff, Nat.reduceLT, Nat.reduceLeDiff, Nat.reduceAdd, reduceCtorEq, Nat.reduceMul, of24_0, e2, l2, e3, l3, e5, hi, hj, hg, hg2, encBd]; refine Z _ _ ?_; clear Z Y)
    all_goals (refine D.g rfl (by first | rfl | (simp only [stC, ze, reduceIte, Nat.reduceEqDiff, e2, l2, e3, l3, e5, hi, hj, hg, hg2, encBd]; done) | (simp only [stC, ze, reduceIte, Nat.reduceEqDiff, e2, l2, e3, l3, e5, hi, hj, hg, hg2, encBd]; rfl)) rfl rfl fun Y Z => ?_; simp only [zz, reduceIte, Nat.reduceEqDiff, Nat.reduceLT, Nat.reduceLeDiff, Nat.reduceAdd, reduceCtorEq, Nat.reduceMul, ok22, sz22, ag22, e2, l2, e3, l3, e5, hi, hj, hg, hg2, encBd]; refine Z _ _ ?_; clear Z Y)
    all_goals iterate 2 (refine D.g rfl trivial rfl rfl fun Y Z => ?_; simp only [zz, reduceIte, Nat.reduceEqDiff, Nat.reduceLT, Nat.reduceLeDiff, Nat.reduceAdd, reduceCtorEq, Nat.reduceMul, sl22, el22, ok38, sz38, ag38, of38_0, e2, l2, e3, l3, e5, hi, hj, hg, hg2, encBd]; refine Z _ _ ?_; clear Z Y)
    all_goals iterate 2 (refine D.g rfl (by first | rfl | (simp only [stC, ze, reduceIte, Nat.reduceEqDiff, e2, l2, e3, l3, e5, hi, hj, hg, hg2, encBd]; done) | (simp only [stC, ze, reduceIte, Nat.reduceEqDiff, e2, l2, e3, l3, e5, hi, hj, hg, hg2, encBd]; rfl)) rfl rfl fun Y Z => ?_; simp only [zz, reduceIte, Nat.reduceEqDiff, Nat.reduceLT, Nat.reduceLeDiff, Nat.reduceAdd, reduceCtorEq, Nat.reduceMul, ok9, sz9, ag9, ok22, sz22, ag22, e2, l2, e3, l3, e5, hi, hj, hg, hg2, encBd]; refine Z _ _ ?_; clear Z Y)
    all_goals iterate 2 (refine D.g rfl trivial rfl rfl fun Y Z => ?_; simp only [zz, reduceIte, Nat.reduceEqDiff, Nat.reduceLT, Nat.reduceLeDiff, Nat.reduceAdd, reduceCtorEq, Nat.reduceMul, sl22, el22, ok38, sz38, ag38, of38_0, e2, l2, e3, l3, e5, hi, hj, hg, hg2, encBd]; refine Z _ _ ?_; clear Z Y)
    all_goals (refine D.g rfl (by first | rfl | (simp only [stC, ze, reduceIte, Nat.reduceEqDiff, e2, l2, e3, l3, e5, hi, hj, hg, hg2, encBd]; done) | (simp only [stC, ze, reduceIte, Nat.reduceEqDiff, e2, l2, e3, l3, e5, hi, hj, hg, hg2, encBd]; rfl)) rfl rfl fun Y Z => ?_; simp only [zz, reduceIte, Nat.reduceEqDiff, Nat.reduceLT, Nat.reduceLeDiff, Nat.reduceAdd, reduceCtorEq, Nat.reduceMul, ok9, sz9, ag9, e2, l2, e3, l3, e5, hi, hj, hg, hg2, encBd]; refine Z _ _ ?_; clear Z Y)
    all_goals (refine D.g rfl trivial rfl rfl fun Y Z => ?_; simp only [zz, reduceIte, Nat.reduceEqDiff, Nat.reduceLT, Nat.reduceLeDiff, Nat.reduceAdd, reduceCtorEq, Nat.reduceMul, e2, l2, e3, l3, e5, hi, hj, hg, hg2, encBd]; refine S.bool fun b a32 => ?_; cases b <;> (try (exfalso; first | exact Bool.noConfusion a32 | (have h := of_decide_eq_true a32; omega) | (have h := of_decide_eq_false a32; omega))) <;> (refine Z _ _ ?_; clear Z Y))
    all_goals (refine D.g rfl trivial rfl rfl fun Y Z => ?_; simp only [zz, reduceIte, Nat.reduceEqDiff, Nat.reduceAdd, e2, l2, e3, l3, e5, hi, hj, hg, hg2, encBd]; refine Z _ _ ?_; clear Z Y)
    all_goals iterate 4 (first | (refine D.y rfl trivial rfl rfl rfl rfl fun Y Z => ?_; simp only [zz, reduceIte, Nat.reduceEqDiff, Nat.reduceLT, Nat.reduceLeDiff, Nat.reduceAdd, reduceCtorEq, Nat.reduceMul, of24_0, e2, l2, e3, l3, e5, hi, hj, hg, hg2, encBd]; refine Z _ _ ?_; clear Z Y) | ((first | refine D.x rfl (fun h => by cases h) rfl rfl rfl rfl fun Y Z => ?_ | refine D.u rfl (fun h => by cases h) rfl rfl rfl rfl fun Y Z => ?_); simp only [ze, reduceIte, Nat.reduceEqDiff]; refine Z _ _ ?_; clear Z Y))
    all_goals (first | (refine D.y rfl (by first | rfl | (simp only [stC, ze, reduceIte, Nat.reduceEqDiff, e2, l2, e3, l3, e5, hi, hj, hg, hg2, encBd]; done) | (simp only [stC, ze, reduceIte, Nat.reduceEqDiff, e2, l2, e3, l3, e5, hi, hj, hg, hg2, encBd]; rfl)) rfl rfl rfl rfl fun Y Z => ?_; simp only [zz, reduceIte, Nat.reduceEqDiff, Nat.reduceLT, Nat.reduceLeDiff, Nat.reduceAdd, reduceCtorEq, Nat.reduceMul, ok22, sz22, ag22, e2, l2, e3, l3, e5, hi, hj, hg, hg2, encBd]; refine Z _ _ ?_; clear Z Y) | ((first | refine D.x rfl (fun _ => rfl) rfl rfl rfl rfl fun Y Z => ?_ | refine D.u rfl (fun _ => rfl) rfl rfl rfl rfl fun Y Z => ?_); simp only [ze, reduceIte, Nat.reduceEqDiff]; refine Z _ _ ?_; clear Z Y))
    all_goals iterate 2 (first | (refine D.y rfl trivial rfl rfl rfl rfl fun Y Z => ?_; simp only [zz, reduceIte, Nat.reduceEqDiff, Nat.reduceLT, Nat.reduceLeDiff, Nat.reduceAdd, reduceCtorEq, Nat.reduceMul, sl22, el22, ok38, sz38, ag38, of38_1, e2, l2, e3, l3, e5, hi, hj, hg, hg2, encBd]; refine Z _ _ ?_; clear Z Y) | ((first | refine D.x rfl (fun h => by cases h) rfl rfl rfl rfl fun Y Z => ?_ | refine D.u rfl (fun h => by cases h) rfl rfl rfl rfl fun Y Z => ?_); simp only [ze, reduceIte, Nat.reduceEqDiff]; refine Z _ _ ?_; clear Z Y))
    all_goals iterate 2 (first | (refine D.y rfl (by first | rfl | (simp only [stC, ze, reduceIte, Nat.reduceEqDiff, e2, l2, e3, l3, e5, hi, hj, hg, hg2, encBd]; done) | (simp only [stC, ze, reduceIte, Nat.reduceEqDiff, e2, l2, e3, l3, e5, hi, hj, hg, hg2, encBd]; rfl)) rfl rfl rfl rfl fun Y Z => ?_; simp only [zz, reduceIte, Nat.reduceEqDiff, Nat.reduceLT, Nat.reduceLeDiff, Nat.reduceAdd, reduceCtorEq, Nat.reduceMul, ok36, sz36, ag36, ok22, sz22, ag22, e2, l2, e3, l3, e5, hi, hj, hg, hg2, encBd]; refine Z _ _ ?_; clear Z Y) | ((first | refine D.x rfl (fun _ => rfl) rfl rfl rfl rfl fun Y Z => ?_ | refine D.u rfl (fun _ => rfl) rfl rfl rfl rfl fun Y Z => ?_); simp only [ze, reduceIte, Nat.reduceEqDiff]; refine Z _ _ ?_; clear Z Y))
    all_goals iterate 2 (first | (refine D.y rfl trivial rfl rfl rfl rfl fun Y Z => ?_; simp only [zz, reduceIte, Nat.reduceEqDiff, Nat.reduceLT, Nat.reduceLeDiff, Nat.reduceAdd, reduceCtorEq, Nat.reduceMul, sl22, el22, ok38, sz38, ag38, of38_1, e2, l2, e3, l3, e5, hi, hj, hg, hg2, encBd]; refine Z _ _ ?_; clear Z Y) | ((first | refine D.x rfl (fun h => by cases h) rfl rfl rfl rfl fun Y Z => ?_ | refine D.u rfl (fun h => by cases h) rfl rfl rfl rfl fun Y Z => ?_); simp only [ze, reduceIte, Nat.reduceEqDiff]; refine Z _ _ ?_; clear Z Y))
    all_goals (first | (refine D.y rfl (by first | rfl | (simp only [stC, ze, reduceIte, Nat.reduceEqDiff, e2, l2, e3, l3, e5, hi, hj, hg, hg2, encBd]; done) | (simp only [stC, ze, reduceIte, Nat.reduceEqDiff, e2, l2, e3, l3, e5, hi, hj, hg, hg2, encBd]; rfl)) rfl rfl rfl rfl fun Y Z => ?_; simp only [zz, reduceIte, Nat.reduceEqDiff, Nat.reduceLT, Nat.reduceLeDiff, Nat.reduceAdd, reduceCtorEq, Nat.reduceMul, ok36, sz36, ag36, e2, l2, e3, l3, e5, hi, hj, hg, hg2, encBd]; refine Z _ _ ?_; clear Z Y) | ((first | refine D.x rfl (fun _ => rfl) rfl rfl rfl rfl fun Y Z => ?_ | refine D.u rfl (fun _ => rfl) rfl rfl rfl rfl fun Y Z => ?_); simp only [ze, reduceIte, Nat.reduceEqDiff]; refine Z _ _ ?_; clear Z Y))
    all_goals (first | (refine D.y rfl trivial rfl rfl rfl rfl fun Y Z => ?_; simp only [zz, reduceIte, Nat.reduceEqDiff, Nat.reduceLT, Nat.reduceLeDiff, Nat.reduceAdd, reduceCtorEq, Nat.reduceMul, e2, l2, e3, l3, e5, hi, hj, hg, hg2, encBd]; refine PCalls.eqto (rsame_ev _ _ (by assumption)) ?_ <;> (refine Z _ _ ?_; clear Z Y)) | ((first | refine D.x rfl (fun h => by cases h) rfl rfl rfl rfl fun Y Z => ?_ | refine D.u rfl (fun h => by cases h) rfl rfl rfl rfl fun Y Z => ?_); simp only [ze, reduceIte, Nat.reduceEqDiff]; refine Z _ _ ?_; clear Z Y))
    all_goals (first | (refine D.y rfl trivial rfl rfl rfl rfl fun Y Z => ?_; simp only [zz, reduceIte, Nat.reduceEqDiff, Nat.reduceAdd, e2, l2, e3, l3, e5, hi, hj, hg, hg2, encBd]; refine Z _ _ ?_; clear Z Y) | ((first | refine D.x rfl (fun h => by cases h) rfl rfl rfl rfl fun Y Z => ?_ | refine D.u rfl (fun h => by cases h) rfl rfl rfl rfl fun Y Z => ?_); simp only [ze, reduceIte, Nat.reduceEqDiff]; refine Z _ _ ?_; clear Z Y))
    all_goals (refine D.g rfl trivial rfl rfl fun Y Z => ?_; simp only [zz, reduceIte, Nat.reduceEqDiff, Nat.reduceAdd, e2, l2, e3, l3, e5, hi, hj, hg, hg2, encBd]; refine Z _ _ ?_; clear Z Y)
    all_goals refine D.nil ?_
    all_goals simp only [ze, reduceIte, Nat.reduceEqDiff, Nat.reduceLT, Nat.reduceLeDiff, Nat.reduceAdd, reduceCtorEq, Nat.reduceMul, e2, l2, e3, l3, e5, hi, hj, hg, hg2, encBd]
    all_goals simp_all [eqBd]
   rintro s1 σ1 ⟨rfl, f2, k2, f3, k3, f5, f48⟩
   refine AW.cond (b := !eqBd a b) f48 (fun hc => ?_) (fun hc => ?_)
   ·refine AW.seq_k fun K10 h10 => ?_
    all_goals refine AW.reg0 ?_
    all_goals (refine S.g rfl rfl fun Y Z => ?_; simp only [zz, reduceIte, Nat.reduceEqDiff, Nat.reduceAdd]; refine Z _ _ ?_; clear Z Y)
    all_goals refine S.nil ?_
    all_goals simp only [ze, reduceIte, Nat.reduceEqDiff, Nat.reduceLT, Nat.reduceLeDiff, Nat.reduceAdd, reduceCtorEq, Nat.reduceMul]
    all_goals apply_assumption
    refine AW.ret ?_
    all_goals simp only [zs, reduceIte, Nat.reduceEqDiff, Nat.reduceLT, Nat.reduceLeDiff, Nat.reduceAdd, reduceCtorEq, Nat.reduceMul]
    have hx : eqBd a b = false := by simpa using hc
    simp [hp, hx]
   ·refine AW.skip ?_
    all_goals simp only [zs, reduceIte, Nat.reduceEqDiff, Nat.reduceLT, Nat.reduceLeDiff, Nat.reduceAdd, reduceCtorEq, Nat.reduceMul]
    all_goals apply_assumption
    have hx : eqBd a b = true := by simpa using hc
    all_goals refine AW.reg0 ?_
    all_goals iterate 3 (refine S.g rfl rfl fun Y Z => ?_; simp only [zz, reduceIte, Nat.reduceEqDiff, Nat.reduceAdd, f5, hw]; refine Z _ _ ?_; clear Z Y)
    all_goals refine S.nil ?_
    all_goals simp only [ze, reduceIte, Nat.reduceEqDiff, Nat.reduceLT, Nat.reduceLeDiff, Nat.reduceAdd, reduceCtorEq, Nat.reduceMul, f5, hw]
    refine ⟨m - 1, by omega, i + 1, by omega, f2, k2, f3, k3, rfl, ?_⟩
    rw [hp, hx, Bool.true_and]
  ·refine AW.exit ?_
   all_goals simp only [zs, reduceIte, Nat.reduceEqDiff, Nat.reduceLT, Nat.reduceLeDiff, Nat.reduceAdd, reduceCtorEq, Nat.reduceMul]
   -- EXIT 0
   all_goals apply_assumption
   refine AW.seq_k fun K11 h11 => ?_
   all_goals refine AW.reg0 ?_
   all_goals (refine S.g rfl rfl fun Y Z => ?_; simp only [zz, reduceIte, Nat.reduceEqDiff, Nat.reduceAdd]; refine Z _ _ ?_; clear Z Y)
   all_goals refine S.nil ?_
   all_goals simp only [ze, reduceIte, Nat.reduceEqDiff, Nat.reduceLT, Nat.reduceLeDiff, Nat.reduceAdd, reduceCtorEq, Nat.reduceMul]
   all_goals apply_assumption
   refine AW.ret ?_
   all_goals simp only [zs, reduceIte, Nat.reduceEqDiff, Nat.reduceLT, Nat.reduceLeDiff, Nat.reduceAdd, reduceCtorEq, Nat.reduceMul]
   have hi : l.length ≤ i := by simpa using hc
   simp [hp, List.drop_of_length_le hi, List.drop_of_length_le (hlr ▸ hi), allEq]
end Go.Abs.M
namespace Go.Abs.M
open Go Go.Abs Go.Proofs
set_option maxRecDepth 20000
set_option linter.unusedSimpArgs false
set_option linter.unusedVariables false
def cmpS (a b : ByteArray) : Int := if Op.bytesLess a.toList b.toList then -1 else if (Op.bytesLess a.toList b.toList || a.toList == b.toList) then 0 else 1
theorem isnan_spec (a : ByteArray) : PCalls Tryz.prog 47 [.c (.string a)] (fun v => v = .c (.bool false)) := by
 refine PCalls.intro Tryz.call47 Tryz.func47 rfl Tryz.ntmps47 Tryz.results47 (by simp) ?_
 refine AW.seq_k fun K1 h1 => ?_
 all_goals refine AW.reg0 ?_
 all_goals (refine S.g rfl rfl fun Y Z => ?_; simp only [zz, reduceIte, Nat.reduceEqDiff, Nat.reduceAdd]; refine Z _ _ ?_; clear Z Y)
 all_goals refine S.nil ?_
 all_goals simp only [ze, reduceIte, Nat.reduceEqDiff, Nat.reduceLeDiff, Nat.reduceAdd]
 all_goals apply_assumption
 refine AW.seq_k fun K2 h2 => ?_
 all_goals refine AW.reg0 ?_
 all_goals iterate 4 (refine S.g rfl rfl fun Y Z => ?_; simp only [zz, reduceIte, Nat.reduceEqDiff, Nat.reduceAdd]; refine Z _ _ ?_; clear Z Y)
 all_goals refine S.nil ?_
 all_goals simp only [ze, reduceIte, Nat.reduceEqDiff, Nat.reduceLeDiff, Nat.reduceAdd]
 all_goals apply_assumption
 refine AW.ret ?_
 all_goals simp only [zs, reduceIte, Nat.reduceEqDiff, Nat.reduceLeDiff, Nat.reduceAdd]
 all_goals simp
theorem compare_str (a b : ByteArray) : PCalls Tryz.prog 25 [.c (.string a), .c (.string b)] (fun v => v = .c (.int .i64 (cmpS a b))) := by
 refine PCalls.intro Tryz.call25 Tryz.func25 rfl Tryz.ntmps25 Tryz.results25 (by simp) ?_
 refine AW.seq_k fun K1 h1 => ?_
 refine AW.reg0 ?_
 (refine S.g rfl rfl fun Y Z => ?_; simp only [zz, reduceIte, Nat.reduceEqDiff, Nat.reduceAdd]; refine Z _ _ ?_; clear Z Y)
 refine S.nil ?_
 simp only [ze, reduceIte, Nat.reduceEqDiff, Nat.reduceLeDiff, Nat.reduceAdd]
 apply_assumption
 refine AW.seq_k fun K2 h2 => ?_
 refine AW.reg0 ?_
 (refine S.g rfl rfl fun Y Z => ?_; simp only [zz, reduceIte, Nat.reduceEqDiff, Nat.reduceAdd]; refine Z _ _ ?_; clear Z Y)
 (refine S.g rfl rfl fun Y Z => ?_; simp only [zz, reduceIte, Nat.reduceEqDiff, Nat.reduceLeDiff, Nat.reduceAdd]; refine PCalls.eqto (isnan_spec _) ?_ <;> (refine Z _ _ ?_; clear Z Y))
 (refine S.g rfl rfl fun Y Z => ?_; simp only [zz, reduceIte, Nat.reduceEqDiff, Nat.reduceAdd]; refine Z _ _ ?_; clear Z Y)
 refine S.nil ?_
 simp only [ze, reduceIte, Nat.reduceEqDiff, Nat.reduceLeDiff, Nat.reduceAdd]
 apply_assumption
 refine AW.seq_k fun K3 h3 => ?_
 refine AW.reg0 ?_
 (refine S.g rfl rfl fun Y Z => ?_; simp only [zz, reduceIte, Nat.reduceEqDiff, Nat.reduceAdd]; refine Z _ _ ?_; clear Z Y)
 (refine S.g rfl rfl fun Y Z => ?_; simp only [zz, reduceIte, Nat.reduceEqDiff, Nat.reduceLeDiff, Nat.reduceAdd]; refine PCalls.eqto (isnan_spec _) ?_ <;> (refine Z _ _ ?_; clear Z Y))
 (refine S.g rfl rfl fun Y Z => ?_; simp only [zz, reduceIte, Nat.reduceEqDiff, Nat.reduceAdd]; refine Z _ _ ?_; clear Z Y)
 refine S.nil ?_
 simp only [ze, reduceIte, Nat.reduceEqDiff, Nat.reduceLeDiff, Nat.reduceAdd]
 apply_assumption
 refine AW.seq_k fun K4 h4 => ?_
 refine AW.seq_k fun K5 h5 => ?_
 refine AW.reg0 ?_
 (refine S.g rfl rfl fun Y Z => ?_; simp only [zz, reduceIte, Nat.reduceEqDiff, Nat.reduceAdd]; refine Z _ _ ?_; clear Z Y)
 refine S.nil ?_
 simp only [ze, reduceIte, Nat.reduceEqDiff, Nat.reduceLeDiff, Nat.reduceAdd]
 apply_assumption
 refine AW.cond (b := false) (by simp [ev]) (fun hc => by cases hc) (fun hc => ?_)
 refine AW.skip ?_
 simp only [zs, reduceIte, Nat.reduceEqDiff, Nat.reduceLeDiff, Nat.reduceAdd]
 apply_assumption
 refine AW.seq_k fun K6 h6 => ?_
 refine AW.seq_k fun K7 h7 => ?_
 refine AW.reg0 ?_
 (refine S.g rfl rfl fun Y Z => ?_; simp only [zz, reduceIte, Nat.reduceEqDiff, Nat.reduceAdd]; refine Z _ _ ?_; clear Z Y)
 refine S.nil ?_
 simp only [ze, reduceIte, Nat.reduceEqDiff, Nat.reduceLeDiff, Nat.reduceAdd]
 apply_assumption
 refine AW.cond (b := false) (by simp [ev]) (fun hc => by cases hc) (fun hc => ?_)
 refine AW.skip ?_
 simp only [zs, reduceIte, Nat.reduceEqDiff, Nat.reduceLeDiff, Nat.reduceAdd]
 apply_assumption
 refine AW.seq_k fun K8 h8 => ?_
 refine AW.seq_k fun K9 h9 => ?_
 refine AW.reg0 ?_
 iterate 3 (refine S.g rfl rfl fun Y Z => ?_; simp only [zz, reduceIte, Nat.reduceEqDiff, Nat.reduceAdd]; refine Z _ _ ?_; clear Z Y)
 refine S.nil ?_
 simp only [ze, reduceIte, Nat.reduceEqDiff, Nat.reduceLeDiff, Nat.reduceAdd]
 apply_assumption
 refine AW.cond (b := Op.bytesLess a.toList b.toList) (by simp [ev]) (fun hc => ?_) (fun hc => ?_)
 ·refine AW.seq_k fun K10 h10 => ?_
  refine AW.reg0 ?_
  (refine S.g rfl rfl fun Y Z => ?_; simp only [zz, reduceIte, Nat.reduceEqDiff, Nat.reduceAdd]; refine Z _ _ ?_; clear Z Y)
  refine S.nil ?_
  simp only [ze, reduceIte, Nat.reduceEqDiff, Nat.reduceLeDiff, Nat.reduceAdd]
  apply_assumption
  refine AW.ret ?_
  simp only [zs, reduceIte, Nat.reduceEqDiff, Nat.reduceLeDiff, Nat.reduceAdd]
  simp [cmpS, hc]
 ·refine AW.skip ?_
  simp only [zs, reduceIte, Nat.reduceEqDiff, Nat.reduceLeDiff, Nat.reduceAdd]
  apply_assumption
  refine AW.seq_k fun K11 h11 => ?_
  refine AW.seq_k fun K12 h12 => ?_
  refine AW.reg0 ?_
  iterate 3 (refine S.g rfl rfl fun Y Z => ?_; simp only [zz, reduceIte, Nat.reduceEqDiff, Nat.reduceAdd]; refine Z _ _ ?_; clear Z Y)
  refine S.nil ?_
  simp only [ze, reduceIte, Nat.reduceEqDiff, Nat.reduceLeDiff, Nat.reduceAdd]
  apply_assumption
  refine AW.cond (b := !(Op.bytesLess a.toList b.toList || a.toList == b.toList)) (by simp [ev]) (fun hc2 => ?_) (fun hc2 => ?_)
  ·refine AW.seq_k fun K13 h13 => ?_
   refine AW.reg0 ?_
   (refine S.g rfl rfl fun Y Z => ?_; simp only [zz, reduceIte, Nat.reduceEqDiff, Nat.reduceAdd]; refine Z _ _ ?_; clear Z Y)
   refine S.nil ?_
   simp only [ze, reduceIte, Nat.reduceEqDiff, Nat.reduceLeDiff, Nat.reduceAdd]
   apply_assumption
   refine AW.ret ?_
   simp only [zs, reduceIte, Nat.reduceEqDiff, Nat.reduceLeDiff, Nat.reduceAdd]
   rw [Bool.not_eq_true'] at hc2
   rw [cmpS, if_neg (by rw [hc]; simp), if_neg (by rw [hc2]; simp)]
  ·refine AW.skip ?_
   simp only [zs, reduceIte, Nat.reduceEqDiff, Nat.reduceLeDiff, Nat.reduceAdd]
   apply_assumption
   refine AW.seq_k fun K14 h14 => ?_
   refine AW.reg0 ?_
   (refine S.g rfl rfl fun Y Z => ?_; simp only [zz, reduceIte, Nat.reduceEqDiff, Nat.reduceAdd]; refine Z _ _ ?_; clear Z Y)
   refine S.nil ?_
   simp only [ze, reduceIte, Nat.reduceEqDiff, Nat.reduceLeDiff, Nat.reduceAdd]
   apply_assumption
   refine AW.ret ?_
   simp only [zs, reduceIte, Nat.reduceEqDiff, Nat.reduceLeDiff, Nat.reduceAdd]
   rw [Bool.not_eq_false'] at hc2
   rw [cmpS, if_neg (by rw [hc]; simp), if_pos hc2]
/-- slices.Grow of nil: an empty list that may grow. -/
theorem grow_spec (n : Nat) (hn : n * 80 ≤ 140737488355328) : ACalls Tryz.prog 45 [.c (.slice none 0 0), .c (.int .i64 n)] Hp.empty (fun v σ' => (v = .c (.slice none 0 0) ∧ σ' = Hp.empty ∧ n = 0) ∨ ∃ k, v = .gl k ∧ σ' = Hp.empty.setGr k (some ((38, 6), []))) := by
 refine ACalls.introR Tryz.call45 Tryz.func45 rfl Tryz.ntmps45 Tryz.results45 (by simp) ?_
 refine AW.seq_k fun K1 h1 => ?_
 refine AW.reg0 ?_
 (refine S.g rfl rfl fun Y Z => ?_; simp only [zz, reduceIte, Nat.reduceEqDiff, Nat.reduceAdd]; refine Z _ _ ?_; clear Z Y)
 refine S.nil ?_
 simp only [ze, reduceIte, Nat.reduceEqDiff, Nat.reduceLeDiff, Nat.reduceAdd]
 apply_assumption
 refine AW.seq_k fun K2 h2 => ?_
 refine AW.seq_k fun K3 h3 => ?_
 refine AW.reg0 ?_
 iterate 2 (refine S.g rfl rfl fun Y Z => ?_; simp only [zz, reduceIte, Nat.reduceEqDiff, Nat.reduceAdd]; refine Z _ _ ?_; clear Z Y)
 refine S.nil ?_
 simp only [ze, reduceIte, Nat.reduceEqDiff, Nat.reduceLeDiff, Nat.reduceAdd]
 apply_assumption
 refine AW.cond (b := decide ((n : Int) < 0)) (by simp [ev]) (fun hc => ?_) (fun hc => ?_)
 ·have := of_decide_eq_true hc; omega
 refine AW.skip ?_
 simp only [zs, reduceIte, Nat.reduceEqDiff, Nat.reduceLeDiff, Nat.reduceAdd]
 apply_assumption
 have hw : IntKind.i64.wrap ((n : Int) - 0) = (n : Int) := by rw [wrap_small _ (by omega) (by omega)]; omega
 have hw0 : IntKind.i64.wrap (0 - ((0 : Nat) : Int)) = 0 := by rw [wrap_small _ (by omega) (by omega)]; rfl
 refine AW.seq_k fun K4 h4 => ?_
 refine AW.seq_k fun K5 h5 => ?_
 refine AW.reg0 ?_
 iterate 8 (refine S.g rfl rfl fun Y Z => ?_; simp only [zz, reduceIte, Nat.reduceEqDiff, Nat.reduceLeDiff, Nat.reduceAdd, sl22, el22, ok38, sz38, ag38, hw, hw0]; refine Z _ _ ?_; clear Z Y)
 refine S.nil ?_
 simp only [ze, reduceIte, Nat.reduceEqDiff, Nat.reduceLeDiff, Nat.reduceAdd, hw, hw0]
 apply_assumption
 refine AW.seq_k fun K6 h6 => ?_
 refine AW.reg0 ?_
 iterate 2 (refine S.g rfl rfl fun Y Z => ?_; simp only [zz, reduceIte, Nat.reduceEqDiff, Nat.reduceAdd]; refine Z _ _ ?_; clear Z Y)
 refine S.nil ?_
 simp only [ze, reduceIte, Nat.reduceEqDiff, Nat.reduceLeDiff, Nat.reduceAdd]
 apply_assumption
 refine AW.cond (b := decide ((n : Int) > 0)) (by simp [ev]) (fun hc => ?_) (fun hc => ?_)
 ·have hn0 : 0 < n := by have := of_decide_eq_true hc; omega
  refine AW.reg0 ?_
  iterate 5 (refine S.g rfl rfl fun Y Z => ?_; simp only [zz, reduceIte, Nat.reduceEqDiff, Nat.reduceLeDiff, Nat.reduceAdd, sl22, el22, ok38, sz38, ag38]; refine Z _ _ ?_; clear Z Y)
  (refine S.g rfl rfl fun Y Z => ?_; simp only [zz, reduceIte, Nat.reduceEqDiff, Nat.reduceLeDiff, Nat.reduceAdd, sl22, el22, ok38, sz38, ag38, zt38, by38, (Tryz.underlying3), TypeDesc.int.injEq]; (first | refine ⟨by omega, by unfold maxLen; omega, by unfold reach; omega, fun k1 hk1 => ?_⟩ | refine ⟨rfl, by omega, by unfold maxLen; omega, by unfold reach; omega, fun k1 hk1 => ?_⟩) <;> (refine Z _ _ ?_; clear Z Y))
  iterate 2 (refine S.g rfl rfl fun Y Z => ?_; simp only [zz, reduceIte, Nat.reduceEqDiff, Nat.reduceLeDiff, Nat.reduceAdd, sl22, el22, ok38, sz38, ag38]; refine Z _ _ ?_; clear Z Y)
  (refine S.g rfl rfl fun Y Z => ?_; simp only [zz, reduceIte, Nat.reduceEqDiff, Nat.reduceLeDiff, Nat.reduceAdd, sl22, el22, ok38, sz38, ag38]; (first | refine ⟨Nat.zero_le _, fun k2 hk2 => ?_⟩ | refine fun k2 hk2 => ?_) <;> (refine Z _ _ ?_; clear Z Y))
  (refine S.g rfl rfl fun Y Z => ?_; simp only [zz, reduceIte, Nat.reduceEqDiff, Nat.reduceAdd]; refine Z _ _ ?_; clear Z Y)
  refine S.nil ?_
  simp only [ze, reduceIte, Nat.reduceEqDiff, Nat.reduceLeDiff, Nat.reduceAdd]
  apply_assumption
  refine AW.seq_k fun K7 h7 => ?_
  refine AW.reg0 ?_
  iterate 2 (refine S.g rfl rfl fun Y Z => ?_; simp only [zz, reduceIte, Nat.reduceEqDiff, Nat.reduceAdd]; refine Z _ _ ?_; clear Z Y)
  refine S.nil ?_
  simp only [ze, reduceIte, Nat.reduceEqDiff, Nat.reduceLeDiff, Nat.reduceAdd]
  apply_assumption
  refine AW.ret ?_
  simp only [zs, reduceIte, Nat.reduceEqDiff, Nat.reduceLeDiff, Nat.reduceAdd]
  exact .inr ⟨k2, rfl, rfl⟩
 ·have hn0 : n = 0 := by have := of_decide_eq_false hc; omega
  refine AW.skip ?_
  simp only [zs, reduceIte, Nat.reduceEqDiff, Nat.reduceLeDiff, Nat.reduceAdd]
  apply_assumption
  refine AW.seq_k fun K8 h8 => ?_
  refine AW.reg0 ?_
  iterate 2 (refine S.g rfl rfl fun Y Z => ?_; simp only [zz, reduceIte, Nat.reduceEqDiff, Nat.reduceAdd]; refine Z _ _ ?_; clear Z Y)
  refine S.nil ?_
  simp only [ze, reduceIte, Nat.reduceEqDiff, Nat.reduceLeDiff, Nat.reduceAdd]
  apply_assumption
  refine AW.ret ?_
  simp only [zs, reduceIte, Nat.reduceEqDiff, Nat.reduceLeDiff, Nat.reduceAdd]
  exact .inl hn0
end Go.Abs.M
namespace Go.Abs.M
open Go Go.Abs Go.Proofs
set_option maxRecDepth 20000
set_option linter.unusedSimpArgs false
set_option linter.unusedVariables false
def encL (l : List Bd) : List V := [.sl (l.map encBd)]
def tot (ls : List (List Bd)) : Nat := (ls.map List.length).sum
theorem tot_snoc (ls : List (List Bd)) (l : List Bd) : tot (ls ++ [l]) = tot ls + l.length := by simp [tot]
theorem tot_take (ls : List (List Bd)) (i : Nat) : tot (ls.take i) ≤ tot ls := by
 have : tot ls = tot (ls.take i) + tot (ls.drop i) := by
  simp only [tot, List.map_take, List.map_drop]
  rw [← List.sum_append, List.take_append_drop]
 omega
theorem flat_tot (ls : List (List Bd)) : ls.flatten.length = tot ls := by simp [tot, List.length_flatten]
end Go.Abs.M
namespace Go.Abs.M
open Go Go.Abs Go.Proofs
set_option maxRecDepth 20000
set_option linter.unusedSimpArgs false
set_option linter.unusedVariables false
theorem of_spec (nm : ByteArray) (e : Ev) (hp : okP [⟨nm, e⟩]) (hl : e.attrs.length * 48 ≤ 140737488355328) : PCalls Tryz.prog 26 [.c (.string nm), .agg (encEv e)]
  (fun v => v = if partErr [⟨nm, e⟩] ≠ 0 then .tup [.agg [.sl []], .c (.int .i64 (partErr [⟨nm, e⟩]))] else .tup [.agg [.sl ([(⟨nm, e⟩ : Bd)].map encBd)], .c (.int .i64 0)]) := by
 refine PCalls.intro Tryz.call26 Tryz.func26 rfl Tryz.ntmps26 Tryz.results26 (by simp) ?_
 refine AW.seq_k fun K1 h1 => ?_
 refine AW.reg0 ?_
 iterate 3 (refine S.g rfl rfl fun Y Z => ?_; simp only [zz, reduceIte, Nat.reduceEqDiff, Nat.reduceLT, Nat.reduceLeDiff, Nat.reduceAdd, reduceCtorEq, Nat.reduceMul, ok36, sz36, ag36, zt24, encEv]; refine Z _ _ ?_; clear Z Y)
 refine S.nil ?_
 simp only [ze, reduceIte, Nat.reduceEqDiff, Nat.reduceLT, Nat.reduceLeDiff, Nat.reduceAdd, reduceCtorEq, Nat.reduceMul, encEv]
 apply_assumption
 refine AW.seq_k fun K2 h2 => ?_
 refine AW.reg0 ?_
 iterate 2 (refine S.g rfl rfl fun Y Z => ?_; simp only [zz, reduceIte, Nat.reduceEqDiff, Nat.reduceLT, Nat.reduceLeDiff, Nat.reduceAdd, reduceCtorEq, Nat.reduceMul, ok36, sz36, ag36, encEv]; refine Z _ _ ?_; clear Z Y)
 (refine S.g rfl rfl fun Y Z => ?_; simp only [zz, reduceIte, Nat.reduceEqDiff, Nat.reduceLT, Nat.reduceLeDiff, Nat.reduceAdd, reduceCtorEq, Nat.reduceMul, encEv]; refine PCalls.eqto (clone_ev _ (by assumption)) ?_ <;> (refine Z _ _ ?_; clear Z Y))
 (refine S.g rfl rfl fun Y Z => ?_; simp only [zz, reduceIte, Nat.reduceEqDiff, Nat.reduceLT, Nat.reduceLeDiff, Nat.reduceAdd, reduceCtorEq, Nat.reduceMul, zt38, pl38, encEv]; refine Z _ _ ?_; clear Z Y)
 (refine S.g rfl rfl fun Y Z => ?_; simp only [zb, reduceIte, Nat.reduceEqDiff, Nat.reduceLT, Nat.reduceLeDiff, Nat.reduceAdd, reduceCtorEq, Nat.reduceMul, sl22, el22, ok38, sz38, ag38, zt38, by38, encEv]; refine Z _ _ ?_; clear Z Y)
 (refine S.g rfl rfl fun Y Z => ?_; simp only [zz, reduceIte, Nat.reduceEqDiff, Nat.reduceLT, Nat.reduceLeDiff, Nat.reduceAdd, reduceCtorEq, Nat.reduceMul, zt24, pl24, encEv]; refine Z _ _ ?_; clear Z Y)
 iterate 2 (refine S.g rfl rfl fun Y Z => ?_; simp only [zz, reduceIte, Nat.reduceEqDiff, Nat.reduceLT, Nat.reduceLeDiff, Nat.reduceAdd, reduceCtorEq, Nat.reduceMul, zt24, ok24, sz24, ag24, encEv]; refine Z _ _ ?_; clear Z Y)
 refine S.nil ?_
 simp only [ze, reduceIte, Nat.reduceEqDiff, Nat.reduceLT, Nat.reduceLeDiff, Nat.reduceAdd, reduceCtorEq, Nat.reduceMul, encEv]
 apply_assumption
 refine AW.seq_k fun K3 h3 => ?_
 refine AW.seq_k fun K4 h4 => ?_
 refine AW.reg0 ?_
 (refine S.g rfl rfl fun Y Z => ?_; simp only [zz, reduceIte, Nat.reduceEqDiff, Nat.reduceLT, Nat.reduceLeDiff, Nat.reduceAdd, reduceCtorEq, Nat.reduceMul, ok24, sz24, ag24]; refine Z _ _ ?_; clear Z Y)
 (refine S.g rfl rfl fun Y Z => ?_; simp only [zz, reduceIte, Nat.reduceEqDiff, Nat.reduceLT, Nat.reduceLeDiff, Nat.reduceAdd, reduceCtorEq, Nat.reduceMul]; refine PCalls.eqto (check_part [⟨nm, e⟩] (by assumption)) ?_ <;> (refine Z _ _ ?_; clear Z Y))
 (refine S.g rfl rfl fun Y Z => ?_; simp only [zz, reduceIte, Nat.reduceEqDiff, Nat.reduceAdd]; refine Z _ _ ?_; clear Z Y)
 refine S.nil ?_
 simp only [ze, reduceIte, Nat.reduceEqDiff, Nat.reduceLT, Nat.reduceLeDiff, Nat.reduceAdd, reduceCtorEq, Nat.reduceMul]
 apply_assumption
 refine AW.seq_k fun K5 h5 => ?_
 refine AW.reg0 ?_
 iterate 2 (refine S.g rfl rfl fun Y Z => ?_; simp only [zz, reduceIte, Nat.reduceEqDiff, Nat.reduceAdd]; refine Z _ _ ?_; clear Z Y)
 refine S.nil ?_
 simp only [ze, reduceIte, Nat.reduceEqDiff, Nat.reduceLT, Nat.reduceLeDiff, Nat.reduceAdd, reduceCtorEq, Nat.reduceMul]
 apply_assumption
 refine AW.cond (b := partErr [⟨nm, e⟩] != 0) (by simp [ev]) (fun hc => ?_) (fun hc => ?_)
 ·have hx : partErr [⟨nm, e⟩] ≠ 0 := by simpa using hc
  refine AW.seq_k fun K6 h6 => ?_
  refine AW.reg0 ?_
  (refine S.g rfl rfl fun Y Z => ?_; simp only [zz, reduceIte, Nat.reduceEqDiff, Nat.reduceLT, Nat.reduceLeDiff, Nat.reduceAdd, reduceCtorEq, Nat.reduceMul, zt24, pl24]; refine Z _ _ ?_; clear Z Y)
  iterate 3 (refine S.g rfl rfl fun Y Z => ?_; simp only [zz, reduceIte, Nat.reduceEqDiff, Nat.reduceLT, Nat.reduceLeDiff, Nat.reduceAdd, reduceCtorEq, Nat.reduceMul, ok24, sz24, ag24]; refine Z _ _ ?_; clear Z Y)
  refine S.nil ?_
  simp only [ze, reduceIte, Nat.reduceEqDiff, Nat.reduceLT, Nat.reduceLeDiff, Nat.reduceAdd, reduceCtorEq, Nat.reduceMul]
  apply_assumption
  refine AW.ret ?_
  simp only [zs, reduceIte, Nat.reduceEqDiff, Nat.reduceLT, Nat.reduceLeDiff, Nat.reduceAdd, reduceCtorEq, Nat.reduceMul, qLoad, ok24, sz24, ag24, cut, List.drop_zero, List.take_succ_cons, List.take_zero, List.map]
  exact (if_pos hx).symm
 ·have hx : ¬ partErr [⟨nm, e⟩] ≠ 0 := by simpa using hc
  refine AW.skip ?_
  simp only [zs, reduceIte, Nat.reduceEqDiff, Nat.reduceLT, Nat.reduceLeDiff, Nat.reduceAdd, reduceCtorEq, Nat.reduceMul]
  apply_assumption
  refine AW.seq_k fun K7 h7 => ?_
  refine AW.reg0 ?_
  iterate 3 (refine S.g rfl rfl fun Y Z => ?_; simp only [zz, reduceIte, Nat.reduceEqDiff, Nat.reduceLT, Nat.reduceLeDiff, Nat.reduceAdd, reduceCtorEq, Nat.reduceMul, ok24, sz24, ag24]; refine Z _ _ ?_; clear Z Y)
  refine S.nil ?_
  simp only [ze, reduceIte, Nat.reduceEqDiff, Nat.reduceLT, Nat.reduceLeDiff, Nat.reduceAdd, reduceCtorEq, Nat.reduceMul]
  apply_assumption
  refine AW.ret ?_
  simp only [zs, reduceIte, Nat.reduceEqDiff, Nat.reduceLT, Nat.reduceLeDiff, Nat.reduceAdd, reduceCtorEq, Nat.reduceMul, qLoad, ok24, sz24, ag24, cut, List.drop_zero, List.take_succ_cons, List.take_zero, List.map, encBd]
  exact (if_neg hx).symm
def encI (n : Int) : List V := [.c (.int .i64 n)]
theorem len_int (l : List Int) : ∀ (e : List V), e ∈ l.map encI → e.length = 1 := fun e he => by
  obtain ⟨a, _, rfl⟩ := List.mem_map.1 he; rfl
theorem times_spec (l : List Bd) (hn : l.length * 80 ≤ 140737488355328) : PCalls Tryz.prog 49 [.agg [.sl (l.map encBd)]] (fun v => v = .sl ((l.map (·.ev.time)).map encI)) := by
 refine PCalls.intro Tryz.call49 Tryz.func49 rfl Tryz.ntmps49 Tryz.results49 (by simp) ?_
 refine AW.seq_k fun K1 h1 => ?_
 refine AW.reg0 ?_
 iterate 2 (refine S.g rfl rfl fun Y Z => ?_; simp only [zz, reduceIte, Nat.reduceEqDiff, Nat.reduceLT, Nat.reduceLeDiff, Nat.reduceAdd, reduceCtorEq, Nat.reduceMul, ok24, sz24, ag24]; refine Z _ _ ?_; clear Z Y)
 refine S.nil ?_
 simp only [ze, reduceIte, Nat.reduceEqDiff, Nat.reduceLT, Nat.reduceLeDiff, Nat.reduceAdd, reduceCtorEq, Nat.reduceMul]
 apply_assumption
 refine AW.seq_k fun K2 h2 => ?_
 refine AW.reg0 ?_
 (refine S.g rfl rfl fun Y Z => ?_; simp only [zz, reduceIte, Nat.reduceEqDiff, Nat.reduceAdd]; refine Z _ _ ?_; clear Z Y)
 refine S.nil ?_
 simp only [ze, reduceIte, Nat.reduceEqDiff, Nat.reduceLT, Nat.reduceLeDiff, Nat.reduceAdd, reduceCtorEq, Nat.reduceMul]
 apply_assumption
 refine AW.seq_k fun K3 h3 => ?_
 refine AW.seq_k fun K4 h4 => ?_
 refine AW.reg0 ?_
 iterate 4 (refine S.g rfl rfl fun Y Z => ?_; simp only [zz, reduceIte, Nat.reduceEqDiff, Nat.reduceLT, Nat.reduceLeDiff, Nat.reduceAdd, reduceCtorEq, Nat.reduceMul, of24_0, ok22, sz22, ag22, sl22, el22, ok38, sz38, ag38]; refine Z _ _ ?_; clear Z Y)
 refine S.nil ?_
 simp only [ze, reduceIte, Nat.reduceEqDiff, Nat.reduceLT, Nat.reduceLeDiff, Nat.reduceAdd, reduceCtorEq, Nat.reduceMul]
 apply_assumption
 refine AW.block ?_   -- 0
 refine AW.loop (fun m s σ => ∃ i : Nat, m + i = l.length ∧ s.t 7 = .sl (l.map encBd) ∧ s.t 8 = .c (.int .i64 l.length) ∧ s.t 9 = .c (.int .i64 i) ∧
  ((i = 0 ∧ s.t 3 = .c (.slice none 0 0) ∧ σ = Hp.empty) ∨ ∃ k, s.t 3 = .gl k ∧ σ = Hp.empty.setGr k (some ((2, 1), ((l.take i).map (·.ev.time)).map encI)))) l.length ?_ ?_
 ·refine ⟨0, by simp, ?_⟩
  simp only [zs, reduceIte, Nat.reduceEqDiff, Nat.reduceLT, Nat.reduceLeDiff, Nat.reduceAdd, reduceCtorEq, Nat.reduceMul]
  simp
 rintro m s σ ⟨i, hm, e7, e8, e9, hk⟩
 refine AW.seq_k fun K5 h5 => ?_
 refine AW.reg0 ?_
 (refine S.g rfl rfl fun Y Z => ?_; simp only [zz, reduceIte, Nat.reduceEqDiff, Nat.reduceAdd, e9, e8]; refine Z _ _ ?_; clear Z Y)
 refine S.nil ?_
 simp only [ze, reduceIte, Nat.reduceEqDiff, Nat.reduceLT, Nat.reduceLeDiff, Nat.reduceAdd, reduceCtorEq, Nat.reduceMul, e9, e8]
 apply_assumption
 refine AW.seq_k fun K6 h6 => ?_
 refine AW.cond (b := decide (i < l.length)) (by simp [ev]) (fun hc => ?_) (fun hc => ?_)
 ·refine AW.skip ?_
  simp only [zs, reduceIte, Nat.reduceEqDiff, Nat.reduceLT, Nat.reduceLeDiff, Nat.reduceAdd, reduceCtorEq, Nat.reduceMul]
  apply_assumption
  have hi : i < l.length := by simpa using hc
  have hg := getD_map (f := encBd) hi
  have htk : l.take (i + 1) = l.take i ++ [l[i]] := by rw [List.take_append_getElem]
  generalize ha : l[i] = a at hg htk
  have hw : IntKind.i64.wrap ((i : Int) + 1) = ((i + 1 : Nat) : Int) := by rw [wrap_small _ (by omega) (by omega)]; rfl
  have htl : (l.take i).length = i := by rw [List.length_take]; omega
  refine AW.seq_k fun K7 h7 => ?_
  refine AW.block ?_   -- 1
  refine AW.seq_k fun K8 h8 => ?_
  refine AW.reg0 ?_
  iterate 4 (refine S.g rfl rfl fun Y Z => ?_; simp only [zz, reduceIte, Nat.reduceEqDiff, Nat.reduceLT, Nat.reduceLeDiff, Nat.reduceAdd, reduceCtorEq, Nat.reduceMul, sl22, el22, ok38, sz38, ag38, zt38, e7, e9, hi, hg, encBd]; refine Z _ _ ?_; clear Z Y)
  refine S.nil ?_
  simp only [ze, reduceIte, Nat.reduceEqDiff, Nat.reduceLT, Nat.reduceLeDiff, Nat.reduceAdd, reduceCtorEq, Nat.reduceMul, e7, e9, hi, hg, encBd]
  apply_assumption
  rcases hk with ⟨rfl, e3, rfl⟩ | ⟨k, e3, rfl⟩
  ·skip
   refine AW.reg0 ?_
   iterate 4 (refine S.g rfl rfl fun Y Z => ?_; simp only [zz, reduceIte, Nat.reduceEqDiff, Nat.reduceLT, Nat.reduceLeDiff, Nat.reduceAdd, reduceCtorEq, Nat.reduceMul, of38_1, of36_1, ok2, sz2, ag2, e3]; refine Z _ _ ?_; clear Z Y)
   (refine S.g rfl rfl fun Y Z => ?_; simp only [zb, reduceIte, Nat.reduceEqDiff, Nat.reduceLT, Nat.reduceLeDiff, Nat.reduceAdd, reduceCtorEq, Nat.reduceMul, sl94, el94, ok2, sz2, ag2, zt2, by2, e3]; refine Z _ _ ?_; clear Z Y)
   (refine S.g rfl rfl fun Y Z => ?_; simp only [zz, reduceIte, Nat.reduceEqDiff, Nat.reduceLT, Nat.reduceLeDiff, Nat.reduceAdd, reduceCtorEq, Nat.reduceMul, sl94, el94, ok2, sz2, ag2, zt2, by2, e3]; refine ⟨len_int [a.ev.time], by unfold maxLen; omega, by unfold reach; omega, fun k2 hk2 => ?_⟩ <;> (refine Z _ _ ?_; clear Z Y))
   (refine S.g rfl rfl fun Y Z => ?_; simp only [zz, reduceIte, Nat.reduceEqDiff, Nat.reduceAdd, e3]; refine Z _ _ ?_; clear Z Y)
   refine S.nil ?_
   simp only [ze, reduceIte, Nat.reduceEqDiff, Nat.reduceLT, Nat.reduceLeDiff, Nat.reduceAdd, reduceCtorEq, Nat.reduceMul, e3]
   apply_assumption
   refine AW.reg0 ?_
   iterate 2 (refine S.g rfl rfl fun Y Z => ?_; simp only [zz, reduceIte, Nat.reduceEqDiff, Nat.reduceAdd, e9, hw, e7, e8]; refine Z _ _ ?_; clear Z Y)
   refine S.nil ?_
   simp only [ze, reduceIte, Nat.reduceEqDiff, Nat.reduceLT, Nat.reduceLeDiff, Nat.reduceAdd, reduceCtorEq, Nat.reduceMul, e9, hw, e7, e8]
   refine ⟨m - 1, by omega, 1, by omega, rfl, .inr ⟨k2, rfl, ?_⟩⟩
   rw [show l.take 1 = [] ++ [a] from htk]; rfl
  ·skip
   refine AW.reg0 ?_
   iterate 4 (refine S.g rfl rfl fun Y Z => ?_; simp only [zz, reduceIte, Nat.reduceEqDiff, Nat.reduceLT, Nat.reduceLeDiff, Nat.reduceAdd, reduceCtorEq, Nat.reduceMul, of38_1, of36_1, ok2, sz2, ag2, e3, htl]; refine Z _ _ ?_; clear Z Y)
   (refine S.g rfl rfl fun Y Z => ?_; simp only [zb, reduceIte, Nat.reduceEqDiff, Nat.reduceLT, Nat.reduceLeDiff, Nat.reduceAdd, reduceCtorEq, Nat.reduceMul, sl94, el94, ok2, sz2, ag2, zt2, by2, e3, htl]; refine Z _ _ ?_; clear Z Y)
   (refine S.g rfl rfl fun Y Z => ?_; simp only [zz, reduceIte, Nat.reduceEqDiff, Nat.reduceLT, Nat.reduceLeDiff, Nat.reduceAdd, reduceCtorEq, Nat.reduceMul, sl94, el94, ok2, sz2, ag2, zt2, by2, e3, htl]; refine ⟨len_int [a.ev.time], by unfold maxLen; omega, by unfold reach; omega, fun k2 hk2 => ?_⟩ <;> (refine Z _ _ ?_; clear Z Y))
   (refine S.g rfl rfl fun Y Z => ?_; simp only [zz, reduceIte, Nat.reduceEqDiff, Nat.reduceAdd, e3, htl]; refine Z _ _ ?_; clear Z Y)
   refine S.nil ?_
   simp only [ze, reduceIte, Nat.reduceEqDiff, Nat.reduceLT, Nat.reduceLeDiff, Nat.reduceAdd, reduceCtorEq, Nat.reduceMul, e3, htl]
   apply_assumption
   refine AW.reg0 ?_
   iterate 2 (refine S.g rfl rfl fun Y Z => ?_; simp only [zz, reduceIte, Nat.reduceEqDiff, Nat.reduceAdd, e9, hw, e7, e8]; refine Z _ _ ?_; clear Z Y)
   refine S.nil ?_
   simp only [ze, reduceIte, Nat.reduceEqDiff, Nat.reduceLT, Nat.reduceLeDiff, Nat.reduceAdd, reduceCtorEq, Nat.reduceMul, e9, hw, e7, e8]
   refine ⟨m - 1, by omega, i + 1, by omega, rfl, .inr ⟨k2, rfl, ?_⟩⟩
   rw [htk, List.map_append, List.map_append]
   rfl
 ·refine AW.exit ?_
  simp only [zs, reduceIte, Nat.reduceEqDiff, Nat.reduceLT, Nat.reduceLeDiff, Nat.reduceAdd, reduceCtorEq, Nat.reduceMul]
  -- EXIT 0
  apply_assumption
  have hi : l.length ≤ i := by simpa using hc
  rcases hk with ⟨rfl, e3, rfl⟩ | ⟨k, e3, rfl⟩
  ·have h0 : l = [] := List.eq_nil_of_length_eq_zero (by omega)
   refine AW.seq_k fun K9 h9 => ?_
   refine AW.reg0 ?_
   iterate 2 (refine S.g rfl rfl fun Y Z => ?_; simp only [zz, reduceIte, Nat.reduceEqDiff, Nat.reduceAdd, e3]; refine Z _ _ ?_; clear Z Y)
   refine S.nil ?_
   simp only [ze, reduceIte, Nat.reduceEqDiff, Nat.reduceLT, Nat.reduceLeDiff, Nat.reduceAdd, reduceCtorEq, Nat.reduceMul, e3]
   apply_assumption
   refine AW.ret ?_
   simp only [zs, reduceIte, Nat.reduceEqDiff, Nat.reduceLT, Nat.reduceLeDiff, Nat.reduceAdd, reduceCtorEq, Nat.reduceMul, h0, List.map]
  ·rw [List.take_of_length_le hi]
   refine AW.seq_k fun K10 h10 => ?_
   refine AW.reg0 ?_
   iterate 2 (refine S.g rfl rfl fun Y Z => ?_; simp only [zz, reduceIte, Nat.reduceEqDiff, Nat.reduceAdd, e3]; refine Z _ _ ?_; clear Z Y)
   refine S.nil ?_
   simp only [ze, reduceIte, Nat.reduceEqDiff, Nat.reduceLT, Nat.reduceLeDiff, Nat.reduceAdd, reduceCtorEq, Nat.reduceMul, e3]
   apply_assumption
   refine AW.freeze (k := k) (T := (2, 1)) (es := (l.map (·.ev.time)).map encI) (by simp only [Hp.setGr_gr, if_true]) (AW.bare (AW.ret ?_))
   simp only [zs, reduceIte, Nat.reduceEqDiff, Nat.reduceLT, Nat.reduceLeDiff, Nat.reduceAdd, reduceCtorEq, Nat.reduceMul, fzV, fz1, St.fz_t, St.fz_l]
end Go.Abs.M
namespace Go.Abs.M
open Go Go.Abs Go.Proofs
set_option maxRecDepth 20000
set_option linter.unusedSimpArgs false
set_option linter.unusedVariables false
def minL (a : Int) (r : List Int) : Int := r.foldl (fun m b => if b < m then b else m) a
theorem min_spec (a : Int) (r : List Int) (hn : r.length < 4611686018427387904) : PCalls Tryz.prog 48 [.sl ((a :: r).map encI)] (fun v => v = .c (.int .i64 (minL a r))) := by
 refine PCalls.intro Tryz.call48 Tryz.func48 rfl Tryz.ntmps48 Tryz.results48 (by simp) ?_
 have hlen : (a :: r).length = r.length + 1 := rfl
 have hg0 : ((a :: r).map encI).getD 0 [] = encI a := rfl
 have hlm : ((a :: r).map encI).length = r.length + 1 := by simp
 generalize hes : (a :: r).map encI = es at hg0 hlm ⊢
 refine AW.seq_k fun K1 h1 => ?_
 refine AW.reg0 ?_
 (refine S.g rfl rfl fun Y Z => ?_; simp only [zz, reduceIte, Nat.reduceEqDiff, Nat.reduceAdd]; refine Z _ _ ?_; clear Z Y)
 refine S.nil ?_
 simp only [ze, reduceIte, Nat.reduceEqDiff, Nat.reduceLeDiff, Nat.reduceAdd]
 apply_assumption
 have hw0 : IntKind.i64.wrap ((r.length : Int) + 1) = ((r.length + 1 : Nat) : Int) := by rw [wrap_small _ (by omega) (by omega)]; rfl
 refine AW.seq_k fun K2 h2 => ?_
 refine AW.seq_k fun K3 h3 => ?_
 refine AW.reg0 ?_
 iterate 3 (refine S.g rfl rfl fun Y Z => ?_; simp only [zz, reduceIte, Nat.reduceEqDiff, Nat.reduceLeDiff, Nat.reduceAdd, sl94, el94, ok2, sz2, ag2, hlm]; refine Z _ _ ?_; clear Z Y)
 refine S.nil ?_
 simp only [ze, reduceIte, Nat.reduceEqDiff, Nat.reduceLeDiff, Nat.reduceAdd, hlm]
 apply_assumption
 refine AW.cond (b := decide (((r.length + 1 : Nat) : Int) < 1)) (by simp [ev]) (fun hc => ?_) (fun hc => ?_)
 ·have := of_decide_eq_true hc; omega
 refine AW.skip ?_
 simp only [zs, reduceIte, Nat.reduceEqDiff, Nat.reduceLeDiff, Nat.reduceAdd]
 apply_assumption
 have h00 : (0 : Int) < ((r.length + 1 : Nat) : Int) := by omega
 refine AW.seq_k fun K4 h4 => ?_
 refine AW.reg0 ?_
 iterate 4 (refine S.g rfl rfl fun Y Z => ?_; simp only [zz, reduceIte, Nat.reduceEqDiff, Nat.reduceLeDiff, Nat.reduceAdd, sl94, el94, ok2, sz2, ag2, hlm, hg0, encI, h00, Int.toNat_zero, Int.le_refl]; refine Z _ _ ?_; clear Z Y)
 refine S.nil ?_
 simp only [ze, reduceIte, Nat.reduceEqDiff, Nat.reduceLeDiff, Nat.reduceAdd, hlm, hg0, encI, h00, Int.toNat_zero, Int.le_refl]
 apply_assumption
 refine AW.seq_k fun K5 h5 => ?_
 refine AW.seq_k fun K6 h6 => ?_
 refine AW.reg0 ?_
 (refine S.g rfl rfl fun Y Z => ?_; simp only [zz, reduceIte, Nat.reduceEqDiff, Nat.reduceAdd]; refine Z _ _ ?_; clear Z Y)
 refine S.nil ?_
 simp only [ze, reduceIte, Nat.reduceEqDiff, Nat.reduceLeDiff, Nat.reduceAdd]
 apply_assumption
 refine AW.block ?_   -- 0
 refine AW.loop (fun m s σ => σ = Hp.empty ∧ ∃ j : Nat, m + j = r.length ∧ s.t 0 = .sl es ∧ s.t 4 = .c (.int .i64 ((j + 1 : Nat) : Int)) ∧ s.t 3 = .c (.int .i64 (minL a (r.take j)))) r.length ?_ ?_
 ·refine ⟨rfl, 0, by simp, ?_⟩
  simp only [zs, reduceIte, Nat.reduceEqDiff, Nat.reduceLeDiff, Nat.reduceAdd]
  exact ⟨rfl, rfl⟩
 rintro m s σ ⟨rfl, j, hm, e0, e4, e3⟩
 refine AW.seq_k fun K7 h7 => ?_
 refine AW.seq_k fun K8 h8 => ?_
 refine AW.reg0 ?_
 iterate 4 (refine S.g rfl rfl fun Y Z => ?_; simp only [zz, reduceIte, Nat.reduceEqDiff, Nat.reduceLeDiff, Nat.reduceAdd, sl94, el94, ok2, sz2, ag2, e0, e4, hlm]; refine Z _ _ ?_; clear Z Y)
 refine S.nil ?_
 simp only [ze, reduceIte, Nat.reduceEqDiff, Nat.reduceLeDiff, Nat.reduceAdd, e0, e4, hlm]
 apply_assumption
 refine AW.cond (b := decide (j + 1 < r.length + 1)) (by simp [ev]) (fun hc => ?_) (fun hc => ?_)
 ·refine AW.skip ?_
  simp only [zs, reduceIte, Nat.reduceEqDiff, Nat.reduceLeDiff, Nat.reduceAdd]
  apply_assumption
  have hj : j < r.length := by have := of_decide_eq_true hc; omega
  have hj1 : j + 1 < r.length + 1 := by omega
  have hg : es.getD (j + 1) [] = encI r[j] := by rw [← hes]; simp [hj]
  have htk : r.take (j + 1) = r.take j ++ [r[j]] := by rw [List.take_append_getElem]
  have hw : IntKind.i64.wrap (((j + 1 : Nat) : Int) + 1) = ((j + 1 + 1 : Nat) : Int) := by rw [wrap_small _ (by omega) (by omega)]; rfl
  generalize hb : r[j] = b at hg htk
  refine AW.seq_k fun K9 h9 => ?_
  refine AW.block ?_   -- 1
  refine AW.reg0 ?_
  iterate 7 (refine S.g rfl rfl fun Y Z => ?_; simp only [zz, reduceIte, Nat.reduceEqDiff, Nat.reduceLeDiff, Nat.reduceAdd, sl94, el94, ok2, sz2, ag2, e0, e4, e3, hlm, hg, encI, hj1]; refine Z _ _ ?_; clear Z Y)
  refine S.nil ?_
  simp only [ze, reduceIte, Nat.reduceEqDiff, Nat.reduceLeDiff, Nat.reduceAdd, e0, e4, e3, hlm, hg, encI, hj1]
  apply_assumption
  refine AW.reg0 ?_
  iterate 3 (refine S.g rfl rfl fun Y Z => ?_; simp only [zz, reduceIte, Nat.reduceEqDiff, Nat.reduceAdd, e4, hw]; refine Z _ _ ?_; clear Z Y)
  refine S.nil ?_
  simp only [ze, reduceIte, Nat.reduceEqDiff, Nat.reduceLeDiff, Nat.reduceAdd, e4, hw]
  refine ⟨m - 1, by omega, j + 1, by omega, e0, rfl, ?_⟩
  rw [htk]
  simp only [minL, List.foldl_append, List.foldl_cons, List.foldl_nil]
  first | done | rfl | (congr 1)
 ·refine AW.exit ?_
  simp only [zs, reduceIte, Nat.reduceEqDiff, Nat.reduceLeDiff, Nat.reduceAdd]
  -- EXIT 0
  apply_assumption
  have hj : r.length ≤ j := by have := of_decide_eq_false hc; omega
  rw [List.take_of_length_le hj] at e3
  refine AW.seq_k fun K10 h10 => ?_
  refine AW.reg0 ?_
  iterate 2 (refine S.g rfl rfl fun Y Z => ?_; simp only [zz, reduceIte, Nat.reduceEqDiff, Nat.reduceAdd, e3]; refine Z _ _ ?_; clear Z Y)
  refine S.nil ?_
  simp only [ze, reduceIte, Nat.reduceEqDiff, Nat.reduceLeDiff, Nat.reduceAdd, e3]
  apply_assumption
  refine AW.ret ?_
  simp only [zs, reduceIte, Nat.reduceEqDiff, Nat.reduceLeDiff, Nat.reduceAdd]
def maxL (a : Int) (r : List Int) : Int := r.foldl (fun m b => if m < b then b else m) a
theorem max_spec (a : Int) (r : List Int) (hn : r.length < 4611686018427387904) : PCalls Tryz.prog 50 [.sl ((a :: r).map encI)] (fun v => v = .c (.int .i64 (maxL a r))) := by
 refine PCalls.intro Tryz.call50 Tryz.func50 rfl Tryz.ntmps50 Tryz.results50 (by simp) ?_
 have hlen : (a :: r).length = r.length + 1 := rfl
 have hg0 : ((a :: r).map encI).getD 0 [] = encI a := rfl
 have hlm : ((a :: r).map encI).length = r.length + 1 := by simp
 generalize hes : (a :: r).map encI = es at hg0 hlm ⊢
 refine AW.seq_k fun K1 h1 => ?_
 refine AW.reg0 ?_
 (refine S.g rfl rfl fun Y Z => ?_; simp only [zz, reduceIte, Nat.reduceEqDiff, Nat.reduceAdd]; refine Z _ _ ?_; clear Z Y)
 refine S.nil ?_
 simp only [ze, reduceIte, Nat.reduceEqDiff, Nat.reduceLeDiff, Nat.reduceAdd]
 apply_assumption
 have hw0 : IntKind.i64.wrap ((r.length : Int) + 1) = ((r.length + 1 : Nat) : Int) := by rw [wrap_small _ (by omega) (by omega)]; rfl
 refine AW.seq_k fun K2 h2 => ?_
 refine AW.seq_k fun K3 h3 => ?_
 refine AW.reg0 ?_
 iterate 3 (refine S.g rfl rfl fun Y Z => ?_; simp only [zz, reduceIte, Nat.reduceEqDiff, Nat.reduceLeDiff, Nat.reduceAdd, sl94, el94, ok2, sz2, ag2, hlm]; refine Z _ _ ?_; clear Z Y)
 refine S.nil ?_
 simp only [ze, reduceIte, Nat.reduceEqDiff, Nat.reduceLeDiff, Nat.reduceAdd, hlm]
 apply_assumption
 refine AW.cond (b := decide (((r.length + 1 : Nat) : Int) < 1)) (by simp [ev]) (fun hc => ?_) (fun hc => ?_)
 ·have := of_decide_eq_true hc; omega
 refine AW.skip ?_
 simp only [zs, reduceIte, Nat.reduceEqDiff, Nat.reduceLeDiff, Nat.reduceAdd]
 apply_assumption
 have h00 : (0 : Int) < ((r.length + 1 : Nat) : Int) := by omega
 refine AW.seq_k fun K4 h4 => ?_
 refine AW.reg0 ?_
 iterate 4 (refine S.g rfl rfl fun Y Z => ?_; simp only [zz, reduceIte, Nat.reduceEqDiff, Nat.reduceLeDiff, Nat.reduceAdd, sl94, el94, ok2, sz2, ag2, hlm, hg0, encI, h00, Int.toNat_zero, Int.le_refl]; refine Z _ _ ?_; clear Z Y)
 refine S.nil ?_
 simp only [ze, reduceIte, Nat.reduceEqDiff, Nat.reduceLeDiff, Nat.reduceAdd, hlm, hg0, encI, h00, Int.toNat_zero, Int.le_refl]
 apply_assumption
 refine AW.seq_k fun K5 h5 => ?_
 refine AW.seq_k fun K6 h6 => ?_
 refine AW.reg0 ?_
 (refine S.g rfl rfl fun Y Z => ?_; simp only [zz, reduceIte, Nat.reduceEqDiff, Nat.reduceAdd]; refine Z _ _ ?_; clear Z Y)
 refine S.nil ?_
 simp only [ze, reduceIte, Nat.reduceEqDiff, Nat.reduceLeDiff, Nat.reduceAdd]
 apply_assumption
 refine AW.block ?_   -- 0
 refine AW.loop (fun m s σ => σ = Hp.empty ∧ ∃ j : Nat, m + j = r.length ∧ s.t 0 = .sl es ∧ s.t 4 = .c (.int .i64 ((j + 1 : Nat) : Int)) ∧ s.t 3 = .c (.int .i64 (maxL a (r.take j)))) r.length ?_ ?_
 ·refine ⟨rfl, 0, by simp, ?_⟩
  simp only [zs, reduceIte, Nat.reduceEqDiff, Nat.reduceLeDiff, Nat.reduceAdd]
  exact ⟨rfl, rfl⟩
 rintro m s σ ⟨rfl, j, hm, e0, e4, e3⟩
 refine AW.seq_k fun K7 h7 => ?_
 refine AW.seq_k fun K8 h8 => ?_
 refine AW.reg0 ?_
 iterate 4 (refine S.g rfl rfl fun Y Z => ?_; simp only [zz, reduceIte, Nat.reduceEqDiff, Nat.reduceLeDiff, Nat.reduceAdd, sl94, el94, ok2, sz2, ag2, e0, e4, hlm]; refine Z _ _ ?_; clear Z Y)
 refine S.nil ?_
 simp only [ze, reduceIte, Nat.reduceEqDiff, Nat.reduceLeDiff, Nat.reduceAdd, e0, e4, hlm]
 apply_assumption
 refine AW.cond (b := decide (j + 1 < r.length + 1)) (by simp [ev]) (fun hc => ?_) (fun hc => ?_)
 ·refine AW.skip ?_
  simp only [zs, reduceIte, Nat.reduceEqDiff, Nat.reduceLeDiff, Nat.reduceAdd]
  apply_assumption
  have hj : j < r.length := by have := of_decide_eq_true hc; omega
  have hj1 : j + 1 < r.length + 1 := by omega
  have hg : es.getD (j + 1) [] = encI r[j] := by rw [← hes]; simp [hj]
  have htk : r.take (j + 1) = r.take j ++ [r[j]] := by rw [List.take_append_getElem]
  have hw : IntKind.i64.wrap (((j + 1 : Nat) : Int) + 1) = ((j + 1 + 1 : Nat) : Int) := by rw [wrap_small _ (by omega) (by omega)]; rfl
  generalize hb : r[j] = b at hg htk
  refine AW.seq_k fun K9 h9 => ?_
  refine AW.block ?_   -- 1
  refine AW.reg0 ?_
  iterate 7 (refine S.g rfl rfl fun Y Z => ?_; simp only [zz, reduceIte, Nat.reduceEqDiff, Nat.reduceLeDiff, Nat.reduceAdd, sl94, el94, ok2, sz2, ag2, e0, e4, e3, hlm, hg, encI, hj1]; refine Z _ _ ?_; clear Z Y)
  refine S.nil ?_
  simp only [ze, reduceIte, Nat.reduceEqDiff, Nat.reduceLeDiff, Nat.reduceAdd, e0, e4, e3, hlm, hg, encI, hj1]
  apply_assumption
  refine AW.reg0 ?_
  iterate 3 (refine S.g rfl rfl fun Y Z => ?_; simp only [zz, reduceIte, Nat.reduceEqDiff, Nat.reduceAdd, e4, hw]; refine Z _ _ ?_; clear Z Y)
  refine S.nil ?_
  simp only [ze, reduceIte, Nat.reduceEqDiff, Nat.reduceLeDiff, Nat.reduceAdd, e4, hw]
  refine ⟨m - 1, by omega, j + 1, by omega, e0, rfl, ?_⟩
  rw [htk]
  simp only [maxL, List.foldl_append, List.foldl_cons, List.foldl_nil]
  first | done | rfl | (congr 1)
 ·refine AW.exit ?_
  simp only [zs, reduceIte, Nat.reduceEqDiff, Nat.reduceLeDiff, Nat.reduceAdd]
  -- EXIT 0
  apply_assumption
  have hj : r.length ≤ j := by have := of_decide_eq_false hc; omega
  rw [List.take_of_length_le hj] at e3
  refine AW.seq_k fun K10 h10 => ?_
  refine AW.reg0 ?_
  iterate 2 (refine S.g rfl rfl fun Y Z => ?_; simp only [zz, reduceIte, Nat.reduceEqDiff, Nat.reduceAdd, e3]; refine Z _ _ ?_; clear Z Y)
  refine S.nil ?_
  simp only [ze, reduceIte, Nat.reduceEqDiff, Nat.reduceLeDiff, Nat.reduceAdd, e3]
  apply_assumption
  refine AW.ret ?_
  simp only [zs, reduceIte, Nat.reduceEqDiff, Nat.reduceLeDiff, Nat.reduceAdd]
end Go.Abs.M
namespace Go.Abs.M
open Go Go.Abs Go.Proofs
set_option maxRecDepth 20000
set_option linter.unusedSimpArgs false
set_option linter.unusedVariables false
def beginOf (l : List Bd) : Int := match l.map (·.ev.time) with
  | [] => 0
  | a :: r => minL a r
theorem begin_spec (l : List Bd) (hn : l.length * 80 ≤ 140737488355328) : PCalls Tryz.prog 27 [.agg [.sl (l.map encBd)]] (fun v => v = .c (.int .i64 (beginOf l))) := by
 refine PCalls.intro Tryz.call27 Tryz.func27 rfl Tryz.ntmps27 Tryz.results27 (by simp) ?_
 refine AW.seq_k fun K1 h1 => ?_
 refine AW.reg0 ?_
 iterate 2 (refine S.g rfl rfl fun Y Z => ?_; simp only [zz, reduceIte, Nat.reduceEqDiff, Nat.reduceLT, Nat.reduceLeDiff, Nat.reduceAdd, reduceCtorEq, Nat.reduceMul, ok24, sz24, ag24]; refine Z _ _ ?_; clear Z Y)
 refine S.nil ?_
 simp only [ze, reduceIte, Nat.reduceEqDiff, Nat.reduceLT, Nat.reduceLeDiff, Nat.reduceAdd, reduceCtorEq, Nat.reduceMul]
 apply_assumption
 refine AW.seq_k fun K2 h2 => ?_
 refine AW.seq_k fun K3 h3 => ?_
 refine AW.reg0 ?_
 iterate 4 (refine S.g rfl rfl fun Y Z => ?_; simp only [zz, reduceIte, Nat.reduceEqDiff, Nat.reduceLT, Nat.reduceLeDiff, Nat.reduceAdd, reduceCtorEq, Nat.reduceMul, of24_0, ok22, sz22, ag22, sl22, el22, ok38, sz38, ag38]; refine Z _ _ ?_; clear Z Y)
 refine S.nil ?_
 simp only [ze, reduceIte, Nat.reduceEqDiff, Nat.reduceLT, Nat.reduceLeDiff, Nat.reduceAdd, reduceCtorEq, Nat.reduceMul]
 apply_assumption
 refine AW.cond (b := ((l.length : Int) == 0)) (by simp [ev]) (fun hc => ?_) (fun hc => ?_)
 ·refine AW.seq_k fun K4 h4 => ?_
  refine AW.reg0 ?_
  (refine S.g rfl rfl fun Y Z => ?_; simp only [zz, reduceIte, Nat.reduceEqDiff, Nat.reduceAdd]; refine Z _ _ ?_; clear Z Y)
  refine S.nil ?_
  simp only [ze, reduceIte, Nat.reduceEqDiff, Nat.reduceLT, Nat.reduceLeDiff, Nat.reduceAdd, reduceCtorEq, Nat.reduceMul]
  apply_assumption
  refine AW.ret ?_
  simp only [zs, reduceIte, Nat.reduceEqDiff, Nat.reduceLT, Nat.reduceLeDiff, Nat.reduceAdd, reduceCtorEq, Nat.reduceMul]
  have h0 : l = [] := List.eq_nil_of_length_eq_zero (by have h := beq_iff_eq.mp hc; omega)
  simp [h0, beginOf]
 ·refine AW.skip ?_
  simp only [zs, reduceIte, Nat.reduceEqDiff, Nat.reduceLT, Nat.reduceLeDiff, Nat.reduceAdd, reduceCtorEq, Nat.reduceMul]
  apply_assumption
  cases l with
  | nil => simp at hc
  | cons b r =>
  have hr : r.length + 1 = (b :: r).length := rfl
  have hn2 : (r.length + 1) * 80 ≤ 140737488355328 := hn
  refine AW.seq_k fun K5 h5 => ?_
  refine AW.reg0 ?_
  (refine S.g rfl rfl fun Y Z => ?_; simp only [zz, reduceIte, Nat.reduceEqDiff, Nat.reduceLT, Nat.reduceLeDiff, Nat.reduceAdd, reduceCtorEq, Nat.reduceMul, ok24, sz24, ag24]; refine Z _ _ ?_; clear Z Y)
  (refine S.g rfl rfl fun Y Z => ?_; simp only [zz, reduceIte, Nat.reduceEqDiff, Nat.reduceLT, Nat.reduceLeDiff, Nat.reduceAdd, reduceCtorEq, Nat.reduceMul]; refine PCalls.eqto (times_spec (b :: r) hn) ?_ <;> (refine Z _ _ ?_; clear Z Y))
  (refine S.g rfl rfl fun Y Z => ?_; simp only [zz, reduceIte, Nat.reduceEqDiff, Nat.reduceLT, Nat.reduceLeDiff, Nat.reduceAdd, reduceCtorEq, Nat.reduceMul]; refine PCalls.eqto (min_spec b.ev.time (r.map (fun x : Bd => x.ev.time)) (by rw [List.length_map]; omega)) ?_ <;> (refine Z _ _ ?_; clear Z Y))
  (refine S.g rfl rfl fun Y Z => ?_; simp only [zz, reduceIte, Nat.reduceEqDiff, Nat.reduceAdd]; refine Z _ _ ?_; clear Z Y)
  refine S.nil ?_
  simp only [ze, reduceIte, Nat.reduceEqDiff, Nat.reduceLT, Nat.reduceLeDiff, Nat.reduceAdd, reduceCtorEq, Nat.reduceMul]
  apply_assumption
  refine AW.ret ?_
  simp only [zs, reduceIte, Nat.reduceEqDiff, Nat.reduceLT, Nat.reduceLeDiff, Nat.reduceAdd, reduceCtorEq, Nat.reduceMul]
  rfl
def endOf (l : List Bd) : Int := match l.map (·.ev.time) with
  | [] => 0
  | a :: r => maxL a r
theorem end_spec (l : List Bd) (hn : l.length * 80 ≤ 140737488355328) : PCalls Tryz.prog 28 [.agg [.sl (l.map encBd)]] (fun v => v = .c (.int .i64 (endOf l))) := by
 refine PCalls.intro Tryz.call28 Tryz.func28 rfl Tryz.ntmps28 Tryz.results28 (by simp) ?_
 refine AW.seq_k fun K1 h1 => ?_
 refine AW.reg0 ?_
 iterate 2 (refine S.g rfl rfl fun Y Z => ?_; simp only [zz, reduceIte, Nat.reduceEqDiff, Nat.reduceLT, Nat.reduceLeDiff, Nat.reduceAdd, reduceCtorEq, Nat.reduceMul, ok24, sz24, ag24]; refine Z _ _ ?_; clear Z Y)
 refine S.nil ?_
 simp only [ze, reduceIte, Nat.reduceEqDiff, Nat.reduceLT, Nat.reduceLeDiff, Nat.reduceAdd, reduceCtorEq, Nat.reduceMul]
 apply_assumption
 refine AW.seq_k fun K2 h2 => ?_
 refine AW.seq_k fun K3 h3 => ?_
 refine AW.reg0 ?_
 iterate 4 (refine S.g rfl rfl fun Y Z => ?_; simp only [zz, reduceIte, Nat.reduceEqDiff, Nat.reduceLT, Nat.reduceLeDiff, Nat.reduceAdd, reduceCtorEq, Nat.reduceMul, of24_0, ok22, sz22, ag22, sl22, el22, ok38, sz38, ag38]; refine Z _ _ ?_; clear Z Y)
 refine S.nil ?_
 simp only [ze, reduceIte, Nat.reduceEqDiff, Nat.reduceLT, Nat.reduceLeDiff, Nat.reduceAdd, reduceCtorEq, Nat.reduceMul]
 apply_assumption
 refine AW.cond (b := ((l.length : Int) == 0)) (by simp [ev]) (fun hc => ?_) (fun hc => ?_)
 ·refine AW.seq_k fun K4 h4 => ?_
  refine AW.reg0 ?_
  (refine S.g rfl rfl fun Y Z => ?_; simp only [zz, reduceIte, Nat.reduceEqDiff, Nat.reduceAdd]; refine Z _ _ ?_; clear Z Y)
  refine S.nil ?_
  simp only [ze, reduceIte, Nat.reduceEqDiff, Nat.reduceLT, Nat.reduceLeDiff, Nat.reduceAdd, reduceCtorEq, Nat.reduceMul]
  apply_assumption
  refine AW.ret ?_
  simp only [zs, reduceIte, Nat.reduceEqDiff, Nat.reduceLT, Nat.reduceLeDiff, Nat.reduceAdd, reduceCtorEq, Nat.reduceMul]
  have h0 : l = [] := List.eq_nil_of_length_eq_zero (by have h := beq_iff_eq.mp hc; omega)
  simp [h0, endOf]
 ·refine AW.skip ?_
  simp only [zs, reduceIte, Nat.reduceEqDiff, Nat.reduceLT, Nat.reduceLeDiff, Nat.reduceAdd, reduceCtorEq, Nat.reduceMul]
  apply_assumption
  cases l with
  | nil => simp at hc
  | cons b r =>
  have hr : r.length + 1 = (b :: r).length := rfl
  have hn2 : (r.length + 1) * 80 ≤ 140737488355328 := hn
  refine AW.seq_k fun K5 h5 => ?_
  refine AW.reg0 ?_
  (refine S.g rfl rfl fun Y Z => ?_; simp only [zz, reduceIte, Nat.reduceEqDiff, Nat.reduceLT, Nat.reduceLeDiff, Nat.reduceAdd, reduceCtorEq, Nat.reduceMul, ok24, sz24, ag24]; refine Z _ _ ?_; clear Z Y)
  (refine S.g rfl rfl fun Y Z => ?_; simp only [zz, reduceIte, Nat.reduceEqDiff, Nat.reduceLT, Nat.reduceLeDiff, Nat.reduceAdd, reduceCtorEq, Nat.reduceMul]; refine PCalls.eqto (times_spec (b :: r) hn) ?_ <;> (refine Z _ _ ?_; clear Z Y))
  (refine S.g rfl rfl fun Y Z => ?_; simp only [zz, reduceIte, Nat.reduceEqDiff, Nat.reduceLT, Nat.reduceLeDiff, Nat.reduceAdd, reduceCtorEq, Nat.reduceMul]; refine PCalls.eqto (max_spec b.ev.time (r.map (fun x : Bd => x.ev.time)) (by rw [List.length_map]; omega)) ?_ <;> (refine Z _ _ ?_; clear Z Y))
  (refine S.g rfl rfl fun Y Z => ?_; simp only [zz, reduceIte, Nat.reduceEqDiff, Nat.reduceAdd]; refine Z _ _ ?_; clear Z Y)
  refine S.nil ?_
  simp only [ze, reduceIte, Nat.reduceEqDiff, Nat.reduceLT, Nat.reduceLeDiff, Nat.reduceAdd, reduceCtorEq, Nat.reduceMul]
  apply_assumption
  refine AW.ret ?_
  simp only [zs, reduceIte, Nat.reduceEqDiff, Nat.reduceLT, Nat.reduceLeDiff, Nat.reduceAdd, reduceCtorEq, Nat.reduceMul]
  rfl
end Go.Abs.M
namespace Go.Abs.MX
open Go Go.Abs Go.Proofs Go.Abs.M
set_option maxRecDepth 20000
set_option linter.unusedSimpArgs false
set_option linter.unusedVariables false
/-- A bound whose attributes may be told of in any way. -/
structure Bd where
  b : M.Bd
  av : V
  ok : okV av = true
  wk : wk1 av = av
abbrev Bd.var (x : Bd) : ByteArray := x.b.var
def encBd (x : Bd) : List V := [.c (.string x.b.var), .c (.int .i64 x.b.ev.src), .c (.int .i64 x.b.ev.seq), .c (.int .i64 x.b.ev.time), .c (.string x.b.ev.type), x.av]
theorem okAv (b : Bd) : okV b.av = true := b.ok
theorem wkAv (b : Bd) : wk1 b.av = b.av := b.wk
theorem less_x (a b : Bd) : PCalls Tryz.prog 24 [.agg (encBd a), .agg (encBd b)] (fun v => v = .c (.int .i64 (cmpS a.var b.var))) := by
 refine PCalls.intro Tryz.call24 Tryz.func24 rfl Tryz.ntmps24 Tryz.results24 (by simp) ?_
 refine AW.seq_k fun K1 h1 => ?_
 refine AW.reg0 ?_
 iterate 3 (refine S.g rfl rfl fun Y Z => ?_; simp only [zz, reduceIte, Nat.reduceEqDiff, Nat.reduceLeDiff, Nat.reduceAdd, ok38, sz38, ag38, encBd, okAv, wkAv]; refine Z _ _ ?_; clear Z Y)
 refine S.nil ?_
 simp only [ze, reduceIte, Nat.reduceEqDiff, Nat.reduceLeDiff, Nat.reduceAdd, encBd, okAv, wkAv]
 apply_assumption
 refine AW.seq_k fun K2 h2 => ?_
 refine AW.reg0 ?_
 iterate 4 (refine S.g rfl rfl fun Y Z => ?_; simp only [zz, reduceIte, Nat.reduceEqDiff, Nat.reduceLeDiff, Nat.reduceAdd, of38_0, ok9, sz9, ag9]; refine Z _ _ ?_; clear Z Y)
 (refine S.g rfl rfl fun Y Z => ?_; simp only [zz, reduceIte, Nat.reduceEqDiff, Nat.reduceLeDiff, Nat.reduceAdd]; refine PCalls.eqto (compare_str _ _) ?_ <;> (refine Z _ _ ?_; clear Z Y))
 (refine S.g rfl rfl fun Y Z => ?_; simp only [zz, reduceIte, Nat.reduceEqDiff, Nat.reduceAdd]; refine Z _ _ ?_; clear Z Y)
 refine S.nil ?_
 simp only [ze, reduceIte, Nat.reduceEqDiff, Nat.reduceLeDiff, Nat.reduceAdd]
 apply_assumption
 refine AW.ret ?_
 simp only [zs, reduceIte, Nat.reduceEqDiff, Nat.reduceLeDiff, Nat.reduceAdd]
end Go.Abs.MX
namespace Go.Abs.MX
open Go Go.Abs Go.Proofs Go.Abs.M
set_option maxRecDepth 20000
set_option linter.unusedSimpArgs false
set_option linter.unusedVariables false
/-- One round of the insertion sort: the element at j goes down to where it belongs. -/
def sink (lo : Nat) : Nat → List Bd → List Bd
  | 0, l => l
  | j + 1, l => match l[j + 1]?, l[j]? with
    | some x, some y => if lo < j + 1 ∧ cmpS x.var y.var < 0 then sink lo j ((l.set (j + 1) y).set j x) else l
    | _, _ => l
theorem sink_stayx {lo j : Nat} {l : List Bd} {x y : Bd} (hx : l[j]? = some x) (hy : l[j-1]? = some y) (h : ¬ cmpS x.var y.var < 0) : sink lo j l = l := by
  cases j with
  | zero => rfl
  | succ q =>
    rw [Nat.add_sub_cancel] at hy
    simp [sink, hx, hy, h]
theorem sink_lowx {lo j : Nat} {l : List Bd} (h : ¬ lo < j) : sink lo j l = l := by
  cases j with
  | zero => rfl
  | succ q =>
    simp only [sink]
    split
    · rw [if_neg (fun e => h e.1)]
    · rfl
theorem sink_gox {lo j : Nat} {l : List Bd} {x y : Bd} (hl : lo < j) (hx : l[j]? = some x) (hy : l[j-1]? = some y) (h : cmpS x.var y.var < 0) : sink lo j l = sink lo (j - 1) ((l.set j y).set (j - 1) x) := by
  cases j with
  | zero => omega
  | succ q =>
    rw [Nat.add_sub_cancel] at hy
    simp [sink, hx, hy, h, hl]
def insFrom (lo : Nat) (l : List Bd) (i m : Nat) : List Bd := (List.range' i m).foldl (fun l i => sink lo i l) l
def insort (lo hi : Nat) (l : List Bd) : List Bd := insFrom lo l (lo + 1) (hi - (lo + 1))
def hpB (k : Nat) (l : List Bd) : Hp := Hp.empty.setGr k (some ((38, 6), l.map encBd))
theorem insort_x (l : List Bd) (k lo hi : Nat) (hlo : lo ≤ hi) (hhi : hi ≤ l.length) (hn : l.length < 4611686018427387904) :
    ACalls Tryz.prog 73 [.gl k, .c (.int .i64 lo), .c (.int .i64 hi), .fn (.func 24) [] []] (hpB k l) (fun v σ' => v = .tup [] ∧ σ' = hpB k (insort lo hi l)) := by
  refine ACalls.intro Tryz.call73 Tryz.func73 rfl Tryz.ntmps73 Tryz.results73 (by simp) ?_
  have hw1 : IntKind.i64.wrap ((lo : Int) + 1) = ((lo + 1 : Nat) : Int) := by rw [wrap_small _ (by omega) (by omega)]; rfl
  refine AW.seq_k fun K1 h1 => ?_
  all_goals refine AW.reg0 ?_
  all_goals iterate 3 (refine S.g rfl rfl fun Y Z => ?_; simp only [zz, reduceIte, Nat.reduceEqDiff, Nat.reduceAdd, hw1]; refine Z _ _ ?_; clear Z Y)
  all_goals refine S.nil ?_
  all_goals simp only [ze, reduceIte, Nat.reduceEqDiff, Nat.reduceLT, Nat.reduceLeDiff, Nat.reduceAdd, reduceCtorEq, Nat.reduceMul, hw1]
  all_goals apply_assumption
  refine AW.block ?_   -- 0
  refine AW.loop (fun m s σ => ∃ i l', m + i = hi + 1 + lo ∧ lo + 1 ≤ i ∧ s.t 0 = .gl k ∧ s.t 1 = .c (.int .i64 lo) ∧ s.t 2 = .c (.int .i64 hi) ∧ s.t 3 = .fn (.func 24) [] [] ∧ s.t 8 = .c (.int .i64 (i : Nat)) ∧
    σ = hpB k l' ∧ l'.length = l.length ∧ insort lo hi l = insFrom lo l' i (hi - i)) hi ?_ ?_
  · refine ⟨lo + 1, l, by omega, Nat.le_refl _, ?_⟩
    all_goals simp only [zs, reduceIte, Nat.reduceEqDiff, Nat.reduceLT, Nat.reduceLeDiff, Nat.reduceAdd, reduceCtorEq, Nat.reduceMul]
    simp [insort]
  rintro m s σ ⟨i, l', hm, hi1, e0, e1, e2, e3, e8, rfl, hl', hp⟩
  refine AW.seq_k fun K2 h2 => ?_
  refine AW.seq_k fun K3 h3 => ?_
  all_goals refine AW.reg0 ?_
  all_goals iterate 3 (refine S.g rfl rfl fun Y Z => ?_; simp only [zz, reduceIte, Nat.reduceEqDiff, Nat.reduceAdd, e2, e8]; refine Z _ _ ?_; clear Z Y)
  all_goals refine S.nil ?_
  all_goals simp only [ze, reduceIte, Nat.reduceEqDiff, Nat.reduceLT, Nat.reduceLeDiff, Nat.reduceAdd, reduceCtorEq, Nat.reduceMul, e2, e8]
  all_goals apply_assumption
  refine AW.cond (b := decide (i < hi)) (by simp [ev]) (fun hc => ?_) (fun hc => ?_)
  · refine AW.skip ?_
    all_goals simp only [zs, reduceIte, Nat.reduceEqDiff, Nat.reduceLT, Nat.reduceLeDiff, Nat.reduceAdd, reduceCtorEq, Nat.reduceMul]
    all_goals apply_assumption
    have hih : i < hi := by simpa using hc
    refine AW.seq_k fun K4 h4 => ?_
    refine AW.block ?_   -- 1
    refine AW.seq_k fun K5 h5 => ?_
    all_goals refine AW.reg0 ?_
    all_goals iterate 2 (refine S.g rfl rfl fun Y Z => ?_; simp only [zz, reduceIte, Nat.reduceEqDiff, Nat.reduceAdd, e8]; refine Z _ _ ?_; clear Z Y)
    all_goals refine S.nil ?_
    all_goals simp only [ze, reduceIte, Nat.reduceEqDiff, Nat.reduceLT, Nat.reduceLeDiff, Nat.reduceAdd, reduceCtorEq, Nat.reduceMul, e8]
    all_goals apply_assumption
    refine AW.block ?_   -- 2
    refine AW.loop (fun m s σ => ∃ j l2, m = j ∧ j ≤ i ∧ s.t 0 = .gl k ∧ s.t 1 = .c (.int .i64 lo) ∧ s.t 2 = .c (.int .i64 hi) ∧ s.t 3 = .fn (.func 24) [] [] ∧ s.t 8 = .c (.int .i64 (i : Nat)) ∧ s.t 9 = .c (.int .i64 (j : Nat)) ∧
      σ = hpB k l2 ∧ l2.length = l.length ∧ sink lo i l' = sink lo j l2) i ?_ ?_
    · refine ⟨i, l', rfl, Nat.le_refl _, ?_⟩
      all_goals simp only [zs, reduceIte, Nat.reduceEqDiff, Nat.reduceLT, Nat.reduceLeDiff, Nat.reduceAdd, reduceCtorEq, Nat.reduceMul]
      refine ⟨e0, e1, e2, e3, e8, ?_⟩
      simp [hl']
    rintro j s2 σ2 ⟨_, l2, rfl, hji, f0, f1, f2, f3, f8, f9, rfl, hl2, hs⟩
    refine AW.seq_k fun K6 h6 => ?_
    refine AW.seq_j (fun s' σ' => σ' = hpB k l2 ∧ s'.t 0 = .gl k ∧ s'.t 1 = .c (.int .i64 lo) ∧ s'.t 2 = .c (.int .i64 hi) ∧ s'.t 3 = .fn (.func 24) [] [] ∧ s'.t 8 = .c (.int .i64 (i : Nat)) ∧ s'.t 9 = .c (.int .i64 (j : Nat)) ∧
      ∃ b, s'.t 34 = .c (.bool b) ∧ (b = true → lo < j ∧ ∃ x y : Bd, l2[j]? = some x ∧ l2[j-1]? = some y ∧ cmpS x.var y.var < 0) ∧ (b = false → sink lo j l2 = l2)) ?_ ?_
    · clear hp hs
      have hpb : (hpB k l2).gr k = some ((38, 6), l2.map encBd) := by simp [hpB]
      by_cases hlj : lo < j
      · have hj1 : j < l2.length := by omega
        have hj2 : j - 1 < l2.length := by omega
        have hg1 := getD_map (f := encBd) hj1
        have hg2 := getD_map (f := encBd) hj2
        have hx : l2[j]? = some l2[j] := List.getElem?_eq_getElem hj1
        have hy : l2[j-1]? = some l2[j-1] := List.getElem?_eq_getElem hj2
        generalize l2[j] = x at hg1 hx
        generalize l2[j-1] = y at hg2 hy
        have hw : IntKind.i64.wrap ((j : Int) - 1) = ((j - 1 : Nat) : Int) := by rw [wrap_small _ (by omega) (by omega)]; omega
        generalize hsg : hpB k l2 = σ0 at hpb ⊢
        all_goals refine AW.draw2 (T := { sd := fun _ => false }) (fun _ _ h => by cases h) mixedO [(0, 0), (1, 0), (2, 0), (3, 0), (4, 0), (5, 0), (6, 0), (7, 0), (9, 0), (10, 0), (11, 0), (12, 0)] 8 13 [(14, 2), (15, 0), (16, 0)] #[true, true, true, true, true, true, true, true, false, true, true, true, true, false, false, false, false] rfl (by kernel_rfl) (by kernel_rfl) (by kernel_rfl) (by kernel_rfl) (by kernel_rfl) ?_
        all_goals iterate 2 (refine D.g rfl trivial rfl rfl fun Y Z => ?_; simp only [zz, reduceIte, Nat.reduceEqDiff, Nat.reduceAdd, f0, f1, f3, f9, hpb, hj1, hj2, hg1, hg2, hw, encBd, okAv, wkAv]; refine Z _ _ ?_; clear Z Y)
        all_goals (refine D.g rfl trivial rfl rfl fun Y Z => ?_; simp only [zz, reduceIte, Nat.reduceEqDiff, Nat.reduceLT, Nat.reduceLeDiff, Nat.reduceAdd, reduceCtorEq, Nat.reduceMul, f0, f1, f3, f9, hpb, hj1, hj2, hg1, hg2, hw, encBd, okAv, wkAv]; refine S.bool fun b a20 => ?_; cases b <;> (try (exfalso; first | exact Bool.noConfusion a20 | (have h := of_decide_eq_true a20; omega) | (have h := of_decide_eq_false a20; omega))) <;> (refine Z _ _ ?_; clear Z Y))
        all_goals (refine D.g rfl trivial rfl rfl fun Y Z => ?_; simp only [zz, reduceIte, Nat.reduceEqDiff, Nat.reduceAdd, f0, f1, f3, f9, hpb, hj1, hj2, hg1, hg2, hw, encBd, okAv, wkAv]; refine Z _ _ ?_; clear Z Y)
        all_goals iterate 8 (first | (refine D.y rfl trivial rfl rfl rfl rfl fun Y Z => ?_; simp only [zz, reduceIte, Nat.reduceEqDiff, Nat.reduceLT, Nat.reduceLeDiff, Nat.reduceAdd, reduceCtorEq, Nat.reduceMul, sl22, el22, ok38, sz38, ag38, f0, f1, f3, f9, hpb, hj1, hj2, hg1, hg2, hw, encBd, okAv, wkAv]; refine Z _ _ ?_; clear Z Y) | ((first | refine D.x rfl (fun h => by cases h) rfl rfl rfl rfl fun Y Z => ?_ | refine D.u rfl (fun h => by cases h) rfl rfl rfl rfl fun Y Z => ?_); simp only [ze, reduceIte, Nat.reduceEqDiff]; refine Z _ _ ?_; clear Z Y))
        all_goals refine D.nil ⟨?_, ?_⟩
        all_goals iterate 2 (first | (refine D.y rfl trivial rfl rfl rfl rfl fun Y Z => ?_; simp only [zz, reduceIte, Nat.reduceEqDiff, Nat.reduceLT, Nat.reduceLeDiff, Nat.reduceAdd, reduceCtorEq, Nat.reduceMul, ok38, sz38, ag38, f0, f1, f3, f9, hpb, hj1, hj2, hg1, hg2, hw, encBd, okAv, wkAv]; refine Z _ _ ?_; clear Z Y) | ((first | refine D.x rfl (fun h => by cases h) rfl rfl rfl rfl fun Y Z => ?_ | refine D.u rfl (fun h => by cases h) rfl rfl rfl rfl fun Y Z => ?_); simp only [ze, reduceIte, Nat.reduceEqDiff]; refine Z _ _ ?_; clear Z Y))
        all_goals (first | (refine D.y rfl trivial rfl rfl rfl rfl fun Y Z => ?_; simp only [zz, reduceIte, Nat.reduceEqDiff, Nat.reduceLT, Nat.reduceLeDiff, Nat.reduceAdd, reduceCtorEq, Nat.reduceMul, f0, f1, f3, f9, hpb, hj1, hj2, hg1, hg2, hw, encBd, okAv, wkAv]; refine PCalls.eqto (less_x x y) ?_ <;> (refine Z _ _ ?_; clear Z Y)) | ((first | refine D.x rfl (fun h => by cases h) rfl rfl rfl rfl fun Y Z => ?_ | refine D.u rfl (fun h => by cases h) rfl rfl rfl rfl fun Y Z => ?_); simp only [ze, reduceIte, Nat.reduceEqDiff]; refine Z _ _ ?_; clear Z Y))
        all_goals (first | (refine D.y rfl trivial rfl rfl rfl rfl fun Y Z => ?_; simp only [zz, reduceIte, Nat.reduceEqDiff, Nat.reduceAdd, f0, f1, f3, f9, hpb, hj1, hj2, hg1, hg2, hw, encBd, okAv, wkAv]; refine Z _ _ ?_; clear Z Y) | ((first | refine D.x rfl (fun h => by cases h) rfl rfl rfl rfl fun Y Z => ?_ | refine D.u rfl (fun h => by cases h) rfl rfl rfl rfl fun Y Z => ?_); simp only [ze, reduceIte, Nat.reduceEqDiff]; refine Z _ _ ?_; clear Z Y))
        all_goals (refine D.g rfl trivial rfl rfl fun Y Z => ?_; simp only [zz, reduceIte, Nat.reduceEqDiff, Nat.reduceAdd, f0, f1, f3, f9, hpb, hj1, hj2, hg1, hg2, hw, encBd, okAv, wkAv]; refine Z _ _ ?_; clear Z Y)
        all_goals refine D.nil ?_
        all_goals simp only [ze, reduceIte, Nat.reduceEqDiff, Nat.reduceLT, Nat.reduceLeDiff, Nat.reduceAdd, reduceCtorEq, Nat.reduceMul, f0, f1, f3, f9, hpb, hj1, hj2, hg1, hg2, hw, encBd, okAv, wkAv]
        all_goals exact ⟨f2, f8, _, rfl, fun h => ⟨hlj, x, y, hx, hy, of_decide_eq_true h⟩, fun h => sink_stayx hx hy (of_decide_eq_false h)⟩
      · generalize hsg : hpB k l2 = σ0 at hpb ⊢
        all_goals refine AW.draw2 (T := { sd := fun _ => false }) (fun _ _ h => by cases h) mixedO [(0, 0), (1, 0), (2, 0), (3, 0), (4, 0), (5, 0), (6, 0), (7, 0), (9, 0), (10, 0), (11, 0), (12, 0)] 8 13 [(14, 2), (15, 0), (16, 0)] #[true, true, true, true, true, true, true, true, false, true, true, true, true, false, false, false, false] rfl (by kernel_rfl) (by kernel_rfl) (by kernel_rfl) (by kernel_rfl) (by kernel_rfl) ?_
        all_goals iterate 2 (refine D.g rfl trivial rfl rfl fun Y Z => ?_; simp only [zz, reduceIte, Nat.reduceEqDiff, Nat.reduceAdd, f0, f1, f3, f9]; refine Z _ _ ?_; clear Z Y)
        all_goals (refine D.g rfl trivial rfl rfl fun Y Z => ?_; simp only [zz, reduceIte, Nat.reduceEqDiff, Nat.reduceLT, Nat.reduceLeDiff, Nat.reduceAdd, reduceCtorEq, Nat.reduceMul, f0, f1, f3, f9]; refine S.bool fun b a20 => ?_; cases b <;> (try (exfalso; first | exact Bool.noConfusion a20 | (have h := of_decide_eq_true a20; omega) | (have h := of_decide_eq_false a20; omega))) <;> (refine Z _ _ ?_; clear Z Y))
        all_goals (refine D.g rfl trivial rfl rfl fun Y Z => ?_; simp only [zz, reduceIte, Nat.reduceEqDiff, Nat.reduceAdd, f0, f1, f3, f9]; refine Z _ _ ?_; clear Z Y)
        all_goals iterate 8 (first | (refine D.y rfl trivial rfl rfl rfl rfl fun Y Z => ?_; simp only [zz, reduceIte, Nat.reduceEqDiff, Nat.reduceLT, Nat.reduceLeDiff, Nat.reduceAdd, reduceCtorEq, Nat.reduceMul, sl22, el22, ok38, sz38, ag38, f0, f1, f3, f9]; refine Z _ _ ?_; clear Z Y) | ((first | refine D.x rfl (fun h => by cases h) rfl rfl rfl rfl fun Y Z => ?_ | refine D.u rfl (fun h => by cases h) rfl rfl rfl rfl fun Y Z => ?_); simp only [ze, reduceIte, Nat.reduceEqDiff]; refine Z _ _ ?_; clear Z Y))
        all_goals refine D.nil ⟨?_, ?_⟩
        all_goals iterate 2 (first | (refine D.y rfl trivial rfl rfl rfl rfl fun Y Z => ?_; simp only [zz, reduceIte, Nat.reduceEqDiff, Nat.reduceLT, Nat.reduceLeDiff, Nat.reduceAdd, reduceCtorEq, Nat.reduceMul, ok38, sz38, ag38, f0, f1, f3, f9]; refine Z _ _ ?_; clear Z Y) | ((first | refine D.x rfl (fun h => by cases h) rfl rfl rfl rfl fun Y Z => ?_ | refine D.u rfl (fun h => by cases h) rfl rfl rfl rfl fun Y Z => ?_); simp only [ze, reduceIte, Nat.reduceEqDiff]; refine Z _ _ ?_; clear Z Y))
        all_goals (first | (refine D.y rfl trivial rfl rfl rfl rfl fun Y Z => ?_; simp only [zz, reduceIte, Nat.reduceEqDiff, Nat.reduceLT, Nat.reduceLeDiff, Nat.reduceAdd, reduceCtorEq, Nat.reduceMul, f0, f1, f3, f9]; refine PCalls.eqto (less_x x y) ?_ <;> (refine Z _ _ ?_; clear Z Y)) | ((first | refine D.x rfl (fun h => by cases h) rfl rfl rfl rfl fun Y Z => ?_ | refine D.u rfl (fun h => by cases h) rfl rfl rfl rfl fun Y Z => ?_); simp only [ze, reduceIte, Nat.reduceEqDiff]; refine Z _ _ ?_; clear Z Y))
        all_goals (first | (refine D.y rfl trivial rfl rfl rfl rfl fun Y Z => ?_; simp only [zz, reduceIte, Nat.reduceEqDiff, Nat.reduceAdd, f0, f1, f3, f9]; refine Z _ _ ?_; clear Z Y) | ((first | refine D.x rfl (fun h => by cases h) rfl rfl rfl rfl fun Y Z => ?_ | refine D.u rfl (fun h => by cases h) rfl rfl rfl rfl fun Y Z => ?_); simp only [ze, reduceIte, Nat.reduceEqDiff]; refine Z _ _ ?_; clear Z Y))
        all_goals (refine D.g rfl trivial rfl rfl fun Y Z => ?_; simp only [zz, reduceIte, Nat.reduceEqDiff, Nat.reduceAdd, f0, f1, f3, f9]; refine Z _ _ ?_; clear Z Y)
        all_goals refine D.nil ?_
        all_goals simp only [ze, reduceIte, Nat.reduceEqDiff, Nat.reduceLT, Nat.reduceLeDiff, Nat.reduceAdd, reduceCtorEq, Nat.reduceMul, f0, f1, f3, f9]
        all_goals exact ⟨f2, f8, _, rfl, (fun h => by cases h), fun _ => sink_lowx hlj⟩
    rintro s3 σ3 ⟨rfl, g0, g1, g2, g3, g8, g9, b, g34, hbt, hbf⟩
    refine AW.cond (b := b) g34 (fun hb => AW.skip ?_) (fun hb => AW.exit ?_)
    · all_goals simp only [zs, reduceIte, Nat.reduceEqDiff, Nat.reduceLT, Nat.reduceLeDiff, Nat.reduceAdd, reduceCtorEq, Nat.reduceMul]
      all_goals apply_assumption
      obtain ⟨hlj, x, y, hx, hy, hlt⟩ := hbt hb
      have hs2 := sink_gox hlj hx hy hlt
      have hj1 : j < l2.length := (List.getElem?_eq_some_iff.1 hx).1
      have hj2 : j - 1 < l2.length := by omega
      have hg1 : (l2.map encBd).getD j [] = encBd x := by rw [getD_map hj1, (List.getElem?_eq_some_iff.1 hx).2]
      have hg2 : (l2.map encBd).getD (j - 1) [] = encBd y := by rw [getD_map hj2, (List.getElem?_eq_some_iff.1 hy).2]
      have hgs : ∀ v, ((l2.map encBd).set j v).getD (j - 1) [] = encBd y := fun v => by
        rw [← hg2]; simp [List.getD, List.getElem?_set, show j ≠ j - 1 by omega]
      have hw : IntKind.i64.wrap ((j : Int) - 1) = ((j - 1 : Nat) : Int) := by rw [wrap_small _ (by omega) (by omega)]; omega
      have hpb : hpB k l2 = Hp.empty.setGr k (some ((38, 6), l2.map encBd)) := rfl
      rw [hpb]
      refine AW.seq_k fun K7 h7 => ?_
      refine AW.block ?_   -- 3
      refine AW.mono (Q := thenS (fun s' σ' => σ' = hpB k ((l2.set j y).set (j - 1) x) ∧ s'.t 0 = .gl k ∧ s'.t 1 = .c (.int .i64 lo) ∧ s'.t 2 = .c (.int .i64 hi) ∧ s'.t 3 = .fn (.func 24) [] [] ∧ s'.t 8 = .c (.int .i64 (i : Nat)) ∧ s'.t 9 = .c (.int .i64 (j : Nat))) (fun _ _ _ => False)) ?_ ?_
      · skip
        all_goals refine AW.draw2 (T := { sd := fun _ => false }) (fun _ _ h => by cases h) mixedO [(0, 0), (1, 0), (2, 0), (3, 0), (4, 0), (5, 0), (6, 0), (7, 0), (8, 0), (10, 0), (11, 0), (12, 0)] 9 13 [(14, 0), (15, 2), (16, 0), (17, 2)] #[true, true, true, true, true, true, true, true, true, false, true, true, true, false, false, false, false, false] rfl (by kernel_rfl) (by kernel_rfl) (by kernel_rfl) (by kernel_rfl) (by kernel_rfl) ?_
        all_goals iterate 12 (refine D.g rfl trivial rfl rfl fun Y Z => ?_; simp only [zz, reduceIte, Nat.reduceEqDiff, Nat.reduceLT, Nat.reduceLeDiff, Nat.reduceAdd, reduceCtorEq, Nat.reduceMul, sl22, el22, ok38, sz38, ag38, g0, g1, g2, g3, g8, g9, hj1, hj2, hg1, hg2, hgs, hw, encBd, List.length_set, okAv, wkAv]; refine Z _ _ ?_; clear Z Y)
        all_goals refine D.nil ⟨?_, ?_⟩
        all_goals iterate 6 (refine D.g rfl trivial rfl rfl fun Y Z => ?_; simp only [zz, reduceIte, Nat.reduceEqDiff, Nat.reduceLT, Nat.reduceLeDiff, Nat.reduceAdd, reduceCtorEq, Nat.reduceMul, ok38, sz38, ag38, sl22, el22, g0, g1, g2, g3, g8, g9, hj1, hj2, hg1, hg2, hgs, hw, encBd, List.length_set, okAv, wkAv]; refine Z _ _ ?_; clear Z Y)
        all_goals refine D.nil ?_
        all_goals simp only [ze, reduceIte, Nat.reduceEqDiff, Nat.reduceLT, Nat.reduceLeDiff, Nat.reduceAdd, reduceCtorEq, Nat.reduceMul, g0, g1, g2, g3, g8, g9, hj1, hj2, hg1, hg2, hgs, hw, encBd, List.length_set, okAv, wkAv]
        all_goals simp [hpB, encBd, List.map_set]
      rintro e s4 σ4 hq
      cases e with
      | normal =>
        obtain ⟨rfl, q0, q1, q2, q3, q8, q9⟩ := hq
        all_goals simp only [zs, reduceIte, Nat.reduceEqDiff, Nat.reduceLT, Nat.reduceLeDiff, Nat.reduceAdd, reduceCtorEq, Nat.reduceMul]
        all_goals apply_assumption
        all_goals refine AW.reg0 ?_
        all_goals iterate 3 (refine S.g rfl rfl fun Y Z => ?_; simp only [zz, reduceIte, Nat.reduceEqDiff, Nat.reduceAdd, q9, hw]; refine Z _ _ ?_; clear Z Y)
        all_goals refine S.nil ?_
        all_goals simp only [ze, reduceIte, Nat.reduceEqDiff, Nat.reduceLT, Nat.reduceLeDiff, Nat.reduceAdd, reduceCtorEq, Nat.reduceMul, q9, hw]
        refine ⟨j - 1, by omega, j - 1, (l2.set j y).set (j - 1) x, rfl, by omega, q0, q1, q2, q3, q8, rfl, rfl, by simp [hl2], ?_⟩
        rw [hs, hs2]
      | _ => exact hq.elim
    · all_goals simp only [zs, reduceIte, Nat.reduceEqDiff, Nat.reduceLT, Nat.reduceLeDiff, Nat.reduceAdd, reduceCtorEq, Nat.reduceMul]
      all_goals apply_assumption
      have hw : IntKind.i64.wrap ((i : Int) + 1) = ((i + 1 : Nat) : Int) := by rw [wrap_small _ (by omega) (by omega)]; rfl
      all_goals refine AW.reg0 ?_
      all_goals iterate 3 (refine S.g rfl rfl fun Y Z => ?_; simp only [zz, reduceIte, Nat.reduceEqDiff, Nat.reduceAdd, g8, hw]; refine Z _ _ ?_; clear Z Y)
      all_goals refine S.nil ?_
      all_goals simp only [ze, reduceIte, Nat.reduceEqDiff, Nat.reduceLT, Nat.reduceLeDiff, Nat.reduceAdd, reduceCtorEq, Nat.reduceMul, g8, hw]
      refine ⟨m - 1, by omega, i + 1, l2, by omega, by omega, g0, g1, g2, g3, rfl, rfl, hl2, ?_⟩
      rw [hp, show hi - i = (hi - (i + 1)) + 1 by omega]
      simp only [insFrom, List.range'_succ, List.foldl_cons]
      rw [hs, hbf hb]
  · refine AW.exit ?_
    all_goals simp only [zs, reduceIte, Nat.reduceEqDiff, Nat.reduceLT, Nat.reduceLeDiff, Nat.reduceAdd, reduceCtorEq, Nat.reduceMul]
    -- EXIT 0
    have hih : hi ≤ i := by simpa using hc
    have h0 : hi - i = 0 := by omega
    rw [h0] at hp
    rw [hp]; exact ⟨rfl, rfl⟩
end Go.Abs.MX
namespace Go.Abs.MX
open Go Go.Abs Go.Proofs Go.Abs.M
set_option maxRecDepth 20000
set_option linter.unusedSimpArgs false
set_option linter.unusedVariables false
/-- The same rows, in whatever order. -/
def Sub (l0 l : List Bd) : Prop := l.length = l0.length ∧ ∀ L : List Bd, l0.Perm L → l.Perm L
theorem Sub.refl (l : List Bd) : Sub l l := ⟨rfl, fun _ h => h⟩
theorem Sub.trans {a b c : List Bd} (h : Sub a b) (k : Sub b c) : Sub a c := ⟨k.1.trans h.1, fun x hx => k.2 x (h.2 x hx)⟩
theorem Sub.perm {a b : List Bd} (h : Sub a b) : b.Perm a := h.2 a (.refl a)
theorem Sub.swap {l0 l : List Bd} {i j : Nat} {x y : Bd} (h : Sub l0 l) (hx : l[i]? = some x) (hy : l[j]? = some y) : Sub l0 ((l.set i y).set j x) := by
 obtain ⟨hi, hx⟩ := List.getElem?_eq_some_iff.1 hx
 obtain ⟨hj, hy⟩ := List.getElem?_eq_some_iff.1 hy
 subst hx; subst hy
 exact ⟨by simp [h.1], fun L hL => (List.set_set_perm hi hj).trans (h.2 L hL)⟩
def hpS (k : Nat) (l0 : List Bd) (v : V) (σ' : Hp) : Prop := v = .tup [] ∧ ∃ l', Sub l0 l' ∧ σ' = hpB k l'
theorem swapRange_x (l0 : List Bd) (k a b n : Nat) (hab : a ≠ b) (ha : a + n ≤ l0.length) (hb : b + n ≤ l0.length) (hn : l0.length < 4611686018427387904) :
    ACalls Tryz.prog 105 [.gl k, .c (.int .i64 a), .c (.int .i64 b), .c (.int .i64 n), .fn (.func 24) [] []] (hpB k l0) (hpS k l0) := by
  refine ACalls.intro Tryz.call105 Tryz.func105 rfl Tryz.ntmps105 Tryz.results105 (by simp) ?_
  refine AW.seq_k fun K1 h1 => ?_
  all_goals refine AW.reg0 ?_
  all_goals (refine S.g rfl rfl fun Y Z => ?_; simp only [zz, reduceIte, Nat.reduceEqDiff, Nat.reduceAdd]; refine Z _ _ ?_; clear Z Y)
  all_goals refine S.nil ?_
  all_goals simp only [ze, reduceIte, Nat.reduceEqDiff, Nat.reduceLT, Nat.reduceLeDiff, Nat.reduceAdd, reduceCtorEq, Nat.reduceMul]
  all_goals apply_assumption
  refine AW.block ?_   -- 0
  refine AW.loop (fun m s σ => ∃ i l', m + i = n ∧ s.t 0 = .gl k ∧ s.t 1 = .c (.int .i64 a) ∧ s.t 2 = .c (.int .i64 b) ∧ s.t 3 = .c (.int .i64 n) ∧ s.t 10 = .c (.int .i64 (i : Nat)) ∧
    σ = hpB k l' ∧ Sub l0 l') n ?_ ?_
  · refine ⟨0, l0, by omega, ?_⟩
    all_goals simp only [zs, reduceIte, Nat.reduceEqDiff, Nat.reduceLT, Nat.reduceLeDiff, Nat.reduceAdd, reduceCtorEq, Nat.reduceMul]
    exact ⟨rfl, Sub.refl _⟩
  rintro m s σ ⟨i, l', hm, e0, e1, e2, e3, e10, rfl, hl'⟩
  refine AW.seq_k fun K2 h2 => ?_
  refine AW.seq_k fun K3 h3 => ?_
  all_goals refine AW.reg0 ?_
  all_goals iterate 3 (refine S.g rfl rfl fun Y Z => ?_; simp only [zz, reduceIte, Nat.reduceEqDiff, Nat.reduceAdd, e10, e3]; refine Z _ _ ?_; clear Z Y)
  all_goals refine S.nil ?_
  all_goals simp only [ze, reduceIte, Nat.reduceEqDiff, Nat.reduceLT, Nat.reduceLeDiff, Nat.reduceAdd, reduceCtorEq, Nat.reduceMul, e10, e3]
  all_goals apply_assumption
  refine AW.cond (b := decide (i < n)) (by simp [ev]) (fun hc => ?_) (fun hc => ?_)
  · refine AW.skip ?_
    all_goals simp only [zs, reduceIte, Nat.reduceEqDiff, Nat.reduceLT, Nat.reduceLeDiff, Nat.reduceAdd, reduceCtorEq, Nat.reduceMul]
    all_goals apply_assumption
    have hin : i < n := by simpa using hc
    have hj1 : a + i < l'.length := by rw [hl'.1]; omega
    have hj2 : b + i < l'.length := by rw [hl'.1]; omega
    have hg1 := getD_map (f := encBd) hj1
    have hg2 := getD_map (f := encBd) hj2
    have hx : l'[a+i]? = some l'[a+i] := List.getElem?_eq_getElem hj1
    have hy : l'[b+i]? = some l'[b+i] := List.getElem?_eq_getElem hj2
    generalize l'[a+i] = x at hg1 hx
    generalize l'[b+i] = y at hg2 hy
    have hsub := hl'.swap hx hy
    have hgs : ∀ v, ((l'.map encBd).set (a + i) v).getD (b + i) [] = encBd y := fun v => by
      rw [← hg2]; simp [List.getD, List.getElem?_set, hab]
    have hw1 : IntKind.i64.wrap ((a : Int) + i) = ((a + i : Nat) : Int) := by rw [wrap_small _ (by omega) (by omega)]; rfl
    have hw2 : IntKind.i64.wrap ((b : Int) + i) = ((b + i : Nat) : Int) := by rw [wrap_small _ (by omega) (by omega)]; rfl
    have hpb : hpB k l' = Hp.empty.setGr k (some ((38, 6), l'.map encBd)) := rfl
    rw [hpb]
    refine AW.seq_k fun K4 h4 => ?_
    refine AW.block ?_   -- 1
    refine AW.mono (Q := thenS (fun s' σ' => σ' = hpB k ((l'.set (a + i) y).set (b + i) x) ∧ s'.t 0 = .gl k ∧ s'.t 1 = .c (.int .i64 a) ∧ s'.t 2 = .c (.int .i64 b) ∧ s'.t 3 = .c (.int .i64 n) ∧ s'.t 10 = .c (.int .i64 (i : Nat))) (fun _ _ _ => False)) ?_ ?_
    · skip
      all_goals refine AW.draw2 (T := { sd := fun _ => false }) (fun _ _ h => by cases h) mixedO [(0, 0), (1, 0), (2, 0), (3, 0), (4, 0), (5, 0), (6, 0), (7, 0), (8, 0), (9, 0), (10, 0), (11, 0), (12, 0), (14, 0), (15, 0), (16, 0), (17, 0), (18, 0)] 13 19 [(20, 0), (21, 2), (22, 0), (23, 2)] #[true, true, true, true, true, true, true, true, true, true, true, true, true, false, true, true, true, true, true, false, false, false, false, false] rfl (by kernel_rfl) (by kernel_rfl) (by kernel_rfl) (by kernel_rfl) (by kernel_rfl) ?_
      all_goals iterate 18 (refine D.g rfl trivial rfl rfl fun Y Z => ?_; simp only [zz, reduceIte, Nat.reduceEqDiff, Nat.reduceLT, Nat.reduceLeDiff, Nat.reduceAdd, reduceCtorEq, Nat.reduceMul, sl22, el22, ok38, sz38, ag38, e0, e1, e2, e3, e10, hj1, hj2, hg1, hg2, hgs, hw1, hw2, encBd, List.length_set, okAv, wkAv]; refine Z _ _ ?_; clear Z Y)
      all_goals refine D.nil ⟨?_, ?_⟩
      all_goals iterate 6 (refine D.g rfl trivial rfl rfl fun Y Z => ?_; simp only [zz, reduceIte, Nat.reduceEqDiff, Nat.reduceLT, Nat.reduceLeDiff, Nat.reduceAdd, reduceCtorEq, Nat.reduceMul, ok38, sz38, ag38, sl22, el22, e0, e1, e2, e3, e10, hj1, hj2, hg1, hg2, hgs, hw1, hw2, encBd, List.length_set, okAv, wkAv]; refine Z _ _ ?_; clear Z Y)
      all_goals refine D.nil ?_
      all_goals simp only [ze, reduceIte, Nat.reduceEqDiff, Nat.reduceLT, Nat.reduceLeDiff, Nat.reduceAdd, reduceCtorEq, Nat.reduceMul, e0, e1, e2, e3, e10, hj1, hj2, hg1, hg2, hgs, hw1, hw2, encBd, List.length_set, okAv, wkAv]
      all_goals simp [hpB, encBd, List.map_set]
    rintro e s4 σ4 hq
    cases e with
    | normal =>
      obtain ⟨rfl, q0, q1, q2, q3, q10⟩ := hq
      have hw : IntKind.i64.wrap ((i : Int) + 1) = ((i + 1 : Nat) : Int) := by rw [wrap_small _ (by omega) (by omega)]; rfl
      all_goals simp only [zs, reduceIte, Nat.reduceEqDiff, Nat.reduceLT, Nat.reduceLeDiff, Nat.reduceAdd, reduceCtorEq, Nat.reduceMul]
      all_goals apply_assumption
      all_goals refine AW.reg0 ?_
      all_goals iterate 3 (refine S.g rfl rfl fun Y Z => ?_; simp only [zz, reduceIte, Nat.reduceEqDiff, Nat.reduceAdd, q10, hw]; refine Z _ _ ?_; clear Z Y)
      all_goals refine S.nil ?_
      all_goals simp only [ze, reduceIte, Nat.reduceEqDiff, Nat.reduceLT, Nat.reduceLeDiff, Nat.reduceAdd, reduceCtorEq, Nat.reduceMul, q10, hw]
      exact ⟨m - 1, by omega, i + 1, _, by omega, q0, q1, q2, q3, rfl, rfl, hsub⟩
    | _ => exact hq.elim
  · refine AW.exit ?_
    all_goals simp only [zs, reduceIte, Nat.reduceEqDiff, Nat.reduceLT, Nat.reduceLeDiff, Nat.reduceAdd, reduceCtorEq, Nat.reduceMul]
    exact ⟨rfl, l', hl', rfl⟩
theorem rotate_x (l0 : List Bd) (k a m0 b : Nat) (ham : a < m0) (hmb : m0 < b) (hb : b ≤ l0.length) (hn : l0.length < 4611686018427387904) :
  ACalls Tryz.prog 89 [.gl k, .c (.int .i64 a), .c (.int .i64 m0), .c (.int .i64 b), .fn (.func 24) [] []] (hpB k l0) (hpS k l0) := by
 refine ACalls.intro Tryz.call89 Tryz.func89 rfl Tryz.ntmps89 Tryz.results89 (by simp) ?_
 have hw1 : IntKind.i64.wrap ((m0 : Int) - a) = ((m0 - a : Nat) : Int) := by rw [wrap_small _ (by omega) (by omega)]; omega
 have hw2 : IntKind.i64.wrap ((b : Int) - m0) = ((b - m0 : Nat) : Int) := by rw [wrap_small _ (by omega) (by omega)]; omega
 refine AW.seq_k fun K1 h1 => ?_
 refine AW.reg0 ?_
 iterate 4 (refine S.g rfl rfl fun Y Z => ?_; simp only [zz, reduceIte, Nat.reduceEqDiff, Nat.reduceAdd, hw1]; refine Z _ _ ?_; clear Z Y)
 refine S.nil ?_
 simp only [ze, reduceIte, Nat.reduceEqDiff, Nat.reduceLeDiff, Nat.reduceAdd, hw1]
 apply_assumption
 refine AW.seq_k fun K2 h2 => ?_
 refine AW.reg0 ?_
 iterate 4 (refine S.g rfl rfl fun Y Z => ?_; simp only [zz, reduceIte, Nat.reduceEqDiff, Nat.reduceAdd, hw2]; refine Z _ _ ?_; clear Z Y)
 refine S.nil ?_
 simp only [ze, reduceIte, Nat.reduceEqDiff, Nat.reduceLeDiff, Nat.reduceAdd, hw2]
 apply_assumption
 refine AW.seq_k fun K3 h3 => ?_
 refine AW.block ?_   -- 0
 refine AW.loop (fun m s σ => ∃ i j l', m = i + j ∧ 0 < i ∧ 0 < j ∧ i ≤ m0 ∧ m0 + j ≤ l0.length ∧ s.t 0 = .gl k ∧ s.t 2 = .c (.int .i64 m0) ∧ s.t 4 = .fn (.func 24) [] [] ∧ s.t 10 = .c (.int .i64 (i : Nat)) ∧ s.t 11 = .c (.int .i64 (j : Nat)) ∧
  σ = hpB k l' ∧ Sub l0 l') (m0 - a + (b - m0)) ?_ ?_
 ·refine ⟨m0 - a, b - m0, l0, by omega, by omega, by omega, by omega, by omega, ?_⟩
  simp only [zs, reduceIte, Nat.reduceEqDiff, Nat.reduceLeDiff, Nat.reduceAdd]
  exact ⟨rfl, fun _ h => h⟩
 rintro m s σ ⟨i, j, l', hm, hi0, hj0, him, hjm, e0, e2, e4, e10, e11, rfl, hl'⟩
 have hw3 : IntKind.i64.wrap ((m0 : Int) - i) = ((m0 - i : Nat) : Int) := by rw [wrap_small _ (by omega) (by omega)]; omega
 refine AW.seq_k fun K4 h4 => ?_
 refine AW.seq_k fun K5 h5 => ?_
 refine AW.reg0 ?_
 iterate 3 (refine S.g rfl rfl fun Y Z => ?_; simp only [zz, reduceIte, Nat.reduceEqDiff, Nat.reduceAdd, e10, e11]; refine Z _ _ ?_; clear Z Y)
 refine S.nil ?_
 simp only [ze, reduceIte, Nat.reduceEqDiff, Nat.reduceLeDiff, Nat.reduceAdd, e10, e11]
 apply_assumption
 refine AW.cond (b := (i : Int) != j) (by simp [ev]) (fun hc => ?_) (fun hc => ?_)
 ·refine AW.skip ?_
  simp only [zs, reduceIte, Nat.reduceEqDiff, Nat.reduceLeDiff, Nat.reduceAdd]
  apply_assumption
  refine AW.block ?_   -- 1
  refine AW.seq_k fun K6 h6 => ?_
  refine AW.reg0 ?_
  iterate 3 (refine S.g rfl rfl fun Y Z => ?_; simp only [zz, reduceIte, Nat.reduceEqDiff, Nat.reduceAdd, e10, e11]; refine Z _ _ ?_; clear Z Y)
  refine S.nil ?_
  simp only [ze, reduceIte, Nat.reduceEqDiff, Nat.reduceLeDiff, Nat.reduceAdd, e10, e11]
  apply_assumption
  refine AW.cond (b := decide ((i : Int) > j)) (by simp [ev]) (fun hd => ?_) (fun hd => ?_)
  ·have hd := of_decide_eq_true hd
   have hw4 : IntKind.i64.wrap ((i : Int) - j) = ((i - j : Nat) : Int) := by rw [wrap_small _ (by omega) (by omega)]; omega
   refine AW.seq_k fun K7 h7 => ?_
   refine AW.reg0 ?_
   iterate 7 (refine S.g rfl rfl fun Y Z => ?_; simp only [zz, reduceIte, Nat.reduceEqDiff, Nat.reduceAdd, e0, e2, e4, e10, e11, hw3]; refine Z _ _ ?_; clear Z Y)
   (refine S.g rfl rfl fun Y Z => ?_; simp only [zz, reduceIte, Nat.reduceEqDiff, Nat.reduceLeDiff, Nat.reduceAdd, e0, e2, e4, e10, e11, hw3]; refine (swapRange_x l' k (m0 - i) m0 j (by omega) (by rw [hl'.1]; omega) (by rw [hl'.1]; omega) (by rw [hl'.1]; omega)).to fun v σ1 hv => ?_; obtain ⟨rfl, l2, hl2, rfl⟩ := hv <;> (refine Z _ _ ?_; clear Z Y))
   refine S.nil ?_
   simp only [ze, reduceIte, Nat.reduceEqDiff, Nat.reduceLeDiff, Nat.reduceAdd, e0, e2, e4, e10, e11, hw3]
   apply_assumption
   refine AW.reg0 ?_
   iterate 4 (refine S.g rfl rfl fun Y Z => ?_; simp only [zz, reduceIte, Nat.reduceEqDiff, Nat.reduceAdd, e10, e11, hw4]; refine Z _ _ ?_; clear Z Y)
   refine S.nil ?_
   simp only [ze, reduceIte, Nat.reduceEqDiff, Nat.reduceLeDiff, Nat.reduceAdd, e10, e11, hw4]
   exact ⟨m - j, by omega, i - j, j, l2, by omega, by omega, by omega, by omega, by omega, e0, e2, e4, rfl, rfl, rfl, hl'.trans hl2⟩
  ·have hd := of_decide_eq_false hd
   have hne : i ≠ j := fun e => by subst e; simp at hc
   have hw5 : IntKind.i64.wrap ((m0 : Int) + j) = ((m0 + j : Nat) : Int) := by rw [wrap_small _ (by omega) (by omega)]; rfl
   have hw6 : IntKind.i64.wrap (((m0 + j : Nat) : Int) - i) = ((m0 + j - i : Nat) : Int) := by rw [wrap_small _ (by omega) (by omega)]; omega
   have hw4 : IntKind.i64.wrap ((j : Int) - i) = ((j - i : Nat) : Int) := by rw [wrap_small _ (by omega) (by omega)]; omega
   refine AW.seq_k fun K8 h8 => ?_
   refine AW.reg0 ?_
   iterate 11 (refine S.g rfl rfl fun Y Z => ?_; simp only [zz, reduceIte, Nat.reduceEqDiff, Nat.reduceAdd, e0, e2, e4, e10, e11, hw3, hw5, hw6]; refine Z _ _ ?_; clear Z Y)
   (refine S.g rfl rfl fun Y Z => ?_; simp only [zz, reduceIte, Nat.reduceEqDiff, Nat.reduceLeDiff, Nat.reduceAdd, e0, e2, e4, e10, e11, hw3, hw5, hw6]; refine (swapRange_x l' k (m0 - i) (m0 + j - i) i (by omega) (by rw [hl'.1]; omega) (by rw [hl'.1]; omega) (by rw [hl'.1]; omega)).to fun v σ1 hv => ?_; obtain ⟨rfl, l2, hl2, rfl⟩ := hv <;> (refine Z _ _ ?_; clear Z Y))
   refine S.nil ?_
   simp only [ze, reduceIte, Nat.reduceEqDiff, Nat.reduceLeDiff, Nat.reduceAdd, e0, e2, e4, e10, e11, hw3, hw5, hw6]
   apply_assumption
   refine AW.reg0 ?_
   iterate 4 (refine S.g rfl rfl fun Y Z => ?_; simp only [zz, reduceIte, Nat.reduceEqDiff, Nat.reduceAdd, e10, e11, hw4]; refine Z _ _ ?_; clear Z Y)
   refine S.nil ?_
   simp only [ze, reduceIte, Nat.reduceEqDiff, Nat.reduceLeDiff, Nat.reduceAdd, e10, e11, hw4]
   exact ⟨m - i, by omega, i, j - i, l2, by omega, by omega, by omega, by omega, by omega, e0, e2, e4, rfl, rfl, rfl, hl'.trans hl2⟩
 ·refine AW.exit ?_
  simp only [zs, reduceIte, Nat.reduceEqDiff, Nat.reduceLeDiff, Nat.reduceAdd]
  apply_assumption
  have hij : (i : Int) = j := by simpa using hc
  have hij : i = j := by omega
  refine AW.reg0 ?_
  iterate 7 (refine S.g rfl rfl fun Y Z => ?_; simp only [zz, reduceIte, Nat.reduceEqDiff, Nat.reduceAdd, e0, e2, e4, e10, hw3]; refine Z _ _ ?_; clear Z Y)
  (refine S.g rfl rfl fun Y Z => ?_; simp only [zz, reduceIte, Nat.reduceEqDiff, Nat.reduceLeDiff, Nat.reduceAdd, e0, e2, e4, e10, hw3]; refine (swapRange_x l' k (m0 - i) m0 i (by omega) (by rw [hl'.1]; omega) (by rw [hl'.1]; omega) (by rw [hl'.1]; omega)).to fun v σ1 hv => ?_; obtain ⟨rfl, l2, hl2, rfl⟩ := hv <;> (refine Z _ _ ?_; clear Z Y))
  refine S.nil ?_
  simp only [ze, reduceIte, Nat.reduceEqDiff, Nat.reduceLeDiff, Nat.reduceAdd, e0, e2, e4, e10, hw3]
  exact ⟨rfl, l2, hl'.trans hl2, rfl⟩
end Go.Abs.MX
namespace Go.Abs.MX
open Go Go.Abs Go.Proofs Go.Abs.M
set_option maxRecDepth 20000
set_option linter.unusedSimpArgs false
set_option linter.unusedVariables false
theorem half_ux (n : Nat) (h : n < 9223372036854775808) : IntKind.u64.wrap (n : Int) = (n : Int) := by
  simp [IntKind.wrap, IntKind.signed, IntKind.bits]; omega
theorem half_sx (n : Nat) : (n : Int).fdiv (2 ^ (min (Int.toNat 1) IntKind.u64.bits)) = ((n / 2 : Nat) : Int) := by
 have : (n : Int).fdiv 2 = (n : Int) / 2 := Int.fdiv_eq_ediv_of_nonneg _ (by decide)
 simp [IntKind.bits, this]
theorem get_bdx {l : List Bd} {i : Nat} (h : i < l.length) : ∃ x, l[i]? = some x ∧ (l.map encBd).getD i [] = encBd x := ⟨l[i], List.getElem?_eq_getElem h, getD_map h⟩
theorem sym_ox (l0 : List Bd) (k a m0 b : Nat) (ham : a + 1 = m0) (hmb : m0 < b) (hb : b ≤ l0.length) (hn : l0.length < 2147483648) :
    ACalls Tryz.prog 74 [.gl k, .c (.int .i64 a), .c (.int .i64 m0), .c (.int .i64 b), .fn (.func 24) [] []] (hpB k l0) (hpS k l0) := by
  refine ACalls.intro Tryz.call74 Tryz.func74 rfl Tryz.ntmps74 Tryz.results74 (by simp) ?_
  have hw1 : IntKind.i64.wrap ((m0 : Int) - a) = 1 := by rw [wrap_small _ (by omega) (by omega)]; omega
  refine AW.seq_k fun K1 h1 => ?_
  refine AW.seq_k fun K2 h2 => ?_
  all_goals refine AW.reg0 ?_
  all_goals iterate 4 (refine S.g rfl rfl fun Y Z => ?_; simp only [zz, reduceIte, Nat.reduceEqDiff, Nat.reduceAdd, hw1]; refine Z _ _ ?_; clear Z Y)
  all_goals refine S.nil ?_
  all_goals simp only [ze, reduceIte, Nat.reduceEqDiff, Nat.reduceLT, Nat.reduceLeDiff, Nat.reduceAdd, reduceCtorEq, Nat.reduceMul, hw1]
  all_goals apply_assumption
  refine AW.cond (b := true) (by simp [ev]) (fun hc => ?_) (fun hc => by cases hc)
  refine AW.seq_k fun K3 h3 => ?_
  all_goals refine AW.reg0 ?_
  all_goals iterate 2 (refine S.g rfl rfl fun Y Z => ?_; simp only [zz, reduceIte, Nat.reduceEqDiff, Nat.reduceAdd]; refine Z _ _ ?_; clear Z Y)
  all_goals refine S.nil ?_
  all_goals simp only [ze, reduceIte, Nat.reduceEqDiff, Nat.reduceLT, Nat.reduceLeDiff, Nat.reduceAdd, reduceCtorEq, Nat.reduceMul]
  all_goals apply_assumption
  refine AW.seq_k fun K4 h4 => ?_
  all_goals refine AW.reg0 ?_
  all_goals iterate 2 (refine S.g rfl rfl fun Y Z => ?_; simp only [zz, reduceIte, Nat.reduceEqDiff, Nat.reduceAdd]; refine Z _ _ ?_; clear Z Y)
  all_goals refine S.nil ?_
  all_goals simp only [ze, reduceIte, Nat.reduceEqDiff, Nat.reduceLT, Nat.reduceLeDiff, Nat.reduceAdd, reduceCtorEq, Nat.reduceMul]
  all_goals apply_assumption
  refine AW.seq_j (fun s σ => ∃ i l', m0 ≤ i ∧ i ≤ b ∧ s.t 0 = .gl k ∧ s.t 1 = .c (.int .i64 a) ∧ s.t 10 = .c (.int .i64 (i : Nat)) ∧ σ = hpB k l' ∧ Sub l0 l') ?_ ?_
  · refine AW.block ?_   -- 0
    refine AW.loop (fun m s σ => ∃ i j, m = j - i ∧ m0 ≤ i ∧ i ≤ j ∧ j ≤ b ∧ s.t 0 = .gl k ∧ s.t 1 = .c (.int .i64 a) ∧ s.t 4 = .fn (.func 24) [] [] ∧ s.t 10 = .c (.int .i64 (i : Nat)) ∧ s.t 11 = .c (.int .i64 (j : Nat)) ∧ σ = hpB k l0) (b - m0) ?_ ?_
    · refine ⟨m0, b, rfl, by omega, by omega, by omega, ?_⟩
      all_goals simp only [zs, reduceIte, Nat.reduceEqDiff, Nat.reduceLT, Nat.reduceLeDiff, Nat.reduceAdd, reduceCtorEq, Nat.reduceMul]
    rintro m s σ ⟨i, j, hm, hi, hij, hj, e0, e1, e4, e10, e11, rfl⟩
    refine AW.seq_k fun K5 h5 => ?_
    refine AW.seq_k fun K6 h6 => ?_
    all_goals refine AW.reg0 ?_
    all_goals iterate 3 (refine S.g rfl rfl fun Y Z => ?_; simp only [zz, reduceIte, Nat.reduceEqDiff, Nat.reduceAdd, e10, e11]; refine Z _ _ ?_; clear Z Y)
    all_goals refine S.nil ?_
    all_goals simp only [ze, reduceIte, Nat.reduceEqDiff, Nat.reduceLT, Nat.reduceLeDiff, Nat.reduceAdd, reduceCtorEq, Nat.reduceMul, e10, e11]
    all_goals apply_assumption
    refine AW.cond (b := decide (i < j)) (by simp [ev]) (fun hc => ?_) (fun hc => ?_)
    · refine AW.skip ?_
      all_goals simp only [zs, reduceIte, Nat.reduceEqDiff, Nat.reduceLT, Nat.reduceLeDiff, Nat.reduceAdd, reduceCtorEq, Nat.reduceMul]
      all_goals apply_assumption
      have hc := of_decide_eq_true hc
      have hw2 : IntKind.i64.wrap ((i : Int) + j) = ((i + j : Nat) : Int) := by rw [wrap_small _ (by omega) (by omega)]; rfl
      have hu := half_ux (i + j) (by omega)
      have hs := half_sx (i + j)
      have hw3 : IntKind.i64.wrap (((i + j) / 2 : Nat) : Int) = (((i + j) / 2 : Nat) : Int) := wrap_small _ (by omega) (by omega)
      have hh1 : i ≤ (i + j) / 2 := by omega
      have hh2 : (i + j) / 2 < j := by omega
      generalize (i + j) / 2 = h at *
      refine AW.block ?_   -- 1
      refine AW.seq_k fun K7 h7 => ?_
      all_goals refine AW.reg0 ?_
      all_goals iterate 7 (refine S.g rfl rfl fun Y Z => ?_; simp only [zz, reduceIte, Nat.reduceEqDiff, Nat.reduceAdd, cv3_98, cv98_3, e10, e11, hw2, hu, hs, hw3, Int.reduceLE]; refine Z _ _ ?_; clear Z Y)
      all_goals refine S.nil ?_
      all_goals simp only [ze, reduceIte, Nat.reduceEqDiff, Nat.reduceLT, Nat.reduceLeDiff, Nat.reduceAdd, reduceCtorEq, Nat.reduceMul, e10, e11, hw2, hu, hs, hw3, Int.reduceLE]
      all_goals apply_assumption
      have hpb : (hpB k l0).gr k = some ((38, 6), l0.map encBd) := by simp [hpB]
      have hj1 : h < l0.length := by omega
      have hj2 : a < l0.length := by omega
      obtain ⟨x, hx, hg1⟩ := get_bdx hj1
      obtain ⟨y, hy, hg2⟩ := get_bdx hj2
      have hw4 : IntKind.i64.wrap ((h : Int) + 1) = ((h + 1 : Nat) : Int) := by rw [wrap_small _ (by omega) (by omega)]; rfl
      generalize hsg : hpB k l0 = σ0 at hpb ⊢
      refine AW.seq_j (fun s' σ' => σ' = σ0 ∧ s'.t 0 = .gl k ∧ s'.t 1 = .c (.int .i64 a) ∧ s'.t 4 = .fn (.func 24) [] [] ∧ s'.t 10 = .c (.int .i64 (i : Nat)) ∧ s'.t 11 = .c (.int .i64 (j : Nat)) ∧ s'.t 12 = .c (.int .i64 (h : Nat)) ∧ ∃ b, s'.t 50 = .c (.bool b)) ?_ ?_
      · skip
        all_goals refine AW.draw2 (T := { sd := fun _ => false }) (fun _ _ h => by cases h) mixedO [(0, 0), (1, 0), (2, 0), (3, 0), (5, 0), (6, 0), (7, 0)] 4 8 [(9, 2), (10, 0)] #[true, true, true, true, false, true, true, true, false, false, false] rfl (by kernel_rfl) (by kernel_rfl) (by kernel_rfl) (by kernel_rfl) (by kernel_rfl) ?_
        all_goals iterate 7 (refine D.g rfl trivial rfl rfl fun Y Z => ?_; simp only [zz, reduceIte, Nat.reduceEqDiff, Nat.reduceLT, Nat.reduceLeDiff, Nat.reduceAdd, reduceCtorEq, Nat.reduceMul, sl22, el22, ok38, sz38, ag38, e0, e1, e4, hpb, hj1, hj2, hg1, hg2, encBd, okAv, wkAv]; refine Z _ _ ?_; clear Z Y)
        all_goals refine D.nil ⟨?_, ?_⟩
        all_goals iterate 2 (refine D.g rfl trivial rfl rfl fun Y Z => ?_; simp only [zz, reduceIte, Nat.reduceEqDiff, Nat.reduceLT, Nat.reduceLeDiff, Nat.reduceAdd, reduceCtorEq, Nat.reduceMul, ok38, sz38, ag38, e0, e1, e4, hpb, hj1, hj2, hg1, hg2, encBd, okAv, wkAv]; refine Z _ _ ?_; clear Z Y)
        all_goals (refine D.g rfl trivial rfl rfl fun Y Z => ?_; simp only [zz, reduceIte, Nat.reduceEqDiff, Nat.reduceLT, Nat.reduceLeDiff, Nat.reduceAdd, reduceCtorEq, Nat.reduceMul, e0, e1, e4, hpb, hj1, hj2, hg1, hg2, encBd, okAv, wkAv]; refine PCalls.eqto (less_x x y) ?_ <;> (refine Z _ _ ?_; clear Z Y))
        all_goals (refine D.g rfl trivial rfl rfl fun Y Z => ?_; simp only [zz, reduceIte, Nat.reduceEqDiff, Nat.reduceAdd, e0, e1, e4, hpb, hj1, hj2, hg1, hg2, encBd, okAv, wkAv]; refine Z _ _ ?_; clear Z Y)
        all_goals refine D.nil ?_
        all_goals simp only [ze, reduceIte, Nat.reduceEqDiff, Nat.reduceLT, Nat.reduceLeDiff, Nat.reduceAdd, reduceCtorEq, Nat.reduceMul, e0, e1, e4, hpb, hj1, hj2, hg1, hg2, encBd, okAv, wkAv]
        all_goals exact ⟨e10, e11, _, rfl⟩
      rintro s3 σ3 ⟨rfl, g0, g1, g4, g10, g11, g12, b2, g50⟩
      refine AW.cond (b := b2) g50 (fun hd => ?_) (fun hd => ?_)
      · skip
        all_goals refine AW.reg0 ?_
        all_goals iterate 3 (refine S.g rfl rfl fun Y Z => ?_; simp only [zz, reduceIte, Nat.reduceEqDiff, Nat.reduceAdd, g12, hw4]; refine Z _ _ ?_; clear Z Y)
        all_goals refine S.nil ?_
        all_goals simp only [ze, reduceIte, Nat.reduceEqDiff, Nat.reduceLT, Nat.reduceLeDiff, Nat.reduceAdd, reduceCtorEq, Nat.reduceMul, g12, hw4]
        exact ⟨j - (h + 1), by omega, h + 1, j, rfl, by omega, by omega, hj, g0, g1, g4, rfl, g11⟩
      · skip
        all_goals refine AW.reg0 ?_
        all_goals iterate 2 (refine S.g rfl rfl fun Y Z => ?_; simp only [zz, reduceIte, Nat.reduceEqDiff, Nat.reduceAdd, g12]; refine Z _ _ ?_; clear Z Y)
        all_goals refine S.nil ?_
        all_goals simp only [ze, reduceIte, Nat.reduceEqDiff, Nat.reduceLT, Nat.reduceLeDiff, Nat.reduceAdd, reduceCtorEq, Nat.reduceMul, g12]
        exact ⟨h - i, by omega, i, h, rfl, by omega, by omega, by omega, g0, g1, g4, g10, rfl⟩
    · refine AW.exit ?_
      all_goals simp only [zs, reduceIte, Nat.reduceEqDiff, Nat.reduceLT, Nat.reduceLeDiff, Nat.reduceAdd, reduceCtorEq, Nat.reduceMul]
      have hc := of_decide_eq_false hc
      exact ⟨i, l0, hi, by omega, e0, e1, e10, rfl, Sub.refl _⟩
  rintro s1 σ1 ⟨i, l1, hi, hib, f0, f1, f10, rfl, hs1⟩
  refine AW.seq_k fun K8 h8 => ?_
  refine AW.seq_k fun K9 h9 => ?_
  all_goals refine AW.reg0 ?_
  all_goals iterate 2 (refine S.g rfl rfl fun Y Z => ?_; simp only [zz, reduceIte, Nat.reduceEqDiff, Nat.reduceAdd, f1]; refine Z _ _ ?_; clear Z Y)
  all_goals refine S.nil ?_
  all_goals simp only [ze, reduceIte, Nat.reduceEqDiff, Nat.reduceLT, Nat.reduceLeDiff, Nat.reduceAdd, reduceCtorEq, Nat.reduceMul, f1]
  all_goals apply_assumption
  have hw5 : IntKind.i64.wrap ((i : Int) - 1) = ((i - 1 : Nat) : Int) := by rw [wrap_small _ (by omega) (by omega)]; omega
  refine AW.block ?_   -- 2
  refine AW.loop (fun m s σ => ∃ q l', m + q = i - 1 ∧ a ≤ q ∧ s.t 0 = .gl k ∧ s.t 10 = .c (.int .i64 (i : Nat)) ∧ s.t 13 = .c (.int .i64 (q : Nat)) ∧ σ = hpB k l' ∧ Sub l0 l') (i - 1 - a) ?_ ?_
  · refine ⟨a, l1, by omega, by omega, ?_⟩
    all_goals simp only [zs, reduceIte, Nat.reduceEqDiff, Nat.reduceLT, Nat.reduceLeDiff, Nat.reduceAdd, reduceCtorEq, Nat.reduceMul]
    exact ⟨f0, f10, hs1⟩
  rintro m s σ ⟨q, l', hm, hq, e0, e10, e13, rfl, hs⟩
  refine AW.seq_k fun K10 h10 => ?_
  refine AW.seq_k fun K11 h11 => ?_
  all_goals refine AW.reg0 ?_
  all_goals iterate 4 (refine S.g rfl rfl fun Y Z => ?_; simp only [zz, reduceIte, Nat.reduceEqDiff, Nat.reduceAdd, e10, e13, hw5]; refine Z _ _ ?_; clear Z Y)
  all_goals refine S.nil ?_
  all_goals simp only [ze, reduceIte, Nat.reduceEqDiff, Nat.reduceLT, Nat.reduceLeDiff, Nat.reduceAdd, reduceCtorEq, Nat.reduceMul, e10, e13, hw5]
  all_goals apply_assumption
  refine AW.cond (b := decide (q < i - 1)) (by simp [ev]) (fun hc => ?_) (fun hc => ?_)
  · refine AW.skip ?_
    all_goals simp only [zs, reduceIte, Nat.reduceEqDiff, Nat.reduceLT, Nat.reduceLeDiff, Nat.reduceAdd, reduceCtorEq, Nat.reduceMul]
    all_goals apply_assumption
    have hc := of_decide_eq_true hc
    have hw : IntKind.i64.wrap ((q : Int) + 1) = ((q + 1 : Nat) : Int) := by rw [wrap_small _ (by omega) (by omega)]; rfl
    have hl1 := hs.1
    have hj1 : q < l'.length := by omega
    have hj2 : q + 1 < l'.length := by omega
    obtain ⟨x, hx, hg1⟩ := get_bdx hj1
    obtain ⟨y, hy, hg2⟩ := get_bdx hj2
    have hsub := hs.swap hx hy
    have hgs : ∀ v, ((l'.map encBd).set q v).getD (q + 1) [] = encBd y := fun v => by
      rw [← hg2]; simp [List.getD, List.getElem?_set]
    have hpb : hpB k l' = Hp.empty.setGr k (some ((38, 6), l'.map encBd)) := rfl
    rw [hpb]
    refine AW.seq_k fun K12 h12 => ?_
    refine AW.block ?_   -- 3
    refine AW.mono (Q := thenS (fun s' σ' => σ' = hpB k ((l'.set q y).set (q + 1) x) ∧ s'.t 0 = .gl k ∧ s'.t 10 = .c (.int .i64 (i : Nat)) ∧ s'.t 13 = .c (.int .i64 (q : Nat))) (fun _ _ _ => False)) ?_ ?_
    · skip
      all_goals refine AW.draw2 (T := { sd := fun _ => false }) (fun _ _ h => by cases h) mixedO [(0, 0), (1, 0), (2, 0), (3, 0), (4, 0), (5, 0), (6, 0), (7, 0), (8, 0), (10, 0), (11, 0), (12, 0)] 9 13 [(14, 0), (15, 2), (16, 0), (17, 2)] #[true, true, true, true, true, true, true, true, true, false, true, true, true, false, false, false, false, false] rfl (by kernel_rfl) (by kernel_rfl) (by kernel_rfl) (by kernel_rfl) (by kernel_rfl) ?_
      all_goals iterate 12 (refine D.g rfl trivial rfl rfl fun Y Z => ?_; simp only [zz, reduceIte, Nat.reduceEqDiff, Nat.reduceLT, Nat.reduceLeDiff, Nat.reduceAdd, reduceCtorEq, Nat.reduceMul, sl22, el22, ok38, sz38, ag38, e0, e10, e13, hj1, hj2, hg1, hg2, hgs, hw, encBd, List.length_set, okAv, wkAv]; refine Z _ _ ?_; clear Z Y)
      all_goals refine D.nil ⟨?_, ?_⟩
      all_goals iterate 6 (refine D.g rfl trivial rfl rfl fun Y Z => ?_; simp only [zz, reduceIte, Nat.reduceEqDiff, Nat.reduceLT, Nat.reduceLeDiff, Nat.reduceAdd, reduceCtorEq, Nat.reduceMul, ok38, sz38, ag38, sl22, el22, e0, e10, e13, hj1, hj2, hg1, hg2, hgs, hw, encBd, List.length_set, okAv, wkAv]; refine Z _ _ ?_; clear Z Y)
      all_goals refine D.nil ?_
      all_goals simp only [ze, reduceIte, Nat.reduceEqDiff, Nat.reduceLT, Nat.reduceLeDiff, Nat.reduceAdd, reduceCtorEq, Nat.reduceMul, e0, e10, e13, hj1, hj2, hg1, hg2, hgs, hw, encBd, List.length_set, okAv, wkAv]
      all_goals simp [hpB, encBd, List.map_set]
    rintro e s4 σ4 hq
    cases e with
    | normal =>
      obtain ⟨rfl, q0, q10, q13⟩ := hq
      all_goals simp only [zs, reduceIte, Nat.reduceEqDiff, Nat.reduceLT, Nat.reduceLeDiff, Nat.reduceAdd, reduceCtorEq, Nat.reduceMul]
      all_goals apply_assumption
      all_goals refine AW.reg0 ?_
      all_goals iterate 3 (refine S.g rfl rfl fun Y Z => ?_; simp only [zz, reduceIte, Nat.reduceEqDiff, Nat.reduceAdd, q13, hw]; refine Z _ _ ?_; clear Z Y)
      all_goals refine S.nil ?_
      all_goals simp only [ze, reduceIte, Nat.reduceEqDiff, Nat.reduceLT, Nat.reduceLeDiff, Nat.reduceAdd, reduceCtorEq, Nat.reduceMul, q13, hw]
      exact ⟨m - 1, by omega, q + 1, _, by omega, by omega, q0, q10, rfl, rfl, hsub⟩
    | _ => exact hq.elim
  · refine AW.exit ?_
    all_goals simp only [zs, reduceIte, Nat.reduceEqDiff, Nat.reduceLT, Nat.reduceLeDiff, Nat.reduceAdd, reduceCtorEq, Nat.reduceMul]
    all_goals apply_assumption
    refine AW.ret ?_
    all_goals simp only [zs, reduceIte, Nat.reduceEqDiff, Nat.reduceLT, Nat.reduceLeDiff, Nat.reduceAdd, reduceCtorEq, Nat.reduceMul]
    exact ⟨rfl, l', hs, rfl⟩
end Go.Abs.MX
