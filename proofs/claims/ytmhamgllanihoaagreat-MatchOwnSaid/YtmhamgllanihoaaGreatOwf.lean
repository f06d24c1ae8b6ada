import Derived.Test.YtmhamgllanihoaaGreatOwe
import Derived.Shelf.Spec.SlicesInsert
import Derived.Lib.AppendZerosOnto
import Derived.Laws.NewBlocks
import Derived.Maps.AppendAt
import Derived.Shelf.Spec.SlicesInsertGrow
namespace Go.Abs.M
open Go Go.Abs Go.Proofs
set_option maxRecDepth 20000
set_option linter.unusedSimpArgs false
set_option linter.unusedVariables false
def cmpBd (a b : Bd) : Int := orI [cmpS a.var b.var, cmpId (idOf a) (idOf b)]
def cmpL : List Bd → List Bd → Int
  | [], [] => 0
  | [], _ :: _ => -1
  | _ :: _, [] => 1
  | a :: l, b :: r => if cmpBd a b ≠ 0 then cmpBd a b else cmpL l r
theorem compare_bd (a b : Bd) : PCalls Tryz.prog 57 [.agg (encBd a), .agg (encBd b)] (fun v => v = .c (.int .i64 (cmpBd a b))) := by
 refine PCalls.intro Tryz.call57 Tryz.func57 rfl Tryz.ntmps57 Tryz.results57 (by simp) ?_
 refine AW.seq_k fun K1 h1 => ?_
 refine AW.reg0 ?_
 iterate 3 (refine S.g rfl rfl fun Y Z => ?_; simp only [zz, reduceIte, Nat.reduceEqDiff, Nat.reduceLT, Nat.reduceLeDiff, Nat.reduceAdd, reduceCtorEq, Nat.reduceMul, ok38, sz38, ag38, encBd]; refine Z _ _ ?_; clear Z Y)
 refine S.nil ?_
 simp only [ze, reduceIte, Nat.reduceEqDiff, Nat.reduceLT, Nat.reduceLeDiff, Nat.reduceAdd, reduceCtorEq, Nat.reduceMul, encBd]
 apply_assumption
 refine AW.seq_k fun K2 h2 => ?_
 refine AW.draw (T := { sd := fun d => d == 2 || d == 3 }) (fun _ _ h => by cases h) mixedO [(0, 0), (2, 0), (5, 0), (6, 0), (8, 0), (9, 0), (1, 1), (3, 1), (7, 1), (10, 1), (4, 2), (11, 2), (12, 2), (13, 2), (14, 0)] rfl (by kernel_rfl) (by kernel_rfl) ?_
 iterate 6 (refine D.g rfl trivial rfl rfl fun Y Z => ?_; simp only [zz, reduceIte, Nat.reduceEqDiff, Nat.reduceLT, Nat.reduceLeDiff, Nat.reduceAdd, reduceCtorEq, Nat.reduceMul, of38_0, of38_1, of36_0]; refine Z _ _ ?_; clear Z Y)
 iterate 4 (refine D.g rfl rfl rfl rfl fun Y Z => ?_; simp only [zz, reduceIte, Nat.reduceEqDiff, Nat.reduceLT, Nat.reduceLeDiff, Nat.reduceAdd, reduceCtorEq, Nat.reduceMul, ok9, sz9, ag9, ok33, sz33, ag33]; refine Z _ _ ?_; clear Z Y)
 (refine D.g rfl trivial rfl rfl fun Y Z => ?_; simp only [zz, reduceIte, Nat.reduceEqDiff, Nat.reduceLT, Nat.reduceLeDiff, Nat.reduceAdd, reduceCtorEq, Nat.reduceMul]; refine PCalls.eqto (compare_str _ _) ?_ <;> (refine Z _ _ ?_; clear Z Y))
 (refine D.g rfl trivial rfl rfl fun Y Z => ?_; simp only [zz, reduceIte, Nat.reduceEqDiff, Nat.reduceLT, Nat.reduceLeDiff, Nat.reduceAdd, reduceCtorEq, Nat.reduceMul]; refine PCalls.eqto (compare_id (idOf a) (idOf b)) ?_ <;> (refine Z _ _ ?_; clear Z Y))
 (refine D.g rfl trivial rfl rfl fun Y Z => ?_; simp only [zb, reduceIte, Nat.reduceEqDiff, Nat.reduceLT, Nat.reduceLeDiff, Nat.reduceAdd, reduceCtorEq, Nat.reduceMul, sl121, el121, ok3, sz3, ag3, zt3, by3]; refine ⟨rfl, (by simp), ?_⟩ <;> (refine Z _ _ ?_; clear Z Y))
 (refine D.g rfl trivial rfl rfl fun Y Z => ?_; simp only [zz, reduceIte, Nat.reduceEqDiff, Nat.reduceLT, Nat.reduceLeDiff, Nat.reduceAdd, reduceCtorEq, Nat.reduceMul]; refine PCalls.eqto (or_spec [cmpS a.var b.var, cmpId (idOf a) (idOf b)] (by simp)) ?_ <;> (refine Z _ _ ?_; clear Z Y))
 (refine D.g rfl trivial rfl rfl fun Y Z => ?_; simp only [zz, reduceIte, Nat.reduceEqDiff, Nat.reduceAdd]; refine Z _ _ ?_; clear Z Y)
 refine D.nil ?_
 simp only [ze, reduceIte, Nat.reduceEqDiff, Nat.reduceLT, Nat.reduceLeDiff, Nat.reduceAdd, reduceCtorEq, Nat.reduceMul]
 apply_assumption
 refine AW.ret ?_
 simp only [zs, reduceIte, Nat.reduceEqDiff, Nat.reduceLT, Nat.reduceLeDiff, Nat.reduceAdd, reduceCtorEq, Nat.reduceMul]
 rfl
theorem compareF (l r : List Bd) (hl : l.length < 4611686018427387904) : PCalls Tryz.prog 56 [.sl (l.map encBd), .sl (r.map encBd), .fn (.func 57) [] []] (fun v => v = .c (.int .i64 (cmpL l r))) := by
 refine PCalls.intro Tryz.call56 Tryz.func56 rfl Tryz.ntmps56 Tryz.results56 (by simp) ?_
 refine AW.seq_k fun K1 h1 => ?_
 refine AW.reg0 ?_
 (refine S.g rfl rfl fun Y Z => ?_; simp only [zz, reduceIte, Nat.reduceEqDiff, Nat.reduceAdd]; refine Z _ _ ?_; clear Z Y)
 refine S.nil ?_
 simp only [ze, reduceIte, Nat.reduceEqDiff, Nat.reduceLT, Nat.reduceLeDiff, Nat.reduceAdd, reduceCtorEq, Nat.reduceMul]
 apply_assumption
 refine AW.seq_j (fun s σ => σ = Hp.empty ∧ s.t 0 = .sl (l.map encBd) ∧ s.t 1 = .sl (r.map encBd) ∧ l.length ≤ r.length ∧ cmpL l r = cmpL [] (r.drop l.length)) ?_ ?_
 ·refine AW.seq_k fun K2 h2 => ?_
  refine AW.reg0 ?_
  iterate 3 (refine S.g rfl rfl fun Y Z => ?_; simp only [zz, reduceIte, Nat.reduceEqDiff, Nat.reduceLT, Nat.reduceLeDiff, Nat.reduceAdd, reduceCtorEq, Nat.reduceMul, sl22, el22, ok38, sz38, ag38]; refine Z _ _ ?_; clear Z Y)
  refine S.nil ?_
  simp only [ze, reduceIte, Nat.reduceEqDiff, Nat.reduceLT, Nat.reduceLeDiff, Nat.reduceAdd, reduceCtorEq, Nat.reduceMul]
  apply_assumption
  refine AW.block ?_   -- 0
  refine AW.loop (fun m s σ => σ = Hp.empty ∧ ∃ i : Nat, m + i = l.length ∧ s.t 0 = .sl (l.map encBd) ∧ s.t 1 = .sl (r.map encBd) ∧ s.t 2 = .fn (.func 57) [] [] ∧ s.t 11 = .sl (l.map encBd) ∧ s.t 12 = .c (.int .i64 l.length) ∧ s.t 13 = .c (.int .i64 i) ∧ i ≤ r.length ∧ cmpL l r = cmpL (l.drop i) (r.drop i)) l.length ?_ ?_
  ·refine ⟨rfl, 0, by simp, ?_⟩
   simp only [zs, reduceIte, Nat.reduceEqDiff, Nat.reduceLT, Nat.reduceLeDiff, Nat.reduceAdd, reduceCtorEq, Nat.reduceMul]
   simp
  rintro m s σ ⟨rfl, i, hm, e0, e1, e2, e11, e12, e13, hir, hp⟩
  refine AW.seq_k fun K3 h3 => ?_
  refine AW.reg0 ?_
  (refine S.g rfl rfl fun Y Z => ?_; simp only [zz, reduceIte, Nat.reduceEqDiff, Nat.reduceAdd, e12, e13]; refine Z _ _ ?_; clear Z Y)
  refine S.nil ?_
  simp only [ze, reduceIte, Nat.reduceEqDiff, Nat.reduceLT, Nat.reduceLeDiff, Nat.reduceAdd, reduceCtorEq, Nat.reduceMul, e12, e13]
  apply_assumption
  refine AW.seq_k fun K4 h4 => ?_
  refine AW.cond (b := decide (i < l.length)) (by simp [ev]) (fun hc => ?_) (fun hc => ?_)
  ·refine AW.skip ?_
   simp only [zs, reduceIte, Nat.reduceEqDiff, Nat.reduceLT, Nat.reduceLeDiff, Nat.reduceAdd, reduceCtorEq, Nat.reduceMul]
   apply_assumption
   have hi : i < l.length := by simpa using hc
   have hg := getD_map (f := encBd) hi
   have hd : l.drop i = l[i] :: l.drop (i + 1) := List.drop_eq_getElem_cons hi
   generalize ha : l[i] = a at hg hd
   have hw : IntKind.i64.wrap ((i : Int) + 1) = ((i + 1 : Nat) : Int) := by rw [wrap_small _ (by omega) (by omega)]; rfl
   refine AW.seq_k fun K5 h5 => ?_
   refine AW.block ?_   -- 1
   refine AW.seq_k fun K6 h6 => ?_
   refine AW.reg0 ?_
   iterate 6 (refine S.g rfl rfl fun Y Z => ?_; simp only [zz, reduceIte, Nat.reduceEqDiff, Nat.reduceLT, Nat.reduceLeDiff, Nat.reduceAdd, reduceCtorEq, Nat.reduceMul, sl22, el22, ok38, sz38, ag38, zt38, e11, e13, hi, hg, encBd]; refine Z _ _ ?_; clear Z Y)
   refine S.nil ?_
   simp only [ze, reduceIte, Nat.reduceEqDiff, Nat.reduceLT, Nat.reduceLeDiff, Nat.reduceAdd, reduceCtorEq, Nat.reduceMul, e11, e13, hi, hg, encBd]
   apply_assumption
   refine AW.seq_k fun K7 h7 => ?_
   refine AW.seq_k fun K8 h8 => ?_
   refine AW.reg0 ?_
   iterate 4 (refine S.g rfl rfl fun Y Z => ?_; simp only [zz, reduceIte, Nat.reduceEqDiff, Nat.reduceLT, Nat.reduceLeDiff, Nat.reduceAdd, reduceCtorEq, Nat.reduceMul, sl22, el22, ok38, sz38, ag38, e1]; refine Z _ _ ?_; clear Z Y)
   refine S.nil ?_
   simp only [ze, reduceIte, Nat.reduceEqDiff, Nat.reduceLT, Nat.reduceLeDiff, Nat.reduceAdd, reduceCtorEq, Nat.reduceMul, e1]
   apply_assumption
   refine AW.cond (b := decide ((i : Int) ≥ r.length)) (by simp [ev]) (fun hx => ?_) (fun hx => ?_)
   ·have hx := of_decide_eq_true hx
    refine AW.seq_k fun K9 h9 => ?_
    refine AW.reg0 ?_
    (refine S.g rfl rfl fun Y Z => ?_; simp only [zz, reduceIte, Nat.reduceEqDiff, Nat.reduceAdd]; refine Z _ _ ?_; clear Z Y)
    refine S.nil ?_
    simp only [ze, reduceIte, Nat.reduceEqDiff, Nat.reduceLT, Nat.reduceLeDiff, Nat.reduceAdd, reduceCtorEq, Nat.reduceMul]
    apply_assumption
    refine AW.ret ?_
    simp only [zs, reduceIte, Nat.reduceEqDiff, Nat.reduceLT, Nat.reduceLeDiff, Nat.reduceAdd, reduceCtorEq, Nat.reduceMul]
    rw [hp, hd, List.drop_of_length_le (show r.length ≤ i by omega)]; rfl
   ·have hx := of_decide_eq_false hx
    have hj : i < r.length := by omega
    have hg2 := getD_map (f := encBd) hj
    have hd2 : r.drop i = r[i] :: r.drop (i + 1) := List.drop_eq_getElem_cons hj
    generalize hb : r[i] = b at hg2 hd2
    rw [hd, hd2, cmpL] at hp
    refine AW.skip ?_
    simp only [zs, reduceIte, Nat.reduceEqDiff, Nat.reduceLT, Nat.reduceLeDiff, Nat.reduceAdd, reduceCtorEq, Nat.reduceMul]
    apply_assumption
    refine AW.seq_k fun K10 h10 => ?_
    refine AW.reg0 ?_
    iterate 6 (refine S.g rfl rfl fun Y Z => ?_; simp only [zz, reduceIte, Nat.reduceEqDiff, Nat.reduceLT, Nat.reduceLeDiff, Nat.reduceAdd, reduceCtorEq, Nat.reduceMul, sl22, el22, ok38, sz38, ag38, zt38, e1, hj, hg2, encBd]; refine Z _ _ ?_; clear Z Y)
    refine S.nil ?_
    simp only [ze, reduceIte, Nat.reduceEqDiff, Nat.reduceLT, Nat.reduceLeDiff, Nat.reduceAdd, reduceCtorEq, Nat.reduceMul, e1, hj, hg2, encBd]
    apply_assumption
    refine AW.seq_k fun K11 h11 => ?_
    refine AW.reg0 ?_
    iterate 3 (refine S.g rfl rfl fun Y Z => ?_; simp only [zz, reduceIte, Nat.reduceEqDiff, Nat.reduceLT, Nat.reduceLeDiff, Nat.reduceAdd, reduceCtorEq, Nat.reduceMul, ok38, sz38, ag38, e2, encBd]; refine Z _ _ ?_; clear Z Y)
    (refine S.g rfl rfl fun Y Z => ?_; simp only [zz, reduceIte, Nat.reduceEqDiff, Nat.reduceLT, Nat.reduceLeDiff, Nat.reduceAdd, reduceCtorEq, Nat.reduceMul, e2, encBd]; refine PCalls.eqto (compare_bd a b) ?_ <;> (refine Z _ _ ?_; clear Z Y))
    (refine S.g rfl rfl fun Y Z => ?_; simp only [zz, reduceIte, Nat.reduceEqDiff, Nat.reduceAdd, e2, encBd]; refine Z _ _ ?_; clear Z Y)
    refine S.nil ?_
    simp only [ze, reduceIte, Nat.reduceEqDiff, Nat.reduceLT, Nat.reduceLeDiff, Nat.reduceAdd, reduceCtorEq, Nat.reduceMul, e2, encBd]
    apply_assumption
    refine AW.seq_k fun K12 h12 => ?_
    refine AW.reg0 ?_
    iterate 2 (refine S.g rfl rfl fun Y Z => ?_; simp only [zz, reduceIte, Nat.reduceEqDiff, Nat.reduceAdd]; refine Z _ _ ?_; clear Z Y)
    refine S.nil ?_
    simp only [ze, reduceIte, Nat.reduceEqDiff, Nat.reduceLT, Nat.reduceLeDiff, Nat.reduceAdd, reduceCtorEq, Nat.reduceMul]
    apply_assumption
    refine AW.cond (b := cmpBd a b != 0) (by simp [ev]) (fun hy => ?_) (fun hy => ?_)
    ·have hy : cmpBd a b ≠ 0 := by simpa using hy
     refine AW.seq_k fun K13 h13 => ?_
     refine AW.reg0 ?_
     iterate 2 (refine S.g rfl rfl fun Y Z => ?_; simp only [zz, reduceIte, Nat.reduceEqDiff, Nat.reduceAdd]; refine Z _ _ ?_; clear Z Y)
     refine S.nil ?_
     simp only [ze, reduceIte, Nat.reduceEqDiff, Nat.reduceLT, Nat.reduceLeDiff, Nat.reduceAdd, reduceCtorEq, Nat.reduceMul]
     apply_assumption
     refine AW.ret ?_
     simp only [zs, reduceIte, Nat.reduceEqDiff, Nat.reduceLT, Nat.reduceLeDiff, Nat.reduceAdd, reduceCtorEq, Nat.reduceMul]
     rw [hp, if_pos hy]
    ·have hy : ¬ cmpBd a b ≠ 0 := by simpa using hy
     rw [if_neg hy] at hp
     refine AW.skip ?_
     simp only [zs, reduceIte, Nat.reduceEqDiff, Nat.reduceLT, Nat.reduceLeDiff, Nat.reduceAdd, reduceCtorEq, Nat.reduceMul]
     apply_assumption
     refine AW.reg0 ?_
     iterate 2 (refine S.g rfl rfl fun Y Z => ?_; simp only [zz, reduceIte, Nat.reduceEqDiff, Nat.reduceAdd, e13, hw, e0, e1, e2, e11, e12]; refine Z _ _ ?_; clear Z Y)
     refine S.nil ?_
     simp only [ze, reduceIte, Nat.reduceEqDiff, Nat.reduceLT, Nat.reduceLeDiff, Nat.reduceAdd, reduceCtorEq, Nat.reduceMul, e13, hw, e0, e1, e2, e11, e12]
     exact ⟨m - 1, by omega, i + 1, by omega, rfl, by omega, hp⟩
  ·refine AW.exit ?_
   simp only [zs, reduceIte, Nat.reduceEqDiff, Nat.reduceLT, Nat.reduceLeDiff, Nat.reduceAdd, reduceCtorEq, Nat.reduceMul]
   have hc := of_decide_eq_false hc
   have hil : i = l.length := by omega
   subst hil
   rw [List.drop_length] at hp
   exact ⟨e0, e1, hir, hp⟩
 rintro s σ ⟨rfl, e0, e1, hlr, hp⟩
 refine AW.seq_k fun K14 h14 => ?_
 refine AW.seq_k fun K15 h15 => ?_
 refine AW.reg0 ?_
 iterate 5 (refine S.g rfl rfl fun Y Z => ?_; simp only [zz, reduceIte, Nat.reduceEqDiff, Nat.reduceLT, Nat.reduceLeDiff, Nat.reduceAdd, reduceCtorEq, Nat.reduceMul, sl22, el22, ok38, sz38, ag38, e0, e1]; refine Z _ _ ?_; clear Z Y)
 refine S.nil ?_
 simp only [ze, reduceIte, Nat.reduceEqDiff, Nat.reduceLT, Nat.reduceLeDiff, Nat.reduceAdd, reduceCtorEq, Nat.reduceMul, e0, e1]
 apply_assumption
 refine AW.cond (b := decide (l.length < r.length)) (by simp [ev]) (fun hc => ?_) (fun hc => ?_)
 ·have hc := of_decide_eq_true hc
  refine AW.seq_k fun K16 h16 => ?_
  refine AW.reg0 ?_
  (refine S.g rfl rfl fun Y Z => ?_; simp only [zz, reduceIte, Nat.reduceEqDiff, Nat.reduceAdd]; refine Z _ _ ?_; clear Z Y)
  refine S.nil ?_
  simp only [ze, reduceIte, Nat.reduceEqDiff, Nat.reduceLT, Nat.reduceLeDiff, Nat.reduceAdd, reduceCtorEq, Nat.reduceMul]
  apply_assumption
  refine AW.ret ?_
  simp only [zs, reduceIte, Nat.reduceEqDiff, Nat.reduceLT, Nat.reduceLeDiff, Nat.reduceAdd, reduceCtorEq, Nat.reduceMul]
  rw [hp, List.drop_eq_getElem_cons hc]; rfl
 ·have hc := of_decide_eq_false hc
  refine AW.skip ?_
  simp only [zs, reduceIte, Nat.reduceEqDiff, Nat.reduceLT, Nat.reduceLeDiff, Nat.reduceAdd, reduceCtorEq, Nat.reduceMul]
  apply_assumption
  refine AW.seq_k fun K17 h17 => ?_
  refine AW.reg0 ?_
  (refine S.g rfl rfl fun Y Z => ?_; simp only [zz, reduceIte, Nat.reduceEqDiff, Nat.reduceAdd]; refine Z _ _ ?_; clear Z Y)
  refine S.nil ?_
  simp only [ze, reduceIte, Nat.reduceEqDiff, Nat.reduceLT, Nat.reduceLeDiff, Nat.reduceAdd, reduceCtorEq, Nat.reduceMul]
  apply_assumption
  refine AW.ret ?_
  simp only [zs, reduceIte, Nat.reduceEqDiff, Nat.reduceLT, Nat.reduceLeDiff, Nat.reduceAdd, reduceCtorEq, Nat.reduceMul]
  rw [hp, List.drop_of_length_le (by omega)]; rfl
theorem compare_part (l r : List Bd) (hl : l.length < 4611686018427387904) : PCalls Tryz.prog 35 [.agg [.sl (l.map encBd)], .agg [.sl (r.map encBd)]] (fun v => v = .c (.int .i64 (cmpL l r))) := by
 refine PCalls.intro Tryz.call35 Tryz.func35 rfl Tryz.ntmps35 Tryz.results35 (by simp) ?_
 refine AW.seq_k fun K1 h1 => ?_
 refine AW.reg0 ?_
 iterate 3 (refine S.g rfl rfl fun Y Z => ?_; simp only [zz, reduceIte, Nat.reduceEqDiff, Nat.reduceLeDiff, Nat.reduceAdd, ok24, sz24, ag24]; refine Z _ _ ?_; clear Z Y)
 refine S.nil ?_
 simp only [ze, reduceIte, Nat.reduceEqDiff, Nat.reduceLeDiff, Nat.reduceAdd]
 apply_assumption
 refine AW.seq_k fun K2 h2 => ?_
 refine AW.reg0 ?_
 iterate 4 (refine S.g rfl rfl fun Y Z => ?_; simp only [zz, reduceIte, Nat.reduceEqDiff, Nat.reduceLeDiff, Nat.reduceAdd, of24_0, ok22, sz22, ag22]; refine Z _ _ ?_; clear Z Y)
 (refine S.g rfl rfl fun Y Z => ?_; simp only [zz, reduceIte, Nat.reduceEqDiff, Nat.reduceLeDiff, Nat.reduceAdd]; refine PCalls.eqto (compareF _ _ (by assumption)) ?_ <;> (refine Z _ _ ?_; clear Z Y))
 (refine S.g rfl rfl fun Y Z => ?_; simp only [zz, reduceIte, Nat.reduceEqDiff, Nat.reduceAdd]; refine Z _ _ ?_; clear Z Y)
 refine S.nil ?_
 simp only [ze, reduceIte, Nat.reduceEqDiff, Nat.reduceLeDiff, Nat.reduceAdd]
 apply_assumption
 refine AW.ret ?_
 simp only [zs, reduceIte, Nat.reduceEqDiff, Nat.reduceLeDiff, Nat.reduceAdd]
end Go.Abs.M
namespace Go.Abs.M
open Go Go.Abs Go.Proofs
set_option maxRecDepth 20000
set_option linter.unusedSimpArgs false
set_option linter.unusedVariables false
theorem rcompare_part (l r : List Bd) (hl : l.length < 4611686018427387904) : PCalls Tryz.prog 55 [.agg [.sl (l.map encBd)], .agg [.sl (r.map encBd)]] (fun v => v = .c (.int .i64 (cmpL l r))) := by
 refine PCalls.intro Tryz.call55 Tryz.func55 rfl Tryz.ntmps55 Tryz.results55 (by simp) ?_
 refine AW.seq_k fun K1 h1 => ?_
 all_goals refine AW.reg0 ?_
 all_goals iterate 3 (refine S.g rfl rfl fun Y Z => ?_; simp only [zz, reduceIte, Nat.reduceEqDiff, Nat.reduceLT, Nat.reduceLeDiff, Nat.reduceAdd, reduceCtorEq, Nat.reduceMul, ok24, sz24, ag24]; refine Z _ _ ?_; clear Z Y)
 all_goals refine S.nil ?_
 all_goals simp only [ze, reduceIte, Nat.reduceEqDiff, Nat.reduceLT, Nat.reduceLeDiff, Nat.reduceAdd, reduceCtorEq, Nat.reduceMul]
 all_goals apply_assumption
 refine AW.seq_j (fun s σ => σ = Hp.empty ∧ s.t 2 = .lp 2 0 ∧ s.l 2 = some [.sl (l.map encBd)] ∧ s.t 3 = .lp 3 0 ∧ s.l 3 = some [.sl (r.map encBd)] ∧ ∃ i : Nat, (l.length ≤ i ∨ r.length ≤ i) ∧ i ≤ l.length ∧ i ≤ r.length ∧ cmpL l r = cmpL (l.drop i) (r.drop i)) ?_ ?_
 ·refine AW.seq_k fun K2 h2 => ?_
  all_goals refine AW.reg0 ?_
  all_goals (refine S.g rfl rfl fun Y Z => ?_; simp only [zz, reduceIte, Nat.reduceEqDiff, Nat.reduceAdd]; refine Z _ _ ?_; clear Z Y)
  all_goals refine S.nil ?_
  all_goals simp only [ze, reduceIte, Nat.reduceEqDiff, Nat.reduceLT, Nat.reduceLeDiff, Nat.reduceAdd, reduceCtorEq, Nat.reduceMul]
  all_goals apply_assumption
  refine AW.block ?_   -- 0
  refine AW.loop (fun m s σ => σ = Hp.empty ∧ ∃ i : Nat, m + i = l.length ∧ s.t 2 = .lp 2 0 ∧ s.l 2 = some [.sl (l.map encBd)] ∧ s.t 3 = .lp 3 0 ∧ s.l 3 = some [.sl (r.map encBd)] ∧ s.t 5 = .c (.int .i64 i) ∧ i ≤ r.length ∧ cmpL l r = cmpL (l.drop i) (r.drop i)) l.length ?_ ?_
  ·refine ⟨rfl, 0, by simp, ?_⟩
   all_goals simp only [zs, reduceIte, Nat.reduceEqDiff, Nat.reduceLT, Nat.reduceLeDiff, Nat.reduceAdd, reduceCtorEq, Nat.reduceMul]
   simp
  rintro m s σ ⟨rfl, i, hm, e2, l2, e3, l3, e5, hir, hp⟩
  refine AW.seq_k fun K3 h3 => ?_
  refine AW.seq_j (fun s' σ => σ = Hp.empty ∧ s'.t 2 = .lp 2 0 ∧ s'.l 2 = some [.sl (l.map encBd)] ∧ s'.t 3 = .lp 3 0 ∧ s'.l 3 = some [.sl (r.map encBd)] ∧ s'.t 5 = .c (.int .i64 i) ∧ s'.t 20 = .c (.bool (decide (i < l.length ∧ i < r.length)))) ?_ ?_
  ·clear hp
   all_goals refine AW.reg0 ?_
   all_goals iterate 4 (refine S.g rfl rfl fun Y Z => ?_; simp only [zz, reduceIte, Nat.reduceEqDiff, Nat.reduceLT, Nat.reduceLeDiff, Nat.reduceAdd, reduceCtorEq, Nat.reduceMul, of24_0, ok22, sz22, ag22, sl22, el22, ok38, sz38, ag38, e2, l2, e3, l3, e5]; refine Z _ _ ?_; clear Z Y)
   all_goals (refine S.g rfl rfl fun Y Z => ?_; simp only [zz, reduceIte, Nat.reduceEqDiff, Nat.reduceLT, Nat.reduceLeDiff, Nat.reduceAdd, reduceCtorEq, Nat.reduceMul, e2, l2, e3, l3, e5]; refine S.bool fun b a13 => ?_; cases b <;> (try (exfalso; first | exact Bool.noConfusion a13 | (have h := of_decide_eq_true a13; omega) | (have h := of_decide_eq_false a13; omega))) <;> (refine Z _ _ ?_; clear Z Y))
   all_goals (refine S.g rfl rfl fun Y Z => ?_; simp only [zz, reduceIte, Nat.reduceEqDiff, Nat.reduceAdd, e2, l2, e3, l3, e5]; refine Z _ _ ?_; clear Z Y)
   all_goals iterate 5 (first | (refine S.y rfl rfl rfl rfl fun Y Z => ?_; simp only [zz, reduceIte, Nat.reduceEqDiff, Nat.reduceLT, Nat.reduceLeDiff, Nat.reduceAdd, reduceCtorEq, Nat.reduceMul, of24_0, ok22, sz22, ag22, sl22, el22, ok38, sz38, ag38, e2, l2, e3, l3, e5]; refine Z _ _ ?_; clear Z Y) | ((first | refine S.x rfl rfl rfl rfl fun Y Z => ?_ | refine S.u rfl rfl rfl rfl fun Y Z => ?_); simp only [ze, reduceIte, Nat.reduceEqDiff]; refine Z _ _ ?_; clear Z Y))
   all_goals (refine S.g rfl rfl fun Y Z => ?_; simp only [zz, reduceIte, Nat.reduceEqDiff, Nat.reduceAdd, e2, l2, e3, l3, e5]; refine Z _ _ ?_; clear Z Y)
   all_goals refine S.nil ?_
   all_goals simp only [ze, reduceIte, Nat.reduceEqDiff, Nat.reduceLT, Nat.reduceLeDiff, Nat.reduceAdd, reduceCtorEq, Nat.reduceMul, e2, l2, e3, l3, e5]
   all_goals (simp only [decide_eq_true_eq, decide_eq_false_iff_not] at a13; simp [a13]; try omega)
  clear e2 l2 e3 l3 e5
  rintro s σ ⟨rfl, e2, l2, e3, l3, e5, e20⟩
  refine AW.cond (b := _) e20 (fun hc => ?_) (fun hc => ?_)
  ·obtain ⟨hi, hj⟩ := of_decide_eq_true hc
   refine AW.skip ?_
   all_goals simp only [zs, reduceIte, Nat.reduceEqDiff, Nat.reduceLT, Nat.reduceLeDiff, Nat.reduceAdd, reduceCtorEq, Nat.reduceMul]
   all_goals apply_assumption
   have hg := getD_map (f := encBd) hi
   have hg2 := getD_map (f := encBd) hj
   have hd : l.drop i = l[i] :: l.drop (i + 1) := List.drop_eq_getElem_cons hi
   have hd2 : r.drop i = r[i] :: r.drop (i + 1) := List.drop_eq_getElem_cons hj
   generalize ha : l[i] = a at hg hd
   generalize hb : r[i] = b at hg2 hd2
   rw [hd, hd2, cmpL] at hp
   have hw : IntKind.i64.wrap ((i : Int) + 1) = ((i + 1 : Nat) : Int) := by rw [wrap_small _ (by omega) (by omega)]; rfl
   refine AW.seq_k fun K4 h4 => ?_
   refine AW.block ?_   -- 1
   refine AW.seq_k fun K5 h5 => ?_
   all_goals refine AW.reg0 ?_
   all_goals iterate 7 (refine S.g rfl rfl fun Y Z => ?_; simp only [zz, reduceIte, Nat.reduceEqDiff, Nat.reduceLT, Nat.reduceLeDiff, Nat.reduceAdd, reduceCtorEq, Nat.reduceMul, of24_0, ok22, sz22, ag22, sl22, el22, ok38, sz38, ag38, zt38, e2, l2, e5, hi, hg, encBd]; refine Z _ _ ?_; clear Z Y)
   all_goals refine S.nil ?_
   all_goals simp only [ze, reduceIte, Nat.reduceEqDiff, Nat.reduceLT, Nat.reduceLeDiff, Nat.reduceAdd, reduceCtorEq, Nat.reduceMul, e2, l2, e5, hi, hg, encBd]
   all_goals apply_assumption
   refine AW.seq_k fun K6 h6 => ?_
   all_goals refine AW.reg0 ?_
   all_goals iterate 7 (refine S.g rfl rfl fun Y Z => ?_; simp only [zz, reduceIte, Nat.reduceEqDiff, Nat.reduceLT, Nat.reduceLeDiff, Nat.reduceAdd, reduceCtorEq, Nat.reduceMul, of24_0, ok22, sz22, ag22, sl22, el22, ok38, sz38, ag38, zt38, e3, l3, e5, hj, hg2, encBd]; refine Z _ _ ?_; clear Z Y)
   all_goals refine S.nil ?_
   all_goals simp only [ze, reduceIte, Nat.reduceEqDiff, Nat.reduceLT, Nat.reduceLeDiff, Nat.reduceAdd, reduceCtorEq, Nat.reduceMul, e3, l3, e5, hj, hg2, encBd]
   all_goals apply_assumption
   refine AW.seq_k fun K7 h7 => ?_
   refine AW.seq_k fun K8 h8 => ?_
   all_goals refine AW.reg0 ?_
   all_goals iterate 5 (refine S.g rfl rfl fun Y Z => ?_; simp only [zz, reduceIte, Nat.reduceEqDiff, Nat.reduceLT, Nat.reduceLeDiff, Nat.reduceAdd, reduceCtorEq, Nat.reduceMul, of38_0, ok9, sz9, ag9, encBd]; refine Z _ _ ?_; clear Z Y)
   all_goals refine S.nil ?_
   all_goals simp only [ze, reduceIte, Nat.reduceEqDiff, Nat.reduceLT, Nat.reduceLeDiff, Nat.reduceAdd, reduceCtorEq, Nat.reduceMul, encBd]
   all_goals apply_assumption
   refine AW.cond (b := Op.bytesLess a.var.toList b.var.toList) (by simp [ev]) (fun hx => ?_) (fun hx => ?_)
   ·refine AW.seq_k fun K9 h9 => ?_
    all_goals refine AW.reg0 ?_
    all_goals (refine S.g rfl rfl fun Y Z => ?_; simp only [zz, reduceIte, Nat.reduceEqDiff, Nat.reduceAdd]; refine Z _ _ ?_; clear Z Y)
    all_goals refine S.nil ?_
    all_goals simp only [ze, reduceIte, Nat.reduceEqDiff, Nat.reduceLT, Nat.reduceLeDiff, Nat.reduceAdd, reduceCtorEq, Nat.reduceMul]
    all_goals apply_assumption
    refine AW.ret ?_
    all_goals simp only [zs, reduceIte, Nat.reduceEqDiff, Nat.reduceLT, Nat.reduceLeDiff, Nat.reduceAdd, reduceCtorEq, Nat.reduceMul]
    have : cmpBd a b = -1 := by simp [cmpBd, orI, cmpS, hx]
    rw [hp, this]; simp
   ·refine AW.skip ?_
    all_goals simp only [zs, reduceIte, Nat.reduceEqDiff, Nat.reduceLT, Nat.reduceLeDiff, Nat.reduceAdd, reduceCtorEq, Nat.reduceMul]
    all_goals apply_assumption
    refine AW.seq_k fun K10 h10 => ?_
    refine AW.seq_k fun K11 h11 => ?_
    all_goals refine AW.reg0 ?_
    all_goals iterate 5 (refine S.g rfl rfl fun Y Z => ?_; simp only [zz, reduceIte, Nat.reduceEqDiff, Nat.reduceLT, Nat.reduceLeDiff, Nat.reduceAdd, reduceCtorEq, Nat.reduceMul, of38_0, ok9, sz9, ag9, encBd]; refine Z _ _ ?_; clear Z Y)
    all_goals refine S.nil ?_
    all_goals simp only [ze, reduceIte, Nat.reduceEqDiff, Nat.reduceLT, Nat.reduceLeDiff, Nat.reduceAdd, reduceCtorEq, Nat.reduceMul, encBd]
    all_goals apply_assumption
    refine AW.cond (b := !(Op.bytesLess a.var.toList b.var.toList || a.var.toList == b.var.toList)) (by simp [ev]) (fun hy => ?_) (fun hy => ?_)
    ·refine AW.seq_k fun K12 h12 => ?_
     all_goals refine AW.reg0 ?_
     all_goals (refine S.g rfl rfl fun Y Z => ?_; simp only [zz, reduceIte, Nat.reduceEqDiff, Nat.reduceAdd]; refine Z _ _ ?_; clear Z Y)
     all_goals refine S.nil ?_
     all_goals simp only [ze, reduceIte, Nat.reduceEqDiff, Nat.reduceLT, Nat.reduceLeDiff, Nat.reduceAdd, reduceCtorEq, Nat.reduceMul]
     all_goals apply_assumption
     refine AW.ret ?_
     all_goals simp only [zs, reduceIte, Nat.reduceEqDiff, Nat.reduceLT, Nat.reduceLeDiff, Nat.reduceAdd, reduceCtorEq, Nat.reduceMul]
     rw [Bool.not_eq_true'] at hy
     have hs : cmpS a.var b.var = 1 := by unfold cmpS; rw [if_neg (by rw [hx]; simp), if_neg (by rw [hy]; simp)]
     have : cmpBd a b = 1 := by simp [cmpBd, orI, hs]
     rw [hp, this]; simp
    ·rw [Bool.not_eq_false'] at hy
     have hs : cmpS a.var b.var = 0 := by simp only [cmpS]; rw [if_neg (by rw [hx]; simp), if_pos hy]
     have hq : cmpBd a b = cmpId (idOf a) (idOf b) := by
      simp only [cmpBd, orI, hs]
      by_cases hz : cmpId (idOf a) (idOf b) = 0 <;> simp [hz]
     rw [hq] at hp
     refine AW.skip ?_
     all_goals simp only [zs, reduceIte, Nat.reduceEqDiff, Nat.reduceLT, Nat.reduceLeDiff, Nat.reduceAdd, reduceCtorEq, Nat.reduceMul]
     all_goals apply_assumption
     refine AW.seq_k fun K13 h13 => ?_
     all_goals refine AW.reg0 ?_
     all_goals iterate 6 (refine S.g rfl rfl fun Y Z => ?_; simp only [zz, reduceIte, Nat.reduceEqDiff, Nat.reduceLT, Nat.reduceLeDiff, Nat.reduceAdd, reduceCtorEq, Nat.reduceMul, of38_1, of36_0, ok33, sz33, ag33, encBd]; refine Z _ _ ?_; clear Z Y)
     all_goals (refine S.g rfl rfl fun Y Z => ?_; simp only [zz, reduceIte, Nat.reduceEqDiff, Nat.reduceLT, Nat.reduceLeDiff, Nat.reduceAdd, reduceCtorEq, Nat.reduceMul, encBd]; refine PCalls.eqto (rcompare_id (idOf a) (idOf b)) ?_ <;> (refine Z _ _ ?_; clear Z Y))
     all_goals (refine S.g rfl rfl fun Y Z => ?_; simp only [zz, reduceIte, Nat.reduceEqDiff, Nat.reduceAdd, encBd]; refine Z _ _ ?_; clear Z Y)
     all_goals refine S.nil ?_
     all_goals simp only [ze, reduceIte, Nat.reduceEqDiff, Nat.reduceLT, Nat.reduceLeDiff, Nat.reduceAdd, reduceCtorEq, Nat.reduceMul, encBd]
     all_goals apply_assumption
     refine AW.seq_k fun K14 h14 => ?_
     all_goals refine AW.reg0 ?_
     all_goals iterate 2 (refine S.g rfl rfl fun Y Z => ?_; simp only [zz, reduceIte, Nat.reduceEqDiff, Nat.reduceAdd]; refine Z _ _ ?_; clear Z Y)
     all_goals refine S.nil ?_
     all_goals simp only [ze, reduceIte, Nat.reduceEqDiff, Nat.reduceLT, Nat.reduceLeDiff, Nat.reduceAdd, reduceCtorEq, Nat.reduceMul]
     all_goals apply_assumption
     refine AW.cond (b := cmpId (idOf a) (idOf b) != 0) (by simp [ev]) (fun hz => ?_) (fun hz => ?_)
     ·have hz : cmpId (idOf a) (idOf b) ≠ 0 := by simpa using hz
      refine AW.seq_k fun K15 h15 => ?_
      all_goals refine AW.reg0 ?_
      all_goals iterate 2 (refine S.g rfl rfl fun Y Z => ?_; simp only [zz, reduceIte, Nat.reduceEqDiff, Nat.reduceAdd]; refine Z _ _ ?_; clear Z Y)
      all_goals refine S.nil ?_
      all_goals simp only [ze, reduceIte, Nat.reduceEqDiff, Nat.reduceLT, Nat.reduceLeDiff, Nat.reduceAdd, reduceCtorEq, Nat.reduceMul]
      all_goals apply_assumption
      refine AW.ret ?_
      all_goals simp only [zs, reduceIte, Nat.reduceEqDiff, Nat.reduceLT, Nat.reduceLeDiff, Nat.reduceAdd, reduceCtorEq, Nat.reduceMul]
      rw [hp, if_pos hz]
     ·have hz : ¬ cmpId (idOf a) (idOf b) ≠ 0 := by simpa using hz
      rw [if_neg hz] at hp
      refine AW.skip ?_
      all_goals simp only [zs, reduceIte, Nat.reduceEqDiff, Nat.reduceLT, Nat.reduceLeDiff, Nat.reduceAdd, reduceCtorEq, Nat.reduceMul]
      all_goals apply_assumption
      all_goals refine AW.reg0 ?_
      all_goals iterate 3 (refine S.g rfl rfl fun Y Z => ?_; simp only [zz, reduceIte, Nat.reduceEqDiff, Nat.reduceAdd, e5, hw, e2, l2, e3, l3]; refine Z _ _ ?_; clear Z Y)
      all_goals refine S.nil ?_
      all_goals simp only [ze, reduceIte, Nat.reduceEqDiff, Nat.reduceLT, Nat.reduceLeDiff, Nat.reduceAdd, reduceCtorEq, Nat.reduceMul, e5, hw, e2, l2, e3, l3]
      exact ⟨m - 1, by omega, i + 1, by omega, rfl, by omega, hp⟩
  ·have hc := of_decide_eq_false hc
   refine AW.exit ?_
   all_goals simp only [zs, reduceIte, Nat.reduceEqDiff, Nat.reduceLT, Nat.reduceLeDiff, Nat.reduceAdd, reduceCtorEq, Nat.reduceMul]
   exact ⟨e2, l2, e3, l3, i, by omega, by omega, hir, hp⟩
 rintro s σ ⟨rfl, e2, l2, e3, l3, i, h1, h2, h3, hp⟩
 refine AW.seq_k fun K16 h16 => ?_
 refine AW.block ?_   -- 2
 refine AW.seq_k fun K17 h17 => ?_
 all_goals refine AW.reg0 ?_
 all_goals iterate 8 (refine S.g rfl rfl fun Y Z => ?_; simp only [zz, reduceIte, Nat.reduceEqDiff, Nat.reduceLT, Nat.reduceLeDiff, Nat.reduceAdd, reduceCtorEq, Nat.reduceMul, of24_0, ok22, sz22, ag22, sl22, el22, ok38, sz38, ag38, e2, l2, e3, l3]; refine Z _ _ ?_; clear Z Y)
 all_goals refine S.nil ?_
 all_goals simp only [ze, reduceIte, Nat.reduceEqDiff, Nat.reduceLT, Nat.reduceLeDiff, Nat.reduceAdd, reduceCtorEq, Nat.reduceMul, e2, l2, e3, l3]
 all_goals apply_assumption
 refine AW.cond (b := decide (l.length < r.length)) (by simp [ev]) (fun hc => ?_) (fun hc => ?_)
 ·have hc := of_decide_eq_true hc
  refine AW.seq_k fun K18 h18 => ?_
  all_goals refine AW.reg0 ?_
  all_goals (refine S.g rfl rfl fun Y Z => ?_; simp only [zz, reduceIte, Nat.reduceEqDiff, Nat.reduceAdd]; refine Z _ _ ?_; clear Z Y)
  all_goals refine S.nil ?_
  all_goals simp only [ze, reduceIte, Nat.reduceEqDiff, Nat.reduceLT, Nat.reduceLeDiff, Nat.reduceAdd, reduceCtorEq, Nat.reduceMul]
  all_goals apply_assumption
  refine AW.ret ?_
  all_goals simp only [zs, reduceIte, Nat.reduceEqDiff, Nat.reduceLT, Nat.reduceLeDiff, Nat.reduceAdd, reduceCtorEq, Nat.reduceMul]
  rw [hp, List.drop_of_length_le (show l.length ≤ i by omega), List.drop_eq_getElem_cons (show i < r.length by omega)]; rfl
 ·have hc := of_decide_eq_false hc
  refine AW.seq_k fun K19 h19 => ?_
  all_goals refine AW.reg0 ?_
  all_goals iterate 8 (refine S.g rfl rfl fun Y Z => ?_; simp only [zz, reduceIte, Nat.reduceEqDiff, Nat.reduceLT, Nat.reduceLeDiff, Nat.reduceAdd, reduceCtorEq, Nat.reduceMul, of24_0, ok22, sz22, ag22, sl22, el22, ok38, sz38, ag38, e2, l2, e3, l3]; refine Z _ _ ?_; clear Z Y)
  all_goals refine S.nil ?_
  all_goals simp only [ze, reduceIte, Nat.reduceEqDiff, Nat.reduceLT, Nat.reduceLeDiff, Nat.reduceAdd, reduceCtorEq, Nat.reduceMul, e2, l2, e3, l3]
  all_goals apply_assumption
  refine AW.cond (b := decide ((l.length : Int) > r.length)) (by simp [ev]) (fun hd => ?_) (fun hd => ?_)
  ·have hd := of_decide_eq_true hd
   refine AW.seq_k fun K20 h20 => ?_
   all_goals refine AW.reg0 ?_
   all_goals (refine S.g rfl rfl fun Y Z => ?_; simp only [zz, reduceIte, Nat.reduceEqDiff, Nat.reduceAdd]; refine Z _ _ ?_; clear Z Y)
   all_goals refine S.nil ?_
   all_goals simp only [ze, reduceIte, Nat.reduceEqDiff, Nat.reduceLT, Nat.reduceLeDiff, Nat.reduceAdd, reduceCtorEq, Nat.reduceMul]
   all_goals apply_assumption
   refine AW.ret ?_
   all_goals simp only [zs, reduceIte, Nat.reduceEqDiff, Nat.reduceLT, Nat.reduceLeDiff, Nat.reduceAdd, reduceCtorEq, Nat.reduceMul]
   rw [hp, List.drop_of_length_le (show r.length ≤ i by omega), List.drop_eq_getElem_cons (show i < l.length by omega)]; rfl
  ·have hd := of_decide_eq_false hd
   refine AW.skip ?_
   all_goals simp only [zs, reduceIte, Nat.reduceEqDiff, Nat.reduceLT, Nat.reduceLeDiff, Nat.reduceAdd, reduceCtorEq, Nat.reduceMul]
   all_goals apply_assumption
   refine AW.seq_k fun K21 h21 => ?_
   all_goals refine AW.reg0 ?_
   all_goals (refine S.g rfl rfl fun Y Z => ?_; simp only [zz, reduceIte, Nat.reduceEqDiff, Nat.reduceAdd]; refine Z _ _ ?_; clear Z Y)
   all_goals refine S.nil ?_
   all_goals simp only [ze, reduceIte, Nat.reduceEqDiff, Nat.reduceLT, Nat.reduceLeDiff, Nat.reduceAdd, reduceCtorEq, Nat.reduceMul]
   all_goals apply_assumption
   refine AW.ret ?_
   all_goals simp only [zs, reduceIte, Nat.reduceEqDiff, Nat.reduceLT, Nat.reduceLeDiff, Nat.reduceAdd, reduceCtorEq, Nat.reduceMul]
   rw [hp, List.drop_of_length_le (show l.length ≤ i by omega), List.drop_of_length_le (show r.length ≤ i by omega)]; rfl
end Go.Abs.M
namespace Go.Abs.M
open Go Go.Abs Go.Proofs
set_option linter.unusedSimpArgs false
def inI64 (n : Int) : Prop := -9223372036854775808 ≤ n ∧ n ≤ 9223372036854775807
end Go.Abs.M
namespace Go.Abs.M
open Go Go.Abs Go.Proofs
set_option linter.unusedSimpArgs false
set_option maxRecDepth 20000
theorem inI64_of {x : Int} (h : (Lit.int .i64 x).wf = true) : inI64 x := by
 simp [Lit.wf, IntKind.min, IntKind.max, IntKind.signed, IntKind.bits] at h
 unfold inI64; omega
theorem ev_time {n : Nat} {e : Ev} (h : Fit Tryz.prog n 36 (encEv e)) : inI64 e.time := by
 obtain ⟨_, m, _, hf⟩ := h.st Tryz.underlying36
 have h1 : Fit Tryz.prog m 2 (((encEv e).drop 2).take (Tryz.prog.cellsOf 2)) := hf 1 _ rfl
 rw [co2] at h1
 obtain ⟨x, hx, hw⟩ := h1.int Tryz.underlying2
 simp [encEv] at hx
 rw [hx]; exact inI64_of hw
theorem bd_time {n : Nat} {b : Bd} (h : Fit Tryz.prog n 38 (encBd b)) : inI64 b.ev.time := by
 obtain ⟨_, m, _, hf⟩ := h.st Tryz.underlying38
 have h1 : Fit Tryz.prog m 36 (((encBd b).drop 1).take (Tryz.prog.cellsOf 36)) := hf 1 _ rfl
 have h2 : ((encBd b).drop 1).take (Tryz.prog.cellsOf 36) = encEv b.ev := by rw [co36]; rfl
 rw [h2] at h1
 exact ev_time h1
theorem part_time {n : Nat} {l : List Bd} (h : Fit Tryz.prog n 24 [.sl (l.map encBd)]) : ∀ b ∈ l, inI64 b.ev.time := by
 obtain ⟨_, m, _, hf⟩ := h.st Tryz.underlying24
 have h0 : Fit Tryz.prog m 22 (([V.sl (l.map encBd)].drop 0).take (Tryz.prog.cellsOf 22)) := hf 0 _ rfl
 simp only [co22, List.drop_zero, List.take_succ_cons, List.take_zero, List.drop_succ_cons] at h0
 obtain ⟨es, e4, hes, k, _, hk⟩ := h0.sl Tryz.underlying22
 simp only [List.cons.injEq, V.sl.injEq, and_true] at e4
 subst e4
 exact fun b hb => bd_time (hk _ (List.mem_map.2 ⟨b, hb, rfl⟩)).2
structure okT (l : List Bd) : Prop where
  i : okI l
  time : ∀ b ∈ l, inI64 b.ev.time
section
variable {H : Type} {enc : TypeId × Value → H} {W : World} {base : Nat} {v : Value} {d : DataW H} {ps : List MemPlace}
theorem arg_partT (hval : Value.okWide Tryz.prog W .any base 24 v)
  (h : DataW.Trod enc Tryz.prog W 0 (fun _ => true) true 24 v d ps) (hw : ∀ n ∈ d.weights Tryz.prog 24, n ≤ reachBytes) : ∃ l : List Bd, VR W (cx0 W) (.agg [.sl (l.map encBd)]) v ∧ okT l := by
 have hm : (24 : TypeId) ∈ plainTs := by unfold plainTs; exact List.mem_cons_self
 obtain ⟨n, us, h1, h2⟩ := open_arg (P := Tryz.prog) (t := 24) plainTs plain_ok hm h hw
 have hsh : ∃ cs, v = .agg cs ∧ cs.size = 1 := by
  obtain ⟨cs, h3, h4⟩ := okWide_agg Tryz.underlying24 hval
  exact ⟨cs, h3, by rw [h4]; exact co24⟩
 obtain ⟨cs, rfl, hcs⟩ := hsh
 have hl : us.length = 1 := by rw [h1.1]; simpa [Value.cells] using hcs
 obtain ⟨l, rfl, hok⟩ := open_part hl h2
 exact ⟨l, VR.of_row h1, hok, part_time h2⟩
def encB (x : Nat) : List V := [.c (.int .u8 x)]
def encP (l : List Bd) : List V := [.sl (l.map encBd)]
end
end Go.Abs.M
namespace Go.Abs.M
open Go Go.Abs Go.Proofs
set_option maxRecDepth 20000
set_option linter.unusedSimpArgs false
set_option linter.unusedVariables false
/-- A partial match that may be cloned. -/
def cloneOk (l : List Bd) : Prop := (∀ b ∈ l, b.ev.attrs.length * 48 ≤ 140737488355328) ∧ l.length * 80 ≤ 140737488355328
theorem encP_at {l : List (List Bd)} {i : Nat} {x : List Bd} (h : l[i]? = some x) : (l.map encP).getD i [] = encP x := by simp [List.getD, h]
theorem encP_len {l : List (List Bd)} : ∀ e : List V, e ∈ l.map encP → e.length = 1 := fun e he => by obtain ⟨x, _, rfl⟩ := List.mem_map.1 he; rfl
theorem imm_attr (a : Attr) : ∀ v : V, v ∈ encAttr a → Imm v := fun v hv => by simp only [encAttr, List.mem_cons, List.not_mem_nil, or_false] at hv; rcases hv with rfl | rfl | rfl | rfl <;> exact .c _
theorem imm_bd (b : Bd) : ∀ v : V, v ∈ encBd b → Imm v := fun v hv => by
 simp only [encBd, List.mem_cons, List.not_mem_nil, or_false] at hv
 rcases hv with rfl | rfl | rfl | rfl | rfl | rfl
 ·exact .c _
 ·exact .c _
 ·exact .c _
 ·exact .c _
 ·exact .c _
 ·exact .sl fun e he v hv => by obtain ⟨x, _, rfl⟩ := List.mem_map.1 he; exact imm_attr x v hv
theorem imm_part (l : List Bd) : Imm (.sl (l.map encBd)) := .sl fun e he v hv => by obtain ⟨x, _, rfl⟩ := List.mem_map.1 he; exact imm_bd x v hv
theorem imm_parts (l : List (List Bd)) : Imm (.sl (l.map encP)) := .sl fun e he v hv => by
 obtain ⟨x, _, rfl⟩ := List.mem_map.1 he
 simp only [encP, List.mem_cons, List.not_mem_nil, or_false] at hv
 rw [hv]; exact imm_part x
/-- The variable that 'All' leaves to its iterator. -/
def capV (rows : List (List Bd)) : V := .ip [[.sl (rows.map encP)]] 0 0
theorem imm_cap (rows : List (List Bd)) : Imm (capV rows) := .ip fun e he v hv => by
 simp only [List.mem_cons, List.not_mem_nil, or_false] at he
 subst he
 simp only [List.mem_cons, List.not_mem_nil, or_false] at hv
 rw [hv]; exact imm_parts rows
def partA (l : List Bd) : V := .agg [.sl (l.map encBd)]
/-- What Clone tells: one list of its own, or none. -/
def ClP (x : List Bd) (v : V) (σ : Hp) : Prop := (x = [] ∧ v = .agg [.c (.slice none 0 0)] ∧ σ = Hp.empty) ∨ ∃ k, x ≠ [] ∧ v = .agg [.gl k] ∧ σ = hpB k x
theorem ClP.ok {x : List Bd} {v : V} {σ : Hp} (h : ClP x v σ) : okV v = true := by
  rcases h with ⟨_, rfl, _⟩ | ⟨k, _, rfl, _⟩ <;> rfl
theorem cl_part {x : List Bd} {v : V} {σ : Hp} (h : (x = [] ∧ v = .agg [.c (.slice none 0 0)] ∧ σ = Hp.empty) ∨ ∃ k, x ≠ [] ∧ v = .agg [.gl k] ∧ σ = hpB k x) : ClP x v σ := h
theorem VRs.toIm' {w : World} {cx : Cx} {vs : List V} {xs : List Value} (h : VRs w cx vs xs) (hv : ∀ v ∈ vs, Imm v) : VRs w (Cx.im cx.I) vs xs :=
  ⟨h.1, h.2.1, fun i v x hi hx => (h.2.2 i v x hi hx).toIm (hv v (List.mem_of_getElem? hi))⟩
theorem imm_rows (x : List Bd) : ∀ v ∈ (x.map encBd).flatten, Imm v := fun v hv => by
 obtain ⟨e, he, hv⟩ := List.mem_flatten.1 hv
 obtain ⟨b, _, rfl⟩ := List.mem_map.1 he
 exact imm_bd b v hv
/-- The clone, as a round takes it. -/
theorem ClP.el {x : List Bd} {v : V} {σ : Hp} {s : St} {a : Act} {n : Nat} {cx0 cx : Cx} {w0 w : World} {y : Value} (h : ClP x v σ) (hS : SR (Base.it cx0 w0) n cx s σ a w) (hy : VR w cx v y) :
    ∃ M ys, y = .agg #[M] ∧ M.oneCell' = true ∧ w.ownsRow 0 38 6 M (x.map encBd).length ys ∧ VRs w (Cx.im cx.I) (x.map encBd).flatten ys ∧ ∀ g, M.ownBlock = some g → w0.heap.size ≤ g ∧ ¬ cx.I g ∧ g < w.heap.size := by
  rcases h with ⟨rfl, rfl, rfl⟩ | ⟨k, _, rfl, rfl⟩
  · cases hy with
    | @agg _ xs h1 hn hh =>
      obtain ⟨M, rfl⟩ : ∃ M, xs = [M] := List.length_eq_one_iff.1 hn.symm
      have := hh 0 _ _ rfl rfl
      obtain rfl : M = .slice none 0 0 := by cases this; rfl
      exact ⟨_, [], rfl, rfl, ⟨rfl, .inl ⟨rfl, rfl⟩⟩, VRs.nil, fun g hg => (by cases hg)⟩
  · have hk : (hpB k x).gr k = some ((38, 6), x.map encBd) := by simp [hpB]
    obtain ⟨hkn, hZ, hel, xs', hown, hvr⟩ := hS.heap.gr k _ _ hk
    cases hy with
    | @agg _ xs h1 hn hh =>
      obtain ⟨M, rfl⟩ : ∃ M, xs = [M] := List.length_eq_one_iff.1 hn.symm
      have := hh 0 _ _ rfl rfl
      obtain rfl : M = cx.M k := by cases this; rfl
      rw [show cx.Z k = 6 from hZ] at hown
      refine ⟨_, xs', rfl, h1 _ (by simp), hown, VRs.toIm' hvr (imm_rows x), fun g hg => ?_⟩
      have ho : (hpB k x).own cx g := .inr ⟨k, _, hk, hg⟩
      refine ⟨(hS.ext.fnew g (.inl ho)).elim (fun h => h.elim) id, fun hi => hS.heap.apart g ho hi, hS.heap.own_lt ho⟩
theorem iter_allO (rows : List (List Bd)) (hrows : ∀ l ∈ rows, cloneOk l) (hlen : rows.length < 4611686018427387904) : IterO Tryz.prog 31 [capV rows] 38 6 (rows.map fun l => l.map encBd) := by
  refine ⟨Tryz.call31, fun l W0 I0 cv J Jx hva hIlt hJ hJx hround h0 => ?_⟩
  refine callsIn_of_wp (F := Fence.wide) (n := 0) Tryz.func31 rfl trivial (wpIn_wide.2 ?_)
  have hcv : cv.length = 1 := hva.1.symm
  have hb := SR.itBegin (n := 17) (k := 15) (W := W0) (I := I0) (args := .fn (.yield l) [] [] :: [capV rows]) (xs := .func (.yield l) #[] #[] :: cv)
    (VAs.cons (.fn (xs := []) (ys := []) rfl (fun i v x h => by cases h) rfl (fun i v x h => by cases h)) hva) (by simp) (by simp [hcv]) (hIlt 0 I0 W0 h0)
  have eargs : (#[Value.func (.yield l) #[] #[]] ++ (⟨cv⟩ : Array Value)) ++ Array.replicate (Tryz.f31.ntmps - (#[Value.func (.yield l) #[] #[]] ++ (⟨cv⟩ : Array Value)).size) undef = (⟨Value.func (.yield l) #[] #[] :: cv⟩ : Array Value) ++ Array.replicate 15 undef := by
    have : Tryz.f31.ntmps = 17 := Tryz.ntmps31
    rw [this]; simp [hcv]
  rw [eargs]
  clear eargs
  have hJ0 := h0
  have hcell : ∀ i, (partA i : V) = .agg [.sl (i.map encBd)] := fun i => rfl
  let R : Ending → World → Prop := fun e W' => (∃ v, e = .returned v) ∧ ((∃ I, J (rows.map fun l => l.map encBd).length I W') ∨ Jx W')
  have fin : ∀ {B : Base} {cx : Cx} {s : St} {σ : Hp} {a : Act} {w : World}, B.nd = true → SR B 17 cx s σ a w → ((∃ I, J (rows.map fun l => l.map encBd).length I w) ∨ Jx w) → a.defers = [] ∧ ∃ v, (results Tryz.f31 a.tmps).run Tryz.prog w = .ok v w ∧ R (.returned v) w := fun hnd h hj => by
    obtain ⟨v, hv⟩ := h.nothing Tryz.results31
    exact ⟨h.nd hnd, v, hv, ⟨v, rfl⟩, hj⟩
  refine wp_seq (wp_mono ((wpIn_wide (n := 0)).1 (it_region hb rfl (K := fun s σ => σ = Hp.empty ∧ s.t 0 = .fn (.yield l) [] [] ∧ s.t 5 = .sl (rows.map encP) ∧ s.t 6 = .c (.int .i64 (rows.length : Nat)) ∧ s.t 7 = .c (.int .i64 (0 : Nat))) ?_)) ?_)
  · skip
    iterate 3 (refine S.g rfl rfl fun Y Z => ?_; simp only [zz, reduceIte, Nat.reduceEqDiff, Nat.reduceLT, Nat.reduceLeDiff, Nat.reduceAdd, reduceCtorEq, Nat.reduceMul, ok31, sz31, ag31, sl31, el31, ok24, sz24, ag24, capV, List.getD_cons_zero]; refine Z _ _ ?_; clear Z Y)
    refine S.nil ?_
    simp only [ze, reduceIte, Nat.reduceEqDiff, Nat.reduceLT, Nat.reduceLeDiff, Nat.reduceAdd, reduceCtorEq, Nat.reduceMul, capV, List.getD_cons_zero]
    rfl
  rintro e a1 w1 hq
  cases e with
  | normal => ?_
  | _ => exact hq.elim
  obtain ⟨cx1, s1, σ1, h1, rfl, e0, e5, e6, e7⟩ := hq
  obtain ⟨hN, hM⟩ := h1.newer rfl
  have hJ1 := hJ 0 I0 W0 cx1.I w1 h0 hN hM
  have h2 := h1.again (W' := w1) (I' := cx1.I) rfl (fun g hg => ⟨hg, rfl⟩) (fun g hg => h1.heap.ilt g hg)
  clear hb h0 hJ0 hM hN
  refine wp_block ?_
  refine wp_loop_rel (fun m a w => ∃ i cx s, m = rows.length - i ∧ i ≤ rows.length ∧ J i cx.I w ∧ SR (Base.it cx w) 17 cx s Hp.empty a w ∧ s.t 0 = .fn (.yield l) [] [] ∧ s.t 5 = .sl (rows.map encP) ∧ s.t 6 = .c (.int .i64 (rows.length : Nat)) ∧ s.t 7 = .c (.int .i64 (i : Nat)))
    ⟨rows.length, 0, cx1, _, rfl, Nat.zero_le _, hJ1, h2, by simp [keepV, e0], by simp [keepV, e5], by simp [keepV, e6], by simp [keepV, e7]⟩ ?_
  clear h2 hJ1 h1 e0 e5 e6 e7 hva hcv
  rintro m a w ⟨i, cx, s, hm, hi, hji, h, e0, e5, e6, e7⟩
  refine wp_seq (wp_mono ((wpIn_wide (n := 0)).1 (it_region h rfl (K := fun s' σ' => σ' = Hp.empty ∧ s'.t 0 = .fn (.yield l) [] [] ∧ s'.t 5 = .sl (rows.map encP) ∧ s'.t 6 = .c (.int .i64 (rows.length : Nat)) ∧ s'.t 7 = .c (.int .i64 (i : Nat)) ∧ s'.t 8 = .c (.bool (decide (i < rows.length)))) ?_)) ?_)
  · skip
    (refine S.g rfl rfl fun Y Z => ?_; simp only [zz, reduceIte, Nat.reduceEqDiff, Nat.reduceAdd, e0, e5, e6, e7]; refine Z _ _ ?_; clear Z Y)
    refine S.nil ?_
    simp only [ze, reduceIte, Nat.reduceEqDiff, Nat.reduceLT, Nat.reduceLeDiff, Nat.reduceAdd, reduceCtorEq, Nat.reduceMul, e0, e5, e6, e7]
    done
  rintro e a2 w2 hq
  cases e with
  | normal => ?_
  | _ => exact hq.elim
  obtain ⟨cx2, s2, σ2, h2, rfl, f0, f5, f6, f7, f8⟩ := hq
  obtain ⟨hN, hM⟩ := h2.newer rfl
  have hj2 := hJ i cx.I w cx2.I w2 hji hN hM
  have hc8 := h2.tr (.tmp 8)
  simp only [ev, f8] at hc8
  refine wp_seq (wp_cond_split hc8.c_eq (fun hc => wp_skip ?_) (fun hc => wp_exit ?_))
  · have hin := of_decide_eq_true hc
    obtain ⟨x, hx⟩ : ∃ x, rows[i]? = some x := ⟨_, List.getElem?_eq_getElem hin⟩
    have hxe := encP_at hx
    have hxs : (rows.map fun l => l.map encBd)[i]? = some (x.map encBd) := by simp [hx]
    have hwi : IntKind.i64.wrap ((i : Int) + 1) = ((i + 1 : Nat) : Int) := by rw [wrap_small _ (by omega) (by omega)]; rfl
    refine wp_seq (wp_block ?_)
    refine wp_seq (wp_mono ((wpIn_wide (n := 0)).1 (it_region h2 rfl (K := fun s' σ' => σ' = Hp.empty ∧ s'.t 0 = .fn (.yield l) [] [] ∧ s'.t 5 = .sl (rows.map encP) ∧ s'.t 6 = .c (.int .i64 (rows.length : Nat)) ∧ s'.t 7 = .c (.int .i64 (i : Nat)) ∧ s'.t 4 = .lp 4 0 ∧ s'.l 4 = some [.sl (x.map encBd)]) ?_)) ?_)
    · skip
      iterate 4 (refine S.g rfl rfl fun Y Z => ?_; simp only [zz, reduceIte, Nat.reduceEqDiff, Nat.reduceLT, Nat.reduceLeDiff, Nat.reduceAdd, reduceCtorEq, Nat.reduceMul, sl31, el31, ok24, sz24, ag24, zt24, f0, f5, f6, f7, hin, hxe, encP, List.length_singleton]; refine Z _ _ ?_; clear Z Y)
      refine S.nil ?_
      simp only [ze, reduceIte, Nat.reduceEqDiff, Nat.reduceLT, Nat.reduceLeDiff, Nat.reduceAdd, reduceCtorEq, Nat.reduceMul, f0, f5, f6, f7, hin, hxe, encP, List.length_singleton]
      done
    rintro e a3 w3 hq
    cases e with
    | normal => ?_
    | _ => exact hq.elim
    obtain ⟨cx3, s3, σ3, h3, rfl, g0, g5, g6, g7, g4, l4⟩ := hq
    refine wp_seq ((wpIn_wide (n := 0)).1 (wpIn_region ?_))
    refine it_part 3 0 2 rfl (by decide) h3 rfl (K := fun s' σ' => ∃ v, ClP x v σ' ∧ s'.t 11 = .fn (.yield l) [] [] ∧ s'.t 13 = v ∧ s'.t 0 = .fn (.yield l) [] [] ∧ s'.t 5 = .sl (rows.map encP) ∧ s'.t 6 = .c (.int .i64 (rows.length : Nat)) ∧ s'.t 7 = .c (.int .i64 (i : Nat))) ?_ ?_
    · skip
      iterate 2 (refine S.g rfl rfl fun Y Z => ?_; simp only [zz, reduceIte, Nat.reduceEqDiff, Nat.reduceLT, Nat.reduceLeDiff, Nat.reduceAdd, reduceCtorEq, Nat.reduceMul, ok24, sz24, ag24, g0, g5, g6, g7, g4, l4]; refine Z _ _ ?_; clear Z Y)
      (refine S.g rfl rfl fun Y Z => ?_; simp only [zz, reduceIte, Nat.reduceEqDiff, Nat.reduceLT, Nat.reduceLeDiff, Nat.reduceAdd, reduceCtorEq, Nat.reduceMul, g0, g5, g6, g7, g4, l4]; refine ((clone_grow x (hrows x (List.mem_of_getElem? hx)).1 (hrows x (List.mem_of_getElem? hx)).2).to fun v σ1 hv => ?_); have hpa := cl_part hv <;> (refine Z _ _ ?_; clear Z Y))
      refine S.nil ?_
      simp only [ze, reduceIte, Nat.reduceEqDiff, Nat.reduceLT, Nat.reduceLeDiff, Nat.reduceAdd, reduceCtorEq, Nat.reduceMul, g0, g5, g6, g7, g4, l4]
      exact ⟨_, hpa, rfl⟩
    rintro a4 w4 ⟨cx4, s4, σ4, h4, v13, hcl, k11, k13, k0, k5, k6, k7⟩
    obtain ⟨hN4, hM4⟩ := h4.newer rfl
    have h11 := h4.tr (.tmp 11)
    have h13 := h4.tr (.tmp 13)
    simp only [ev, k11] at h11
    simp only [ev, k13] at h13
    have hfv : a4.eval (.tmp 11) = .func (.yield l) #[] #[] := by
      generalize a4.eval (.tmp 11) = y at h11
      cases h11 with
      | v h11 =>
        cases h11 with
        | @fn _ _ _ xs1 ys1 hn _ hm _ =>
          obtain rfl : xs1 = [] := List.eq_nil_of_length_eq_zero hn.symm
          obtain rfl : ys1 = [] := List.eq_nil_of_length_eq_zero hm.symm
          rfl
    have hxv : VR w4 cx4 v13 (a4.eval (.tmp 13)) := by
      generalize a4.eval (.tmp 13) = y at h13
      have := h13.ok hcl.ok
      exact this
    refine it_yield (i := 3) (q := 1) (f := .tmp 11) (x := .tmp 13) rfl rfl rfl hfv rfl (hround i cx.I w cx4.I w4 (x.map encBd) _ hji hxs hN4 hM4 (len_bd x) (hcl.el h4 hxv)) ?_
    rintro e w5 (⟨rfl, I5, hj5, hsame⟩ | ⟨rfl, hx5⟩)
    · refine ⟨true, rfl, ?_⟩
      have h5 := (h4.again (W' := w5) (I' := I5) rfl hsame (fun g hg => hIlt (i + 1) I5 w5 hj5 g hg)).put (d := 14) (v := .c (.bool true)) (by omega) (.v (.c _))
      have q0 : ((⟨fun t => keepV (s4.t t), fun _ => none⟩ : St).put 14 (.c (.bool true))).t 0 = .fn (.yield l) [] [] := by simp [St.put, keepV, k0]
      have q5 : ((⟨fun t => keepV (s4.t t), fun _ => none⟩ : St).put 14 (.c (.bool true))).t 5 = .sl (rows.map encP) := by simp [St.put, keepV, k5]
      have q6 : ((⟨fun t => keepV (s4.t t), fun _ => none⟩ : St).put 14 (.c (.bool true))).t 6 = .c (.int .i64 (rows.length : Nat)) := by simp [St.put, keepV, k6]
      have q7 : ((⟨fun t => keepV (s4.t t), fun _ => none⟩ : St).put 14 (.c (.bool true))).t 7 = .c (.int .i64 (i : Nat)) := by simp [St.put, keepV, k7]
      have q14 : ((⟨fun t => keepV (s4.t t), fun _ => none⟩ : St).put 14 (.c (.bool true))).t 14 = .c (.bool true) := by simp [St.put]
      generalize (⟨fun t => keepV (s4.t t), fun _ => none⟩ : St).put 14 (.c (.bool true)) = s5 at h5 q0 q5 q6 q7 q14
      refine it_part 1 4 0 rfl (by decide) h5 rfl (K := fun s' σ' => σ' = Hp.empty ∧ s'.t 0 = .fn (.yield l) [] [] ∧ s'.t 5 = .sl (rows.map encP) ∧ s'.t 6 = .c (.int .i64 (rows.length : Nat)) ∧ s'.t 7 = .c (.int .i64 (i : Nat)) ∧ s'.t 15 = .c (.bool false)) ?_ ?_
      · skip
        (refine S.g rfl rfl fun Y Z => ?_; simp only [zz, reduceIte, Nat.reduceEqDiff, Nat.reduceAdd, q0, q5, q6, q7, q14]; refine Z _ _ ?_; clear Z Y)
        refine S.nil ?_
        simp only [ze, reduceIte, Nat.reduceEqDiff, Nat.reduceLT, Nat.reduceLeDiff, Nat.reduceAdd, reduceCtorEq, Nat.reduceMul, q0, q5, q6, q7, q14]
        done
      rintro a6 w6 ⟨cx6, s6, σ6, h6, rfl, r0, r5, r6, r7, r15⟩
      obtain ⟨hN6, hM6⟩ := h6.newer rfl
      have hj6 := hJ (i + 1) I5 w5 cx6.I w6 hj5 hN6 hM6
      have hc15 := h6.tr (.tmp 15)
      simp only [ev, r15] at hc15
      refine wp_cond_split hc15.c_eq (fun hc => by cases hc) (fun _ => wp_skip ?_)
      have h7 := h6.again (W' := w6) (I' := cx6.I) rfl (fun g hg => ⟨hg, rfl⟩) (fun g hg => h6.heap.ilt g hg)
      refine wp_mono ((wpIn_wide (n := 0)).1 (it_region h7 rfl (K := fun s' σ' => σ' = Hp.empty ∧ s'.t 0 = .fn (.yield l) [] [] ∧ s'.t 5 = .sl (rows.map encP) ∧ s'.t 6 = .c (.int .i64 (rows.length : Nat)) ∧ s'.t 7 = .c (.int .i64 (i + 1 : Nat))) ?_)) ?_
      · skip
        iterate 2 (refine S.g rfl rfl fun Y Z => ?_; simp only [zz, reduceIte, Nat.reduceEqDiff, Nat.reduceAdd, r0, r5, r6, r7, hwi, keepV]; refine Z _ _ ?_; clear Z Y)
        refine S.nil ?_
        simp only [ze, reduceIte, Nat.reduceEqDiff, Nat.reduceLT, Nat.reduceLeDiff, Nat.reduceAdd, reduceCtorEq, Nat.reduceMul, r0, r5, r6, r7, hwi, keepV]
        done
      rintro e a7 w7 hq
      cases e with
      | normal => ?_
      | _ => exact hq.elim
      obtain ⟨cx7, s7, σ7, h8, rfl, u0, u5, u6, u7⟩ := hq
      obtain ⟨hN7, hM7⟩ := h8.newer rfl
      have hj7 := hJ (i + 1) cx6.I w6 cx7.I w7 hj6 hN7 hM7
      have h9 := h8.again (W' := w7) (I' := cx7.I) rfl (fun g hg => ⟨hg, rfl⟩) (fun g hg => h8.heap.ilt g hg)
      exact ⟨rows.length - (i + 1), by omega, i + 1, cx7, _, rfl, by omega, hj7, h9, by simp [keepV, u0], by simp [keepV, u5], by simp [keepV, u6], by simp [keepV, u7]⟩
    · refine ⟨false, rfl, ?_⟩
      have h5 := (h4.stop w5 rfl).put (d := 14) (v := .c (.bool false)) (by omega) (.v (.c _))
      have q14 : ((⟨fun t => keepC (s4.t t), fun _ => none⟩ : St).put 14 (.c (.bool false))).t 14 = .c (.bool false) := by simp [St.put]
      generalize (⟨fun t => keepC (s4.t t), fun _ => none⟩ : St).put 14 (.c (.bool false)) = s5 at h5 q14
      refine it_part 1 4 0 rfl (by decide) h5 rfl (K := fun s' σ' => σ' = Hp.empty ∧ s'.t 15 = .c (.bool true)) ?_ ?_
      · skip
        (refine S.g rfl rfl fun Y Z => ?_; simp only [zz, reduceIte, Nat.reduceEqDiff, Nat.reduceAdd, q14]; refine Z _ _ ?_; clear Z Y)
        refine S.nil ?_
        simp only [ze, reduceIte, Nat.reduceEqDiff, Nat.reduceLT, Nat.reduceLeDiff, Nat.reduceAdd, reduceCtorEq, Nat.reduceMul, q14]
        done
      rintro a6 w6 ⟨cx6, s6, σ6, h6, rfl, r15⟩
      obtain ⟨hN6, hM6⟩ := h6.newer rfl
      have hx6 := hJx (fun _ => False) w5 (fun g => False ∨ False) w6 hx5 hN6 ⟨fun _ h => h.elim, fun _ h => (by rcases h with h | h <;> exact h.elim)⟩
      have hc15 := h6.tr (.tmp 15)
      simp only [ev, r15] at hc15
      refine wp_cond_split hc15.c_eq (fun _ => wp_ret ?_) (fun hc => by cases hc)
      exact fin rfl h6 (.inr hx6)
  · have hin := of_decide_eq_false hc
    have hl : i = (rows.map fun l => l.map encBd).length := by simp; omega
    rw [hl] at hj2
    exact fin rfl h2 (.inl ⟨_, hj2⟩)
theorem iter_all (rows : List (List Bd)) (hrows : ∀ l ∈ rows, cloneOk l) (hlen : rows.length < 4611686018427387904) : Iter Tryz.prog 31 [capV rows] (rows.map partA) := by
 have := (iter_allO rows hrows hlen).toIter
 rw [List.map_map] at this
 exact this
end Go.Abs.M
set_option linter.unusedVariables false
set_option linter.unusedSimpArgs false
namespace Go.Abs.M
open Go Go.Abs Go.Proofs Go.RowKit Go.Lib
theorem ti3 : ∀ w, (isAgg 3).run Tryz.prog w = .ok false w := fun w => by kernel_rfl
theorem ti24 : ∀ w, (isAgg 24).run Tryz.prog w = .ok true w := fun w => by kernel_rfl
theorem ti31 : ∀ w, (isAgg 31).run Tryz.prog w = .ok false w := fun w => by kernel_rfl
theorem so24 : ∀ w, (Go.sizeOf 24).run Tryz.prog w = .ok 1 w := fun w => by kernel_rfl
theorem in24 : (Tryz.prog.info? 24).map (fun i => (i.zero, i.size, i.bytes)) = some (some (Value.agg #[.slice none 0 0]), 1, 24) := by kernel_rfl
theorem mixedT : Tryz.prog.follows .mixedOrders = true := by kernel_rfl
theorem ov121 (w : World) (g h : Nat) (la ca lb cb o : Nat) (cur curv : Array Value) (hne : h ≠ g) (hg : w.heap[g]? = some (.cells cur 24 (0, 0))) (hh : w.heap[h]? = some (.cells curv 24 (0, 0))) (hz : cur.size ≠ 0) :
  (callFunc 60 #[.slice (some ⟨h, 0, none⟩) la ca, .slice (some ⟨g, o, none⟩) lb cb]).run Tryz.prog w = .ok (.value (.bool false)) w := by
 rw [run_callFunc_extern Tryz.func60 (by kernel_rfl) (by kernel_rfl) (by kernel_rfl) (e := Extern.SlicesOverlaps.overlaps #[31, 31] #[4]) (by kernel_rfl),
  Lib.run_overlaps_apart w 31 4 24 Tryz.underlying31 1 so24 ⟨h, 0, none⟩ ⟨g, o, none⟩ la ca lb cb hne 24 24 curv.size cur.size ?_ ?_ hz ?_ ?_]
 ·rfl
 ·simp [World.shape?, hh]
 ·simp [World.shape?, hg]
 ·simp [World.frozen?, hh]
 ·simp [World.frozen?, hh]
end Go.Abs.M
set_option linter.unusedVariables false
set_option linter.unusedSimpArgs false
namespace Go.Abs.M
open Go Go.Abs Go.Proofs Go.RowKit Go.Lib
set_option maxHeartbeats 4000000 in
set_option maxRecDepth 100000 in
/-- slices.Insert of one element ahead of others, where there is room. -/
theorem ins_shift (g n c i h vc : Nat) (xs : List Value) (u : Value) (cur curv : Array Value) (w : World) (hi : i < n) (hroom : n + 1 ≤ c) (hc63 : c ≤ 9223372036854775807) (hne : h ≠ g) (hl : xs.length = n)
  (hg : w.heap[g]? = some (.cells cur 24 (0, 0))) (hh : w.heap[h]? = some (.cells curv 24 (0, 0))) (hcs : cur.size = c) (hxs : ∀ (j : Nat) (v : Value), xs[j]? = some v → cur[j]? = some v) (hu : curv[0]? = some u)
  (h1 : ∀ v ∈ xs, v.oneCell' = true) (h1u : u.oneCell' = true) :
  Calls Tryz.prog 36 #[.slice (some ⟨g, 0, none⟩) n c, .int .i64 i, .slice (some ⟨h, 0, none⟩) 1 vc] w fun e w' =>
   e = .returned (.slice (some ⟨g, 0, none⟩) (n + 1) c) ∧ w' = (w.drew.setCells g (i + 1) (xs.drop i)).setCells g i [u] := by
 have u3 := run_underlying Tryz.underlying3
 have u4 := run_underlying Tryz.underlying4
 have u24 := run_underlying Tryz.underlying24
 have u64 := run_underlying Tryz.underlying31
 have t3 := Tryz.underlying3
 have t4 := Tryz.underlying4
 have t64 := Tryz.underlying31
 have a3 := ti3
 have a24 := ti24
 have a64 := ti31
 have z24 := so24
 have mixed := mixedT
 have cellg : ∀ j : Nat, j < c → w.cell? ⟨g, j, none⟩ = cur[j]? := fun j hj => by simp [World.cell?, hg]
 have hz2 : ¬ ((i : Int) = (n : Int)) := by omega
 have hz3 : ¬ ((c : Int) < (n : Int) + 1) := by omega
 have hsz : (Tryz.prog.info? 24).map (·.size) = some 1 := by
  obtain ⟨i0, hi0, h0, h1, h2⟩ := info_parts in24
  rw [hi0]; simp [h1]
 have hov : ∀ lb cb, (callFunc 60 #[.slice (some ⟨h, 0, none⟩) 1 vc, .slice (some ⟨g, i + 1, none⟩) lb cb]).run Tryz.prog w = .ok (.value (.bool false)) w := fun lb cb => ov121 w g h 1 vc lb cb (i + 1) cur curv hne hg hh (by omega)
 have hdl : (xs.drop i).length = n - i := by rw [List.length_drop, hl]
 have hw0 : IntKind.i64.wrap ((n : Int) + 1) = (n : Int) + 1 := by rw [IntKind.wrap_i64]; omega
 have hw1 : IntKind.i64.wrap ((i : Int) + 1) = (i : Int) + 1 := by rw [IntKind.wrap_i64]; omega
 have hb1 : (0 : Int) ≤ (i : Int) + 1 := by omega
 have hin : i ≤ n := by omega
 have htn : ((i : Int) + 1).toNat = i + 1 := by omega
 have hb2 : ¬ (c = i + 1) := by omega
 have hb3 : (i : Int) ≤ (n : Int) + 1 := by omega
 have hb4 : ¬ (c = i) := by omega
 have frz : ∀ j : Nat, w.frozen? ⟨g, j, none⟩ = false := fun j => by simp [World.frozen?, hg]
 have some' : ∀ j : Nat, j < c → (w.cell? ⟨g, j, none⟩).isSome = true := fun j hj => by rw [cellg j hj, Array.getElem?_eq_getElem (by omega)]; rfl
 have hxsc : ∀ (j : Nat) (v : Value), xs[j]? = some v → w.cell? ⟨g, j, none⟩ = some v := fun j v hv => by
  have := (List.getElem?_eq_some_iff.1 hv).1
  rw [cellg j (by omega)]; exact hxs j v hv
 have hcp1 : ∀ ty dc sc, (Builtin.copy_ #[31, 31] ty #[.slice (some ⟨g, i + 1, none⟩) (n - i) dc, .slice (some ⟨g, i, none⟩) (n + 1 - i) sc]).run Tryz.prog w.drew = .ok (goInt (xs.drop i).length) (w.drew.setCells g (i + 1) (xs.drop i)) := fun ty dc sc =>
  run_copy_cells w.drew _ _ ty 24 g (i + 1) (n - i) dc ⟨g, i, none⟩ (n + 1 - i) sc (xs.drop i) t64 hsz (by rw [hdl]; simp only [Nat.min_def]; split <;> omega)
   (fun j v hj => by rw [Addr.add_lit]; exact hxsc (i + j) v (by rwa [List.getElem?_drop] at hj))
   (fun j hj => some' _ (by omega)) (fun j _ => frz _) (fun v hv => h1 v (List.mem_of_mem_drop hv))
 obtain ⟨W1, hW1⟩ : ∃ W1, W1 = w.drew.setCells g (i + 1) (xs.drop i) := ⟨_, rfl⟩
 have hsp1 : ∀ k, k < c → (W1.cell? ⟨g, k, none⟩).isSome = true := fun k hk => by
  rw [hW1]
  exact isSome_setCells g (xs.drop i) (i + 1) w.drew (fun j hj => some' _ (by rw [hdl] at hj; omega)) k (some' k hk)
 have hcp2 : ∀ (W : World), (∀ x, W.cell? x = W1.cell? x) → (∀ x, W.frozen? x = W1.frozen? x) → ∀ ty dc, (Builtin.copy_ #[31, 31] ty #[.slice (some ⟨g, i, none⟩) (n + 1 - i) dc, .slice (some ⟨h, 0, none⟩) 1 vc]).run Tryz.prog W = .ok (goInt [u].length) (W.setCells g i [u]) := fun W hWc hWf ty dc =>
  run_copy_cells W _ _ ty 24 g i (n + 1 - i) dc ⟨h, 0, none⟩ 1 vc [u] t64 hsz (Nat.min_eq_left (show 1 ≤ n + 1 - i by omega)).symm
   (fun j v hj => by
    rw [Addr.add_lit, hWc, hW1, World.cell?_setCells_out g _ _ _ _ (fun e _ => absurd e hne)]
    have hj0 : j = 0 := by have := (List.getElem?_eq_some_iff.1 hj).1; simpa using this
    subst hj0
    simp at hj
    subst hj
    show w.cell? _ = _
    simp [World.cell?, hh, hu])
   (fun j hj => by rw [hWc]; exact hsp1 _ (by simp at hj; omega)) (fun j _ => by rw [hWf, hW1, World.frozen?_setCells]; exact frz _) (fun v hv => by simp at hv; rw [hv]; exact h1u)
 rw [← hW1] at hcp1
 go_enter Tryz.func36, Tryz.ntmps36
 go_wp2_with (simp only [hov])
 go_region_law_o (refine step_copy_runI rfl _ _ 31 31 rfl _ _ (by simp [Act.eval, Act.put]) (by simp [Act.eval, Act.put]) (hcp1 _ _ _) ?_)
 go_wp2_with (at_builtin; refine wpList_copy_runI _ rfl _ _ 31 31 rfl _ _ rfl rfl (hcp2 _ (fun _ => rfl) (fun _ => rfl) _ _) ?_)
 go_ret
 first | exact ⟨rfl, rfl⟩ | exact ⟨rfl, by rw [hW1]⟩
end Go.Abs.M
set_option linter.unusedVariables false
set_option linter.unusedSimpArgs false
namespace Go.Abs.M
open Go Go.Abs Go.Proofs Go.RowKit Go.Lib
set_option maxHeartbeats 4000000 in
set_option maxRecDepth 100000 in
/-- slices.Insert of one element at the end. -/
theorem ins_end (v : Value) (n h vc : Nat) (xs : List Value) (u : Value) (curv : Array Value) (w : World) (hown : w.ownsRow 0 24 1 v n xs) (hn : (n + 1) * 24 ≤ 140737488355328)
  (hh : w.heap[h]? = some (.cells curv 24 (0, 0))) (hu : curv[0]? = some u) (h1u : u.oneCell' = true) :
  Calls Tryz.prog 36 #[v, .int .i64 n, .slice (some ⟨h, 0, none⟩) 1 vc] w fun e w' =>
   ∃ v', e = .returned v' ∧ w'.ownsRow 0 24 1 v' (n + 1) (xs ++ [u]) ∧ w.grownBy w' v.ownBlock ∧ (v'.ownBlock = v.ownBlock ∨ v'.ownBlock = some w.heap.size) := by
 have u3 := run_underlying Tryz.underlying3
 have u4 := run_underlying Tryz.underlying4
 have u24 := run_underlying Tryz.underlying24
 have u64 := run_underlying Tryz.underlying31
 have t3 := Tryz.underlying3
 have t4 := Tryz.underlying4
 have t64 := Tryz.underlying31
 have a3 := ti3
 have a24 := ti24
 have a64 := ti31
 have z24 := so24
 have mixed := mixedT
 obtain ⟨i0, hi0, hz0, hzs, hzb⟩ := info_parts in24
 have hnews : ∀ j x, [u][j]? = some x → w.cell? ((⟨h, 0, none⟩ : Addr).add j) = some x := fun j x hj => by
  have hj0 : j = 0 := by have := (List.getElem?_eq_some_iff.1 hj).1; simpa using this
  subst hj0
  simp at hj
  subst hj
  simp [Addr.add_lit, World.cell?, hh, hu]
 have hrun := fun ty => run_append_own_at (P := Tryz.prog) w 0 31 ty 24 i0 (Value.agg #[.slice none 0 0]) 1 24 t64 hi0 hz0 hzs hzb rfl (by omega) v n xs hown ⟨h, 0, none⟩ 1 vc [u] rfl hnews (fun x hx => by simp at hx; rw [hx]; exact h1u)
  (by simp only [maxLen]; omega) hn (Nat.zero_le _)
 have hb3 : ¬ ((n : Int) < 0) := by omega
 obtain ⟨v', w', hr, r1, r2, _, r3⟩ := hrun 31
 rcases hown.2 with ⟨rfl, rfl⟩ | ⟨g, cap, cur, rfl, hbg, hg, hnc, hcm, hcs, htake⟩
 ·go_enter Tryz.func36, Tryz.ntmps36
  go_wp2_with (at_builtin; refine Lib.wpList_append_run _ rfl _ _ _ _ rfl _ _ rfl rfl _ _ hr ?_)
  go_ret
  exact ⟨_, rfl, r1, r2, r3⟩
 ·have hc63 : (cap : Int) ≤ 9223372036854775807 := by unfold maxLen at hcm; omega
  by_cases hcn : cap = n
  ·go_enter Tryz.func36, Tryz.ntmps36
   go_wp2_with (at_builtin; refine Lib.wpList_append_run _ rfl _ _ _ _ rfl _ _ rfl rfl _ _ hr ?_)
   go_ret
   exact ⟨_, rfl, r1, r2, r3⟩
  ·go_enter Tryz.func36, Tryz.ntmps36
   go_wp2_with (at_builtin; refine Lib.wpList_append_run _ rfl _ _ _ _ rfl _ _ rfl rfl _ _ hr ?_)
   go_ret
   exact ⟨_, rfl, r1, r2, r3⟩
end Go.Abs.M
set_option linter.unusedVariables false
set_option linter.unusedSimpArgs false
namespace Go.Abs.M
open Go Go.Abs Go.Proofs Go.RowKit Go.Lib
set_option maxHeartbeats 4000000 in
set_option maxRecDepth 100000 in
/-- slices.Insert of one element ahead of others, where there is no room. -/
theorem ins_grow (b n c i vb vc : Nat) (cs : List Value) (u : Value) (w : World) (hi : i < n) (hnc : n ≤ c) (hroom : c < n + 1) (hbig : (n + 1) * 24 ≤ 140737488355328)
  (hcl : cs.length = n)
  (hcs : ∀ j v, cs[j]? = some v → w.cell? ⟨b, j, none⟩ = some v)
  (hvs : w.cell? ⟨vb, 0, none⟩ = some u) (h1c : ∀ v ∈ cs, v.oneCell' = true) (h1u : u.oneCell' = true) :
  Calls Tryz.prog 36 #[.slice (some ⟨b, 0, none⟩) n c, .int .i64 i, .slice (some ⟨vb, 0, none⟩) 1 vc] w fun e w' =>
   e = .returned (.slice (some ⟨w.heap.size, 0, none⟩) (n + 1) (grownCap w (n + 1) c 24)) ∧
   w' = (((w.alloc (.cells ((cs.take i).toArray ++ Builtin.zeroCells (Value.agg #[.slice none 0 0]).cells (n + 1 - i) ++ Builtin.zeroCells (Value.agg #[.slice none 0 0]).cells (grownCap w (n + 1) c 24 - (n + 1))) 24)).drew.setCells w.heap.size i [u]).drew).setCells w.heap.size (i + 1) (cs.drop i) := by
 have u3 := run_underlying Tryz.underlying3
 have u4 := run_underlying Tryz.underlying4
 have u24 := run_underlying Tryz.underlying24
 have u64 := run_underlying Tryz.underlying31
 have t3 := Tryz.underlying3
 have t4 := Tryz.underlying4
 have t64 := Tryz.underlying31
 have a3 := ti3
 have a24 := ti24
 have a64 := ti31
 have z24 := so24
 have mixed := mixedT
 obtain ⟨i0, hi0, hz0, hzs, hzb⟩ := info_parts in24
 have hz2 : ¬ ((i : Int) = (n : Int)) := by omega
 have hz3 : (c : Int) < (n : Int) + 1 := by omega
 have hsz : (Tryz.prog.info? 24).map (·.size) = some 1 := by rw [hi0]; simp [hzs]
 have hbw : b < w.heap.size := block_lt_of_cell (hcs 0 _ (List.getElem?_eq_getElem (by omega)))
 have hvw : vb < w.heap.size := block_lt_of_cell hvs
 have hkk : (n : Int) + 1 - (i : Int) = ((n + 1 - i : Nat) : Int) := by omega
 have hik : i + (n + 1 - i) = n + 1 := by omega
 have hold : (Builtin.firstCells i0.size i (.slice (some ⟨b, 0, none⟩) i c)).run Tryz.prog w.drew = .ok (cs.take i).toArray w.drew := by
  rw [hzs]
  exact run_firstCells_some w.drew 1 i ⟨b, 0, none⟩ i c (cs.take i) (by rw [List.length_take]; omega) (fun j v hj => by
   rw [Addr.add_lit, Nat.zero_add]
   rw [List.getElem?_take] at hj
   split at hj
   ·exact hcs j v hj
   ·cases hj)
 have hrz : ∀ ty, (Builtin.append_ #[31, 3] ty #[.slice (some ⟨b, 0, none⟩) i c, .int .i64 ((n : Int) + 1 - (i : Int))]).run Tryz.prog w =
   .ok (.slice (some ⟨w.heap.size, 0, none⟩) (n + 1) (grownCap w (n + 1) c 24)) (w.drew.alloc (.cells ((cs.take i).toArray ++ Builtin.zeroCells (Value.agg #[.slice none 0 0]).cells (n + 1 - i) ++ Builtin.zeroCells (Value.agg #[.slice none 0 0]).cells (grownCap w (n + 1) c 24 - (n + 1))) 24)) := fun ty => by
  have h := Lib.run_append_grow_zeros w 31 3 ty 24 i0 _ .i64 .i64 Tryz.underlying31 Tryz.underlying3 hi0 hz0 (some ⟨b, 0, none⟩) i c (cs.take i) hold (n + 1 - i) (by omega) (by omega) (by omega) (by omega) (by rw [hzb]; omega) (by rw [hzb, hik]; exact growslice_fits hroom hbig)
  rw [hik] at h
  rw [hkk]
  exact h
 obtain ⟨G, hG⟩ : ∃ G, G = grownCap w (n + 1) c 24 := ⟨_, rfl⟩
 obtain ⟨ROW, hROW⟩ : ∃ ROW : Array Value, ROW = (cs.take i).toArray ++ Builtin.zeroCells (Value.agg #[.slice none 0 0]).cells (n + 1 - i) ++ Builtin.zeroCells (Value.agg #[.slice none 0 0]).cells (G - (n + 1)) := ⟨_, rfl⟩
 rw [← hG] at hrz ⊢
 rw [← hROW] at hrz ⊢
 have hRl : n + 1 ≤ ROW.size := by
  rw [hROW]
  simp [Builtin.zeroCells, Value.cells]
  omega
 obtain ⟨W1, hW1⟩ : ∃ W1, W1 = w.drew.alloc (.cells ROW 24) := ⟨_, rfl⟩
 rw [← hW1] at hrz
 have hN : ∀ j, j < n + 1 → (W1.cell? ⟨w.heap.size, j, none⟩).isSome = true := fun j hj => by
  rw [hW1, World.cell?_alloc_at (w := w.drew) ROW _ w.heap.size j rfl, Array.getElem?_eq_getElem (by omega)]; rfl
 have hNf : ∀ j, W1.frozen? ⟨w.heap.size, j, none⟩ = false := fun j => by rw [hW1]; exact World.frozen?_alloc_at (w := w.drew) ROW _ w.heap.size j rfl
 have hOb : ∀ j v, w.cell? ⟨b, j, none⟩ = some v → W1.cell? ⟨b, j, none⟩ = some v := fun j v h => by rw [hW1, World.cell?_alloc_past (w := w.drew) _ b j hbw]; exact h
 have hOv : ∀ j v, w.cell? ⟨vb, j, none⟩ = some v → W1.cell? ⟨vb, j, none⟩ = some v := fun j v h => by rw [hW1, World.cell?_alloc_past (w := w.drew) _ vb j hvw]; exact h
 have hcpA : ∀ (W : World), (∀ x, W.cell? x = W1.cell? x) → (∀ x, W.frozen? x = W1.frozen? x) → ∀ ty dc, (Builtin.copy_ #[31, 31] ty #[.slice (some ⟨w.heap.size, i, none⟩) (n + 1 - i) dc, .slice (some ⟨vb, 0, none⟩) 1 vc]).run Tryz.prog W = .ok (goInt [u].length) (W.setCells w.heap.size i [u]) := fun W hWc hWf ty dc =>
  run_copy_cells W _ _ ty 24 w.heap.size i (n + 1 - i) dc ⟨vb, 0, none⟩ 1 vc [u] Tryz.underlying31 hsz (Nat.min_eq_left (show 1 ≤ n + 1 - i by omega)).symm
   (fun j v hj => by
    rw [Addr.add_lit, hWc]
    have hj0 : j = 0 := by have := (List.getElem?_eq_some_iff.1 hj).1; simpa using this
    subst hj0
    simp at hj
    subst hj
    exact hOv _ _ hvs)
   (fun j hj => by rw [hWc]; exact hN _ (by simp at hj; omega)) (fun j hj => by rw [hWf]; exact hNf _) (fun v hv => by simp at hv; rw [hv]; exact h1u)
 have hGn : n + 1 ≤ G := by rw [hG]; exact grownCap_ge w _ _ _
 have hG63 : G ≤ 9223372036854775807 := by
  have := grownCap_le_maxLen w (n + 1) c 24 (by unfold maxLen; omega)
  rw [← hG] at this
  unfold maxLen at this
  omega
 have hGi : ¬ (G = i) := by omega
 have hGim : ¬ (G = i + 1) := by omega
 have hci : ¬ (c = i) := by omega
 have hbN : b ≠ w.heap.size := by omega
 have hdl : (cs.drop i).length = n - i := by rw [List.length_drop, hcl]
 have hcpB : ∀ (W : World), (∀ x, W.cell? x = (W1.setCells w.heap.size i [u]).cell? x) → (∀ x, W.frozen? x = (W1.setCells w.heap.size i [u]).frozen? x) → ∀ ty dc sc, (Builtin.copy_ #[31, 31] ty #[.slice (some ⟨w.heap.size, i + 1, none⟩) (n + 1 - (i + 1)) dc, .slice (some ⟨b, i, none⟩) (n - i) sc]).run Tryz.prog W = .ok (goInt (cs.drop i).length) (W.setCells w.heap.size (i + 1) (cs.drop i)) := fun W hWc hWf ty dc sc =>
  run_copy_cells W _ _ ty 24 w.heap.size (i + 1) (n + 1 - (i + 1)) dc ⟨b, i, none⟩ (n - i) sc (cs.drop i) Tryz.underlying31 hsz (by rw [hdl]; simp only [Nat.min_def]; split <;> omega)
   (fun j v hj => by
    rw [Addr.add_lit, hWc, World.cell?_setCells_out _ _ _ _ _ (fun h _ => absurd h hbN)]
    exact hOb _ v (hcs (i + j) v (by rwa [List.getElem?_drop] at hj)))
   (fun j hj => by rw [hWc]; exact isSome_setCells _ _ _ _ (fun t ht => hN _ (by simp at ht; omega)) _ (hN _ (by omega)))
   (fun j hj => by rw [hWf, World.frozen?_setCells]; exact hNf _) (fun v hv => h1c v (List.mem_of_mem_drop hv))
 have hn1 : n + 1 - (i + 1) = n - i := by omega
 have hcpB' : ∀ (W : World), (∀ x, W.cell? x = (W1.setCells w.heap.size i [u]).cell? x) → (∀ x, W.frozen? x = (W1.setCells w.heap.size i [u]).frozen? x) → ∀ ty dc sc, (Builtin.copy_ #[31, 31] ty #[.slice (some ⟨w.heap.size, i + 1, none⟩) (n - i) dc, .slice (some ⟨b, i, none⟩) (n - i) sc]).run Tryz.prog W = .ok (goInt (cs.drop i).length) (W.setCells w.heap.size (i + 1) (cs.drop i)) := fun W x1 x2 ty dc sc => by
  have := hcpB W x1 x2 ty dc sc
  rw [hn1] at this
  exact this
 subst hW1
 have hE1 : ∀ x, ((w.alloc (.cells ROW 24)).drew).cell? x = (w.drew.alloc (.cells ROW 24)).cell? x := fun x => rfl
 have hE2 : ∀ x, ((w.alloc (.cells ROW 24)).drew).frozen? x = (w.drew.alloc (.cells ROW 24)).frozen? x := fun x => rfl
 have hF1 : ∀ x, (((w.alloc (.cells ROW 24)).drew.setCells w.heap.size i [u]).drew).cell? x = ((w.drew.alloc (.cells ROW 24)).setCells w.heap.size i [u]).cell? x := fun x => rfl
 have hF2 : ∀ x, (((w.alloc (.cells ROW 24)).drew.setCells w.heap.size i [u]).drew).frozen? x = ((w.drew.alloc (.cells ROW 24)).setCells w.heap.size i [u]).frozen? x := fun x => rfl
 have hw0 : IntKind.i64.wrap ((n : Int) + 1) = (n : Int) + 1 := by rw [IntKind.wrap_i64]; omega
 have hw1 : IntKind.i64.wrap ((i : Int) + 1) = (i : Int) + 1 := by rw [IntKind.wrap_i64]; omega
 have hw2 : IntKind.i64.wrap ((n : Int) + 1 - (i : Int)) = (n : Int) + 1 - (i : Int) := by rw [IntKind.wrap_i64]; omega
 have hb1 : (0 : Int) ≤ (i : Int) + 1 := by omega
 have hin : i ≤ n := by omega
 have htn : ((i : Int) + 1).toNat = i + 1 := by omega
 have hb3 : (i : Int) ≤ (n : Int) := by omega
 have hb4 : (i : Int) ≤ (n : Int) + 1 := by omega
 clear hkk hik hold hROW hG hRl
 go_enter Tryz.func36, Tryz.ntmps36
 go_wp2_with (first
  | (at_builtin; refine Lib.wpList_append_run _ rfl _ _ _ _ rfl _ _ rfl rfl _ _ (hrz _) ?_)
  | (at_builtin; refine wpList_copy_runI _ rfl _ _ 31 31 rfl _ _ rfl rfl (hcpA _ hE1 hE2 _ _) ?_))
 go_region_law_o (first | refine step_copy_runI rfl _ _ 31 31 rfl (.slice (some ⟨w.heap.size, i + 1, none⟩) (n + 1 - (i + 1)) (G - (i + 1))) (.slice (some ⟨b, i, none⟩) (n - i) (c - i)) (by simp [Act.eval, Act.put]) (by simp [Act.eval, Act.put]) (hcpB _ hF1 hF2 3 (G - (i + 1)) (c - i)) ?_ | refine step_copy_runI rfl _ _ 31 31 rfl (.slice (some ⟨w.heap.size, i + 1, none⟩) (n - i) (G - (i + 1))) (.slice (some ⟨b, i, none⟩) (n - i) (c - i)) (by simp [Act.eval, Act.put]) (by simp [Act.eval, Act.put]) (hcpB' _ hF1 hF2 3 (G - (i + 1)) (c - i)) ?_)
 go_wp2
 go_ret
 exact ⟨rfl, rfl⟩
end Go.Abs.M
set_option linter.unusedVariables false
set_option linter.unusedSimpArgs false
namespace Go.Abs.M
open Go Go.Abs Go.Proofs Go.RowKit Go.Lib
structure Setc (w w' : World) (g : Nat) (T : TypeId) (l : List Value) : Prop where
  os : w'.os = w.os
  tape : w'.tape = w.tape
  output : w'.output = w.output
  size : w'.heap.size = w.heap.size
  other : ∀ k, k ≠ g → w'.heap[k]? = w.heap[k]?
  at' : ∃ cur' : Array Value, w'.heap[g]? = some (.cells cur' T (0, 0)) ∧ cur'.toList = l
theorem setCells_block (g : Nat) (T : TypeId) : ∀ (vs : List Value) (o : Nat) (w : World) (cur : Array Value), w.heap[g]? = some (.cells cur T (0, 0)) → o + vs.length ≤ cur.size →
    Setc w (w.setCells g o vs) g T (cur.toList.take o ++ vs ++ cur.toList.drop (o + vs.length))
  | [], o, w, cur, h, _ => ⟨rfl, rfl, rfl, rfl, fun _ _ => rfl, cur, h, by simp⟩
  | v :: r, o, w, cur, h, hl => by
    have hlt := lt_of_block h
    simp only [List.length_cons] at hl
    have h1 : (w.setCell ⟨g, o, none⟩ v).heap[g]? = some (.cells (cur.setIfInBounds o v) T (0, 0)) := by
      simp [World.setCell, Array.getElem?_modify, h]
    have ih := setCells_block g T r (o + 1) (w.setCell ⟨g, o, none⟩ v) (cur.setIfInBounds o v) h1 (by simp; omega)
    rw [World.setCells]
    refine ⟨ih.os, ih.tape, ih.output, by rw [ih.size]; simp [World.setCell], fun k hk => ?_, ?_⟩
    · rw [ih.other k hk]
      simp [World.setCell, Array.getElem?_modify, Ne.symm hk]
    · obtain ⟨cur', k1, k2⟩ := ih.at'
      refine ⟨cur', k1, ?_⟩
      have ho : o < cur.toList.length := by simp; omega
      rw [k2, Array.toList_setIfInBounds]
      have e1 : (cur.toList.set o v).take (o + 1) = cur.toList.take o ++ [v] := by
        rw [List.take_add_one, List.take_set_of_le (Nat.le_refl _), List.getElem?_set_self ho]; rfl
      have e2 : (cur.toList.set o v).drop (o + 1 + r.length) = cur.toList.drop (o + (r.length + 1)) := by
        rw [List.drop_set_of_lt (by omega)]; congr 1; omega
      rw [e1, e2]
      simp
/-- slices.Insert of one element, whatever there is room for. -/
theorem ins_own (v : Value) (n i h vc : Nat) (xs : List Value) (u : Value) (curv : Array Value) (w : World) (hi : i ≤ n) (hown : w.ownsRow 0 24 1 v n xs) (hn : (n + 1) * 24 ≤ 140737488355328) (h1 : ∀ x ∈ xs, x.oneCell' = true)
  (hh : w.heap[h]? = some (.cells curv 24 (0, 0))) (hu : curv[0]? = some u) (h1u : u.oneCell' = true) (hne : v.ownBlock ≠ some h) :
  Calls Tryz.prog 36 #[v, .int .i64 i, .slice (some ⟨h, 0, none⟩) 1 vc] w fun e w' =>
   ∃ v', e = .returned v' ∧ w'.ownsRow 0 24 1 v' (n + 1) (xs.take i ++ u :: xs.drop i) ∧ w.grownBy w' v.ownBlock ∧ (v'.ownBlock = v.ownBlock ∨ v'.ownBlock = some w.heap.size) := by
 have hxl : xs.length = n := by rw [hown.1, Nat.mul_one]
 by_cases hin : i = n
 ·subst hin
  rw [List.take_of_length_le (by omega), List.drop_of_length_le (by omega)]
  exact ins_end v i h vc xs u curv w hown hn hh hu h1u
 have hil : i < n := by omega
 rcases hown.2 with ⟨rfl, rfl⟩ | ⟨g, c, cur, rfl, _, hg, hnc, hcm, hcs, htake⟩
 ·omega
 have hgw := lt_of_block hg
 rw [Nat.mul_one] at hcs htake
 have hgh : h ≠ g := fun e => hne (by rw [e]; rfl)
 have hc63 : c ≤ 9223372036854775807 := by unfold maxLen at hcm; omega
 have hxs : ∀ (j : Nat) (x : Value), xs[j]? = some x → cur[j]? = some x := fun j x hj => by
  have hjl := (List.getElem?_eq_some_iff.1 hj).1
  rw [← htake, List.getElem?_take] at hj
  split at hj
  ·rw [← hj]; simp
  ·cases hj
 have hlen : (xs.take i ++ u :: xs.drop i).length = (n + 1) * 1 := by simp; omega
 by_cases hroom : n + 1 ≤ c
 ·refine (ins_shift g n c i h vc xs u cur curv w hil hroom hc63 hgh hxl hg hh hcs hxs hu h1 h1u).mono fun e w' ⟨he, hw'⟩ => ?_
  subst he; subst hw'
  have s1 := setCells_block g 24 (xs.drop i) (i + 1) w.drew cur hg (by simp; omega)
  obtain ⟨cur1, k1, k2⟩ := s1.at'
  have hl1 : cur1.size = c := by rw [← Array.length_toList, k2]; simp; omega
  have s2 := setCells_block g 24 [u] i _ cur1 k1 (by simp; omega)
  obtain ⟨cur2, k3, k4⟩ := s2.at'
  refine ⟨_, rfl, ⟨hlen, .inr ⟨g, c, cur2, rfl, Nat.zero_le _, k3, hroom, hcm, ?_, ?_⟩⟩, ⟨s2.os.trans s1.os, s2.tape.trans s1.tape, s2.output.trans s1.output, Nat.le_of_eq (by rw [s2.size, s1.size]; rfl), fun k hk hne => ?_⟩, .inl rfl⟩
  ·rw [← Array.length_toList, k4]; simp; omega
  ·rw [k4, Nat.mul_one]
   have e0 : cur.toList.length = c := by simp [hcs]
   have e1 : cur1.toList.take i = xs.take i := by
    rw [k2, List.append_assoc, List.take_append_of_le_length (by simp; omega), List.take_take, Nat.min_eq_left (by omega), ← htake, List.take_take, Nat.min_eq_left (by omega)]
   have e2 : cur1.toList.drop (i + 1) = xs.drop i ++ cur.toList.drop (i + 1 + (xs.drop i).length) := by
    rw [k2, List.append_assoc, List.drop_left' (by simp; omega)]
   have e3 : ([u] : List Value).length = 1 := rfl
   rw [e1, e3, e2]
   have e4 : xs.take i ++ [u] ++ (xs.drop i ++ cur.toList.drop (i + 1 + (xs.drop i).length)) = (xs.take i ++ u :: xs.drop i) ++ cur.toList.drop (i + 1 + (xs.drop i).length) := by simp
   rw [e4, List.take_left' (by simp; omega)]
  ·have hkg : k ≠ g := fun e => hne (by rw [e]; rfl)
   rw [s2.other k hkg, s1.other k hkg]; rfl
 ·refine (ins_grow g n c i h vc xs u w hil hnc (by omega) hn hxl (fun j x hj => by simp [World.cell?, hg, hxs j x hj]) (by simp [World.cell?, hh, hu]) h1 h1u).mono fun e w' ⟨he, hw'⟩ => ?_
  subst he; subst hw'
  obtain ⟨G, hG⟩ : ∃ G, G = grownCap w (n + 1) c 24 := ⟨_, rfl⟩
  have hGn : n + 1 ≤ G := by rw [hG]; exact grownCap_ge w _ _ _
  have hGm : G ≤ maxLen := by rw [hG]; exact grownCap_le_maxLen w (n + 1) c 24 (by unfold maxLen; omega)
  rw [← hG]
  obtain ⟨ROW, hROW⟩ : ∃ ROW : Array Value, ROW = (xs.take i).toArray ++ Builtin.zeroCells (Value.agg #[.slice none 0 0]).cells (n + 1 - i) ++ Builtin.zeroCells (Value.agg #[.slice none 0 0]).cells (G - (n + 1)) := ⟨_, rfl⟩
  rw [← hROW]
  have hRl : ROW.size = G := by
   rw [hROW]
   simp [Builtin.zeroCells, Value.cells]
   omega
  have hRt : ROW.toList.take i = xs.take i := by
   rw [hROW, Array.toList_append, Array.toList_append, List.append_assoc, List.take_left' (by simp; omega)]
  have hat : ((w.alloc (.cells ROW 24)).drew).heap[w.heap.size]? = some (.cells ROW 24 (0, 0)) := World.alloc_heap_new w _
  have s1 := setCells_block w.heap.size 24 [u] i _ ROW hat (by simp; omega)
  obtain ⟨cur1, k1, k2⟩ := s1.at'
  have hl1 : cur1.size = G := by rw [← Array.length_toList, k2]; simp; omega
  have k1' : (((w.alloc (.cells ROW 24)).drew.setCells w.heap.size i [u]).drew).heap[w.heap.size]? = some (.cells cur1 24 (0, 0)) := k1
  have s2 := setCells_block w.heap.size 24 (xs.drop i) (i + 1) _ cur1 k1' (by simp; omega)
  obtain ⟨cur2, k3, k4⟩ := s2.at'
  refine ⟨_, rfl, ⟨hlen, .inr ⟨w.heap.size, G, cur2, rfl, Nat.zero_le _, k3, hGn, hGm, ?_, ?_⟩⟩, ⟨s2.os.trans s1.os, s2.tape.trans s1.tape, s2.output.trans s1.output, ?_, fun k hk hne => ?_⟩, .inr rfl⟩
  ·rw [← Array.length_toList, k4]; simp; omega
  ·rw [k4, Nat.mul_one]
   have e3 : ([u] : List Value).length = 1 := rfl
   have e1 : cur1.toList.take (i + 1) = xs.take i ++ [u] := by
    rw [k2, hRt, List.take_left' (by simp; omega)]
   rw [e1]
   have e4 : xs.take i ++ [u] ++ xs.drop i = xs.take i ++ u :: xs.drop i := by simp
   rw [e4, List.take_left' (by simp; omega)]
  ·rw [s2.size]
   show _ ≤ ((w.alloc (.cells ROW 24)).drew.setCells w.heap.size i [u]).heap.size
   rw [s1.size]
   show _ ≤ (w.alloc (.cells ROW 24)).heap.size
   rw [World.size_alloc]; omega
  ·have hkg : k ≠ w.heap.size := by omega
   rw [s2.other k hkg]
   show ((w.alloc (.cells ROW 24)).drew.setCells w.heap.size i [u]).heap[k]? = _
   rw [s1.other k hkg]
   show (w.alloc (.cells ROW 24)).heap[k]? = _
   exact heap_alloc_old w _ hk
end Go.Abs.M
namespace Go.Abs.M
open Go Go.Abs Go.Proofs Go.RowKit Go.Lib
set_option linter.unusedVariables false
set_option linter.unusedSimpArgs false
def base0 (cx : Cx) (σ : Hp) (w : World) : Base := { cx := cx, F := σ.own cx, w := w, g := fun k => ∃ y, σ.gr k = some y, o := fun g => ∃ y, σ.obj g = some y }
theorem foot0 (cx : Cx) (σ : Hp) : foot cx σ (fun _ => none) = σ.own cx := by
 funext g
 refine propext ⟨fun hg => ?_, fun hg => .inl hg⟩
 rcases hg with hg | ⟨d, c, hd, _⟩
 ·exact hg
 ·cases hd
/-- A heap alone, as a frame. -/
theorem SR.heap0 {cx : Cx} {σ : Hp} {w : World} (hH : HR cx σ w) : SR (base0 cx σ w) 0 cx (enterS []) σ { tmps := #[], defers := [] } w := by
 refine ⟨rfl, Marks.nil, fun _ => rfl, fun t => .junk _, hH, ⟨fun d c hd => (by cases hd), fun d c hd => (by cases hd), fun d e c c' hd => (by cases hd)⟩, ?_, fun k x hk => .inl ⟨x, hk⟩, fun g x hk => .inl ⟨x, hk⟩, fun g hs => hs.elim, fun g hs => hs.elim, fun d c hd => (by cases hd)⟩
 show Ext cx (σ.own cx) w cx (foot cx σ fun _ => none) w
 rw [foot0]; exact .refl _ _ _
theorem SR.left0 {cx cx' : Cx} {σ σ' : Hp} {w w' : World} {a : Act} (h : SR (base0 cx σ w) 0 cx' (enterS []) σ' a w') : Left cx σ w cx' σ' w' :=
 ⟨h.heap, ⟨h.ext.os, h.ext.tape, h.ext.output, h.ext.size, h.ext.block, h.ext.le, h.ext.inew, fun g hg => h.ext.fnew g (.inl hg)⟩, h.gnew, h.onew⟩
/-- slices.Insert of one element, with lists of the call's own. -/
theorem insert_at {σ : Hp} {lv x : V} {ok : Option Nat} {es : List (List V)} {i k3 : Nat} (hd : dstE σ 24 1 lv = some (ok, es)) (h3 : σ.gr k3 = some ((24, 1), [[x]])) (hk : ok ≠ some k3) (hi : i ≤ es.length) (hn : (es.length + 1) * 24 ≤ 140737488355328) :
  ACalls Tryz.prog 36 [lv, .c (.int .i64 (i : Nat)), .gl k3] σ (fun v σ' => ∃ k', v = .gl k' ∧ (σ.delO ok).gr k' = none ∧ σ' = (σ.delO ok).setGr k' (some ((24, 1), es.take i ++ [x] :: es.drop i))) := by
 refine ⟨Tryz.call36, fun cx w xs hH ha => ?_⟩
 obtain ⟨x0, x1, x2, rfl⟩ : ∃ x0 x1 x2, xs = [x0, x1, x2] := by
  obtain ⟨hl, _⟩ := ha
  match xs, hl with
  | [a, b, c], _ => exact ⟨a, b, c, rfl⟩
 have a0 := ha.2 0 _ _ rfl rfl
 have a1 := ha.2 1 _ _ rfl rfl
 have a2 := ha.2 2 _ _ rfl rfl
 obtain ⟨ys, hown, hys, hel, hone, hblk⟩ := dst_row hH (.v a0) hd
 have e1 : x1 = .int .i64 (i : Nat) := by cases a1; rfl
 obtain ⟨hk3, hz3, hel3, zs, hown3, hzs⟩ := hH.gr k3 _ _ h3
 simp only at hz3 hown3
 rw [hz3] at hown3
 have e2 : x2 = cx.M k3 := by cases a2; rfl
 obtain ⟨h, c3, cur3, hM, _, hb3, hc3, hm3, hcs3, htk3⟩ : ∃ g cap cur, cx.M k3 = .slice (some ⟨g, 0, none⟩) 1 cap ∧ 0 ≤ g ∧ w.heap[g]? = some (.cells cur 24 (0, 0)) ∧ 1 ≤ cap ∧ cap ≤ maxLen ∧ cur.size = cap * 1 ∧ cur.toList.take (1 * 1) = zs := by
  rcases hown3.2 with ⟨_, e⟩ | ⟨g, cap, cur, r⟩
  ·simp at e
  ·exact ⟨g, cap, cur, by simpa using r⟩
 obtain ⟨u, rfl⟩ : ∃ u, zs = [u] := List.length_eq_one_iff.1 (by rw [← hzs.1]; rfl)
 have hu : cur3[0]? = some u := by
  have : (cur3.toList.take (1 * 1))[0]? = some u := by rw [htk3]; rfl
  rw [List.getElem?_take] at this
  simpa using this
 have h1u : u.oneCell' = true := hzs.2.1 u (by simp)
 have hne : x0.ownBlock ≠ some h := fun e => by
  have hb := hblk h e
  rcases ok with _ | k
  ·exact hb.2 hb.1
  ·apply hb.2
   refine .inr ⟨k3, ((24, 1), [[x]]), ?_, by rw [hM]; rfl⟩
   show (σ.setGr k none).gr k3 = _
   have : k3 ≠ k := fun e => hk (by rw [e])
   simp [Hp.setGr, this, h3]
 subst e1
 rw [hM] at e2
 subst e2
 refine (ins_own x0 es.length i h c3 ys u cur3 w hi hown hn hys.2.1 hb3 hu h1u hne).mono fun e w' ⟨v', he, ho, hg, hb⟩ => ?_
 subst he
 have hfl : (es.take i ++ [x] :: es.drop i).flatten = es.flatten.take i ++ x :: es.flatten.drop i := by
  have t1 := flatten_take (es := es) (sz := 1) (i := i) (fun e he => by simpa using hel e he)
  have t2 : es.flatten = (es.take i).flatten ++ (es.drop i).flatten := by rw [← List.flatten_append, List.take_append_drop]
  rw [Nat.mul_one] at t1
  have tl : (es.take i).flatten.length = i := by
   rw [t1, List.length_take]
   have : es.flatten.length = es.length := by rw [hys.1, hown.1, Nat.mul_one]
   omega
  have t3 : es.flatten.drop i = (es.drop i).flatten := by rw [t2, List.drop_left' tl]
  rw [List.flatten_append, List.flatten_cons, t1, t3]; rfl
 have hyl : ys.length = es.length := by rw [hown.1, Nat.mul_one]
 have hvs : VRs w cx (es.take i ++ [x] :: es.drop i).flatten (ys.take i ++ u :: ys.drop i) := by
  rw [hfl]
  have hx : VR w cx x u := hzs.2.2 0 _ _ rfl rfl
  refine ⟨by simp [hys.1], fun y hy => ?_, fun j v y hv hy => ?_⟩
  ·rcases List.mem_append.1 hy with h | h
   ·exact hys.2.1 y (List.mem_of_mem_take h)
   ·rcases List.mem_cons.1 h with rfl | h
    ·exact h1u
    ·exact hys.2.1 y (List.mem_of_mem_drop h)
  ·have hl1 : (es.flatten.take i).length = i := by rw [List.length_take, hys.1]; omega
   have hl2 : (ys.take i).length = i := by rw [List.length_take]; omega
   rcases Nat.lt_trichotomy j i with hj | hj | hj
   ·rw [List.getElem?_append_left (by omega), List.getElem?_take, if_pos hj] at hv hy
    exact hys.2.2 j v y hv hy
   ·subst hj
    rw [List.getElem?_append_right (by omega), hl1, Nat.sub_self] at hv
    rw [List.getElem?_append_right (by omega), hl2, Nat.sub_self] at hy
    simp at hv hy
    subst hv; subst hy
    exact hx
   ·obtain ⟨q, rfl⟩ : ∃ q, j = i + (q + 1) := ⟨j - i - 1, by omega⟩
    rw [List.getElem?_append_right (by omega), hl1, Nat.add_sub_cancel_left, List.getElem?_cons_succ, List.getElem?_drop] at hv
    rw [List.getElem?_append_right (by omega), hl2, Nat.add_sub_cancel_left, List.getElem?_cons_succ, List.getElem?_drop] at hy
    exact hys.2.2 _ v y hv hy
 have hlen : (es.take i ++ [x] :: es.drop i).length = es.length + 1 := by simp; omega
 have hs := (SR.heap0 hH).grown (ok := ok) (T := 24) (sz := 1) (v := x0) (v' := v') (es' := es.take i ++ [x] :: es.drop i) hblk (by rw [hlen]; exact ho) hg (hb.imp id .inl) hvs
  (fun e he => by
   rcases List.mem_append.1 he with h | h
   ·exact hel e (List.mem_of_mem_take h)
   ·rcases List.mem_cons.1 h with rfl | h
    ·rfl
    ·exact hel e (List.mem_of_mem_drop h))
 have hsome : v'.oneCell' = true := by
  rcases ho.2 with ⟨e, _⟩ | ⟨g, cap, cur, e, _⟩ <;> rw [e] <;> rfl
 refine ⟨.gl cx.nm, v', _, _, rfl, ?_, SR.left0 hs, cx.nm, rfl, delO_new ok hH, rfl⟩
 have := VR.gl (w := w') (cx := cx.addG v' 1) (k := cx.nm) (Nat.lt_succ_self _) (by rw [Cx.addG_M]; exact hsome)
 rwa [Cx.addG_M] at this
end Go.Abs.M
set_option linter.unusedVariables false
set_option linter.unusedSimpArgs false
namespace Go.Abs.M
open Go Go.Abs Go.Proofs
/-- A way of comparing that is a total order. -/
structure Tri {α : Type} (c : α → α → Int) : Prop where
  flip : ∀ a b, c b a = - c a b
  trans : ∀ a b d, c a b ≤ 0 → c b d ≤ 0 → c a d ≤ 0
  small : ∀ a b, -1 ≤ c a b ∧ c a b ≤ 1
namespace Tri
variable {α β : Type} {c c' : α → α → Int}
theorem refl (h : Tri c) (a : α) : c a a = 0 := by have := h.flip a a; omega
theorem lt_le (h : Tri c) {a b d : α} (h1 : c a b < 0) (h2 : c b d ≤ 0) : c a d < 0 := by
 by_cases k : c a d < 0
 ·exact k
 ·have e := h.flip a d
  have := h.trans b d a h2 (by omega)
  have e2 := h.flip a b
  omega
theorem le_lt (h : Tri c) {a b d : α} (h1 : c a b ≤ 0) (h2 : c b d < 0) : c a d < 0 := by
 by_cases k : c a d < 0
 ·exact k
 ·have e := h.flip a d
  have := h.trans d a b (by omega) h1
  have e2 := h.flip b d
  omega
theorem lex (h : Tri c) (h' : Tri c') : Tri (fun a b => if c a b ≠ 0 then c a b else c' a b) := by
 refine ⟨fun a b => ?_, fun a b d h1 h2 => ?_, fun a b => ?_⟩
 ·have e := h.flip a b
  have e' := h'.flip a b
  split <;> split <;> omega
 ·
  have k1 : c a b ≤ 0 := by split at h1 <;> omega
  have k2 : c b d ≤ 0 := by split at h2 <;> omega
  have k3 := h.trans a b d k1 k2
  split
  ·exact k3
  ·rename_i e
   have e : c a d = 0 := by omega
   have z1 : c a b = 0 := by
    by_cases k : c a b = 0
    ·exact k
    ·have := h.lt_le (a := a) (b := b) (d := d) (by omega) k2; omega
   have z2 : c b d = 0 := by
    by_cases k : c b d = 0
    ·exact k
    ·have := h.le_lt (a := a) (b := b) (d := d) k1 (by omega); omega
   rw [if_neg (by simp [z1])] at h1
   rw [if_neg (by simp [z2])] at h2
   exact h'.trans a b d h1 h2
 ·have e := h.small a b
  have e' := h'.small a b
  split <;> omega
theorem on (h : Tri c) (f : β → α) : Tri (fun a b => c (f a) (f b)) := ⟨fun a b => h.flip _ _, fun a b d => h.trans _ _ _, fun a b => h.small _ _⟩
end Tri
theorem tri_I : Tri cmpI := by
  refine ⟨fun a b => ?_, fun a b d => ?_, fun a b => ?_⟩ <;> simp only [cmpI] <;> repeat' split <;> omega
theorem cmpS_cases (a b : ByteArray) : (cmpS a b = -1 ∧ a.toList < b.toList) ∨ (cmpS a b = 0 ∧ a.toList = b.toList) ∨ (cmpS a b = 1 ∧ b.toList < a.toList) := by
 unfold cmpS
 rw [bytesLess_eq']
 by_cases h : a.toList < b.toList
 ·simp [h]
 ·by_cases e : a.toList = b.toList
  ·simp [e, List.lt_irrefl]
  ·have : b.toList < a.toList := by
    rcases List.le_iff_lt_or_eq.1 (show b.toList ≤ a.toList from h) with h1 | h1
    ·exact h1
    ·exact absurd h1.symm e
   simp [h, e, this]
theorem tri_S : Tri cmpS := by
 refine ⟨fun a b => ?_, fun a b d h1 h2 => ?_, fun a b => ?_⟩
 ·rcases cmpS_cases a b with ⟨h1, h2⟩ | ⟨h1, h2⟩ | ⟨h1, h2⟩ <;> rcases cmpS_cases b a with ⟨k1, k2⟩ | ⟨k1, k2⟩ | ⟨k1, k2⟩ <;> rw [h1, k1] <;>
   first
    | omega
    | exact absurd k2 (List.lt_asymm h2)
    | exact absurd k2 (by rw [h2]; exact List.lt_irrefl _)
    | exact absurd h2 (by rw [k2]; exact List.lt_irrefl _)
 ·rcases cmpS_cases a d with ⟨k1, _⟩ | ⟨k1, _⟩ | ⟨_, k2⟩
  ·omega
  ·omega
  ·exfalso
   have e1 : ¬ b.toList < a.toList := fun hh => by
    rcases cmpS_cases a b with ⟨_, h⟩ | ⟨_, h⟩ | ⟨h, _⟩
    ·exact List.lt_asymm h hh
    ·rw [h] at hh; exact List.lt_irrefl _ hh
    ·omega
   have e2 : ¬ d.toList < b.toList := fun hh => by
    rcases cmpS_cases b d with ⟨_, h⟩ | ⟨_, h⟩ | ⟨h, _⟩
    ·exact List.lt_asymm h hh
    ·rw [h] at hh; exact List.lt_irrefl _ hh
    ·omega
   exact List.le_trans (show a.toList ≤ b.toList from e1) (show b.toList ≤ d.toList from e2) k2
 ·rcases cmpS_cases a b with ⟨h, _⟩ | ⟨h, _⟩ | ⟨h, _⟩ <;> omega
theorem orI2 (x y : Int) : orI [x, y] = if x ≠ 0 then x else y := by
 simp only [orI]
 split
 ·rfl
 ·split
  ·rfl
  ·omega
theorem tri_Id : Tri cmpId := by
 have : cmpId = fun a b : Int × Int => if cmpI a.1 b.1 ≠ 0 then cmpI a.1 b.1 else cmpI a.2 b.2 := by funext a b; exact orI2 _ _
 rw [this]
 exact (tri_I.on Prod.fst).lex (tri_I.on Prod.snd)
theorem tri_Bd : Tri cmpBd := by
 have : cmpBd = fun a b : Bd => if cmpS a.var b.var ≠ 0 then cmpS a.var b.var else cmpId (idOf a) (idOf b) := by funext a b; exact orI2 _ _
 rw [this]
 exact (tri_S.on Bd.var).lex (tri_Id.on idOf)
theorem tri_L : Tri cmpL := by
  have fl : ∀ a b, cmpL b a = - cmpL a b := by
    intro a
    induction a with
    | nil => intro b; cases b <;> rfl
    | cons x l ih =>
      intro b
      cases b with
      | nil => rfl
      | cons y r =>
        have e := tri_Bd.flip x y
        have := ih r
        simp only [cmpL]
        split <;> split <;> omega
  refine ⟨fl, ?_, ?_⟩
  · intro a
    induction a with
    | nil => intro b d _ _; cases d <;> simp [cmpL]
    | cons x l ih =>
      intro b d h1 h2
      cases b with
      | nil => simp [cmpL] at h1
      | cons y r =>
        cases d with
        | nil => simp [cmpL] at h2
        | cons z q =>
          simp only [cmpL] at h1 h2 ⊢
          have k1 : cmpBd x y ≤ 0 := by split at h1 <;> omega
          have k2 : cmpBd y z ≤ 0 := by split at h2 <;> omega
          have k3 := tri_Bd.trans x y z k1 k2
          split
          · exact k3
          · have z1 : cmpBd x y = 0 := by
              by_cases k : cmpBd x y = 0
              · exact k
              · have := tri_Bd.lt_le (a := x) (b := y) (d := z) (by omega) k2; omega
            have z2 : cmpBd y z = 0 := by
              by_cases k : cmpBd y z = 0
              · exact k
              · have := tri_Bd.le_lt (a := x) (b := y) (d := z) k1 (by omega); omega
            rw [if_neg (by simp [z1])] at h1
            rw [if_neg (by simp [z2])] at h2
            exact ih r q h1 h2
  · intro a
    induction a with
    | nil => intro b; cases b <;> simp [cmpL]
    | cons x l ih =>
      intro b
      cases b with
      | nil => simp [cmpL]
      | cons y r =>
        have e := tri_Bd.small x y
        have := ih r
        simp only [cmpL]
        split <;> omega
def SrtL (rows : List (List Bd)) : Prop := rows.Pairwise (fun a b => cmpL a b < 0)
/-- Where a row belongs. -/
structure AtL (rows : List (List Bd)) (x : List Bd) (i : Nat) : Prop where
  lt : ∀ j y, rows[j]? = some y → j < i → cmpL y x < 0
  ge : ∀ j y, rows[j]? = some y → i ≤ j → 0 ≤ cmpL y x
def hasL (rows : List (List Bd)) (x : List Bd) : Bool := rows.any (fun y => cmpL y x == 0)
def insL' (rows : List (List Bd)) (x : List Bd) : List (List Bd) := rows.takeWhile (fun y => decide (cmpL y x < 0)) ++ x :: rows.dropWhile (fun y => decide (cmpL y x < 0))
def addL (rows : List (List Bd)) (x : List Bd) : List (List Bd) := if partErr x = 0 ∧ hasL rows x = false then insL' rows x else rows
theorem SrtL.get {rows : List (List Bd)} (h : SrtL rows) {i j : Nat} {x y : List Bd} (hx : rows[i]? = some x) (hy : rows[j]? = some y) (hij : i < j) : cmpL x y < 0 := by
 obtain ⟨hi, rfl⟩ := List.getElem?_eq_some_iff.1 hx
 obtain ⟨hj, rfl⟩ := List.getElem?_eq_some_iff.1 hy
 exact List.pairwise_iff_getElem.1 h i j hi hj hij
theorem takeWhile_at {α : Type} {p : α → Bool} : ∀ {l : List α} {i : Nat}, i ≤ l.length → (∀ j y, l[j]? = some y → j < i → p y = true) → (∀ j y, l[j]? = some y → i ≤ j → p y = false) → l.takeWhile p = l.take i ∧ l.dropWhile p = l.drop i
  | [], i, _, _, _ => by simp
  | a :: l, 0, _, _, h2 => by
    have := h2 0 a rfl (Nat.le_refl _)
    simp [this]
  | a :: l, i + 1, hi, h1, h2 => by
    have ha := h1 0 a rfl (by omega)
    obtain ⟨e1, e2⟩ := takeWhile_at (p := p) (l := l) (i := i) (by simpa using hi) (fun j y hy hj => h1 (j + 1) y (by simpa using hy) (by omega)) (fun j y hy hj => h2 (j + 1) y (by simpa using hy) (by omega))
    simp [ha, e1, e2]
theorem AtL.ins {rows : List (List Bd)} {x : List Bd} {i : Nat} (h : AtL rows x i) (hi : i ≤ rows.length) : insL' rows x = rows.take i ++ x :: rows.drop i := by
 obtain ⟨e1, e2⟩ := takeWhile_at (p := fun y => decide (cmpL y x < 0)) hi (fun j y hy hj => by simpa using h.lt j y hy hj) (fun j y hy hj => by have := h.ge j y hy hj; simp; omega)
 rw [insL', e1, e2]
theorem AtL.has {rows : List (List Bd)} {x : List Bd} {i : Nat} (hs : SrtL rows) (h : AtL rows x i) : hasL rows x = true ↔ ∃ y, rows[i]? = some y ∧ cmpL y x = 0 := by
 constructor
 ·intro hh
  obtain ⟨y, hy, he⟩ := List.any_eq_true.1 hh
  have he : cmpL y x = 0 := by simpa using he
  obtain ⟨j, hj⟩ := List.getElem?_of_mem hy
  rcases Nat.lt_trichotomy j i with hji | hji | hji
  ·have := h.lt j y hj hji; omega
  ·subst hji; exact ⟨y, hj, he⟩
  ·exfalso
   have hjl := (List.getElem?_eq_some_iff.1 hj).1
   have hil : rows[i]? = some rows[i] := List.getElem?_eq_getElem (by omega)
   have k1 := hs.get hil hj hji
   have k2 := h.ge i _ hil (Nat.le_refl _)
   have k3 := tri_L.lt_le k1 (by omega : cmpL y x ≤ 0)
   omega
 ·rintro ⟨y, hy, he⟩
  exact List.any_eq_true.2 ⟨y, List.mem_of_getElem? hy, by simp [he]⟩
theorem SrtL.ins {rows : List (List Bd)} {x : List Bd} {i : Nat} (hs : SrtL rows) (h : AtL rows x i) (hn : hasL rows x = false) : SrtL (rows.take i ++ x :: rows.drop i) := by
 have low : ∀ y ∈ rows.take i, cmpL y x < 0 := fun y hy => by
  obtain ⟨j, hj⟩ := List.getElem?_of_mem hy
  rw [List.getElem?_take] at hj
  split at hj
  ·rename_i hji; exact h.lt j y hj hji
  ·cases hj
 have high : ∀ y ∈ rows.drop i, cmpL x y < 0 := fun y hy => by
  obtain ⟨j, hj⟩ := List.getElem?_of_mem hy
  rw [List.getElem?_drop] at hj
  have k := h.ge _ y hj (by omega)
  have k2 : cmpL y x ≠ 0 := fun e => by
   have : hasL rows x = true := List.any_eq_true.2 ⟨y, List.mem_of_getElem? hj, by simp [e]⟩
   rw [hn] at this; cases this
  have := tri_L.flip y x
  omega
 have hs2 : SrtL (rows.take i ++ rows.drop i) := by rw [List.take_append_drop]; exact hs
 obtain ⟨s1, s2, s3⟩ := List.pairwise_append.1 hs2
 refine List.pairwise_append.2 ⟨s1, List.pairwise_cons.2 ⟨high, s2⟩, fun a ha b hb => ?_⟩
 rcases List.mem_cons.1 hb with rfl | hb
 ·exact low a ha
 ·exact s3 a ha b hb
theorem SrtL.at {rows : List (List Bd)} (hs : SrtL rows) (x : List Bd) : AtL rows x (rows.takeWhile (fun y => decide (cmpL y x < 0))).length := by
  induction rows with
  | nil => exact ⟨fun j y h => by simp at h, fun j y h => by simp at h⟩
  | cons a l ih =>
    obtain ⟨h1, h2⟩ := List.pairwise_cons.1 hs
    by_cases ha : cmpL a x < 0
    · have ih := ih h2
      rw [List.takeWhile_cons_of_pos (by simpa using ha), List.length_cons]
      refine ⟨fun j y hy hj => ?_, fun j y hy hj => ?_⟩
      · cases j with
        | zero => simp at hy; subst hy; exact ha
        | succ j => exact ih.lt j y (by simpa using hy) (by omega)
      · cases j with
        | zero => omega
        | succ j => exact ih.ge j y (by simpa using hy) (by omega)
    · rw [List.takeWhile_cons_of_neg (by simpa using ha)]
      refine ⟨fun j y hy hj => by simp at hj, fun j y hy hj => ?_⟩
      cases j with
      | zero => simp at hy; subst hy; omega
      | succ j =>
        have hm := h1 y (List.mem_of_getElem? (by simpa using hy))
        by_cases k : 0 ≤ cmpL y x
        · exact k
        · have := tri_L.lt_le hm (by omega : cmpL y x ≤ 0); omega
theorem insL'_at (rows : List (List Bd)) (x : List Bd) : insL' rows x = rows.take (rows.takeWhile (fun y => decide (cmpL y x < 0))).length ++ x :: rows.drop (rows.takeWhile (fun y => decide (cmpL y x < 0))).length := by
 have h := List.takeWhile_append_dropWhile (p := fun y => decide (cmpL y x < 0)) (l := rows)
 unfold insL'
 generalize rows.takeWhile (fun y => decide (cmpL y x < 0)) = a at h ⊢
 generalize rows.dropWhile (fun y => decide (cmpL y x < 0)) = b at h ⊢
 subst h
 simp
theorem addL_srt {rows : List (List Bd)} {x : List Bd} (hs : SrtL rows) : SrtL (addL rows x) := by
 unfold addL
 split
 ·rename_i h
  rw [insL'_at]
  exact hs.ins (hs.at x) h.2
 ·exact hs
theorem addL_len (rows : List (List Bd)) (x : List Bd) : (addL rows x).length ≤ rows.length + 1 := by
 unfold addL
 split
 ·rw [insL'_at]; simp; omega
 ·omega
theorem insL'_mem (rows : List (List Bd)) (x y : List Bd) : y ∈ insL' rows x → y = x ∨ y ∈ rows := by
 rw [insL'_at]
 intro h
 rcases List.mem_append.1 h with h | h
 ·exact .inr (List.mem_of_mem_take h)
 ·rcases List.mem_cons.1 h with h | h
  ·exact .inl h
  ·exact .inr (List.mem_of_mem_drop h)
theorem addL_mem {rows : List (List Bd)} {x y : List Bd} (h : y ∈ addL rows x) : y = x ∨ y ∈ rows := by
 unfold addL at h
 split at h
 ·exact insL'_mem _ _ _ h
 ·exact .inr h
end Go.Abs.M
namespace Go.Abs.M
open Go Go.Abs Go.Proofs
set_option linter.unusedSimpArgs false
/-- A number in n bits. -/
def lowB (u : Nat) : Nat → List Bool
  | 0 => []
  | n + 1 => (u / 2 ^ n % 2 == 1) :: lowB u n
theorem lowB_len (u : Nat) : ∀ n, (lowB u n).length = n
 | 0 => rfl
 | n + 1 => by rw [lowB, List.length_cons, lowB_len u n]
/-- The i-th bit is put to bytes that have place for it. -/
def putB (l : List Nat) (i : Nat) (b : Bool) : List Nat := if b then l.modify (i / 8) (· + 128 / 2 ^ (i % 8)) else l
def putsB : List Nat → Nat → List Bool → List Nat
  | l, _, [] => l
  | l, i, b :: bs => putsB (putB l i b) (i + 1) bs
def zerosB (n : Nat) : List Nat := List.replicate n 0
def packB (bs : List Bool) : List Nat := putsB (zerosB ((bs.length + 7) / 8)) 0 bs
end Go.Abs.M
namespace Go.Abs.M
open Go Go.Abs Go.Proofs
set_option maxRecDepth 20000
set_option linter.unusedSimpArgs false
set_option linter.unusedVariables false
def ptrV (g : Nat) : V := .c (.pointer (some ⟨g, 0, none⟩))
def skC (n : Nat) (v : V) : List V := [.c (.bool true), v, .c (.int .i64 n)]
/-- The list that a sink holds. -/
def skN (g : Nat) (σ : Hp) : Option Nat := match σ.obj g with | some [_, .gl k, _] => some k | _ => none
/-- A sink of some bits. -/
def Snk (g : Nat) (bs : List Bool) (σ : Hp) : Prop := (bs = [] ∧ σ.obj g = some (skC 0 (.c (.slice none 0 0)))) ∨ ∃ k, σ.obj g = some (skC bs.length (.gl k)) ∧ σ.gr k = some ((5, 1), (packB bs).map encB)
/-- What else there is stays. -/
structure Fr (g : Nat) (σ σ' : Hp) : Prop where
  obj : ∀ x c, x ≠ g → σ.obj x = some c → σ'.obj x = some c
  gr : ∀ k x, σ.gr k = some x → skN g σ ≠ some k → σ'.gr k = some x ∧ skN g σ' ≠ some k
theorem Fr.refl (g : Nat) (σ : Hp) : Fr g σ σ := ⟨fun _ _ _ h => h, fun _ _ h k => ⟨h, k⟩⟩
theorem Fr.trans {g : Nat} {a b c : Hp} (h : Fr g a b) (k : Fr g b c) : Fr g a c :=
 ⟨fun x d hx hd => k.obj x d hx (h.obj x d hx hd), fun n x hx hn => by
  obtain ⟨h1, h2⟩ := h.gr n x hx hn
  exact k.gr n x h1 h2⟩
/-- The next bit's place. -/
def InvB (l : List Nat) (i : Nat) : Prop := ∀ j x, l[j]? = some x → x < 256 ∧ (j = i / 8 → x % 2 ^ (8 - i % 8) = 0) ∧ (i / 8 < j → x = 0)
theorem byte_put : ∀ r : Nat, r < 8 → ∀ x : Nat, x < 256 → x % 2 ^ (8 - r) = 0 → x + 128 / 2 ^ r < 256 ∧ (x + 128 / 2 ^ r) % 2 ^ (7 - r) = 0 ∧ x % 2 ^ (7 - r) = 0 ∧ (BitVec.ofInt 8 (x : Int) ||| BitVec.ofInt 8 ((128 / 2 ^ r : Nat) : Int)).toNat = x + 128 / 2 ^ r := by decide +kernel
theorem InvB.put {l : List Nat} {i : Nat} (h : InvB l i) (b : Bool) : InvB (putB l i b) (i + 1) := by
  intro j x hx
  have key : ∀ y, l[j]? = some y → (x = y ∨ (j = i / 8 ∧ x = y + 128 / 2 ^ (i % 8))) → x < 256 ∧ (j = (i + 1) / 8 → x % 2 ^ (8 - (i + 1) % 8) = 0) ∧ ((i + 1) / 8 < j → x = 0) := fun y hy hxy => by
    obtain ⟨h1, h2, h3⟩ := h j y hy
    by_cases hj : j = i / 8
    · obtain ⟨k1, k2, k3, _⟩ := byte_put (i % 8) (Nat.mod_lt _ (by omega)) y h1 (h2 hj)
      have hp : x % 2 ^ (7 - i % 8) = 0 ∧ x < 256 := by
        rcases hxy with rfl | ⟨_, rfl⟩
        · exact ⟨k3, h1⟩
        · exact ⟨k2, k1⟩
      refine ⟨hp.2, fun e => ?_, fun e => by omega⟩
      rw [show 8 - (i + 1) % 8 = 7 - i % 8 by omega]; exact hp.1
    · have hxy : x = y := by rcases hxy with h | h; exact h; exact absurd h.1 hj
      subst hxy
      refine ⟨h1, fun e => ?_, fun e => h3 (by omega)⟩
      rw [h3 (by omega)]; exact Nat.zero_mod _
  unfold putB at hx
  split at hx
  · rw [List.getElem?_modify] at hx
    cases hl : l[j]? with
    | none => rw [hl] at hx; cases hx
    | some y =>
      rw [hl] at hx
      have hx : (if i / 8 = j then y + 128 / 2 ^ (i % 8) else y) = x := by simpa using hx
      refine key y hl ?_
      split at hx
      · rename_i e; exact .inr ⟨e.symm, hx.symm⟩
      · exact .inl hx.symm
  · exact key x hx (.inl rfl)
end Go.Abs.M
namespace Go.Abs.M
open Go Go.Abs Go.Proofs
set_option maxRecDepth 20000
set_option linter.unusedSimpArgs false
set_option linter.unusedVariables false
theorem Fr.grow {g : Nat} {σ : Hp} {ok : Option Nat} {k2 n : Nat} {x : (TypeId × Nat) × List (List V)} (ho : skN g σ = ok) (hk2 : (σ.delO ok).gr k2 = none) : Fr g σ (((σ.delO ok).setGr k2 (some x)).setObj g (some (skC n (.gl k2)))) := by
  refine ⟨fun y c hy hc => ?_, fun k y hk hn => ?_⟩
  · cases ok <;> simp [Hp.delO, hy, hc]
  · have hd : (σ.delO ok).gr k = some y := by
      cases ok with
      | none => exact hk
      | some q =>
        have : k ≠ q := fun e => hn (by rw [ho, e])
        simp [Hp.delO, this, hk]
    have hne : k ≠ k2 := fun e => by rw [e, hk2] at hd; cases hd
    refine ⟨by simp [hne, hd], ?_⟩
    simp [skN, skC]
    exact fun e => hne e.symm
end Go.Abs.M
namespace Go.Abs.M
open Go Go.Abs Go.Proofs
set_option maxRecDepth 20000
set_option linter.unusedSimpArgs false
set_option linter.unusedVariables false
theorem wrap_u64 {n : Nat} (h : n < 18446744073709551616) : IntKind.u64.wrap (n : Int) = n := by
 unfold IntKind.wrap
 simp [IntKind.signed, IntKind.bits]
 omega
theorem shr64 (u k : Nat) (h : k ≤ 64) : Int.fdiv (u : Int) ((2 : Int) ^ min k IntKind.u64.bits) = ((u / 2 ^ k : Nat) : Int) := by
 rw [show min k IntKind.u64.bits = k from Nat.min_eq_left h]
 rw [show ((2 : Int) ^ k) = ((2 ^ k : Nat) : Int) by simp]
 exact (Int.ofNat_fdiv u (2 ^ k)).symm
end Go.Abs.M
namespace Go.Abs.M
open Go Go.Abs Go.Proofs
set_option maxRecDepth 20000
set_option linter.unusedSimpArgs false
set_option linter.unusedVariables false
theorem Snk.obj {g : Nat} {bs : List Bool} {σ : Hp} (h : Snk g bs σ) : ∃ v, σ.obj g = some [.c (.bool true), v, .c (.int .i64 (bs.length : Nat))] := by
 rcases h with ⟨rfl, h⟩ | ⟨k, h, _⟩
 ·exact ⟨_, h⟩
 ·exact ⟨_, h⟩
end Go.Abs.M
namespace Go.Abs.M
open Go Go.Abs Go.Proofs
set_option maxRecDepth 20000
set_option linter.unusedSimpArgs false
set_option linter.unusedVariables false
theorem flat_len (l : List UInt8) : (l.flatMap fun b => lowB b.toNat 8).length = 8 * l.length := by
 induction l with
 | nil => rfl
 | cons b l ih => rw [List.flatMap_cons, List.length_append, ih, lowB_len, List.length_cons]; omega
end Go.Abs.M
namespace Go.Abs.M
open Go Go.Abs Go.Proofs
set_option maxRecDepth 20000
set_option linter.unusedSimpArgs false
set_option linter.unusedVariables false
theorem Snk.other {g o : Nat} {bs : List Bool} {σ : Hp} {x : Option (List V)} (h : Snk g bs σ) (ho : σ.obj o = none) : Snk g bs (σ.setObj o x) := by
 have hne : g ≠ o := fun e => by
  obtain ⟨v, hv⟩ := h.obj
  rw [e, ho] at hv; cases hv
 rcases h with ⟨h1, h2⟩ | ⟨k, h1, h2⟩
 ·exact .inl ⟨h1, by simp [hne, h2]⟩
 ·exact .inr ⟨k, by simp [hne, h1], by simp [h2]⟩
theorem Fr.other {g o : Nat} {σ : Hp} {x : Option (List V)} (ho : σ.obj o = none) (hg : g ≠ o) : Fr g σ (σ.setObj o x) := by
 refine ⟨fun y c hy hc => ?_, fun k y hk hn => ⟨by simp [hk], ?_⟩⟩
 ·have : y ≠ o := fun e => by rw [e, ho] at hc; cases hc
  simp [this, hc]
 ·unfold skN at hn ⊢
  simpa [hg] using hn
end Go.Abs.M
namespace Go.Abs.M
open Go Go.Abs Go.Proofs
set_option maxRecDepth 20000
set_option linter.unusedSimpArgs false
set_option linter.unusedVariables false
theorem Fr.at {g o : Nat} {σ σ' : Hp} {c : List V} (h : Fr g σ σ') (hne : o ≠ g) (hc : σ.obj o = some c) : σ'.obj o = some c := h.obj o c hne hc
end Go.Abs.M
namespace Go.Abs.M
open Go Go.Abs Go.Proofs
set_option maxRecDepth 20000
set_option linter.unusedSimpArgs false
set_option linter.unusedVariables false
theorem Fr.new {g o : Nat} {σ σ3 : Hp} {x : Option (List V)} (ho : σ.obj o = none) (hg : g ≠ o) (hgo : ∃ c, σ.obj g = some c) (hn : skN o (σ.setObj o x) = none) (hf : Fr o (σ.setObj o x) σ3) : Fr g σ σ3 := by
 refine ⟨fun y c hy hc => ?_, fun k y hk hnk => ?_⟩
 ·have hyo : y ≠ o := fun e => by rw [e, ho] at hc; cases hc
  exact hf.obj y c hyo (by simp [hyo, hc])
 ·obtain ⟨h1, h2⟩ := hf.gr k y (by simp [hk]) (by rw [hn]; exact fun e => by cases e)
  refine ⟨h1, ?_⟩
  obtain ⟨c, hc⟩ := hgo
  have : σ3.obj g = some c := hf.obj g c hg (by simp [hg, hc])
  unfold skN at hnk ⊢
  rw [hc] at hnk
  rw [this]; exact hnk
theorem Snk.ne {g o : Nat} {bs : List Bool} {σ : Hp} (h : Snk g bs σ) (ho : σ.obj o = none) : g ≠ o := fun e => by
 obtain ⟨v, hv⟩ := h.obj
 rw [e, ho] at hv; cases hv
end Go.Abs.M
namespace Go.Abs.M
open Go Go.Abs Go.Proofs
set_option maxRecDepth 20000
set_option linter.unusedSimpArgs false
set_option linter.unusedVariables false
def encT (b : Bool) : List V := [.c (.bool b)]
/-- A list of flags of the call's own. -/
def Own (bs : List Bool) (σ : Hp) (v : V) (σ' : Hp) : Prop := ∃ k, v = .gl k ∧ σ.gr k = none ∧ σ' = σ.setGr k (some ((4, 1), bs.map encT))
def Frz (bs : List Bool) (σ : Hp) (v : V) (σ' : Hp) : Prop := v = .sl (bs.map encT) ∧ σ' = σ
theorem Own.frz {f : FuncId} {args : List V} {bs : List Bool} {σ : Hp} (h : ACalls Tryz.prog f args σ (Own bs σ)) : ACalls Tryz.prog f args σ (Frz bs σ) :=
  h.freeze fun v σ' ⟨k, h1, h2, h3⟩ => ⟨k, (4, 1), bs.map encT, h1, by rw [h3]; simp, rfl, by rw [h3, Hp.setGr_setGr, Hp.setGr_none h2]⟩
end Go.Abs.M
namespace Go.Abs.M
open Go Go.Abs Go.Proofs
set_option maxRecDepth 20000
set_option linter.unusedSimpArgs false
set_option linter.unusedVariables false
theorem map2 (a b : V) : isMap [a, b] = false := by cases a <;> rfl
/-- The list that a set holds. -/
def stN (g : Nat) (σ : Hp) : Option Nat := match σ.obj g with | some [.gl k, _] => some k | _ => none
/-- A set of some rows. -/
def PSet (g : Nat) (rows : List (List Bd)) (σ : Hp) : Prop := (rows = [] ∧ σ.obj g = some [.c (.slice none 0 0), .c (.bool true)]) ∨ ∃ k, σ.obj g = some [.gl k, .c (.bool true)] ∧ σ.gr k = some ((24, 1), rows.map encP)
theorem PSet.ex {g : Nat} {rows : List (List Bd)} {σ : Hp} (h : PSet g rows σ) : ∃ lv, σ.obj g = some [lv, .c (.bool true)] := by
 rcases h with ⟨_, h⟩ | ⟨k, h, _⟩
 ·exact ⟨_, h⟩
 ·exact ⟨_, h⟩
theorem none_spec (g : Nat) (lv : V) (σ : Hp) (ho : σ.obj g = some [lv, .c (.bool true)]) : ACalls Tryz.prog 30 [ptrV g] σ (fun v σ' => v = .c (.bool false) ∧ σ' = σ) := by
 refine ACalls.intro Tryz.call30 Tryz.func30 rfl Tryz.ntmps30 Tryz.results30 (by simp) ?_
 refine AW.seq_k fun K1 h1 => ?_
 refine AW.reg0 ?_
 (refine S.g rfl rfl fun Y Z => ?_; simp only [zz, reduceIte, Nat.reduceEqDiff, Nat.reduceAdd]; refine Z _ _ ?_; clear Z Y)
 refine S.nil ?_
 simp only [ze, reduceIte, Nat.reduceEqDiff, Nat.reduceLeDiff, Nat.reduceAdd]
 apply_assumption
 refine AW.seq_k fun K2 h2 => ?_
 refine AW.reg0 ?_
 (refine S.g rfl rfl fun Y Z => ?_; simp only [zz, reduceIte, Nat.reduceEqDiff, Nat.reduceAdd, ptrV, un28, TypeDesc.pointer.injEq, ho, map2, List.getD_cons_succ, List.getD_cons_zero]; refine Z _ _ ?_; clear Z Y)
 (refine S.g rfl rfl fun Y Z => ?_; simp only [zz, reduceIte, Nat.reduceEqDiff, Nat.reduceLeDiff, Nat.reduceAdd, un28, ptrV, un28, TypeDesc.pointer.injEq, ho, map2, List.getD_cons_succ, List.getD_cons_zero]; refine S.bool fun b a4 => ?_; cases b <;> (try (exfalso; first | exact Bool.noConfusion a4 | (have h := of_decide_eq_true a4; omega) | (have h := of_decide_eq_false a4; omega))) <;> (refine Z _ _ ?_; clear Z Y))
 (refine S.g rfl rfl fun Y Z => ?_; simp only [zz, reduceIte, Nat.reduceEqDiff, Nat.reduceAdd, ptrV, un28, TypeDesc.pointer.injEq, ho, map2, List.getD_cons_succ, List.getD_cons_zero]; refine Z _ _ ?_; clear Z Y)
 iterate 5 (first | (refine S.y rfl rfl rfl rfl fun Y Z => ?_; simp only [zz, reduceIte, Nat.reduceEqDiff, Nat.reduceLeDiff, Nat.reduceAdd, of53_1, ok4, sz4, ag4, ptrV, un28, TypeDesc.pointer.injEq, ho, map2, List.getD_cons_succ, List.getD_cons_zero]; refine Z _ _ ?_; clear Z Y) | ((first | refine S.x rfl rfl rfl rfl fun Y Z => ?_ | refine S.u rfl rfl rfl rfl fun Y Z => ?_); simp only [ze, reduceIte, Nat.reduceEqDiff]; refine Z _ _ ?_; clear Z Y))
 iterate 2 (refine S.g rfl rfl fun Y Z => ?_; simp only [zz, reduceIte, Nat.reduceEqDiff, Nat.reduceAdd, ptrV, un28, TypeDesc.pointer.injEq, ho, map2, List.getD_cons_succ, List.getD_cons_zero]; refine Z _ _ ?_; clear Z Y)
 refine S.nil ?_
 simp only [ze, reduceIte, Nat.reduceEqDiff, Nat.reduceLeDiff, Nat.reduceAdd, ptrV, un28, TypeDesc.pointer.injEq, ho, map2, List.getD_cons_succ, List.getD_cons_zero]
 apply_assumption
 refine AW.ret ?_
 simp only [zs, reduceIte, Nat.reduceEqDiff, Nat.reduceLeDiff, Nat.reduceAdd]
theorem len_spec (g : Nat) (rows : List (List Bd)) (σ : Hp) (hs : PSet g rows σ) : ACalls Tryz.prog 15 [ptrV g] σ (fun v σ' => v = .c (.int .i64 (rows.length : Nat)) ∧ σ' = σ) := by
 refine ACalls.intro Tryz.call15 Tryz.func15 rfl Tryz.ntmps15 Tryz.results15 (by simp) ?_
 have hns := none_spec g _ σ hs.ex.choose_spec
 refine AW.seq_k fun K1 h1 => ?_
 refine AW.reg0 ?_
 (refine S.g rfl rfl fun Y Z => ?_; simp only [zz, reduceIte, Nat.reduceEqDiff, Nat.reduceAdd]; refine Z _ _ ?_; clear Z Y)
 refine S.nil ?_
 simp only [ze, reduceIte, Nat.reduceEqDiff, Nat.reduceLeDiff, Nat.reduceAdd]
 apply_assumption
 refine AW.seq_k fun K2 h2 => ?_
 refine AW.seq_k fun K3 h3 => ?_
 refine AW.reg0 ?_
 (refine S.g rfl rfl fun Y Z => ?_; simp only [zz, reduceIte, Nat.reduceEqDiff, Nat.reduceAdd, ptrV]; refine Z _ _ ?_; clear Z Y)
 (refine S.g rfl rfl fun Y Z => ?_; simp only [zz, reduceIte, Nat.reduceEqDiff, Nat.reduceLeDiff, Nat.reduceAdd, ptrV]; refine hns.to fun v σ2 hv => ?_; obtain ⟨rfl, rfl⟩ := hv <;> (refine Z _ _ ?_; clear Z Y))
 refine S.nil ?_
 simp only [ze, reduceIte, Nat.reduceEqDiff, Nat.reduceLeDiff, Nat.reduceAdd, ptrV]
 apply_assumption
 refine AW.cond (b := false) (by simp [ev]) (fun hc => by cases hc) (fun hc => ?_)
 refine AW.skip ?_
 simp only [zs, reduceIte, Nat.reduceEqDiff, Nat.reduceLeDiff, Nat.reduceAdd]
 apply_assumption
 rcases hs with ⟨rfl, ho⟩ | ⟨k, ho, hk⟩
 ·refine AW.seq_k fun K4 h4 => ?_
  refine AW.reg0 ?_
  iterate 6 (refine S.g rfl rfl fun Y Z => ?_; simp only [zz, reduceIte, Nat.reduceEqDiff, Nat.reduceLeDiff, Nat.reduceAdd, of53_0, ok31, sz31, ag31, sl31, el31, ok24, sz24, ag24, ptrV, ho, map2, List.getD_cons_succ, List.getD_cons_zero]; refine Z _ _ ?_; clear Z Y)
  refine S.nil ?_
  simp only [ze, reduceIte, Nat.reduceEqDiff, Nat.reduceLeDiff, Nat.reduceAdd, ptrV, ho, map2, List.getD_cons_succ, List.getD_cons_zero]
  apply_assumption
  refine AW.ret ?_
  simp only [zs, reduceIte, Nat.reduceEqDiff, Nat.reduceLeDiff, Nat.reduceAdd]
 ·refine AW.seq_k fun K5 h5 => ?_
  refine AW.reg0 ?_
  iterate 6 (refine S.g rfl rfl fun Y Z => ?_; simp only [zz, reduceIte, Nat.reduceEqDiff, Nat.reduceLeDiff, Nat.reduceAdd, of53_0, ok31, sz31, ag31, sl31, el31, ok24, sz24, ag24, ptrV, ho, hk, map2, List.getD_cons_succ, List.getD_cons_zero, List.length_map]; refine Z _ _ ?_; clear Z Y)
  refine S.nil ?_
  simp only [ze, reduceIte, Nat.reduceEqDiff, Nat.reduceLeDiff, Nat.reduceAdd, ptrV, ho, hk, map2, List.getD_cons_succ, List.getD_cons_zero, List.length_map]
  apply_assumption
  refine AW.ret ?_
  simp only [zs, reduceIte, Nat.reduceEqDiff, Nat.reduceLeDiff, Nat.reduceAdd]
/-- What a search finds. -/
def Found (rows : List (List Bd)) (x : List Bd) (v : V) : Prop := ∃ (i : Nat) (b : Bool), v = .tup [.c (.int .i64 (i : Nat)), .c (.bool b)] ∧ i ≤ rows.length ∧ AtL rows x i ∧ (b = true ↔ ∃ y, rows[i]? = some y ∧ cmpL y x = 0)
theorem encP_gd {rows : List (List Bd)} {i : Nat} {y : List Bd} (h : rows[i]? = some y) : (rows.map encP).getD i [] = [.sl (y.map encBd)] := by simp [List.getD, h, encP]
set_option maxHeartbeats 1000000 in
theorem search_spec (rows : List (List Bd)) (x : List Bd) (hs : SrtL rows) (hr : rows.length < 140737488355329) (hl : ∀ y ∈ rows, y.length < 4611686018427387904) :
  PCalls Tryz.prog 34 [.sl (rows.map encP), .agg [.sl (x.map encBd)], .fn (.func 35) [] []] (Found rows x) := by
 refine PCalls.intro Tryz.call34 Tryz.func34 rfl Tryz.ntmps34 Tryz.results34 (by simp) ?_
 refine AW.seq_k fun K1 h1 => ?_
 refine AW.reg0 ?_
 iterate 3 (refine S.g rfl rfl fun Y Z => ?_; simp only [zz, reduceIte, Nat.reduceEqDiff, Nat.reduceLT, Nat.reduceLeDiff, Nat.reduceAdd, reduceCtorEq, Nat.reduceMul, ok24, sz24, ag24]; refine Z _ _ ?_; clear Z Y)
 refine S.nil ?_
 simp only [ze, reduceIte, Nat.reduceEqDiff, Nat.reduceLT, Nat.reduceLeDiff, Nat.reduceAdd, reduceCtorEq, Nat.reduceMul]
 apply_assumption
 refine AW.seq_k fun K2 h2 => ?_
 refine AW.reg0 ?_
 iterate 3 (refine S.g rfl rfl fun Y Z => ?_; simp only [zz, reduceIte, Nat.reduceEqDiff, Nat.reduceLT, Nat.reduceLeDiff, Nat.reduceAdd, reduceCtorEq, Nat.reduceMul, sl31, el31, ok24, sz24, ag24, List.length_map]; refine Z _ _ ?_; clear Z Y)
 refine S.nil ?_
 simp only [ze, reduceIte, Nat.reduceEqDiff, Nat.reduceLT, Nat.reduceLeDiff, Nat.reduceAdd, reduceCtorEq, Nat.reduceMul, List.length_map]
 apply_assumption
 refine AW.seq_k fun K3 h3 => ?_
 refine AW.reg0 ?_
 iterate 3 (refine S.g rfl rfl fun Y Z => ?_; simp only [zz, reduceIte, Nat.reduceEqDiff, Nat.reduceAdd]; refine Z _ _ ?_; clear Z Y)
 refine S.nil ?_
 simp only [ze, reduceIte, Nat.reduceEqDiff, Nat.reduceLT, Nat.reduceLeDiff, Nat.reduceAdd, reduceCtorEq, Nat.reduceMul]
 apply_assumption
 refine AW.seq_j (fun s σ => σ = Hp.empty ∧ s.t 4 = .lp 4 0 ∧ s.l 4 = some [.sl (x.map encBd)] ∧ s.t 0 = .sl (rows.map encP) ∧ s.t 2 = .fn (.func 35) [] [] ∧ s.t 8 = .c (.int .i64 (rows.length : Nat)) ∧ ∃ i : Nat, s.t 9 = .c (.int .i64 (i : Nat)) ∧ i ≤ rows.length ∧ AtL rows x i) ?_ ?_
 ·refine AW.block ?_   -- 0
  refine AW.loop (fun m s σ => σ = Hp.empty ∧ s.t 4 = .lp 4 0 ∧ s.l 4 = some [.sl (x.map encBd)] ∧ s.t 0 = .sl (rows.map encP) ∧ s.t 2 = .fn (.func 35) [] [] ∧ s.t 8 = .c (.int .i64 (rows.length : Nat)) ∧ ∃ lo hi : Nat, m = hi - lo ∧ s.t 9 = .c (.int .i64 (lo : Nat)) ∧ s.t 10 = .c (.int .i64 (hi : Nat)) ∧ lo ≤ hi ∧ hi ≤ rows.length ∧ (∀ j y, rows[j]? = some y → j < lo → cmpL y x < 0) ∧ (∀ j y, rows[j]? = some y → hi ≤ j → 0 ≤ cmpL y x)) rows.length ?_ ?_
  ·simp only [zs, reduceIte, Nat.reduceEqDiff, Nat.reduceLT, Nat.reduceLeDiff, Nat.reduceAdd, reduceCtorEq, Nat.reduceMul]
   refine ⟨0, rows.length, by omega, rfl, rfl, Nat.zero_le _, Nat.le_refl _, fun j y _ h => by omega, fun j y hy h => ?_⟩
   have := (List.getElem?_eq_some_iff.1 hy).1
   omega
  rintro m s σ ⟨rfl, e4, l4, e0, e2, e8, lo, hi, hm, e9, e10, hlh, hhr, hlo, hhi⟩
  refine AW.seq_k fun K4 h4 => ?_
  refine AW.seq_k fun K5 h5 => ?_
  refine AW.reg0 ?_
  iterate 3 (refine S.g rfl rfl fun Y Z => ?_; simp only [zz, reduceIte, Nat.reduceEqDiff, Nat.reduceAdd, e9, e10]; refine Z _ _ ?_; clear Z Y)
  refine S.nil ?_
  simp only [ze, reduceIte, Nat.reduceEqDiff, Nat.reduceLT, Nat.reduceLeDiff, Nat.reduceAdd, reduceCtorEq, Nat.reduceMul, e9, e10]
  apply_assumption
  refine AW.cond (b := decide (lo < hi)) (by simp [ev]) (fun hc => ?_) (fun hc => ?_)
  ·have hc := of_decide_eq_true hc
   refine AW.skip ?_
   simp only [zs, reduceIte, Nat.reduceEqDiff, Nat.reduceLT, Nat.reduceLeDiff, Nat.reduceAdd, reduceCtorEq, Nat.reduceMul]
   apply_assumption
   have hw1 : IntKind.i64.wrap ((lo : Int) + (hi : Int)) = ((lo + hi : Nat) : Int) := by rw [wrap_small _ (by omega) (by omega)]; rfl
   have hw2 : IntKind.u64.wrap ((lo + hi : Nat) : Int) = ((lo + hi : Nat) : Int) := wrap_u64 (by omega)
   have hsh := shr64 (lo + hi) 1 (by omega)
   have hw2b : IntKind.u64.wrap (((lo + hi) / 2 ^ 1 : Nat) : Int) = (((lo + hi) / 2 ^ 1 : Nat) : Int) := wrap_u64 (by omega)
   have hw3 : IntKind.i64.wrap (((lo + hi) / 2 ^ 1 : Nat) : Int) = (((lo + hi) / 2 ^ 1 : Nat) : Int) := wrap_small _ (by omega) (by omega)
   have hto : Int.toNat 1 = 1 := rfl
   have h01 : ((0 : Int) ≤ 1) = True := by simp
   obtain ⟨mid, hmid⟩ : ∃ mid, mid = (lo + hi) / 2 ^ 1 := ⟨_, rfl⟩
   rw [← hmid] at hsh hw2b hw3
   have hml : lo ≤ mid := by omega
   have hmh : mid < hi := by omega
   have hmr : mid < rows.length := by omega
   refine AW.block ?_   -- 1
   refine AW.seq_k fun K6 h6 => ?_
   refine AW.reg0 ?_
   iterate 7 (refine S.g rfl rfl fun Y Z => ?_; simp only [zz, reduceIte, Nat.reduceEqDiff, Nat.reduceAdd, cv3_98, cv98_3, e9, e10, hw1, hw2, hto, hsh, hw2b, hw3, h01, true_and]; refine Z _ _ ?_; clear Z Y)
   refine S.nil ?_
   simp only [ze, reduceIte, Nat.reduceEqDiff, Nat.reduceLT, Nat.reduceLeDiff, Nat.reduceAdd, reduceCtorEq, Nat.reduceMul, e9, e10, hw1, hw2, hto, hsh, hw2b, hw3, h01, true_and]
   apply_assumption
   obtain ⟨y, hy⟩ : ∃ y, rows[mid]? = some y := ⟨_, List.getElem?_eq_getElem hmr⟩
   have hyl := hl y (List.mem_of_getElem? hy)
   have hye := encP_gd hy
   have hw4 : IntKind.i64.wrap ((mid : Int) + 1) = ((mid + 1 : Nat) : Int) := by rw [wrap_small _ (by omega) (by omega)]; rfl
   refine AW.seq_k fun K7 h7 => ?_
   refine AW.draw (T := { sd := fun d => d == 4 }) (fun _ _ h => by cases h) mixedO [(0, 0), (1, 0), (2, 0), (3, 0), (4, 1), (5, 1), (6, 2), (7, 0)] rfl (by kernel_rfl) (by kernel_rfl) ?_
   iterate 4 (refine D.g rfl trivial rfl rfl fun Y Z => ?_; simp only [zz, reduceIte, Nat.reduceEqDiff, Nat.reduceLT, Nat.reduceLeDiff, Nat.reduceAdd, reduceCtorEq, Nat.reduceMul, sl31, el31, ok24, sz24, ag24, e0, e2, e4, l4, List.length_map, hmr, hye]; refine Z _ _ ?_; clear Z Y)
   iterate 2 (refine D.g rfl (by first | rfl | (simp only [stC, ze, reduceIte, Nat.reduceEqDiff, e0, e2, e4, l4, List.length_map, hmr, hye]; done) | (simp only [stC, ze, reduceIte, Nat.reduceEqDiff, e0, e2, e4, l4, List.length_map, hmr, hye]; rfl)) rfl rfl fun Y Z => ?_; simp only [zz, reduceIte, Nat.reduceEqDiff, Nat.reduceLT, Nat.reduceLeDiff, Nat.reduceAdd, reduceCtorEq, Nat.reduceMul, ok24, sz24, ag24, e0, e2, e4, l4, List.length_map, hmr, hye]; refine Z _ _ ?_; clear Z Y)
   (refine D.g rfl trivial rfl rfl fun Y Z => ?_; simp only [zz, reduceIte, Nat.reduceEqDiff, Nat.reduceLT, Nat.reduceLeDiff, Nat.reduceAdd, reduceCtorEq, Nat.reduceMul, e0, e2, e4, l4, List.length_map, hmr, hye]; refine PCalls.eqto (compare_part y x hyl) ?_ <;> (refine Z _ _ ?_; clear Z Y))
   (refine D.g rfl trivial rfl rfl fun Y Z => ?_; simp only [zz, reduceIte, Nat.reduceEqDiff, Nat.reduceAdd, e0, e2, e4, l4, List.length_map, hmr, hye]; refine Z _ _ ?_; clear Z Y)
   refine D.nil ?_
   simp only [ze, reduceIte, Nat.reduceEqDiff, Nat.reduceLT, Nat.reduceLeDiff, Nat.reduceAdd, reduceCtorEq, Nat.reduceMul, e0, e2, e4, l4, List.length_map, hmr, hye]
   apply_assumption
   refine AW.cond (b := decide (cmpL y x < 0)) (by simp [ev]) (fun hc2 => ?_) (fun hc2 => ?_)
   ·have hc2 := of_decide_eq_true hc2
    refine AW.reg0 ?_
    iterate 3 (refine S.g rfl rfl fun Y Z => ?_; simp only [zz, reduceIte, Nat.reduceEqDiff, Nat.reduceAdd, hw4]; refine Z _ _ ?_; clear Z Y)
    refine S.nil ?_
    simp only [ze, reduceIte, Nat.reduceEqDiff, Nat.reduceLT, Nat.reduceLeDiff, Nat.reduceAdd, reduceCtorEq, Nat.reduceMul, hw4]
    refine ⟨m - 1 - (mid - lo), by omega, ?_⟩
    simp only [zs, reduceIte, Nat.reduceEqDiff, Nat.reduceLT, Nat.reduceLeDiff, Nat.reduceAdd, reduceCtorEq, Nat.reduceMul, e0, e2, e4, l4, e8]
    refine ⟨mid + 1, hi, by omega, rfl, e10, by omega, hhr, fun j z hz hj => ?_, hhi⟩
    rcases Nat.lt_or_ge j mid with h | h
    ·exact tri_L.lt_le (hs.get hz hy h) (by omega)
    ·obtain rfl : j = mid := by omega
     rw [hy] at hz; injection hz with hz; subst hz; exact hc2
   ·have hc2 := of_decide_eq_false hc2
    refine AW.reg0 ?_
    iterate 2 (refine S.g rfl rfl fun Y Z => ?_; simp only [zz, reduceIte, Nat.reduceEqDiff, Nat.reduceAdd]; refine Z _ _ ?_; clear Z Y)
    refine S.nil ?_
    simp only [ze, reduceIte, Nat.reduceEqDiff, Nat.reduceLT, Nat.reduceLeDiff, Nat.reduceAdd, reduceCtorEq, Nat.reduceMul]
    refine ⟨mid - lo, by omega, ?_⟩
    simp only [zs, reduceIte, Nat.reduceEqDiff, Nat.reduceLT, Nat.reduceLeDiff, Nat.reduceAdd, reduceCtorEq, Nat.reduceMul, e0, e2, e4, l4, e8]
    refine ⟨lo, mid, by omega, e9, rfl, by omega, by omega, hlo, fun j z hz hj => ?_⟩
    rcases Nat.lt_or_ge mid j with h | h
    ·by_cases k : 0 ≤ cmpL z x
     ·exact k
     ·have := tri_L.lt_le (hs.get hy hz h) (by omega : cmpL z x ≤ 0)
      omega
    ·obtain rfl : j = mid := by omega
     rw [hy] at hz; injection hz with hz; subst hz; omega
  ·have hc := of_decide_eq_false hc
   refine AW.exit ?_
   simp only [zs, reduceIte, Nat.reduceEqDiff, Nat.reduceLT, Nat.reduceLeDiff, Nat.reduceAdd, reduceCtorEq, Nat.reduceMul, e0, e2, e4, l4, e8, e9]
   obtain rfl : lo = hi := by omega
   exact ⟨lo, rfl, hhr, ⟨hlo, hhi⟩⟩
 rintro s σ ⟨rfl, e4, l4, e0, e2, e8, i, e9, hi, hat⟩
 refine AW.seq_k fun K8 h8 => ?_
 by_cases hin : i < rows.length
 ·obtain ⟨y, hy⟩ : ∃ y, rows[i]? = some y := ⟨_, List.getElem?_eq_getElem hin⟩
  have hyl := hl y (List.mem_of_getElem? hy)
  have hye := encP_gd hy
  have hdt : decide ((i : Int) < (rows.length : Int)) = true := by simp; omega
  refine AW.draw (T := { sd := fun d => d == 4 }) (fun _ _ h => by cases h) mixedO [(0, 0), (1, 0), (2, 0), (3, 0), (4, 0), (5, 0), (6, 0), (7, 0), (8, 0), (9, 1), (10, 1), (11, 2), (12, 0), (13, 0), (14, 0), (15, 0)] rfl (by kernel_rfl) (by kernel_rfl) ?_
  iterate 3 (refine D.g rfl trivial rfl rfl fun Y Z => ?_; simp only [zz, reduceIte, Nat.reduceEqDiff, Nat.reduceAdd, e0, e2, e4, l4, e8, e9, hdt, List.length_map, hin, hye]; refine Z _ _ ?_; clear Z Y)
  (refine D.g rfl trivial rfl rfl fun Y Z => ?_; simp only [zz, reduceIte, Nat.reduceEqDiff, Nat.reduceLT, Nat.reduceLeDiff, Nat.reduceAdd, reduceCtorEq, Nat.reduceMul, e0, e2, e4, l4, e8, e9, hdt, List.length_map, hin, hye]; refine S.bool fun b a38 => ?_; cases b <;> (try (exfalso; first | exact Bool.noConfusion a38 | (have h := of_decide_eq_true a38; omega) | (have h := of_decide_eq_false a38; omega))) <;> (refine Z _ _ ?_; clear Z Y))
  (refine D.g rfl trivial rfl rfl fun Y Z => ?_; simp only [zz, reduceIte, Nat.reduceEqDiff, Nat.reduceAdd, e0, e2, e4, l4, e8, e9, hdt, List.length_map, hin, hye]; refine Z _ _ ?_; clear Z Y)
  iterate 4 (first | (refine D.y rfl trivial rfl rfl rfl rfl fun Y Z => ?_; simp only [zz, reduceIte, Nat.reduceEqDiff, Nat.reduceLT, Nat.reduceLeDiff, Nat.reduceAdd, reduceCtorEq, Nat.reduceMul, sl31, el31, ok24, sz24, ag24, e0, e2, e4, l4, e8, e9, hdt, List.length_map, hin, hye]; refine Z _ _ ?_; clear Z Y) | ((first | refine D.x rfl (fun h => by cases h) rfl rfl rfl rfl fun Y Z => ?_ | refine D.u rfl (fun h => by cases h) rfl rfl rfl rfl fun Y Z => ?_); simp only [ze, reduceIte, Nat.reduceEqDiff]; refine Z _ _ ?_; clear Z Y))
  iterate 2 (first | (refine D.y rfl (by first | rfl | (simp only [stC, ze, reduceIte, Nat.reduceEqDiff, e0, e2, e4, l4, e8, e9, hdt, List.length_map, hin, hye]; done) | (simp only [stC, ze, reduceIte, Nat.reduceEqDiff, e0, e2, e4, l4, e8, e9, hdt, List.length_map, hin, hye]; rfl)) rfl rfl rfl rfl fun Y Z => ?_; simp only [zz, reduceIte, Nat.reduceEqDiff, Nat.reduceLT, Nat.reduceLeDiff, Nat.reduceAdd, reduceCtorEq, Nat.reduceMul, ok24, sz24, ag24, e0, e2, e4, l4, e8, e9, hdt, List.length_map, hin, hye]; refine Z _ _ ?_; clear Z Y) | ((first | refine D.x rfl (fun _ => rfl) rfl rfl rfl rfl fun Y Z => ?_ | refine D.u rfl (fun _ => rfl) rfl rfl rfl rfl fun Y Z => ?_); simp only [ze, reduceIte, Nat.reduceEqDiff]; refine Z _ _ ?_; clear Z Y))
  (first | (refine D.y rfl trivial rfl rfl rfl rfl fun Y Z => ?_; simp only [zz, reduceIte, Nat.reduceEqDiff, Nat.reduceLT, Nat.reduceLeDiff, Nat.reduceAdd, reduceCtorEq, Nat.reduceMul, e0, e2, e4, l4, e8, e9, hdt, List.length_map, hin, hye]; refine PCalls.eqto (compare_part y x hyl) ?_ <;> (refine Z _ _ ?_; clear Z Y)) | ((first | refine D.x rfl (fun h => by cases h) rfl rfl rfl rfl fun Y Z => ?_ | refine D.u rfl (fun h => by cases h) rfl rfl rfl rfl fun Y Z => ?_); simp only [ze, reduceIte, Nat.reduceEqDiff]; refine Z _ _ ?_; clear Z Y))
  (first | (refine D.y rfl trivial rfl rfl rfl rfl fun Y Z => ?_; simp only [zz, reduceIte, Nat.reduceEqDiff, Nat.reduceAdd, e0, e2, e4, l4, e8, e9, hdt, List.length_map, hin, hye]; refine Z _ _ ?_; clear Z Y) | ((first | refine D.x rfl (fun h => by cases h) rfl rfl rfl rfl fun Y Z => ?_ | refine D.u rfl (fun h => by cases h) rfl rfl rfl rfl fun Y Z => ?_); simp only [ze, reduceIte, Nat.reduceEqDiff]; refine Z _ _ ?_; clear Z Y))
  iterate 3 (refine D.g rfl trivial rfl rfl fun Y Z => ?_; simp only [zz, reduceIte, Nat.reduceEqDiff, Nat.reduceAdd, e0, e2, e4, l4, e8, e9, hdt, List.length_map, hin, hye]; refine Z _ _ ?_; clear Z Y)
  refine D.nil ?_
  simp only [ze, reduceIte, Nat.reduceEqDiff, Nat.reduceLT, Nat.reduceLeDiff, Nat.reduceAdd, reduceCtorEq, Nat.reduceMul, e0, e2, e4, l4, e8, e9, hdt, List.length_map, hin, hye]
  apply_assumption
  refine AW.ret ?_
  simp only [zs, reduceIte, Nat.reduceEqDiff, Nat.reduceLT, Nat.reduceLeDiff, Nat.reduceAdd, reduceCtorEq, Nat.reduceMul]
  refine ⟨i, _, rfl, hi, hat, ?_⟩
  rw [beq_iff_eq]
  refine ⟨fun h => ⟨y, hy, h⟩, ?_⟩
  rintro ⟨z, hz, h⟩
  rw [hy] at hz; injection hz with hz; subst hz; exact h
 ·have hdt : decide ((i : Int) < (rows.length : Int)) = false := by simp; omega
  refine AW.draw (T := { sd := fun d => d == 4 }) (fun _ _ h => by cases h) mixedO [(0, 0), (1, 0), (2, 0), (3, 0), (4, 0), (5, 0), (6, 0), (7, 0), (8, 0), (9, 1), (10, 1), (11, 2), (12, 0), (13, 0), (14, 0), (15, 0)] rfl (by kernel_rfl) (by kernel_rfl) ?_
  iterate 3 (refine D.g rfl trivial rfl rfl fun Y Z => ?_; simp only [zz, reduceIte, Nat.reduceEqDiff, Nat.reduceAdd, e0, e2, e4, l4, e8, e9, hdt]; refine Z _ _ ?_; clear Z Y)
  (refine D.g rfl trivial rfl rfl fun Y Z => ?_; simp only [zz, reduceIte, Nat.reduceEqDiff, Nat.reduceLT, Nat.reduceLeDiff, Nat.reduceAdd, reduceCtorEq, Nat.reduceMul, e0, e2, e4, l4, e8, e9, hdt]; refine S.bool fun b a38 => ?_; cases b <;> (try (exfalso; first | exact Bool.noConfusion a38 | (have h := of_decide_eq_true a38; omega) | (have h := of_decide_eq_false a38; omega))) <;> (refine Z _ _ ?_; clear Z Y))
  (refine D.g rfl trivial rfl rfl fun Y Z => ?_; simp only [zz, reduceIte, Nat.reduceEqDiff, Nat.reduceAdd, e0, e2, e4, l4, e8, e9, hdt]; refine Z _ _ ?_; clear Z Y)
  iterate 4 (first | (refine D.y rfl trivial rfl rfl rfl rfl fun Y Z => ?_; simp only [zz, reduceIte, Nat.reduceEqDiff, Nat.reduceLT, Nat.reduceLeDiff, Nat.reduceAdd, reduceCtorEq, Nat.reduceMul, sl31, el31, ok24, sz24, ag24, e0, e2, e4, l4, e8, e9, hdt]; refine Z _ _ ?_; clear Z Y) | ((first | refine D.x rfl (fun h => by cases h) rfl rfl rfl rfl fun Y Z => ?_ | refine D.u rfl (fun h => by cases h) rfl rfl rfl rfl fun Y Z => ?_); simp only [ze, reduceIte, Nat.reduceEqDiff]; refine Z _ _ ?_; clear Z Y))
  iterate 2 (first | (refine D.y rfl (by first | rfl | (simp only [stC, ze, reduceIte, Nat.reduceEqDiff, e0, e2, e4, l4, e8, e9, hdt]; done) | (simp only [stC, ze, reduceIte, Nat.reduceEqDiff, e0, e2, e4, l4, e8, e9, hdt]; rfl)) rfl rfl rfl rfl fun Y Z => ?_; simp only [zz, reduceIte, Nat.reduceEqDiff, Nat.reduceLT, Nat.reduceLeDiff, Nat.reduceAdd, reduceCtorEq, Nat.reduceMul, ok24, sz24, ag24, e0, e2, e4, l4, e8, e9, hdt]; refine Z _ _ ?_; clear Z Y) | ((first | refine D.x rfl (fun _ => rfl) rfl rfl rfl rfl fun Y Z => ?_ | refine D.u rfl (fun _ => rfl) rfl rfl rfl rfl fun Y Z => ?_); simp only [ze, reduceIte, Nat.reduceEqDiff]; refine Z _ _ ?_; clear Z Y))
  (first | (refine D.y rfl trivial rfl rfl rfl rfl fun Y Z => ?_; simp only [zz, reduceIte, Nat.reduceEqDiff, Nat.reduceLT, Nat.reduceLeDiff, Nat.reduceAdd, reduceCtorEq, Nat.reduceMul, e0, e2, e4, l4, e8, e9, hdt]; refine PCalls.eqto (compare_part y x hyl) ?_ <;> (refine Z _ _ ?_; clear Z Y)) | ((first | refine D.x rfl (fun h => by cases h) rfl rfl rfl rfl fun Y Z => ?_ | refine D.u rfl (fun h => by cases h) rfl rfl rfl rfl fun Y Z => ?_); simp only [ze, reduceIte, Nat.reduceEqDiff]; refine Z _ _ ?_; clear Z Y))
  (first | (refine D.y rfl trivial rfl rfl rfl rfl fun Y Z => ?_; simp only [zz, reduceIte, Nat.reduceEqDiff, Nat.reduceAdd, e0, e2, e4, l4, e8, e9, hdt]; refine Z _ _ ?_; clear Z Y) | ((first | refine D.x rfl (fun h => by cases h) rfl rfl rfl rfl fun Y Z => ?_ | refine D.u rfl (fun h => by cases h) rfl rfl rfl rfl fun Y Z => ?_); simp only [ze, reduceIte, Nat.reduceEqDiff]; refine Z _ _ ?_; clear Z Y))
  iterate 3 (refine D.g rfl trivial rfl rfl fun Y Z => ?_; simp only [zz, reduceIte, Nat.reduceEqDiff, Nat.reduceAdd, e0, e2, e4, l4, e8, e9, hdt]; refine Z _ _ ?_; clear Z Y)
  refine D.nil ?_
  simp only [ze, reduceIte, Nat.reduceEqDiff, Nat.reduceLT, Nat.reduceLeDiff, Nat.reduceAdd, reduceCtorEq, Nat.reduceMul, e0, e2, e4, l4, e8, e9, hdt]
  apply_assumption
  refine AW.ret ?_
  simp only [zs, reduceIte, Nat.reduceEqDiff, Nat.reduceLT, Nat.reduceLeDiff, Nat.reduceAdd, reduceCtorEq, Nat.reduceMul]
  refine ⟨i, false, rfl, hi, hat, ?_⟩
  simp only [Bool.false_eq_true, false_iff]
  rintro ⟨z, hz, _⟩
  exact hin (List.getElem?_eq_some_iff.1 hz).1
end Go.Abs.M
namespace Go.Abs.M
open Go Go.Abs Go.Proofs
set_option maxRecDepth 20000
set_option linter.unusedSimpArgs false
set_option linter.unusedVariables false
theorem search_set {g : Nat} {rows : List (List Bd)} {σ : Hp} {lv : V} (x : List Bd) (hs : PSet g rows σ) (ho : σ.obj g = some [lv, .c (.bool true)]) (ht : SrtL rows) (hr : rows.length < 140737488355329) (hl : ∀ y ∈ rows, y.length < 4611686018427387904) :
  okV lv = true ∧ ACalls Tryz.prog 34 [wk lv, .agg [.sl (x.map encBd)], .fn (.func 35) [] []] σ (fun v σ' => Found rows x v ∧ σ' = σ) := by
 have h := search_spec rows x ht hr hl
 rcases hs with ⟨rfl, h1⟩ | ⟨k, h1, hk⟩
 ·rw [ho] at h1
  injection h1 with h1; injection h1 with h1 _; subst h1
  exact ⟨rfl, h.to fun v hv => ⟨hv, rfl⟩⟩
 ·rw [ho] at h1
  injection h1 with h1; injection h1 with h1 _; subst h1
  refine ⟨rfl, (PCalls.lendT (R := Found rows x) (σ := σ) (k := k) (T := (24, 1)) (es := rows.map encP) (args := [.gl k, .agg [.sl (x.map encBd)], .fn (.func 35) [] []]) ?_ hk ?_).mono fun v σ' hv => ⟨hv.2, hv.1⟩⟩
  ·have e : [V.gl k, .agg [.sl (x.map encBd)], .fn (.func 35) [] []].map (fzV k (rows.map encP)) = [.sl (rows.map encP), .agg [.sl (x.map encBd)], .fn (.func 35) [] []] := by simp [fzV, fz1]
   rw [e]; exact h
  ·rintro v ⟨i, b, rfl, _⟩
   exact ⟨_, _, rfl⟩
end Go.Abs.M
namespace Go.Abs.M
open Go Go.Abs Go.Proofs
set_option maxRecDepth 20000
set_option linter.unusedSimpArgs false
set_option linter.unusedVariables false
/-- What else there is stays. -/
structure PFr (g : Nat) (σ σ' : Hp) : Prop where
  obj : ∀ x, x ≠ g → σ'.obj x = σ.obj x
  gr : ∀ k x, σ.gr k = some x → stN g σ ≠ some k → σ'.gr k = some x ∧ stN g σ' ≠ some k
theorem PFr.refl (g : Nat) (σ : Hp) : PFr g σ σ := ⟨fun _ _ => rfl, fun _ _ h k => ⟨h, k⟩⟩
theorem PFr.trans {g : Nat} {a b c : Hp} (h : PFr g a b) (k : PFr g b c) : PFr g a c :=
 ⟨fun x hx => (k.obj x hx).trans (h.obj x hx), fun n x hx hn => by
  obtain ⟨h1, h2⟩ := h.gr n x hx hn
  exact k.gr n x h1 h2⟩
theorem delO_obj (σ : Hp) (ok : Option Nat) : (σ.delO ok).obj = σ.obj := by cases ok <;> rfl
/-- A row put into a set's list. -/
theorem insert_set {σ : Hp} {lv : V} {ok : Option Nat} {rows : List (List Bd)} {x : List Bd} {i k3 : Nat} (hd : dstE σ 24 1 lv = some (ok, rows.map encP)) (hf : σ.gr k3 = none) (hi : i ≤ rows.length) (hn : (rows.length + 1) * 24 ≤ 140737488355328) :
    ACalls Tryz.prog 36 [lv, .c (.int .i64 (i : Nat)), .gl k3] (σ.setGr k3 (some ((24, 1), [[.sl (x.map encBd)]]))) (fun v σ' => ∃ k', v = .gl k' ∧ σ'.obj = σ.obj ∧ σ'.gr k' = some ((24, 1), (rows.take i ++ x :: rows.drop i).map encP) ∧
      ∀ k y, σ.gr k = some y → ok ≠ some k → σ'.gr k = some y ∧ k' ≠ k) := by
  have hok : ok ≠ some k3 := fun e => by
    subst e
    unfold dstE at hd
    split at hd
    · cases hd
    · split at hd
      · rename_i hg
        split at hd
        · injection hd with hd; injection hd with hd _; injection hd with hd; subst hd; rw [hf] at hg; cases hg
        · cases hd
      · cases hd
    · cases hd
  have hd' : dstE (σ.setGr k3 (some ((24, 1), [[.sl (x.map encBd)]]))) 24 1 lv = some (ok, rows.map encP) := by
    rw [← hd]
    unfold dstE
    split
    · rfl
    · rename_i k
      by_cases e : k = k3
      · subst e
        unfold dstE at hd
        simp only [hf] at hd
        cases hd
      · simp [Hp.setGr, e]
    · rfl
  refine (insert_at hd' (k3 := k3) (x := .sl (x.map encBd)) (by simp [Hp.setGr]) hok (by simpa using hi) (by simpa using hn)).mono fun v σ' ⟨k', e1, e2, e3⟩ => ⟨k', e1, ?_, ?_, fun k y hk hko => ?_⟩
  · rw [e3, Hp.setGr, delO_obj]; rfl
  · rw [e3]
    simp [Hp.setGr, encP]
  · have h1 : ((σ.setGr k3 (some ((24, 1), [[.sl (x.map encBd)]]))).delO ok).gr k = some y := by
      have hk3 : k ≠ k3 := fun e => by rw [e, hf] at hk; cases hk
      cases ok with
      | none => simp [Hp.delO, Hp.setGr, hk3, hk]
      | some j =>
        have : k ≠ j := fun e => hko (by rw [e])
        simp [Hp.delO, Hp.setGr, hk3, hk, this]
    have hne : k ≠ k' := fun e => by rw [e, e2] at h1; cases h1
    refine ⟨?_, fun e => hne e.symm⟩
    rw [e3]
    simp [Hp.setGr, hne]
    exact h1
theorem PSet.dst {g : Nat} {rows : List (List Bd)} {σ : Hp} (h : PSet g rows σ) : ∃ lv, σ.obj g = some [lv, .c (.bool true)] ∧ okV lv = true ∧ dstE σ 24 1 lv = some (stN g σ, rows.map encP) := by
 rcases h with ⟨rfl, h⟩ | ⟨k, h, hk⟩
 ·exact ⟨_, h, rfl, by simp [dstE, stN, h]⟩
 ·exact ⟨_, h, rfl, by simp [dstE, stN, h, hk]⟩
theorem PSet.put {g : Nat} {rows rows' : List (List Bd)} {σ σ' : Hp} {b : V} {k' : Nat} (ho : σ'.obj = σ.obj) (hk : σ'.gr k' = some ((24, 1), rows'.map encP)) (hf : ∀ k y, σ.gr k = some y → stN g σ ≠ some k → σ'.gr k = some y ∧ k' ≠ k) :
  PSet g rows' (σ'.setObj g (some [.gl k', .c (.bool true)])) ∧ PFr g σ (σ'.setObj g (some [.gl k', .c (.bool true)])) := by
 refine ⟨.inr ⟨k', by simp, by simpa using hk⟩, ⟨fun x hx => by simp [hx, ho], fun k x h1 h2 => ?_⟩⟩
 obtain ⟨h3, h4⟩ := hf k x h1 h2
 refine ⟨by simpa using h3, ?_⟩
 simp only [stN, Hp.setObj_obj, if_true]
 exact fun e => h4 (by injection e)
end Go.Abs.M
namespace Go.Abs.M
open Go Go.Abs Go.Proofs
set_option maxRecDepth 20000
set_option linter.unusedSimpArgs false
set_option linter.unusedVariables false
def freshL (rows : List (List Bd)) (x : List Bd) : Bool := decide (partErr x = 0) && !hasL rows x
theorem neq0 (n : Int) : (n != 0) = !decide (n = 0) := by
 by_cases h : n = 0
 ·simp [h]
 ·simp [h]
set_option maxHeartbeats 2000000 in
theorem add_spec (g : Nat) (rows : List (List Bd)) (x : List Bd) (σ : Hp) (hs : PSet g rows σ) (ht : SrtL rows) (hn : (rows.length + 1) * 24 ≤ 140737488355328) (hl : ∀ y ∈ rows, y.length < 4611686018427387904) (hx : okI x) :
  ACalls Tryz.prog 13 [ptrV g, .agg [.sl (x.map encBd)]] σ (fun v σ' => v = .c (.bool (freshL rows x)) ∧ PSet g (addL rows x) σ' ∧ PFr g σ σ') := by
 refine ACalls.intro Tryz.call13 Tryz.func13 rfl Tryz.ntmps13 Tryz.results13 (by simp) ?_
 obtain ⟨lv, ho, hlv, hd⟩ := hs.dst
 have hns := none_spec g _ σ ho
 have hsr := search_set x hs ho ht (by omega) hl
 refine AW.seq_k fun K1 h1 => ?_
 all_goals refine AW.reg0 ?_
 all_goals iterate 2 (refine S.g rfl rfl fun Y Z => ?_; simp only [zz, reduceIte, Nat.reduceEqDiff, Nat.reduceLT, Nat.reduceLeDiff, Nat.reduceAdd, reduceCtorEq, Nat.reduceMul, ok24, sz24, ag24]; refine Z _ _ ?_; clear Z Y)
 all_goals refine S.nil ?_
 all_goals simp only [ze, reduceIte, Nat.reduceEqDiff, Nat.reduceLT, Nat.reduceLeDiff, Nat.reduceAdd, reduceCtorEq, Nat.reduceMul]
 all_goals apply_assumption
 refine AW.seq_k fun K2 h2 => ?_
 refine AW.seq_k fun K3 h3 => ?_
 all_goals refine AW.reg0 ?_
 all_goals (refine S.g rfl rfl fun Y Z => ?_; simp only [zz, reduceIte, Nat.reduceEqDiff, Nat.reduceAdd, ptrV, neq0]; refine Z _ _ ?_; clear Z Y)
 all_goals (refine S.g rfl rfl fun Y Z => ?_; simp only [zz, reduceIte, Nat.reduceEqDiff, Nat.reduceLT, Nat.reduceLeDiff, Nat.reduceAdd, reduceCtorEq, Nat.reduceMul, ptrV, neq0]; refine hns.to fun v σ2 hv => ?_; obtain ⟨rfl, rfl⟩ := hv; refine S.bool fun b a8 => ?_; cases b <;> (try (exfalso; first | exact Bool.noConfusion a8 | (have h := of_decide_eq_true a8; omega) | (have h := of_decide_eq_false a8; omega))) <;> (refine Z _ _ ?_; clear Z Y))
 all_goals (refine S.g rfl rfl fun Y Z => ?_; simp only [zz, reduceIte, Nat.reduceEqDiff, Nat.reduceAdd, ptrV, neq0]; refine Z _ _ ?_; clear Z Y)
 all_goals (first | (refine S.y rfl rfl rfl rfl fun Y Z => ?_; simp only [zz, reduceIte, Nat.reduceEqDiff, Nat.reduceLT, Nat.reduceLeDiff, Nat.reduceAdd, reduceCtorEq, Nat.reduceMul, ok24, sz24, ag24, ptrV, neq0]; refine Z _ _ ?_; clear Z Y) | ((first | refine S.x rfl rfl rfl rfl fun Y Z => ?_ | refine S.u rfl rfl rfl rfl fun Y Z => ?_); simp only [ze, reduceIte, Nat.reduceEqDiff]; refine Z _ _ ?_; clear Z Y))
 all_goals (first | (refine S.y rfl rfl rfl rfl fun Y Z => ?_; simp only [zz, reduceIte, Nat.reduceEqDiff, Nat.reduceLT, Nat.reduceLeDiff, Nat.reduceAdd, reduceCtorEq, Nat.reduceMul, ptrV, neq0]; refine PCalls.eqto (check_part x hx.ok) ?_ <;> (refine Z _ _ ?_; clear Z Y)) | ((first | refine S.x rfl rfl rfl rfl fun Y Z => ?_ | refine S.u rfl rfl rfl rfl fun Y Z => ?_); simp only [ze, reduceIte, Nat.reduceEqDiff]; refine Z _ _ ?_; clear Z Y))
 all_goals (first | (refine S.y rfl rfl rfl rfl fun Y Z => ?_; simp only [zz, reduceIte, Nat.reduceEqDiff, Nat.reduceAdd, ptrV, neq0]; refine Z _ _ ?_; clear Z Y) | ((first | refine S.x rfl rfl rfl rfl fun Y Z => ?_ | refine S.u rfl rfl rfl rfl fun Y Z => ?_); simp only [ze, reduceIte, Nat.reduceEqDiff]; refine Z _ _ ?_; clear Z Y))
 all_goals (refine S.g rfl rfl fun Y Z => ?_; simp only [zz, reduceIte, Nat.reduceEqDiff, Nat.reduceAdd, ptrV, neq0]; refine Z _ _ ?_; clear Z Y)
 all_goals refine S.nil ?_
 all_goals simp only [ze, reduceIte, Nat.reduceEqDiff, Nat.reduceLT, Nat.reduceLeDiff, Nat.reduceAdd, reduceCtorEq, Nat.reduceMul, ptrV, neq0]
 all_goals apply_assumption
 refine AW.cond (b := !decide (partErr x = 0)) (by simp [ev]) (fun hc => ?_) (fun hc => ?_)
 ·have hc : ¬ partErr x = 0 := by simpa using hc
  refine AW.seq_k fun K4 h4 => ?_
  all_goals refine AW.reg0 ?_
  all_goals (refine S.g rfl rfl fun Y Z => ?_; simp only [zz, reduceIte, Nat.reduceEqDiff, Nat.reduceAdd]; refine Z _ _ ?_; clear Z Y)
  all_goals refine S.nil ?_
  all_goals simp only [ze, reduceIte, Nat.reduceEqDiff, Nat.reduceLT, Nat.reduceLeDiff, Nat.reduceAdd, reduceCtorEq, Nat.reduceMul]
  all_goals apply_assumption
  refine AW.ret ?_
  all_goals simp only [zs, reduceIte, Nat.reduceEqDiff, Nat.reduceLT, Nat.reduceLeDiff, Nat.reduceAdd, reduceCtorEq, Nat.reduceMul]
  refine ⟨by simp [freshL, hc], ?_, .refl _ _⟩
  rw [addL, if_neg (fun h => hc h.1)]
  exact hs
 have hc : partErr x = 0 := by simpa using hc
 refine AW.skip ?_
 all_goals simp only [zs, reduceIte, Nat.reduceEqDiff, Nat.reduceLT, Nat.reduceLeDiff, Nat.reduceAdd, reduceCtorEq, Nat.reduceMul]
 all_goals apply_assumption
 refine AW.seq_k fun K5 h5 => ?_
 all_goals refine AW.drawF (T := { sd := fun d => d == 3 }) (fun _ _ h => by cases h) mixedO (.st 0 0 (.st 1 0 (.st 2 0 (.st 4 1 (.st 3 2 (.st 5 2 (.st 6 0 (.st 7 0 (.st 8 0 (.st 9 0 (.st 10 0 .nil))))))))))) rfl (by kernel_rfl) (by kernel_rfl) ?_
 all_goals iterate 3 (refine F.g rfl trivial rfl rfl fun Y Z => ?_; simp only [zz, reduceIte, Nat.reduceEqDiff, Nat.reduceLT, Nat.reduceLeDiff, Nat.reduceAdd, reduceCtorEq, Nat.reduceMul, of53_0, ptrV, ho, map2, List.getD_cons_zero]; refine Z _ _ ?_; clear Z Y)
 all_goals (refine F.g rfl (by first | rfl | (simp only [stC, ze, reduceIte, Nat.reduceEqDiff, ptrV, ho, map2, List.getD_cons_zero]; done) | (simp only [stC, ze, reduceIte, Nat.reduceEqDiff, ptrV, ho, map2, List.getD_cons_zero]; rfl)) rfl rfl fun Y Z => ?_; simp only [zz, reduceIte, Nat.reduceEqDiff, Nat.reduceLT, Nat.reduceLeDiff, Nat.reduceAdd, reduceCtorEq, Nat.reduceMul, ok24, sz24, ag24, ptrV, ho, map2, List.getD_cons_zero]; refine Z _ _ ?_; clear Z Y)
 all_goals (refine F.g rfl trivial rfl rfl fun Y Z => ?_; simp only [zz, reduceIte, Nat.reduceEqDiff, Nat.reduceLT, Nat.reduceLeDiff, Nat.reduceAdd, reduceCtorEq, Nat.reduceMul, ok31, sz31, ag31, ptrV, ho, map2, List.getD_cons_zero]; refine Z _ _ ?_; clear Z Y)
 all_goals (refine F.g rfl trivial rfl rfl fun Y Z => ?_; simp only [zz, reduceIte, Nat.reduceEqDiff, Nat.reduceLT, Nat.reduceLeDiff, Nat.reduceAdd, reduceCtorEq, Nat.reduceMul, ptrV, ho, map2, List.getD_cons_zero]; refine ⟨hsr.1, hsr.2.to fun v σ2 hv => ?_⟩; obtain ⟨⟨i, b, rfl, hi, hat, hb⟩, rfl⟩ := hv <;> (refine Z _ _ ?_; clear Z Y))
 all_goals iterate 5 (refine F.g rfl trivial rfl rfl fun Y Z => ?_; simp only [zz, reduceIte, Nat.reduceEqDiff, Nat.reduceLT, Nat.reduceLeDiff, Nat.reduceAdd, reduceCtorEq, Nat.reduceMul, ptrV, ho, map2, List.getD_cons_zero]; refine Z _ _ ?_; clear Z Y)
 all_goals refine F.nil ?_
 all_goals simp only [ze, reduceIte, Nat.reduceEqDiff, Nat.reduceLT, Nat.reduceLeDiff, Nat.reduceAdd, reduceCtorEq, Nat.reduceMul, ptrV, ho, map2, List.getD_cons_zero]
 all_goals apply_assumption
 have hbh : b = hasL rows x := by rw [Bool.eq_iff_iff, hb, hat.has ht]
 refine AW.seq_j (fun s σ' => s.t 6 = .c (.bool b) ∧ PSet g (addL rows x) σ' ∧ PFr g σ2 σ') ?_ ?_
 ·refine AW.seq_k fun K6 h6 => ?_
  all_goals refine AW.reg0 ?_
  all_goals iterate 2 (refine S.g rfl rfl fun Y Z => ?_; simp only [zz, reduceIte, Nat.reduceEqDiff, Nat.reduceAdd]; refine Z _ _ ?_; clear Z Y)
  all_goals refine S.nil ?_
  all_goals simp only [ze, reduceIte, Nat.reduceEqDiff, Nat.reduceLT, Nat.reduceLeDiff, Nat.reduceAdd, reduceCtorEq, Nat.reduceMul]
  all_goals apply_assumption
  refine AW.cond (b := !b) (by simp [ev]) (fun hc2 => ?_) (fun hc2 => ?_)
  ·have hc2 : b = false := by simpa using hc2
   subst hc2
   have hadd : addL rows x = rows.take i ++ x :: rows.drop i := by rw [addL, if_pos ⟨hc, hbh.symm⟩, hat.ins hi]
   all_goals refine AW.drawF (T := { sd := fun d => d == 3, own := fun d => d == 33, raw := fun d => d == 36 }) (fun _ _ h => by cases h) mixedO (.st 0 0 (.st 1 0 (.st 2 0 (.st 3 0 (.st 5 0 (.st 6 1 (.fork 4 (.st 7 2 (.st 8 2 (.st 9 2 (.st 10 0 (.st 11 0 (.st 12 2 .nil)))))) 7 (.fork 4 (.st 8 2 (.st 9 2 (.st 10 0 (.st 11 0 (.st 12 2 .nil))))) 8 (.st 4 2 (.st 9 2 (.st 10 0 (.st 11 0 (.st 12 2 .nil))))))))))))) rfl (by kernel_rfl) (by kernel_rfl) ?_
   all_goals iterate 5 (refine F.g rfl trivial rfl rfl fun Y Z => ?_; simp only [zz, reduceIte, Nat.reduceEqDiff, Nat.reduceLT, Nat.reduceLeDiff, Nat.reduceAdd, reduceCtorEq, Nat.reduceMul, of53_0, ptrV, ho, map2, List.getD_cons_zero]; refine Z _ _ ?_; clear Z Y)
   all_goals (refine F.g rfl (by first | rfl | (simp only [stC, ze, reduceIte, Nat.reduceEqDiff, ptrV, ho, map2, List.getD_cons_zero]; done) | (simp only [stC, ze, reduceIte, Nat.reduceEqDiff, ptrV, ho, map2, List.getD_cons_zero]; rfl)) rfl rfl fun Y Z => ?_; simp only [zz, reduceIte, Nat.reduceEqDiff, Nat.reduceLT, Nat.reduceLeDiff, Nat.reduceAdd, reduceCtorEq, Nat.reduceMul, ok24, sz24, ag24, ptrV, ho, map2, List.getD_cons_zero]; refine Z _ _ ?_; clear Z Y)
   all_goals (try first | refine F.fork ?_ ?_ | refine F.fork3 ?_ ?_ ?_)
   all_goals first | (refine F.g rfl trivial rfl rfl fun Y Z => ?_; simp only [zz, reduceIte, Nat.reduceEqDiff, Nat.reduceLT, Nat.reduceLeDiff, Nat.reduceAdd, reduceCtorEq, Nat.reduceMul, ptrV, ho, map2, List.getD_cons_zero]; refine PCalls.eqto (clone_part x hx.attrs hx.len) ?_ <;> (refine Z _ _ ?_; clear Z Y)) | (refine F.g rfl trivial rfl rfl fun Y Z => ?_; simp only [zz, reduceIte, Nat.reduceEqDiff, Nat.reduceLT, Nat.reduceLeDiff, Nat.reduceAdd, reduceCtorEq, Nat.reduceMul, ok31, sz31, ag31, ptrV, ho, map2, List.getD_cons_zero]; refine Z _ _ ?_; clear Z Y)
   all_goals (try first | refine F.fork ?_ ?_ | refine F.fork3 ?_ ?_ ?_)
   all_goals first | (refine F.g rfl trivial rfl rfl fun Y Z => ?_; simp only [zz, reduceIte, Nat.reduceEqDiff, Nat.reduceLT, Nat.reduceLeDiff, Nat.reduceAdd, reduceCtorEq, Nat.reduceMul, ptrV, ho, map2, List.getD_cons_zero]; refine PCalls.eqto (clone_part x hx.attrs hx.len) ?_ <;> (refine Z _ _ ?_; clear Z Y)) | (refine F.g rfl trivial rfl rfl fun Y Z => ?_; simp only [zb, reduceIte, Nat.reduceEqDiff, Nat.reduceLT, Nat.reduceLeDiff, Nat.reduceAdd, reduceCtorEq, Nat.reduceMul, sl31, el31, ok24, sz24, ag24, zt24, by24, ptrV, ho, map2, List.getD_cons_zero]; intro k3 hk3 <;> (refine Z _ _ ?_; clear Z Y)) | (refine F.g rfl trivial rfl rfl fun Y Z => ?_; simp only [zz, reduceIte, Nat.reduceEqDiff, Nat.reduceLT, Nat.reduceLeDiff, Nat.reduceAdd, reduceCtorEq, Nat.reduceMul, ok31, sz31, ag31, ptrV, ho, map2, List.getD_cons_zero]; refine Z _ _ ?_; clear Z Y)
   all_goals first | (refine F.g rfl trivial rfl rfl fun Y Z => ?_; simp only [zb, reduceIte, Nat.reduceEqDiff, Nat.reduceLT, Nat.reduceLeDiff, Nat.reduceAdd, reduceCtorEq, Nat.reduceMul, sl31, el31, ok24, sz24, ag24, zt24, by24, ptrV, ho, map2, List.getD_cons_zero]; intro k3 hk3 <;> (refine Z _ _ ?_; clear Z Y)) | (refine F.g rfl trivial rfl rfl fun Y Z => ?_; simp only [zz, reduceIte, Nat.reduceEqDiff, Nat.reduceLT, Nat.reduceLeDiff, Nat.reduceAdd, reduceCtorEq, Nat.reduceMul, ok31, sz31, ag31, ptrV, ho, map2, List.getD_cons_zero]; refine Z _ _ ?_; clear Z Y)
   all_goals (refine F.g rfl trivial rfl rfl fun Y Z => ?_; simp only [zz, reduceIte, Nat.reduceEqDiff, Nat.reduceLT, Nat.reduceLeDiff, Nat.reduceAdd, reduceCtorEq, Nat.reduceMul, ptrV, ho, map2, List.getD_cons_zero]; refine ⟨by (first | exact hlv | (simp only [List.all_cons, List.all_nil, hlv]; rfl)), (insert_set hd hk3 hi hn).to fun v σ3 hv => ?_⟩; obtain ⟨kn, rfl, hob, hgr, hfr⟩ := hv; have ho3 := (congrFun hob g).trans ho <;> (refine Z _ _ ?_; clear Z Y))
   all_goals iterate 2 (refine F.g rfl trivial rfl rfl fun Y Z => ?_; simp only [zz, reduceIte, Nat.reduceEqDiff, Nat.reduceLT, Nat.reduceLeDiff, Nat.reduceAdd, reduceCtorEq, Nat.reduceMul, of53_0, ptrV, ho, map2, List.getD_cons_zero]; refine Z _ _ ?_; clear Z Y)
   all_goals (refine F.g rfl trivial rfl rfl fun Y Z => ?_; simp only [zz, reduceIte, Nat.reduceEqDiff, Nat.reduceLT, Nat.reduceLeDiff, Nat.reduceAdd, reduceCtorEq, Nat.reduceMul, ok31, sz31, ag31, ptrV, ho, map2, List.getD_cons_zero, ho3, List.length_cons, List.length_nil, true_and] <;> (refine Z _ _ ?_; clear Z Y))
   all_goals refine F.nil ?_
   all_goals simp only [ze, reduceIte, Nat.reduceEqDiff, Nat.reduceLT, Nat.reduceLeDiff, Nat.reduceAdd, reduceCtorEq, Nat.reduceMul, ptrV, ho, map2, List.getD_cons_zero]
   all_goals
    obtain ⟨p1, p2⟩ := PSet.put (g := g) (rows := rows) (rows' := addL rows x) (b := .junk) hob (by rw [hadd]; exact hgr) hfr
    exact ⟨p1, p2⟩
  ·have hc2 : b = true := by simpa using hc2
   refine AW.skip ?_
   all_goals simp only [zs, reduceIte, Nat.reduceEqDiff, Nat.reduceLT, Nat.reduceLeDiff, Nat.reduceAdd, reduceCtorEq, Nat.reduceMul]
   refine ⟨?_, .refl _ _⟩
   rw [addL, if_neg (fun h => by rw [← hbh, hc2] at h; cases h.2)]
   exact hs
 rintro s σ' ⟨e6, hps, hfr⟩
 refine AW.seq_k fun K7 h7 => ?_
 all_goals refine AW.reg0 ?_
 all_goals iterate 3 (refine S.g rfl rfl fun Y Z => ?_; simp only [zz, reduceIte, Nat.reduceEqDiff, Nat.reduceAdd, e6]; refine Z _ _ ?_; clear Z Y)
 all_goals refine S.nil ?_
 all_goals simp only [ze, reduceIte, Nat.reduceEqDiff, Nat.reduceLT, Nat.reduceLeDiff, Nat.reduceAdd, reduceCtorEq, Nat.reduceMul, e6]
 all_goals apply_assumption
 refine AW.ret ?_
 all_goals simp only [zs, reduceIte, Nat.reduceEqDiff, Nat.reduceLT, Nat.reduceLeDiff, Nat.reduceAdd, reduceCtorEq, Nat.reduceMul]
 refine ⟨?_, hps, hfr⟩
 rw [hbh]; simp [freshL, hc]
end Go.Abs.M
namespace Go.Abs.M
open Go Go.Abs Go.Proofs
set_option maxRecDepth 20000
set_option linter.unusedSimpArgs false
set_option linter.unusedVariables false
/-- The set of some rows. -/
def setL (rows : List (List Bd)) : List (List Bd) := rows.foldl addL []
theorem setL_snoc (l : List (List Bd)) (x : List Bd) : setL (l ++ [x]) = addL (setL l) x := by simp [setL]
theorem setL_take {l : List (List Bd)} {i : Nat} {x : List Bd} (h : l[i]? = some x) : setL (l.take (i + 1)) = addL (setL (l.take i)) x := by
 rw [List.take_add_one, h]
 exact setL_snoc _ _
theorem setL_ind (l : List (List Bd)) : SrtL (setL l) ∧ (setL l).length ≤ l.length ∧ ∀ y ∈ setL l, y ∈ l := by
  rw [← List.reverse_reverse l]
  induction l.reverse with
  | nil => exact ⟨.nil, Nat.le_refl _, fun y h => h⟩
  | cons x r ih =>
    obtain ⟨h1, h2, h3⟩ := ih
    rw [List.reverse_cons, setL_snoc]
    refine ⟨addL_srt h1, ?_, fun y hy => ?_⟩
    · have := addL_len (setL r.reverse) x
      rw [List.length_append, List.length_singleton]; omega
    · rcases addL_mem hy with rfl | h
      · simp
      · exact List.mem_append_left _ (h3 y h)
theorem PSet.frame {g : Nat} {rows : List (List Bd)} {σ σ' : Hp} (h : PSet g rows σ) (ho : σ'.obj g = σ.obj g) (hg : ∀ k, stN g σ = some k → σ'.gr k = σ.gr k) : PSet g rows σ' := by
 rcases h with ⟨e, h⟩ | ⟨k, h, hk⟩
 ·exact .inl ⟨e, ho.trans h⟩
 ·exact .inr ⟨k, ho.trans h, (hg k (by simp [stN, h])).trans hk⟩
/-- What a new set leaves. -/
structure NewS (g : Nat) (rows : List (List Bd)) (σ σ' : Hp) : Prop where
  new : σ.obj g = none
  set : PSet g rows σ'
  obj : ∀ x, x ≠ g → σ'.obj x = σ.obj x
  gr : ∀ k x, σ.gr k = some x → σ'.gr k = some x ∧ stN g σ' ≠ some k
theorem newSet_spec (rows : List (List Bd)) (σ : Hp) (hr : rows.length * 24 ≤ 140737488355328) (hok : ∀ x ∈ rows, okI x) :
  ACalls Tryz.prog 6 [.sl (rows.map encP)] σ (fun v σ' => ∃ g, v = ptrV g ∧ NewS g (setL rows) σ σ') := by
 refine ACalls.intro Tryz.call6 Tryz.func6 rfl Tryz.ntmps6 Tryz.results6 (by simp) ?_
 refine AW.seq_k fun K1 h1 => ?_
 refine AW.reg0 ?_
 (refine S.g rfl rfl fun Y Z => ?_; simp only [zz, reduceIte, Nat.reduceEqDiff, Nat.reduceAdd]; refine Z _ _ ?_; clear Z Y)
 refine S.nil ?_
 simp only [ze, reduceIte, Nat.reduceEqDiff, Nat.reduceLT, Nat.reduceLeDiff, Nat.reduceAdd, reduceCtorEq, Nat.reduceMul]
 apply_assumption
 refine AW.seq_k fun K2 h2 => ?_
 refine AW.region (T := { hp := fun d => d == 7 }) (fun _ _ h => by cases h) rfl ?_
 (refine S.g rfl rfl fun Y Z => ?_; simp only [zz, reduceIte, Nat.reduceEqDiff, Nat.reduceLT, Nat.reduceLeDiff, Nat.reduceAdd, reduceCtorEq, Nat.reduceMul, zt53, pl53]; refine Z _ _ ?_; clear Z Y)
 (refine S.g rfl rfl fun Y Z => ?_; simp only [zz, reduceIte, Nat.reduceEqDiff, Nat.reduceLT, Nat.reduceLeDiff, Nat.reduceAdd, reduceCtorEq, Nat.reduceMul, ok53, sz53, ag53]; intro g hg <;> (refine Z _ _ ?_; clear Z Y))
 (refine S.g rfl rfl fun Y Z => ?_; simp only [zz, reduceIte, Nat.reduceEqDiff, Nat.reduceAdd]; refine Z _ _ ?_; clear Z Y)
 refine S.nil ?_
 simp only [ze, reduceIte, Nat.reduceEqDiff, Nat.reduceLT, Nat.reduceLeDiff, Nat.reduceAdd, reduceCtorEq, Nat.reduceMul]
 apply_assumption
 refine AW.seq_j (fun s σ' => s.t 3 = .c (.pointer (some ⟨g, 0, none⟩)) ∧ NewS g (setL rows) σ σ') ?_ ?_
 ·refine AW.seq_k fun K3 h3 => ?_
  refine AW.reg0 ?_
  iterate 3 (refine S.g rfl rfl fun Y Z => ?_; simp only [zz, reduceIte, Nat.reduceEqDiff, Nat.reduceLT, Nat.reduceLeDiff, Nat.reduceAdd, reduceCtorEq, Nat.reduceMul, sl31, el31, ok24, sz24, ag24, List.length_map]; refine Z _ _ ?_; clear Z Y)
  refine S.nil ?_
  simp only [ze, reduceIte, Nat.reduceEqDiff, Nat.reduceLT, Nat.reduceLeDiff, Nat.reduceAdd, reduceCtorEq, Nat.reduceMul, List.length_map]
  apply_assumption
  refine AW.block ?_   -- 0
  refine AW.loop (fun m s σ' => ∃ i : Nat, m = rows.length - i ∧ i ≤ rows.length ∧ s.t 3 = .c (.pointer (some ⟨g, 0, none⟩)) ∧ s.t 8 = .sl (rows.map encP) ∧ s.t 9 = .c (.int .i64 (rows.length : Nat)) ∧ s.t 10 = .c (.int .i64 (i : Nat)) ∧ NewS g (setL (rows.take i)) σ σ') rows.length ?_ ?_
  ·refine ⟨0, by omega, Nat.zero_le _, ?_⟩
   simp only [zs, reduceIte, Nat.reduceEqDiff, Nat.reduceLT, Nat.reduceLeDiff, Nat.reduceAdd, reduceCtorEq, Nat.reduceMul]
   exact ⟨rfl, ⟨hg, .inl ⟨rfl, by simp⟩, fun x hx => by simp [hx], fun k x hk => ⟨by simpa using hk, by simp [stN]⟩⟩⟩
  rintro m s σ1 ⟨i, hm, hi, e3, e8, e9, e10, hnew⟩
  refine AW.seq_k fun K4 h4 => ?_
  refine AW.reg0 ?_
  (refine S.g rfl rfl fun Y Z => ?_; simp only [zz, reduceIte, Nat.reduceEqDiff, Nat.reduceAdd, e9, e10]; refine Z _ _ ?_; clear Z Y)
  refine S.nil ?_
  simp only [ze, reduceIte, Nat.reduceEqDiff, Nat.reduceLT, Nat.reduceLeDiff, Nat.reduceAdd, reduceCtorEq, Nat.reduceMul, e9, e10]
  apply_assumption
  refine AW.seq_k fun K5 h5 => ?_
  refine AW.cond (b := decide (i < rows.length)) (by simp [ev]) (fun hc => ?_) (fun hc => ?_)
  ·have hc := of_decide_eq_true hc
   refine AW.skip ?_
   simp only [zs, reduceIte, Nat.reduceEqDiff, Nat.reduceLT, Nat.reduceLeDiff, Nat.reduceAdd, reduceCtorEq, Nat.reduceMul]
   apply_assumption
   obtain ⟨x, hx⟩ : ∃ x, rows[i]? = some x := ⟨_, List.getElem?_eq_getElem hc⟩
   have hxm := List.mem_of_getElem? hx
   have hxe := encP_gd hx
   have hps := hnew.set
   obtain ⟨hsr, hln, hmm⟩ := setL_ind (rows.take i)
   rw [List.length_take] at hln
   have hn : ((setL (rows.take i)).length + 1) * 24 ≤ 140737488355328 := by omega
   have hll : ∀ y ∈ setL (rows.take i), y.length < 4611686018427387904 := fun y hy => by
    have := (hok y (List.mem_of_mem_take (hmm y hy))).len
    omega
   have hw : IntKind.i64.wrap ((i : Int) + 1) = ((i + 1 : Nat) : Int) := by rw [wrap_small _ (by omega) (by omega)]; rfl
   refine AW.seq_k fun K6 h6 => ?_
   refine AW.block ?_   -- 1
   refine AW.seq_k fun K7 h7 => ?_
   refine AW.reg0 ?_
   iterate 4 (refine S.g rfl rfl fun Y Z => ?_; simp only [zz, reduceIte, Nat.reduceEqDiff, Nat.reduceLT, Nat.reduceLeDiff, Nat.reduceAdd, reduceCtorEq, Nat.reduceMul, sl31, el31, ok24, sz24, ag24, zt24, e8, e10, List.length_map, hc, hxe]; refine Z _ _ ?_; clear Z Y)
   refine S.nil ?_
   simp only [ze, reduceIte, Nat.reduceEqDiff, Nat.reduceLT, Nat.reduceLeDiff, Nat.reduceAdd, reduceCtorEq, Nat.reduceMul, e8, e10, List.length_map, hc, hxe]
   apply_assumption
   refine AW.reg0 ?_
   iterate 2 (refine S.g rfl rfl fun Y Z => ?_; simp only [zz, reduceIte, Nat.reduceEqDiff, Nat.reduceLT, Nat.reduceLeDiff, Nat.reduceAdd, reduceCtorEq, Nat.reduceMul, ok24, sz24, ag24, e3]; refine Z _ _ ?_; clear Z Y)
   (refine S.g rfl rfl fun Y Z => ?_; simp only [zz, reduceIte, Nat.reduceEqDiff, Nat.reduceLT, Nat.reduceLeDiff, Nat.reduceAdd, reduceCtorEq, Nat.reduceMul, e3]; refine (add_spec g (setL (rows.take i)) x _ hps hsr hn hll (hok x hxm)).to fun v σ3 hv => ?_; obtain ⟨rfl, hps3, hfr3⟩ := hv <;> (refine Z _ _ ?_; clear Z Y))
   refine S.nil ?_
   simp only [ze, reduceIte, Nat.reduceEqDiff, Nat.reduceLT, Nat.reduceLeDiff, Nat.reduceAdd, reduceCtorEq, Nat.reduceMul, e3]
   apply_assumption
   refine AW.reg0 ?_
   iterate 2 (refine S.g rfl rfl fun Y Z => ?_; simp only [zz, reduceIte, Nat.reduceEqDiff, Nat.reduceAdd, e10, hw]; refine Z _ _ ?_; clear Z Y)
   refine S.nil ?_
   simp only [ze, reduceIte, Nat.reduceEqDiff, Nat.reduceLT, Nat.reduceLeDiff, Nat.reduceAdd, reduceCtorEq, Nat.reduceMul, e10, hw]
   refine ⟨m - 1, by omega, i + 1, by omega, by omega, ?_⟩
   simp only [zs, reduceIte, Nat.reduceEqDiff, Nat.reduceLT, Nat.reduceLeDiff, Nat.reduceAdd, reduceCtorEq, Nat.reduceMul, e3, e8, e9, e10]
   refine ⟨hnew.new, ?_, fun z hz => (hfr3.obj z hz).trans (hnew.obj z hz), fun k z hk => ?_⟩
   ·rw [setL_take hx]; exact hps3
   ·obtain ⟨h1, h2⟩ := hnew.gr k z hk
    exact hfr3.gr k z h1 h2
  ·have hc := of_decide_eq_false hc
   refine AW.exit ?_
   simp only [zs, reduceIte, Nat.reduceEqDiff, Nat.reduceLT, Nat.reduceLeDiff, Nat.reduceAdd, reduceCtorEq, Nat.reduceMul, e3]
   have : i = rows.length := by omega
   subst this
   rw [List.take_length] at hnew
   exact hnew
 rintro s σ1 ⟨e3, hnew⟩
 refine AW.seq_k fun K8 h8 => ?_
 refine AW.reg0 ?_
 iterate 2 (refine S.g rfl rfl fun Y Z => ?_; simp only [zz, reduceIte, Nat.reduceEqDiff, Nat.reduceAdd, e3]; refine Z _ _ ?_; clear Z Y)
 refine S.nil ?_
 simp only [ze, reduceIte, Nat.reduceEqDiff, Nat.reduceLT, Nat.reduceLeDiff, Nat.reduceAdd, reduceCtorEq, Nat.reduceMul, e3]
 apply_assumption
 refine AW.ret ?_
 simp only [zs, reduceIte, Nat.reduceEqDiff, Nat.reduceLT, Nat.reduceLeDiff, Nat.reduceAdd, reduceCtorEq, Nat.reduceMul]
 exact ⟨g, rfl, hnew⟩
end Go.Abs.M
namespace Go.Abs.M
open Go Go.Abs Go.Proofs
set_option maxRecDepth 20000
set_option linter.unusedSimpArgs false
set_option linter.unusedVariables false
theorem hp_ext {σ σ' : Hp} (h1 : ∀ g, σ.obj g = σ'.obj g) (h2 : ∀ k, σ.gr k = σ'.gr k) : σ = σ' := by
 cases σ; cases σ'
 simp only [Hp.mk.injEq]
 exact ⟨funext h1, funext h2⟩
/-- The list that 'All' makes, so far. -/
def AllJ (σ : Hp) (p : Nat) (l : List (List Bd)) (σ1 : Hp) : Prop := (l = [] ∧ σ1 = σ.setObj p (some [.c (.slice none 0 0)])) ∨ ∃ k, σ.gr k = none ∧ σ1 = (σ.setObj p (some [.gl k])).setGr k (some ((24, 1), l.map encP))
theorem AllJ.next {σ σ1 : Hp} {p : Nat} {l : List (List Bd)} (h : AllJ σ p l σ1) : ∃ lv ok, σ1.obj p = some [lv] ∧ isMap [lv] = false ∧ okV lv = true ∧ dstE σ1 24 1 lv = some (ok, l.map encP) ∧ ∀ k2 x, (σ1.delO ok).gr k2 = none → AllJ σ p (l ++ [x]) (((σ1.delO ok).setGr k2 (some ((24, 1), l.map encP ++ [[.sl (x.map encBd)]]))).setObj p (some [.gl k2])) := by
 rcases h with ⟨rfl, rfl⟩ | ⟨k, hk, rfl⟩
 ·refine ⟨.c (.slice none 0 0), none, by simp, rfl, rfl, rfl, fun k2 x h2 => .inr ⟨k2, by simpa [Hp.delO] using h2, ?_⟩⟩
  refine hp_ext (fun g => ?_) (fun j => ?_)
  ·by_cases e : g = p <;> simp [Hp.delO, Hp.setObj, Hp.setGr, e]
  ·by_cases e : j = k2 <;> simp [Hp.delO, Hp.setObj, Hp.setGr, e, encP]
 ·refine ⟨.gl k, some k, by simp, rfl, rfl, by simp [dstE, Hp.setGr], fun k2 x h2 => .inr ⟨k2, ?_, ?_⟩⟩
  ·by_cases e : k2 = k
   ·rw [e]; exact hk
   ·simpa [Hp.delO, Hp.setGr, e] using h2
  ·refine hp_ext (fun g => ?_) (fun j => ?_)
   ·by_cases e : g = p <;> simp [Hp.delO, Hp.setObj, Hp.setGr, e]
   ·by_cases e : j = k2
    ·simp [Hp.delO, Hp.setObj, Hp.setGr, e, encP]
    ·by_cases e2 : j = k
     ·simp [Hp.delO, Hp.setObj, Hp.setGr, e, e2]
      rw [← e2]; simp [e]; rw [e2]; exact hk.symm
     ·simp [Hp.delO, Hp.setObj, Hp.setGr, e, e2]
theorem AllJ.gr {σ σ1 : Hp} {p : Nat} {l : List (List Bd)} (h : AllJ σ p l σ1) {k : Nat} {x : (TypeId × Nat) × List (List V)} (hk : σ.gr k = some x) : σ1.gr k = some x := by
 rcases h with ⟨rfl, rfl⟩ | ⟨k2, h2, rfl⟩
 ·exact hk
 ·have : k ≠ k2 := fun e => by rw [e, h2] at hk; cases hk
  simp [Hp.setGr, this, Hp.setObj, hk]
set_option maxHeartbeats 2000000 in
theorem setAll_spec (g : Nat) (rows : List (List Bd)) (σ : Hp) (hs : PSet g rows σ) (hr : rows.length * 24 ≤ 140737488355328) (hok : ∀ x ∈ rows, okI x) :
  ACalls Tryz.prog 9 [ptrV g] σ (fun v σ' => v = .fn (.func 31) [] [capV rows] ∧ σ' = σ) := by
 refine ACalls.sealF (R := fun v σ' => ∃ p, v = .fn (.func 31) [] [ptrV p] ∧ σ.obj p = none ∧ σ' = σ.setObj p (some [.sl (rows.map encP)])) ?_ ?_
 ·refine ACalls.intro Tryz.call9 Tryz.func9 rfl Tryz.ntmps9 Tryz.results9 (by simp) ?_
  obtain ⟨lv, ho⟩ := hs.ex
  refine AW.seq_k fun K1 h1 => ?_
  all_goals refine AW.reg0 ?_
  all_goals (refine S.g rfl rfl fun Y Z => ?_; simp only [zz, reduceIte, Nat.reduceEqDiff, Nat.reduceAdd]; refine Z _ _ ?_; clear Z Y)
  all_goals refine S.nil ?_
  all_goals simp only [ze, reduceIte, Nat.reduceEqDiff, Nat.reduceLT, Nat.reduceLeDiff, Nat.reduceAdd, reduceCtorEq, Nat.reduceMul]
  all_goals apply_assumption
  refine AW.seq_k fun K2 h2 => ?_
  all_goals refine AW.region (T := { hp := fun d => d == 3 }) (fun _ _ h => by cases h) rfl ?_
  all_goals (refine S.g rfl rfl fun Y Z => ?_; simp only [zz, reduceIte, Nat.reduceEqDiff, Nat.reduceLT, Nat.reduceLeDiff, Nat.reduceAdd, reduceCtorEq, Nat.reduceMul, zt31]; intro p hp <;> (refine Z _ _ ?_; clear Z Y))
  all_goals refine S.nil ?_
  all_goals simp only [ze, reduceIte, Nat.reduceEqDiff, Nat.reduceLT, Nat.reduceLeDiff, Nat.reduceAdd, reduceCtorEq, Nat.reduceMul]
  all_goals apply_assumption
  have hpg : g ≠ p := fun e => by rw [e, hp] at ho; cases ho
  refine AW.seq_j (fun s σ' => s.t 3 = .c (.pointer (some ⟨p, 0, none⟩)) ∧ AllJ σ p rows σ') ?_ ?_
  ·have ho1 : (σ.setObj p (some [.c (.slice none 0 0)])).obj g = some [lv, .c (.bool true)] := by simp [hpg, ho]
   have hns := none_spec g _ _ ho1
   refine AW.seq_k fun K3 h3 => ?_
   all_goals refine AW.reg0 ?_
   all_goals (refine S.g rfl rfl fun Y Z => ?_; simp only [zz, reduceIte, Nat.reduceEqDiff, Nat.reduceAdd, ptrV]; refine Z _ _ ?_; clear Z Y)
   all_goals (refine S.g rfl rfl fun Y Z => ?_; simp only [zz, reduceIte, Nat.reduceEqDiff, Nat.reduceLT, Nat.reduceLeDiff, Nat.reduceAdd, reduceCtorEq, Nat.reduceMul, ptrV]; refine hns.to fun v σ2 hv => ?_; obtain ⟨rfl, rfl⟩ := hv <;> (refine Z _ _ ?_; clear Z Y))
   all_goals (refine S.g rfl rfl fun Y Z => ?_; simp only [zz, reduceIte, Nat.reduceEqDiff, Nat.reduceAdd, ptrV]; refine Z _ _ ?_; clear Z Y)
   all_goals refine S.nil ?_
   all_goals simp only [ze, reduceIte, Nat.reduceEqDiff, Nat.reduceLT, Nat.reduceLeDiff, Nat.reduceAdd, reduceCtorEq, Nat.reduceMul, ptrV]
   all_goals apply_assumption
   refine AW.cond (b := true) (by simp [ev]) (fun hc => ?_) (fun hc => by cases hc)
   rcases hs with ⟨rfl, hx1⟩ | ⟨ks, hx1, hks⟩
   ·rw [ho] at hx1
    injection hx1 with hx1; injection hx1 with hx1 _; subst hx1
    refine AW.seq_k fun K4 h4 => ?_
    all_goals refine AW.reg0 ?_
    all_goals iterate 6 (refine S.g rfl rfl fun Y Z => ?_; simp only [zz, reduceIte, Nat.reduceEqDiff, Nat.reduceLT, Nat.reduceLeDiff, Nat.reduceAdd, reduceCtorEq, Nat.reduceMul, of53_0, ok31, sz31, ag31, sl31, el31, ok24, sz24, ag24, ptrV, hpg, ho, map2, List.getD_cons_zero]; refine Z _ _ ?_; clear Z Y)
    all_goals refine S.nil ?_
    all_goals simp only [ze, reduceIte, Nat.reduceEqDiff, Nat.reduceLT, Nat.reduceLeDiff, Nat.reduceAdd, reduceCtorEq, Nat.reduceMul, ptrV, hpg, ho, map2, List.getD_cons_zero]
    all_goals apply_assumption
    refine AW.block ?_   -- 0
    refine AW.loop (fun m s σ' => m = 0 ∧ s.t 3 = .c (.pointer (some ⟨p, 0, none⟩)) ∧ s.t 13 = .c (.int .i64 (0 : Int)) ∧ s.t 14 = .c (.int .i64 (0 : Int)) ∧ AllJ σ p [] σ') 0 ?_ ?_
    ·all_goals simp only [zs, reduceIte, Nat.reduceEqDiff, Nat.reduceLT, Nat.reduceLeDiff, Nat.reduceAdd, reduceCtorEq, Nat.reduceMul]
     exact ⟨rfl, .inl ⟨rfl, rfl⟩⟩
    rintro m s σ1 ⟨hm, e3, e13, e14, hj⟩
    refine AW.seq_k fun K5 h5 => ?_
    all_goals refine AW.reg0 ?_
    all_goals (refine S.g rfl rfl fun Y Z => ?_; simp only [zz, reduceIte, Nat.reduceEqDiff, Nat.reduceAdd, e13, e14]; refine Z _ _ ?_; clear Z Y)
    all_goals refine S.nil ?_
    all_goals simp only [ze, reduceIte, Nat.reduceEqDiff, Nat.reduceLT, Nat.reduceLeDiff, Nat.reduceAdd, reduceCtorEq, Nat.reduceMul, e13, e14]
    all_goals apply_assumption
    refine AW.seq_k fun K6 h6 => ?_
    refine AW.cond (b := false) (by simp [ev]) (fun hc => by cases hc) (fun hc => ?_)
    refine AW.exit ?_
    all_goals simp only [zs, reduceIte, Nat.reduceEqDiff, Nat.reduceLT, Nat.reduceLeDiff, Nat.reduceAdd, reduceCtorEq, Nat.reduceMul, e3]
    exact hj
   ·rw [ho] at hx1
    injection hx1 with hx1; injection hx1 with hx1 _; subst hx1
    refine AW.seq_k fun K7 h7 => ?_
    all_goals refine AW.reg0 ?_
    all_goals iterate 6 (refine S.g rfl rfl fun Y Z => ?_; simp only [zz, reduceIte, Nat.reduceEqDiff, Nat.reduceLT, Nat.reduceLeDiff, Nat.reduceAdd, reduceCtorEq, Nat.reduceMul, of53_0, ok31, sz31, ag31, sl31, el31, ok24, sz24, ag24, ptrV, hpg, ho, hks, map2, List.getD_cons_zero, List.length_map]; refine Z _ _ ?_; clear Z Y)
    all_goals refine S.nil ?_
    all_goals simp only [ze, reduceIte, Nat.reduceEqDiff, Nat.reduceLT, Nat.reduceLeDiff, Nat.reduceAdd, reduceCtorEq, Nat.reduceMul, ptrV, hpg, ho, hks, map2, List.getD_cons_zero, List.length_map]
    all_goals apply_assumption
    refine AW.block ?_   -- 0
    refine AW.loop (fun m s σ' => ∃ i : Nat, m = rows.length - i ∧ i ≤ rows.length ∧ s.t 3 = .c (.pointer (some ⟨p, 0, none⟩)) ∧ s.t 12 = .gl ks ∧ s.t 13 = .c (.int .i64 (rows.length : Nat)) ∧ s.t 14 = .c (.int .i64 (i : Nat)) ∧ AllJ σ p (rows.take i) σ') rows.length ?_ ?_
    ·refine ⟨0, by omega, Nat.zero_le _, ?_⟩
     all_goals simp only [zs, reduceIte, Nat.reduceEqDiff, Nat.reduceLT, Nat.reduceLeDiff, Nat.reduceAdd, reduceCtorEq, Nat.reduceMul]
     exact ⟨rfl, .inl ⟨rfl, rfl⟩⟩
    rintro m s σ1 ⟨i, hm, hi, e3, e12, e13, e14, hj⟩
    refine AW.seq_k fun K8 h8 => ?_
    all_goals refine AW.reg0 ?_
    all_goals (refine S.g rfl rfl fun Y Z => ?_; simp only [zz, reduceIte, Nat.reduceEqDiff, Nat.reduceAdd, e13, e14]; refine Z _ _ ?_; clear Z Y)
    all_goals refine S.nil ?_
    all_goals simp only [ze, reduceIte, Nat.reduceEqDiff, Nat.reduceLT, Nat.reduceLeDiff, Nat.reduceAdd, reduceCtorEq, Nat.reduceMul, e13, e14]
    all_goals apply_assumption
    refine AW.seq_k fun K9 h9 => ?_
    refine AW.cond (b := decide (i < rows.length)) (by simp [ev]) (fun hc => ?_) (fun hc => ?_)
    ·have hc := of_decide_eq_true hc
     refine AW.skip ?_
     all_goals simp only [zs, reduceIte, Nat.reduceEqDiff, Nat.reduceLT, Nat.reduceLeDiff, Nat.reduceAdd, reduceCtorEq, Nat.reduceMul]
     all_goals apply_assumption
     obtain ⟨x, hx⟩ : ∃ x, rows[i]? = some x := ⟨_, List.getElem?_eq_getElem hc⟩
     have hxm := List.mem_of_getElem? hx
     have hxe := encP_gd hx
     have hks1 := hj.gr hks
     obtain ⟨lv, ok, hop, hml, hlv, hd, hnx⟩ := hj.next
     have hw : IntKind.i64.wrap ((i : Int) + 1) = ((i + 1 : Nat) : Int) := by rw [wrap_small _ (by omega) (by omega)]; rfl
     have hlt : (rows.take i).length = i := by rw [List.length_take]; omega
     refine AW.seq_k fun K10 h10 => ?_
     refine AW.block ?_   -- 1
     refine AW.seq_k fun K11 h11 => ?_
     all_goals refine AW.reg0 ?_
     all_goals iterate 4 (refine S.g rfl rfl fun Y Z => ?_; simp only [zz, reduceIte, Nat.reduceEqDiff, Nat.reduceLT, Nat.reduceLeDiff, Nat.reduceAdd, reduceCtorEq, Nat.reduceMul, sl31, el31, ok24, sz24, ag24, zt24, e12, e14, hks1, List.length_map, hc, hxe]; refine Z _ _ ?_; clear Z Y)
     all_goals refine S.nil ?_
     all_goals simp only [ze, reduceIte, Nat.reduceEqDiff, Nat.reduceLT, Nat.reduceLeDiff, Nat.reduceAdd, reduceCtorEq, Nat.reduceMul, e12, e14, hks1, List.length_map, hc, hxe]
     all_goals apply_assumption
     all_goals refine AW.drawF (T := { sd := fun d => d == 5 }) (fun _ _ h => by cases h) mixedO (.fork 0 (.st 1 2 (.st 2 2 (.st 3 2 (.st 4 2 (.st 5 2 .nil))))) 1 (.fork 0 (.st 2 2 (.st 3 2 (.st 4 2 (.st 5 2 .nil)))) 2 (.fork 0 (.st 3 2 (.st 4 2 (.st 5 2 .nil))) 3 (.st 0 2 (.st 4 2 (.st 5 2 .nil)))))) rfl (by kernel_rfl) (by kernel_rfl) ?_
     all_goals (try first | refine F.fork ?_ ?_ | refine F.fork3 ?_ ?_ ?_)
     all_goals first | (refine F.g rfl trivial rfl rfl fun Y Z => ?_; simp only [zz, reduceIte, Nat.reduceEqDiff, Nat.reduceLT, Nat.reduceLeDiff, Nat.reduceAdd, reduceCtorEq, Nat.reduceMul, ok31, sz31, ag31, e3, hop, hml, ok31, sz31, ag31, hd, delO_obj, List.length_cons, List.length_nil, List.getD_cons_zero, List.drop_succ_cons, List.drop_nil, true_and]; refine Z _ _ ?_; clear Z Y) | (refine F.g rfl trivial rfl rfl fun Y Z => ?_; simp only [zz, reduceIte, Nat.reduceEqDiff, Nat.reduceLT, Nat.reduceLeDiff, Nat.reduceAdd, reduceCtorEq, Nat.reduceMul, ok24, sz24, ag24, e3, hop, hml, ok31, sz31, ag31, hd, delO_obj, List.length_cons, List.length_nil, List.getD_cons_zero, List.drop_succ_cons, List.drop_nil, true_and]; refine Z _ _ ?_; clear Z Y)
     all_goals (try first | refine F.fork ?_ ?_ | refine F.fork3 ?_ ?_ ?_)
     all_goals first | (refine F.g rfl trivial rfl rfl fun Y Z => ?_; simp only [zz, reduceIte, Nat.reduceEqDiff, Nat.reduceLT, Nat.reduceLeDiff, Nat.reduceAdd, reduceCtorEq, Nat.reduceMul, e3, hop, hml, ok31, sz31, ag31, hd, delO_obj, List.length_cons, List.length_nil, List.getD_cons_zero, List.drop_succ_cons, List.drop_nil, true_and]; refine PCalls.eqto (clone_part x (hok x hxm).attrs (hok x hxm).len) ?_ <;> (refine Z _ _ ?_; clear Z Y)) | (refine F.g rfl trivial rfl rfl fun Y Z => ?_; simp only [zz, reduceIte, Nat.reduceEqDiff, Nat.reduceLT, Nat.reduceLeDiff, Nat.reduceAdd, reduceCtorEq, Nat.reduceMul, ok24, sz24, ag24, e3, hop, hml, ok31, sz31, ag31, hd, delO_obj, List.length_cons, List.length_nil, List.getD_cons_zero, List.drop_succ_cons, List.drop_nil, true_and]; refine Z _ _ ?_; clear Z Y) | (refine F.g rfl trivial rfl rfl fun Y Z => ?_; simp only [zz, reduceIte, Nat.reduceEqDiff, Nat.reduceLT, Nat.reduceLeDiff, Nat.reduceAdd, reduceCtorEq, Nat.reduceMul, ok31, sz31, ag31, e3, hop, hml, ok31, sz31, ag31, hd, delO_obj, List.length_cons, List.length_nil, List.getD_cons_zero, List.drop_succ_cons, List.drop_nil, true_and]; refine Z _ _ ?_; clear Z Y)
     all_goals (try first | refine F.fork ?_ ?_ | refine F.fork3 ?_ ?_ ?_)
     all_goals first | (refine F.g rfl trivial rfl rfl fun Y Z => ?_; simp only [zz, reduceIte, Nat.reduceEqDiff, Nat.reduceLT, Nat.reduceLeDiff, Nat.reduceAdd, reduceCtorEq, Nat.reduceMul, e3, hop, hml, ok31, sz31, ag31, hd, delO_obj, List.length_cons, List.length_nil, List.getD_cons_zero, List.drop_succ_cons, List.drop_nil, true_and]; refine PCalls.eqto (clone_part x (hok x hxm).attrs (hok x hxm).len) ?_ <;> (refine Z _ _ ?_; clear Z Y)) | (refine F.g rfl trivial rfl rfl fun Y Z => ?_; simp only [zz, reduceIte, Nat.reduceEqDiff, Nat.reduceLT, Nat.reduceLeDiff, Nat.reduceAdd, reduceCtorEq, Nat.reduceMul, ok31, sz31, ag31, e3, hop, hml, ok31, sz31, ag31, hd, delO_obj, List.length_cons, List.length_nil, List.getD_cons_zero, List.drop_succ_cons, List.drop_nil, true_and]; refine Z _ _ ?_; clear Z Y) | (refine F.g rfl trivial rfl rfl fun Y Z => ?_; simp only [zb, reduceIte, Nat.reduceEqDiff, Nat.reduceLT, Nat.reduceLeDiff, Nat.reduceAdd, reduceCtorEq, Nat.reduceMul, sl31, el31, ok24, sz24, ag24, zt24, by24, e3, hop, hml, ok31, sz31, ag31, hd, delO_obj, List.length_cons, List.length_nil, List.getD_cons_zero, List.drop_succ_cons, List.drop_nil, true_and]; refine Z _ _ ?_; clear Z Y)
     all_goals first | (refine F.g rfl trivial rfl rfl fun Y Z => ?_; simp only [zb, reduceIte, Nat.reduceEqDiff, Nat.reduceLT, Nat.reduceLeDiff, Nat.reduceAdd, reduceCtorEq, Nat.reduceMul, sl31, el31, ok24, sz24, ag24, zt24, by24, e3, hop, hml, ok31, sz31, ag31, hd, delO_obj, List.length_cons, List.length_nil, List.getD_cons_zero, List.drop_succ_cons, List.drop_nil, true_and]; refine Z _ _ ?_; clear Z Y) | (refine F.g rfl trivial rfl rfl fun Y Z => ?_; simp only [zz, reduceIte, Nat.reduceEqDiff, Nat.reduceLT, Nat.reduceLeDiff, Nat.reduceAdd, reduceCtorEq, Nat.reduceMul, ok31, sz31, ag31, e3, hop, hml, ok31, sz31, ag31, hd, delO_obj, List.length_cons, List.length_nil, List.getD_cons_zero, List.drop_succ_cons, List.drop_nil, true_and]; refine Z _ _ ?_; clear Z Y)
     all_goals (refine F.g rfl trivial rfl rfl fun Y Z => ?_; simp only [zz, reduceIte, Nat.reduceEqDiff, Nat.reduceLT, Nat.reduceLeDiff, Nat.reduceAdd, reduceCtorEq, Nat.reduceMul, sl31, el31, ok24, sz24, ag24, zt24, by24, e3, hop, hml, ok31, sz31, ag31, hd, delO_obj, List.length_cons, List.length_nil, List.getD_cons_zero, List.drop_succ_cons, List.drop_nil, true_and]; refine ⟨fun e he => by (simp at he; rw [he]; rfl), by unfold maxLen; simp; omega, by unfold reach; simp; omega, fun k2 hk2 => ?_⟩ <;> (refine Z _ _ ?_; clear Z Y))
     all_goals (refine F.g rfl trivial rfl rfl fun Y Z => ?_; simp only [zz, reduceIte, Nat.reduceEqDiff, Nat.reduceLT, Nat.reduceLeDiff, Nat.reduceAdd, reduceCtorEq, Nat.reduceMul, ok31, sz31, ag31, e3, hop, hml, ok31, sz31, ag31, hd, delO_obj, List.length_cons, List.length_nil, List.getD_cons_zero, List.drop_succ_cons, List.drop_nil, true_and]; refine Z _ _ ?_; clear Z Y)
     all_goals refine F.nil ?_
     all_goals simp only [ze, reduceIte, Nat.reduceEqDiff, Nat.reduceLT, Nat.reduceLeDiff, Nat.reduceAdd, reduceCtorEq, Nat.reduceMul, e3, hop, hml, ok31, sz31, ag31, hd, delO_obj, List.length_cons, List.length_nil, List.getD_cons_zero, List.drop_succ_cons, List.drop_nil, true_and]
     all_goals apply_assumption
     all_goals refine AW.reg0 ?_
     all_goals iterate 2 (refine S.g rfl rfl fun Y Z => ?_; simp only [zz, reduceIte, Nat.reduceEqDiff, Nat.reduceAdd, e14, hw]; refine Z _ _ ?_; clear Z Y)
     all_goals refine S.nil ?_
     all_goals simp only [ze, reduceIte, Nat.reduceEqDiff, Nat.reduceLT, Nat.reduceLeDiff, Nat.reduceAdd, reduceCtorEq, Nat.reduceMul, e14, hw]
     all_goals
      refine ⟨m - 1, by omega, i + 1, by omega, by omega, ?_⟩
      have hfin := hnx k2 x hk2
      rw [← show rows.take (i + 1) = rows.take i ++ [x] by rw [List.take_add_one, hx]; rfl] at hfin
     all_goals simp only [zs, reduceIte, Nat.reduceEqDiff, Nat.reduceLT, Nat.reduceLeDiff, Nat.reduceAdd, reduceCtorEq, Nat.reduceMul, e3, e12, e13, e14]
     all_goals exact hfin
    ·have hc := of_decide_eq_false hc
     refine AW.exit ?_
     all_goals simp only [zs, reduceIte, Nat.reduceEqDiff, Nat.reduceLT, Nat.reduceLeDiff, Nat.reduceAdd, reduceCtorEq, Nat.reduceMul, e3]
     have : i = rows.length := by omega
     subst this
     rw [List.take_length] at hj
     exact hj
  rintro s σ1 ⟨e3, hj⟩
  refine AW.seq_k fun K12 h12 => ?_
  all_goals refine AW.reg0 ?_
  all_goals iterate 2 (refine S.g rfl rfl fun Y Z => ?_; simp only [zz, reduceIte, Nat.reduceEqDiff, Nat.reduceAdd, e3]; refine Z _ _ ?_; clear Z Y)
  all_goals refine S.nil ?_
  all_goals simp only [ze, reduceIte, Nat.reduceEqDiff, Nat.reduceLT, Nat.reduceLeDiff, Nat.reduceAdd, reduceCtorEq, Nat.reduceMul, e3]
  all_goals apply_assumption
  rcases hj with ⟨rfl, rfl⟩ | ⟨k, hk, rfl⟩
  ·refine AW.nilO (g := p) (cells := [.c (.slice none 0 0)]) (by simp) rfl (AW.ret ?_)
   all_goals simp only [zs, reduceIte, Nat.reduceEqDiff, Nat.reduceLT, Nat.reduceLeDiff, Nat.reduceAdd, reduceCtorEq, Nat.reduceMul]
   refine ⟨p, rfl, hp, ?_⟩
   simp [wk1]
  ·refine AW.freezeO (k := k) (g := p) (T := (24, 1)) (es := rows.map encP) (cells := [.gl k]) (by simp) (by simp) rfl (AW.ret ?_)
   all_goals simp only [zs, reduceIte, Nat.reduceEqDiff, Nat.reduceLT, Nat.reduceLeDiff, Nat.reduceAdd, reduceCtorEq, Nat.reduceMul, fzV, fz1, St.fz_t, St.fz_l]
   refine ⟨p, rfl, hp, ?_⟩
   refine hp_ext (fun g => ?_) (fun j => ?_)
   ·by_cases e : g = p <;> simp [Hp.setObj, Hp.setGr, e, fz1]
   ·by_cases e : j = k
    ·simp [Hp.setObj, Hp.setGr, e, hk]
    ·simp [Hp.setObj, Hp.setGr, e]
 ·rintro v σ' ⟨p, rfl, hp, rfl⟩
  refine ⟨p, [.sl (rows.map encP)], .func 31, rfl, by simp, rfl, by simp, rfl, ?_⟩
  refine hp_ext (fun g => ?_) (fun j => rfl)
  by_cases e : g = p
  ·simp [e, hp]
  ·simp [e]
end Go.Abs.M
namespace Go.Abs.M
open Go Go.Abs Go.Proofs
set_option maxRecDepth 20000
set_option linter.unusedSimpArgs false
set_option linter.unusedVariables false
theorem isMap_sl (x : List (List V)) : isMap [.sl x] = false := rfl
theorem isMap_c (x : Value) : isMap [.c x] = false := rfl
theorem hasL_get {rows : List (List Bd)} {x y : List Bd} {i : Nat} (h : rows[i]? = some y) (hc : cmpL y x = 0) : hasL rows x = true := List.any_eq_true.2 ⟨y, List.mem_of_getElem? h, by simp [hc]⟩
theorem hasL_no {rows : List (List Bd)} {x : List Bd} (h : ∀ (j : Nat) (y : List Bd), rows[j]? = some y → cmpL y x ≠ 0) : hasL rows x = false := by
  cases e : hasL rows x with
  | false => rfl
  | true =>
    obtain ⟨y, hy, hc⟩ := List.any_eq_true.1 e
    obtain ⟨j, hj⟩ := List.getElem?_of_mem hy
    exact absurd (by simpa using hc) (h j y hj)
theorem rhas_spec (g : Nat) (rows : List (List Bd)) (x : List Bd) (σ : Hp) (ho : σ.obj g = some [.sl (rows.map encP)]) (hr : rows.length * 24 ≤ 140737488355328) (hl : ∀ y ∈ rows, y.length < 4611686018427387904) :
  ACalls Tryz.prog 54 [ptrV g, .agg [.sl (x.map encBd)]] σ (fun v σ' => v = .c (.bool (hasL rows x)) ∧ σ' = σ) := by
 refine ACalls.intro Tryz.call54 Tryz.func54 rfl Tryz.ntmps54 Tryz.results54 (by simp) ?_
 refine AW.seq_k fun K1 h1 => ?_
 refine AW.reg0 ?_
 iterate 2 (refine S.g rfl rfl fun Y Z => ?_; simp only [zz, reduceIte, Nat.reduceEqDiff, Nat.reduceLT, Nat.reduceLeDiff, Nat.reduceAdd, reduceCtorEq, Nat.reduceMul, ok24, sz24, ag24]; refine Z _ _ ?_; clear Z Y)
 refine S.nil ?_
 simp only [ze, reduceIte, Nat.reduceEqDiff, Nat.reduceLT, Nat.reduceLeDiff, Nat.reduceAdd, reduceCtorEq, Nat.reduceMul]
 apply_assumption
 refine AW.seq_j (fun s σ' => σ' = σ ∧ hasL rows x = false) ?_ ?_
 ·refine AW.seq_k fun K2 h2 => ?_
  refine AW.reg0 ?_
  (refine S.g rfl rfl fun Y Z => ?_; simp only [zz, reduceIte, Nat.reduceEqDiff, Nat.reduceAdd, ptrV]; refine Z _ _ ?_; clear Z Y)
  refine S.nil ?_
  simp only [ze, reduceIte, Nat.reduceEqDiff, Nat.reduceLT, Nat.reduceLeDiff, Nat.reduceAdd, reduceCtorEq, Nat.reduceMul, ptrV]
  apply_assumption
  refine AW.block ?_   -- 0
  refine AW.loop (fun m s σ' => σ' = σ ∧ ∃ i : Nat, m = rows.length - i ∧ i ≤ rows.length ∧ s.t 0 = .c (.pointer (some ⟨g, 0, none⟩)) ∧ s.t 3 = .lp 3 0 ∧ s.l 3 = some [.sl (x.map encBd)] ∧ s.t 5 = .c (.int .i64 (i : Nat)) ∧ ∀ (j : Nat) (y : List Bd), rows[j]? = some y → j < i → cmpL y x ≠ 0) rows.length ?_ ?_
  ·refine ⟨rfl, 0, by omega, Nat.zero_le _, ?_⟩
   simp only [zs, reduceIte, Nat.reduceEqDiff, Nat.reduceLT, Nat.reduceLeDiff, Nat.reduceAdd, reduceCtorEq, Nat.reduceMul]
   exact ⟨rfl, fun j y _ h => by omega⟩
  rintro m s σ' ⟨rfl, i, hm, hi, e0, e3, l3, e5, hno⟩
  refine AW.seq_k fun K3 h3 => ?_
  refine AW.seq_k fun K4 h4 => ?_
  refine AW.reg0 ?_
  iterate 7 (refine S.g rfl rfl fun Y Z => ?_; simp only [zz, reduceIte, Nat.reduceEqDiff, Nat.reduceLT, Nat.reduceLeDiff, Nat.reduceAdd, reduceCtorEq, Nat.reduceMul, of49_0, ok31, sz31, ag31, sl31, el31, ok24, sz24, ag24, e0, e5, ho, isMap_sl, List.getD_cons_zero, List.length_map]; refine Z _ _ ?_; clear Z Y)
  refine S.nil ?_
  simp only [ze, reduceIte, Nat.reduceEqDiff, Nat.reduceLT, Nat.reduceLeDiff, Nat.reduceAdd, reduceCtorEq, Nat.reduceMul, e0, e5, ho, isMap_sl, List.getD_cons_zero, List.length_map]
  apply_assumption
  refine AW.cond (b := decide (i < rows.length)) (by simp [ev]) (fun hc => ?_) (fun hc => ?_)
  ·have hc := of_decide_eq_true hc
   refine AW.skip ?_
   simp only [zs, reduceIte, Nat.reduceEqDiff, Nat.reduceLT, Nat.reduceLeDiff, Nat.reduceAdd, reduceCtorEq, Nat.reduceMul]
   apply_assumption
   obtain ⟨y, hy⟩ : ∃ y, rows[i]? = some y := ⟨_, List.getElem?_eq_getElem hc⟩
   have hyl := hl y (List.mem_of_getElem? hy)
   have hye := encP_gd hy
   have hw : IntKind.i64.wrap ((i : Int) + 1) = ((i + 1 : Nat) : Int) := by rw [wrap_small _ (by omega) (by omega)]; rfl
   refine AW.seq_k fun K5 h5 => ?_
   refine AW.block ?_   -- 1
   refine AW.seq_k fun K6 h6 => ?_
   refine AW.drawF (T := { sd := fun d => d == 3 }) (fun _ _ h => by cases h) mixedO (.st 0 0 (.st 1 0 (.st 2 0 (.st 4 0 (.st 7 1 (.st 3 2 (.st 5 0 (.st 6 1 (.st 8 2 (.st 9 0 .nil)))))))))) rfl (by kernel_rfl) (by kernel_rfl) ?_
   iterate 4 (refine F.g rfl trivial rfl rfl fun Y Z => ?_; simp only [zz, reduceIte, Nat.reduceEqDiff, Nat.reduceLT, Nat.reduceLeDiff, Nat.reduceAdd, reduceCtorEq, Nat.reduceMul, of49_0, e0, e3, l3, e5, ho, isMap_sl, List.getD_cons_zero, List.length_map, hc, hye]; refine Z _ _ ?_; clear Z Y)
   (refine F.g rfl (by first | rfl | (simp only [stC, ze, reduceIte, Nat.reduceEqDiff, e0, e3, l3, e5, ho, isMap_sl, List.getD_cons_zero, List.length_map, hc, hye]; done) | (simp only [stC, ze, reduceIte, Nat.reduceEqDiff, e0, e3, l3, e5, ho, isMap_sl, List.getD_cons_zero, List.length_map, hc, hye]; rfl)) rfl rfl fun Y Z => ?_; simp only [zz, reduceIte, Nat.reduceEqDiff, Nat.reduceLT, Nat.reduceLeDiff, Nat.reduceAdd, reduceCtorEq, Nat.reduceMul, ok24, sz24, ag24, e0, e3, l3, e5, ho, isMap_sl, List.getD_cons_zero, List.length_map, hc, hye]; refine Z _ _ ?_; clear Z Y)
   iterate 2 (refine F.g rfl trivial rfl rfl fun Y Z => ?_; simp only [zz, reduceIte, Nat.reduceEqDiff, Nat.reduceLT, Nat.reduceLeDiff, Nat.reduceAdd, reduceCtorEq, Nat.reduceMul, ok31, sz31, ag31, sl31, el31, ok24, sz24, ag24, e0, e3, l3, e5, ho, isMap_sl, List.getD_cons_zero, List.length_map, hc, hye]; refine Z _ _ ?_; clear Z Y)
   (refine F.g rfl (by first | rfl | (simp only [stC, ze, reduceIte, Nat.reduceEqDiff, e0, e3, l3, e5, ho, isMap_sl, List.getD_cons_zero, List.length_map, hc, hye]; done) | (simp only [stC, ze, reduceIte, Nat.reduceEqDiff, e0, e3, l3, e5, ho, isMap_sl, List.getD_cons_zero, List.length_map, hc, hye]; rfl)) rfl rfl fun Y Z => ?_; simp only [zz, reduceIte, Nat.reduceEqDiff, Nat.reduceLT, Nat.reduceLeDiff, Nat.reduceAdd, reduceCtorEq, Nat.reduceMul, ok24, sz24, ag24, e0, e3, l3, e5, ho, isMap_sl, List.getD_cons_zero, List.length_map, hc, hye]; refine Z _ _ ?_; clear Z Y)
   (refine F.g rfl trivial rfl rfl fun Y Z => ?_; simp only [zz, reduceIte, Nat.reduceEqDiff, Nat.reduceLT, Nat.reduceLeDiff, Nat.reduceAdd, reduceCtorEq, Nat.reduceMul, e0, e3, l3, e5, ho, isMap_sl, List.getD_cons_zero, List.length_map, hc, hye]; refine PCalls.eqto (rcompare_part y x hyl) ?_ <;> (refine Z _ _ ?_; clear Z Y))
   (refine F.g rfl trivial rfl rfl fun Y Z => ?_; simp only [zz, reduceIte, Nat.reduceEqDiff, Nat.reduceAdd, e0, e3, l3, e5, ho, isMap_sl, List.getD_cons_zero, List.length_map, hc, hye]; refine Z _ _ ?_; clear Z Y)
   refine F.nil ?_
   simp only [ze, reduceIte, Nat.reduceEqDiff, Nat.reduceLT, Nat.reduceLeDiff, Nat.reduceAdd, reduceCtorEq, Nat.reduceMul, e0, e3, l3, e5, ho, isMap_sl, List.getD_cons_zero, List.length_map, hc, hye]
   apply_assumption
   refine AW.cond (b := cmpL y x == 0) (by simp [ev]) (fun hc2 => ?_) (fun hc2 => ?_)
   ·have hc2 : cmpL y x = 0 := by simpa using hc2
    refine AW.seq_k fun K7 h7 => ?_
    refine AW.reg0 ?_
    (refine S.g rfl rfl fun Y Z => ?_; simp only [zz, reduceIte, Nat.reduceEqDiff, Nat.reduceAdd]; refine Z _ _ ?_; clear Z Y)
    refine S.nil ?_
    simp only [ze, reduceIte, Nat.reduceEqDiff, Nat.reduceLT, Nat.reduceLeDiff, Nat.reduceAdd, reduceCtorEq, Nat.reduceMul]
    apply_assumption
    refine AW.ret ?_
    simp only [zs, reduceIte, Nat.reduceEqDiff, Nat.reduceLT, Nat.reduceLeDiff, Nat.reduceAdd, reduceCtorEq, Nat.reduceMul]
    rw [hasL_get hy hc2]
   ·have hc2 : cmpL y x ≠ 0 := by simpa using hc2
    refine AW.skip ?_
    simp only [zs, reduceIte, Nat.reduceEqDiff, Nat.reduceLT, Nat.reduceLeDiff, Nat.reduceAdd, reduceCtorEq, Nat.reduceMul]
    apply_assumption
    refine AW.reg0 ?_
    iterate 3 (refine S.g rfl rfl fun Y Z => ?_; simp only [zz, reduceIte, Nat.reduceEqDiff, Nat.reduceAdd, e5, hw]; refine Z _ _ ?_; clear Z Y)
    refine S.nil ?_
    simp only [ze, reduceIte, Nat.reduceEqDiff, Nat.reduceLT, Nat.reduceLeDiff, Nat.reduceAdd, reduceCtorEq, Nat.reduceMul, e5, hw]
    refine ⟨m - 1, by omega, i + 1, by omega, by omega, ?_⟩
    simp only [zs, reduceIte, Nat.reduceEqDiff, Nat.reduceLT, Nat.reduceLeDiff, Nat.reduceAdd, reduceCtorEq, Nat.reduceMul, e0, e3, l3, e5]
    intro j z hz hj
    rcases Nat.lt_or_ge j i with h | h
    ·exact hno j z hz h
    ·obtain rfl : j = i := by omega
     rw [hy] at hz; injection hz with hz; subst hz; exact hc2
  ·have hc := of_decide_eq_false hc
   refine AW.exit ?_
   simp only [zs, reduceIte, Nat.reduceEqDiff, Nat.reduceLT, Nat.reduceLeDiff, Nat.reduceAdd, reduceCtorEq, Nat.reduceMul]
   exact hasL_no fun j y hy => hno j y hy (by have := (List.getElem?_eq_some_iff.1 hy).1; omega)
 rintro s σ' ⟨rfl, hno⟩
 refine AW.seq_k fun K8 h8 => ?_
 refine AW.reg0 ?_
 (refine S.g rfl rfl fun Y Z => ?_; simp only [zz, reduceIte, Nat.reduceEqDiff, Nat.reduceAdd]; refine Z _ _ ?_; clear Z Y)
 refine S.nil ?_
 simp only [ze, reduceIte, Nat.reduceEqDiff, Nat.reduceLT, Nat.reduceLeDiff, Nat.reduceAdd, reduceCtorEq, Nat.reduceMul]
 apply_assumption
 refine AW.ret ?_
 simp only [zs, reduceIte, Nat.reduceEqDiff, Nat.reduceLT, Nat.reduceLeDiff, Nat.reduceAdd, reduceCtorEq, Nat.reduceMul]
 rw [hno]
end Go.Abs.M
namespace Go.Abs.M
open Go Go.Abs Go.Proofs
set_option maxRecDepth 20000
set_option linter.unusedSimpArgs false
set_option linter.unusedVariables false
set_option maxHeartbeats 2000000 in
theorem radd_spec (g : Nat) (rows : List (List Bd)) (x : List Bd) (σ : Hp) (ho : σ.obj g = some [.sl (rows.map encP)]) (ht : SrtL rows) (hn : (rows.length + 1) * 24 ≤ 140737488355328) (hl : ∀ y ∈ rows, y.length < 4611686018427387904) (hx : okI x) :
  ACalls Tryz.prog 33 [ptrV g, .agg [.sl (x.map encBd)]] σ (fun v σ' => v = .c (.bool (freshL rows x)) ∧ σ' = σ.setObj g (some [.sl ((addL rows x).map encP)])) := by
 refine ACalls.intro Tryz.call33 Tryz.func33 rfl Tryz.ntmps33 Tryz.results33 (by simp) ?_
 have hh := rhas_spec g rows x σ ho (by omega) hl
 refine AW.seq_k fun K1 h1 => ?_
 all_goals refine AW.reg0 ?_
 all_goals iterate 2 (refine S.g rfl rfl fun Y Z => ?_; simp only [zz, reduceIte, Nat.reduceEqDiff, Nat.reduceLT, Nat.reduceLeDiff, Nat.reduceAdd, reduceCtorEq, Nat.reduceMul, ok24, sz24, ag24]; refine Z _ _ ?_; clear Z Y)
 all_goals refine S.nil ?_
 all_goals simp only [ze, reduceIte, Nat.reduceEqDiff, Nat.reduceLT, Nat.reduceLeDiff, Nat.reduceAdd, reduceCtorEq, Nat.reduceMul]
 all_goals apply_assumption
 refine AW.seq_j (fun s σ' => σ' = σ ∧ freshL rows x = true ∧ s.t 0 = .c (.pointer (some ⟨g, 0, none⟩)) ∧ s.t 3 = .lp 3 0 ∧ s.l 3 = some [.sl (x.map encBd)]) ?_ ?_
 ·refine AW.seq_j (fun s σ' => σ' = σ ∧ s.t 14 = .c (.bool (!freshL rows x)) ∧ s.t 0 = .c (.pointer (some ⟨g, 0, none⟩)) ∧ s.t 3 = .lp 3 0 ∧ s.l 3 = some [.sl (x.map encBd)]) ?_ ?_
  ·by_cases hc : partErr x = 0
   ·have hd : (partErr x != 0) = false := by simp [hc]
    all_goals refine AW.reg0 ?_
    all_goals (refine S.g rfl rfl fun Y Z => ?_; simp only [zz, reduceIte, Nat.reduceEqDiff, Nat.reduceLT, Nat.reduceLeDiff, Nat.reduceAdd, reduceCtorEq, Nat.reduceMul, ok24, sz24, ag24, ptrV, hd]; refine Z _ _ ?_; clear Z Y)
    all_goals (refine S.g rfl rfl fun Y Z => ?_; simp only [zz, reduceIte, Nat.reduceEqDiff, Nat.reduceLT, Nat.reduceLeDiff, Nat.reduceAdd, reduceCtorEq, Nat.reduceMul, ptrV, hd]; refine PCalls.eqto (rcheck_part x hx.ok) ?_ <;> (refine Z _ _ ?_; clear Z Y))
    all_goals (refine S.g rfl rfl fun Y Z => ?_; simp only [zz, reduceIte, Nat.reduceEqDiff, Nat.reduceLT, Nat.reduceLeDiff, Nat.reduceAdd, reduceCtorEq, Nat.reduceMul, ptrV, hd]; refine S.bool fun b a9 => ?_; cases b <;> (try (exfalso; first | exact Bool.noConfusion a9 | (have h := of_decide_eq_true a9; omega) | (have h := of_decide_eq_false a9; omega))) <;> (refine Z _ _ ?_; clear Z Y))
    all_goals (refine S.g rfl rfl fun Y Z => ?_; simp only [zz, reduceIte, Nat.reduceEqDiff, Nat.reduceAdd, ptrV, hd]; refine Z _ _ ?_; clear Z Y)
    all_goals iterate 2 (first | (refine S.y rfl rfl rfl rfl fun Y Z => ?_; simp only [zz, reduceIte, Nat.reduceEqDiff, Nat.reduceLT, Nat.reduceLeDiff, Nat.reduceAdd, reduceCtorEq, Nat.reduceMul, ok24, sz24, ag24, ptrV, hd]; refine Z _ _ ?_; clear Z Y) | ((first | refine S.x rfl rfl rfl rfl fun Y Z => ?_ | refine S.u rfl rfl rfl rfl fun Y Z => ?_); simp only [ze, reduceIte, Nat.reduceEqDiff]; refine Z _ _ ?_; clear Z Y))
    all_goals (first | (refine S.y rfl rfl rfl rfl fun Y Z => ?_; simp only [zz, reduceIte, Nat.reduceEqDiff, Nat.reduceLT, Nat.reduceLeDiff, Nat.reduceAdd, reduceCtorEq, Nat.reduceMul, ptrV, hd]; refine hh.to fun v σ2 hv => ?_; obtain ⟨rfl, rfl⟩ := hv <;> (refine Z _ _ ?_; clear Z Y)) | ((first | refine S.x rfl rfl rfl rfl fun Y Z => ?_ | refine S.u rfl rfl rfl rfl fun Y Z => ?_); simp only [ze, reduceIte, Nat.reduceEqDiff]; refine Z _ _ ?_; clear Z Y))
    all_goals (refine S.g rfl rfl fun Y Z => ?_; simp only [zz, reduceIte, Nat.reduceEqDiff, Nat.reduceAdd, ptrV, hd]; refine Z _ _ ?_; clear Z Y)
    all_goals refine S.nil ?_
    all_goals simp only [ze, reduceIte, Nat.reduceEqDiff, Nat.reduceLT, Nat.reduceLeDiff, Nat.reduceAdd, reduceCtorEq, Nat.reduceMul, ptrV, hd]
    simp [freshL, hc]
   ·have hd : (partErr x != 0) = true := by simp [hc]
    all_goals refine AW.reg0 ?_
    all_goals (refine S.g rfl rfl fun Y Z => ?_; simp only [zz, reduceIte, Nat.reduceEqDiff, Nat.reduceLT, Nat.reduceLeDiff, Nat.reduceAdd, reduceCtorEq, Nat.reduceMul, ok24, sz24, ag24, ptrV, hd]; refine Z _ _ ?_; clear Z Y)
    all_goals (refine S.g rfl rfl fun Y Z => ?_; simp only [zz, reduceIte, Nat.reduceEqDiff, Nat.reduceLT, Nat.reduceLeDiff, Nat.reduceAdd, reduceCtorEq, Nat.reduceMul, ptrV, hd]; refine PCalls.eqto (rcheck_part x hx.ok) ?_ <;> (refine Z _ _ ?_; clear Z Y))
    all_goals (refine S.g rfl rfl fun Y Z => ?_; simp only [zz, reduceIte, Nat.reduceEqDiff, Nat.reduceLT, Nat.reduceLeDiff, Nat.reduceAdd, reduceCtorEq, Nat.reduceMul, ptrV, hd]; refine S.bool fun b a9 => ?_; cases b <;> (try (exfalso; first | exact Bool.noConfusion a9 | (have h := of_decide_eq_true a9; omega) | (have h := of_decide_eq_false a9; omega))) <;> (refine Z _ _ ?_; clear Z Y))
    all_goals (refine S.g rfl rfl fun Y Z => ?_; simp only [zz, reduceIte, Nat.reduceEqDiff, Nat.reduceAdd, ptrV, hd]; refine Z _ _ ?_; clear Z Y)
    all_goals iterate 2 (first | (refine S.y rfl rfl rfl rfl fun Y Z => ?_; simp only [zz, reduceIte, Nat.reduceEqDiff, Nat.reduceLT, Nat.reduceLeDiff, Nat.reduceAdd, reduceCtorEq, Nat.reduceMul, ok24, sz24, ag24, ptrV, hd]; refine Z _ _ ?_; clear Z Y) | ((first | refine S.x rfl rfl rfl rfl fun Y Z => ?_ | refine S.u rfl rfl rfl rfl fun Y Z => ?_); simp only [ze, reduceIte, Nat.reduceEqDiff]; refine Z _ _ ?_; clear Z Y))
    all_goals (first | (refine S.y rfl rfl rfl rfl fun Y Z => ?_; simp only [zz, reduceIte, Nat.reduceEqDiff, Nat.reduceLT, Nat.reduceLeDiff, Nat.reduceAdd, reduceCtorEq, Nat.reduceMul, ptrV, hd]; refine hh.to fun v σ2 hv => ?_; obtain ⟨rfl, rfl⟩ := hv <;> (refine Z _ _ ?_; clear Z Y)) | ((first | refine S.x rfl rfl rfl rfl fun Y Z => ?_ | refine S.u rfl rfl rfl rfl fun Y Z => ?_); simp only [ze, reduceIte, Nat.reduceEqDiff]; refine Z _ _ ?_; clear Z Y))
    all_goals (refine S.g rfl rfl fun Y Z => ?_; simp only [zz, reduceIte, Nat.reduceEqDiff, Nat.reduceAdd, ptrV, hd]; refine Z _ _ ?_; clear Z Y)
    all_goals refine S.nil ?_
    all_goals simp only [ze, reduceIte, Nat.reduceEqDiff, Nat.reduceLT, Nat.reduceLeDiff, Nat.reduceAdd, reduceCtorEq, Nat.reduceMul, ptrV, hd]
    simp [freshL, hc]
  rintro s σ' ⟨rfl, e14, e0, e3, l3⟩
  refine AW.cond (b := !freshL rows x) e14 (fun hc => ?_) (fun hc => ?_)
  ·have hc : freshL rows x = false := by simpa using hc
   refine AW.seq_k fun K2 h2 => ?_
   all_goals refine AW.reg0 ?_
   all_goals (refine S.g rfl rfl fun Y Z => ?_; simp only [zz, reduceIte, Nat.reduceEqDiff, Nat.reduceAdd]; refine Z _ _ ?_; clear Z Y)
   all_goals refine S.nil ?_
   all_goals simp only [ze, reduceIte, Nat.reduceEqDiff, Nat.reduceLT, Nat.reduceLeDiff, Nat.reduceAdd, reduceCtorEq, Nat.reduceMul]
   all_goals apply_assumption
   refine AW.ret ?_
   all_goals simp only [zs, reduceIte, Nat.reduceEqDiff, Nat.reduceLT, Nat.reduceLeDiff, Nat.reduceAdd, reduceCtorEq, Nat.reduceMul]
   have hno : ¬ (partErr x = 0 ∧ hasL rows x = false) := fun h => by simp [freshL, h.1, h.2] at hc
   rw [addL, if_neg hno, hc]
   exact ⟨rfl, (hp_ext (fun z => by by_cases e : z = g <;> simp [e, ho]) (fun _ => rfl))⟩
  ·refine AW.skip ⟨rfl, by simpa using hc, e0, e3, l3⟩
 rintro s σ' ⟨rfl, hf, e0, e3, l3⟩
 have hf' : partErr x = 0 ∧ hasL rows x = false := by simpa [freshL] using hf
 refine AW.seq_k fun K3 h3 => ?_
 all_goals refine AW.reg0 ?_
 all_goals (refine S.g rfl rfl fun Y Z => ?_; simp only [zz, reduceIte, Nat.reduceEqDiff, Nat.reduceAdd]; refine Z _ _ ?_; clear Z Y)
 all_goals refine S.nil ?_
 all_goals simp only [ze, reduceIte, Nat.reduceEqDiff, Nat.reduceLT, Nat.reduceLeDiff, Nat.reduceAdd, reduceCtorEq, Nat.reduceMul]
 all_goals apply_assumption
 refine AW.seq_j (fun s σ2 => σ2 = σ' ∧ s.t 0 = .c (.pointer (some ⟨g, 0, none⟩)) ∧ s.t 3 = .lp 3 0 ∧ s.l 3 = some [.sl (x.map encBd)] ∧ ∃ i : Nat, i ≤ rows.length ∧ s.t 5 = .c (.int .i64 (i : Nat)) ∧ AtL rows x i) ?_ ?_
 ·refine AW.block ?_   -- 0
  refine AW.loop (fun m s σ2 => σ2 = σ' ∧ ∃ i : Nat, m = rows.length - i ∧ i ≤ rows.length ∧ s.t 0 = .c (.pointer (some ⟨g, 0, none⟩)) ∧ s.t 3 = .lp 3 0 ∧ s.l 3 = some [.sl (x.map encBd)] ∧ s.t 5 = .c (.int .i64 (i : Nat)) ∧ ∀ (j : Nat) (y : List Bd), rows[j]? = some y → j < i → cmpL y x < 0) rows.length ?_ ?_
  ·refine ⟨rfl, 0, by omega, Nat.zero_le _, ?_⟩
   all_goals simp only [zs, reduceIte, Nat.reduceEqDiff, Nat.reduceLT, Nat.reduceLeDiff, Nat.reduceAdd, reduceCtorEq, Nat.reduceMul, e0, e3, l3]
   exact ⟨rfl, fun j y _ h => by omega⟩
  rintro m s σ2 ⟨rfl, i, hm, hi, e0, e3, l3, e5, hlo⟩
  refine AW.seq_k fun K4 h4 => ?_
  by_cases hin : i < rows.length
  ·obtain ⟨y, hy⟩ : ∃ y, rows[i]? = some y := ⟨_, List.getElem?_eq_getElem hin⟩
   have hyl := hl y (List.mem_of_getElem? hy)
   have hye := encP_gd hy
   have hdt : decide ((i : Int) < (rows.length : Int)) = true := by simp; omega
   have hw : IntKind.i64.wrap ((i : Int) + 1) = ((i + 1 : Nat) : Int) := by rw [wrap_small _ (by omega) (by omega)]; rfl
   refine AW.seq_k fun K5 h5 => ?_
   all_goals refine AW.drawF (T := { sd := fun d => d == 3 }) (fun _ _ h => by cases h) mixedO (.st 0 0 (.st 1 0 (.st 2 0 (.st 3 0 (.st 4 2 (.st 5 0 (.st 6 0 (.st 7 0 (.st 8 0 (.st 9 0 (.st 10 0 (.st 12 0 (.st 15 1 (.st 11 2 (.st 13 0 (.st 14 1 (.st 16 2 (.st 17 0 (.st 18 0 .nil))))))))))))))))))) rfl (by kernel_rfl) (by kernel_rfl) ?_
   all_goals iterate 6 (refine F.g rfl trivial rfl rfl fun Y Z => ?_; simp only [zz, reduceIte, Nat.reduceEqDiff, Nat.reduceLT, Nat.reduceLeDiff, Nat.reduceAdd, reduceCtorEq, Nat.reduceMul, of49_0, ok31, sz31, ag31, sl31, el31, ok24, sz24, ag24, e0, e3, l3, e5, ho, isMap_sl, List.getD_cons_zero, List.length_map, hdt, hin, hye]; refine Z _ _ ?_; clear Z Y)
   all_goals (refine F.g rfl trivial rfl rfl fun Y Z => ?_; simp only [zz, reduceIte, Nat.reduceEqDiff, Nat.reduceLT, Nat.reduceLeDiff, Nat.reduceAdd, reduceCtorEq, Nat.reduceMul, e0, e3, l3, e5, ho, isMap_sl, List.getD_cons_zero, List.length_map, hdt, hin, hye]; refine S.bool fun b a21 => ?_; cases b <;> (try (exfalso; first | exact Bool.noConfusion a21 | (have h := of_decide_eq_true a21; omega) | (have h := of_decide_eq_false a21; omega))) <;> (refine Z _ _ ?_; clear Z Y))
   all_goals (refine F.g rfl trivial rfl rfl fun Y Z => ?_; simp only [zz, reduceIte, Nat.reduceEqDiff, Nat.reduceAdd, e0, e3, l3, e5, ho, isMap_sl, List.getD_cons_zero, List.length_map, hdt, hin, hye]; refine Z _ _ ?_; clear Z Y)
   all_goals iterate 4 (first | (refine F.y rfl trivial rfl rfl rfl rfl fun Y Z => ?_; simp only [zz, reduceIte, Nat.reduceEqDiff, Nat.reduceLT, Nat.reduceLeDiff, Nat.reduceAdd, reduceCtorEq, Nat.reduceMul, of49_0, e0, e3, l3, e5, ho, isMap_sl, List.getD_cons_zero, List.length_map, hdt, hin, hye]; refine Z _ _ ?_; clear Z Y) | ((first | refine F.x rfl (fun h => by cases h) rfl rfl rfl rfl fun Y Z => ?_ | refine F.u rfl (fun h => by cases h) rfl rfl rfl rfl fun Y Z => ?_); simp only [ze, reduceIte, Nat.reduceEqDiff]; refine Z _ _ ?_; clear Z Y))
   all_goals (first | (refine F.y rfl (by first | rfl | (simp only [stC, ze, reduceIte, Nat.reduceEqDiff, e0, e3, l3, e5, ho, isMap_sl, List.getD_cons_zero, List.length_map, hdt, hin, hye]; done) | (simp only [stC, ze, reduceIte, Nat.reduceEqDiff, e0, e3, l3, e5, ho, isMap_sl, List.getD_cons_zero, List.length_map, hdt, hin, hye]; rfl)) rfl rfl rfl rfl fun Y Z => ?_; simp only [zz, reduceIte, Nat.reduceEqDiff, Nat.reduceLT, Nat.reduceLeDiff, Nat.reduceAdd, reduceCtorEq, Nat.reduceMul, ok24, sz24, ag24, e0, e3, l3, e5, ho, isMap_sl, List.getD_cons_zero, List.length_map, hdt, hin, hye]; refine Z _ _ ?_; clear Z Y) | ((first | refine F.x rfl (fun _ => rfl) rfl rfl rfl rfl fun Y Z => ?_ | refine F.u rfl (fun _ => rfl) rfl rfl rfl rfl fun Y Z => ?_); simp only [ze, reduceIte, Nat.reduceEqDiff]; refine Z _ _ ?_; clear Z Y))
   all_goals iterate 2 (first | (refine F.y rfl trivial rfl rfl rfl rfl fun Y Z => ?_; simp only [zz, reduceIte, Nat.reduceEqDiff, Nat.reduceLT, Nat.reduceLeDiff, Nat.reduceAdd, reduceCtorEq, Nat.reduceMul, ok31, sz31, ag31, sl31, el31, ok24, sz24, ag24, e0, e3, l3, e5, ho, isMap_sl, List.getD_cons_zero, List.length_map, hdt, hin, hye]; refine Z _ _ ?_; clear Z Y) | ((first | refine F.x rfl (fun h => by cases h) rfl rfl rfl rfl fun Y Z => ?_ | refine F.u rfl (fun h => by cases h) rfl rfl rfl rfl fun Y Z => ?_); simp only [ze, reduceIte, Nat.reduceEqDiff]; refine Z _ _ ?_; clear Z Y))
   all_goals (first | (refine F.y rfl (by first | rfl | (simp only [stC, ze, reduceIte, Nat.reduceEqDiff, e0, e3, l3, e5, ho, isMap_sl, List.getD_cons_zero, List.length_map, hdt, hin, hye]; done) | (simp only [stC, ze, reduceIte, Nat.reduceEqDiff, e0, e3, l3, e5, ho, isMap_sl, List.getD_cons_zero, List.length_map, hdt, hin, hye]; rfl)) rfl rfl rfl rfl fun Y Z => ?_; simp only [zz, reduceIte, Nat.reduceEqDiff, Nat.reduceLT, Nat.reduceLeDiff, Nat.reduceAdd, reduceCtorEq, Nat.reduceMul, ok24, sz24, ag24, e0, e3, l3, e5, ho, isMap_sl, List.getD_cons_zero, List.length_map, hdt, hin, hye]; refine Z _ _ ?_; clear Z Y) | ((first | refine F.x rfl (fun _ => rfl) rfl rfl rfl rfl fun Y Z => ?_ | refine F.u rfl (fun _ => rfl) rfl rfl rfl rfl fun Y Z => ?_); simp only [ze, reduceIte, Nat.reduceEqDiff]; refine Z _ _ ?_; clear Z Y))
   all_goals (first | (refine F.y rfl trivial rfl rfl rfl rfl fun Y Z => ?_; simp only [zz, reduceIte, Nat.reduceEqDiff, Nat.reduceLT, Nat.reduceLeDiff, Nat.reduceAdd, reduceCtorEq, Nat.reduceMul, e0, e3, l3, e5, ho, isMap_sl, List.getD_cons_zero, List.length_map, hdt, hin, hye]; refine PCalls.eqto (rcompare_part y x hyl) ?_ <;> (refine Z _ _ ?_; clear Z Y)) | ((first | refine F.x rfl (fun h => by cases h) rfl rfl rfl rfl fun Y Z => ?_ | refine F.u rfl (fun h => by cases h) rfl rfl rfl rfl fun Y Z => ?_); simp only [ze, reduceIte, Nat.reduceEqDiff]; refine Z _ _ ?_; clear Z Y))
   all_goals (first | (refine F.y rfl trivial rfl rfl rfl rfl fun Y Z => ?_; simp only [zz, reduceIte, Nat.reduceEqDiff, Nat.reduceAdd, e0, e3, l3, e5, ho, isMap_sl, List.getD_cons_zero, List.length_map, hdt, hin, hye]; refine Z _ _ ?_; clear Z Y) | ((first | refine F.x rfl (fun h => by cases h) rfl rfl rfl rfl fun Y Z => ?_ | refine F.u rfl (fun h => by cases h) rfl rfl rfl rfl fun Y Z => ?_); simp only [ze, reduceIte, Nat.reduceEqDiff]; refine Z _ _ ?_; clear Z Y))
   all_goals (refine F.g rfl trivial rfl rfl fun Y Z => ?_; simp only [zz, reduceIte, Nat.reduceEqDiff, Nat.reduceAdd, e0, e3, l3, e5, ho, isMap_sl, List.getD_cons_zero, List.length_map, hdt, hin, hye]; refine Z _ _ ?_; clear Z Y)
   all_goals refine F.nil ?_
   all_goals simp only [ze, reduceIte, Nat.reduceEqDiff, Nat.reduceLT, Nat.reduceLeDiff, Nat.reduceAdd, reduceCtorEq, Nat.reduceMul, e0, e3, l3, e5, ho, isMap_sl, List.getD_cons_zero, List.length_map, hdt, hin, hye]
   all_goals apply_assumption
   refine AW.cond (b := decide (cmpL y x < 0)) (by simp [ev]) (fun hc2 => ?_) (fun hc2 => ?_)
   ·have hc2 := of_decide_eq_true hc2
    refine AW.skip ?_
    all_goals simp only [zs, reduceIte, Nat.reduceEqDiff, Nat.reduceLT, Nat.reduceLeDiff, Nat.reduceAdd, reduceCtorEq, Nat.reduceMul]
    all_goals apply_assumption
    refine AW.block ?_   -- 1
    all_goals refine AW.reg0 ?_
    all_goals iterate 3 (refine S.g rfl rfl fun Y Z => ?_; simp only [zz, reduceIte, Nat.reduceEqDiff, Nat.reduceAdd, e5, hw]; refine Z _ _ ?_; clear Z Y)
    all_goals refine S.nil ?_
    all_goals simp only [ze, reduceIte, Nat.reduceEqDiff, Nat.reduceLT, Nat.reduceLeDiff, Nat.reduceAdd, reduceCtorEq, Nat.reduceMul, e5, hw]
    refine ⟨m - 1, by omega, i + 1, by omega, by omega, ?_⟩
    all_goals simp only [zs, reduceIte, Nat.reduceEqDiff, Nat.reduceLT, Nat.reduceLeDiff, Nat.reduceAdd, reduceCtorEq, Nat.reduceMul, e0, e3, l3, e5]
    intro j z hz hj
    rcases Nat.lt_or_ge j i with h | h
    ·exact hlo j z hz h
    ·obtain rfl : j = i := by omega
     rw [hy] at hz; injection hz with hz; subst hz; exact hc2
   ·have hc2 := of_decide_eq_false hc2
    refine AW.exit ?_
    all_goals simp only [zs, reduceIte, Nat.reduceEqDiff, Nat.reduceLT, Nat.reduceLeDiff, Nat.reduceAdd, reduceCtorEq, Nat.reduceMul, e0, e3, l3, e5]
    refine ⟨i, hi, rfl, hlo, fun j z hz hj => ?_⟩
    rcases Nat.lt_or_ge i j with h | h
    ·by_cases k : 0 ≤ cmpL z x
     ·exact k
     ·have := tri_L.lt_le (ht.get hy hz h) (by omega : cmpL z x ≤ 0)
      omega
    ·obtain rfl : j = i := by omega
     rw [hy] at hz; injection hz with hz; subst hz; omega
  ·have hdt : decide ((i : Int) < (rows.length : Int)) = false := by simp; omega
   refine AW.seq_k fun K6 h6 => ?_
   all_goals refine AW.drawF (T := { sd := fun d => d == 3 }) (fun _ _ h => by cases h) mixedO (.st 0 0 (.st 1 0 (.st 2 0 (.st 3 0 (.st 4 2 (.st 5 0 (.st 6 0 (.st 7 0 (.st 8 0 (.st 9 0 (.st 10 0 (.st 12 0 (.st 15 1 (.st 11 2 (.st 13 0 (.st 14 1 (.st 16 2 (.st 17 0 (.st 18 0 .nil))))))))))))))))))) rfl (by kernel_rfl) (by kernel_rfl) ?_
   all_goals iterate 6 (refine F.g rfl trivial rfl rfl fun Y Z => ?_; simp only [zz, reduceIte, Nat.reduceEqDiff, Nat.reduceLT, Nat.reduceLeDiff, Nat.reduceAdd, reduceCtorEq, Nat.reduceMul, of49_0, ok31, sz31, ag31, sl31, el31, ok24, sz24, ag24, e0, e3, l3, e5, ho, isMap_sl, List.getD_cons_zero, List.length_map, hdt]; refine Z _ _ ?_; clear Z Y)
   all_goals (refine F.g rfl trivial rfl rfl fun Y Z => ?_; simp only [zz, reduceIte, Nat.reduceEqDiff, Nat.reduceLT, Nat.reduceLeDiff, Nat.reduceAdd, reduceCtorEq, Nat.reduceMul, e0, e3, l3, e5, ho, isMap_sl, List.getD_cons_zero, List.length_map, hdt]; refine S.bool fun b a21 => ?_; cases b <;> (try (exfalso; first | exact Bool.noConfusion a21 | (have h := of_decide_eq_true a21; omega) | (have h := of_decide_eq_false a21; omega))) <;> (refine Z _ _ ?_; clear Z Y))
   all_goals (refine F.g rfl trivial rfl rfl fun Y Z => ?_; simp only [zz, reduceIte, Nat.reduceEqDiff, Nat.reduceAdd, e0, e3, l3, e5, ho, isMap_sl, List.getD_cons_zero, List.length_map, hdt]; refine Z _ _ ?_; clear Z Y)
   all_goals iterate 4 (first | (refine F.y rfl trivial rfl rfl rfl rfl fun Y Z => ?_; simp only [zz, reduceIte, Nat.reduceEqDiff, Nat.reduceLT, Nat.reduceLeDiff, Nat.reduceAdd, reduceCtorEq, Nat.reduceMul, of49_0, e0, e3, l3, e5, ho, isMap_sl, List.getD_cons_zero, List.length_map, hdt]; refine Z _ _ ?_; clear Z Y) | ((first | refine F.x rfl (fun h => by cases h) rfl rfl rfl rfl fun Y Z => ?_ | refine F.u rfl (fun h => by cases h) rfl rfl rfl rfl fun Y Z => ?_); simp only [ze, reduceIte, Nat.reduceEqDiff]; refine Z _ _ ?_; clear Z Y))
   all_goals (first | (refine F.y rfl (by first | rfl | (simp only [stC, ze, reduceIte, Nat.reduceEqDiff, e0, e3, l3, e5, ho, isMap_sl, List.getD_cons_zero, List.length_map, hdt]; done) | (simp only [stC, ze, reduceIte, Nat.reduceEqDiff, e0, e3, l3, e5, ho, isMap_sl, List.getD_cons_zero, List.length_map, hdt]; rfl)) rfl rfl rfl rfl fun Y Z => ?_; simp only [zz, reduceIte, Nat.reduceEqDiff, Nat.reduceLT, Nat.reduceLeDiff, Nat.reduceAdd, reduceCtorEq, Nat.reduceMul, ok24, sz24, ag24, e0, e3, l3, e5, ho, isMap_sl, List.getD_cons_zero, List.length_map, hdt]; refine Z _ _ ?_; clear Z Y) | ((first | refine F.x rfl (fun _ => rfl) rfl rfl rfl rfl fun Y Z => ?_ | refine F.u rfl (fun _ => rfl) rfl rfl rfl rfl fun Y Z => ?_); simp only [ze, reduceIte, Nat.reduceEqDiff]; refine Z _ _ ?_; clear Z Y))
   all_goals iterate 2 (first | (refine F.y rfl trivial rfl rfl rfl rfl fun Y Z => ?_; simp only [zz, reduceIte, Nat.reduceEqDiff, Nat.reduceLT, Nat.reduceLeDiff, Nat.reduceAdd, reduceCtorEq, Nat.reduceMul, ok31, sz31, ag31, sl31, el31, ok24, sz24, ag24, e0, e3, l3, e5, ho, isMap_sl, List.getD_cons_zero, List.length_map, hdt]; refine Z _ _ ?_; clear Z Y) | ((first | refine F.x rfl (fun h => by cases h) rfl rfl rfl rfl fun Y Z => ?_ | refine F.u rfl (fun h => by cases h) rfl rfl rfl rfl fun Y Z => ?_); simp only [ze, reduceIte, Nat.reduceEqDiff]; refine Z _ _ ?_; clear Z Y))
   all_goals (first | (refine F.y rfl (by first | rfl | (simp only [stC, ze, reduceIte, Nat.reduceEqDiff, e0, e3, l3, e5, ho, isMap_sl, List.getD_cons_zero, List.length_map, hdt]; done) | (simp only [stC, ze, reduceIte, Nat.reduceEqDiff, e0, e3, l3, e5, ho, isMap_sl, List.getD_cons_zero, List.length_map, hdt]; rfl)) rfl rfl rfl rfl fun Y Z => ?_; simp only [zz, reduceIte, Nat.reduceEqDiff, Nat.reduceLT, Nat.reduceLeDiff, Nat.reduceAdd, reduceCtorEq, Nat.reduceMul, ok24, sz24, ag24, e0, e3, l3, e5, ho, isMap_sl, List.getD_cons_zero, List.length_map, hdt]; refine Z _ _ ?_; clear Z Y) | ((first | refine F.x rfl (fun _ => rfl) rfl rfl rfl rfl fun Y Z => ?_ | refine F.u rfl (fun _ => rfl) rfl rfl rfl rfl fun Y Z => ?_); simp only [ze, reduceIte, Nat.reduceEqDiff]; refine Z _ _ ?_; clear Z Y))
   all_goals (first | (refine F.y rfl trivial rfl rfl rfl rfl fun Y Z => ?_; simp only [zz, reduceIte, Nat.reduceEqDiff, Nat.reduceLT, Nat.reduceLeDiff, Nat.reduceAdd, reduceCtorEq, Nat.reduceMul, e0, e3, l3, e5, ho, isMap_sl, List.getD_cons_zero, List.length_map, hdt]; refine PCalls.eqto (rcompare_part y x hyl) ?_ <;> (refine Z _ _ ?_; clear Z Y)) | ((first | refine F.x rfl (fun h => by cases h) rfl rfl rfl rfl fun Y Z => ?_ | refine F.u rfl (fun h => by cases h) rfl rfl rfl rfl fun Y Z => ?_); simp only [ze, reduceIte, Nat.reduceEqDiff]; refine Z _ _ ?_; clear Z Y))
   all_goals (first | (refine F.y rfl trivial rfl rfl rfl rfl fun Y Z => ?_; simp only [zz, reduceIte, Nat.reduceEqDiff, Nat.reduceAdd, e0, e3, l3, e5, ho, isMap_sl, List.getD_cons_zero, List.length_map, hdt]; refine Z _ _ ?_; clear Z Y) | ((first | refine F.x rfl (fun h => by cases h) rfl rfl rfl rfl fun Y Z => ?_ | refine F.u rfl (fun h => by cases h) rfl rfl rfl rfl fun Y Z => ?_); simp only [ze, reduceIte, Nat.reduceEqDiff]; refine Z _ _ ?_; clear Z Y))
   all_goals (refine F.g rfl trivial rfl rfl fun Y Z => ?_; simp only [zz, reduceIte, Nat.reduceEqDiff, Nat.reduceAdd, e0, e3, l3, e5, ho, isMap_sl, List.getD_cons_zero, List.length_map, hdt]; refine Z _ _ ?_; clear Z Y)
   all_goals refine F.nil ?_
   all_goals simp only [ze, reduceIte, Nat.reduceEqDiff, Nat.reduceLT, Nat.reduceLeDiff, Nat.reduceAdd, reduceCtorEq, Nat.reduceMul, e0, e3, l3, e5, ho, isMap_sl, List.getD_cons_zero, List.length_map, hdt]
   all_goals apply_assumption
   refine AW.cond (b := false) (by simp [ev]) (fun hc => by cases hc) (fun hc => ?_)
   refine AW.exit ?_
   all_goals simp only [zs, reduceIte, Nat.reduceEqDiff, Nat.reduceLT, Nat.reduceLeDiff, Nat.reduceAdd, reduceCtorEq, Nat.reduceMul, e0, e3, l3, e5]
   exact ⟨i, hi, rfl, hlo, fun j z hz hj => by have := (List.getElem?_eq_some_iff.1 hz).1; omega⟩
 rintro s σ2 ⟨rfl, e0, e3, l3, i, hi, e5, hat⟩
 have hadd : addL rows x = rows.take i ++ x :: rows.drop i := by rw [addL, if_pos hf', hat.ins hi]
 rw [hf, hadd]
 have hto0 : Int.toNat 0 = 0 := rfl
 refine AW.seq_j (fun s σ3 => s.t 0 = .c (.pointer (some ⟨g, 0, none⟩)) ∧ s.t 3 = .lp 3 0 ∧ s.l 3 = some [.sl (x.map encBd)] ∧ s.t 5 = .c (.int .i64 (i : Nat)) ∧ ∃ ka, s.t 6 = .gl ka ∧ σ2.gr ka = none ∧ σ3 = σ2.setGr ka (some ((24, 1), (rows.take i).map encP))) ?_ ?_
 ·skip
  all_goals refine AW.reg0 ?_
  all_goals iterate 5 (refine S.g rfl rfl fun Y Z => ?_; simp only [zz, reduceIte, Nat.reduceEqDiff, Nat.reduceLT, Nat.reduceLeDiff, Nat.reduceAdd, reduceCtorEq, Nat.reduceMul, of49_0, ok31, sz31, ag31, e0, e5, ho, isMap_sl, List.getD_cons_zero, hto0, List.drop_zero, Nat.sub_zero]; refine Z _ _ ?_; clear Z Y)
  all_goals (refine S.g rfl rfl fun Y Z => ?_; simp only [zz, reduceIte, Nat.reduceEqDiff, Nat.reduceLT, Nat.reduceLeDiff, Nat.reduceAdd, reduceCtorEq, Nat.reduceMul, sl31, el31, ok24, sz24, ag24, e0, e5, ho, isMap_sl, List.getD_cons_zero, hto0, List.drop_zero, Nat.sub_zero]; refine ⟨by omega, hi, encP_len, ?_⟩ <;> (refine Z _ _ ?_; clear Z Y))
  all_goals (refine S.g rfl rfl fun Y Z => ?_; simp only [zz, reduceIte, Nat.reduceEqDiff, Nat.reduceLT, Nat.reduceLeDiff, Nat.reduceAdd, reduceCtorEq, Nat.reduceMul, sl31, el31, ok24, sz24, ag24, zt24, by24, e0, e5, ho, isMap_sl, List.getD_cons_zero, hto0, List.drop_zero, Nat.sub_zero]; refine ⟨fun e he => encP_len e (List.mem_of_mem_take he), by unfold maxLen; simp; omega, by unfold reach; simp; omega, fun ka hka => ?_⟩ <;> (refine Z _ _ ?_; clear Z Y))
  all_goals (refine S.g rfl rfl fun Y Z => ?_; simp only [zz, reduceIte, Nat.reduceEqDiff, Nat.reduceAdd, e0, e5, ho, isMap_sl, List.getD_cons_zero, hto0, List.drop_zero, Nat.sub_zero]; refine Z _ _ ?_; clear Z Y)
  all_goals refine S.nil ?_
  all_goals simp only [ze, reduceIte, Nat.reduceEqDiff, Nat.reduceLT, Nat.reduceLeDiff, Nat.reduceAdd, reduceCtorEq, Nat.reduceMul, e0, e5, ho, isMap_sl, List.getD_cons_zero, hto0, List.drop_zero, Nat.sub_zero]
  all_goals simp only [zs, reduceIte, Nat.reduceEqDiff, Nat.reduceLT, Nat.reduceLeDiff, Nat.reduceAdd, reduceCtorEq, Nat.reduceMul, e0, e3, l3, e5]
  exact ⟨ka, rfl, hka, by simp [Hp.delO]⟩
 rintro s σ3 ⟨e0, e3, l3, e5, ka, e6, hka, rfl⟩
 refine AW.seq_j (fun s σ3 => ∃ kc, σ2.gr kc = none ∧ σ3 = (σ2.setObj g (some [.gl kc])).setGr kc (some ((24, 1), (rows.take i ++ x :: rows.drop i).map encP))) ?_ ?_
 ·have htk : ((rows.map encP).drop i).take (rows.length - i) = (rows.drop i).map encP := by
   rw [← List.map_drop, List.take_of_length_le (by simp)]
  all_goals refine AW.drawF (T := { sd := fun d => d == 3 }) (fun _ _ h => by cases h) mixedO (.st 0 0 (.st 1 0 (.st 6 0 (.st 7 0 (.st 8 0 (.st 10 0 (.st 2 1 (.fork 3 (.fork 4 (.fork 5 (.st 9 2 (.st 11 2 (.st 12 2 (.st 13 0 (.st 14 0 (.st 15 2 .nil)))))) 9 (.fork 5 (.st 11 2 (.st 12 2 (.st 13 0 (.st 14 0 (.st 15 2 .nil))))) 11 (.st 5 2 (.st 12 2 (.st 13 0 (.st 14 0 (.st 15 2 .nil))))))) 9 (.fork 4 (.fork 5 (.st 11 2 (.st 12 2 (.st 13 0 (.st 14 0 (.st 15 2 .nil))))) 11 (.st 5 2 (.st 12 2 (.st 13 0 (.st 14 0 (.st 15 2 .nil)))))) 11 (.st 4 2 (.st 5 2 (.st 12 2 (.st 13 0 (.st 14 0 (.st 15 2 .nil)))))))) 9 (.fork 3 (.fork 4 (.fork 5 (.st 11 2 (.st 12 2 (.st 13 0 (.st 14 0 (.st 15 2 .nil))))) 11 (.st 5 2 (.st 12 2 (.st 13 0 (.st 14 0 (.st 15 2 .nil)))))) 11 (.st 4 2 (.st 5 2 (.st 12 2 (.st 13 0 (.st 14 0 (.st 15 2 .nil))))))) 11 (.st 3 2 (.st 4 2 (.st 5 2 (.st 12 2 (.st 13 0 (.st 14 0 (.st 15 2 .nil)))))))))))))))) rfl (by kernel_rfl) (by kernel_rfl) ?_
  all_goals iterate 6 (refine F.g rfl trivial rfl rfl fun Y Z => ?_; simp only [zz, reduceIte, Nat.reduceEqDiff, Nat.reduceLT, Nat.reduceLeDiff, Nat.reduceAdd, reduceCtorEq, Nat.reduceMul, of49_0, e0, e3, l3, e5, e6, ho, isMap_sl, List.getD_cons_zero, List.length_map, sl31, el31, sz24, ok31, sz31, ag31, true_and, not_false_eq_true]; refine Z _ _ ?_; clear Z Y)
  all_goals (refine F.g rfl (by first | rfl | (simp only [stC, ze, reduceIte, Nat.reduceEqDiff, e0, e3, l3, e5, e6, ho, isMap_sl, List.getD_cons_zero, List.length_map, sl31, el31, sz24, ok31, sz31, ag31, true_and, not_false_eq_true]; done) | (simp only [stC, ze, reduceIte, Nat.reduceEqDiff, e0, e3, l3, e5, e6, ho, isMap_sl, List.getD_cons_zero, List.length_map, sl31, el31, sz24, ok31, sz31, ag31, true_and, not_false_eq_true]; rfl)) rfl rfl fun Y Z => ?_; simp only [zz, reduceIte, Nat.reduceEqDiff, Nat.reduceLT, Nat.reduceLeDiff, Nat.reduceAdd, reduceCtorEq, Nat.reduceMul, ok24, sz24, ag24, e0, e3, l3, e5, e6, ho, isMap_sl, List.getD_cons_zero, List.length_map, sl31, el31, sz24, ok31, sz31, ag31, true_and, not_false_eq_true]; refine Z _ _ ?_; clear Z Y)
  all_goals (try first | refine F.fork ?_ ?_ | refine F.fork3 ?_ ?_ ?_)
  all_goals first | (refine F.g rfl trivial rfl rfl fun Y Z => ?_; simp only [zz, reduceIte, Nat.reduceEqDiff, Nat.reduceLT, Nat.reduceLeDiff, Nat.reduceAdd, reduceCtorEq, Nat.reduceMul, e0, e3, l3, e5, e6, ho, isMap_sl, List.getD_cons_zero, List.length_map, sl31, el31, sz24, ok31, sz31, ag31, true_and, not_false_eq_true]; refine PCalls.eqto (rclone_part x hx.attrs hx.len) ?_ <;> (refine Z _ _ ?_; clear Z Y)) | (refine F.g rfl trivial rfl rfl fun Y Z => ?_; simp only [zz, reduceIte, Nat.reduceEqDiff, Nat.reduceLT, Nat.reduceLeDiff, Nat.reduceAdd, reduceCtorEq, Nat.reduceMul, ok31, sz31, ag31, e0, e3, l3, e5, e6, ho, isMap_sl, List.getD_cons_zero, List.length_map, sl31, el31, sz24, ok31, sz31, ag31, true_and, not_false_eq_true]; refine Z _ _ ?_; clear Z Y)
  all_goals (try first | refine F.fork ?_ ?_ | refine F.fork3 ?_ ?_ ?_)
  all_goals first | (refine F.g rfl trivial rfl rfl fun Y Z => ?_; simp only [zz, reduceIte, Nat.reduceEqDiff, Nat.reduceLT, Nat.reduceLeDiff, Nat.reduceAdd, reduceCtorEq, Nat.reduceMul, e0, e3, l3, e5, e6, ho, isMap_sl, List.getD_cons_zero, List.length_map, sl31, el31, sz24, ok31, sz31, ag31, true_and, not_false_eq_true]; refine PCalls.eqto (rclone_part x hx.attrs hx.len) ?_ <;> (refine Z _ _ ?_; clear Z Y)) | (refine F.g rfl trivial rfl rfl fun Y Z => ?_; simp only [zz, reduceIte, Nat.reduceEqDiff, Nat.reduceLT, Nat.reduceLeDiff, Nat.reduceAdd, reduceCtorEq, Nat.reduceMul, sl31, el31, ok24, sz24, ag24, e0, e3, l3, e5, e6, ho, isMap_sl, List.getD_cons_zero, List.length_map, sl31, el31, sz24, ok31, sz31, ag31, true_and, not_false_eq_true]; refine ⟨hi, encP_len, ?_⟩ <;> (refine Z _ _ ?_; clear Z Y)) | (refine F.g rfl trivial rfl rfl fun Y Z => ?_; simp only [zb, reduceIte, Nat.reduceEqDiff, Nat.reduceLT, Nat.reduceLeDiff, Nat.reduceAdd, reduceCtorEq, Nat.reduceMul, sl31, el31, ok24, sz24, ag24, zt24, by24, e0, e3, l3, e5, e6, ho, isMap_sl, List.getD_cons_zero, List.length_map, sl31, el31, sz24, ok31, sz31, ag31, true_and, not_false_eq_true]; refine Z _ _ ?_; clear Z Y) | (refine F.g rfl trivial rfl rfl fun Y Z => ?_; simp only [zz, reduceIte, Nat.reduceEqDiff, Nat.reduceLT, Nat.reduceLeDiff, Nat.reduceAdd, reduceCtorEq, Nat.reduceMul, ok31, sz31, ag31, e0, e3, l3, e5, e6, ho, isMap_sl, List.getD_cons_zero, List.length_map, sl31, el31, sz24, ok31, sz31, ag31, true_and, not_false_eq_true]; refine Z _ _ ?_; clear Z Y)
  all_goals (try first | refine F.fork ?_ ?_ | refine F.fork3 ?_ ?_ ?_)
  all_goals first | (refine F.g rfl trivial rfl rfl fun Y Z => ?_; simp only [zz, reduceIte, Nat.reduceEqDiff, Nat.reduceLT, Nat.reduceLeDiff, Nat.reduceAdd, reduceCtorEq, Nat.reduceMul, sl31, el31, ok24, sz24, ag24, zt24, by24, e0, e3, l3, e5, e6, ho, isMap_sl, List.getD_cons_zero, List.length_map, sl31, el31, sz24, ok31, sz31, ag31, true_and, not_false_eq_true]; refine ⟨fun e he => by (simp at he; rw [he]; rfl), by unfold maxLen; simp; omega, by unfold reach; simp; omega, fun kb hkb => ?_⟩ <;> (refine Z _ _ ?_; clear Z Y)) | (refine F.g rfl trivial rfl rfl fun Y Z => ?_; simp only [zz, reduceIte, Nat.reduceEqDiff, Nat.reduceLT, Nat.reduceLeDiff, Nat.reduceAdd, reduceCtorEq, Nat.reduceMul, sl31, el31, ok24, sz24, ag24, e0, e3, l3, e5, e6, ho, isMap_sl, List.getD_cons_zero, List.length_map, sl31, el31, sz24, ok31, sz31, ag31, true_and, not_false_eq_true]; refine ⟨hi, encP_len, ?_⟩ <;> (refine Z _ _ ?_; clear Z Y)) | (refine F.g rfl trivial rfl rfl fun Y Z => ?_; simp only [zz, reduceIte, Nat.reduceEqDiff, Nat.reduceLT, Nat.reduceLeDiff, Nat.reduceAdd, reduceCtorEq, Nat.reduceMul, e0, e3, l3, e5, e6, ho, isMap_sl, List.getD_cons_zero, List.length_map, sl31, el31, sz24, ok31, sz31, ag31, true_and, not_false_eq_true]; refine PCalls.eqto (rclone_part x hx.attrs hx.len) ?_ <;> (refine Z _ _ ?_; clear Z Y)) | (refine F.g rfl trivial rfl rfl fun Y Z => ?_; simp only [zz, reduceIte, Nat.reduceEqDiff, Nat.reduceLT, Nat.reduceLeDiff, Nat.reduceAdd, reduceCtorEq, Nat.reduceMul, ok31, sz31, ag31, e0, e3, l3, e5, e6, ho, isMap_sl, List.getD_cons_zero, List.length_map, sl31, el31, sz24, ok31, sz31, ag31, true_and, not_false_eq_true]; refine Z _ _ ?_; clear Z Y) | (refine F.g rfl trivial rfl rfl fun Y Z => ?_; simp only [zb, reduceIte, Nat.reduceEqDiff, Nat.reduceLT, Nat.reduceLeDiff, Nat.reduceAdd, reduceCtorEq, Nat.reduceMul, sl31, el31, ok24, sz24, ag24, zt24, by24, e0, e3, l3, e5, e6, ho, isMap_sl, List.getD_cons_zero, List.length_map, sl31, el31, sz24, ok31, sz31, ag31, true_and, not_false_eq_true]; refine Z _ _ ?_; clear Z Y)
  all_goals (try first | refine F.fork ?_ ?_ | refine F.fork3 ?_ ?_ ?_)
  all_goals first | (refine F.g rfl trivial rfl rfl fun Y Z => ?_; simp only [zz, reduceIte, Nat.reduceEqDiff, Nat.reduceLT, Nat.reduceLeDiff, Nat.reduceAdd, reduceCtorEq, Nat.reduceMul, sl31, el31, ok24, sz24, ag24, zt24, by24, e0, e3, l3, e5, e6, ho, isMap_sl, List.getD_cons_zero, List.length_map, sl31, el31, sz24, ok31, sz31, ag31, true_and, not_false_eq_true]; refine ⟨fun e he => by (simp at he; rw [he]; rfl), by unfold maxLen; simp; omega, by unfold reach; simp; omega, fun kb hkb => ?_⟩ <;> (refine Z _ _ ?_; clear Z Y)) | (refine F.g rfl trivial rfl rfl fun Y Z => ?_; simp only [zz, reduceIte, Nat.reduceEqDiff, Nat.reduceLT, Nat.reduceLeDiff, Nat.reduceAdd, reduceCtorEq, Nat.reduceMul, sl31, el31, ok24, sz24, ag24, e0, e3, l3, e5, e6, ho, isMap_sl, List.getD_cons_zero, List.length_map, sl31, el31, sz24, ok31, sz31, ag31, true_and, not_false_eq_true]; refine ⟨hi, encP_len, ?_⟩ <;> (refine Z _ _ ?_; clear Z Y)) | (refine F.g rfl trivial rfl rfl fun Y Z => ?_; simp only [zz, reduceIte, Nat.reduceEqDiff, Nat.reduceLT, Nat.reduceLeDiff, Nat.reduceAdd, reduceCtorEq, Nat.reduceMul, ok31, sz31, ag31, e0, e3, l3, e5, e6, ho, isMap_sl, List.getD_cons_zero, List.length_map, sl31, el31, sz24, ok31, sz31, ag31, true_and, not_false_eq_true]; refine Z _ _ ?_; clear Z Y) | (refine F.g rfl trivial rfl rfl fun Y Z => ?_; simp only [zb, reduceIte, Nat.reduceEqDiff, Nat.reduceLT, Nat.reduceLeDiff, Nat.reduceAdd, reduceCtorEq, Nat.reduceMul, sl31, el31, ok24, sz24, ag24, zt24, by24, e0, e3, l3, e5, e6, ho, isMap_sl, List.getD_cons_zero, List.length_map, sl31, el31, sz24, ok31, sz31, ag31, true_and, not_false_eq_true]; refine Z _ _ ?_; clear Z Y)
  all_goals first | (refine F.g rfl trivial rfl rfl fun Y Z => ?_; simp only [zz, reduceIte, Nat.reduceEqDiff, Nat.reduceLT, Nat.reduceLeDiff, Nat.reduceAdd, reduceCtorEq, Nat.reduceMul, sl31, el31, ok24, sz24, ag24, e0, e3, l3, e5, e6, ho, isMap_sl, List.getD_cons_zero, List.length_map, sl31, el31, sz24, ok31, sz31, ag31, true_and, not_false_eq_true]; refine ⟨hi, encP_len, ?_⟩ <;> (refine Z _ _ ?_; clear Z Y)) | (refine F.g rfl trivial rfl rfl fun Y Z => ?_; simp only [zz, reduceIte, Nat.reduceEqDiff, Nat.reduceLT, Nat.reduceLeDiff, Nat.reduceAdd, reduceCtorEq, Nat.reduceMul, sl31, el31, ok24, sz24, ag24, zt24, by24, e0, e3, l3, e5, e6, ho, isMap_sl, List.getD_cons_zero, List.length_map, sl31, el31, sz24, ok31, sz31, ag31, true_and, not_false_eq_true]; refine ⟨fun e he => by (simp at he; rw [he]; rfl), by unfold maxLen; simp; omega, by unfold reach; simp; omega, fun kb hkb => ?_⟩ <;> (refine Z _ _ ?_; clear Z Y))
  all_goals (refine F.g rfl trivial rfl rfl fun Y Z => ?_; simp only [zz, reduceIte, Nat.reduceEqDiff, Nat.reduceLT, Nat.reduceLeDiff, Nat.reduceAdd, reduceCtorEq, Nat.reduceMul, sl31, el31, ok24, sz24, ag24, zt24, by24, e0, e3, l3, e5, e6, ho, isMap_sl, List.getD_cons_zero, List.length_map, sl31, el31, sz24, ok31, sz31, ag31, true_and, not_false_eq_true]; refine ⟨fun e he => encP_len e (List.mem_of_mem_drop (List.mem_of_mem_take he)), by unfold maxLen; simp; omega, by unfold reach; simp; omega, fun kc hkc => ?_⟩ <;> (refine Z _ _ ?_; clear Z Y))
  all_goals iterate 3 (refine F.g rfl trivial rfl rfl fun Y Z => ?_; simp only [zz, reduceIte, Nat.reduceEqDiff, Nat.reduceLT, Nat.reduceLeDiff, Nat.reduceAdd, reduceCtorEq, Nat.reduceMul, of49_0, ok31, sz31, ag31, e0, e3, l3, e5, e6, ho, isMap_sl, List.getD_cons_zero, List.length_map, sl31, el31, sz24, ok31, sz31, ag31, true_and, not_false_eq_true]; refine Z _ _ ?_; clear Z Y)
  all_goals refine F.nil ?_
  all_goals simp only [ze, reduceIte, Nat.reduceEqDiff, Nat.reduceLT, Nat.reduceLeDiff, Nat.reduceAdd, reduceCtorEq, Nat.reduceMul, e0, e3, l3, e5, e6, ho, isMap_sl, List.getD_cons_zero, List.length_map, sl31, el31, sz24, ok31, sz31, ag31, true_and, not_false_eq_true]
  all_goals
   have hkb2 : σ2.gr kb = none := by
    by_cases e : kb = ka
    ·rw [e]; exact hka
    ·simpa [e] using hkb
   have hkc2 : σ2.gr kc = none := by
    by_cases e : kc = kb
    ·rw [e]; exact hkb2
    ·by_cases e2 : kc = ka
     ·rw [e2]; exact hka
     ·simpa [e, e2] using hkc
   refine ⟨kc, hkc2, hp_ext (fun z => ?_) (fun j => ?_)⟩
   ·by_cases e : z = g <;> simp [Hp.setObj, Hp.setGr, e]
   ·by_cases e : j = kc
    ·simp [Hp.setObj, Hp.setGr, e, encP]
     exact List.take_of_length_le (by simp)
    ·by_cases e2 : j = kb
     ·rw [e2] at e ⊢
      simp [Hp.setObj, Hp.setGr, e, hkb2]
     ·by_cases e3 : j = ka
      ·rw [e3] at e e2 ⊢
       simp [Hp.setObj, Hp.setGr, e, e2, hka]
      ·simp [Hp.setObj, Hp.setGr, e, e2, e3]
 rintro s σ3 ⟨kc, hkc, rfl⟩
 refine AW.seq_k fun K7 h7 => ?_
 all_goals refine AW.reg0 ?_
 all_goals (refine S.g rfl rfl fun Y Z => ?_; simp only [zz, reduceIte, Nat.reduceEqDiff, Nat.reduceAdd]; refine Z _ _ ?_; clear Z Y)
 all_goals refine S.nil ?_
 all_goals simp only [ze, reduceIte, Nat.reduceEqDiff, Nat.reduceLT, Nat.reduceLeDiff, Nat.reduceAdd, reduceCtorEq, Nat.reduceMul]
 all_goals apply_assumption
 refine AW.freezeO (k := kc) (g := g) (T := (24, 1)) (es := (rows.take i ++ x :: rows.drop i).map encP) (cells := [.gl kc]) (by simp) (by simp) rfl (AW.ret ?_)
 all_goals simp only [zs, reduceIte, Nat.reduceEqDiff, Nat.reduceLT, Nat.reduceLeDiff, Nat.reduceAdd, reduceCtorEq, Nat.reduceMul, fzV, fz1, St.fz_t, St.fz_l]
 refine hp_ext (fun z => ?_) (fun j => ?_)
 ·by_cases e : z = g <;> simp [e, fz1]
 ·by_cases e : j = kc <;> simp [e, hkc]
end Go.Abs.M
