import Derived.Test.YtmhamgllanihoaaGreatOwf
namespace Go.Abs.M
open Go Go.Abs Go.Proofs
set_option maxRecDepth 20000
set_option linter.unusedSimpArgs false
set_option linter.unusedVariables false
theorem rnewSet_spec (rows : List (List Bd)) (σ : Hp) (hr : rows.length * 24 ≤ 140737488355328) (hok : ∀ x ∈ rows, okI x) :
  ACalls Tryz.prog 12 [.sl (rows.map encP)] σ (fun v σ' => ∃ g, v = ptrV g ∧ σ.obj g = none ∧ σ' = σ.setObj g (some [.sl ((setL rows).map encP)])) := by
 refine ACalls.intro Tryz.call12 Tryz.func12 rfl Tryz.ntmps12 Tryz.results12 (by simp) ?_
 refine AW.seq_k fun K1 h1 => ?_
 refine AW.reg0 ?_
 (refine S.g rfl rfl fun Y Z => ?_; simp only [zz, reduceIte, Nat.reduceEqDiff, Nat.reduceAdd]; refine Z _ _ ?_; clear Z Y)
 refine S.nil ?_
 simp only [ze, reduceIte, Nat.reduceEqDiff, Nat.reduceLT, Nat.reduceLeDiff, Nat.reduceAdd, reduceCtorEq, Nat.reduceMul]
 apply_assumption
 refine AW.seq_k fun K2 h2 => ?_
 refine AW.region (T := { hp := fun d => d == 6 }) (fun _ _ h => by cases h) rfl ?_
 (refine S.g rfl rfl fun Y Z => ?_; simp only [zz, reduceIte, Nat.reduceEqDiff, Nat.reduceLT, Nat.reduceLeDiff, Nat.reduceAdd, reduceCtorEq, Nat.reduceMul, zt49, pl49]; refine Z _ _ ?_; clear Z Y)
 (refine S.g rfl rfl fun Y Z => ?_; simp only [zz, reduceIte, Nat.reduceEqDiff, Nat.reduceLT, Nat.reduceLeDiff, Nat.reduceAdd, reduceCtorEq, Nat.reduceMul, ok49, sz49, ag49]; intro g hg <;> (refine Z _ _ ?_; clear Z Y))
 (refine S.g rfl rfl fun Y Z => ?_; simp only [zz, reduceIte, Nat.reduceEqDiff, Nat.reduceAdd]; refine Z _ _ ?_; clear Z Y)
 refine S.nil ?_
 simp only [ze, reduceIte, Nat.reduceEqDiff, Nat.reduceLT, Nat.reduceLeDiff, Nat.reduceAdd, reduceCtorEq, Nat.reduceMul]
 apply_assumption
 refine AW.nilO (g := g) (cells := [.c (.slice none 0 0)]) (by simp) rfl ?_
 simp only [Hp.setObj_setObj, List.map_cons, List.map_nil, wk1]
 refine AW.seq_j (fun s σ' => s.t 3 = .c (.pointer (some ⟨g, 0, none⟩)) ∧ σ' = σ.setObj g (some [.sl ((setL rows).map encP)])) ?_ ?_
 ·refine AW.seq_k fun K3 h3 => ?_
  refine AW.reg0 ?_
  (refine S.g rfl rfl fun Y Z => ?_; simp only [zz, reduceIte, Nat.reduceEqDiff, Nat.reduceAdd]; refine Z _ _ ?_; clear Z Y)
  refine S.nil ?_
  simp only [ze, reduceIte, Nat.reduceEqDiff, Nat.reduceLT, Nat.reduceLeDiff, Nat.reduceAdd, reduceCtorEq, Nat.reduceMul]
  apply_assumption
  refine AW.block ?_   -- 0
  refine AW.loop (fun m s σ' => ∃ i : Nat, m = rows.length - i ∧ i ≤ rows.length ∧ s.t 0 = .sl (rows.map encP) ∧ s.t 3 = .c (.pointer (some ⟨g, 0, none⟩)) ∧ s.t 4 = .c (.int .i64 (i : Nat)) ∧ σ' = σ.setObj g (some [.sl ((setL (rows.take i)).map encP)])) rows.length ?_ ?_
  ·refine ⟨0, by omega, Nat.zero_le _, ?_⟩
   simp only [zs, reduceIte, Nat.reduceEqDiff, Nat.reduceLT, Nat.reduceLeDiff, Nat.reduceAdd, reduceCtorEq, Nat.reduceMul]
   exact ⟨rfl, rfl⟩
  rintro m s σ1 ⟨i, hm, hi, e0, e3, e4, rfl⟩
  refine AW.seq_k fun K4 h4 => ?_
  refine AW.seq_k fun K5 h5 => ?_
  refine AW.reg0 ?_
  iterate 4 (refine S.g rfl rfl fun Y Z => ?_; simp only [zz, reduceIte, Nat.reduceEqDiff, Nat.reduceLT, Nat.reduceLeDiff, Nat.reduceAdd, reduceCtorEq, Nat.reduceMul, sl31, el31, ok24, sz24, ag24, e0, e4, List.length_map]; refine Z _ _ ?_; clear Z Y)
  refine S.nil ?_
  simp only [ze, reduceIte, Nat.reduceEqDiff, Nat.reduceLT, Nat.reduceLeDiff, Nat.reduceAdd, reduceCtorEq, Nat.reduceMul, e0, e4, List.length_map]
  apply_assumption
  refine AW.cond (b := decide (i < rows.length)) (by simp [ev]) (fun hc => ?_) (fun hc => ?_)
  ·have hc := of_decide_eq_true hc
   refine AW.skip ?_
   simp only [zs, reduceIte, Nat.reduceEqDiff, Nat.reduceLT, Nat.reduceLeDiff, Nat.reduceAdd, reduceCtorEq, Nat.reduceMul]
   apply_assumption
   obtain ⟨x, hx⟩ : ∃ x, rows[i]? = some x := ⟨_, List.getElem?_eq_getElem hc⟩
   have hxm := List.mem_of_getElem? hx
   have hxe := encP_gd hx
   have hps : (σ.setObj g (some [.sl ((setL (rows.take i)).map encP)])).obj g = some [.sl ((setL (rows.take i)).map encP)] := by simp
   obtain ⟨hsr, hln, hmm⟩ := setL_ind (rows.take i)
   rw [List.length_take] at hln
   have hn : ((setL (rows.take i)).length + 1) * 24 ≤ 140737488355328 := by omega
   have hll : ∀ y ∈ setL (rows.take i), y.length < 4611686018427387904 := fun y hy => by
    have := (hok y (List.mem_of_mem_take (hmm y hy))).len
    omega
   have hw : IntKind.i64.wrap ((i : Int) + 1) = ((i + 1 : Nat) : Int) := by rw [wrap_small _ (by omega) (by omega)]; rfl
   refine AW.seq_k fun K6 h6 => ?_
   refine AW.block ?_   -- 1
   refine AW.reg0 ?_
   iterate 5 (refine S.g rfl rfl fun Y Z => ?_; simp only [zz, reduceIte, Nat.reduceEqDiff, Nat.reduceLT, Nat.reduceLeDiff, Nat.reduceAdd, reduceCtorEq, Nat.reduceMul, sl31, el31, ok24, sz24, ag24, e0, e3, e4, List.length_map, hc, hxe]; refine Z _ _ ?_; clear Z Y)
   (refine S.g rfl rfl fun Y Z => ?_; simp only [zz, reduceIte, Nat.reduceEqDiff, Nat.reduceLT, Nat.reduceLeDiff, Nat.reduceAdd, reduceCtorEq, Nat.reduceMul, e0, e3, e4, List.length_map, hc, hxe]; refine (radd_spec g (setL (rows.take i)) x _ hps hsr hn hll (hok x hxm)).to fun v σ3 hv => ?_; obtain ⟨rfl, rfl⟩ := hv <;> (refine Z _ _ ?_; clear Z Y))
   refine S.nil ?_
   simp only [ze, reduceIte, Nat.reduceEqDiff, Nat.reduceLT, Nat.reduceLeDiff, Nat.reduceAdd, reduceCtorEq, Nat.reduceMul, e0, e3, e4, List.length_map, hc, hxe]
   apply_assumption
   refine AW.reg0 ?_
   iterate 3 (refine S.g rfl rfl fun Y Z => ?_; simp only [zz, reduceIte, Nat.reduceEqDiff, Nat.reduceAdd, e4, hw]; refine Z _ _ ?_; clear Z Y)
   refine S.nil ?_
   simp only [ze, reduceIte, Nat.reduceEqDiff, Nat.reduceLT, Nat.reduceLeDiff, Nat.reduceAdd, reduceCtorEq, Nat.reduceMul, e4, hw]
   refine ⟨m - 1, by omega, i + 1, by omega, by omega, ?_⟩
   simp only [zs, reduceIte, Nat.reduceEqDiff, Nat.reduceLT, Nat.reduceLeDiff, Nat.reduceAdd, reduceCtorEq, Nat.reduceMul, e0, e3, e4]
   rw [setL_take hx]
  ·have hc := of_decide_eq_false hc
   refine AW.exit ?_
   simp only [zs, reduceIte, Nat.reduceEqDiff, Nat.reduceLT, Nat.reduceLeDiff, Nat.reduceAdd, reduceCtorEq, Nat.reduceMul, e3]
   have : i = rows.length := by omega
   subst this
   rw [List.take_length]
 rintro s σ1 ⟨e3, rfl⟩
 refine AW.seq_k fun K7 h7 => ?_
 refine AW.reg0 ?_
 iterate 2 (refine S.g rfl rfl fun Y Z => ?_; simp only [zz, reduceIte, Nat.reduceEqDiff, Nat.reduceAdd, e3]; refine Z _ _ ?_; clear Z Y)
 refine S.nil ?_
 simp only [ze, reduceIte, Nat.reduceEqDiff, Nat.reduceLT, Nat.reduceLeDiff, Nat.reduceAdd, reduceCtorEq, Nat.reduceMul, e3]
 apply_assumption
 refine AW.ret ?_
 simp only [zs, reduceIte, Nat.reduceEqDiff, Nat.reduceLT, Nat.reduceLeDiff, Nat.reduceAdd, reduceCtorEq, Nat.reduceMul]
 exact ⟨g, rfl, hg, rfl⟩
end Go.Abs.M
namespace Go.Abs.M
open Go Go.Abs Go.Proofs
set_option maxRecDepth 20000
set_option linter.unusedSimpArgs false
set_option linter.unusedVariables false
/-- What 'told' keeps between two rounds. -/
structure TI (r3 r4 r5 : Nat) (rows : List (List Bd)) (i : Nat) (σ : Hp) : Prop where
  o3 : σ.obj r3 = some [.sl (rows.map encP)]
  o4 : σ.obj r4 = some [.c (.bool false)]
  o5 : σ.obj r5 = some [.c (.int .i64 (i : Nat))]
set_option maxHeartbeats 2000000 in
theorem told_spec (rows : List (List Bd)) (hr : rows.length * 24 ≤ 140737488355328) (hok : ∀ x ∈ rows, okI x) :
  PCalls Tryz.prog 11 [.fn (.func 31) [] [capV rows], .sl (rows.map encP)] (fun v => v = .c (.bool true)) := by
 refine ACalls.bare (R := fun v _ => v = .c (.bool true)) ?_ (fun v _ h => h)
 refine ACalls.intro Tryz.call11 Tryz.func11 rfl Tryz.ntmps11 Tryz.results11 (by simp) ?_
 refine AW.seq_k fun K1 h1 => ?_
 all_goals refine AW.region (T := { hp := fun d => d == 3 || d == 4 }) (fun _ _ h => by cases h) rfl ?_
 all_goals (refine S.g rfl rfl fun Y Z => ?_; simp only [zz, reduceIte, Nat.reduceEqDiff, Nat.reduceLT, Nat.reduceLeDiff, Nat.reduceAdd, reduceCtorEq, Nat.reduceMul, ok31, sz31, ag31]; intro r3 hr3 <;> (refine Z _ _ ?_; clear Z Y))
 all_goals (refine S.g rfl rfl fun Y Z => ?_; simp only [zz, reduceIte, Nat.reduceEqDiff, Nat.reduceLT, Nat.reduceLeDiff, Nat.reduceAdd, reduceCtorEq, Nat.reduceMul, zt4]; intro r4 hr4 <;> (refine Z _ _ ?_; clear Z Y))
 all_goals refine S.nil ?_
 all_goals simp only [ze, reduceIte, Nat.reduceEqDiff, Nat.reduceLT, Nat.reduceLeDiff, Nat.reduceAdd, reduceCtorEq, Nat.reduceMul]
 all_goals apply_assumption
 refine AW.seq_k fun K2 h2 => ?_
 all_goals refine AW.region (T := { hp := fun d => d == 5 }) (fun _ _ h => by cases h) rfl ?_
 all_goals (refine S.g rfl rfl fun Y Z => ?_; simp only [zz, reduceIte, Nat.reduceEqDiff, Nat.reduceLT, Nat.reduceLeDiff, Nat.reduceAdd, reduceCtorEq, Nat.reduceMul, zt3, isMap_c, true_and]; intro r5 hr5 <;> (refine Z _ _ ?_; clear Z Y))
 all_goals (refine S.g rfl rfl fun Y Z => ?_; simp only [zz, reduceIte, Nat.reduceEqDiff, Nat.reduceLT, Nat.reduceLeDiff, Nat.reduceAdd, reduceCtorEq, Nat.reduceMul, ok3, sz3, ag3, isMap_c, true_and]; refine Z _ _ ?_; clear Z Y)
 all_goals refine S.nil ?_
 all_goals simp only [ze, reduceIte, Nat.reduceEqDiff, Nat.reduceLT, Nat.reduceLeDiff, Nat.reduceAdd, reduceCtorEq, Nat.reduceMul, isMap_c, true_and]
 all_goals apply_assumption
 have hri0 : TI r3 r4 r5 rows 0 (((Hp.empty.setObj r3 (some [.sl (rows.map encP)])).setObj r4 (some [.c (.bool false)])).setObj r5 (some [.c (.int .i64 (0 : Int))])) := by
  have n1 : r3 ≠ r4 := fun e => by rw [← e] at hr4; simp at hr4
  have n2 : r3 ≠ r5 := fun e => by rw [← e] at hr5; simp [n1] at hr5
  have n3 : r4 ≠ r5 := fun e => by rw [← e] at hr5; simp at hr5
  exact ⟨by simp [n1, n2], by simp [n3], by simp⟩
 have hne : r3 ≠ r5 ∧ r4 ≠ r5 := by
  have n1 : r3 ≠ r4 := fun e => by rw [← e] at hr4; simp at hr4
  exact ⟨fun e => by rw [← e] at hr5; simp [n1] at hr5, fun e => by rw [← e] at hr5; simp at hr5⟩
 obtain ⟨n1, n2⟩ := hne
 clear hr3 hr4 hr5
 generalize ((Hp.empty.setObj r3 (some [.sl (rows.map encP)])).setObj r4 (some [.c (.bool false)])).setObj r5 (some [.c (.int .i64 (0 : Int))]) = σ0 at hri0 ⊢
 refine AW.seq_j (fun s σ' => s.t 3 = .c (.pointer (some ⟨r3, 0, none⟩)) ∧ s.t 4 = .c (.pointer (some ⟨r4, 0, none⟩)) ∧ s.t 5 = .c (.pointer (some ⟨r5, 0, none⟩)) ∧ TI r3 r4 r5 rows rows.length σ') ?_ ?_
 ·refine AW.seq_j (fun s σ' => s.t 3 = .c (.pointer (some ⟨r3, 0, none⟩)) ∧ s.t 4 = .c (.pointer (some ⟨r4, 0, none⟩)) ∧ s.t 5 = .c (.pointer (some ⟨r5, 0, none⟩)) ∧ s.t 7 = .fn (.func 31) [] [capV rows] ∧ σ' = σ0) ?_ ?_
  ·skip
   all_goals refine AW.reg0 ?_
   all_goals (refine S.g rfl rfl fun Y Z => ?_; simp only [zz, reduceIte, Nat.reduceEqDiff, Nat.reduceAdd]; refine Z _ _ ?_; clear Z Y)
   all_goals refine S.nil ?_
   all_goals simp only [ze, reduceIte, Nat.reduceEqDiff, Nat.reduceLT, Nat.reduceLeDiff, Nat.reduceAdd, reduceCtorEq, Nat.reduceMul]
  rintro s σ' ⟨e3, e4, e5, e7, rfl⟩
  refine AW.block ?_   -- 0
  refine AW.rangeFunc (f := 31) (caps := [capV rows]) (xs := rows.map partA) (by simp [ev, e7]) (iter_all rows (fun l hl => ⟨(hok l hl).attrs, (hok l hl).len⟩) (by omega)) (fun v hv => by simp at hv; rw [hv]; exact imm_cap rows) (by decide) (fun i σ' => TI r3 r4 r5 rows i σ') (fun _ _ => False) hri0 ?_ ?_ (fun _ h => h.elim) (fun _ _ h => h.elim)
  ·intro r i v σ4 hv hri
   obtain ⟨x, hx, rfl⟩ : ∃ x, rows[i]? = some x ∧ v = partA x := by
    rw [List.getElem?_map, Option.map_eq_some_iff] at hv
    obtain ⟨x, h, e⟩ := hv
    exact ⟨x, h, e.symm⟩
   have hxm := List.mem_of_getElem? hx
   have hil := (List.getElem?_eq_some_iff.1 hx).1
   have hxe := encP_gd hx
   have f3 : ((plainS s).put 8 (partA x)).t 3 = .c (.pointer (some ⟨r3, 0, none⟩)) := by simp [plainS, keepV, e3]
   have f4 : ((plainS s).put 8 (partA x)).t 4 = .c (.pointer (some ⟨r4, 0, none⟩)) := by simp [plainS, keepV, e4]
   have f5 : ((plainS s).put 8 (partA x)).t 5 = .c (.pointer (some ⟨r5, 0, none⟩)) := by simp [plainS, keepV, e5]
   have f8 : ((plainS s).put 8 (partA x)).t 8 = .agg [.sl (x.map encBd)] := by simp [partA]
   generalize (plainS s).put 8 (partA x) = s1 at f3 f4 f5 f8 ⊢
   obtain ⟨o3, o4, o5⟩ := hri
   have hsx : PCalls Tryz.prog 10 [.agg [.sl (x.map encBd)], .agg [.sl (x.map encBd)]] (fun v => v = .c (.bool true)) := (rsame_part x x (by have := (hok x hxm).len; omega) (fun b hb => by have := (hok x hxm).attrs b hb; omega)).mono fun v hv => by rw [hv, allEq_refl eqBd_refl]
   have hw1 : IntKind.i64.wrap ((i : Int) + 1) = ((i + 1 : Nat) : Int) := by rw [wrap_small _ (by omega) (by omega)]; rfl
   have hdg : decide ((i : Int) ≥ (rows.length : Int)) = false := by simp; omega
   all_goals refine AWR.reg0 ⟨rfl, ?_⟩
   all_goals iterate 2 (refine S.g rfl rfl fun Y Z => ?_; simp only [zz, reduceIte, Nat.reduceEqDiff, Nat.reduceLT, Nat.reduceLeDiff, Nat.reduceAdd, reduceCtorEq, Nat.reduceMul, zt24, ok24, sz24, ag24, f8]; refine Z _ _ ?_; clear Z Y)
   all_goals refine S.nil ?_
   all_goals simp only [ze, reduceIte, Nat.reduceEqDiff, Nat.reduceLT, Nat.reduceLeDiff, Nat.reduceAdd, reduceCtorEq, Nat.reduceMul, f8]
   refine AWR.block ?_
   refine AWR.seq_k fun K2 k2 => ?_
   refine AWR.seq_k fun K3 k3 => ?_
   have hgo : ∀ s2 σ2, (σ2 = σ4 ∧ s2.t 21 = .c (.bool false) ∧ s2.t 5 = .c (.pointer (some ⟨r5, 0, none⟩))) → thenS K3 (thenS K2 (inBlockS 1 (roundS (fun σ' => TI r3 r4 r5 rows (i + 1) σ') fun _ _ => False))) .normal s2 σ2 := by
    rintro s2 σ2 ⟨rfl, g21, g5⟩
    refine k3 _ _ ?_
    refine AWR.cond (b := false) g21 (fun hc => by cases hc) (fun _ => ?_)
    refine AWR.skip ?_
    refine k2 _ _ ?_
    all_goals refine AWR.reg0 ⟨rfl, ?_⟩
    all_goals iterate 3 (refine S.g rfl rfl fun Y Z => ?_; simp only [zz, reduceIte, Nat.reduceEqDiff, Nat.reduceLT, Nat.reduceLeDiff, Nat.reduceAdd, reduceCtorEq, Nat.reduceMul, ok3, sz3, ag3, g5, o5, isMap_c, List.getD_cons_zero, hw1, List.length_cons, List.length_nil, List.drop_succ_cons, List.drop_nil, true_and]; refine Z _ _ ?_; clear Z Y)
    all_goals refine S.nil ?_
    all_goals simp only [ze, reduceIte, Nat.reduceEqDiff, Nat.reduceLT, Nat.reduceLeDiff, Nat.reduceAdd, reduceCtorEq, Nat.reduceMul, g5, o5, isMap_c, List.getD_cons_zero, hw1, List.length_cons, List.length_nil, List.drop_succ_cons, List.drop_nil, true_and]
    exact ⟨by simp [n1, o3], by simp [n2, o4], by simp⟩
   all_goals refine AWR.drawF (T := { sd := fun d => d == 6 }) (fun _ _ h => by cases h) mixedO (.fork 0 (.st 1 2 (.st 2 0 (.st 3 0 (.st 4 0 (.fork3 5 (.fork 6 (.st 7 2 (.st 8 0 (.st 9 2 (.st 10 2 (.st 11 0 (.st 12 0 .nil)))))) 7 (.st 6 2 (.st 8 0 (.st 9 2 (.st 10 2 (.st 11 0 (.st 12 0 .nil))))))) 6 (.fork 5 (.st 7 2 (.st 8 0 (.st 9 2 (.st 10 2 (.st 11 0 (.st 12 0 .nil)))))) 7 (.st 8 0 (.fork 5 (.st 9 2 (.st 10 2 (.st 11 0 (.st 12 0 .nil)))) 9 (.st 5 2 (.st 10 2 (.st 11 0 (.st 12 0 .nil))))))) 7 (.fork 5 (.st 6 2 (.st 8 0 (.st 9 2 (.st 10 2 (.st 11 0 (.st 12 0 .nil)))))) 6 (.st 8 0 (.fork 5 (.st 9 2 (.st 10 2 (.st 11 0 (.st 12 0 .nil)))) 9 (.st 5 2 (.st 10 2 (.st 11 0 (.st 12 0 .nil)))))))))))) 1 (.st 2 0 (.st 0 2 (.st 3 0 (.st 4 0 (.fork3 5 (.fork 6 (.st 7 2 (.st 8 0 (.st 9 2 (.st 10 2 (.st 11 0 (.st 12 0 .nil)))))) 7 (.st 6 2 (.st 8 0 (.st 9 2 (.st 10 2 (.st 11 0 (.st 12 0 .nil))))))) 6 (.fork 5 (.st 7 2 (.st 8 0 (.st 9 2 (.st 10 2 (.st 11 0 (.st 12 0 .nil)))))) 7 (.st 8 0 (.fork 5 (.st 9 2 (.st 10 2 (.st 11 0 (.st 12 0 .nil)))) 9 (.st 5 2 (.st 10 2 (.st 11 0 (.st 12 0 .nil))))))) 7 (.fork 5 (.st 6 2 (.st 8 0 (.st 9 2 (.st 10 2 (.st 11 0 (.st 12 0 .nil)))))) 6 (.st 8 0 (.fork 5 (.st 9 2 (.st 10 2 (.st 11 0 (.st 12 0 .nil)))) 9 (.st 5 2 (.st 10 2 (.st 11 0 (.st 12 0 .nil))))))))))))) rfl (by kernel_rfl) (by kernel_rfl) ?_
   all_goals (try first | refine F.fork ?_ ?_ | refine F.fork3 ?_ ?_ ?_)
   all_goals first | (refine F.g rfl trivial rfl rfl fun Y Z => ?_; simp only [zz, reduceIte, Nat.reduceEqDiff, Nat.reduceLT, Nat.reduceLeDiff, Nat.reduceAdd, reduceCtorEq, Nat.reduceMul, ok3, sz3, ag3, f3, f4, f5, o3, o4, o5, isMap_c, isMap_sl, List.getD_cons_zero, List.length_map, hdg, hil, hxe]; refine Z _ _ ?_; clear Z Y) | (refine F.g rfl trivial rfl rfl fun Y Z => ?_; simp only [zz, reduceIte, Nat.reduceEqDiff, Nat.reduceLT, Nat.reduceLeDiff, Nat.reduceAdd, reduceCtorEq, Nat.reduceMul, ok31, sz31, ag31, f3, f4, f5, o3, o4, o5, isMap_c, isMap_sl, List.getD_cons_zero, List.length_map, hdg, hil, hxe]; refine Z _ _ ?_; clear Z Y)
   all_goals first | (refine F.g rfl trivial rfl rfl fun Y Z => ?_; simp only [zz, reduceIte, Nat.reduceEqDiff, Nat.reduceLT, Nat.reduceLeDiff, Nat.reduceAdd, reduceCtorEq, Nat.reduceMul, ok31, sz31, ag31, f3, f4, f5, o3, o4, o5, isMap_c, isMap_sl, List.getD_cons_zero, List.length_map, hdg, hil, hxe]; refine Z _ _ ?_; clear Z Y) | (refine F.g rfl trivial rfl rfl fun Y Z => ?_; simp only [zz, reduceIte, Nat.reduceEqDiff, Nat.reduceLT, Nat.reduceLeDiff, Nat.reduceAdd, reduceCtorEq, Nat.reduceMul, sl31, el31, ok24, sz24, ag24, f3, f4, f5, o3, o4, o5, isMap_c, isMap_sl, List.getD_cons_zero, List.length_map, hdg, hil, hxe]; refine Z _ _ ?_; clear Z Y)
   all_goals first | (refine F.g rfl trivial rfl rfl fun Y Z => ?_; simp only [zz, reduceIte, Nat.reduceEqDiff, Nat.reduceLT, Nat.reduceLeDiff, Nat.reduceAdd, reduceCtorEq, Nat.reduceMul, sl31, el31, ok24, sz24, ag24, f3, f4, f5, o3, o4, o5, isMap_c, isMap_sl, List.getD_cons_zero, List.length_map, hdg, hil, hxe]; refine Z _ _ ?_; clear Z Y) | (refine F.g rfl trivial rfl rfl fun Y Z => ?_; simp only [zz, reduceIte, Nat.reduceEqDiff, Nat.reduceLT, Nat.reduceLeDiff, Nat.reduceAdd, reduceCtorEq, Nat.reduceMul, ok3, sz3, ag3, f3, f4, f5, o3, o4, o5, isMap_c, isMap_sl, List.getD_cons_zero, List.length_map, hdg, hil, hxe]; refine Z _ _ ?_; clear Z Y)
   all_goals (refine F.g rfl trivial rfl rfl fun Y Z => ?_; simp only [zz, reduceIte, Nat.reduceEqDiff, Nat.reduceLT, Nat.reduceLeDiff, Nat.reduceAdd, reduceCtorEq, Nat.reduceMul, f3, f4, f5, o3, o4, o5, isMap_c, isMap_sl, List.getD_cons_zero, List.length_map, hdg, hil, hxe]; refine S.bool fun b a12 => ?_; cases b <;> (try (exfalso; first | exact Bool.noConfusion a12 | (have h := of_decide_eq_true a12; omega) | (have h := of_decide_eq_false a12; omega))) <;> (refine Z _ _ ?_; clear Z Y))
   all_goals (refine F.g rfl trivial rfl rfl fun Y Z => ?_; simp only [zz, reduceIte, Nat.reduceEqDiff, Nat.reduceAdd, f3, f4, f5, o3, o4, o5, isMap_c, isMap_sl, List.getD_cons_zero, List.length_map, hdg, hil, hxe]; refine Z _ _ ?_; clear Z Y)
   all_goals (try first | refine F.fork ?_ ?_ | refine F.fork3 ?_ ?_ ?_)
   all_goals first | (first | (refine F.y rfl trivial rfl rfl rfl rfl fun Y Z => ?_; simp only [zz, reduceIte, Nat.reduceEqDiff, Nat.reduceLT, Nat.reduceLeDiff, Nat.reduceAdd, reduceCtorEq, Nat.reduceMul, ok24, sz24, ag24, f3, f4, f5, o3, o4, o5, isMap_c, isMap_sl, List.getD_cons_zero, List.length_map, hdg, hil, hxe]; refine Z _ _ ?_; clear Z Y) | ((first | refine F.x rfl (fun h => by cases h) rfl rfl rfl rfl fun Y Z => ?_ | refine F.u rfl (fun h => by cases h) rfl rfl rfl rfl fun Y Z => ?_); simp only [ze, reduceIte, Nat.reduceEqDiff]; refine Z _ _ ?_; clear Z Y)) | (first | (refine F.y rfl trivial rfl rfl rfl rfl fun Y Z => ?_; simp only [zz, reduceIte, Nat.reduceEqDiff, Nat.reduceLT, Nat.reduceLeDiff, Nat.reduceAdd, reduceCtorEq, Nat.reduceMul, ok31, sz31, ag31, f3, f4, f5, o3, o4, o5, isMap_c, isMap_sl, List.getD_cons_zero, List.length_map, hdg, hil, hxe]; refine Z _ _ ?_; clear Z Y) | ((first | refine F.x rfl (fun h => by cases h) rfl rfl rfl rfl fun Y Z => ?_ | refine F.u rfl (fun h => by cases h) rfl rfl rfl rfl fun Y Z => ?_); simp only [ze, reduceIte, Nat.reduceEqDiff]; refine Z _ _ ?_; clear Z Y)) | (first | (refine F.y rfl trivial rfl rfl rfl rfl fun Y Z => ?_; simp only [zz, reduceIte, Nat.reduceEqDiff, Nat.reduceLT, Nat.reduceLeDiff, Nat.reduceAdd, reduceCtorEq, Nat.reduceMul, ok3, sz3, ag3, f3, f4, f5, o3, o4, o5, isMap_c, isMap_sl, List.getD_cons_zero, List.length_map, hdg, hil, hxe]; refine Z _ _ ?_; clear Z Y) | ((first | refine F.x rfl (fun h => by cases h) rfl rfl rfl rfl fun Y Z => ?_ | refine F.u rfl (fun h => by cases h) rfl rfl rfl rfl fun Y Z => ?_); simp only [ze, reduceIte, Nat.reduceEqDiff]; refine Z _ _ ?_; clear Z Y))
   all_goals (try first | refine F.fork ?_ ?_ | refine F.fork3 ?_ ?_ ?_)
   all_goals first | (first | (refine F.y rfl trivial rfl rfl rfl rfl fun Y Z => ?_; simp only [zz, reduceIte, Nat.reduceEqDiff, Nat.reduceLT, Nat.reduceLeDiff, Nat.reduceAdd, reduceCtorEq, Nat.reduceMul, ok31, sz31, ag31, f3, f4, f5, o3, o4, o5, isMap_c, isMap_sl, List.getD_cons_zero, List.length_map, hdg, hil, hxe]; refine Z _ _ ?_; clear Z Y) | ((first | refine F.x rfl (fun h => by cases h) rfl rfl rfl rfl fun Y Z => ?_ | refine F.u rfl (fun h => by cases h) rfl rfl rfl rfl fun Y Z => ?_); simp only [ze, reduceIte, Nat.reduceEqDiff]; refine Z _ _ ?_; clear Z Y)) | (first | (refine F.y rfl trivial rfl rfl rfl rfl fun Y Z => ?_; simp only [zz, reduceIte, Nat.reduceEqDiff, Nat.reduceLT, Nat.reduceLeDiff, Nat.reduceAdd, reduceCtorEq, Nat.reduceMul, ok3, sz3, ag3, f3, f4, f5, o3, o4, o5, isMap_c, isMap_sl, List.getD_cons_zero, List.length_map, hdg, hil, hxe]; refine Z _ _ ?_; clear Z Y) | ((first | refine F.x rfl (fun h => by cases h) rfl rfl rfl rfl fun Y Z => ?_ | refine F.u rfl (fun h => by cases h) rfl rfl rfl rfl fun Y Z => ?_); simp only [ze, reduceIte, Nat.reduceEqDiff]; refine Z _ _ ?_; clear Z Y)) | (first | (refine F.y rfl trivial rfl rfl rfl rfl fun Y Z => ?_; simp only [zz, reduceIte, Nat.reduceEqDiff, Nat.reduceLT, Nat.reduceLeDiff, Nat.reduceAdd, reduceCtorEq, Nat.reduceMul, ok24, sz24, ag24, f3, f4, f5, o3, o4, o5, isMap_c, isMap_sl, List.getD_cons_zero, List.length_map, hdg, hil, hxe]; refine Z _ _ ?_; clear Z Y) | ((first | refine F.x rfl (fun h => by cases h) rfl rfl rfl rfl fun Y Z => ?_ | refine F.u rfl (fun h => by cases h) rfl rfl rfl rfl fun Y Z => ?_); simp only [ze, reduceIte, Nat.reduceEqDiff]; refine Z _ _ ?_; clear Z Y))
   all_goals first | (first | (refine F.y rfl trivial rfl rfl rfl rfl fun Y Z => ?_; simp only [zz, reduceIte, Nat.reduceEqDiff, Nat.reduceLT, Nat.reduceLeDiff, Nat.reduceAdd, reduceCtorEq, Nat.reduceMul, ok3, sz3, ag3, f3, f4, f5, o3, o4, o5, isMap_c, isMap_sl, List.getD_cons_zero, List.length_map, hdg, hil, hxe]; refine Z _ _ ?_; clear Z Y) | ((first | refine F.x rfl (fun h => by cases h) rfl rfl rfl rfl fun Y Z => ?_ | refine F.u rfl (fun h => by cases h) rfl rfl rfl rfl fun Y Z => ?_); simp only [ze, reduceIte, Nat.reduceEqDiff]; refine Z _ _ ?_; clear Z Y)) | (first | (refine F.y rfl trivial rfl rfl rfl rfl fun Y Z => ?_; simp only [zz, reduceIte, Nat.reduceEqDiff, Nat.reduceLT, Nat.reduceLeDiff, Nat.reduceAdd, reduceCtorEq, Nat.reduceMul, ok31, sz31, ag31, f3, f4, f5, o3, o4, o5, isMap_c, isMap_sl, List.getD_cons_zero, List.length_map, hdg, hil, hxe]; refine Z _ _ ?_; clear Z Y) | ((first | refine F.x rfl (fun h => by cases h) rfl rfl rfl rfl fun Y Z => ?_ | refine F.u rfl (fun h => by cases h) rfl rfl rfl rfl fun Y Z => ?_); simp only [ze, reduceIte, Nat.reduceEqDiff]; refine Z _ _ ?_; clear Z Y)) | (first | (refine F.y rfl trivial rfl rfl rfl rfl fun Y Z => ?_; simp only [zz, reduceIte, Nat.reduceEqDiff, Nat.reduceLT, Nat.reduceLeDiff, Nat.reduceAdd, reduceCtorEq, Nat.reduceMul, sl31, el31, ok24, sz24, ag24, f3, f4, f5, o3, o4, o5, isMap_c, isMap_sl, List.getD_cons_zero, List.length_map, hdg, hil, hxe]; refine Z _ _ ?_; clear Z Y) | ((first | refine F.x rfl (fun h => by cases h) rfl rfl rfl rfl fun Y Z => ?_ | refine F.u rfl (fun h => by cases h) rfl rfl rfl rfl fun Y Z => ?_); simp only [ze, reduceIte, Nat.reduceEqDiff]; refine Z _ _ ?_; clear Z Y))
   all_goals (try first | refine F.fork ?_ ?_ | refine F.fork3 ?_ ?_ ?_)
   all_goals first | (first | (refine F.y rfl trivial rfl rfl rfl rfl fun Y Z => ?_; simp only [zz, reduceIte, Nat.reduceEqDiff, Nat.reduceLT, Nat.reduceLeDiff, Nat.reduceAdd, reduceCtorEq, Nat.reduceMul, sl31, el31, ok24, sz24, ag24, f3, f4, f5, o3, o4, o5, isMap_c, isMap_sl, List.getD_cons_zero, List.length_map, hdg, hil, hxe]; refine Z _ _ ?_; clear Z Y) | ((first | refine F.x rfl (fun h => by cases h) rfl rfl rfl rfl fun Y Z => ?_ | refine F.u rfl (fun h => by cases h) rfl rfl rfl rfl fun Y Z => ?_); simp only [ze, reduceIte, Nat.reduceEqDiff]; refine Z _ _ ?_; clear Z Y)) | (first | (refine F.y rfl trivial rfl rfl rfl rfl fun Y Z => ?_; simp only [zz, reduceIte, Nat.reduceEqDiff, Nat.reduceLT, Nat.reduceLeDiff, Nat.reduceAdd, reduceCtorEq, Nat.reduceMul, ok24, sz24, ag24, f3, f4, f5, o3, o4, o5, isMap_c, isMap_sl, List.getD_cons_zero, List.length_map, hdg, hil, hxe]; refine Z _ _ ?_; clear Z Y) | ((first | refine F.x rfl (fun h => by cases h) rfl rfl rfl rfl fun Y Z => ?_ | refine F.u rfl (fun h => by cases h) rfl rfl rfl rfl fun Y Z => ?_); simp only [ze, reduceIte, Nat.reduceEqDiff]; refine Z _ _ ?_; clear Z Y))
   all_goals (first | (refine F.y rfl trivial rfl rfl rfl rfl fun Y Z => ?_; simp only [zz, reduceIte, Nat.reduceEqDiff, Nat.reduceLT, Nat.reduceLeDiff, Nat.reduceAdd, reduceCtorEq, Nat.reduceMul, ok24, sz24, ag24, f3, f4, f5, o3, o4, o5, isMap_c, isMap_sl, List.getD_cons_zero, List.length_map, hdg, hil, hxe]; refine Z _ _ ?_; clear Z Y) | ((first | refine F.x rfl (fun h => by cases h) rfl rfl rfl rfl fun Y Z => ?_ | refine F.u rfl (fun h => by cases h) rfl rfl rfl rfl fun Y Z => ?_); simp only [ze, reduceIte, Nat.reduceEqDiff]; refine Z _ _ ?_; clear Z Y))
   all_goals (first | (refine F.y rfl trivial rfl rfl rfl rfl fun Y Z => ?_; simp only [zz, reduceIte, Nat.reduceEqDiff, Nat.reduceLT, Nat.reduceLeDiff, Nat.reduceAdd, reduceCtorEq, Nat.reduceMul, f3, f4, f5, o3, o4, o5, isMap_c, isMap_sl, List.getD_cons_zero, List.length_map, hdg, hil, hxe]; refine PCalls.eqto hsx ?_ <;> (refine Z _ _ ?_; clear Z Y)) | ((first | refine F.x rfl (fun h => by cases h) rfl rfl rfl rfl fun Y Z => ?_ | refine F.u rfl (fun h => by cases h) rfl rfl rfl rfl fun Y Z => ?_); simp only [ze, reduceIte, Nat.reduceEqDiff]; refine Z _ _ ?_; clear Z Y))
   all_goals (first | (refine F.y rfl trivial rfl rfl rfl rfl fun Y Z => ?_; simp only [zz, reduceIte, Nat.reduceEqDiff, Nat.reduceAdd, f3, f4, f5, o3, o4, o5, isMap_c, isMap_sl, List.getD_cons_zero, List.length_map, hdg, hil, hxe]; refine Z _ _ ?_; clear Z Y) | ((first | refine F.x rfl (fun h => by cases h) rfl rfl rfl rfl fun Y Z => ?_ | refine F.u rfl (fun h => by cases h) rfl rfl rfl rfl fun Y Z => ?_); simp only [ze, reduceIte, Nat.reduceEqDiff]; refine Z _ _ ?_; clear Z Y))
   all_goals (refine F.g rfl trivial rfl rfl fun Y Z => ?_; simp only [zz, reduceIte, Nat.reduceEqDiff, Nat.reduceAdd, f3, f4, f5, o3, o4, o5, isMap_c, isMap_sl, List.getD_cons_zero, List.length_map, hdg, hil, hxe]; refine Z _ _ ?_; clear Z Y)
   all_goals refine F.nil ?_
   all_goals simp only [ze, reduceIte, Nat.reduceEqDiff, Nat.reduceLT, Nat.reduceLeDiff, Nat.reduceAdd, reduceCtorEq, Nat.reduceMul, f3, f4, f5, o3, o4, o5, isMap_c, isMap_sl, List.getD_cons_zero, List.length_map, hdg, hil, hxe]
   all_goals exact hgo _ _ ⟨rfl, rfl, by simp [kill, f5]⟩
  ·intro σ4 hri
   have hl : (rows.map partA).length = rows.length := by simp
   rw [hl] at hri
   exact ⟨by simp [plainS, keepV, e3], by simp [plainS, keepV, e4], by simp [plainS, keepV, e5], hri⟩
 rintro s σ4 ⟨e3, e4, e5, ⟨o3, o4, o5⟩⟩
 refine AW.seq_k fun K3 h3 => ?_
 all_goals refine AW.reg0 ?_
 all_goals iterate 5 (refine S.g rfl rfl fun Y Z => ?_; simp only [zz, reduceIte, Nat.reduceEqDiff, Nat.reduceLT, Nat.reduceLeDiff, Nat.reduceAdd, reduceCtorEq, Nat.reduceMul, ok3, sz3, ag3, ok31, sz31, ag31, sl31, el31, ok24, sz24, ag24, ok4, sz4, ag4, e3, e4, e5, o3, o4, o5, isMap_c, isMap_sl, List.getD_cons_zero, List.length_map, beq_self_eq_true, List.length_cons, List.length_nil, true_and, List.drop_succ_cons, List.drop_nil]; refine Z _ _ ?_; clear Z Y)
 all_goals refine S.nil ?_
 all_goals simp only [ze, reduceIte, Nat.reduceEqDiff, Nat.reduceLT, Nat.reduceLeDiff, Nat.reduceAdd, reduceCtorEq, Nat.reduceMul, e3, e4, e5, o3, o4, o5, isMap_c, isMap_sl, List.getD_cons_zero, List.length_map, beq_self_eq_true, List.length_cons, List.length_nil, true_and, List.drop_succ_cons, List.drop_nil]
 all_goals apply_assumption
 all_goals refine AW.ret ?_
 all_goals simp only [zs, reduceIte, Nat.reduceEqDiff, Nat.reduceLT, Nat.reduceLeDiff, Nat.reduceAdd, reduceCtorEq, Nat.reduceMul, ok4, sz4, ag4, cut, List.drop_zero, List.take_succ_cons, List.take_zero, isMap_c, Hp.setObj_obj, e4, List.getD_cons_zero]
 all_goals simp [qLoad, isMap, cut, okV, wk, wk1]
end Go.Abs.M
namespace Go.Abs.M
open Go Go.Abs Go.Proofs
set_option maxRecDepth 20000
set_option linter.unusedSimpArgs false
set_option linter.unusedVariables false
/-- A set that no call made. -/
structure UnS (x : V) (σ : Hp) : Prop where
  or : x = .c (.pointer none) ∨ ∃ g, x = ptrV g ∧ σ.obj g = some [.c (.slice none 0 0), .c (.bool false)]
theorem UnS.ok {x : V} {σ : Hp} (h : UnS x σ) : okV x = true := by
  rcases h.or with rfl | ⟨g, rfl, _⟩ <;> rfl
theorem UnS.wk {x : V} {σ : Hp} (h : UnS x σ) : Abs.wk x = x := by
  rcases h.or with rfl | ⟨g, rfl, _⟩ <;> rfl
theorem UnS.kill {x : V} {σ : Hp} (h : UnS x σ) (d : Nat) : Abs.kill d x = x := by
  rcases h.or with rfl | ⟨g, rfl, _⟩ <;> rfl
theorem UnS.cv {x : V} {σ : Hp} (h : UnS x σ) : cellsV x = some [x] := by
  rcases h.or with rfl | ⟨g, rfl, _⟩ <;> rfl
theorem UnS.keep {x : V} {σ σ' : Hp} (h : UnS x σ) (ho : ∀ g c, σ.obj g = some c → σ'.obj g = some c) : UnS x σ' := ⟨by
 rcases h.or with e | ⟨g, e, hg⟩
 ·exact .inl e
 ·exact .inr ⟨g, e, ho g _ hg⟩⟩
theorem none_un {x : V} {σ : Hp} (hx : UnS x σ) : ACalls Tryz.prog 30 [x] σ (fun v σ' => v = .c (.bool true) ∧ σ' = σ) := by
 rcases hx.or with rfl | ⟨g, rfl, hg⟩
 ·refine ACalls.intro Tryz.call30 Tryz.func30 rfl Tryz.ntmps30 Tryz.results30 (by simp) ?_
  refine AW.seq_k fun K1 h1 => ?_
  refine AW.reg0 ?_
  (refine S.g rfl rfl fun Y Z => ?_; simp only [zz, reduceIte, Nat.reduceEqDiff, Nat.reduceAdd]; refine Z _ _ ?_; clear Z Y)
  refine S.nil ?_
  simp only [ze, reduceIte, Nat.reduceEqDiff, Nat.reduceLeDiff, Nat.reduceAdd]
  apply_assumption
  refine AW.seq_k fun K2 h2 => ?_
  refine AW.reg0 ?_
  (refine S.g rfl rfl fun Y Z => ?_; simp only [zz, reduceIte, Nat.reduceEqDiff, Nat.reduceAdd, un28, TypeDesc.pointer.injEq]; refine Z _ _ ?_; clear Z Y)
  (refine S.g rfl rfl fun Y Z => ?_; simp only [zz, reduceIte, Nat.reduceEqDiff, Nat.reduceLeDiff, Nat.reduceAdd, un28, un28, TypeDesc.pointer.injEq]; refine S.bool fun b a4 => ?_; cases b <;> (try (exfalso; first | exact Bool.noConfusion a4 | (have h := of_decide_eq_true a4; omega) | (have h := of_decide_eq_false a4; omega))) <;> (refine Z _ _ ?_; clear Z Y))
  (refine S.g rfl rfl fun Y Z => ?_; simp only [zz, reduceIte, Nat.reduceEqDiff, Nat.reduceAdd, un28, TypeDesc.pointer.injEq]; refine Z _ _ ?_; clear Z Y)
  iterate 5 (first | (refine S.y rfl rfl rfl rfl fun Y Z => ?_; simp only [zz, reduceIte, Nat.reduceEqDiff, Nat.reduceLeDiff, Nat.reduceAdd, of53_1, ok4, sz4, ag4, un28, TypeDesc.pointer.injEq]; refine Z _ _ ?_; clear Z Y) | ((first | refine S.x rfl rfl rfl rfl fun Y Z => ?_ | refine S.u rfl rfl rfl rfl fun Y Z => ?_); simp only [ze, reduceIte, Nat.reduceEqDiff]; refine Z _ _ ?_; clear Z Y))
  iterate 2 (refine S.g rfl rfl fun Y Z => ?_; simp only [zz, reduceIte, Nat.reduceEqDiff, Nat.reduceAdd, un28, TypeDesc.pointer.injEq]; refine Z _ _ ?_; clear Z Y)
  refine S.nil ?_
  simp only [ze, reduceIte, Nat.reduceEqDiff, Nat.reduceLeDiff, Nat.reduceAdd, un28, TypeDesc.pointer.injEq]
  apply_assumption
  refine AW.ret ?_
  simp only [zs, reduceIte, Nat.reduceEqDiff, Nat.reduceLeDiff, Nat.reduceAdd]
 ·refine ACalls.intro Tryz.call30 Tryz.func30 rfl Tryz.ntmps30 Tryz.results30 (by simp) ?_
  refine AW.seq_k fun K3 h3 => ?_
  refine AW.reg0 ?_
  (refine S.g rfl rfl fun Y Z => ?_; simp only [zz, reduceIte, Nat.reduceEqDiff, Nat.reduceAdd]; refine Z _ _ ?_; clear Z Y)
  refine S.nil ?_
  simp only [ze, reduceIte, Nat.reduceEqDiff, Nat.reduceLeDiff, Nat.reduceAdd]
  apply_assumption
  refine AW.seq_k fun K4 h4 => ?_
  refine AW.reg0 ?_
  (refine S.g rfl rfl fun Y Z => ?_; simp only [zz, reduceIte, Nat.reduceEqDiff, Nat.reduceAdd, un28, TypeDesc.pointer.injEq, ptrV, hg, map2, List.getD_cons_zero]; refine Z _ _ ?_; clear Z Y)
  (refine S.g rfl rfl fun Y Z => ?_; simp only [zz, reduceIte, Nat.reduceEqDiff, Nat.reduceLeDiff, Nat.reduceAdd, un28, un28, TypeDesc.pointer.injEq, ptrV, hg, map2, List.getD_cons_zero]; refine S.bool fun b a4 => ?_; cases b <;> (try (exfalso; first | exact Bool.noConfusion a4 | (have h := of_decide_eq_true a4; omega) | (have h := of_decide_eq_false a4; omega))) <;> (refine Z _ _ ?_; clear Z Y))
  (refine S.g rfl rfl fun Y Z => ?_; simp only [zz, reduceIte, Nat.reduceEqDiff, Nat.reduceAdd, un28, TypeDesc.pointer.injEq, ptrV, hg, map2, List.getD_cons_zero]; refine Z _ _ ?_; clear Z Y)
  iterate 5 (first | (refine S.y rfl rfl rfl rfl fun Y Z => ?_; simp only [zz, reduceIte, Nat.reduceEqDiff, Nat.reduceLeDiff, Nat.reduceAdd, of53_1, ok4, sz4, ag4, un28, TypeDesc.pointer.injEq, ptrV, hg, map2, List.getD_cons_zero]; refine Z _ _ ?_; clear Z Y) | ((first | refine S.x rfl rfl rfl rfl fun Y Z => ?_ | refine S.u rfl rfl rfl rfl fun Y Z => ?_); simp only [ze, reduceIte, Nat.reduceEqDiff]; refine Z _ _ ?_; clear Z Y))
  iterate 2 (refine S.g rfl rfl fun Y Z => ?_; simp only [zz, reduceIte, Nat.reduceEqDiff, Nat.reduceAdd, un28, TypeDesc.pointer.injEq, ptrV, hg, map2, List.getD_cons_zero]; refine Z _ _ ?_; clear Z Y)
  refine S.nil ?_
  simp only [ze, reduceIte, Nat.reduceEqDiff, Nat.reduceLeDiff, Nat.reduceAdd, un28, TypeDesc.pointer.injEq, ptrV, hg, map2, List.getD_cons_zero]
  apply_assumption
  refine AW.ret ?_
  simp only [zs, reduceIte, Nat.reduceEqDiff, Nat.reduceLeDiff, Nat.reduceAdd]
theorem len_un {x : V} {σ : Hp} (hx : UnS x σ) : ACalls Tryz.prog 15 [x] σ (fun v σ' => v = .c (.int .i64 (0 : Int)) ∧ σ' = σ) := by
 have hxo := hx.ok
 have hxw := hx.wk
 have hxk := hx.kill
 refine ACalls.intro Tryz.call15 Tryz.func15 rfl Tryz.ntmps15 Tryz.results15 (by simp) ?_
 refine AW.seq_k fun K1 h1 => ?_
 refine AW.reg0 ?_
 (refine S.g rfl rfl fun Y Z => ?_; simp only [zz, reduceIte, Nat.reduceEqDiff, Nat.reduceAdd]; refine Z _ _ ?_; clear Z Y)
 refine S.nil ?_
 simp only [ze, reduceIte, Nat.reduceEqDiff, Nat.reduceLeDiff, Nat.reduceAdd]
 apply_assumption
 refine AW.seq_k fun K2 h2 => ?_
 refine AW.seq_k fun K3 h3 => ?_
 refine AW.reg0 ?_
 (refine S.g rfl rfl fun Y Z => ?_; simp only [zz, reduceIte, Nat.reduceEqDiff, Nat.reduceAdd, hxo, hxw, hxk]; refine Z _ _ ?_; clear Z Y)
 (refine S.g rfl rfl fun Y Z => ?_; simp only [zz, reduceIte, Nat.reduceEqDiff, Nat.reduceLeDiff, Nat.reduceAdd, hxo, hxw, hxk]; refine (none_un hx).to fun v σ1 hv => ?_; obtain ⟨rfl, rfl⟩ := hv <;> (refine Z _ _ ?_; clear Z Y))
 refine S.nil ?_
 simp only [ze, reduceIte, Nat.reduceEqDiff, Nat.reduceLeDiff, Nat.reduceAdd, hxo, hxw, hxk]
 apply_assumption
 refine AW.cond (b := true) (by simp [ev]) (fun _ => ?_) (fun hc => by cases hc)
 refine AW.seq_k fun K4 h4 => ?_
 refine AW.reg0 ?_
 (refine S.g rfl rfl fun Y Z => ?_; simp only [zz, reduceIte, Nat.reduceEqDiff, Nat.reduceAdd]; refine Z _ _ ?_; clear Z Y)
 refine S.nil ?_
 simp only [ze, reduceIte, Nat.reduceEqDiff, Nat.reduceLeDiff, Nat.reduceAdd]
 apply_assumption
 refine AW.ret ?_
 simp only [zs, reduceIte, Nat.reduceEqDiff, Nat.reduceLeDiff, Nat.reduceAdd]
theorem clone_un {x : V} {σ : Hp} (hx : UnS x σ) : ACalls Tryz.prog 17 [x] σ (fun v σ' => v = .c (.pointer none) ∧ σ' = σ) := by
 have hxo := hx.ok
 have hxw := hx.wk
 have hxk := hx.kill
 refine ACalls.intro Tryz.call17 Tryz.func17 rfl Tryz.ntmps17 Tryz.results17 (by simp) ?_
 refine AW.seq_k fun K1 h1 => ?_
 refine AW.reg0 ?_
 (refine S.g rfl rfl fun Y Z => ?_; simp only [zz, reduceIte, Nat.reduceEqDiff, Nat.reduceAdd]; refine Z _ _ ?_; clear Z Y)
 refine S.nil ?_
 simp only [ze, reduceIte, Nat.reduceEqDiff, Nat.reduceLeDiff, Nat.reduceAdd]
 apply_assumption
 refine AW.seq_k fun K2 h2 => ?_
 refine AW.seq_k fun K3 h3 => ?_
 refine AW.reg0 ?_
 (refine S.g rfl rfl fun Y Z => ?_; simp only [zz, reduceIte, Nat.reduceEqDiff, Nat.reduceAdd, hxo, hxw, hxk]; refine Z _ _ ?_; clear Z Y)
 (refine S.g rfl rfl fun Y Z => ?_; simp only [zz, reduceIte, Nat.reduceEqDiff, Nat.reduceLeDiff, Nat.reduceAdd, hxo, hxw, hxk]; refine (none_un hx).to fun v σ1 hv => ?_; obtain ⟨rfl, rfl⟩ := hv <;> (refine Z _ _ ?_; clear Z Y))
 refine S.nil ?_
 simp only [ze, reduceIte, Nat.reduceEqDiff, Nat.reduceLeDiff, Nat.reduceAdd, hxo, hxw, hxk]
 apply_assumption
 refine AW.cond (b := true) (by simp [ev]) (fun _ => ?_) (fun hc => by cases hc)
 refine AW.seq_k fun K4 h4 => ?_
 refine AW.reg0 ?_
 (refine S.g rfl rfl fun Y Z => ?_; simp only [zz, reduceIte, Nat.reduceEqDiff, Nat.reduceAdd]; refine Z _ _ ?_; clear Z Y)
 refine S.nil ?_
 simp only [ze, reduceIte, Nat.reduceEqDiff, Nat.reduceLeDiff, Nat.reduceAdd]
 apply_assumption
 refine AW.ret ?_
 simp only [zs, reduceIte, Nat.reduceEqDiff, Nat.reduceLeDiff, Nat.reduceAdd]
theorem has_un {x : V} {σ : Hp} (hx : UnS x σ) (l : List Bd) : ACalls Tryz.prog 14 [x, .agg [.sl (l.map encBd)]] σ (fun v σ' => v = .c (.bool false) ∧ σ' = σ) := by
 have hxo := hx.ok
 have hxw := hx.wk
 have hxk := hx.kill
 refine ACalls.intro Tryz.call14 Tryz.func14 rfl Tryz.ntmps14 Tryz.results14 (by simp) ?_
 refine AW.seq_k fun K1 h1 => ?_
 refine AW.reg0 ?_
 iterate 2 (refine S.g rfl rfl fun Y Z => ?_; simp only [zz, reduceIte, Nat.reduceEqDiff, Nat.reduceLeDiff, Nat.reduceAdd, ok24, sz24, ag24]; refine Z _ _ ?_; clear Z Y)
 refine S.nil ?_
 simp only [ze, reduceIte, Nat.reduceEqDiff, Nat.reduceLeDiff, Nat.reduceAdd]
 apply_assumption
 refine AW.seq_k fun K2 h2 => ?_
 refine AW.seq_k fun K3 h3 => ?_
 refine AW.reg0 ?_
 (refine S.g rfl rfl fun Y Z => ?_; simp only [zz, reduceIte, Nat.reduceEqDiff, Nat.reduceAdd, hxo, hxw, hxk]; refine Z _ _ ?_; clear Z Y)
 (refine S.g rfl rfl fun Y Z => ?_; simp only [zz, reduceIte, Nat.reduceEqDiff, Nat.reduceLeDiff, Nat.reduceAdd, hxo, hxw, hxk]; refine (none_un hx).to fun v σ1 hv => ?_; obtain ⟨rfl, rfl⟩ := hv <;> (refine Z _ _ ?_; clear Z Y))
 refine S.nil ?_
 simp only [ze, reduceIte, Nat.reduceEqDiff, Nat.reduceLeDiff, Nat.reduceAdd, hxo, hxw, hxk]
 apply_assumption
 refine AW.cond (b := true) (by simp [ev]) (fun _ => ?_) (fun hc => by cases hc)
 refine AW.seq_k fun K4 h4 => ?_
 refine AW.reg0 ?_
 (refine S.g rfl rfl fun Y Z => ?_; simp only [zz, reduceIte, Nat.reduceEqDiff, Nat.reduceAdd]; refine Z _ _ ?_; clear Z Y)
 refine S.nil ?_
 simp only [ze, reduceIte, Nat.reduceEqDiff, Nat.reduceLeDiff, Nat.reduceAdd]
 apply_assumption
 refine AW.ret ?_
 simp only [zs, reduceIte, Nat.reduceEqDiff, Nat.reduceLeDiff, Nat.reduceAdd]
theorem add_un {x : V} {σ : Hp} (hx : UnS x σ) (l : List Bd) : ACalls Tryz.prog 13 [x, .agg [.sl (l.map encBd)]] σ (fun v σ' => v = .c (.bool false) ∧ σ' = σ) := by
 have hxo := hx.ok
 have hxw := hx.wk
 have hxk := hx.kill
 refine ACalls.intro Tryz.call13 Tryz.func13 rfl Tryz.ntmps13 Tryz.results13 (by simp) ?_
 refine AW.seq_k fun K1 h1 => ?_
 refine AW.reg0 ?_
 iterate 2 (refine S.g rfl rfl fun Y Z => ?_; simp only [zz, reduceIte, Nat.reduceEqDiff, Nat.reduceLeDiff, Nat.reduceAdd, ok24, sz24, ag24]; refine Z _ _ ?_; clear Z Y)
 refine S.nil ?_
 simp only [ze, reduceIte, Nat.reduceEqDiff, Nat.reduceLeDiff, Nat.reduceAdd]
 apply_assumption
 refine AW.seq_k fun K2 h2 => ?_
 refine AW.seq_k fun K3 h3 => ?_
 refine AW.reg0 ?_
 (refine S.g rfl rfl fun Y Z => ?_; simp only [zz, reduceIte, Nat.reduceEqDiff, Nat.reduceAdd, hxo, hxw, hxk]; refine Z _ _ ?_; clear Z Y)
 (refine S.g rfl rfl fun Y Z => ?_; simp only [zz, reduceIte, Nat.reduceEqDiff, Nat.reduceLeDiff, Nat.reduceAdd, hxo, hxw, hxk]; refine (none_un hx).to fun v σ1 hv => ?_; obtain ⟨rfl, rfl⟩ := hv; refine S.bool fun b a8 => ?_; cases b <;> (try (exfalso; first | exact Bool.noConfusion a8 | (have h := of_decide_eq_true a8; omega) | (have h := of_decide_eq_false a8; omega))) <;> (refine Z _ _ ?_; clear Z Y))
 (refine S.g rfl rfl fun Y Z => ?_; simp only [zz, reduceIte, Nat.reduceEqDiff, Nat.reduceAdd, hxo, hxw, hxk]; refine Z _ _ ?_; clear Z Y)
 iterate 3 (first | (refine S.y rfl rfl rfl rfl fun Y Z => ?_; simp only [zz, reduceIte, Nat.reduceEqDiff, Nat.reduceLeDiff, Nat.reduceAdd, ok24, sz24, ag24, hxo, hxw, hxk]; refine Z _ _ ?_; clear Z Y) | ((first | refine S.x rfl rfl rfl rfl fun Y Z => ?_ | refine S.u rfl rfl rfl rfl fun Y Z => ?_); simp only [ze, reduceIte, Nat.reduceEqDiff]; refine Z _ _ ?_; clear Z Y))
 (refine S.g rfl rfl fun Y Z => ?_; simp only [zz, reduceIte, Nat.reduceEqDiff, Nat.reduceAdd, hxo, hxw, hxk]; refine Z _ _ ?_; clear Z Y)
 refine S.nil ?_
 simp only [ze, reduceIte, Nat.reduceEqDiff, Nat.reduceLeDiff, Nat.reduceAdd, hxo, hxw, hxk]
 apply_assumption
 refine AW.cond (b := true) (by simp [ev]) (fun _ => ?_) (fun hc => by cases hc)
 refine AW.seq_k fun K4 h4 => ?_
 refine AW.reg0 ?_
 (refine S.g rfl rfl fun Y Z => ?_; simp only [zz, reduceIte, Nat.reduceEqDiff, Nat.reduceAdd]; refine Z _ _ ?_; clear Z Y)
 refine S.nil ?_
 simp only [ze, reduceIte, Nat.reduceEqDiff, Nat.reduceLeDiff, Nat.reduceAdd]
 apply_assumption
 refine AW.ret ?_
 simp only [zs, reduceIte, Nat.reduceEqDiff, Nat.reduceLeDiff, Nat.reduceAdd]
theorem setAll_un {x : V} {σ : Hp} (hx0 : UnS x σ) : ACalls Tryz.prog 9 [x] σ (fun v σ' => v = .fn (.func 31) [] [capV []] ∧ σ' = σ) := by
 have hxo := hx0.ok
 have hxw := hx0.wk
 refine ACalls.sealF (R := fun v σ' => ∃ p, v = .fn (.func 31) [] [ptrV p] ∧ σ.obj p = none ∧ σ' = σ.setObj p (some [.sl []])) ?_ ?_
 ·refine ACalls.intro Tryz.call9 Tryz.func9 rfl Tryz.ntmps9 Tryz.results9 (by simp) ?_
  refine AW.seq_k fun K1 h1 => ?_
  refine AW.reg0 ?_
  (refine S.g rfl rfl fun Y Z => ?_; simp only [zz, reduceIte, Nat.reduceEqDiff, Nat.reduceAdd]; refine Z _ _ ?_; clear Z Y)
  refine S.nil ?_
  simp only [ze, reduceIte, Nat.reduceEqDiff, Nat.reduceLeDiff, Nat.reduceAdd]
  apply_assumption
  refine AW.seq_k fun K2 h2 => ?_
  refine AW.region (T := { hp := fun d => d == 3 }) (fun _ _ h => by cases h) rfl ?_
  (refine S.g rfl rfl fun Y Z => ?_; simp only [zz, reduceIte, Nat.reduceEqDiff, Nat.reduceLeDiff, Nat.reduceAdd, zt31]; intro p hp <;> (refine Z _ _ ?_; clear Z Y))
  refine S.nil ?_
  simp only [ze, reduceIte, Nat.reduceEqDiff, Nat.reduceLeDiff, Nat.reduceAdd]
  apply_assumption
  have hx : UnS x (σ.setObj p (some [.c (.slice none 0 0)])) := hx0.keep fun g c hg => by
   have : g ≠ p := fun e => by rw [e, hp] at hg; cases hg
   simp [this, hg]
  refine AW.seq_j (fun s σ' => s.t 3 = .c (.pointer (some ⟨p, 0, none⟩)) ∧ σ' = σ.setObj p (some [.c (.slice none 0 0)])) ?_ ?_
  ·refine AW.seq_k fun K3 h3 => ?_
   refine AW.reg0 ?_
   (refine S.g rfl rfl fun Y Z => ?_; simp only [zz, reduceIte, Nat.reduceEqDiff, Nat.reduceAdd, hxo, hxw]; refine Z _ _ ?_; clear Z Y)
   (refine S.g rfl rfl fun Y Z => ?_; simp only [zz, reduceIte, Nat.reduceEqDiff, Nat.reduceLeDiff, Nat.reduceAdd, hxo, hxw]; refine (none_un hx).to fun v σ1 hv => ?_; obtain ⟨rfl, rfl⟩ := hv <;> (refine Z _ _ ?_; clear Z Y))
   (refine S.g rfl rfl fun Y Z => ?_; simp only [zz, reduceIte, Nat.reduceEqDiff, Nat.reduceAdd, hxo, hxw]; refine Z _ _ ?_; clear Z Y)
   refine S.nil ?_
   simp only [ze, reduceIte, Nat.reduceEqDiff, Nat.reduceLeDiff, Nat.reduceAdd, hxo, hxw]
   apply_assumption
   refine AW.cond (b := false) (by simp [ev]) (fun hc => by cases hc) (fun _ => AW.skip ?_)
   simp only [zs, reduceIte, Nat.reduceEqDiff, Nat.reduceLeDiff, Nat.reduceAdd]
  rintro s σ1 ⟨e3, rfl⟩
  refine AW.seq_k fun K4 h4 => ?_
  refine AW.reg0 ?_
  iterate 2 (refine S.g rfl rfl fun Y Z => ?_; simp only [zz, reduceIte, Nat.reduceEqDiff, Nat.reduceAdd, e3]; refine Z _ _ ?_; clear Z Y)
  refine S.nil ?_
  simp only [ze, reduceIte, Nat.reduceEqDiff, Nat.reduceLeDiff, Nat.reduceAdd, e3]
  apply_assumption
  refine AW.nilO (g := p) (cells := [.c (.slice none 0 0)]) (by simp) rfl (AW.ret ?_)
  simp only [zs, reduceIte, Nat.reduceEqDiff, Nat.reduceLeDiff, Nat.reduceAdd]
  refine ⟨p, rfl, hp, ?_⟩
  simp [wk1]
 ·rintro v σ' ⟨p, rfl, hp, rfl⟩
  refine ⟨p, [.sl []], .func 31, rfl, by simp, rfl, by simp, rfl, ?_⟩
  refine hp_ext (fun g => ?_) (fun j => rfl)
  by_cases e : g = p
  ·simp [e, hp]
  ·simp [e]
/-- How long a set is, asked anywhere later. -/
structure LenOf (o : Value) (n : Nat) (σ : Hp) : Prop where
  one : okV (.c o) = true ∧ Abs.wk (.c o) = .c o ∧ cellsV (.c o) = some [.c o]
  len : ∀ σ', (∀ g c, σ.obj g = some c → σ'.obj g = some c) → (∀ k x, σ.gr k = some x → σ'.gr k = some x) → ACalls Tryz.prog 15 [.c o] σ' (fun v σ'' => v = .c (.int .i64 (n : Nat)) ∧ σ'' = σ')
theorem lenOf_nil (σ : Hp) : LenOf (.pointer none) 0 σ := ⟨⟨rfl, rfl, rfl⟩, fun σ' _ _ => len_un ⟨.inl rfl⟩⟩
theorem lenOf_set {g : Nat} {rows : List (List Bd)} {σ : Hp} (hs : PSet g rows σ) : LenOf (.pointer (some ⟨g, 0, none⟩)) rows.length σ := ⟨⟨rfl, rfl, rfl⟩, fun σ' ho hg => len_spec g rows σ' (by
 rcases hs with ⟨h1, h2⟩ | ⟨k, h1, h2⟩
 ·exact .inl ⟨h1, ho _ _ h2⟩
 ·exact .inr ⟨k, ho _ _ h1, hg _ _ h2⟩)⟩
set_option maxHeartbeats 2000000 in
theorem same_un {x : V} {o : Value} {n : Nat} {σ : Hp} (hx0 : UnS x σ) (hl : LenOf o n σ) : ACalls Tryz.prog 16 [x, .c o] σ (fun v σ' => v = .c (.bool (decide (n = 0))) ∧ σ' = σ) := by
 obtain ⟨ho1, ho2, ho3⟩ := hl.one
 have ho4 : wk1 (.c o) = .c o := ho2
 refine ACalls.keepH (R := fun v σ' => v = .c (.bool (decide (n = 0))) ∧ (∀ x c, σ.obj x = some c → σ'.obj x = some c) ∧ ∀ k x, σ.gr k = some x → σ'.gr k = some x) ?_ (fun v σ' h => ⟨h.2.1, h.2.2, h.1, rfl⟩)
 have hxo := hx0.ok
 have hxw := hx0.wk
 have hxk := hx0.kill
 refine ACalls.intro Tryz.call16 Tryz.func16 rfl Tryz.ntmps16 Tryz.results16 (by simp) ?_
 have hbe : ((0 : Int) != (n : Int)) = !decide (n = 0) := by
  by_cases h : n = 0
  ·simp [h]
  ·simp [h]; omega
 refine AW.seq_k fun K1 h1 => ?_
 all_goals refine AW.region (T := { hp := fun d => d == 3 || d == 4 }) (fun _ _ h => by cases h) rfl ?_
 all_goals (refine S.g rfl rfl fun Y Z => ?_; simp only [zz, reduceIte, Nat.reduceEqDiff, Nat.reduceLeDiff, Nat.reduceAdd, ok28, sz28, ag28, ho3]; intro r3 hr3 <;> (refine Z _ _ ?_; clear Z Y))
 all_goals (refine S.g rfl rfl fun Y Z => ?_; simp only [zz, reduceIte, Nat.reduceEqDiff, Nat.reduceLeDiff, Nat.reduceAdd, zt4, ho3]; intro r4 hr4 <;> (refine Z _ _ ?_; clear Z Y))
 all_goals refine S.nil ?_
 all_goals simp only [ze, reduceIte, Nat.reduceEqDiff, Nat.reduceLeDiff, Nat.reduceAdd, ho3]
 all_goals apply_assumption
 have nw : ∀ x c, σ.obj x = some c → x ≠ r3 ∧ x ≠ r4 := by
  intro x c hx
  have m1 : x ≠ r3 := fun e => by
   rw [e, hr3] at hx
   exact absurd hx (by simp)
  refine ⟨m1, fun e => ?_⟩
  rw [← e] at hr4
  simp [m1, hx] at hr4
 have n34 : r3 ≠ r4 := fun e => by rw [← e] at hr4; simp at hr4
 have keep : ∀ (bv : Bool), (∀ x c, σ.obj x = some c → ((σ.setObj r3 (some [.c o])).setObj r4 (some [.c (.bool bv)])).obj x = some c) ∧ ∀ k x, σ.gr k = some x → ((σ.setObj r3 (some [.c o])).setObj r4 (some [.c (.bool bv)])).gr k = some x := fun bv => ⟨fun x c hx => by
  obtain ⟨m1, m2⟩ := nw x c hx
  simp [m1, m2, hx], fun k x hk => by simpa using hk⟩
 have hx := hx0.keep (keep false).1
 have hlo := hl.len _ (keep false).1 (keep false).2
 have o3 : ((σ.setObj r3 (some [.c o])).setObj r4 (some [.c (.bool false)])).obj r3 = some [.c o] := by simp [n34]
 have o4 : ((σ.setObj r3 (some [.c o])).setObj r4 (some [.c (.bool false)])).obj r4 = some [.c (.bool false)] := by simp
 have kp : (∀ x c, σ.obj x = some c → ((σ.setObj r3 (some [.c o])).setObj r4 (some [.c (.bool false)])).obj x = some c ∧ x ≠ r4) ∧ ∀ k x, σ.gr k = some x → ((σ.setObj r3 (some [.c o])).setObj r4 (some [.c (.bool false)])).gr k = some x := ⟨fun x c hx => ⟨(keep false).1 x c hx, (nw x c hx).2⟩, (keep false).2⟩
 clear keep hr4
 generalize (σ.setObj r3 (some [.c o])).setObj r4 (some [.c (.bool false)]) = σ0 at hx hlo o3 o4 kp ⊢
 have fin : ∀ (bv : Bool), (∀ x c, σ.obj x = some c → (σ0.setObj r4 (some [.c (.bool bv)])).obj x = some c) ∧ ∀ k x, σ.gr k = some x → (σ0.setObj r4 (some [.c (.bool bv)])).gr k = some x := fun bv => ⟨fun x c hx => by
  obtain ⟨m1, m2⟩ := kp.1 x c hx
  simp [m1, m2], fun k x hk => kp.2 k x hk⟩
 refine AW.seq_j (fun s σ' => σ' = σ0 ∧ n = 0 ∧ s.t 0 = x ∧ s.t 3 = .c (.pointer (some ⟨r3, 0, none⟩)) ∧ s.t 4 = .c (.pointer (some ⟨r4, 0, none⟩))) ?_ ?_
 ·refine AW.seq_j (fun s σ' => σ' = σ0 ∧ s.t 10 = .c (.bool (!decide (n = 0))) ∧ s.t 0 = x ∧ s.t 3 = .c (.pointer (some ⟨r3, 0, none⟩)) ∧ s.t 4 = .c (.pointer (some ⟨r4, 0, none⟩))) ?_ ?_
  ·skip
   all_goals refine AW.drawF (T := { sd := fun _ => false }) (fun _ _ h => by cases h) mixedO (.st 0 0 (.fork 1 (.st 2 2 (.st 3 2 (.st 4 0 .nil))) 2 (.st 1 2 (.st 3 2 (.st 4 0 .nil))))) rfl (by kernel_rfl) (by kernel_rfl) ?_
   all_goals (refine F.g rfl trivial rfl rfl fun Y Z => ?_; simp only [zz, reduceIte, Nat.reduceEqDiff, Nat.reduceAdd, hxo, hxw, hxk, ho1, ho2, ho4, o3, isMap_c, List.getD_cons_zero, hbe]; refine Z _ _ ?_; clear Z Y)
   all_goals (try first | refine F.fork ?_ ?_ | refine F.fork3 ?_ ?_ ?_)
   all_goals first | (refine F.g rfl trivial rfl rfl fun Y Z => ?_; simp only [zz, reduceIte, Nat.reduceEqDiff, Nat.reduceLeDiff, Nat.reduceAdd, hxo, hxw, hxk, ho1, ho2, ho4, o3, isMap_c, List.getD_cons_zero, hbe]; refine (len_un hx).to fun v σx hv => ?_; obtain ⟨rfl, rfl⟩ := hv <;> (refine Z _ _ ?_; clear Z Y)) | (refine F.g rfl trivial rfl rfl fun Y Z => ?_; simp only [zz, reduceIte, Nat.reduceEqDiff, Nat.reduceLeDiff, Nat.reduceAdd, ok28, sz28, ag28, hxo, hxw, hxk, ho1, ho2, ho4, o3, isMap_c, List.getD_cons_zero, hbe]; refine Z _ _ ?_; clear Z Y)
   all_goals first | (refine F.g rfl trivial rfl rfl fun Y Z => ?_; simp only [zz, reduceIte, Nat.reduceEqDiff, Nat.reduceLeDiff, Nat.reduceAdd, hxo, hxw, hxk, ho1, ho2, ho4, o3, isMap_c, List.getD_cons_zero, hbe]; refine (len_un hx).to fun v σx hv => ?_; obtain ⟨rfl, rfl⟩ := hv <;> (refine Z _ _ ?_; clear Z Y)) | (refine F.g rfl trivial rfl rfl fun Y Z => ?_; simp only [zz, reduceIte, Nat.reduceEqDiff, Nat.reduceLeDiff, Nat.reduceAdd, ok28, sz28, ag28, hxo, hxw, hxk, ho1, ho2, ho4, o3, isMap_c, List.getD_cons_zero, hbe]; refine Z _ _ ?_; clear Z Y)
   all_goals (refine F.g rfl trivial rfl rfl fun Y Z => ?_; simp only [zz, reduceIte, Nat.reduceEqDiff, Nat.reduceLeDiff, Nat.reduceAdd, hxo, hxw, hxk, ho1, ho2, ho4, o3, isMap_c, List.getD_cons_zero, hbe]; refine hlo.to fun v σx hv => ?_; obtain ⟨rfl, rfl⟩ := hv <;> (refine Z _ _ ?_; clear Z Y))
   all_goals (refine F.g rfl trivial rfl rfl fun Y Z => ?_; simp only [zz, reduceIte, Nat.reduceEqDiff, Nat.reduceAdd, hxo, hxw, hxk, ho1, ho2, ho4, o3, isMap_c, List.getD_cons_zero, hbe]; refine Z _ _ ?_; clear Z Y)
   all_goals refine F.nil ?_
   all_goals simp only [ze, reduceIte, Nat.reduceEqDiff, Nat.reduceLeDiff, Nat.reduceAdd, hxo, hxw, hxk, ho1, ho2, ho4, o3, isMap_c, List.getD_cons_zero, hbe]
  rintro s σ' ⟨rfl, e10, e0, e3, e4⟩
  refine AW.cond (b := !decide (n = 0)) e10 (fun hc => ?_) (fun hc => ?_)
  ·have hc : ¬ n = 0 := by simpa using hc
   refine AW.seq_k fun K2 h2 => ?_
   all_goals refine AW.reg0 ?_
   all_goals (refine S.g rfl rfl fun Y Z => ?_; simp only [zz, reduceIte, Nat.reduceEqDiff, Nat.reduceLeDiff, Nat.reduceAdd, ok4, sz4, ag4, e4, o4, isMap_c, List.length_cons, List.length_nil, List.drop_succ_cons, List.drop_nil, true_and]; refine Z _ _ ?_; clear Z Y)
   all_goals refine S.nil ?_
   all_goals simp only [ze, reduceIte, Nat.reduceEqDiff, Nat.reduceLeDiff, Nat.reduceAdd, e4, o4, isMap_c, List.length_cons, List.length_nil, List.drop_succ_cons, List.drop_nil, true_and]
   all_goals apply_assumption
   refine AW.ret ?_
   all_goals simp only [zs, reduceIte, Nat.reduceEqDiff, Nat.reduceLeDiff, Nat.reduceAdd, ok4, sz4, ag4, cut, e4]
   have hf := fin false
   simp [qLoad, isMap, cut, okV, Abs.wk, wk1, hc]
   simpa using hf
  ·exact AW.skip ⟨rfl, by simpa using hc, e0, e3, e4⟩
 rintro s σ' ⟨rfl, hlen, e0, e3, e4⟩
 refine AW.seq_j (fun s σ2 => σ2 = σ' ∧ s.t 4 = .c (.pointer (some ⟨r4, 0, none⟩))) ?_ ?_
 ·refine AW.seq_j (fun s σ2 => σ2 = σ' ∧ s.t 12 = .fn (.func 31) [] [capV []] ∧ s.t 3 = .c (.pointer (some ⟨r3, 0, none⟩)) ∧ s.t 4 = .c (.pointer (some ⟨r4, 0, none⟩))) ?_ ?_
  ·skip
   all_goals refine AW.reg0 ?_
   all_goals (refine S.g rfl rfl fun Y Z => ?_; simp only [zz, reduceIte, Nat.reduceEqDiff, Nat.reduceAdd, e0, e3, e4, hxo, hxw]; refine Z _ _ ?_; clear Z Y)
   all_goals (refine S.g rfl rfl fun Y Z => ?_; simp only [zz, reduceIte, Nat.reduceEqDiff, Nat.reduceLeDiff, Nat.reduceAdd, e0, e3, e4, hxo, hxw]; refine (setAll_un hx).to fun v σx hv => ?_; obtain ⟨rfl, rfl⟩ := hv <;> (refine Z _ _ ?_; clear Z Y))
   all_goals refine S.nil ?_
   all_goals simp only [ze, reduceIte, Nat.reduceEqDiff, Nat.reduceLeDiff, Nat.reduceAdd, e0, e3, e4, hxo, hxw]
   skip
  rintro s σ2 ⟨rfl, e12, e3, e4⟩
  refine AW.block ?_   -- 0
  refine AW.rangeFunc (f := 31) (caps := [capV []]) (xs := ([] : List (List Bd)).map partA) (by simp [ev, e12]) (iter_all [] (fun l hl => by cases hl) (by decide)) (fun v hv => by simp at hv; rw [hv]; exact imm_cap []) (by decide) (fun i σ' => σ' = σ2) (fun e σ' => False) rfl ?_ ?_ (fun _ h => h.elim) (fun _ _ h => h.elim)
  ·intro r i v σ4 hv hri
   simp at hv
  ·rintro σ4 rfl
   exact ⟨rfl, by simp [plainS, keepV, e4]⟩
 rintro s σ2 ⟨rfl, e4⟩
 refine AW.seq_k fun K3 h3 => ?_
 all_goals refine AW.reg0 ?_
 all_goals (refine S.g rfl rfl fun Y Z => ?_; simp only [zz, reduceIte, Nat.reduceEqDiff, Nat.reduceLeDiff, Nat.reduceAdd, ok4, sz4, ag4, e4, o4, isMap_c, List.length_cons, List.length_nil, List.drop_succ_cons, List.drop_nil, true_and]; refine Z _ _ ?_; clear Z Y)
 all_goals refine S.nil ?_
 all_goals simp only [ze, reduceIte, Nat.reduceEqDiff, Nat.reduceLeDiff, Nat.reduceAdd, e4, o4, isMap_c, List.length_cons, List.length_nil, List.drop_succ_cons, List.drop_nil, true_and]
 all_goals apply_assumption
 refine AW.ret ?_
 all_goals simp only [zs, reduceIte, Nat.reduceEqDiff, Nat.reduceLeDiff, Nat.reduceAdd, ok4, sz4, ag4, cut, e4]
 have hf := fin true
 simp [qLoad, isMap, cut, okV, Abs.wk, wk1, hlen]
 simpa using hf
end Go.Abs.M
namespace Go.Abs.M
open Go Go.Abs Go.Proofs
set_option maxRecDepth 20000
set_option linter.unusedSimpArgs false
set_option linter.unusedVariables false
theorem bits_nil : PCalls Tryz.prog 37 [.c (.pointer none), .c (.int .i64 (0 : Int))] (fun v => v = .tup [.c (.int .u64 (0 : Int)), .c (.int .i64 (2 : Int))]) := by
 refine PCalls.intro Tryz.call37 Tryz.func37 rfl Tryz.ntmps37 Tryz.results37 (by simp) ?_
 refine AW.seq_k fun K1 h1 => ?_
 refine AW.reg0 ?_
 iterate 2 (refine S.g rfl rfl fun Y Z => ?_; simp only [zz, reduceIte, Nat.reduceEqDiff, Nat.reduceAdd]; refine Z _ _ ?_; clear Z Y)
 refine S.nil ?_
 simp only [ze, reduceIte, Nat.reduceEqDiff, Nat.reduceLeDiff, Nat.reduceAdd]
 apply_assumption
 refine AW.seq_k fun K2 h2 => ?_
 refine AW.block ?_
 refine AW.seq_k fun K3 h3 => ?_
 refine AW.reg0 ?_
 (refine S.g rfl rfl fun Y Z => ?_; simp only [zz, reduceIte, Nat.reduceEqDiff, Nat.reduceAdd, un76, TypeDesc.pointer.injEq]; refine Z _ _ ?_; clear Z Y)
 (refine S.g rfl rfl fun Y Z => ?_; simp only [zz, reduceIte, Nat.reduceEqDiff, Nat.reduceLeDiff, Nat.reduceAdd, un76, un76, TypeDesc.pointer.injEq]; refine S.bool fun b a9 => ?_; cases b <;> (try (exfalso; first | exact Bool.noConfusion a9 | (have h := of_decide_eq_true a9; omega) | (have h := of_decide_eq_false a9; omega))) <;> (refine Z _ _ ?_; clear Z Y))
 (refine S.g rfl rfl fun Y Z => ?_; simp only [zz, reduceIte, Nat.reduceEqDiff, Nat.reduceAdd, un76, TypeDesc.pointer.injEq]; refine Z _ _ ?_; clear Z Y)
 iterate 5 (first | (refine S.y rfl rfl rfl rfl fun Y Z => ?_; simp only [zz, reduceIte, Nat.reduceEqDiff, Nat.reduceLeDiff, Nat.reduceAdd, of82_0, ok4, sz4, ag4, un76, TypeDesc.pointer.injEq]; refine Z _ _ ?_; clear Z Y) | ((first | refine S.x rfl rfl rfl rfl fun Y Z => ?_ | refine S.u rfl rfl rfl rfl fun Y Z => ?_); simp only [ze, reduceIte, Nat.reduceEqDiff]; refine Z _ _ ?_; clear Z Y))
 iterate 2 (refine S.g rfl rfl fun Y Z => ?_; simp only [zz, reduceIte, Nat.reduceEqDiff, Nat.reduceAdd, un76, TypeDesc.pointer.injEq]; refine Z _ _ ?_; clear Z Y)
 refine S.nil ?_
 simp only [ze, reduceIte, Nat.reduceEqDiff, Nat.reduceLeDiff, Nat.reduceAdd, un76, TypeDesc.pointer.injEq]
 apply_assumption
 refine AW.cond (b := true) (by simp [ev]) (fun _ => ?_) (fun hc => by cases hc)
 refine AW.seq_k fun K4 h4 => ?_
 refine AW.reg0 ?_
 iterate 2 (refine S.g rfl rfl fun Y Z => ?_; simp only [zz, reduceIte, Nat.reduceEqDiff, Nat.reduceAdd]; refine Z _ _ ?_; clear Z Y)
 refine S.nil ?_
 simp only [ze, reduceIte, Nat.reduceEqDiff, Nat.reduceLeDiff, Nat.reduceAdd]
 apply_assumption
 refine AW.ret ?_
 simp only [zs, reduceIte, Nat.reduceEqDiff, Nat.reduceLeDiff, Nat.reduceAdd]
 rfl
theorem take_nil : PCalls Tryz.prog 18 [.c (.pointer none)] (fun v => v = .tup [.agg [.sl []], .c (.int .i64 (2 : Int))]) := by
 refine PCalls.intro Tryz.call18 Tryz.func18 rfl Tryz.ntmps18 Tryz.results18 (by simp) ?_
 refine AW.seq_k fun K1 h1 => ?_
 refine AW.reg0 ?_
 iterate 2 (refine S.g rfl rfl fun Y Z => ?_; simp only [zz, reduceIte, Nat.reduceEqDiff, Nat.reduceLT, Nat.reduceLeDiff, Nat.reduceAdd, reduceCtorEq, Nat.reduceMul, zt24]; refine Z _ _ ?_; clear Z Y)
 refine S.nil ?_
 simp only [ze, reduceIte, Nat.reduceEqDiff, Nat.reduceLT, Nat.reduceLeDiff, Nat.reduceAdd, reduceCtorEq, Nat.reduceMul]
 apply_assumption
 refine AW.seq_k fun K2 h2 => ?_
 refine AW.seq_k fun K3 h3 => ?_
 refine AW.reg0 ?_
 (refine S.g rfl rfl fun Y Z => ?_; simp only [zz, reduceIte, Nat.reduceEqDiff, Nat.reduceAdd]; refine Z _ _ ?_; clear Z Y)
 (refine S.g rfl rfl fun Y Z => ?_; simp only [zz, reduceIte, Nat.reduceEqDiff, Nat.reduceLT, Nat.reduceLeDiff, Nat.reduceAdd, reduceCtorEq, Nat.reduceMul]; refine PCalls.eqto bits_nil ?_ <;> (refine Z _ _ ?_; clear Z Y))
 iterate 5 (refine S.g rfl rfl fun Y Z => ?_; simp only [zz, reduceIte, Nat.reduceEqDiff, Nat.reduceLT, Nat.reduceLeDiff, Nat.reduceAdd, reduceCtorEq, Nat.reduceMul]; refine Z _ _ ?_; clear Z Y)
 refine S.nil ?_
 simp only [ze, reduceIte, Nat.reduceEqDiff, Nat.reduceLT, Nat.reduceLeDiff, Nat.reduceAdd, reduceCtorEq, Nat.reduceMul]
 apply_assumption
 refine AW.seq_k fun K4 h4 => ?_
 refine AW.reg0 ?_
 iterate 2 (refine S.g rfl rfl fun Y Z => ?_; simp only [zz, reduceIte, Nat.reduceEqDiff, Nat.reduceAdd]; refine Z _ _ ?_; clear Z Y)
 refine S.nil ?_
 simp only [ze, reduceIte, Nat.reduceEqDiff, Nat.reduceLT, Nat.reduceLeDiff, Nat.reduceAdd, reduceCtorEq, Nat.reduceMul]
 apply_assumption
 refine AW.cond (b := true) (by simp [ev]) (fun _ => ?_) (fun hc => by cases hc)
 refine AW.seq_k fun K5 h5 => ?_
 refine AW.reg0 ?_
 (refine S.g rfl rfl fun Y Z => ?_; simp only [zz, reduceIte, Nat.reduceEqDiff, Nat.reduceLT, Nat.reduceLeDiff, Nat.reduceAdd, reduceCtorEq, Nat.reduceMul, zt24, pl24]; refine Z _ _ ?_; clear Z Y)
 iterate 2 (refine S.g rfl rfl fun Y Z => ?_; simp only [zz, reduceIte, Nat.reduceEqDiff, Nat.reduceLT, Nat.reduceLeDiff, Nat.reduceAdd, reduceCtorEq, Nat.reduceMul, ok24, sz24, ag24]; refine Z _ _ ?_; clear Z Y)
 refine S.nil ?_
 simp only [ze, reduceIte, Nat.reduceEqDiff, Nat.reduceLT, Nat.reduceLeDiff, Nat.reduceAdd, reduceCtorEq, Nat.reduceMul]
 apply_assumption
 refine AW.ret ?_
 simp only [zs, reduceIte, Nat.reduceEqDiff, Nat.reduceLT, Nat.reduceLeDiff, Nat.reduceAdd, reduceCtorEq, Nat.reduceMul, qLoad, ok24, sz24, ag24, cut, List.drop_zero, List.take_succ_cons, List.take_zero, List.map]
theorem room_nil : PCalls Tryz.prog 66 [.c (.pointer none), .c (.int .i64 (0 : Int))] (fun v => v = .c (.int .i64 (2 : Int))) := by
 refine PCalls.intro Tryz.call66 Tryz.func66 rfl Tryz.ntmps66 Tryz.results66 (by simp) ?_
 refine AW.seq_k fun K1 h1 => ?_
 refine AW.reg0 ?_
 (refine S.g rfl rfl fun Y Z => ?_; simp only [zz, reduceIte, Nat.reduceEqDiff, Nat.reduceAdd]; refine Z _ _ ?_; clear Z Y)
 refine S.nil ?_
 simp only [ze, reduceIte, Nat.reduceEqDiff, Nat.reduceLeDiff, Nat.reduceAdd]
 apply_assumption
 refine AW.seq_k fun K2 h2 => ?_
 refine AW.block ?_
 refine AW.seq_k fun K3 h3 => ?_
 refine AW.reg0 ?_
 (refine S.g rfl rfl fun Y Z => ?_; simp only [zz, reduceIte, Nat.reduceEqDiff, Nat.reduceAdd, un83, TypeDesc.pointer.injEq]; refine Z _ _ ?_; clear Z Y)
 (refine S.g rfl rfl fun Y Z => ?_; simp only [zz, reduceIte, Nat.reduceEqDiff, Nat.reduceLeDiff, Nat.reduceAdd, un83, un83, TypeDesc.pointer.injEq]; refine S.bool fun b a7 => ?_; cases b <;> (try (exfalso; first | exact Bool.noConfusion a7 | (have h := of_decide_eq_true a7; omega) | (have h := of_decide_eq_false a7; omega))) <;> (refine Z _ _ ?_; clear Z Y))
 (refine S.g rfl rfl fun Y Z => ?_; simp only [zz, reduceIte, Nat.reduceEqDiff, Nat.reduceAdd, un83, TypeDesc.pointer.injEq]; refine Z _ _ ?_; clear Z Y)
 iterate 5 (first | (refine S.y rfl rfl rfl rfl fun Y Z => ?_; simp only [zz, reduceIte, Nat.reduceEqDiff, Nat.reduceLeDiff, Nat.reduceAdd, of113_0, ok4, sz4, ag4, un83, TypeDesc.pointer.injEq]; refine Z _ _ ?_; clear Z Y) | ((first | refine S.x rfl rfl rfl rfl fun Y Z => ?_ | refine S.u rfl rfl rfl rfl fun Y Z => ?_); simp only [ze, reduceIte, Nat.reduceEqDiff]; refine Z _ _ ?_; clear Z Y))
 iterate 2 (refine S.g rfl rfl fun Y Z => ?_; simp only [zz, reduceIte, Nat.reduceEqDiff, Nat.reduceAdd, un83, TypeDesc.pointer.injEq]; refine Z _ _ ?_; clear Z Y)
 refine S.nil ?_
 simp only [ze, reduceIte, Nat.reduceEqDiff, Nat.reduceLeDiff, Nat.reduceAdd, un83, TypeDesc.pointer.injEq]
 apply_assumption
 refine AW.cond (b := true) (by simp [ev]) (fun _ => ?_) (fun hc => by cases hc)
 refine AW.seq_k fun K4 h4 => ?_
 refine AW.reg0 ?_
 (refine S.g rfl rfl fun Y Z => ?_; simp only [zz, reduceIte, Nat.reduceEqDiff, Nat.reduceAdd]; refine Z _ _ ?_; clear Z Y)
 refine S.nil ?_
 simp only [ze, reduceIte, Nat.reduceEqDiff, Nat.reduceLeDiff, Nat.reduceAdd]
 apply_assumption
 refine AW.ret ?_
 simp only [zs, reduceIte, Nat.reduceEqDiff, Nat.reduceLeDiff, Nat.reduceAdd]
theorem flags_nil : PCalls Tryz.prog 39 [.c (.pointer none), .sl []] (fun v => v = .c (.int .i64 (2 : Int))) := by
 refine PCalls.intro Tryz.call39 Tryz.func39 rfl Tryz.ntmps39 Tryz.results39 (by simp) ?_
 refine AW.seq_k fun K1 h1 => ?_
 refine AW.reg0 ?_
 (refine S.g rfl rfl fun Y Z => ?_; simp only [zz, reduceIte, Nat.reduceEqDiff, Nat.reduceAdd]; refine Z _ _ ?_; clear Z Y)
 refine S.nil ?_
 simp only [ze, reduceIte, Nat.reduceEqDiff, Nat.reduceLeDiff, Nat.reduceAdd]
 apply_assumption
 refine AW.seq_k fun K2 h2 => ?_
 refine AW.reg0 ?_
 iterate 3 (refine S.g rfl rfl fun Y Z => ?_; simp only [zz, reduceIte, Nat.reduceEqDiff, Nat.reduceLeDiff, Nat.reduceAdd, sl109, el109, ok4, sz4, ag4]; refine Z _ _ ?_; clear Z Y)
 (refine S.g rfl rfl fun Y Z => ?_; simp only [zz, reduceIte, Nat.reduceEqDiff, Nat.reduceLeDiff, Nat.reduceAdd]; refine PCalls.eqto room_nil ?_ <;> (refine Z _ _ ?_; clear Z Y))
 (refine S.g rfl rfl fun Y Z => ?_; simp only [zz, reduceIte, Nat.reduceEqDiff, Nat.reduceAdd]; refine Z _ _ ?_; clear Z Y)
 refine S.nil ?_
 simp only [ze, reduceIte, Nat.reduceEqDiff, Nat.reduceLeDiff, Nat.reduceAdd]
 apply_assumption
 refine AW.seq_k fun K3 h3 => ?_
 refine AW.seq_k fun K4 h4 => ?_
 refine AW.reg0 ?_
 iterate 2 (refine S.g rfl rfl fun Y Z => ?_; simp only [zz, reduceIte, Nat.reduceEqDiff, Nat.reduceAdd]; refine Z _ _ ?_; clear Z Y)
 refine S.nil ?_
 simp only [ze, reduceIte, Nat.reduceEqDiff, Nat.reduceLeDiff, Nat.reduceAdd]
 apply_assumption
 refine AW.cond (b := false) (by simp [ev]) (fun hc => by cases hc) (fun _ => AW.skip ?_)
 simp only [zs, reduceIte, Nat.reduceEqDiff, Nat.reduceLeDiff, Nat.reduceAdd]
 apply_assumption
 refine AW.seq_k fun K5 h5 => ?_
 refine AW.reg0 ?_
 iterate 2 (refine S.g rfl rfl fun Y Z => ?_; simp only [zz, reduceIte, Nat.reduceEqDiff, Nat.reduceAdd]; refine Z _ _ ?_; clear Z Y)
 refine S.nil ?_
 simp only [ze, reduceIte, Nat.reduceEqDiff, Nat.reduceLeDiff, Nat.reduceAdd]
 apply_assumption
 refine AW.ret ?_
 simp only [zs, reduceIte, Nat.reduceEqDiff, Nat.reduceLeDiff, Nat.reduceAdd]
theorem put_nil (l : List Bd) : PCalls Tryz.prog 19 [.c (.pointer none), .agg [.sl (l.map encBd)]] (fun v => v = .c (.int .i64 (2 : Int))) := by
 refine PCalls.intro Tryz.call19 Tryz.func19 rfl Tryz.ntmps19 Tryz.results19 (by simp) ?_
 refine AW.seq_k fun K1 h1 => ?_
 refine AW.reg0 ?_
 iterate 2 (refine S.g rfl rfl fun Y Z => ?_; simp only [zz, reduceIte, Nat.reduceEqDiff, Nat.reduceLeDiff, Nat.reduceAdd, ok24, sz24, ag24]; refine Z _ _ ?_; clear Z Y)
 refine S.nil ?_
 simp only [ze, reduceIte, Nat.reduceEqDiff, Nat.reduceLeDiff, Nat.reduceAdd]
 apply_assumption
 refine AW.seq_k fun K2 h2 => ?_
 refine AW.seq_k fun K3 h3 => ?_
 refine AW.reg0 ?_
 (refine S.g rfl rfl fun Y Z => ?_; simp only [zz, reduceIte, Nat.reduceEqDiff, Nat.reduceAdd]; refine Z _ _ ?_; clear Z Y)
 (refine S.g rfl rfl fun Y Z => ?_; simp only [zz, reduceIte, Nat.reduceEqDiff, Nat.reduceLeDiff, Nat.reduceAdd]; refine PCalls.eqto flags_nil ?_ <;> (refine Z _ _ ?_; clear Z Y))
 (refine S.g rfl rfl fun Y Z => ?_; simp only [zz, reduceIte, Nat.reduceEqDiff, Nat.reduceAdd]; refine Z _ _ ?_; clear Z Y)
 refine S.nil ?_
 simp only [ze, reduceIte, Nat.reduceEqDiff, Nat.reduceLeDiff, Nat.reduceAdd]
 apply_assumption
 refine AW.cond (b := true) (by simp [ev]) (fun _ => ?_) (fun hc => by cases hc)
 refine AW.seq_k fun K4 h4 => ?_
 refine AW.reg0 ?_
 (refine S.g rfl rfl fun Y Z => ?_; simp only [zz, reduceIte, Nat.reduceEqDiff, Nat.reduceAdd]; refine Z _ _ ?_; clear Z Y)
 refine S.nil ?_
 simp only [ze, reduceIte, Nat.reduceEqDiff, Nat.reduceLeDiff, Nat.reduceAdd]
 apply_assumption
 refine AW.ret ?_
 simp only [zs, reduceIte, Nat.reduceEqDiff, Nat.reduceLeDiff, Nat.reduceAdd]
end Go.Abs.M
namespace Go.Abs.MX
open Go Go.Abs Go.Proofs Go.Abs.M
set_option maxRecDepth 20000
set_option linter.unusedSimpArgs false
set_option linter.unusedVariables false
def exx : ByteArray := ⟨#[120]⟩
def mutA (a : Attr) : Attr := { a with name := a.name ++ exx }
def mutL (l : List Attr) (q : Nat) : List Attr := (l.take q).map mutA ++ l.drop q
/-- A bound whose name is changed, and the names of its first q attributes. -/
def mutQ (q : Nat) (b : M.Bd) : M.Bd := { b with var := b.var ++ exx, ev := { b.ev with attrs := mutL b.ev.attrs q } }
def mutX (q : Nat) (x : Bd) : Bd := { x with b := mutQ q x.b }
def mutR (xs : List Bd) (i : Nat) : List Bd := (xs.take i).map (fun x => mutX x.b.ev.attrs.length x) ++ xs.drop i
/-- The names of a list and of its bounds' attributes. -/
def nms (k : Nat) (xs : List Bd) (j : Nat) : Prop := j = k ∨ ∃ x ∈ xs, x.av = .gl j
/-- Nothing has turned but lists of these names. -/
structure Muts (N : Nat → Prop) (σ σ' : Hp) : Prop where
  obj : ∀ g, σ'.obj g = σ.obj g
  gr : ∀ k, ¬ N k → σ'.gr k = σ.gr k
theorem Muts.refl (N : Nat → Prop) (σ : Hp) : Muts N σ σ := ⟨fun _ => rfl, fun _ _ => rfl⟩
theorem Muts.trans {N : Nat → Prop} {a b c : Hp} (h : Muts N a b) (k : Muts N b c) : Muts N a c := ⟨fun g => (k.obj g).trans (h.obj g), fun j hj => (k.gr j hj).trans (h.gr j hj)⟩
theorem Muts.mono {N N' : Nat → Prop} {a b : Hp} (h : Muts N a b) (hn : ∀ k, N k → N' k) : Muts N' a b := ⟨h.obj, fun j hj => h.gr j (fun e => hj (hn j e))⟩
theorem Muts.set {N : Nat → Prop} {σ : Hp} {k : Nat} {x} (hk : N k) : Muts N σ (σ.setGr k x) := ⟨fun _ => rfl, fun j hj => by
 have : j ≠ k := fun e => hj (e ▸ hk)
 simp [this]⟩
theorem Own.of_muts {N : Nat → Prop} {σ σ' : Hp} {k : Nat} {xs : List Bd} (h : Own σ k xs) (hm : Muts N σ σ') (hn : ∀ j, nms k xs j → ¬ N j) : Own σ' k xs :=
  ⟨(hm.gr k (hn k (.inl rfl))).trans h.row, fun x hx => by
    rcases h.av x hx with h1 | ⟨j, h1, h2⟩
    · exact .inl h1
    · exact .inr ⟨j, h1, (hm.gr j (hn j (.inr ⟨x, hx, h1⟩))).trans h2⟩, h.ap⟩
theorem PSet_of_muts {N : Nat → Prop} {σ σ' : Hp} {g : Nat} {rows : List (List M.Bd)} (h : PSet g rows σ) (hm : Muts N σ σ') (hn : ∀ j, stN g σ = some j → ¬ N j) : PSet g rows σ' :=
  h.frame (hm.obj g) (fun k hk => hm.gr k (hn k hk))
theorem get_set_ne {α : Type} {l : List α} {i j : Nat} {x : α} (h : i ≠ j) : (l.set i x)[j]? = l[j]? := by simp [List.getElem?_set, h]
theorem apart_set {xs : List Bd} {i : Nat} {x y : Bd} (h : Apart xs) (hi : xs[i]? = some x) (hy : y.av = x.av) : Apart (xs.set i y) := by
 unfold Apart at *
 rw [List.pairwise_iff_getElem] at h ⊢
 obtain ⟨hil, hix⟩ := List.getElem?_eq_some_iff.1 hi
 intro p q hp hq hpq k hk
 rw [List.length_set] at hp hq
 have e : ∀ r (hr : r < (xs.set i y).length), ((xs.set i y)[r]).av = (xs[r]'(by rw [List.length_set] at hr; exact hr)).av := fun r hr => by
  rw [List.getElem_set]
  split
  ·rename_i e; subst e; rw [hy, hix]
  ·rfl
 rw [e] at hk ⊢
 exact h p q hp hq hpq k hk
/-- The name of a bound is written. -/
theorem Own.setVar {σ : Hp} {k i : Nat} {xs : List Bd} {x y : Bd} (h : Own σ k xs) (hi : xs[i]? = some x) (hy : y.av = x.av) (he : y.b.ev.attrs = x.b.ev.attrs) : Own (σ.setGr k (some ((38, 6), (xs.set i y).map encBd))) k (xs.set i y) := by
 have keep : ∀ z : Bd, AvOk σ z → AvOk (σ.setGr k (some ((38, 6), (xs.set i y).map encBd))) z := fun z hz => by
  rcases hz with hz | ⟨j, h1, h2⟩
  ·exact .inl hz
  ·have e1 : j ≠ k := fun e => by
    have := h.row
    rw [← e, h2] at this; injection this with this; injection this with this; cases this
   exact .inr ⟨j, h1, by simp [e1, h2]⟩
 refine ⟨by simp, fun z hz => keep z ?_, apart_set h.ap hi hy⟩
 rcases List.mem_or_eq_of_mem_set hz with hz | rfl
 ·exact h.av z hz
 ·have := h.av x (List.mem_of_getElem? hi)
  unfold AvOk at *
  rw [hy, he]; exact this
/-- The attributes of a bound are written. -/
theorem Own.setAttrs {σ : Hp} {k i ka : Nat} {xs : List Bd} {x y : Bd} (h : Own σ k xs) (hi : xs[i]? = some x) (ha : x.av = .gl ka) (hy : y.av = x.av) (hv : encBd y = encBd x) : Own (σ.setGr ka (some ((42, 4), y.b.ev.attrs.map encAttr))) k (xs.set i y) := by
 have hxm := List.mem_of_getElem? hi
 obtain ⟨hil, hix⟩ := List.getElem?_eq_some_iff.1 hi
 have hka : σ.gr ka = some ((42, 4), x.b.ev.attrs.map encAttr) := by
  rcases h.av x hxm with ⟨h1, _⟩ | ⟨j, h1, h2⟩
  ·rw [ha] at h1; cases h1
  ·rw [ha] at h1; injection h1 with h1; subst h1; exact h2
 have hne : k ≠ ka := fun e => by
  have := h.row
  rw [e, hka] at this; injection this with this; injection this with this; cases this
 refine ⟨?_, fun z hz => ?_, apart_set h.ap hi hy⟩
 ·have : (xs.set i y).map encBd = xs.map encBd := by
   rw [List.map_set, hv, ← hix]
   refine List.ext_getElem? fun j => ?_
   by_cases e : i = j
   ·subst e; simp [hil]
   ·rw [get_set_ne e]
  rw [this]
  simp [hne, h.row]
 ·obtain ⟨j, hj⟩ := List.mem_iff_getElem?.1 hz
  by_cases e : i = j
  ·subst e
   rw [List.getElem?_set_self hil] at hj
   injection hj with hj; subst hj
   exact .inr ⟨ka, hy.trans ha, by simp⟩
  ·rw [get_set_ne e] at hj
   rcases h.av z (List.mem_of_getElem? hj) with h1 | ⟨q, h1, h2⟩
   ·exact .inl h1
   ·have hq : q ≠ ka := fun hq => by
     have hap := h.ap
     unfold Apart at hap
     rw [List.pairwise_iff_getElem] at hap
     obtain ⟨hjl, hjx⟩ := List.getElem?_eq_some_iff.1 hj
     rcases Nat.lt_or_gt_of_ne e with hlt | hlt
     ·exact hap i j hil hjl hlt ka (by rw [hix]; exact ha) (by rw [hjx, h1, hq])
     ·exact hap j i hjl hil hlt ka (by rw [hjx, h1, hq]) (by rw [hix]; exact ha)
    exact .inr ⟨q, h1, by simp [hq, h2]⟩
theorem mutR_len (xs : List Bd) (i : Nat) : (mutR xs i).length = xs.length := by simp [mutR]; omega
theorem mutR_get {xs : List Bd} {i : Nat} {x : Bd} (h : xs[i]? = some x) : (mutR xs i)[i]? = some x := by
 obtain ⟨hi, rfl⟩ := List.getElem?_eq_some_iff.1 h
 have : ((xs.take i).map fun x => mutX x.b.ev.attrs.length x).length = i := by simp; omega
 rw [mutR, List.getElem?_append_right (by omega), this]; simp
theorem mutR_next {xs : List Bd} {i : Nat} {x : Bd} (h : xs[i]? = some x) : (mutR xs i).set i (mutX x.b.ev.attrs.length x) = mutR xs (i + 1) := by
 obtain ⟨hi, rfl⟩ := List.getElem?_eq_some_iff.1 h
 have hl : ((xs.take i).map fun x => mutX x.b.ev.attrs.length x).length = i := by simp; omega
 rw [mutR, List.set_append_right _ _ (by omega), hl, Nat.sub_self, List.drop_eq_getElem_cons hi, List.set_cons_zero, mutR, List.take_add_one, List.getElem?_eq_getElem hi, Option.toList_some, List.map_append, List.append_assoc]
 rfl
theorem mutL_len (l : List Attr) (q : Nat) : (mutL l q).length = l.length := by simp [mutL]; omega
theorem mutL_get {l : List Attr} {q : Nat} {a : Attr} (h : l[q]? = some a) : (mutL l q)[q]? = some a := by
 obtain ⟨hi, rfl⟩ := List.getElem?_eq_some_iff.1 h
 have : ((l.take q).map mutA).length = q := by simp; omega
 rw [mutL, List.getElem?_append_right (by omega), this]; simp
theorem mutL_next {l : List Attr} {q : Nat} {a : Attr} (h : l[q]? = some a) : (mutL l q).set q (mutA a) = mutL l (q + 1) := by
 obtain ⟨hi, rfl⟩ := List.getElem?_eq_some_iff.1 h
 have hl : ((l.take q).map mutA).length = q := by simp; omega
 rw [mutL, List.set_append_right _ _ (by omega), hl, Nat.sub_self, List.drop_eq_getElem_cons hi, List.set_cons_zero, mutL, List.take_add_one, List.getElem?_eq_getElem hi, Option.toList_some, List.map_append, List.append_assoc]
 rfl
theorem mutL_zero (l : List Attr) : mutL l 0 = l := by simp [mutL]
end Go.Abs.MX
namespace Go.Abs.MX
open Go Go.Abs Go.Proofs Go.Abs.M
set_option maxRecDepth 20000
set_option linter.unusedSimpArgs false
set_option linter.unusedVariables false
/-- Bounds of one's own, or none. -/
def OwnB (σ : Hp) (v : V) (N : Nat → Prop) : Prop := v = .sl [] ∨ ∃ k xs, v = .gl k ∧ Own σ k xs ∧ (∀ x ∈ xs, okB x.b) ∧ (∀ j, nms k xs j → N j) ∧ xs.length < 4611686018427387904
theorem OwnB.ok {σ : Hp} {v : V} {N : Nat → Prop} (h : OwnB σ v N) : okV v = true ∧ wk1 v = v ∧ cellsV v = some [v] ∧ okV (.agg [v]) = true := by
  rcases h with rfl | ⟨k, xs, rfl, _⟩ <;> exact ⟨rfl, rfl, rfl, rfl⟩
/-- Names that stand in a heap. -/
def InH (σ : Hp) (N : Nat → Prop) : Prop := ∀ j, N j → ∃ y, σ.gr j = some y
theorem own_b {l : List M.Bd} {k : Nat} {xs : List Bd} {σ σ1 : Hp} (hl : okP l) (hlen : xs.length < 4611686018427387904) (ho : Own σ1 k xs) (hm : ∀ x ∈ xs, x.b ∈ l) (hf : Hp.Fresh σ1 Hp.empty σ) :
  OwnB (σ1.over σ Hp.empty) (.gl k) (nms k xs) ∧ InH (σ1.over σ Hp.empty) (nms k xs) ∧ ∀ j, nms k xs j → σ.gr j = none := by
 have hin1 : ∀ j, nms k xs j → ∃ y, σ1.gr j = some y := fun j hj => by
  rcases hj with rfl | ⟨x, hx, hxj⟩
  ·exact ⟨_, ho.row⟩
  ·rcases ho.av x hx with ⟨h1, _⟩ | ⟨q, h1, h2⟩
   ·rw [h1] at hxj; cases hxj
   ·rw [h1] at hxj; cases hxj; exact ⟨_, h2⟩
 have hov : ∀ j y, σ1.gr j = some y → (σ1.over σ Hp.empty).gr j = some y := fun j y hy => by rw [over_empty]; simp [hy]
 refine ⟨.inr ⟨k, xs, rfl, ⟨hov _ _ ho.row, fun x hx => (ho.av x hx).keep hov, ho.ap⟩, fun x hx => hl _ (hm x hx), fun _ h => h, hlen⟩, fun j hj => ?_, fun j hj => ?_⟩
 ·obtain ⟨y, hy⟩ := hin1 j hj; exact ⟨y, hov j y hy⟩
 ·obtain ⟨y, hy⟩ := hin1 j hj; exact hf.gr j y hy rfl
theorem merge_b {a b : List M.Bd} {v : V} {σ σ1 : Hp} (ha : okP a) (hb : okP b) (hlen : (a ++ b).length < 4611686018427387904) (h : MergeO a b v σ1) (hf : Hp.Fresh σ1 Hp.empty σ) :
  ∃ u e N, v = .tup [.agg [u], .c (.bool e)] ∧ OwnB (σ1.over σ Hp.empty) u N ∧ InH (σ1.over σ Hp.empty) N ∧ (∀ j, N j → σ.gr j = none) := by
 rcases h with ⟨e, rfl⟩ | ⟨k, xs, e, rfl, ho, hm, hl⟩
 ·exact ⟨_, e, fun _ => False, rfl, .inl rfl, fun _ h => h.elim, fun _ h => h.elim⟩
 ·obtain ⟨h1, h2, h3⟩ := own_b (l := a ++ b) (σ := σ) (fun x hx => (List.mem_append.1 hx).elim (ha x) (hb x)) (by omega) ho hm hf
  exact ⟨_, e, _, rfl, h1, h2, h3⟩
theorem over_keep {σ σ1 : Hp} (hf : Hp.Fresh σ1 Hp.empty σ) : (∀ j y, σ.gr j = some y → (σ1.over σ Hp.empty).gr j = some y) ∧ (∀ x c, σ.obj x = some c → (σ1.over σ Hp.empty).obj x = some c) := by
 rw [over_empty]
 refine ⟨fun j y hy => ?_, fun x c hc => ?_⟩
 ·cases h : σ1.gr j with
  | none => simp [h, hy]
  | some z => have := hf.gr j z h rfl; rw [hy] at this; cases this
 ·cases h : σ1.obj x with
  | none => simp [h, hc]
  | some z => have := hf.obj x z h rfl; rw [hc] at this; cases this
theorem clone_b {l : List M.Bd} {v : V} {σ σ1 : Hp} (hl : okP l) (hlen : l.length < 4611686018427387904) (h : (l = [] ∧ v = .agg [.sl []]) ∨ ∃ k xs, v = .agg [.gl k] ∧ xs.map Bd.b = l ∧ Own σ1 k xs) (hf : Hp.Fresh σ1 Hp.empty σ) :
  ∃ u N, v = .agg [u] ∧ OwnB (σ1.over σ Hp.empty) u N ∧ InH (σ1.over σ Hp.empty) N ∧ (∀ j, N j → σ.gr j = none) ∧ (∀ j y, σ.gr j = some y → (σ1.over σ Hp.empty).gr j = some y) ∧ (∀ x c, σ.obj x = some c → (σ1.over σ Hp.empty).obj x = some c) := by
 obtain ⟨q1, q2⟩ := over_keep hf
 rcases h with ⟨_, rfl⟩ | ⟨k, xs, rfl, rfl, ho⟩
 ·exact ⟨_, fun _ => False, rfl, .inl rfl, fun _ h => h.elim, fun _ h => h.elim, q1, q2⟩
 ·obtain ⟨h1, h2, h3⟩ := own_b (l := xs.map Bd.b) (σ := σ) hl (by rw [List.length_map] at hlen; exact hlen) ho (fun x hx => List.mem_map_of_mem hx) hf
  exact ⟨_, _, rfl, h1, h2, h3, q1, q2⟩
/-- Between two rounds of the changes. -/
def OutI (vp vc : V) (Np Nc : Nat → Prop) (σ2 : Hp) (i : Nat) (σ : Hp) : Prop := (i = 0 ∧ σ = σ2) ∨ (i = 1 ∧ Muts Np σ2 σ) ∨ (i = 2 ∧ Muts (fun j => Np j ∨ Nc j) σ2 σ)
theorem OutI.done {vp vc : V} {Np Nc : Nat → Prop} {σ2 σ : Hp} {i : Nat} (h : OutI vp vc Np Nc σ2 i σ) (hi : 2 ≤ i) : Muts (fun j => Np j ∨ Nc j) σ2 σ := by
 rcases h with ⟨h, _⟩ | ⟨h, _⟩ | ⟨_, h⟩
 ·omega
 ·omega
 ·exact h
theorem OwnB.keep {σ σ' : Hp} {v : V} {N : Nat → Prop} (h : OwnB σ v N) (hk : ∀ j, N j → σ'.gr j = σ.gr j) : OwnB σ' v N := by
 rcases h with h | ⟨k, xs, h1, ho, h2, h3, h4⟩
 ·exact .inl h
 ·exact .inr ⟨k, xs, h1, ⟨(hk k (h3 k (.inl rfl))).trans ho.row, fun x hx => by
   rcases ho.av x hx with h5 | ⟨j, h5, h6⟩
   ·exact .inl h5
   ·exact .inr ⟨j, h5, (hk j (h3 j (.inr ⟨x, hx, h5⟩))).trans h6⟩, ho.ap⟩, h2, h3, h4⟩
theorem OwnB.of_muts {σ σ' : Hp} {v : V} {N M' : Nat → Prop} (h : OwnB σ v N) (hm : Muts M' σ σ') (hn : ∀ j, N j → ¬ M' j) : OwnB σ' v N := h.keep fun j hj => hm.gr j (hn j hj)
theorem PSet_more {g : Nat} {rows : List (List M.Bd)} {σ σ' : Hp} (h : PSet g rows σ) (ho : ∀ x c, σ.obj x = some c → σ'.obj x = some c) (hg : ∀ j y, σ.gr j = some y → σ'.gr j = some y) : PSet g rows σ' := by
 rcases h with ⟨h1, h2⟩ | ⟨k, h1, h2⟩
 ·exact .inl ⟨h1, ho _ _ h2⟩
 ·exact .inr ⟨k, ho _ _ h1, hg _ _ h2⟩
theorem PSet_stN {g j : Nat} {rows : List (List M.Bd)} {σ : Hp} (h : PSet g rows σ) (hj : stN g σ = some j) : ∃ y, σ.gr j = some y := by
 rcases h with ⟨_, h2⟩ | ⟨k, h1, h2⟩
 ·simp [stN, h2] at hj
 ·simp only [stN, h1, Option.some.injEq] at hj
  subst hj; exact ⟨_, h2⟩
def mutB (b : M.Bd) : M.Bd := { b with var := b.var ++ exx }
def mutV (l : List M.Bd) (q : Nat) : List M.Bd := (l.take q).map mutB ++ l.drop q
theorem mutV_len (l : List M.Bd) (q : Nat) : (mutV l q).length = l.length := by simp [mutV]; omega
theorem mutV_get {l : List M.Bd} {q : Nat} {a : M.Bd} (h : l[q]? = some a) : (mutV l q)[q]? = some a := by
 obtain ⟨hi, rfl⟩ := List.getElem?_eq_some_iff.1 h
 have : ((l.take q).map mutB).length = q := by simp; omega
 rw [mutV, List.getElem?_append_right (by omega), this]; simp
theorem mutV_next {l : List M.Bd} {q : Nat} {a : M.Bd} (h : l[q]? = some a) : (mutV l q).set q (mutB a) = mutV l (q + 1) := by
 obtain ⟨hi, rfl⟩ := List.getElem?_eq_some_iff.1 h
 have hl : ((l.take q).map mutB).length = q := by simp; omega
 rw [mutV, List.set_append_right _ _ (by omega), hl, Nat.sub_self, List.drop_eq_getElem_cons hi, List.set_cons_zero, mutV, List.take_add_one, List.getElem?_eq_getElem hi, Option.toList_some, List.map_append, List.append_assoc]
 rfl
theorem told_none : PCalls Tryz.prog 11 [.fn (.func 31) [] [capV []], .sl []] (fun v => v = .c (.bool true)) := told_spec [] (by simp) (fun x hx => by cases hx)
def ipA (a : List M.Bd) : V := .ip [[.sl (a.map M.encBd)]] 0 0
set_option maxHeartbeats 2000000 in
theorem own_spec (a b : List M.Bd) (ha : okI a) (hb : okI b) :
  ACalls Tryz.prog 3 [.agg [.sl (a.map M.encBd)], .agg [.sl (b.map M.encBd)]] Hp.empty (fun v _ => v = .c (.bool true)) := by
 have hat : ∀ x ∈ a ++ b, x.ev.attrs.length * 48 ≤ 140737488355328 := fun x hx => by
  rcases List.mem_append.1 hx with h | h
  ·exact ha.attrs x h
  ·exact hb.attrs x h
 have hab : (a ++ b).length < 4611686018427387904 := by
  have := ha.len; have := hb.len; rw [List.length_append]; omega
 have hok1 : ∀ x ∈ [a], okI x := fun x hx => by rw [List.mem_singleton.1 hx]; exact ha
 have hr1 : [a].length * 24 ≤ 140737488355328 := by simp
 have haL : a.length < 4611686018427387904 := by have := ha.len; omega
 refine ACalls.intro Tryz.call3 Tryz.func3 rfl Tryz.ntmps3 Tryz.results3 (by simp) ?_
 refine AW.seq_j (fun s σ => σ = Hp.empty ∧ s.t 2 = .lp 2 0 ∧ s.l 2 = some [.sl (a.map M.encBd)] ∧ s.t 3 = .lp 3 0 ∧ s.l 3 = some [.sl (b.map M.encBd)] ∧ s.t 4 = .c (.bool false)) ?_ ?_
 ·skip
  all_goals refine AW.reg0 ?_
  all_goals iterate 3 (refine S.g rfl rfl fun K' k' => ?_; simp only [zz, reduceIte, Nat.reduceEqDiff, Nat.reduceLT, Nat.reduceLeDiff, Nat.reduceAdd, reduceCtorEq, Nat.reduceMul, ok24, sz24, ag24]; refine k' _ _ ?_; clear k' K')
  all_goals refine S.nil ?_
  all_goals simp only [ze, reduceIte, Nat.reduceEqDiff, Nat.reduceLT, Nat.reduceLeDiff, Nat.reduceAdd, reduceCtorEq, Nat.reduceMul]
  skip
 rintro s σ ⟨rfl, e2, l2, e3, l3, e4⟩
 refine AW.hushBox l2 (by simp) (AW.hushBox (s := s.bx 2 _) (d := 3) (by rw [St.bx_l, if_neg (by decide)]; exact l3) (by simp) ?_)
 have f2 : ((s.bx 2 [.sl (a.map M.encBd)]).bx 3 [.sl (b.map M.encBd)]).t 2 = ipA a := by simp [e2, bxV, ipA]
 have f3 : ((s.bx 2 [.sl (a.map M.encBd)]).bx 3 [.sl (b.map M.encBd)]).t 3 = ipA b := by simp [e3, bxV, ipA]
 have f4 : ((s.bx 2 [.sl (a.map M.encBd)]).bx 3 [.sl (b.map M.encBd)]).t 4 = .c (.bool false) := by simp [e4, bxV]
 generalize (s.bx 2 [.sl (a.map M.encBd)]).bx 3 [.sl (b.map M.encBd)] = s at f2 f3 f4 ⊢
 refine AW.seq_j (fun s σ => σ = Hp.empty ∧ s.t 2 = ipA a ∧ s.t 3 = ipA b ∧ s.t 4 = .c (.bool false) ∧ s.t 5 = .lp 5 0 ∧ s.l 5 = some [.sl (a.map M.encBd)] ∧ s.t 6 = .lp 6 0 ∧ s.l 6 = some [.sl (b.map M.encBd)]) ?_ ?_
 ·skip
  all_goals refine AW.drawF (T := { sd := fun _ => false }) (fun _ _ h => by cases h) mixedO (.st 0 1 (.st 2 1 (.fork3 1 (.fork3 3 (.fork 4 (.st 5 2 (.st 6 2 (.st 7 2 .nil))) 5 (.st 4 2 (.st 6 2 (.st 7 2 .nil)))) 4 (.fork 3 (.st 5 2 (.st 6 2 (.st 7 2 .nil))) 5 (.st 3 2 (.st 6 2 (.st 7 2 .nil)))) 5 (.fork 3 (.st 4 2 (.st 6 2 (.st 7 2 .nil))) 4 (.st 3 2 (.st 6 2 (.st 7 2 .nil))))) 4 (.fork 1 (.fork 3 (.st 5 2 (.st 6 2 (.st 7 2 .nil))) 5 (.st 3 2 (.st 6 2 (.st 7 2 .nil)))) 5 (.st 1 2 (.st 3 2 (.st 6 2 (.st 7 2 .nil))))) 5 (.fork 1 (.fork 3 (.st 4 2 (.st 6 2 (.st 7 2 .nil))) 4 (.st 3 2 (.st 6 2 (.st 7 2 .nil)))) 4 (.st 1 2 (.st 3 2 (.st 6 2 (.st 7 2 .nil)))))))) rfl (by kernel_rfl) (by kernel_rfl) ?_
  all_goals iterate 2 (refine F.g rfl (by first | rfl | (simp only [stC, ze, reduceIte, Nat.reduceEqDiff, f2, f3, ipA, isMap_sl, List.getD_cons_zero]; done) | (simp only [stC, ze, reduceIte, Nat.reduceEqDiff, f2, f3, ipA, isMap_sl, List.getD_cons_zero]; rfl)) rfl rfl fun K' k' => ?_; simp only [zz, reduceIte, Nat.reduceEqDiff, Nat.reduceLT, Nat.reduceLeDiff, Nat.reduceAdd, reduceCtorEq, Nat.reduceMul, ok24, sz24, ag24, f2, f3, ipA, isMap_sl, List.getD_cons_zero]; refine k' _ _ ?_; clear k' K')
  all_goals (try first | refine F.fork ?_ ?_ | refine F.fork3 ?_ ?_ ?_)
  all_goals first | (refine F.g rfl trivial rfl rfl fun K' k' => ?_; simp only [zz, reduceIte, Nat.reduceEqDiff, Nat.reduceLT, Nat.reduceLeDiff, Nat.reduceAdd, reduceCtorEq, Nat.reduceMul, f2, f3, ipA, isMap_sl, List.getD_cons_zero]; refine PCalls.eqto (rclone_part a ha.attrs ha.len) ?_ <;> (refine k' _ _ ?_; clear k' K')) | (refine F.g rfl trivial rfl rfl fun K' k' => ?_; simp only [zz, reduceIte, Nat.reduceEqDiff, Nat.reduceLT, Nat.reduceLeDiff, Nat.reduceAdd, reduceCtorEq, Nat.reduceMul, zt24, f2, f3, ipA, isMap_sl, List.getD_cons_zero]; refine k' _ _ ?_; clear k' K')
  all_goals (try first | refine F.fork ?_ ?_ | refine F.fork3 ?_ ?_ ?_)
  all_goals first | (refine F.g rfl trivial rfl rfl fun K' k' => ?_; simp only [zz, reduceIte, Nat.reduceEqDiff, Nat.reduceLT, Nat.reduceLeDiff, Nat.reduceAdd, reduceCtorEq, Nat.reduceMul, f2, f3, ipA, isMap_sl, List.getD_cons_zero]; refine PCalls.eqto (rclone_part b hb.attrs hb.len) ?_ <;> (refine k' _ _ ?_; clear k' K')) | (refine F.g rfl trivial rfl rfl fun K' k' => ?_; simp only [zz, reduceIte, Nat.reduceEqDiff, Nat.reduceLT, Nat.reduceLeDiff, Nat.reduceAdd, reduceCtorEq, Nat.reduceMul, f2, f3, ipA, isMap_sl, List.getD_cons_zero]; refine PCalls.eqto (rclone_part a ha.attrs ha.len) ?_ <;> (refine k' _ _ ?_; clear k' K')) | (refine F.g rfl trivial rfl rfl fun K' k' => ?_; simp only [zz, reduceIte, Nat.reduceEqDiff, Nat.reduceLT, Nat.reduceLeDiff, Nat.reduceAdd, reduceCtorEq, Nat.reduceMul, zt24, f2, f3, ipA, isMap_sl, List.getD_cons_zero]; refine k' _ _ ?_; clear k' K')
  all_goals (try first | refine F.fork ?_ ?_ | refine F.fork3 ?_ ?_ ?_)
  all_goals first | (refine F.g rfl trivial rfl rfl fun K' k' => ?_; simp only [zz, reduceIte, Nat.reduceEqDiff, Nat.reduceLT, Nat.reduceLeDiff, Nat.reduceAdd, reduceCtorEq, Nat.reduceMul, f2, f3, ipA, isMap_sl, List.getD_cons_zero]; refine PCalls.eqto (rclone_part b hb.attrs hb.len) ?_ <;> (refine k' _ _ ?_; clear k' K')) | (refine F.g rfl trivial rfl rfl fun K' k' => ?_; simp only [zz, reduceIte, Nat.reduceEqDiff, Nat.reduceLT, Nat.reduceLeDiff, Nat.reduceAdd, reduceCtorEq, Nat.reduceMul, f2, f3, ipA, isMap_sl, List.getD_cons_zero]; refine PCalls.eqto (rclone_part a ha.attrs ha.len) ?_ <;> (refine k' _ _ ?_; clear k' K')) | (refine F.g rfl trivial rfl rfl fun K' k' => ?_; simp only [zz, reduceIte, Nat.reduceEqDiff, Nat.reduceLT, Nat.reduceLeDiff, Nat.reduceAdd, reduceCtorEq, Nat.reduceMul, zt24, f2, f3, ipA, isMap_sl, List.getD_cons_zero]; refine k' _ _ ?_; clear k' K')
  all_goals first | (refine F.g rfl trivial rfl rfl fun K' k' => ?_; simp only [zz, reduceIte, Nat.reduceEqDiff, Nat.reduceLT, Nat.reduceLeDiff, Nat.reduceAdd, reduceCtorEq, Nat.reduceMul, f2, f3, ipA, isMap_sl, List.getD_cons_zero]; refine PCalls.eqto (rclone_part b hb.attrs hb.len) ?_ <;> (refine k' _ _ ?_; clear k' K')) | (refine F.g rfl trivial rfl rfl fun K' k' => ?_; simp only [zz, reduceIte, Nat.reduceEqDiff, Nat.reduceLT, Nat.reduceLeDiff, Nat.reduceAdd, reduceCtorEq, Nat.reduceMul, zt24, f2, f3, ipA, isMap_sl, List.getD_cons_zero]; refine k' _ _ ?_; clear k' K')
  all_goals iterate 2 (refine F.g rfl trivial rfl rfl fun K' k' => ?_; simp only [zz, reduceIte, Nat.reduceEqDiff, Nat.reduceLT, Nat.reduceLeDiff, Nat.reduceAdd, reduceCtorEq, Nat.reduceMul, ok24, sz24, ag24, f2, f3, ipA, isMap_sl, List.getD_cons_zero]; refine k' _ _ ?_; clear k' K')
  all_goals refine F.nil ?_
  all_goals simp only [ze, reduceIte, Nat.reduceEqDiff, Nat.reduceLT, Nat.reduceLeDiff, Nat.reduceAdd, reduceCtorEq, Nat.reduceMul, f2, f3, ipA, isMap_sl, List.getD_cons_zero]
  all_goals (rw [f4]; rfl)
 rintro s σ ⟨rfl, e2, e3, e4, e5, l5, e6, l6⟩
 refine AW.hushBox l5 (by simp) (AW.hushBox (s := s.bx 5 _) (d := 6) (by rw [St.bx_l, if_neg (by decide)]; exact l6) (by simp) ?_)
 have f2 : ((s.bx 5 [.sl (a.map M.encBd)]).bx 6 [.sl (b.map M.encBd)]).t 2 = ipA a := by simp [e2, bxV, ipA]
 have f3 : ((s.bx 5 [.sl (a.map M.encBd)]).bx 6 [.sl (b.map M.encBd)]).t 3 = ipA b := by simp [e3, bxV, ipA]
 have f4 : ((s.bx 5 [.sl (a.map M.encBd)]).bx 6 [.sl (b.map M.encBd)]).t 4 = .c (.bool false) := by simp [e4, bxV]
 have f5 : ((s.bx 5 [.sl (a.map M.encBd)]).bx 6 [.sl (b.map M.encBd)]).t 5 = ipA a := by simp [e5, bxV, ipA]
 have f6 : ((s.bx 5 [.sl (a.map M.encBd)]).bx 6 [.sl (b.map M.encBd)]).t 6 = ipA b := by simp [e6, bxV, ipA]
 generalize (s.bx 5 [.sl (a.map M.encBd)]).bx 6 [.sl (b.map M.encBd)] = s at f2 f3 f4 f5 f6 ⊢
 clear e2 e3 e4 e5 e6 l5 l6
 refine AW.seq_j (fun s σ => ∃ vp Np, OwnB σ vp Np ∧ InH σ Np ∧ s.t 2 = ipA a ∧ s.t 3 = ipA b ∧ s.t 4 = .c (.bool false) ∧ s.t 5 = ipA a ∧ s.t 6 = ipA b ∧ s.t 7 = .lp 7 0 ∧ s.l 7 = some [vp]) ?_ ?_
 ·skip
  all_goals refine AW.reg0 ?_
  all_goals iterate 2 (refine S.g rfl rfl fun K' k' => ?_; simp only [zz, reduceIte, Nat.reduceEqDiff, Nat.reduceLT, Nat.reduceLeDiff, Nat.reduceAdd, reduceCtorEq, Nat.reduceMul, ok24, sz24, ag24, f2, f3, f4, f5, f6, ipA, List.getD_cons_zero]; refine k' _ _ ?_; clear k' K')
  all_goals (refine S.g rfl rfl fun K' k' => ?_; simp only [zz, reduceIte, Nat.reduceEqDiff, Nat.reduceLT, Nat.reduceLeDiff, Nat.reduceAdd, reduceCtorEq, Nat.reduceMul, f2, f3, f4, f5, f6, ipA, List.getD_cons_zero]; refine ((merge_own a b ha.ok hb.ok hat).frame (Hp.Le.empty _)).to fun v σ1 hv => ?_; obtain ⟨σx, hmo, hfx, rfl⟩ := hv; obtain ⟨vp, ep, Np, rfl, hvp, hin, hfr⟩ := merge_b ha.ok hb.ok hab hmo hfx; obtain ⟨hp1, hp2, hp3, hp4⟩ := hvp.ok <;> (refine k' _ _ ?_; clear k' K'))
  all_goals (refine S.g rfl rfl fun K' k' => ?_; simp only [zz, reduceIte, Nat.reduceEqDiff, Nat.reduceLT, Nat.reduceLeDiff, Nat.reduceAdd, reduceCtorEq, Nat.reduceMul, f2, f3, f4, f5, f6, ipA, List.getD_cons_zero, hp1, hp2, hp3, hp4] <;> (refine k' _ _ ?_; clear k' K'))
  all_goals (refine S.g rfl rfl fun K' k' => ?_; simp only [zz, reduceIte, Nat.reduceEqDiff, Nat.reduceLT, Nat.reduceLeDiff, Nat.reduceAdd, reduceCtorEq, Nat.reduceMul, f2, f3, f4, f5, f6, ipA, List.getD_cons_zero, hp1, hp2, hp3, hp4] <;> (refine k' _ _ ?_; clear k' K'))
  all_goals iterate 2 (refine S.g rfl rfl fun K' k' => ?_; simp only [zz, reduceIte, Nat.reduceEqDiff, Nat.reduceLT, Nat.reduceLeDiff, Nat.reduceAdd, reduceCtorEq, Nat.reduceMul, zt24, f2, f3, f4, f5, f6, ipA, List.getD_cons_zero]; refine k' _ _ ?_; clear k' K')
  all_goals (refine S.g rfl rfl fun K' k' => ?_; simp only [zz, reduceIte, Nat.reduceEqDiff, Nat.reduceLT, Nat.reduceLeDiff, Nat.reduceAdd, reduceCtorEq, Nat.reduceMul, ok24, sz24, ag24, f2, f3, f4, f5, f6, ipA, List.getD_cons_zero, hp1, hp2, hp3, hp4] <;> (refine k' _ _ ?_; clear k' K'))
  all_goals (refine S.g rfl rfl fun K' k' => ?_; simp only [zz, reduceIte, Nat.reduceEqDiff, Nat.reduceAdd, f2, f3, f4, f5, f6, ipA, List.getD_cons_zero]; refine k' _ _ ?_; clear k' K')
  all_goals refine S.nil ?_
  all_goals simp only [ze, reduceIte, Nat.reduceEqDiff, Nat.reduceLT, Nat.reduceLeDiff, Nat.reduceAdd, reduceCtorEq, Nat.reduceMul, f2, f3, f4, f5, f6, ipA, List.getD_cons_zero]
  exact ⟨vp, Np, hvp, hin, rfl⟩
 clear f2 f3 f4 f5 f6
 rintro s σ ⟨vp, Np, hvp, hin, f2, f3, f4, f5, f6, f7, l7⟩
 refine AW.seq_j (fun s σ' => ∃ g, NewS g (M.setL [a]) σ σ' ∧ s.t 2 = ipA a ∧ s.t 3 = ipA b ∧ s.t 4 = .c (.bool false) ∧ s.t 5 = ipA a ∧ s.t 6 = ipA b ∧ s.t 7 = .lp 7 0 ∧ s.l 7 = some [vp] ∧ s.t 9 = ptrV g) ?_ ?_
 ·skip
  all_goals refine AW.reg0 ?_
  all_goals (refine S.g rfl rfl fun K' k' => ?_; simp only [zz, reduceIte, Nat.reduceEqDiff, Nat.reduceLT, Nat.reduceLeDiff, Nat.reduceAdd, reduceCtorEq, Nat.reduceMul, ok24, sz24, ag24, f2, f3, f4, f5, f6, f7, l7, ipA, List.getD_cons_zero]; refine k' _ _ ?_; clear k' K')
  all_goals (refine S.g rfl rfl fun K' k' => ?_; simp only [zb, reduceIte, Nat.reduceEqDiff, Nat.reduceLT, Nat.reduceLeDiff, Nat.reduceAdd, reduceCtorEq, Nat.reduceMul, sl31, el31, ok24, sz24, ag24, zt24, by24, f2, f3, f4, f5, f6, f7, l7, ipA, List.getD_cons_zero]; refine k' _ _ ?_; clear k' K')
  all_goals (refine S.g rfl rfl fun K' k' => ?_; simp only [zz, reduceIte, Nat.reduceEqDiff, Nat.reduceLT, Nat.reduceLeDiff, Nat.reduceAdd, reduceCtorEq, Nat.reduceMul, f2, f3, f4, f5, f6, f7, l7, ipA, List.getD_cons_zero]; refine (newSet_spec [a] _ hr1 hok1).to fun v σ1 hv => ?_; obtain ⟨g, rfl, hnew⟩ := hv <;> (refine k' _ _ ?_; clear k' K'))
  all_goals (refine S.g rfl rfl fun K' k' => ?_; simp only [zz, reduceIte, Nat.reduceEqDiff, Nat.reduceAdd, f2, f3, f4, f5, f6, f7, l7, ipA, List.getD_cons_zero]; refine k' _ _ ?_; clear k' K')
  all_goals refine S.nil ?_
  all_goals simp only [ze, reduceIte, Nat.reduceEqDiff, Nat.reduceLT, Nat.reduceLeDiff, Nat.reduceAdd, reduceCtorEq, Nat.reduceMul, f2, f3, f4, f5, f6, f7, l7, ipA, List.getD_cons_zero]
  exact ⟨g, hnew, rfl⟩
 clear f2 f3 f4 f5 f6 f7 l7
 rintro s σ1 ⟨g, hnew, f2, f3, f4, f5, f6, f7, l7, f9⟩
 refine AW.seq_j (fun s σ' => σ' = σ1 ∧ s.t 2 = ipA a ∧ s.t 3 = ipA b ∧ s.t 5 = ipA a ∧ s.t 6 = ipA b ∧ s.t 7 = .lp 7 0 ∧ s.l 7 = some [vp] ∧ s.t 9 = ptrV g) ?_ ?_
 ·refine AW.seq_k fun K1 h1 => ?_
  all_goals refine AW.reg0 ?_
  all_goals (refine S.g rfl rfl fun K' k' => ?_; simp only [zz, reduceIte, Nat.reduceEqDiff, Nat.reduceLT, Nat.reduceLeDiff, Nat.reduceAdd, reduceCtorEq, Nat.reduceMul, f2, f3, f4, f5, f6, f7, l7, f9, ptrV, un28, TypeDesc.pointer.injEq]; refine PCalls.eqto begun_spec ?_; refine S.bool fun b a34 => ?_; cases b <;> (try (exfalso; first | exact Bool.noConfusion a34 | (have h := of_decide_eq_true a34; omega) | (have h := of_decide_eq_false a34; omega))) <;> (refine k' _ _ ?_; clear k' K'))
  all_goals iterate 2 (refine S.g rfl rfl fun K' k' => ?_; simp only [zz, reduceIte, Nat.reduceEqDiff, Nat.reduceAdd, f2, f3, f4, f5, f6, f7, l7, f9, ptrV, un28, TypeDesc.pointer.injEq]; refine k' _ _ ?_; clear k' K')
  all_goals iterate 2 (first | (refine S.y rfl rfl rfl rfl fun K' k' => ?_; simp only [zz, reduceIte, Nat.reduceEqDiff, Nat.reduceAdd, un28, f2, f3, f4, f5, f6, f7, l7, f9, ptrV, un28, TypeDesc.pointer.injEq]; refine k' _ _ ?_; clear k' K') | ((first | refine S.x rfl rfl rfl rfl fun K' k' => ?_ | refine S.u rfl rfl rfl rfl fun K' k' => ?_); simp only [ze, reduceIte, Nat.reduceEqDiff]; refine k' _ _ ?_; clear k' K'))
  all_goals (refine S.g rfl rfl fun K' k' => ?_; simp only [zz, reduceIte, Nat.reduceEqDiff, Nat.reduceAdd, f2, f3, f4, f5, f6, f7, l7, f9, ptrV, un28, TypeDesc.pointer.injEq]; refine k' _ _ ?_; clear k' K')
  all_goals refine S.nil ?_
  all_goals simp only [ze, reduceIte, Nat.reduceEqDiff, Nat.reduceLT, Nat.reduceLeDiff, Nat.reduceAdd, reduceCtorEq, Nat.reduceMul, f2, f3, f4, f5, f6, f7, l7, f9, ptrV, un28, TypeDesc.pointer.injEq]
  all_goals apply_assumption
  refine AW.cond (b := false) (by simp [ev]) (fun hc => by cases hc) (fun _ => AW.skip ?_)
  all_goals simp only [zs, reduceIte, Nat.reduceEqDiff, Nat.reduceLT, Nat.reduceLeDiff, Nat.reduceAdd, reduceCtorEq, Nat.reduceMul, f2, f3, f5, f6, f7, l7, f9]
 clear f2 f3 f4 f5 f6 f7 l7 f9
 rintro s σ' ⟨rfl, f2, f3, f5, f6, f7, l7, f9⟩
 refine AW.seq_j (fun s σ2 => ∃ vc Nc, OwnB σ2 vc Nc ∧ InH σ2 Nc ∧ (∀ j, Nc j → σ'.gr j = none) ∧ (∀ j y, σ'.gr j = some y → σ2.gr j = some y) ∧ (∀ x c, σ'.obj x = some c → σ2.obj x = some c) ∧ s.t 2 = ipA a ∧ s.t 3 = ipA b ∧ s.t 5 = ipA a ∧ s.t 6 = ipA b ∧ s.t 7 = .lp 7 0 ∧ s.l 7 = some [vp] ∧ s.t 9 = ptrV g ∧ s.t 10 = .lp 10 0 ∧ s.l 10 = some [vc]) ?_ ?_
 ·skip
  all_goals refine AW.reg0 ?_
  all_goals (refine S.g rfl rfl fun K' k' => ?_; simp only [zz, reduceIte, Nat.reduceEqDiff, Nat.reduceLT, Nat.reduceLeDiff, Nat.reduceAdd, reduceCtorEq, Nat.reduceMul, ok24, sz24, ag24, f2, f3, f5, f6, f7, l7, f9, ipA, List.getD_cons_zero]; refine k' _ _ ?_; clear k' K')
  all_goals (refine S.g rfl rfl fun K' k' => ?_; simp only [zz, reduceIte, Nat.reduceEqDiff, Nat.reduceLT, Nat.reduceLeDiff, Nat.reduceAdd, reduceCtorEq, Nat.reduceMul, f2, f3, f5, f6, f7, l7, f9, ipA, List.getD_cons_zero]; refine ((clone_own a ha.attrs ha.len).frame (Hp.Le.empty _)).to fun v σ2 hv => ?_; obtain ⟨σx, hmo, hfx, rfl⟩ := hv; obtain ⟨vc, Nc, rfl, hvc, hinc, hfrc, hkg, hko⟩ := clone_b ha.ok haL hmo hfx; obtain ⟨hc1, hc2, hc3, hc4⟩ := hvc.ok <;> (refine k' _ _ ?_; clear k' K'))
  all_goals (refine S.g rfl rfl fun K' k' => ?_; simp only [zz, reduceIte, Nat.reduceEqDiff, Nat.reduceLT, Nat.reduceLeDiff, Nat.reduceAdd, reduceCtorEq, Nat.reduceMul, zt24, f2, f3, f5, f6, f7, l7, f9, ipA, List.getD_cons_zero]; refine k' _ _ ?_; clear k' K')
  all_goals (refine S.g rfl rfl fun K' k' => ?_; simp only [zz, reduceIte, Nat.reduceEqDiff, Nat.reduceLT, Nat.reduceLeDiff, Nat.reduceAdd, reduceCtorEq, Nat.reduceMul, ok24, sz24, ag24, f2, f3, f5, f6, f7, l7, f9, ipA, List.getD_cons_zero, hc1, hc2, hc3, hc4] <;> (refine k' _ _ ?_; clear k' K'))
  all_goals refine S.nil ?_
  all_goals simp only [ze, reduceIte, Nat.reduceEqDiff, Nat.reduceLT, Nat.reduceLeDiff, Nat.reduceAdd, reduceCtorEq, Nat.reduceMul, f2, f3, f5, f6, f7, l7, f9, ipA, List.getD_cons_zero]
  exact ⟨vc, Nc, hvc, hinc, hfrc, hkg, hko, rfl, rfl⟩
 clear f2 f3 f5 f6 f7 l7 f9
 rintro s σ2 ⟨vc, Nc, hvc, hinc, hfrc, hkg, hko, f2, f3, f5, f6, f7, l7, f9, f10, l10⟩
 obtain ⟨hp1, hp2, hp3, hp4⟩ := hvp.ok
 obtain ⟨hc1, hc2, hc3, hc4⟩ := hvc.ok
 obtain ⟨es, hes⟩ : ∃ es, [[vp], [vc]] = es := ⟨_, rfl⟩
 have hel : es.length = 2 := by rw [← hes]; rfl
 have hstep : ∀ (i : Nat) (σ : Hp), i < 2 → OutI vp vc Np Nc σ2 i σ → ∃ v N, es.getD i [] = [v] ∧ OwnB σ v N ∧ ∀ σ', Muts N σ σ' → OutI vp vc Np Nc σ2 (i + 1) σ' := by
  rintro i σ hi (⟨rfl, rfl⟩ | ⟨rfl, hmu⟩ | ⟨rfl, _⟩)
  ·have hin2 : ∀ j y, σ'.gr j = some y → σ.gr j = some y := hkg
   refine ⟨vp, Np, by rw [← hes]; rfl, hvp.keep fun j hj => ?_, fun σ' hm => .inr (.inl ⟨rfl, hm⟩)⟩
   obtain ⟨y, hy⟩ := hin j hj
   rw [hy]; exact hkg j y (hnew.gr j y hy).1
  ·refine ⟨vc, Nc, by rw [← hes]; rfl, hvc.of_muts hmu fun j hj hpj => ?_, fun σ' hm => .inr (.inr ⟨rfl, (hmu.mono fun _ h => .inl h).trans (hm.mono fun _ h => .inr h)⟩)⟩
   obtain ⟨y, hy⟩ := hin j hpj
   have h1 := (hnew.gr j y hy).1
   rw [hfrc j hj] at h1; cases h1
  ·omega
 refine AW.seq_j (fun s σ => Muts (fun j => Np j ∨ Nc j) σ2 σ ∧ s.t 2 = ipA a ∧ s.t 3 = ipA b ∧ s.t 5 = ipA a ∧ s.t 6 = ipA b ∧ s.t 9 = ptrV g) ?_ ?_
 ·refine AW.seq_j (fun s σ => σ2 = σ ∧ s.t 2 = ipA a ∧ s.t 3 = ipA b ∧ s.t 5 = ipA a ∧ s.t 6 = ipA b ∧ s.t 9 = ptrV g ∧ s.t 44 = .sl es ∧ s.t 45 = .c (.int .i64 (2 : Int)) ∧ s.t 46 = .c (.int .i64 (0 : Int))) ?_ ?_
  ·skip
   all_goals refine AW.reg0 ?_
   all_goals iterate 2 (refine S.g rfl rfl fun K' k' => ?_; simp only [zz, reduceIte, Nat.reduceEqDiff, Nat.reduceLT, Nat.reduceLeDiff, Nat.reduceAdd, reduceCtorEq, Nat.reduceMul, ok24, sz24, ag24, f2, f3, f5, f6, f7, l7, f9, f10, l10, hp1, hp2, hp3, hp4, hc1, hc2, hc3, hc4]; refine k' _ _ ?_; clear k' K')
   all_goals (refine S.g rfl rfl fun K' k' => ?_; simp only [zb, reduceIte, Nat.reduceEqDiff, Nat.reduceLT, Nat.reduceLeDiff, Nat.reduceAdd, reduceCtorEq, Nat.reduceMul, sl31, el31, ok24, sz24, ag24, zt24, by24, f2, f3, f5, f6, f7, l7, f9, f10, l10, hp1, hp2, hp3, hp4, hc1, hc2, hc3, hc4]; refine ⟨rfl, (by simp), ?_⟩ <;> (refine k' _ _ ?_; clear k' K'))
   all_goals iterate 2 (refine S.g rfl rfl fun K' k' => ?_; simp only [zz, reduceIte, Nat.reduceEqDiff, Nat.reduceLT, Nat.reduceLeDiff, Nat.reduceAdd, reduceCtorEq, Nat.reduceMul, sl31, el31, ok24, sz24, ag24, f2, f3, f5, f6, f7, l7, f9, f10, l10, hp1, hp2, hp3, hp4, hc1, hc2, hc3, hc4]; refine k' _ _ ?_; clear k' K')
   all_goals refine S.nil ?_
   all_goals simp only [ze, reduceIte, Nat.reduceEqDiff, Nat.reduceLT, Nat.reduceLeDiff, Nat.reduceAdd, reduceCtorEq, Nat.reduceMul, f2, f3, f5, f6, f7, l7, f9, f10, l10, hp1, hp2, hp3, hp4, hc1, hc2, hc3, hc4]
   exact ⟨by rw [hes], rfl⟩
  clear f2 f3 f5 f6 f7 l7 f9 f10 l10
  rintro s σ ⟨rfl, f2, f3, f5, f6, f9, f44, f45, f46⟩
  refine AW.block ?_   -- 0
  refine AW.loop (fun m s σ => ∃ i : Nat, m + i = 2 ∧ OutI vp vc Np Nc σ2 i σ ∧ s.t 2 = ipA a ∧ s.t 3 = ipA b ∧ s.t 5 = ipA a ∧ s.t 6 = ipA b ∧ s.t 9 = ptrV g ∧ s.t 44 = .sl es ∧ s.t 45 = .c (.int .i64 (2 : Int)) ∧ s.t 46 = .c (.int .i64 (i : Nat))) 2 ?_ ?_
  ·exact ⟨0, rfl, .inl ⟨rfl, rfl⟩, f2, f3, f5, f6, f9, f44, f45, f46⟩
  clear f2 f3 f5 f6 f9 f44 f45 f46
  rintro m s σ ⟨i, hm, hout, f2, f3, f5, f6, f9, f44, f45, f46⟩
  refine AW.seq_k fun K2 h2 => ?_
  all_goals refine AW.reg0 ?_
  all_goals (refine S.g rfl rfl fun K' k' => ?_; simp only [zz, reduceIte, Nat.reduceEqDiff, Nat.reduceAdd, f46, f45]; refine k' _ _ ?_; clear k' K')
  all_goals refine S.nil ?_
  all_goals simp only [ze, reduceIte, Nat.reduceEqDiff, Nat.reduceLT, Nat.reduceLeDiff, Nat.reduceAdd, reduceCtorEq, Nat.reduceMul, f46, f45]
  all_goals apply_assumption
  refine AW.seq_k fun K3 h3 => ?_
  refine AW.cond (b := decide ((i : Int) < 2)) (by simp [ev]) (fun hc => ?_) (fun hc => ?_)
  ·have hi : i < 2 := by have := of_decide_eq_true hc; omega
   have hil : i < es.length := by omega
   obtain ⟨v, N, hgv, hvb, hnext⟩ := hstep i σ hi hout
   obtain ⟨hv1, hv2, hv3, hv4⟩ := hvb.ok
   have hwi : IntKind.i64.wrap ((i : Int) + 1) = ((i + 1 : Nat) : Int) := by rw [wrap_small _ (by omega) (by omega)]; rfl
   refine AW.skip ?_
   all_goals simp only [zs, reduceIte, Nat.reduceEqDiff, Nat.reduceLT, Nat.reduceLeDiff, Nat.reduceAdd, reduceCtorEq, Nat.reduceMul]
   all_goals apply_assumption
   refine AW.seq_j (fun s σ' => OutI vp vc Np Nc σ2 (i + 1) σ' ∧ s.t 2 = ipA a ∧ s.t 3 = ipA b ∧ s.t 5 = ipA a ∧ s.t 6 = ipA b ∧ s.t 9 = ptrV g ∧ s.t 44 = .sl es ∧ s.t 45 = .c (.int .i64 (2 : Int)) ∧ s.t 46 = .c (.int .i64 (i : Nat))) ?_ ?_
   ·refine AW.block ?_   -- 1
    refine AW.seq_j (fun s σ' => σ = σ' ∧ s.t 2 = ipA a ∧ s.t 3 = ipA b ∧ s.t 5 = ipA a ∧ s.t 6 = ipA b ∧ s.t 9 = ptrV g ∧ s.t 44 = .sl es ∧ s.t 45 = .c (.int .i64 (2 : Int)) ∧ s.t 46 = .c (.int .i64 (i : Nat)) ∧ s.t 12 = .lp 12 0 ∧ s.l 12 = some [v]) ?_ ?_
    ·skip
     all_goals refine AW.reg0 ?_
     all_goals iterate 4 (refine S.g rfl rfl fun K' k' => ?_; simp only [zz, reduceIte, Nat.reduceEqDiff, Nat.reduceLT, Nat.reduceLeDiff, Nat.reduceAdd, reduceCtorEq, Nat.reduceMul, sl31, el31, ok24, sz24, ag24, zt24, f2, f3, f5, f6, f9, f44, f45, f46, hil, hgv, hv1, hv2, hv3, hv4]; refine k' _ _ ?_; clear k' K')
     all_goals refine S.nil ?_
     all_goals simp only [ze, reduceIte, Nat.reduceEqDiff, Nat.reduceLT, Nat.reduceLeDiff, Nat.reduceAdd, reduceCtorEq, Nat.reduceMul, f2, f3, f5, f6, f9, f44, f45, f46, hil, hgv, hv1, hv2, hv3, hv4]
     exact ⟨rfl, rfl, rfl, rfl, rfl⟩
    clear f2 f3 f5 f6 f9 f44 f45 f46
    rintro s σ' ⟨rfl, f2, f3, f5, f6, f9, f44, f45, f46, f12, l12⟩
    rcases hvb with rfl | ⟨k, xs, rfl, hown, hokb, hnm, hxl⟩
    ·refine AW.seq_k fun K4 h4 => ?_
     all_goals refine AW.reg0 ?_
     all_goals iterate 4 (refine S.g rfl rfl fun K' k' => ?_; simp only [zz, reduceIte, Nat.reduceEqDiff, Nat.reduceLT, Nat.reduceLeDiff, Nat.reduceAdd, reduceCtorEq, Nat.reduceMul, of24_0, ok22, sz22, ag22, sl22, el22, ok38, sz38, ag38, f12, l12]; refine k' _ _ ?_; clear k' K')
     all_goals refine S.nil ?_
     all_goals simp only [ze, reduceIte, Nat.reduceEqDiff, Nat.reduceLT, Nat.reduceLeDiff, Nat.reduceAdd, reduceCtorEq, Nat.reduceMul, f12, l12]
     all_goals apply_assumption
     refine AW.block ?_   -- 2
     refine AW.loop (fun m s σ' => σ = σ' ∧ m = 0 ∧ s.t 2 = ipA a ∧ s.t 3 = ipA b ∧ s.t 5 = ipA a ∧ s.t 6 = ipA b ∧ s.t 9 = ptrV g ∧ s.t 44 = .sl es ∧ s.t 45 = .c (.int .i64 (2 : Int)) ∧ s.t 46 = .c (.int .i64 (i : Nat)) ∧ s.t 52 = .c (.int .i64 (0 : Int)) ∧ s.t 53 = .c (.int .i64 (0 : Int))) 0 ?_ ?_
     ·all_goals simp only [zs, reduceIte, Nat.reduceEqDiff, Nat.reduceLT, Nat.reduceLeDiff, Nat.reduceAdd, reduceCtorEq, Nat.reduceMul, f2, f3, f5, f6, f9, f44, f45, f46]
      rfl
     clear f2 f3 f5 f6 f9 f44 f45 f46 f12 l12
     rintro m s σ' ⟨rfl, rfl, f2, f3, f5, f6, f9, f44, f45, f46, f52, f53⟩
     refine AW.seq_k fun K5 h5 => ?_
     all_goals refine AW.reg0 ?_
     all_goals (refine S.g rfl rfl fun K' k' => ?_; simp only [zz, reduceIte, Nat.reduceEqDiff, Nat.reduceAdd, f52, f53]; refine k' _ _ ?_; clear k' K')
     all_goals refine S.nil ?_
     all_goals simp only [ze, reduceIte, Nat.reduceEqDiff, Nat.reduceLT, Nat.reduceLeDiff, Nat.reduceAdd, reduceCtorEq, Nat.reduceMul, f52, f53]
     all_goals apply_assumption
     refine AW.seq_k fun Kx hx => ?_
     refine AW.cond (b := false) (by simp [ev]) (fun hc => by cases hc) (fun _ => AW.exit ?_)
     all_goals simp only [zs, reduceIte, Nat.reduceEqDiff, Nat.reduceLT, Nat.reduceLeDiff, Nat.reduceAdd, reduceCtorEq, Nat.reduceMul, f2, f3, f5, f6, f9, f44, f45, f46]
     exact hnext _ (.refl _ _)
    ·have hrow0 := hown.row
     have hnames : ∀ (q : Nat) (xs' : List Bd), nms k xs' q → (∀ x ∈ xs', ∃ y ∈ xs, x.av = y.av) → N q := fun q xs' hq hx => by
      rcases hq with rfl | ⟨x, hx1, hx2⟩
      ·exact hnm _ (.inl rfl)
      ·obtain ⟨y, hy1, hy2⟩ := hx x hx1
       exact hnm _ (.inr ⟨y, hy1, by rw [← hy2]; exact hx2⟩)
     refine AW.seq_k fun K6 h6 => ?_
     all_goals refine AW.reg0 ?_
     all_goals iterate 4 (refine S.g rfl rfl fun K' k' => ?_; simp only [zz, reduceIte, Nat.reduceEqDiff, Nat.reduceLT, Nat.reduceLeDiff, Nat.reduceAdd, reduceCtorEq, Nat.reduceMul, of24_0, ok22, sz22, ag22, sl22, el22, ok38, sz38, ag38, f12, l12, hrow0, List.length_map]; refine k' _ _ ?_; clear k' K')
     all_goals refine S.nil ?_
     all_goals simp only [ze, reduceIte, Nat.reduceEqDiff, Nat.reduceLT, Nat.reduceLeDiff, Nat.reduceAdd, reduceCtorEq, Nat.reduceMul, f12, l12, hrow0, List.length_map]
     all_goals apply_assumption
     refine AW.block ?_   -- 2
     refine AW.loop (fun m s σ' => ∃ p : Nat, m + p = xs.length ∧ Own σ' k (mutR xs p) ∧ Muts N σ σ' ∧ s.t 2 = ipA a ∧ s.t 3 = ipA b ∧ s.t 5 = ipA a ∧ s.t 6 = ipA b ∧ s.t 9 = ptrV g ∧ s.t 44 = .sl es ∧ s.t 45 = .c (.int .i64 (2 : Int)) ∧ s.t 46 = .c (.int .i64 (i : Nat)) ∧ s.t 12 = .lp 12 0 ∧ s.l 12 = some [.gl k] ∧ s.t 52 = .c (.int .i64 (xs.length : Nat)) ∧ s.t 53 = .c (.int .i64 (p : Nat))) xs.length ?_ ?_
     ·refine ⟨0, by omega, by simpa [mutR] using hown, .refl _ _, ?_⟩
      all_goals simp only [zs, reduceIte, Nat.reduceEqDiff, Nat.reduceLT, Nat.reduceLeDiff, Nat.reduceAdd, reduceCtorEq, Nat.reduceMul, f2, f3, f5, f6, f9, f44, f45, f46, f12, l12]
      rfl
     clear f2 f3 f5 f6 f9 f44 f45 f46 f12 l12
     rintro m s σ' ⟨p, hm, hownp, hmut, f2, f3, f5, f6, f9, f44, f45, f46, f12, l12, f52, f53⟩
     refine AW.seq_k fun K7 h7 => ?_
     all_goals refine AW.reg0 ?_
     all_goals (refine S.g rfl rfl fun K' k' => ?_; simp only [zz, reduceIte, Nat.reduceEqDiff, Nat.reduceAdd, f52, f53]; refine k' _ _ ?_; clear k' K')
     all_goals refine S.nil ?_
     all_goals simp only [ze, reduceIte, Nat.reduceEqDiff, Nat.reduceLT, Nat.reduceLeDiff, Nat.reduceAdd, reduceCtorEq, Nat.reduceMul, f52, f53]
     all_goals apply_assumption
     refine AW.seq_k fun K8 h8 => ?_
     refine AW.cond (b := decide (p < xs.length)) (by simp [ev]) (fun hc => ?_) (fun hc => ?_)
     ·have hp := of_decide_eq_true hc
      have hwp : IntKind.i64.wrap ((p : Int) + 1) = ((p + 1 : Nat) : Int) := by rw [wrap_small _ (by omega) (by omega)]; rfl
      obtain ⟨x, hx⟩ : ∃ x, xs[p]? = some x := ⟨_, List.getElem?_eq_getElem hp⟩
      have hxm := List.mem_of_getElem? hx
      have hgx := mutR_get hx
      have hnx := mutR_next hx
      have hrl := mutR_len xs p
      have hokx := hokb x hxm
      have hav : ∀ q, x.av = .gl q → N q := fun q hq => hnm _ (.inr ⟨x, hxm, hq⟩)
      have hkN : N k := hnm _ (.inl rfl)
      obtain ⟨rn, hrn⟩ : ∃ rn, mutR xs (p + 1) = rn := ⟨_, rfl⟩
      rw [hrn] at hnx
      generalize mutR xs p = rp at hownp hgx hnx hrl
      refine AW.skip ?_
      all_goals simp only [zs, reduceIte, Nat.reduceEqDiff, Nat.reduceLT, Nat.reduceLeDiff, Nat.reduceAdd, reduceCtorEq, Nat.reduceMul]
      all_goals apply_assumption
      refine AW.seq_j (fun s σ' => Own σ' k rn ∧ Muts N σ σ' ∧ s.t 2 = ipA a ∧ s.t 3 = ipA b ∧ s.t 5 = ipA a ∧ s.t 6 = ipA b ∧ s.t 9 = ptrV g ∧ s.t 44 = .sl es ∧ s.t 45 = .c (.int .i64 (2 : Int)) ∧ s.t 46 = .c (.int .i64 (i : Nat)) ∧ s.t 12 = .lp 12 0 ∧ s.l 12 = some [.gl k] ∧ s.t 52 = .c (.int .i64 (xs.length : Nat)) ∧ s.t 53 = .c (.int .i64 (p : Nat))) ?_ ?_
      ·have hrow := hownp.row
       have hpl : p < rp.length := by omega
       have hgd : (rp.map encBd).getD p [] = encBd x := by simp [List.getD, hgx]
       have hsz : x.b.var.size + ByteArray.size { data := #[120] } ≤ 9223372036854775807 := by
        have h1 := hokx.var
        have h2 : ByteArray.size { data := #[120] } = 1 := rfl
        omega
       refine AW.block ?_   -- 3
       refine AW.seq_j (fun s σ2 => σ' = σ2 ∧ s.t 2 = ipA a ∧ s.t 3 = ipA b ∧ s.t 5 = ipA a ∧ s.t 6 = ipA b ∧ s.t 9 = ptrV g ∧ s.t 44 = .sl es ∧ s.t 45 = .c (.int .i64 (2 : Int)) ∧ s.t 46 = .c (.int .i64 (i : Nat)) ∧ s.t 12 = .lp 12 0 ∧ s.l 12 = some [.gl k] ∧ s.t 52 = .c (.int .i64 (xs.length : Nat)) ∧ s.t 53 = .c (.int .i64 (p : Nat)) ∧ s.t 13 = .c (.int .i64 (p : Nat))) ?_ ?_
       ·skip
        all_goals refine AW.reg0 ?_
        all_goals iterate 2 (refine S.g rfl rfl fun K' k' => ?_; simp only [zz, reduceIte, Nat.reduceEqDiff, Nat.reduceAdd, f2, f3, f5, f6, f9, f44, f45, f46, f12, l12, f52, f53]; refine k' _ _ ?_; clear k' K')
        all_goals refine S.nil ?_
        all_goals simp only [ze, reduceIte, Nat.reduceEqDiff, Nat.reduceLT, Nat.reduceLeDiff, Nat.reduceAdd, reduceCtorEq, Nat.reduceMul, f2, f3, f5, f6, f9, f44, f45, f46, f12, l12, f52, f53]
        skip
       clear f2 f3 f5 f6 f9 f44 f45 f46 f12 l12 f52 f53
       rintro s _ ⟨rfl, f2, f3, f5, f6, f9, f44, f45, f46, f12, l12, f52, f53, f13⟩
       refine AW.seq_j (fun s σ2 => Own σ2 k (rp.set p (mutX 0 x)) ∧ Muts N σ' σ2 ∧ s.t 2 = ipA a ∧ s.t 3 = ipA b ∧ s.t 5 = ipA a ∧ s.t 6 = ipA b ∧ s.t 9 = ptrV g ∧ s.t 44 = .sl es ∧ s.t 45 = .c (.int .i64 (2 : Int)) ∧ s.t 46 = .c (.int .i64 (i : Nat)) ∧ s.t 12 = .lp 12 0 ∧ s.l 12 = some [.gl k] ∧ s.t 52 = .c (.int .i64 (xs.length : Nat)) ∧ s.t 53 = .c (.int .i64 (p : Nat)) ∧ s.t 13 = .c (.int .i64 (p : Nat))) ?_ ?_
       ·skip
        all_goals refine AW.reg0 ?_
        all_goals iterate 10 (refine S.g rfl rfl fun K' k' => ?_; simp only [zz, reduceIte, Nat.reduceEqDiff, Nat.reduceLT, Nat.reduceLeDiff, Nat.reduceAdd, reduceCtorEq, Nat.reduceMul, of24_0, ok22, sz22, ag22, sl22, el22, ok38, sz38, ag38, of38_0, ok9, sz9, ag9, f2, f3, f5, f6, f9, f44, f45, f46, f12, l12, f52, f53, f13, hrow, hpl, hgd, List.length_map, encBd, okAv, wkAv, hsz]; refine k' _ _ ?_; clear k' K')
        all_goals refine S.nil ?_
        all_goals simp only [ze, reduceIte, Nat.reduceEqDiff, Nat.reduceLT, Nat.reduceLeDiff, Nat.reduceAdd, reduceCtorEq, Nat.reduceMul, f2, f3, f5, f6, f9, f44, f45, f46, f12, l12, f52, f53, f13, hrow, hpl, hgd, List.length_map, encBd, okAv, wkAv, hsz]
        have he : encBd (mutX 0 x) = [V.c (Value.string (x.b.var ++ { data := #[120] })), V.c (Value.int IntKind.i64 x.b.ev.src), V.c (Value.int IntKind.i64 x.b.ev.seq), V.c (Value.int IntKind.i64 x.b.ev.time), V.c (Value.string x.b.ev.type), x.av] := rfl
        rw [← he, ← List.map_set]
        exact ⟨hownp.setVar hgx rfl (mutL_zero _), Muts.set hkN⟩
       clear f2 f3 f5 f6 f9 f44 f45 f46 f12 l12 f52 f53 f13
       rintro s σ3 ⟨hown3, hmut3, f2, f3, f5, f6, f9, f44, f45, f46, f12, l12, f52, f53, f13⟩
       have hmut4 := hmut.trans hmut3
       clear hmut3 hmut hrow hgd hownp
       have hgx3 : (rp.set p (mutX 0 x))[p]? = some (mutX 0 x) := by rw [List.getElem?_set_self hpl]
       have hrow3 := hown3.row
       have hgd3 : ((rp.set p (mutX 0 x)).map encBd).getD p [] = encBd (mutX 0 x) := by simp [List.getD, hpl]
       have hpl3 : p < (rp.set p (mutX 0 x)).length := by rw [List.length_set]; exact hpl
       rcases hown3.av _ (List.mem_of_getElem? hgx3) with ⟨hav0, hat0⟩ | ⟨ka, hava, hka⟩
       ·have hx0 : x.b.ev.attrs = [] := by
         have : (mutX 0 x).b.ev.attrs = x.b.ev.attrs := mutL_zero _
         rw [← this]; exact hat0
        have hfin : rp.set p (mutX 0 x) = rn := by rw [← hnx, hx0]; rfl
        have henc : encBd (mutX 0 x) = [V.c (Value.string (x.b.var ++ exx)), V.c (Value.int IntKind.i64 x.b.ev.src), V.c (Value.int IntKind.i64 x.b.ev.seq), V.c (Value.int IntKind.i64 x.b.ev.time), V.c (Value.string x.b.ev.type), .sl []] := by
         rw [← hav0]; rfl
        rw [henc] at hgd3
        refine AW.seq_k fun K9 h9 => ?_
        all_goals refine AW.reg0 ?_
        all_goals iterate 9 (refine S.g rfl rfl fun K' k' => ?_; simp only [zz, reduceIte, Nat.reduceEqDiff, Nat.reduceLT, Nat.reduceLeDiff, Nat.reduceAdd, reduceCtorEq, Nat.reduceMul, of24_0, ok22, sz22, ag22, sl22, el22, ok38, sz38, ag38, of38_1, of36_3, ok34, sz34, ag34, sl34, el34, ok42, sz42, ag42, f2, f3, f5, f6, f9, f44, f45, f46, f12, l12, f52, f53, f13, hrow3, hpl3, hgd3, List.length_map]; refine k' _ _ ?_; clear k' K')
        all_goals refine S.nil ?_
        all_goals simp only [ze, reduceIte, Nat.reduceEqDiff, Nat.reduceLT, Nat.reduceLeDiff, Nat.reduceAdd, reduceCtorEq, Nat.reduceMul, f2, f3, f5, f6, f9, f44, f45, f46, f12, l12, f52, f53, f13, hrow3, hpl3, hgd3, List.length_map]
        all_goals apply_assumption
        refine AW.block ?_   -- 4
        refine AW.loop (fun m s σ' => σ3 = σ' ∧ m = 0 ∧ s.t 2 = ipA a ∧ s.t 3 = ipA b ∧ s.t 5 = ipA a ∧ s.t 6 = ipA b ∧ s.t 9 = ptrV g ∧ s.t 44 = .sl es ∧ s.t 45 = .c (.int .i64 (2 : Int)) ∧ s.t 46 = .c (.int .i64 (i : Nat)) ∧ s.t 12 = .lp 12 0 ∧ s.l 12 = some [.gl k] ∧ s.t 52 = .c (.int .i64 (xs.length : Nat)) ∧ s.t 53 = .c (.int .i64 (p : Nat)) ∧ s.t 72 = .c (.int .i64 (0 : Int)) ∧ s.t 73 = .c (.int .i64 (0 : Int))) 0 ?_ ?_
        ·all_goals simp only [zs, reduceIte, Nat.reduceEqDiff, Nat.reduceLT, Nat.reduceLeDiff, Nat.reduceAdd, reduceCtorEq, Nat.reduceMul, f2, f3, f5, f6, f9, f44, f45, f46, f12, l12, f52, f53]
         rfl
        clear f2 f3 f5 f6 f9 f44 f45 f46 f12 l12 f52 f53 f13
        rintro m s _ ⟨rfl, rfl, f2, f3, f5, f6, f9, f44, f45, f46, f12, l12, f52, f53, f72, f73⟩
        refine AW.seq_k fun K10 h10 => ?_
        all_goals refine AW.reg0 ?_
        all_goals (refine S.g rfl rfl fun K' k' => ?_; simp only [zz, reduceIte, Nat.reduceEqDiff, Nat.reduceAdd, f72, f73]; refine k' _ _ ?_; clear k' K')
        all_goals refine S.nil ?_
        all_goals simp only [ze, reduceIte, Nat.reduceEqDiff, Nat.reduceLT, Nat.reduceLeDiff, Nat.reduceAdd, reduceCtorEq, Nat.reduceMul, f72, f73]
        all_goals apply_assumption
        refine AW.seq_k fun Kx hx => ?_
        refine AW.cond (b := false) (by simp [ev]) (fun hc => by cases hc) (fun _ => AW.exit ?_)
        all_goals simp only [zs, reduceIte, Nat.reduceEqDiff, Nat.reduceLT, Nat.reduceLeDiff, Nat.reduceAdd, reduceCtorEq, Nat.reduceMul, f2, f3, f5, f6, f9, f44, f45, f46, f12, l12, f52, f53]
        rw [hfin] at hown3
        exact ⟨hown3, hmut4⟩
       ·have hava : x.av = .gl ka := hava
        have hla : x.b.ev.attrs.length < 4611686018427387904 := hokx.ev.len
        have hka0 : σ3.gr ka = some ((42, 4), x.b.ev.attrs.map encAttr) := by
         have : (mutX 0 x).b.ev.attrs = x.b.ev.attrs := mutL_zero _
         rw [← this]; exact hka
        have henc : ∀ q, encBd (mutX q x) = [V.c (Value.string (x.b.var ++ exx)), V.c (Value.int IntKind.i64 x.b.ev.src), V.c (Value.int IntKind.i64 x.b.ev.seq), V.c (Value.int IntKind.i64 x.b.ev.time), V.c (Value.string x.b.ev.type), .gl ka] := fun q => by
         rw [← hava]; rfl
        rw [henc] at hgd3
        refine AW.seq_k fun K11 h11 => ?_
        all_goals refine AW.reg0 ?_
        all_goals iterate 9 (refine S.g rfl rfl fun K' k' => ?_; simp only [zz, reduceIte, Nat.reduceEqDiff, Nat.reduceLT, Nat.reduceLeDiff, Nat.reduceAdd, reduceCtorEq, Nat.reduceMul, of24_0, ok22, sz22, ag22, sl22, el22, ok38, sz38, ag38, of38_1, of36_3, ok34, sz34, ag34, sl34, el34, ok42, sz42, ag42, f2, f3, f5, f6, f9, f44, f45, f46, f12, l12, f52, f53, f13, hrow3, hpl3, hgd3, hka0, List.length_map]; refine k' _ _ ?_; clear k' K')
        all_goals refine S.nil ?_
        all_goals simp only [ze, reduceIte, Nat.reduceEqDiff, Nat.reduceLT, Nat.reduceLeDiff, Nat.reduceAdd, reduceCtorEq, Nat.reduceMul, f2, f3, f5, f6, f9, f44, f45, f46, f12, l12, f52, f53, f13, hrow3, hpl3, hgd3, hka0, List.length_map]
        all_goals apply_assumption
        refine AW.block ?_   -- 4
        refine AW.loop (fun m s σ' => ∃ q : Nat, m + q = x.b.ev.attrs.length ∧ Own σ' k (rp.set p (mutX q x)) ∧ Muts N σ σ' ∧ s.t 2 = ipA a ∧ s.t 3 = ipA b ∧ s.t 5 = ipA a ∧ s.t 6 = ipA b ∧ s.t 9 = ptrV g ∧ s.t 44 = .sl es ∧ s.t 45 = .c (.int .i64 (2 : Int)) ∧ s.t 46 = .c (.int .i64 (i : Nat)) ∧ s.t 12 = .lp 12 0 ∧ s.l 12 = some [.gl k] ∧ s.t 52 = .c (.int .i64 (xs.length : Nat)) ∧ s.t 53 = .c (.int .i64 (p : Nat)) ∧ s.t 13 = .c (.int .i64 (p : Nat)) ∧ s.t 72 = .c (.int .i64 (x.b.ev.attrs.length : Nat)) ∧ s.t 73 = .c (.int .i64 (q : Nat))) x.b.ev.attrs.length ?_ ?_
        ·refine ⟨0, by omega, hown3, hmut4, ?_⟩
         all_goals simp only [zs, reduceIte, Nat.reduceEqDiff, Nat.reduceLT, Nat.reduceLeDiff, Nat.reduceAdd, reduceCtorEq, Nat.reduceMul, f2, f3, f5, f6, f9, f44, f45, f46, f12, l12, f52, f53, f13]
         rfl
        clear f2 f3 f5 f6 f9 f44 f45 f46 f12 l12 f52 f53 f13 hgd3 hrow3 hka0 hka hgx3 hpl3 hown3 hmut4
        rintro m s σ4 ⟨q, hmq, hown4, hmut4, f2, f3, f5, f6, f9, f44, f45, f46, f12, l12, f52, f53, f13, f72, f73⟩
        refine AW.seq_k fun K12 h12 => ?_
        all_goals refine AW.reg0 ?_
        all_goals (refine S.g rfl rfl fun K' k' => ?_; simp only [zz, reduceIte, Nat.reduceEqDiff, Nat.reduceAdd, f72, f73]; refine k' _ _ ?_; clear k' K')
        all_goals refine S.nil ?_
        all_goals simp only [ze, reduceIte, Nat.reduceEqDiff, Nat.reduceLT, Nat.reduceLeDiff, Nat.reduceAdd, reduceCtorEq, Nat.reduceMul, f72, f73]
        all_goals apply_assumption
        refine AW.seq_k fun K13 h13 => ?_
        refine AW.cond (b := decide (q < x.b.ev.attrs.length)) (by simp [ev]) (fun hc2 => ?_) (fun hc2 => ?_)
        ·have hq := of_decide_eq_true hc2
         have hwq : IntKind.i64.wrap ((q : Int) + 1) = ((q + 1 : Nat) : Int) := by rw [wrap_small _ (by omega) (by omega)]; rfl
         obtain ⟨y, hy⟩ : ∃ y, x.b.ev.attrs[q]? = some y := ⟨_, List.getElem?_eq_getElem hq⟩
         have hgx4 : (rp.set p (mutX q x))[p]? = some (mutX q x) := by rw [List.getElem?_set_self hpl]
         have hrow4 := hown4.row
         have hgd4 : ((rp.set p (mutX q x)).map encBd).getD p [] = encBd (mutX q x) := by simp [List.getD, hpl]
         have hpl4 : p < (rp.set p (mutX q x)).length := by rw [List.length_set]; exact hpl
         have hka4 : σ4.gr ka = some ((42, 4), (mutL x.b.ev.attrs q).map encAttr) := by
          rcases hown4.av _ (List.mem_of_getElem? hgx4) with ⟨h1, _⟩ | ⟨k', h1, h2⟩
          ·have : x.av = .sl [] := h1
           rw [hava] at this; cases this
          ·have h1 : x.av = .gl k' := h1
           rw [hava] at h1; injection h1 with h1; subst h1; exact h2
         have hql : q < (mutL x.b.ev.attrs q).length := by rw [mutL_len]; exact hq
         have hgy := mutL_get hy
         have hgq : ((mutL x.b.ev.attrs q).map encAttr).getD q [] = encAttr y := by simp [List.getD, hgy]
         have hsy : y.name.size + ByteArray.size { data := #[120] } ≤ 9223372036854775807 := by
          have h1 := (hokx.ev.attrs y (List.mem_of_getElem? hy)).1
          have h2 : ByteArray.size { data := #[120] } = 1 := rfl
          omega
         rw [henc] at hgd4
         have hkaN : N ka := hav ka hava
         refine AW.skip ?_
         all_goals simp only [zs, reduceIte, Nat.reduceEqDiff, Nat.reduceLT, Nat.reduceLeDiff, Nat.reduceAdd, reduceCtorEq, Nat.reduceMul]
         all_goals apply_assumption
         refine AW.seq_j (fun s σ' => Own σ' k (rp.set p (mutX (q + 1) x)) ∧ Muts N σ σ' ∧ s.t 2 = ipA a ∧ s.t 3 = ipA b ∧ s.t 5 = ipA a ∧ s.t 6 = ipA b ∧ s.t 9 = ptrV g ∧ s.t 44 = .sl es ∧ s.t 45 = .c (.int .i64 (2 : Int)) ∧ s.t 46 = .c (.int .i64 (i : Nat)) ∧ s.t 12 = .lp 12 0 ∧ s.l 12 = some [.gl k] ∧ s.t 52 = .c (.int .i64 (xs.length : Nat)) ∧ s.t 53 = .c (.int .i64 (p : Nat)) ∧ s.t 13 = .c (.int .i64 (p : Nat)) ∧ s.t 72 = .c (.int .i64 (x.b.ev.attrs.length : Nat)) ∧ s.t 73 = .c (.int .i64 (q : Nat))) ?_ ?_
         ·refine AW.block ?_   -- 5
          refine AW.seq_k fun K14 h14 => ?_
          all_goals refine AW.reg0 ?_
          all_goals iterate 2 (refine S.g rfl rfl fun K' k' => ?_; simp only [zz, reduceIte, Nat.reduceEqDiff, Nat.reduceAdd, f73]; refine k' _ _ ?_; clear k' K')
          all_goals refine S.nil ?_
          all_goals simp only [ze, reduceIte, Nat.reduceEqDiff, Nat.reduceLT, Nat.reduceLeDiff, Nat.reduceAdd, reduceCtorEq, Nat.reduceMul, f73]
          all_goals apply_assumption
          all_goals refine AW.reg0 ?_
          all_goals iterate 15 (refine S.g rfl rfl fun K' k' => ?_; simp only [zz, reduceIte, Nat.reduceEqDiff, Nat.reduceLT, Nat.reduceLeDiff, Nat.reduceAdd, reduceCtorEq, Nat.reduceMul, of24_0, ok22, sz22, ag22, sl22, el22, ok38, sz38, ag38, of38_1, of36_3, ok34, sz34, ag34, sl34, el34, ok42, sz42, ag42, of42_0, ok9, sz9, ag9, f2, f3, f5, f6, f9, f44, f45, f46, f12, l12, f52, f53, f13, f72, f73, hrow4, hpl4, hgd4, hka4, hql, hgq, List.length_map, encAttr, hsy]; refine k' _ _ ?_; clear k' K')
          all_goals refine S.nil ?_
          all_goals simp only [ze, reduceIte, Nat.reduceEqDiff, Nat.reduceLT, Nat.reduceLeDiff, Nat.reduceAdd, reduceCtorEq, Nat.reduceMul, f2, f3, f5, f6, f9, f44, f45, f46, f12, l12, f52, f53, f13, f72, f73, hrow4, hpl4, hgd4, hka4, hql, hgq, List.length_map, encAttr, hsy]
          have he : encAttr (mutA y) = [V.c (Value.string (y.name ++ { data := #[120] })), .c (.int .i64 y.v.kind), .c (.int .i64 y.v.n), .c (.string y.v.s)] := rfl
          rw [← he, ← List.map_set, mutL_next hy]
          have h4 := hown4.setAttrs (y := mutX (q + 1) x) hgx4 hava rfl rfl
          rw [List.set_set] at h4
          exact ⟨h4, hmut4.trans (Muts.set hkaN)⟩
         clear f2 f3 f5 f6 f9 f44 f45 f46 f12 l12 f52 f53 f13 f72 f73
         rintro s σ5 ⟨hown5, hmut5, f2, f3, f5, f6, f9, f44, f45, f46, f12, l12, f52, f53, f13, f72, f73⟩
         all_goals refine AW.reg0 ?_
         all_goals iterate 2 (refine S.g rfl rfl fun K' k' => ?_; simp only [zz, reduceIte, Nat.reduceEqDiff, Nat.reduceAdd, f73, hwq]; refine k' _ _ ?_; clear k' K')
         all_goals refine S.nil ?_
         all_goals simp only [ze, reduceIte, Nat.reduceEqDiff, Nat.reduceLT, Nat.reduceLeDiff, Nat.reduceAdd, reduceCtorEq, Nat.reduceMul, f73, hwq]
         exact ⟨m - 1, by omega, q + 1, by omega, hown5, hmut5, f2, f3, f5, f6, f9, f44, f45, f46, f12, l12, f52, f53, f13, f72, rfl⟩
        ·have hq := of_decide_eq_false hc2
         have hql : q = x.b.ev.attrs.length := by omega
         refine AW.exit ?_
         all_goals simp only [zs, reduceIte, Nat.reduceEqDiff, Nat.reduceLT, Nat.reduceLeDiff, Nat.reduceAdd, reduceCtorEq, Nat.reduceMul, f2, f3, f5, f6, f9, f44, f45, f46, f12, l12, f52, f53]
         rw [hql, hnx] at hown4
         exact ⟨hown4, hmut4⟩
      clear f2 f3 f5 f6 f9 f44 f45 f46 f12 l12 f52 f53
      rintro s σ3 ⟨hown3, hmut3, f2, f3, f5, f6, f9, f44, f45, f46, f12, l12, f52, f53⟩
      all_goals refine AW.reg0 ?_
      all_goals iterate 2 (refine S.g rfl rfl fun K' k' => ?_; simp only [zz, reduceIte, Nat.reduceEqDiff, Nat.reduceAdd, f53, hwp]; refine k' _ _ ?_; clear k' K')
      all_goals refine S.nil ?_
      all_goals simp only [ze, reduceIte, Nat.reduceEqDiff, Nat.reduceLT, Nat.reduceLeDiff, Nat.reduceAdd, reduceCtorEq, Nat.reduceMul, f53, hwp]
      exact ⟨m - 1, by omega, p + 1, by omega, hrn ▸ hown3, hmut3, f2, f3, f5, f6, f9, f44, f45, f46, f12, l12, f52, rfl⟩
     ·have hp := of_decide_eq_false hc
      refine AW.exit ?_
      all_goals simp only [zs, reduceIte, Nat.reduceEqDiff, Nat.reduceLT, Nat.reduceLeDiff, Nat.reduceAdd, reduceCtorEq, Nat.reduceMul, f2, f3, f5, f6, f9, f44, f45, f46]
      exact hnext _ hmut
   clear f2 f3 f5 f6 f9 f44 f45 f46
   rintro s σ' ⟨hout', f2, f3, f5, f6, f9, f44, f45, f46⟩
   all_goals refine AW.reg0 ?_
   all_goals iterate 2 (refine S.g rfl rfl fun K' k' => ?_; simp only [zz, reduceIte, Nat.reduceEqDiff, Nat.reduceAdd, f46, hwi]; refine k' _ _ ?_; clear k' K')
   all_goals refine S.nil ?_
   all_goals simp only [ze, reduceIte, Nat.reduceEqDiff, Nat.reduceLT, Nat.reduceLeDiff, Nat.reduceAdd, reduceCtorEq, Nat.reduceMul, f46, hwi]
   exact ⟨m - 1, by omega, i + 1, by omega, hout', f2, f3, f5, f6, f9, f44, f45, rfl⟩
  ·have hi : ¬ i < 2 := by have := of_decide_eq_false hc; omega
   refine AW.exit ?_
   all_goals simp only [zs, reduceIte, Nat.reduceEqDiff, Nat.reduceLT, Nat.reduceLeDiff, Nat.reduceAdd, reduceCtorEq, Nat.reduceMul]
   exact ⟨hout.done (by omega), f2, f3, f5, f6, f9⟩
 rintro s σ3 ⟨hmu3, f2, f3, f5, f6, f9⟩
 have hps : PSet g (M.setL [a]) σ3 := by
  have h0 : PSet g (M.setL [a]) σ2 := PSet_more hnew.set hko hkg
  refine PSet_of_muts h0 hmu3 fun j hj hn => ?_
  have hst : stN g σ2 = stN g σ' := by
   obtain ⟨lv, ho⟩ := hnew.set.ex
   simp only [stN, ho, hko g _ ho]
  rw [hst] at hj
  rcases hn with hn | hn
  ·obtain ⟨y, hy⟩ := hin j hn
   exact (hnew.gr j y hy).2 hj
  ·obtain ⟨y, hy⟩ := PSet_stN hnew.set hj
   rw [hfrc j hn] at hy; cases hy
 obtain ⟨hsrt, hslen, hsmem⟩ := setL_ind [a]
 obtain ⟨rows, hrows⟩ : ∃ rows, M.setL [a] = rows := ⟨_, rfl⟩
 rw [hrows] at hps hsrt hslen hsmem
 have hok : ∀ x ∈ rows, okI x := fun x hx => hok1 x (hsmem x hx)
 have hrl : rows.length * 24 ≤ 140737488355328 := by simp at hslen; omega
 clear hnew hvp hvc hin hinc hfrc hkg hko hmu3 hstep hes hel hp1 hp2 hp3 hp4 hc1 hc2 hc3 hc4
 refine AW.seq_j (fun s σ => PSet g rows σ ∧ s.t 2 = ipA a ∧ s.t 3 = ipA b ∧ s.t 5 = ipA a ∧ s.t 6 = ipA b ∧ s.t 9 = ptrV g) ?_ ?_
 ·refine AW.seq_j (fun s σ => PSet g rows σ ∧ s.t 2 = ipA a ∧ s.t 3 = ipA b ∧ s.t 5 = ipA a ∧ s.t 6 = ipA b ∧ s.t 9 = ptrV g ∧ s.t 94 = .fn (.func 31) [] [capV rows]) ?_ ?_
  ·skip
   all_goals refine AW.reg0 ?_
   all_goals (refine S.g rfl rfl fun K' k' => ?_; simp only [zz, reduceIte, Nat.reduceEqDiff, Nat.reduceAdd, f2, f3, f5, f6, f9, ptrV]; refine k' _ _ ?_; clear k' K')
   all_goals (refine S.g rfl rfl fun K' k' => ?_; simp only [zz, reduceIte, Nat.reduceEqDiff, Nat.reduceLT, Nat.reduceLeDiff, Nat.reduceAdd, reduceCtorEq, Nat.reduceMul, f2, f3, f5, f6, f9, ptrV]; refine (setAll_spec g rows _ hps hrl hok).to fun v σx hv => ?_; obtain ⟨rfl, rfl⟩ := hv <;> (refine k' _ _ ?_; clear k' K'))
   all_goals refine S.nil ?_
   all_goals simp only [ze, reduceIte, Nat.reduceEqDiff, Nat.reduceLT, Nat.reduceLeDiff, Nat.reduceAdd, reduceCtorEq, Nat.reduceMul, f2, f3, f5, f6, f9, ptrV]
   exact hps
  clear f2 f3 f5 f6 f9
  rintro s σ4 ⟨hps4, f2, f3, f5, f6, f9, f94⟩
  refine AW.block ?_   -- 6
  refine AW.rangeFuncO (f := 31) (caps := [capV rows]) (T := 38) (sz := 6) (xs := rows.map fun l => l.map M.encBd) (by simp [ev, f94]) (iter_allO rows (fun l hl => ⟨(hok l hl).attrs, (hok l hl).len⟩) (by omega)) (fun v hv => by simp at hv; rw [hv]; exact imm_cap rows) (by decide) (fun i σ' => PSet g rows σ') (fun _ _ => False) hps4 ?_ ?_ (fun _ h => h.elim) (fun _ _ h => h.elim)
  ·intro r i es k σ5 hv hps5 hk5
   obtain ⟨l, hl, rfl⟩ : ∃ l, rows[i]? = some l ∧ es = l.map M.encBd := by
    rw [List.getElem?_map, Option.map_eq_some_iff] at hv
    obtain ⟨x, h, e⟩ := hv
    exact ⟨x, h, e.symm⟩
   have hlm := hok l (List.mem_of_getElem? hl)
   have hll : l.length < 4611686018427387904 := by have := hlm.len; omega
   have f95 : ((plainS s).put 95 (.agg [.gl k])).t 95 = .agg [.gl k] := by simp
   have hps6 : PSet g rows (σ5.setGr k (some ((38, 6), l.map M.encBd))) := PSet_of_muts (N := fun j => j = k) hps5 (Muts.set rfl) fun j hj e => by
    obtain ⟨y, hy⟩ := PSet_stN hps5 hj
    rw [e, hk5] at hy; cases hy
   have hst6 : ∀ j, stN g (σ5.setGr k (some ((38, 6), l.map M.encBd))) = some j → j ≠ k := fun j hj e => by
    obtain ⟨y, hy⟩ := PSet_stN hps5 (show stN g σ5 = some j from hj)
    rw [e, hk5] at hy; cases hy
   have hg6 : (σ5.setGr k (some ((38, 6), l.map M.encBd))).gr k = some ((38, 6), l.map M.encBd) := by simp
   generalize σ5.setGr k (some ((38, 6), l.map M.encBd)) = σ6 at hps6 hst6 hg6 ⊢
   generalize (plainS s).put 95 (.agg [.gl k]) = s1 at f95 ⊢
   all_goals refine AWR.reg0 ⟨rfl, ?_⟩
   all_goals iterate 2 (refine S.g rfl rfl fun K' k' => ?_; simp only [zz, reduceIte, Nat.reduceEqDiff, Nat.reduceLT, Nat.reduceLeDiff, Nat.reduceAdd, reduceCtorEq, Nat.reduceMul, zt24, ok24, sz24, ag24, f95]; refine k' _ _ ?_; clear k' K')
   all_goals refine S.nil ?_
   all_goals simp only [ze, reduceIte, Nat.reduceEqDiff, Nat.reduceLT, Nat.reduceLeDiff, Nat.reduceAdd, reduceCtorEq, Nat.reduceMul, f95]
   refine AWR.block ?_   -- 7
   refine AWR.seq_k fun K15 h15 => ?_
   all_goals refine AWR.reg0 ⟨rfl, ?_⟩
   all_goals iterate 4 (refine S.g rfl rfl fun K' k' => ?_; simp only [zz, reduceIte, Nat.reduceEqDiff, Nat.reduceLT, Nat.reduceLeDiff, Nat.reduceAdd, reduceCtorEq, Nat.reduceMul, of24_0, ok22, sz22, ag22, sl22, el22, ok38, sz38, ag38, hg6, List.length_map]; refine k' _ _ ?_; clear k' K')
   all_goals refine S.nil ?_
   all_goals simp only [ze, reduceIte, Nat.reduceEqDiff, Nat.reduceLT, Nat.reduceLeDiff, Nat.reduceAdd, reduceCtorEq, Nat.reduceMul, hg6, List.length_map]
   all_goals apply_assumption
   refine AWR.block ?_   -- 8
   refine AWR.loop (fun m s σ' => ∃ p : Nat, m + p = l.length ∧ PSet g rows σ' ∧ (∀ j, stN g σ' = some j → j ≠ k) ∧ σ'.gr k = some ((38, 6), (mutV l p).map M.encBd) ∧ s.t 15 = .lp 15 0 ∧ s.l 15 = some [.gl k] ∧ s.t 98 = .c (.int .i64 (l.length : Nat)) ∧ s.t 99 = .c (.int .i64 (p : Nat))) l.length ?_ ?_
   ·refine ⟨0, by omega, hps6, hst6, by simpa [mutV] using hg6, ?_⟩
    all_goals simp only [zs, reduceIte, Nat.reduceEqDiff, Nat.reduceLT, Nat.reduceLeDiff, Nat.reduceAdd, reduceCtorEq, Nat.reduceMul]
    rfl
   clear f95 hps6 hst6 hg6
   rintro m s σ7 ⟨p, hm, hps7, hst7, hg7, f15, l15, f98, f99⟩
   refine AWR.seq_k fun K16 h16 => ?_
   all_goals refine AWR.reg0 ⟨rfl, ?_⟩
   all_goals (refine S.g rfl rfl fun K' k' => ?_; simp only [zz, reduceIte, Nat.reduceEqDiff, Nat.reduceAdd, f98, f99]; refine k' _ _ ?_; clear k' K')
   all_goals refine S.nil ?_
   all_goals simp only [ze, reduceIte, Nat.reduceEqDiff, Nat.reduceLT, Nat.reduceLeDiff, Nat.reduceAdd, reduceCtorEq, Nat.reduceMul, f98, f99]
   all_goals apply_assumption
   refine AWR.seq_k fun K17 h17 => ?_
   refine AWR.cond (b := decide (p < l.length)) (by simp [ev]) (fun hc => ?_) (fun hc => ?_)
   ·have hp := of_decide_eq_true hc
    have hwp : IntKind.i64.wrap ((p : Int) + 1) = ((p + 1 : Nat) : Int) := by rw [wrap_small _ (by omega) (by omega)]; rfl
    obtain ⟨x, hx⟩ : ∃ x, l[p]? = some x := ⟨_, List.getElem?_eq_getElem hp⟩
    have hgx := mutV_get hx
    have hpl : p < (mutV l p).length := by rw [mutV_len]; exact hp
    have hgd : ((mutV l p).map M.encBd).getD p [] = M.encBd x := by simp [List.getD, hgx]
    have henc : M.encBd x = [V.c (Value.string x.var), V.c (Value.int IntKind.i64 x.ev.src), V.c (Value.int IntKind.i64 x.ev.seq), V.c (Value.int IntKind.i64 x.ev.time), V.c (Value.string x.ev.type), .sl (x.ev.attrs.map encAttr)] := rfl
    rw [henc] at hgd
    have hsz : x.var.size + ByteArray.size { data := #[120] } ≤ 9223372036854775807 := by
     have h1 := (hlm.ok x (List.mem_of_getElem? hx)).var
     have h2 : ByteArray.size { data := #[120] } = 1 := rfl
     omega
    refine AWR.skip ?_
    all_goals simp only [zs, reduceIte, Nat.reduceEqDiff, Nat.reduceLT, Nat.reduceLeDiff, Nat.reduceAdd, reduceCtorEq, Nat.reduceMul]
    all_goals apply_assumption
    refine AWR.seq_k fun K18 h18 => ?_
    refine AWR.block ?_   -- 9
    refine AWR.seq_k fun K19 h19 => ?_
    all_goals refine AWR.reg0 ⟨rfl, ?_⟩
    all_goals iterate 2 (refine S.g rfl rfl fun K' k' => ?_; simp only [zz, reduceIte, Nat.reduceEqDiff, Nat.reduceAdd, f99]; refine k' _ _ ?_; clear k' K')
    all_goals refine S.nil ?_
    all_goals simp only [ze, reduceIte, Nat.reduceEqDiff, Nat.reduceLT, Nat.reduceLeDiff, Nat.reduceAdd, reduceCtorEq, Nat.reduceMul, f99]
    all_goals apply_assumption
    all_goals refine AWR.reg0 ⟨rfl, ?_⟩
    all_goals iterate 10 (refine S.g rfl rfl fun K' k' => ?_; simp only [zz, reduceIte, Nat.reduceEqDiff, Nat.reduceLT, Nat.reduceLeDiff, Nat.reduceAdd, reduceCtorEq, Nat.reduceMul, of24_0, ok22, sz22, ag22, sl22, el22, ok38, sz38, ag38, of38_0, ok9, sz9, ag9, f15, l15, f98, f99, hg7, hpl, hgd, List.length_map, hsz]; refine k' _ _ ?_; clear k' K')
    all_goals refine S.nil ?_
    all_goals simp only [ze, reduceIte, Nat.reduceEqDiff, Nat.reduceLT, Nat.reduceLeDiff, Nat.reduceAdd, reduceCtorEq, Nat.reduceMul, f15, l15, f98, f99, hg7, hpl, hgd, List.length_map, hsz]
    all_goals apply_assumption
    have he : M.encBd (mutB x) = [V.c (Value.string (x.var ++ { data := #[120] })), V.c (Value.int IntKind.i64 x.ev.src), V.c (Value.int IntKind.i64 x.ev.seq), V.c (Value.int IntKind.i64 x.ev.time), V.c (Value.string x.ev.type), .sl (x.ev.attrs.map encAttr)] := rfl
    rw [← he, ← List.map_set, mutV_next hx]
    all_goals refine AWR.reg0 ⟨rfl, ?_⟩
    all_goals iterate 2 (refine S.g rfl rfl fun K' k' => ?_; simp only [zz, reduceIte, Nat.reduceEqDiff, Nat.reduceAdd, f99, hwp, f15, l15, f98]; refine k' _ _ ?_; clear k' K')
    all_goals refine S.nil ?_
    all_goals simp only [ze, reduceIte, Nat.reduceEqDiff, Nat.reduceLT, Nat.reduceLeDiff, Nat.reduceAdd, reduceCtorEq, Nat.reduceMul, f99, hwp, f15, l15, f98]
    refine ⟨m - 1, by omega, p + 1, by omega, PSet_of_muts (N := fun j => j = k) hps7 (Muts.set rfl) (fun j hj e => hst7 j hj e), fun j hj => hst7 j hj, by simp, rfl⟩
   ·refine AWR.exit ?_
    exact hps7
  ·rintro σ5 hps5
   exact ⟨hps5, by simp [plainS, keepV, f2, ipA], by simp [plainS, keepV, f3, ipA], by simp [plainS, keepV, f5, ipA], by simp [plainS, keepV, f6, ipA], by simp [plainS, keepV, f9, ptrV]⟩
 clear f2 f3 f5 f6 f9 hps
 rintro s σ4 ⟨hps, f2, f3, f5, f6, f9⟩
 have hsa : PCalls Tryz.prog 10 [.agg [.sl (a.map M.encBd)], .agg [.sl (a.map M.encBd)]] (fun v => v = .c (.bool true)) := (rsame_part a a haL (fun b hb => by have := ha.attrs b hb; omega)).mono fun v hv => by rw [hv, allEq_refl eqBd_refl]
 have hsb : PCalls Tryz.prog 10 [.agg [.sl (b.map M.encBd)], .agg [.sl (b.map M.encBd)]] (fun v => v = .c (.bool true)) := (rsame_part b b (by have := hb.len; omega) (fun x hx => by have := hb.attrs x hx; omega)).mono fun v hv => by rw [hv, allEq_refl eqBd_refl]
 refine AW.seq_j (fun s σ => PSet g rows σ ∧ s.t 2 = ipA a ∧ s.t 9 = ptrV g) ?_ ?_
 ·refine AW.seq_j (fun s σ => PSet g rows σ ∧ s.t 2 = ipA a ∧ s.t 9 = ptrV g ∧ s.t 133 = .c (.bool false)) ?_ ?_
  ·skip
   all_goals refine AW.drawF (T := { sd := fun _ => false }) (fun _ _ h => by cases h) mixedO (.st 0 1 (.st 1 1 (.st 2 2 (.st 3 0 (.st 4 0 (.st 5 1 (.st 6 1 (.st 7 2 (.st 8 0 (.st 9 0 (.st 10 0 (.st 11 0 (.st 13 1 (.fork 12 (.st 14 2 (.st 15 2 (.st 16 0 (.st 17 0 (.st 18 2 (.st 19 2 (.st 20 0 (.st 21 0 .nil)))))))) 14 (.st 12 2 (.st 15 2 (.st 16 0 (.st 17 0 (.st 18 2 (.st 19 2 (.st 20 0 (.st 21 0 .nil)))))))))))))))))))))) rfl (by kernel_rfl) (by kernel_rfl) ?_
   all_goals iterate 2 (refine F.g rfl (by first | rfl | (simp only [stC, ze, reduceIte, Nat.reduceEqDiff, f2, f3, f5, f6, f9, ipA, ptrV, List.getD_cons_zero]; done) | (simp only [stC, ze, reduceIte, Nat.reduceEqDiff, f2, f3, f5, f6, f9, ipA, ptrV, List.getD_cons_zero]; rfl)) rfl rfl fun K' k' => ?_; simp only [zz, reduceIte, Nat.reduceEqDiff, Nat.reduceLT, Nat.reduceLeDiff, Nat.reduceAdd, reduceCtorEq, Nat.reduceMul, ok24, sz24, ag24, f2, f3, f5, f6, f9, ipA, ptrV, List.getD_cons_zero]; refine k' _ _ ?_; clear k' K')
   all_goals (refine F.g rfl trivial rfl rfl fun K' k' => ?_; simp only [zz, reduceIte, Nat.reduceEqDiff, Nat.reduceLT, Nat.reduceLeDiff, Nat.reduceAdd, reduceCtorEq, Nat.reduceMul, f2, f3, f5, f6, f9, ipA, ptrV, List.getD_cons_zero]; refine PCalls.eqto hsa ?_; refine S.bool fun b a114 => ?_; cases b <;> (try (exfalso; first | exact Bool.noConfusion a114 | (have h := of_decide_eq_true a114; omega) | (have h := of_decide_eq_false a114; omega))) <;> (refine k' _ _ ?_; clear k' K'))
   all_goals iterate 2 (refine F.g rfl trivial rfl rfl fun K' k' => ?_; simp only [zz, reduceIte, Nat.reduceEqDiff, Nat.reduceAdd, f2, f3, f5, f6, f9, ipA, ptrV, List.getD_cons_zero]; refine k' _ _ ?_; clear k' K')
   all_goals iterate 2 (first | (refine F.y rfl (by first | rfl | (simp only [stC, ze, reduceIte, Nat.reduceEqDiff, f2, f3, f5, f6, f9, ipA, ptrV, List.getD_cons_zero]; done) | (simp only [stC, ze, reduceIte, Nat.reduceEqDiff, f2, f3, f5, f6, f9, ipA, ptrV, List.getD_cons_zero]; rfl)) rfl rfl rfl rfl fun K' k' => ?_; simp only [zz, reduceIte, Nat.reduceEqDiff, Nat.reduceLT, Nat.reduceLeDiff, Nat.reduceAdd, reduceCtorEq, Nat.reduceMul, ok24, sz24, ag24, f2, f3, f5, f6, f9, ipA, ptrV, List.getD_cons_zero]; refine k' _ _ ?_; clear k' K') | ((first | refine F.x rfl (fun _ => rfl) rfl rfl rfl rfl fun K' k' => ?_ | refine F.u rfl (fun _ => rfl) rfl rfl rfl rfl fun K' k' => ?_); simp only [ze, reduceIte, Nat.reduceEqDiff]; refine k' _ _ ?_; clear k' K'))
   all_goals (first | (refine F.y rfl trivial rfl rfl rfl rfl fun K' k' => ?_; simp only [zz, reduceIte, Nat.reduceEqDiff, Nat.reduceLT, Nat.reduceLeDiff, Nat.reduceAdd, reduceCtorEq, Nat.reduceMul, f2, f3, f5, f6, f9, ipA, ptrV, List.getD_cons_zero]; refine PCalls.eqto hsb ?_; refine S.bool fun b a119 => ?_; cases b <;> (try (exfalso; first | exact Bool.noConfusion a119 | (have h := of_decide_eq_true a119; omega) | (have h := of_decide_eq_false a119; omega))) <;> (refine k' _ _ ?_; clear k' K')) | ((first | refine F.x rfl (fun h => by cases h) rfl rfl rfl rfl fun K' k' => ?_ | refine F.u rfl (fun h => by cases h) rfl rfl rfl rfl fun K' k' => ?_); simp only [ze, reduceIte, Nat.reduceEqDiff]; refine k' _ _ ?_; clear k' K'))
   all_goals (first | (refine F.y rfl trivial rfl rfl rfl rfl fun K' k' => ?_; simp only [zz, reduceIte, Nat.reduceEqDiff, Nat.reduceAdd, f2, f3, f5, f6, f9, ipA, ptrV, List.getD_cons_zero]; refine k' _ _ ?_; clear k' K') | ((first | refine F.x rfl (fun h => by cases h) rfl rfl rfl rfl fun K' k' => ?_ | refine F.u rfl (fun h => by cases h) rfl rfl rfl rfl fun K' k' => ?_); simp only [ze, reduceIte, Nat.reduceEqDiff]; refine k' _ _ ?_; clear k' K'))
   all_goals iterate 2 (refine F.g rfl trivial rfl rfl fun K' k' => ?_; simp only [zz, reduceIte, Nat.reduceEqDiff, Nat.reduceAdd, f2, f3, f5, f6, f9, ipA, ptrV, List.getD_cons_zero]; refine k' _ _ ?_; clear k' K')
   all_goals (first | (refine F.y rfl trivial rfl rfl rfl rfl fun K' k' => ?_; simp only [zz, reduceIte, Nat.reduceEqDiff, Nat.reduceAdd, f2, f3, f5, f6, f9, ipA, ptrV, List.getD_cons_zero]; refine k' _ _ ?_; clear k' K') | ((first | refine F.x rfl (fun h => by cases h) rfl rfl rfl rfl fun K' k' => ?_ | refine F.u rfl (fun h => by cases h) rfl rfl rfl rfl fun K' k' => ?_); simp only [ze, reduceIte, Nat.reduceEqDiff]; refine k' _ _ ?_; clear k' K'))
   all_goals (first | (refine F.y rfl (by first | rfl | (simp only [stC, ze, reduceIte, Nat.reduceEqDiff, f2, f3, f5, f6, f9, ipA, ptrV, List.getD_cons_zero]; done) | (simp only [stC, ze, reduceIte, Nat.reduceEqDiff, f2, f3, f5, f6, f9, ipA, ptrV, List.getD_cons_zero]; rfl)) rfl rfl rfl rfl fun K' k' => ?_; simp only [zz, reduceIte, Nat.reduceEqDiff, Nat.reduceLT, Nat.reduceLeDiff, Nat.reduceAdd, reduceCtorEq, Nat.reduceMul, ok24, sz24, ag24, f2, f3, f5, f6, f9, ipA, ptrV, List.getD_cons_zero]; refine k' _ _ ?_; clear k' K') | ((first | refine F.x rfl (fun _ => rfl) rfl rfl rfl rfl fun K' k' => ?_ | refine F.u rfl (fun _ => rfl) rfl rfl rfl rfl fun K' k' => ?_); simp only [ze, reduceIte, Nat.reduceEqDiff]; refine k' _ _ ?_; clear k' K'))
   all_goals (try first | refine F.fork ?_ ?_ | refine F.fork3 ?_ ?_ ?_)
   all_goals first | (first | (refine F.y rfl trivial rfl rfl rfl rfl fun K' k' => ?_; simp only [zz, reduceIte, Nat.reduceEqDiff, Nat.reduceLT, Nat.reduceLeDiff, Nat.reduceAdd, reduceCtorEq, Nat.reduceMul, f2, f3, f5, f6, f9, ipA, ptrV, List.getD_cons_zero]; refine (setAll_spec g rows _ hps hrl hok).to fun v σx hv => ?_; obtain ⟨rfl, rfl⟩ := hv <;> (refine k' _ _ ?_; clear k' K')) | ((first | refine F.x rfl (fun h => by cases h) rfl rfl rfl rfl fun K' k' => ?_ | refine F.u rfl (fun h => by cases h) rfl rfl rfl rfl fun K' k' => ?_); simp only [ze, reduceIte, Nat.reduceEqDiff]; refine k' _ _ ?_; clear k' K')) | (first | (refine F.y rfl trivial rfl rfl rfl rfl fun K' k' => ?_; simp only [zb, reduceIte, Nat.reduceEqDiff, Nat.reduceLT, Nat.reduceLeDiff, Nat.reduceAdd, reduceCtorEq, Nat.reduceMul, sl31, el31, ok24, sz24, ag24, zt24, by24, f2, f3, f5, f6, f9, ipA, ptrV, List.getD_cons_zero]; refine k' _ _ ?_; clear k' K') | ((first | refine F.x rfl (fun h => by cases h) rfl rfl rfl rfl fun K' k' => ?_ | refine F.u rfl (fun h => by cases h) rfl rfl rfl rfl fun K' k' => ?_); simp only [ze, reduceIte, Nat.reduceEqDiff]; refine k' _ _ ?_; clear k' K'))
   all_goals first | (first | (refine F.y rfl trivial rfl rfl rfl rfl fun K' k' => ?_; simp only [zz, reduceIte, Nat.reduceEqDiff, Nat.reduceLT, Nat.reduceLeDiff, Nat.reduceAdd, reduceCtorEq, Nat.reduceMul, f2, f3, f5, f6, f9, ipA, ptrV, List.getD_cons_zero]; refine (setAll_spec g rows _ hps hrl hok).to fun v σx hv => ?_; obtain ⟨rfl, rfl⟩ := hv <;> (refine k' _ _ ?_; clear k' K')) | ((first | refine F.x rfl (fun h => by cases h) rfl rfl rfl rfl fun K' k' => ?_ | refine F.u rfl (fun h => by cases h) rfl rfl rfl rfl fun K' k' => ?_); simp only [ze, reduceIte, Nat.reduceEqDiff]; refine k' _ _ ?_; clear k' K')) | (first | (refine F.y rfl trivial rfl rfl rfl rfl fun K' k' => ?_; simp only [zb, reduceIte, Nat.reduceEqDiff, Nat.reduceLT, Nat.reduceLeDiff, Nat.reduceAdd, reduceCtorEq, Nat.reduceMul, sl31, el31, ok24, sz24, ag24, zt24, by24, f2, f3, f5, f6, f9, ipA, ptrV, List.getD_cons_zero]; refine k' _ _ ?_; clear k' K') | ((first | refine F.x rfl (fun h => by cases h) rfl rfl rfl rfl fun K' k' => ?_ | refine F.u rfl (fun h => by cases h) rfl rfl rfl rfl fun K' k' => ?_); simp only [ze, reduceIte, Nat.reduceEqDiff]; refine k' _ _ ?_; clear k' K'))
   all_goals (first | (refine F.y rfl trivial rfl rfl rfl rfl fun K' k' => ?_; simp only [zz, reduceIte, Nat.reduceEqDiff, Nat.reduceLT, Nat.reduceLeDiff, Nat.reduceAdd, reduceCtorEq, Nat.reduceMul, f2, f3, f5, f6, f9, ipA, ptrV, List.getD_cons_zero]; refine (rnewSet_spec [a] _ hr1 hok1).to fun v σx hv => ?_; obtain ⟨g2, rfl, hg2, rfl⟩ := hv; rw [hrows] <;> (refine k' _ _ ?_; clear k' K')) | ((first | refine F.x rfl (fun h => by cases h) rfl rfl rfl rfl fun K' k' => ?_ | refine F.u rfl (fun h => by cases h) rfl rfl rfl rfl fun K' k' => ?_); simp only [ze, reduceIte, Nat.reduceEqDiff]; refine k' _ _ ?_; clear k' K'))
   all_goals iterate 2 (first | (refine F.y rfl trivial rfl rfl rfl rfl fun K' k' => ?_; simp only [zz, reduceIte, Nat.reduceEqDiff, Nat.reduceLT, Nat.reduceLeDiff, Nat.reduceAdd, reduceCtorEq, Nat.reduceMul, of49_0, f2, f3, f5, f6, f9, ipA, ptrV, List.getD_cons_zero]; refine k' _ _ ?_; clear k' K') | ((first | refine F.x rfl (fun h => by cases h) rfl rfl rfl rfl fun K' k' => ?_ | refine F.u rfl (fun h => by cases h) rfl rfl rfl rfl fun K' k' => ?_); simp only [ze, reduceIte, Nat.reduceEqDiff]; refine k' _ _ ?_; clear k' K'))
   all_goals (first | (refine F.y rfl trivial rfl rfl rfl rfl fun K' k' => ?_; simp only [zz, reduceIte, Nat.reduceEqDiff, Nat.reduceLT, Nat.reduceLeDiff, Nat.reduceAdd, reduceCtorEq, Nat.reduceMul, ok31, sz31, ag31, f2, f3, f5, f6, f9, ipA, ptrV, List.getD_cons_zero, isMap_sl, if_true] <;> (refine k' _ _ ?_; clear k' K')) | ((first | refine F.x rfl (fun h => by cases h) rfl rfl rfl rfl fun K' k' => ?_ | refine F.u rfl (fun h => by cases h) rfl rfl rfl rfl fun K' k' => ?_); simp only [ze, reduceIte, Nat.reduceEqDiff]; refine k' _ _ ?_; clear k' K'))
   all_goals (first | (refine F.y rfl trivial rfl rfl rfl rfl fun K' k' => ?_; simp only [zz, reduceIte, Nat.reduceEqDiff, Nat.reduceLT, Nat.reduceLeDiff, Nat.reduceAdd, reduceCtorEq, Nat.reduceMul, f2, f3, f5, f6, f9, ipA, ptrV, List.getD_cons_zero]; refine PCalls.eqto (told_spec rows hrl hok) ?_ <;> (refine k' _ _ ?_; clear k' K')) | ((first | refine F.x rfl (fun h => by cases h) rfl rfl rfl rfl fun K' k' => ?_ | refine F.u rfl (fun h => by cases h) rfl rfl rfl rfl fun K' k' => ?_); simp only [ze, reduceIte, Nat.reduceEqDiff]; refine k' _ _ ?_; clear k' K'))
   all_goals (first | (refine F.y rfl trivial rfl rfl rfl rfl fun K' k' => ?_; simp only [zz, reduceIte, Nat.reduceEqDiff, Nat.reduceAdd, f2, f3, f5, f6, f9, ipA, ptrV, List.getD_cons_zero]; refine k' _ _ ?_; clear k' K') | ((first | refine F.x rfl (fun h => by cases h) rfl rfl rfl rfl fun K' k' => ?_ | refine F.u rfl (fun h => by cases h) rfl rfl rfl rfl fun K' k' => ?_); simp only [ze, reduceIte, Nat.reduceEqDiff]; refine k' _ _ ?_; clear k' K'))
   all_goals (refine F.g rfl trivial rfl rfl fun K' k' => ?_; simp only [zz, reduceIte, Nat.reduceEqDiff, Nat.reduceAdd, f2, f3, f5, f6, f9, ipA, ptrV, List.getD_cons_zero]; refine k' _ _ ?_; clear k' K')
   all_goals refine F.nil ?_
   all_goals simp only [ze, reduceIte, Nat.reduceEqDiff, Nat.reduceLT, Nat.reduceLeDiff, Nat.reduceAdd, reduceCtorEq, Nat.reduceMul, f2, f3, f5, f6, f9, ipA, ptrV, List.getD_cons_zero]
   all_goals exact PSet_more hps (fun x c hx => by
    have : x ≠ g2 := fun e => by rw [e, hg2] at hx; cases hx
    simp [this, hx]) (fun j y hy => hy)
  rintro s σ5 ⟨hps5, f2, f9, f133⟩
  refine AW.cond (b := false) f133 (fun hc => by cases hc) (fun _ => AW.skip ?_)
  exact ⟨hps5, f2, f9⟩
 clear f2 f3 f5 f6 f9 hps
 rintro s σ5 ⟨hps, f2, f9⟩
 refine AW.seq_j (fun s σ => s.t 2 = ipA a) ?_ ?_
 ·refine AW.seq_j (fun s σ => ∃ g3, PSet g rows σ ∧ σ.obj g3 = some [.c (.slice none 0 0), .c (.bool false)] ∧ s.t 2 = ipA a ∧ s.t 9 = ptrV g ∧ s.t 136 = .sl [[.c (.pointer none)], [ptrV g3]] ∧ s.t 137 = .c (.int .i64 (2 : Int)) ∧ s.t 138 = .c (.int .i64 (0 : Int))) ?_ ?_
  ·skip
   all_goals refine AW.region (T := { hp := fun d => d == 135 }) (fun _ _ h => by cases h) rfl ?_
   all_goals (refine S.g rfl rfl fun K' k' => ?_; simp only [zz, reduceIte, Nat.reduceEqDiff, Nat.reduceLT, Nat.reduceLeDiff, Nat.reduceAdd, reduceCtorEq, Nat.reduceMul, zt53, pl53, f2, f9]; refine k' _ _ ?_; clear k' K')
   all_goals (refine S.g rfl rfl fun K' k' => ?_; simp only [zz, reduceIte, Nat.reduceEqDiff, Nat.reduceLT, Nat.reduceLeDiff, Nat.reduceAdd, reduceCtorEq, Nat.reduceMul, ok53, sz53, ag53, f2, f9]; intro g3 hg3 <;> (refine k' _ _ ?_; clear k' K'))
   all_goals (refine S.g rfl rfl fun K' k' => ?_; simp only [zb, reduceIte, Nat.reduceEqDiff, Nat.reduceLT, Nat.reduceLeDiff, Nat.reduceAdd, reduceCtorEq, Nat.reduceMul, sl54, el54, ok28, sz28, ag28, zt28, by28, f2, f9]; refine ⟨rfl, (by simp), ?_⟩ <;> (refine k' _ _ ?_; clear k' K'))
   all_goals iterate 2 (refine S.g rfl rfl fun K' k' => ?_; simp only [zz, reduceIte, Nat.reduceEqDiff, Nat.reduceLT, Nat.reduceLeDiff, Nat.reduceAdd, reduceCtorEq, Nat.reduceMul, sl54, el54, ok28, sz28, ag28, f2, f9]; refine k' _ _ ?_; clear k' K')
   all_goals refine S.nil ?_
   all_goals simp only [ze, reduceIte, Nat.reduceEqDiff, Nat.reduceLT, Nat.reduceLeDiff, Nat.reduceAdd, reduceCtorEq, Nat.reduceMul, f2, f9]
   refine ⟨g3, ?_, by simp, rfl, rfl⟩
   exact PSet_more hps (fun x c hx => by
     have : x ≠ g3 := fun e => by rw [e, hg3] at hx; cases hx
     simp [this, hx]) (fun j y hy => hy)
  clear f2 f9 hps
  rintro s σ6 ⟨g3, hps, hg3, f2, f9, f136, f137, f138⟩
  obtain ⟨es, hes⟩ : ∃ es, [[.c (.pointer none)], [ptrV g3]] = es := ⟨_, rfl⟩
  have hel : es.length = 2 := by rw [← hes]; rfl
  rw [hes] at f136
  have hun : ∀ i : Nat, i < 2 → ∃ x, es.getD i [] = [x] ∧ UnS x σ6 := fun i hi => by
   rw [← hes]
   rcases i with _ | _ | i
   ·exact ⟨_, rfl, ⟨.inl rfl⟩⟩
   ·exact ⟨_, rfl, ⟨.inr ⟨g3, rfl, hg3⟩⟩⟩
   ·omega
  refine AW.block ?_   -- 10
  refine AW.loop (fun m s σ => ∃ i : Nat, m + i = 2 ∧ σ6 = σ ∧ s.t 2 = ipA a ∧ s.t 9 = ptrV g ∧ s.t 136 = .sl es ∧ s.t 137 = .c (.int .i64 (2 : Int)) ∧ s.t 138 = .c (.int .i64 (i : Nat))) 2 ?_ ?_
  ·exact ⟨0, rfl, rfl, f2, f9, f136, f137, f138⟩
  clear f2 f9 f136 f137 f138
  rintro m s _ ⟨i, hm, rfl, f2, f9, f136, f137, f138⟩
  refine AW.seq_k fun K20 h20 => ?_
  all_goals refine AW.reg0 ?_
  all_goals (refine S.g rfl rfl fun K' k' => ?_; simp only [zz, reduceIte, Nat.reduceEqDiff, Nat.reduceAdd, f138, f137]; refine k' _ _ ?_; clear k' K')
  all_goals refine S.nil ?_
  all_goals simp only [ze, reduceIte, Nat.reduceEqDiff, Nat.reduceLT, Nat.reduceLeDiff, Nat.reduceAdd, reduceCtorEq, Nat.reduceMul, f138, f137]
  all_goals apply_assumption
  refine AW.seq_k fun K21 h21 => ?_
  refine AW.cond (b := decide ((i : Int) < 2)) (by simp [ev]) (fun hc => ?_) (fun hc => ?_)
  ·have hi : i < 2 := by have := of_decide_eq_true hc; omega
   have hil : i < es.length := by omega
   obtain ⟨x, hgx, hx⟩ := hun i hi
   have hwi : IntKind.i64.wrap ((i : Int) + 1) = ((i + 1 : Nat) : Int) := by rw [wrap_small _ (by omega) (by omega)]; rfl
   have hxo := hx.ok
   have hxw := hx.wk
   have hxk := hx.kill
   have hls := lenOf_set hps
   have hnn : (decide (rows.length = 0) == ((rows.length : Int) == 0)) = true := by
    by_cases h : rows.length = 0
    ·simp [h]
    ·have h2 : ((rows.length : Int) == 0) = false := by
        simpa using h
     simp [h, h2]
   refine AW.skip ?_
   all_goals simp only [zs, reduceIte, Nat.reduceEqDiff, Nat.reduceLT, Nat.reduceLeDiff, Nat.reduceAdd, reduceCtorEq, Nat.reduceMul]
   all_goals apply_assumption
   refine AW.seq_j (fun s σ => σ6 = σ ∧ s.t 2 = ipA a ∧ s.t 9 = ptrV g ∧ s.t 136 = .sl es ∧ s.t 137 = .c (.int .i64 (2 : Int)) ∧ s.t 138 = .c (.int .i64 (i : Nat))) ?_ ?_
   ·refine AW.block ?_   -- 11
    refine AW.seq_j (fun s σ => σ6 = σ ∧ s.t 2 = ipA a ∧ s.t 9 = ptrV g ∧ s.t 136 = .sl es ∧ s.t 137 = .c (.int .i64 (2 : Int)) ∧ s.t 138 = .c (.int .i64 (i : Nat)) ∧ s.t 18 = x) ?_ ?_
    ·skip
     all_goals refine AW.reg0 ?_
     all_goals iterate 3 (refine S.g rfl rfl fun K' k' => ?_; simp only [zz, reduceIte, Nat.reduceEqDiff, Nat.reduceLT, Nat.reduceLeDiff, Nat.reduceAdd, reduceCtorEq, Nat.reduceMul, sl54, el54, ok28, sz28, ag28, f2, f9, f136, f137, f138, hil, hgx]; refine k' _ _ ?_; clear k' K')
     all_goals refine S.nil ?_
     all_goals simp only [ze, reduceIte, Nat.reduceEqDiff, Nat.reduceLT, Nat.reduceLeDiff, Nat.reduceAdd, reduceCtorEq, Nat.reduceMul, f2, f9, f136, f137, f138, hil, hgx]
     done
    clear f2 f9 f136 f137 f138
    rintro s _ ⟨rfl, f2, f9, f136, f137, f138, f18⟩
    refine AW.seq_j (fun s σ => σ6 = σ ∧ s.t 2 = ipA a ∧ s.t 9 = ptrV g ∧ s.t 136 = .sl es ∧ s.t 137 = .c (.int .i64 (2 : Int)) ∧ s.t 138 = .c (.int .i64 (i : Nat)) ∧ s.t 179 = .c (.bool false)) ?_ ?_
    ·skip
     all_goals refine AW.reg0 ?_
     all_goals iterate 2 (refine S.g rfl rfl fun K' k' => ?_; simp only [zz, reduceIte, Nat.reduceEqDiff, Nat.reduceLT, Nat.reduceLeDiff, Nat.reduceAdd, reduceCtorEq, Nat.reduceMul, ok24, sz24, ag24, f2, f9, f136, f137, f138, f18, hxo, hxw, hxk, ptrV, ipA, List.getD_cons_zero, hnn]; refine k' _ _ ?_; clear k' K')
     all_goals (refine S.g rfl rfl fun K' k' => ?_; simp only [zz, reduceIte, Nat.reduceEqDiff, Nat.reduceLT, Nat.reduceLeDiff, Nat.reduceAdd, reduceCtorEq, Nat.reduceMul, f2, f9, f136, f137, f138, f18, hxo, hxw, hxk, ptrV, ipA, List.getD_cons_zero, hnn]; refine (add_un hx a).to fun v σx hv => ?_; obtain ⟨rfl, rfl⟩ := hv; refine S.bool fun b a144 => ?_; cases b <;> (try (exfalso; first | exact Bool.noConfusion a144 | (have h := of_decide_eq_true a144; omega) | (have h := of_decide_eq_false a144; omega))) <;> (refine k' _ _ ?_; clear k' K'))
     all_goals (refine S.g rfl rfl fun K' k' => ?_; simp only [zz, reduceIte, Nat.reduceEqDiff, Nat.reduceAdd, f2, f9, f136, f137, f138, f18, hxo, hxw, hxk, ptrV, ipA, List.getD_cons_zero, hnn]; refine k' _ _ ?_; clear k' K')
     all_goals iterate 2 (first | (refine S.y rfl rfl rfl rfl fun K' k' => ?_; simp only [zz, reduceIte, Nat.reduceEqDiff, Nat.reduceLT, Nat.reduceLeDiff, Nat.reduceAdd, reduceCtorEq, Nat.reduceMul, ok24, sz24, ag24, f2, f9, f136, f137, f138, f18, hxo, hxw, hxk, ptrV, ipA, List.getD_cons_zero, hnn]; refine k' _ _ ?_; clear k' K') | ((first | refine S.x rfl rfl rfl rfl fun K' k' => ?_ | refine S.u rfl rfl rfl rfl fun K' k' => ?_); simp only [ze, reduceIte, Nat.reduceEqDiff]; refine k' _ _ ?_; clear k' K'))
     all_goals (first | (refine S.y rfl rfl rfl rfl fun K' k' => ?_; simp only [zz, reduceIte, Nat.reduceEqDiff, Nat.reduceLT, Nat.reduceLeDiff, Nat.reduceAdd, reduceCtorEq, Nat.reduceMul, f2, f9, f136, f137, f138, f18, hxo, hxw, hxk, ptrV, ipA, List.getD_cons_zero, hnn]; refine (has_un hx a).to fun v σx hv => ?_; obtain ⟨rfl, rfl⟩ := hv; refine S.bool fun b a148 => ?_; cases b <;> (try (exfalso; first | exact Bool.noConfusion a148 | (have h := of_decide_eq_true a148; omega) | (have h := of_decide_eq_false a148; omega))) <;> (refine k' _ _ ?_; clear k' K')) | ((first | refine S.x rfl rfl rfl rfl fun K' k' => ?_ | refine S.u rfl rfl rfl rfl fun K' k' => ?_); simp only [ze, reduceIte, Nat.reduceEqDiff]; refine k' _ _ ?_; clear k' K'))
     all_goals iterate 2 (refine S.g rfl rfl fun K' k' => ?_; simp only [zz, reduceIte, Nat.reduceEqDiff, Nat.reduceAdd, f2, f9, f136, f137, f138, f18, hxo, hxw, hxk, ptrV, ipA, List.getD_cons_zero, hnn]; refine k' _ _ ?_; clear k' K')
     all_goals (first | (refine S.y rfl rfl rfl rfl fun K' k' => ?_; simp only [zz, reduceIte, Nat.reduceEqDiff, Nat.reduceAdd, f2, f9, f136, f137, f138, f18, hxo, hxw, hxk, ptrV, ipA, List.getD_cons_zero, hnn]; refine k' _ _ ?_; clear k' K') | ((first | refine S.x rfl rfl rfl rfl fun K' k' => ?_ | refine S.u rfl rfl rfl rfl fun K' k' => ?_); simp only [ze, reduceIte, Nat.reduceEqDiff]; refine k' _ _ ?_; clear k' K'))
     all_goals (first | (refine S.y rfl rfl rfl rfl fun K' k' => ?_; simp only [zz, reduceIte, Nat.reduceEqDiff, Nat.reduceLT, Nat.reduceLeDiff, Nat.reduceAdd, reduceCtorEq, Nat.reduceMul, f2, f9, f136, f137, f138, f18, hxo, hxw, hxk, ptrV, ipA, List.getD_cons_zero, hnn]; refine (len_un hx).to fun v σx hv => ?_; obtain ⟨rfl, rfl⟩ := hv <;> (refine k' _ _ ?_; clear k' K')) | ((first | refine S.x rfl rfl rfl rfl fun K' k' => ?_ | refine S.u rfl rfl rfl rfl fun K' k' => ?_); simp only [ze, reduceIte, Nat.reduceEqDiff]; refine k' _ _ ?_; clear k' K'))
     all_goals (first | (refine S.y rfl rfl rfl rfl fun K' k' => ?_; simp only [zz, reduceIte, Nat.reduceEqDiff, Nat.reduceLT, Nat.reduceLeDiff, Nat.reduceAdd, reduceCtorEq, Nat.reduceMul, f2, f9, f136, f137, f138, f18, hxo, hxw, hxk, ptrV, ipA, List.getD_cons_zero, hnn]; refine S.bool fun b a153 => ?_; cases b <;> (try (exfalso; first | exact Bool.noConfusion a153 | (have h := of_decide_eq_true a153; omega) | (have h := of_decide_eq_false a153; omega))) <;> (refine k' _ _ ?_; clear k' K')) | ((first | refine S.x rfl rfl rfl rfl fun K' k' => ?_ | refine S.u rfl rfl rfl rfl fun K' k' => ?_); simp only [ze, reduceIte, Nat.reduceEqDiff]; refine k' _ _ ?_; clear k' K'))
     all_goals iterate 2 (refine S.g rfl rfl fun K' k' => ?_; simp only [zz, reduceIte, Nat.reduceEqDiff, Nat.reduceAdd, f2, f9, f136, f137, f138, f18, hxo, hxw, hxk, ptrV, ipA, List.getD_cons_zero, hnn]; refine k' _ _ ?_; clear k' K')
     all_goals (first | (refine S.y rfl rfl rfl rfl fun K' k' => ?_; simp only [zz, reduceIte, Nat.reduceEqDiff, Nat.reduceAdd, f2, f9, f136, f137, f138, f18, hxo, hxw, hxk, ptrV, ipA, List.getD_cons_zero, hnn]; refine k' _ _ ?_; clear k' K') | ((first | refine S.x rfl rfl rfl rfl fun K' k' => ?_ | refine S.u rfl rfl rfl rfl fun K' k' => ?_); simp only [ze, reduceIte, Nat.reduceEqDiff]; refine k' _ _ ?_; clear k' K'))
     all_goals (first | (refine S.y rfl rfl rfl rfl fun K' k' => ?_; simp only [zz, reduceIte, Nat.reduceEqDiff, Nat.reduceLT, Nat.reduceLeDiff, Nat.reduceAdd, reduceCtorEq, Nat.reduceMul, f2, f9, f136, f137, f138, f18, hxo, hxw, hxk, ptrV, ipA, List.getD_cons_zero, hnn]; refine (setAll_un hx).to fun v σx hv => ?_; obtain ⟨rfl, rfl⟩ := hv <;> (refine k' _ _ ?_; clear k' K')) | ((first | refine S.x rfl rfl rfl rfl fun K' k' => ?_ | refine S.u rfl rfl rfl rfl fun K' k' => ?_); simp only [ze, reduceIte, Nat.reduceEqDiff]; refine k' _ _ ?_; clear k' K'))
     all_goals (first | (refine S.y rfl rfl rfl rfl fun K' k' => ?_; simp only [zz, reduceIte, Nat.reduceEqDiff, Nat.reduceLT, Nat.reduceLeDiff, Nat.reduceAdd, reduceCtorEq, Nat.reduceMul, f2, f9, f136, f137, f138, f18, hxo, hxw, hxk, ptrV, ipA, List.getD_cons_zero, hnn]; refine PCalls.eqto told_none ?_; refine S.bool fun b a158 => ?_; cases b <;> (try (exfalso; first | exact Bool.noConfusion a158 | (have h := of_decide_eq_true a158; omega) | (have h := of_decide_eq_false a158; omega))) <;> (refine k' _ _ ?_; clear k' K')) | ((first | refine S.x rfl rfl rfl rfl fun K' k' => ?_ | refine S.u rfl rfl rfl rfl fun K' k' => ?_); simp only [ze, reduceIte, Nat.reduceEqDiff]; refine k' _ _ ?_; clear k' K'))
     all_goals (first | (refine S.y rfl rfl rfl rfl fun K' k' => ?_; simp only [zz, reduceIte, Nat.reduceEqDiff, Nat.reduceAdd, f2, f9, f136, f137, f138, f18, hxo, hxw, hxk, ptrV, ipA, List.getD_cons_zero, hnn]; refine k' _ _ ?_; clear k' K') | ((first | refine S.x rfl rfl rfl rfl fun K' k' => ?_ | refine S.u rfl rfl rfl rfl fun K' k' => ?_); simp only [ze, reduceIte, Nat.reduceEqDiff]; refine k' _ _ ?_; clear k' K'))
     all_goals iterate 2 (refine S.g rfl rfl fun K' k' => ?_; simp only [zz, reduceIte, Nat.reduceEqDiff, Nat.reduceAdd, f2, f9, f136, f137, f138, f18, hxo, hxw, hxk, ptrV, ipA, List.getD_cons_zero, hnn]; refine k' _ _ ?_; clear k' K')
     all_goals (first | (refine S.y rfl rfl rfl rfl fun K' k' => ?_; simp only [zz, reduceIte, Nat.reduceEqDiff, Nat.reduceAdd, f2, f9, f136, f137, f138, f18, hxo, hxw, hxk, ptrV, ipA, List.getD_cons_zero, hnn]; refine k' _ _ ?_; clear k' K') | ((first | refine S.x rfl rfl rfl rfl fun K' k' => ?_ | refine S.u rfl rfl rfl rfl fun K' k' => ?_); simp only [ze, reduceIte, Nat.reduceEqDiff]; refine k' _ _ ?_; clear k' K'))
     all_goals (first | (refine S.y rfl rfl rfl rfl fun K' k' => ?_; simp only [zz, reduceIte, Nat.reduceEqDiff, Nat.reduceLT, Nat.reduceLeDiff, Nat.reduceAdd, reduceCtorEq, Nat.reduceMul, f2, f9, f136, f137, f138, f18, hxo, hxw, hxk, ptrV, ipA, List.getD_cons_zero, hnn]; refine (same_un hx (lenOf_nil _)).to fun v σx hv => ?_; obtain ⟨rfl, rfl⟩ := hv; refine S.bool fun b a163 => ?_; cases b <;> (try (exfalso; first | exact Bool.noConfusion a163 | (have h := of_decide_eq_true a163; omega) | (have h := of_decide_eq_false a163; omega))) <;> (refine k' _ _ ?_; clear k' K')) | ((first | refine S.x rfl rfl rfl rfl fun K' k' => ?_ | refine S.u rfl rfl rfl rfl fun K' k' => ?_); simp only [ze, reduceIte, Nat.reduceEqDiff]; refine k' _ _ ?_; clear k' K'))
     all_goals (first | (refine S.y rfl rfl rfl rfl fun K' k' => ?_; simp only [zz, reduceIte, Nat.reduceEqDiff, Nat.reduceAdd, f2, f9, f136, f137, f138, f18, hxo, hxw, hxk, ptrV, ipA, List.getD_cons_zero, hnn]; refine k' _ _ ?_; clear k' K') | ((first | refine S.x rfl rfl rfl rfl fun K' k' => ?_ | refine S.u rfl rfl rfl rfl fun K' k' => ?_); simp only [ze, reduceIte, Nat.reduceEqDiff]; refine k' _ _ ?_; clear k' K'))
     all_goals iterate 2 (refine S.g rfl rfl fun K' k' => ?_; simp only [zz, reduceIte, Nat.reduceEqDiff, Nat.reduceAdd, f2, f9, f136, f137, f138, f18, hxo, hxw, hxk, ptrV, ipA, List.getD_cons_zero, hnn]; refine k' _ _ ?_; clear k' K')
     all_goals iterate 2 (first | (refine S.y rfl rfl rfl rfl fun K' k' => ?_; simp only [zz, reduceIte, Nat.reduceEqDiff, Nat.reduceAdd, f2, f9, f136, f137, f138, f18, hxo, hxw, hxk, ptrV, ipA, List.getD_cons_zero, hnn]; refine k' _ _ ?_; clear k' K') | ((first | refine S.x rfl rfl rfl rfl fun K' k' => ?_ | refine S.u rfl rfl rfl rfl fun K' k' => ?_); simp only [ze, reduceIte, Nat.reduceEqDiff]; refine k' _ _ ?_; clear k' K'))
     all_goals (first | (refine S.y rfl rfl rfl rfl fun K' k' => ?_; simp only [zz, reduceIte, Nat.reduceEqDiff, Nat.reduceLT, Nat.reduceLeDiff, Nat.reduceAdd, reduceCtorEq, Nat.reduceMul, f2, f9, f136, f137, f138, f18, hxo, hxw, hxk, ptrV, ipA, List.getD_cons_zero, hnn]; refine (same_un hx hls).to fun v σx hv => ?_; obtain ⟨rfl, rfl⟩ := hv <;> (refine k' _ _ ?_; clear k' K')) | ((first | refine S.x rfl rfl rfl rfl fun K' k' => ?_ | refine S.u rfl rfl rfl rfl fun K' k' => ?_); simp only [ze, reduceIte, Nat.reduceEqDiff]; refine k' _ _ ?_; clear k' K'))
     all_goals (first | (refine S.y rfl rfl rfl rfl fun K' k' => ?_; simp only [zz, reduceIte, Nat.reduceEqDiff, Nat.reduceAdd, f2, f9, f136, f137, f138, f18, hxo, hxw, hxk, ptrV, ipA, List.getD_cons_zero, hnn]; refine k' _ _ ?_; clear k' K') | ((first | refine S.x rfl rfl rfl rfl fun K' k' => ?_ | refine S.u rfl rfl rfl rfl fun K' k' => ?_); simp only [ze, reduceIte, Nat.reduceEqDiff]; refine k' _ _ ?_; clear k' K'))
     all_goals (first | (refine S.y rfl rfl rfl rfl fun K' k' => ?_; simp only [zz, reduceIte, Nat.reduceEqDiff, Nat.reduceLT, Nat.reduceLeDiff, Nat.reduceAdd, reduceCtorEq, Nat.reduceMul, f2, f9, f136, f137, f138, f18, hxo, hxw, hxk, ptrV, ipA, List.getD_cons_zero, hnn]; refine (hls.len _ (fun _ _ h => h) (fun _ _ h => h)).to fun v σx hv => ?_; obtain ⟨rfl, rfl⟩ := hv <;> (refine k' _ _ ?_; clear k' K')) | ((first | refine S.x rfl rfl rfl rfl fun K' k' => ?_ | refine S.u rfl rfl rfl rfl fun K' k' => ?_); simp only [ze, reduceIte, Nat.reduceEqDiff]; refine k' _ _ ?_; clear k' K'))
     all_goals (first | (refine S.y rfl rfl rfl rfl fun K' k' => ?_; simp only [zz, reduceIte, Nat.reduceEqDiff, Nat.reduceAdd, f2, f9, f136, f137, f138, f18, hxo, hxw, hxk, ptrV, ipA, List.getD_cons_zero, hnn]; refine k' _ _ ?_; clear k' K') | ((first | refine S.x rfl rfl rfl rfl fun K' k' => ?_ | refine S.u rfl rfl rfl rfl fun K' k' => ?_); simp only [ze, reduceIte, Nat.reduceEqDiff]; refine k' _ _ ?_; clear k' K'))
     all_goals (first | (refine S.y rfl rfl rfl rfl fun K' k' => ?_; simp only [zz, reduceIte, Nat.reduceEqDiff, Nat.reduceLT, Nat.reduceLeDiff, Nat.reduceAdd, reduceCtorEq, Nat.reduceMul, un4, f2, f9, f136, f137, f138, f18, hxo, hxw, hxk, ptrV, ipA, List.getD_cons_zero, hnn]; refine S.bool fun b a173 => ?_; cases b <;> (try (exfalso; first | exact Bool.noConfusion a173 | (have h := of_decide_eq_true a173; omega) | (have h := of_decide_eq_false a173; omega))) <;> (refine k' _ _ ?_; clear k' K')) | ((first | refine S.x rfl rfl rfl rfl fun K' k' => ?_ | refine S.u rfl rfl rfl rfl fun K' k' => ?_); simp only [ze, reduceIte, Nat.reduceEqDiff]; refine k' _ _ ?_; clear k' K'))
     all_goals iterate 2 (refine S.g rfl rfl fun K' k' => ?_; simp only [zz, reduceIte, Nat.reduceEqDiff, Nat.reduceAdd, f2, f9, f136, f137, f138, f18, hxo, hxw, hxk, ptrV, ipA, List.getD_cons_zero, hnn]; refine k' _ _ ?_; clear k' K')
     all_goals (first | (refine S.y rfl rfl rfl rfl fun K' k' => ?_; simp only [zz, reduceIte, Nat.reduceEqDiff, Nat.reduceAdd, f2, f9, f136, f137, f138, f18, hxo, hxw, hxk, ptrV, ipA, List.getD_cons_zero, hnn]; refine k' _ _ ?_; clear k' K') | ((first | refine S.x rfl rfl rfl rfl fun K' k' => ?_ | refine S.u rfl rfl rfl rfl fun K' k' => ?_); simp only [ze, reduceIte, Nat.reduceEqDiff]; refine k' _ _ ?_; clear k' K'))
     all_goals (first | (refine S.y rfl rfl rfl rfl fun K' k' => ?_; simp only [zz, reduceIte, Nat.reduceEqDiff, Nat.reduceLT, Nat.reduceLeDiff, Nat.reduceAdd, reduceCtorEq, Nat.reduceMul, f2, f9, f136, f137, f138, f18, hxo, hxw, hxk, ptrV, ipA, List.getD_cons_zero, hnn]; refine (clone_un hx).to fun v σx hv => ?_; obtain ⟨rfl, rfl⟩ := hv <;> (refine k' _ _ ?_; clear k' K')) | ((first | refine S.x rfl rfl rfl rfl fun K' k' => ?_ | refine S.u rfl rfl rfl rfl fun K' k' => ?_); simp only [ze, reduceIte, Nat.reduceEqDiff]; refine k' _ _ ?_; clear k' K'))
     all_goals (first | (refine S.y rfl rfl rfl rfl fun K' k' => ?_; simp only [zz, reduceIte, Nat.reduceEqDiff, Nat.reduceLT, Nat.reduceLeDiff, Nat.reduceAdd, reduceCtorEq, Nat.reduceMul, un28, f2, f9, f136, f137, f138, f18, hxo, hxw, hxk, ptrV, ipA, List.getD_cons_zero, hnn, un28, TypeDesc.pointer.injEq] <;> (refine k' _ _ ?_; clear k' K')) | ((first | refine S.x rfl rfl rfl rfl fun K' k' => ?_ | refine S.u rfl rfl rfl rfl fun K' k' => ?_); simp only [ze, reduceIte, Nat.reduceEqDiff]; refine k' _ _ ?_; clear k' K'))
     all_goals (refine S.g rfl rfl fun K' k' => ?_; simp only [zz, reduceIte, Nat.reduceEqDiff, Nat.reduceAdd, f2, f9, f136, f137, f138, f18, hxo, hxw, hxk, ptrV, ipA, List.getD_cons_zero, hnn]; refine k' _ _ ?_; clear k' K')
     all_goals refine S.nil ?_
     all_goals simp only [ze, reduceIte, Nat.reduceEqDiff, Nat.reduceLT, Nat.reduceLeDiff, Nat.reduceAdd, reduceCtorEq, Nat.reduceMul, f2, f9, f136, f137, f138, f18, hxo, hxw, hxk, ptrV, ipA, List.getD_cons_zero, hnn]
     done
    clear f2 f9 f136 f137 f138 f18
    rintro s _ ⟨rfl, f2, f9, f136, f137, f138, f179⟩
    refine AW.cond (b := false) f179 (fun hc => by cases hc) (fun _ => AW.skip ?_)
    exact ⟨rfl, f2, f9, f136, f137, f138⟩
   clear f2 f9 f136 f137 f138
   rintro s _ ⟨rfl, f2, f9, f136, f137, f138⟩
   all_goals refine AW.reg0 ?_
   all_goals iterate 2 (refine S.g rfl rfl fun K' k' => ?_; simp only [zz, reduceIte, Nat.reduceEqDiff, Nat.reduceAdd, f138, hwi]; refine k' _ _ ?_; clear k' K')
   all_goals refine S.nil ?_
   all_goals simp only [ze, reduceIte, Nat.reduceEqDiff, Nat.reduceLT, Nat.reduceLeDiff, Nat.reduceAdd, reduceCtorEq, Nat.reduceMul, f138, hwi]
   exact ⟨m - 1, by omega, i + 1, by omega, f2, f9, f136, f137, rfl⟩
  ·refine AW.exit ?_
   exact f2
 rintro s σ6 f2
 refine AW.seq_k fun K22 h22 => ?_
 all_goals refine AW.reg0 ?_
 all_goals (refine S.g rfl rfl fun K' k' => ?_; simp only [zz, reduceIte, Nat.reduceEqDiff, Nat.reduceLT, Nat.reduceLeDiff, Nat.reduceAdd, reduceCtorEq, Nat.reduceMul, f2]; refine PCalls.eqto take_nil ?_ <;> (refine k' _ _ ?_; clear k' K'))
 all_goals iterate 6 (refine S.g rfl rfl fun K' k' => ?_; simp only [zz, reduceIte, Nat.reduceEqDiff, Nat.reduceLT, Nat.reduceLeDiff, Nat.reduceAdd, reduceCtorEq, Nat.reduceMul, zt24, ok24, sz24, ag24, f2]; refine k' _ _ ?_; clear k' K')
 all_goals refine S.nil ?_
 all_goals simp only [ze, reduceIte, Nat.reduceEqDiff, Nat.reduceLT, Nat.reduceLeDiff, Nat.reduceAdd, reduceCtorEq, Nat.reduceMul, f2]
 all_goals apply_assumption
 refine AW.seq_k fun K23 h23 => ?_
 all_goals refine AW.reg0 ?_
 all_goals (refine S.g rfl rfl fun K' k' => ?_; simp only [zz, reduceIte, Nat.reduceEqDiff, Nat.reduceLT, Nat.reduceLeDiff, Nat.reduceAdd, reduceCtorEq, Nat.reduceMul, ok24, sz24, ag24, f2, ipA, List.getD_cons_zero]; refine k' _ _ ?_; clear k' K')
 all_goals (refine S.g rfl rfl fun K' k' => ?_; simp only [zz, reduceIte, Nat.reduceEqDiff, Nat.reduceLT, Nat.reduceLeDiff, Nat.reduceAdd, reduceCtorEq, Nat.reduceMul, f2, ipA, List.getD_cons_zero]; refine PCalls.eqto (put_nil a) ?_ <;> (refine k' _ _ ?_; clear k' K'))
 all_goals (refine S.g rfl rfl fun K' k' => ?_; simp only [zz, reduceIte, Nat.reduceEqDiff, Nat.reduceLT, Nat.reduceLeDiff, Nat.reduceAdd, reduceCtorEq, Nat.reduceMul, f2, ipA, List.getD_cons_zero]; refine S.bool fun b a187 => ?_; cases b <;> (try (exfalso; first | exact Bool.noConfusion a187 | (have h := of_decide_eq_true a187; omega) | (have h := of_decide_eq_false a187; omega))) <;> (refine k' _ _ ?_; clear k' K'))
 all_goals (refine S.g rfl rfl fun K' k' => ?_; simp only [zz, reduceIte, Nat.reduceEqDiff, Nat.reduceAdd, f2, ipA, List.getD_cons_zero]; refine k' _ _ ?_; clear k' K')
 all_goals (first | (refine S.y rfl rfl rfl rfl fun K' k' => ?_; simp only [zz, reduceIte, Nat.reduceEqDiff, Nat.reduceAdd, f2, ipA, List.getD_cons_zero]; refine k' _ _ ?_; clear k' K') | ((first | refine S.x rfl rfl rfl rfl fun K' k' => ?_ | refine S.u rfl rfl rfl rfl fun K' k' => ?_); simp only [ze, reduceIte, Nat.reduceEqDiff]; refine k' _ _ ?_; clear k' K'))
 all_goals (first | (refine S.y rfl rfl rfl rfl fun K' k' => ?_; simp only [zz, reduceIte, Nat.reduceEqDiff, Nat.reduceLT, Nat.reduceLeDiff, Nat.reduceAdd, reduceCtorEq, Nat.reduceMul, f2, ipA, List.getD_cons_zero]; refine S.bool fun b a190 => ?_; cases b <;> (try (exfalso; first | exact Bool.noConfusion a190 | (have h := of_decide_eq_true a190; omega) | (have h := of_decide_eq_false a190; omega))) <;> (refine k' _ _ ?_; clear k' K')) | ((first | refine S.x rfl rfl rfl rfl fun K' k' => ?_ | refine S.u rfl rfl rfl rfl fun K' k' => ?_); simp only [ze, reduceIte, Nat.reduceEqDiff]; refine k' _ _ ?_; clear k' K'))
 all_goals iterate 2 (refine S.g rfl rfl fun K' k' => ?_; simp only [zz, reduceIte, Nat.reduceEqDiff, Nat.reduceAdd, f2, ipA, List.getD_cons_zero]; refine k' _ _ ?_; clear k' K')
 all_goals iterate 4 (first | (refine S.y rfl rfl rfl rfl fun K' k' => ?_; simp only [zz, reduceIte, Nat.reduceEqDiff, Nat.reduceLT, Nat.reduceLeDiff, Nat.reduceAdd, reduceCtorEq, Nat.reduceMul, of24_0, ok22, sz22, ag22, sl22, el22, ok38, sz38, ag38, f2, ipA, List.getD_cons_zero]; refine k' _ _ ?_; clear k' K') | ((first | refine S.x rfl rfl rfl rfl fun K' k' => ?_ | refine S.u rfl rfl rfl rfl fun K' k' => ?_); simp only [ze, reduceIte, Nat.reduceEqDiff]; refine k' _ _ ?_; clear k' K'))
 all_goals iterate 2 (refine S.g rfl rfl fun K' k' => ?_; simp only [zz, reduceIte, Nat.reduceEqDiff, Nat.reduceAdd, f2, ipA, List.getD_cons_zero]; refine k' _ _ ?_; clear k' K')
 all_goals refine S.nil ?_
 all_goals simp only [ze, reduceIte, Nat.reduceEqDiff, Nat.reduceLT, Nat.reduceLeDiff, Nat.reduceAdd, reduceCtorEq, Nat.reduceMul, f2, ipA, List.getD_cons_zero]
 all_goals apply_assumption
 refine AW.ret ?_
 all_goals simp only [zs, reduceIte, Nat.reduceEqDiff, Nat.reduceLT, Nat.reduceLeDiff, Nat.reduceAdd, reduceCtorEq, Nat.reduceMul]
 rfl
end Go.Abs.MX
namespace Go.Abs.M
open Go Go.Abs Go.Proofs
theorem law_own (a b : List Bd) (ha : okT a) (hb : okT b) :
  PCalls Tryz.prog 3 [.agg [.sl (a.map encBd)], .agg [.sl (b.map encBd)]] (fun v => v = .c (.bool true)) :=
 (MX.own_spec a b ha.i hb.i).bare fun _ _ h => h
end Go.Abs.M
