import Derived.Test.YtkijhgplmikboaaGreatDoorOfc
set_option linter.all false
set_option maxHeartbeats 4000000
namespace Go.Abs.M
open Go Go.Abs Go.Proofs
set_option maxRecDepth 20000
def noA (o : Opd) : Bool := decide (o.attr.size = 0)
theorem opdN_noA (o : Opd) : opdN o = if noA o then [] else [o.var] := by
 have : eqS o.attr ⟨#[]⟩ = noA o := by rw [eqS, str_nil]; rfl
 rw [opdN, this]
theorem rNames_spec (c : Cnd) : PCalls Tryz.prog 128 [.agg (encC c)] (fun v => ∃ l' : List ByteArray, v = .sl (l'.map encS) ∧ l'.length < 3 ∧ ∀ x, x ∈ l' ↔ x ∈ namesC c) := by
 refine PCalls.intro Tryz.call128 Tryz.func128 rfl Tryz.ntmps128 Tryz.results128 (by simp) ?_
 have hn : namesC c = (if noA c.l then [] else [c.l.var]) ++ (if noA c.r then [] else [c.r.var]) := by rw [namesC, opdN_noA, opdN_noA]
 refine AW.sr (J2 @encC.eq_1 @encO.eq_1) ?_
 refine AW.seq_j (fun s σ => σ = Hp.empty ∧ s.t 3 = .lp 3 0 ∧ s.l 3 = some (encO c.l) ∧ s.t 4 = .lp 4 0 ∧ s.l 4 = some (encO c.r)) ?_ ?_
 ·skip
  refine AW.dT { sd := fun d => d == 1 } (.st 0 0 (.st 2 0 (.st 1 1 (.st 3 1 (.fork 4 (.st 5 2 (.st 6 2 (.st 7 2 .nil))) 5 (.st 4 2 (.st 6 2 (.st 7 2 .nil)))))))) ?_
  all_goals have q1q := J5 @Bool.or_self @kill.eq_1 @kill.eq_2 @encC.eq_1 @encO.eq_1
  all_goals iterate 4 refine T.onf q1q ?_
  all_goals (try refine T.fork ?_ ?_)
  all_goals iterate 4 refine T.onf q1q ?_
  all_goals refine T.nil ?_
  all_goals simp only [ze, simprocAttr, q1q]
  all_goals ((try and_intros) <;> first | rfl | assumption | (rfl))
 rintro s σ ⟨rfl, e3, l3, e4, l4⟩
 have z2 : ∀ a b : ByteArray, (∀ (e : List V), e ∈ [[V.c (.string a)], [V.c (.string b)]] → e.length = 1) = True := fun a b => eq_true fun e he => by simp only [List.mem_cons, List.not_mem_nil, or_false] at he; rcases he with rfl | rfl <;> rfl
 have r2 : ([0, 1] = List.range 2) = True := eq_true (by decide)
 refine AW.seq_k fun K2 h2 => ?_
 refine AW.block ?_   -- 0
 refine AW.seq_j (fun s' σ' => σ' = Hp.empty ∧ s'.t 3 = .lp 3 0 ∧ s'.l 3 = some (encO c.l) ∧ s'.t 4 = .lp 4 0 ∧ s'.l 4 = some (encO c.r) ∧ s'.t 9 = .c (.bool (noA c.l && noA c.r))) ?_ ?_
 ·cases hA : noA c.l <;> cases hB : noA c.r <;> rw [noA] at hA hB
  all_goals skip
  ·skip
   refine AW.reg0 ?_
   have q2q := J7 e3 l3 e4 l4 hA hB @encO.eq_1
   iterate 2 refine S.one q2q ?_
   (refine S.sp q2q fun b a12 => ?_; cases b <;> (try exact nope a12))
   all_goals iterate 6 refine S.one q2q ?_
   all_goals refine S.nil ?_
   all_goals simp only [ze, simprocAttr, q2q]
   all_goals ((try and_intros) <;> first | rfl | assumption | (rfl))
  ·skip
   refine AW.reg0 ?_
   have q3q := J7 e3 l3 e4 l4 hA hB @encO.eq_1
   iterate 2 refine S.one q3q ?_
   (refine S.sp q3q fun b a12 => ?_; cases b <;> (try exact nope a12))
   all_goals iterate 6 refine S.one q3q ?_
   all_goals refine S.nil ?_
   all_goals simp only [ze, simprocAttr, q3q]
   all_goals ((try and_intros) <;> first | rfl | assumption | (rfl))
  ·skip
   refine AW.reg0 ?_
   have q4q := J7 e3 l3 e4 l4 hA hB @encO.eq_1
   iterate 2 refine S.one q4q ?_
   (refine S.sp q4q fun b a12 => ?_; cases b <;> (try exact nope a12))
   all_goals iterate 6 refine S.one q4q ?_
   all_goals refine S.nil ?_
   all_goals simp only [ze, simprocAttr, q4q]
   all_goals ((try and_intros) <;> first | rfl | assumption | (rfl))
  ·skip
   refine AW.reg0 ?_
   have q5q := J7 e3 l3 e4 l4 hA hB @encO.eq_1
   iterate 2 refine S.one q5q ?_
   (refine S.sp q5q fun b a12 => ?_; cases b <;> (try exact nope a12))
   all_goals iterate 6 refine S.one q5q ?_
   all_goals refine S.nil ?_
   all_goals simp only [ze, simprocAttr, q5q]
   all_goals ((try and_intros) <;> first | rfl | assumption | (rfl))
 clear e3 l3 e4 l4 s
 rintro s σ ⟨rfl, e3, l3, e4, l4, e9⟩
 refine AW.cond (b := noA c.l && noA c.r) e9 (fun hc => ?_) (fun hc => ?_)
 ·refine AW.sr trivial ?_
  refine AW.ret ?_
  simp only [zs, simprocAttr]
  rw [Bool.and_eq_true] at hc
  refine ⟨[], rfl, by simp, fun x => ?_⟩
  rw [hn, hc.1, hc.2]; simp
 refine AW.seq_j (fun s' σ' => σ' = Hp.empty ∧ s'.t 3 = .lp 3 0 ∧ s'.l 3 = some (encO c.l) ∧ s'.t 4 = .lp 4 0 ∧ s'.l 4 = some (encO c.r) ∧ s'.t 18 = .c (.bool (noA c.r || (!noA c.l && eqS c.l.var c.r.var)))) ?_ ?_
 ·cases hA : noA c.l <;> cases hB : noA c.r <;> rw [noA] at hA hB
  all_goals skip
  ·skip
   refine AW.reg0 ?_
   have q6q := J7 e3 l3 e4 l4 hA hB @encO.eq_1
   iterate 2 refine S.one q6q ?_
   (refine S.sp q6q fun b a21 => ?_; cases b <;> (try exact nope a21))
   all_goals iterate 3 refine S.one q6q ?_
   all_goals (first | (refine S.sp q6q fun b a25 => ?_; cases b <;> (try exact nope a25)) | ((first | refine S.x rfl rfl rfl rfl fun Y Z => ?_ | refine S.u rfl rfl rfl rfl fun Y Z => ?_); simp only [ze, simprocAttr, -Int.reduceNatCast', -Int.reduceToNat]; refine Z _ _ ?_; clear Z Y))
   all_goals iterate 9 refine S.one q6q ?_
   all_goals refine S.nil ?_
   all_goals simp only [ze, simprocAttr, q6q]
   all_goals ((try and_intros) <;> first | rfl | assumption | (rfl))
  ·skip
   refine AW.reg0 ?_
   have q7q := J7 e3 l3 e4 l4 hA hB @encO.eq_1
   iterate 2 refine S.one q7q ?_
   (refine S.sp q7q fun b a21 => ?_; cases b <;> (try exact nope a21))
   all_goals iterate 3 refine S.one q7q ?_
   all_goals (first | (refine S.sp q7q fun b a25 => ?_; cases b <;> (try exact nope a25)) | ((first | refine S.x rfl rfl rfl rfl fun Y Z => ?_ | refine S.u rfl rfl rfl rfl fun Y Z => ?_); simp only [ze, simprocAttr, -Int.reduceNatCast', -Int.reduceToNat]; refine Z _ _ ?_; clear Z Y))
   all_goals iterate 9 refine S.one q7q ?_
   all_goals refine S.nil ?_
   all_goals simp only [ze, simprocAttr, q7q]
   all_goals ((try and_intros) <;> first | rfl | assumption | (rfl))
  ·skip
   refine AW.reg0 ?_
   have q8q := J7 e3 l3 e4 l4 hA hB @encO.eq_1
   iterate 2 refine S.one q8q ?_
   (refine S.sp q8q fun b a21 => ?_; cases b <;> (try exact nope a21))
   all_goals iterate 3 refine S.one q8q ?_
   all_goals (first | (refine S.sp q8q fun b a25 => ?_; cases b <;> (try exact nope a25)) | ((first | refine S.x rfl rfl rfl rfl fun Y Z => ?_ | refine S.u rfl rfl rfl rfl fun Y Z => ?_); simp only [ze, simprocAttr, -Int.reduceNatCast', -Int.reduceToNat]; refine Z _ _ ?_; clear Z Y))
   all_goals iterate 9 refine S.one q8q ?_
   all_goals refine S.nil ?_
   all_goals simp only [ze, simprocAttr, q8q]
   all_goals ((try and_intros) <;> first | rfl | assumption | (rfl))
  ·skip
   refine AW.reg0 ?_
   have q9q := J7 e3 l3 e4 l4 hA hB @encO.eq_1
   iterate 2 refine S.one q9q ?_
   (refine S.sp q9q fun b a21 => ?_; cases b <;> (try exact nope a21))
   all_goals iterate 3 refine S.one q9q ?_
   all_goals (first | (refine S.sp q9q fun b a25 => ?_; cases b <;> (try exact nope a25)) | ((first | refine S.x rfl rfl rfl rfl fun Y Z => ?_ | refine S.u rfl rfl rfl rfl fun Y Z => ?_); simp only [ze, simprocAttr, -Int.reduceNatCast', -Int.reduceToNat]; refine Z _ _ ?_; clear Z Y))
   all_goals iterate 9 refine S.one q9q ?_
   all_goals refine S.nil ?_
   all_goals simp only [ze, simprocAttr, q9q]
   all_goals ((try and_intros) <;> first | rfl | assumption | (rfl))
 clear e3 l3 e4 l4 e9 s
 rintro s σ ⟨rfl, e3, l3, e4, l4, e18⟩
 refine AW.cond (b := noA c.r || (!noA c.l && eqS c.l.var c.r.var)) e18 (fun hd => ?_) (fun hd => ?_)
 ·refine AW.seq_k fun K4 h4 => ?_
  refine AW.reg0 ?_
  iterate 4 (refine S.g rfl rfl fun Y Z => ?_; simp only [zb, simprocAttr, -Int.reduceNatCast', -Int.reduceToNat, tt, e3, l3, encO]; refine Z _ _ ?_; clear Z Y)
  all_goals (refine S.nil ?_; simp only [ze, simprocAttr, e3, l3, encO]; apply_assumption)
  refine AW.ret ?_
  all_goals simp only [zs, simprocAttr]
  refine ⟨[c.l.var], rfl, by simp, fun x => ?_⟩
  rw [hn]
  cases hA : noA c.l <;> cases hB : noA c.r <;> rw [hA, hB] at hc hd <;> simp at hc hd ⊢
  rw [eqS_iff.1 hd]; simp
 have hB : noA c.r = false := by cases hB : noA c.r <;> simp [hB] at hd ⊢
 all_goals refine AW.sr (J3 e3 l3 @encO.eq_1) ?_
 refine AW.cond (b := noA c.l) (by rw [noA]; simp [ev]) (fun hA => ?_) (fun hA => ?_)
 ·refine AW.seq_k fun K6 h6 => ?_
  refine AW.reg0 ?_
  iterate 4 (refine S.g rfl rfl fun Y Z => ?_; simp only [zb, simprocAttr, -Int.reduceNatCast', -Int.reduceToNat, tt, e4, l4, encO]; refine Z _ _ ?_; clear Z Y)
  all_goals (refine S.nil ?_; simp only [ze, simprocAttr, e4, l4, encO]; apply_assumption)
  refine AW.ret ?_
  all_goals simp only [zs, simprocAttr]
  refine ⟨[c.r.var], rfl, by simp, fun x => ?_⟩
  rw [hn, hA, hB]; simp
 all_goals refine AW.sr (J5 e3 l3 e4 l4 @encO.eq_1) ?_
 refine AW.cond (b := Op.bytesLess c.l.var.toList c.r.var.toList) (by simp [ev]) (fun hL => ?_) (fun hL => ?_)
 ·refine AW.seq_k fun K8 h8 => ?_
  refine AW.reg0 ?_
  iterate 6 (refine S.g rfl rfl fun Y Z => ?_; simp only [zb, simprocAttr, -Int.reduceNatCast', -Int.reduceToNat, tt, e3, l3, e4, l4, z2, r2, encO]; refine Z _ _ ?_; clear Z Y)
  all_goals (refine S.nil ?_; simp only [ze, simprocAttr, e3, l3, e4, l4, z2, r2, encO]; apply_assumption)
  refine AW.ret ?_
  all_goals simp only [zs, simprocAttr]
  refine ⟨[c.l.var, c.r.var], rfl, by simp, fun x => ?_⟩
  rw [hn, hA, hB]; simp
 ·refine AW.skip ?_
  simp only [zs, simprocAttr]
  all_goals apply_assumption
  refine AW.seq_k fun K9 h9 => ?_
  refine AW.reg0 ?_
  iterate 6 (refine S.g rfl rfl fun Y Z => ?_; simp only [zb, simprocAttr, -Int.reduceNatCast', -Int.reduceToNat, tt, e3, l3, e4, l4, z2, r2, encO]; refine Z _ _ ?_; clear Z Y)
  all_goals (refine S.nil ?_; simp only [ze, simprocAttr, e3, l3, e4, l4, z2, r2, encO]; apply_assumption)
  refine AW.ret ?_
  all_goals simp only [zs, simprocAttr]
  refine ⟨[c.r.var, c.l.var], rfl, by simp, fun x => ?_⟩
  rw [hn, hA, hB]; simp [or_comm]
theorem rReady_spec (vars : List ByteArray) (hl : vars.length < 4611686018427387904) (c : Cnd) : PCalls Tryz.prog 86 [.agg (encC c), .sl (vars.map encS)] (fun v => v = .c (.bool (readyC vars c))) := by
 refine PCalls.intro Tryz.call86 Tryz.func86 rfl Tryz.ntmps86 Tryz.results86 (by simp) ?_
 have q1q := J2 @encC.eq_1 @encO.eq_1
 refine AW.sr q1q ?_
 refine AW.seq_j (fun s' σ' => σ' = Hp.empty ∧ s'.t 1 = .sl (vars.map encS) ∧ ∃ nl : List ByteArray, s'.t 5 = .sl (nl.map encS) ∧ nl.length < 3 ∧ ∀ x, x ∈ nl ↔ x ∈ namesC c) ?_ ?_
 ·skip
  refine AW.reg0 ?_
  have q2q := J2 @encC.eq_1 @encO.eq_1
  refine S.one q2q ?_
  (refine S.g rfl rfl fun Y Z => ?_; simp only [zz, simprocAttr, -Int.reduceNatCast', -Int.reduceToNat, q2q]; (refine PCalls.to (rNames_spec c) ?_; rintro v1 ⟨nl, rfl, hnl, hnm⟩) <;> (refine Z _ _ ?_; clear Z Y))
  all_goals refine S.one q2q ?_
  all_goals refine S.nil ?_
  all_goals simp only [ze, simprocAttr, q2q]
  all_goals ((try and_intros) <;> first | rfl | assumption | (exact ⟨nl, rfl, hnl, hnm⟩))
 rintro s σ ⟨rfl, e1, nl, e5, hnl, hnm⟩
 have hre : readyC vars c = nl.all (hasS vars ·) := by
  rw [readyC, Bool.eq_iff_iff, List.all_eq_true, List.all_eq_true]
  exact ⟨fun g x hx => g x ((hnm x).1 hx), fun g x hx => g x ((hnm x).2 hx)⟩
 refine AW.seq_k fun K2 h2 => ?_
 all_goals refine AW.sr trivial ?_
 refine AW.block ?_   -- 0
 refine AW.loop (fun m s σ => σ = Hp.empty ∧ ∃ i : Nat, m + i = nl.length ∧ s.t 1 = .sl (vars.map encS) ∧ s.t 5 = .sl (nl.map encS) ∧ s.t 6 = .c (.int .i64 (i : Nat)) ∧ readyC vars c = (nl.drop i).all (hasS vars ·)) nl.length ?_ ?_
 ·refine ⟨rfl, 0, by simp, ?_⟩
  simp only [zs, simprocAttr, e1, e5]
  all_goals ((try and_intros) <;> first | rfl | assumption | (exact hre))
 clear hre e1 e5 s
 rintro m s σ ⟨rfl, i, hm, e1, e5, e6, hre⟩
 refine AW.seq_k fun K4 h4 => ?_
 all_goals refine AW.sr (J3 e5 e6 @List.length_map.{0,0}) ?_
 refine AW.cond (b := decide (i < nl.length)) (by simp [ev]) (fun hi => ?_) (fun hi => ?_)
 ·have hi := of_decide_eq_true hi
  obtain ⟨x, hx, hg, hd⟩ := str_get hi
  have hw := wadd1 (a := i) (by omega)
  rw [hd, List.all_cons] at hre
  refine AW.skip ?_
  simp only [zs, simprocAttr]
  all_goals apply_assumption
  refine AW.seq_k fun K6 h6 => ?_
  refine AW.block ?_   -- 1
  refine AW.seq_k fun K7 h7 => ?_
  refine AW.reg0 ?_
  iterate 5 refine S.one (J6 e1 e5 e6 hi hg @List.length_map.{0,0}) ?_
  have q3q := J6 e1 e5 e6 hi hg @List.length_map.{0,0}
  (refine S.g rfl rfl fun Y Z => ?_; simp only [zz, simprocAttr, -Int.reduceNatCast', -Int.reduceToNat, q3q]; refine PCalls.eqto (rhasS_spec vars x hl) ?_ <;> (refine Z _ _ ?_; clear Z Y))
  all_goals refine S.one q3q ?_
  all_goals (refine S.nil ?_; simp only [ze, simprocAttr, q3q]; apply_assumption)
  refine AW.cond (b := !hasS vars x) (by simp [ev]) (fun hc => ?_) (fun hc => ?_)
  ·refine AW.sr trivial ?_
   refine AW.ret ?_
   simp only [zs, simprocAttr]
   have hc : hasS vars x = false := by simpa using hc
   rw [hre, hc]; rfl
  ·refine AW.skip ?_
   simp only [zs, simprocAttr]
   all_goals apply_assumption
   have hc : hasS vars x = true := by simpa using hc
   rw [hc, Bool.true_and] at hre
   have q4q := J4 e6 hw e1 e5
   refine AW.reg0 (S.rn q4q ?_)
   simp only [ze, simprocAttr, q4q]
   refine ⟨m - 1, by omega, i + 1, by omega, ?_⟩
   all_goals ((try and_intros) <;> first | rfl | assumption | (exact hre))
 ·have hi := of_decide_eq_false hi
  refine AW.exit ?_
  simp only [zs, simprocAttr]
  all_goals apply_assumption
  rw [List.drop_of_length_le (by omega)] at hre
  refine AW.sr trivial ?_
  refine AW.ret ?_
  simp only [zs, simprocAttr]
  rw [hre]; rfl
end Go.Abs.M
namespace Go.Abs.M
open Go Go.Abs Go.Proofs
variable [Mode]
set_option maxRecDepth 20000
structure okOp (o : OpS) : Prop where
  tests : o.tests.length < 4611686018427387904
  conds : o.conds.length < 4611686018427387904
def sameOp (a b : OpS) : Bool := (a.kind == b.kind) && (eqS a.var b.var && (eqS a.type b.type && (allEq eqC a.tests b.tests && (allEq eqC a.conds b.conds && (a.win == b.win && a.ins == b.ins)))))
theorem rsameOp_spec (a b : OpS) (ha : okOp a) : PCalls Tryz.prog 42 [.agg (encOp a), .agg (encOp b)] (fun v => v = .c (.bool (sameOp a b))) := by
 refine PCalls.intro Tryz.call42 Tryz.func42 rfl Tryz.ntmps42 Tryz.results42 (by simp) ?_
 refine AW.sr @encOp.eq_1 ?_
 refine AW.seq_j (fun s' σ' => σ' = Hp.empty ∧ s'.t 4 = .c (.bool (sameOp a b))) ?_ ?_
 ·skip
  refine AW.reg0 ?_
  iterate 4 refine S.one @encOp.eq_1 ?_
  (refine S.sp @encOp.eq_1 fun b a9 => ?_; cases b <;> (try exact nope a9))
  all_goals iterate 5 refine S.one @encOp.eq_1 ?_
  all_goals (first | (refine S.sp @encOp.eq_1 fun b a15 => ?_; cases b <;> (try exact nope a15)) | ((first | refine S.x rfl rfl rfl rfl fun Y Z => ?_ | refine S.u rfl rfl rfl rfl fun Y Z => ?_); simp only [ze, simprocAttr, -Int.reduceNatCast', -Int.reduceToNat]; refine Z _ _ ?_; clear Z Y))
  all_goals iterate 6 refine S.one @encOp.eq_1 ?_
  all_goals (first | (refine S.sp @encOp.eq_1 fun b a22 => ?_; cases b <;> (try exact nope a22)) | ((first | refine S.x rfl rfl rfl rfl fun Y Z => ?_ | refine S.u rfl rfl rfl rfl fun Y Z => ?_); simp only [ze, simprocAttr, -Int.reduceNatCast', -Int.reduceToNat]; refine Z _ _ ?_; clear Z Y))
  all_goals iterate 6 refine S.one @encOp.eq_1 ?_
  all_goals (first | (refine S.y rfl rfl rfl rfl fun Y Z => ?_; simp only [zz, simprocAttr, -Int.reduceNatCast', -Int.reduceToNat, encOp]; (first | refine PCalls.eqto (rsameC _ _ ha.tests) ?_ | refine PCalls.eqto (rsameC _ _ ha.conds) ?_); refine S.bool fun b a29 => ?_; cases b <;> (try exact nope a29) <;> (refine Z _ _ ?_; clear Z Y)) | ((first | refine S.x rfl rfl rfl rfl fun Y Z => ?_ | refine S.u rfl rfl rfl rfl fun Y Z => ?_); simp only [ze, simprocAttr, -Int.reduceNatCast', -Int.reduceToNat]; refine Z _ _ ?_; clear Z Y))
  all_goals iterate 6 refine S.one @encOp.eq_1 ?_
  all_goals (first | (refine S.y rfl rfl rfl rfl fun Y Z => ?_; simp only [zz, simprocAttr, -Int.reduceNatCast', -Int.reduceToNat, encOp]; (first | refine PCalls.eqto (rsameC _ _ ha.tests) ?_ | refine PCalls.eqto (rsameC _ _ ha.conds) ?_); refine S.bool fun b a36 => ?_; cases b <;> (try exact nope a36) <;> (refine Z _ _ ?_; clear Z Y)) | ((first | refine S.x rfl rfl rfl rfl fun Y Z => ?_ | refine S.u rfl rfl rfl rfl fun Y Z => ?_); simp only [ze, simprocAttr, -Int.reduceNatCast', -Int.reduceToNat]; refine Z _ _ ?_; clear Z Y))
  all_goals iterate 6 refine S.one @encOp.eq_1 ?_
  all_goals (first | (refine S.sp @encOp.eq_1 fun b a43 => ?_; cases b <;> (try exact nope a43)) | ((first | refine S.x rfl rfl rfl rfl fun Y Z => ?_ | refine S.u rfl rfl rfl rfl fun Y Z => ?_); simp only [ze, simprocAttr, -Int.reduceNatCast', -Int.reduceToNat]; refine Z _ _ ?_; clear Z Y))
  all_goals iterate 9 refine S.one @encOp.eq_1 ?_
  all_goals refine S.nil ?_
  all_goals simp only [ze, simprocAttr, encOp]
  all_goals simp_all [sameOp, eqS]
 rintro s σ ⟨rfl, e4⟩
 refine AW.ret ?_
 all_goals simp only [zs, simprocAttr, e4]
 all_goals ((try and_intros) <;> first | rfl | assumption | (rfl))
structure okPl (x : Pln) : Prop where
  ops : x.ops.length < 4611686018427387904
  from_ : x.from_.length < 4611686018427387904
  op : ∀ o ∈ x.ops, okOp o
  fr : ∀ l ∈ x.from_, l.length < 4611686018427387904
def samePl (a b : Pln) : Bool := allEq sameOp a.ops b.ops && allEq (allEq eqI) a.from_ b.from_
end Go.Abs.M
namespace Go.Abs.M
open Go Go.Abs Go.Proofs
set_option maxRecDepth 20000
def kindOf (k : Int) : Int := if k = 1 then 1 else if k = 2 then 2 else if k = 3 then 3 else 4
theorem kind_spec (k : Int) : PCalls Tryz.prog 85 [.c (.int .i64 k)] (fun v => v = .c (.int .i64 (kindOf k))) := by
 refine PCalls.intro Tryz.call85 Tryz.func85 rfl Tryz.ntmps85 Tryz.results85 (by simp) ?_
 refine AW.sr trivial ?_
 refine AW.seq_k fun K2 h2 => ?_
 refine AW.sr trivial ?_
 refine AW.block ?_   -- 0
 refine AW.sr trivial ?_
 refine AW.cond (b := k == 1) (by simp [ev]) (fun hc => ?_) (fun hc => ?_)
 ·refine AW.sr trivial ?_
  refine AW.ret ?_
  simp only [zs, simprocAttr]
  rw [kindOf, if_pos (eq_of_beq hc)]
 have h1 : ¬ k = 1 := by simpa using hc
 all_goals refine AW.sr trivial ?_
 refine AW.cond (b := k == 2) (by simp [ev]) (fun hc => ?_) (fun hc => ?_)
 ·refine AW.sr trivial ?_
  refine AW.ret ?_
  simp only [zs, simprocAttr]
  rw [kindOf, if_neg h1, if_pos (eq_of_beq hc)]
 have h2 : ¬ k = 2 := by simpa using hc
 all_goals refine AW.sr trivial ?_
 refine AW.cond (b := k == 3) (by simp [ev]) (fun hc => ?_) (fun hc => ?_)
 ·refine AW.sr trivial ?_
  refine AW.ret ?_
  simp only [zs, simprocAttr]
  rw [kindOf, if_neg h1, if_neg h2, if_pos (eq_of_beq hc)]
 have h3 : ¬ k = 3 := by simpa using hc
 refine AW.skip ?_
 all_goals simp only [zs, simprocAttr]
 all_goals apply_assumption
 all_goals refine AW.sr trivial ?_
 refine AW.ret ?_
 all_goals simp only [zs, simprocAttr]
 rw [kindOf, if_neg h1, if_neg h2, if_neg h3]
theorem Hp.eqs {a b : Hp} (h1 : ∀ j, a.obj j = b.obj j) (h2 : ∀ j, a.gr j = b.gr j) : a = b := by
 cases a; cases b
 simp only [Hp.mk.injEq]
 exact ⟨funext h1, funext h2⟩
def hp0 (g : Nat) : Hp := Hp.empty.setObj g (some [.c (.slice none 0 0), .c (.slice none 0 0)])
def hpPl (g ko kf : Nat) (x : Pln) : Hp := ((Hp.empty.setGr ko (some ((41, 7), x.ops.map encOp))).setGr kf (some ((48, 1), x.from_.map encF))).setObj g (some [.gl ko, .gl kf])
def PlH (g : Nat) (x : Pln) (σ : Hp) : Prop := (x.ops = [] ∧ x.from_ = [] ∧ σ = hp0 g) ∨ ∃ ko kf, ¬ ko = kf ∧ σ = hpPl g ko kf x
def hitP (x : Pln) (o : OpS) (f : List Int) (i : Nat) : Bool := match x.ops[i]?, x.from_[i]? with
  | some a, some h => sameOp a o && allEq eqI h f
  | _, _ => false
def putPl (x : Pln) (o : OpS) (f : List Int) : Pln × Nat := match (List.range x.ops.length).find? (hitP x o f) with
  | some i => (x, i)
  | none => (⟨x.ops ++ [o], x.from_ ++ [f]⟩, x.ops.length)
theorem range_find {p : Nat → Bool} {n i : Nat} (hi : i < n) (hp : p i = true) (hb : ∀ j < i, p j = false) : (List.range n).find? p = some i := by
 rw [List.find?_range_eq_some]
 exact ⟨hp, List.mem_range.2 hi, fun j hj => by rw [hb j hj]; rfl⟩
theorem putPl_hit {x : Pln} {o : OpS} {f : List Int} {i : Nat} (hi : i < x.ops.length) (hp : hitP x o f i = true) (hb : ∀ j < i, hitP x o f j = false) : putPl x o f = (x, i) := by
 rw [putPl, range_find hi hp hb]
theorem putPl_new {x : Pln} {o : OpS} {f : List Int} (hb : ∀ j < x.ops.length, hitP x o f j = false) : putPl x o f = (⟨x.ops ++ [o], x.from_ ++ [f]⟩, x.ops.length) := by
 have : (List.range x.ops.length).find? (hitP x o f) = none := by
  rw [List.find?_eq_none]
  intro j hj
  rw [hb j (List.mem_range.1 hj)]; exact Bool.false_ne_true
 rw [putPl, this]
theorem len_op1 (o : OpS) : (∀ (e : List V), e ∈ [encOp o] → e.length = 7) = True := eq_true fun e he => by rw [List.mem_singleton.1 he]; rfl
theorem len_f1 (f : List Int) : (∀ (e : List V), e ∈ [[V.sl (f.map encI)]] → e.length = 1) = True := eq_true fun e he => by rw [List.mem_singleton.1 he]; rfl
theorem rputPl_spec {g : Nat} {x : Pln} {σ : Hp} (hH : PlH g x σ) (o : OpS) (f : List Int) (hx : x.from_.length = x.ops.length) (hl : x.ops.length < 1048576) (hok : ∀ a ∈ x.ops, okOp a) (hfl : ∀ h ∈ x.from_, h.length < 4611686018427387904) :
  ACalls Tryz.prog 41 [ptrV g, .agg (encOp o), .sl (f.map encI)] σ (fun v σ' => v = .c (.int .i64 ((putPl x o f).2 : Nat)) ∧ PlH g (putPl x o f).1 σ') := by
 refine ACalls.intro Tryz.call41 Tryz.func41 rfl Tryz.ntmps41 Tryz.results41 (by simp) ?_
 have im0 : isMap [V.c (.slice none 0 0), .c (.slice none 0 0)] = false := rfl
 have im1 : ∀ a b : Nat, isMap [V.gl a, .gl b] = false := fun _ _ => rfl
 refine AW.sr (J2 @ptrV.eq_1 @encOp.eq_1) ?_
 refine AW.seq_k fun K2 h2 => ?_
 refine AW.sr @ptrV.eq_1 ?_
 refine AW.block ?_   -- 0
 refine AW.loop (fun m s σ' => σ' = σ ∧ ∃ i : Nat, m + i = x.ops.length ∧ s.t 0 = ptrV g ∧ s.t 2 = .sl (f.map encI) ∧ s.t 4 = .lp 4 0 ∧ s.l 4 = some (encOp o) ∧ s.t 7 = .c (.int .i64 (i : Nat)) ∧ ∀ j < i, hitP x o f j = false) x.ops.length ?_ ?_
 ·refine ⟨rfl, 0, by simp, ?_⟩
  simp only [zs, simprocAttr, -Int.reduceNatCast', -Int.reduceToNat, ptrV]
  exact ⟨rfl, rfl, fun j hj => by omega⟩
 rintro m s σ0 ⟨hs0, i, hm, e0, e2, e4, l4, e7, hb⟩
 have hs0 := hs0.symm
 subst hs0
 refine AW.seq_k fun K4 h4 => ?_
 refine AW.seq_j (fun s' σ'' => σ'' = σ ∧ s'.t 0 = ptrV g ∧ s'.t 2 = .sl (f.map encI) ∧ s'.t 4 = .lp 4 0 ∧ s'.l 4 = some (encOp o) ∧ s'.t 7 = .c (.int .i64 (i : Nat)) ∧ s'.t 14 = .c (.bool (decide (i < x.ops.length)))) ?_ ?_
 ·rcases hH with ⟨ho, hf, rfl⟩ | ⟨ko, kf, hkk, rfl⟩
  ·have hobj : (hp0 g).obj g = some [.c (.slice none 0 0), .c (.slice none 0 0)] := by simp [hp0]
   have q1q := J9 im0 im1 e0 e2 e4 l4 e7 @ptrV.eq_1 hobj
   refine AW.reg0 (S.rn q1q ?_)
   simp only [ze, simprocAttr, q1q]
   all_goals ((try and_intros) <;> first | rfl | assumption | (simp_all))
  ·have hobj : (hpPl g ko kf x).obj g = some [.gl ko, .gl kf] := by simp [hpPl]
   have hgr : (hpPl g ko kf x).gr ko = some ((41, 7), x.ops.map encOp) := by simp [hpPl, hkk]
   have q2q := J11 im0 im1 e0 e2 e4 l4 e7 @ptrV.eq_1 hobj hgr @List.length_map.{0,0}
   refine AW.reg0 (S.rn q2q ?_)
   simp only [ze, simprocAttr, q2q]
   all_goals ((try and_intros) <;> first | rfl | assumption | (simp_all))
 clear e0 e2 e4 l4 e7 s
 rintro s σ1 ⟨hs1, e0, e2, e4, l4, e7, e14⟩
 have hs1 := hs1.symm
 subst hs1
 refine AW.cond (b := decide (i < x.ops.length)) e14 (fun hi => ?_) (fun hi => ?_)
 ·have hi := of_decide_eq_true hi
  have hw := wadd1 (a := i) (by omega)
  refine AW.skip ?_
  simp only [zs, simprocAttr]
  all_goals apply_assumption
  refine AW.seq_k fun K5 h5 => ?_
  refine AW.block ?_   -- 1
  refine AW.seq_j (fun s' σ'' => σ'' = σ ∧ s'.t 0 = ptrV g ∧ s'.t 2 = .sl (f.map encI) ∧ s'.t 4 = .lp 4 0 ∧ s'.l 4 = some (encOp o) ∧ s'.t 7 = .c (.int .i64 (i : Nat)) ∧ s'.t 36 = .c (.bool (hitP x o f i))) ?_ ?_
  ·rcases hH with ⟨ho, hf, rfl⟩ | ⟨ko, kf, hkk, rfl⟩
   ·rw [ho] at hi; simp at hi
   ·have hobj : (hpPl g ko kf x).obj g = some [.gl ko, .gl kf] := by simp [hpPl]
    have hgr : (hpPl g ko kf x).gr ko = some ((41, 7), x.ops.map encOp) := by simp [hpPl, hkk]
    have hgf : (hpPl g ko kf x).gr kf = some ((48, 1), x.from_.map encF) := by simp [hpPl]
    have hif : i < x.from_.length := by omega
    have ho1 : (x.ops.map encOp).getD i [] = encOp x.ops[i] := getD_map hi
    have hf1 : (x.from_.map encF).getD i [] = encF x.from_[i] := getD_map hif
    have hh : hitP x o f i = (sameOp x.ops[i] o && allEq eqI x.from_[i] f) := by rw [hitP, List.getElem?_eq_getElem hi, List.getElem?_eq_getElem hif]
    have ham : x.ops[i] ∈ x.ops := List.getElem_mem hi
    have hhm : x.from_[i] ∈ x.from_ := List.getElem_mem hif
    rw [hh]
    generalize x.ops[i] = a at ho1 ham
    generalize x.from_[i] = h at hf1 hhm
    generalize hpPl g ko kf x = σ5 at hobj hgr hgf ⊢
    all_goals refine AW.dT { sd := fun _ => false } (.st 0 0 (.st 1 0 (.st 2 0 (.st 4 0 (.fork 3 (.st 5 0 (.fork 6 (.st 7 2 (.st 8 2 (.st 9 0 (.st 10 0 (.st 11 0 (.st 12 0 (.st 14 0 (.st 17 0 (.st 13 2 (.st 15 0 (.st 16 2 (.st 18 2 (.st 19 0 .nil))))))))))))) 7 (.st 6 2 (.st 8 2 (.st 9 0 (.st 10 0 (.st 11 0 (.st 12 0 (.st 14 0 (.st 17 0 (.st 13 2 (.st 15 0 (.st 16 2 (.st 18 2 (.st 19 0 .nil))))))))))))))) 7 (.st 3 2 (.st 5 0 (.st 6 2 (.st 8 2 (.st 9 0 (.st 10 0 (.st 11 0 (.st 12 0 (.st 14 0 (.st 17 0 (.st 13 2 (.st 15 0 (.st 16 2 (.st 18 2 (.st 19 0 .nil)))))))))))))))))))) ?_
    all_goals iterate 4 refine T.one (J12 im1 e0 e2 e4 l4 e7 @ptrV.eq_1 hobj hgr hgf hi (J6 hif ho1 hf1 @encOp.eq_1 @encF.eq_1 @List.length_map.{0,0})) ?_
    all_goals (try refine T.fork ?_ ?_)
    all_goals have q3q := J12 im1 e0 e2 e4 l4 e7 @ptrV.eq_1 hobj hgr hgf hi (J6 hif ho1 hf1 @encOp.eq_1 @encF.eq_1 @List.length_map.{0,0})
    all_goals first | (refine T.g rfl trivial rfl rfl fun Y Z => ?_; simp only [zz, simprocAttr, -Int.reduceNatCast', -Int.reduceToNat, tt, q3q]; refine Z _ _ ?_; clear Z Y) | (refine T.g rfl trivial rfl rfl fun Y Z => ?_; simp only [zz, simprocAttr, -Int.reduceNatCast', -Int.reduceToNat, tt, q3q]; refine Z _ _ ?_; clear Z Y)
    all_goals have q4q := J12 im1 e0 e2 e4 l4 e7 @ptrV.eq_1 hobj hgr hgf hi (J6 hif ho1 hf1 @encOp.eq_1 @encF.eq_1 @List.length_map.{0,0})
    all_goals first | (refine T.g rfl trivial rfl rfl fun Y Z => ?_; simp only [zz, simprocAttr, -Int.reduceNatCast', -Int.reduceToNat, tt, q4q]; refine Z _ _ ?_; clear Z Y) | (refine T.g rfl trivial rfl rfl fun Y Z => ?_; simp only [zz, simprocAttr, -Int.reduceNatCast', -Int.reduceToNat, tt, q4q]; refine Z _ _ ?_; clear Z Y)
    all_goals (try refine T.fork ?_ ?_)
    all_goals have q5q := J12 im1 e0 e2 e4 l4 e7 @ptrV.eq_1 hobj hgr hgf hi (J6 hif ho1 hf1 @encOp.eq_1 @encF.eq_1 @List.length_map.{0,0})
    all_goals first | (refine T.g rfl trivial rfl rfl fun Y Z => ?_; simp only [zz, simprocAttr, -Int.reduceNatCast', -Int.reduceToNat, tt, q5q]; refine Z _ _ ?_; clear Z Y) | (refine T.g rfl trivial rfl rfl fun Y Z => ?_; simp only [zz, simprocAttr, -Int.reduceNatCast', -Int.reduceToNat, tt, q5q]; refine Z _ _ ?_; clear Z Y)
    all_goals refine T.one q5q ?_
    all_goals have q6q := J12 im1 e0 e2 e4 l4 e7 @ptrV.eq_1 hobj hgr hgf hi (J6 hif ho1 hf1 @encOp.eq_1 @encF.eq_1 @List.length_map.{0,0})
    all_goals (refine T.g rfl trivial rfl rfl fun Y Z => ?_; simp only [zz, simprocAttr, -Int.reduceNatCast', -Int.reduceToNat, q6q]; refine PCalls.eqto (rsameOp_spec a o (hok a ham)) ?_; refine S.bool fun b a25 => ?_; cases b <;> (try exact nope a25) <;> (refine Z _ _ ?_; clear Z Y))
    all_goals refine T.one q6q ?_
    all_goals iterate 8 (first | (refine T.y rfl trivial rfl rfl rfl rfl fun Y Z => ?_; simp only [zz, simprocAttr, -Int.reduceNatCast', -Int.reduceToNat, tt, im1, e0, e2, e4, l4, e7, ptrV, hobj, hgr, hgf, hi, hif, ho1, hf1, encOp, encF, List.length_map]; refine Z _ _ ?_; clear Z Y) | ((first | refine T.x rfl (fun h => by cases h) rfl rfl rfl rfl fun Y Z => ?_ | refine T.u rfl (fun h => by cases h) rfl rfl rfl rfl fun Y Z => ?_); simp only [ze, simprocAttr, -Int.reduceNatCast', -Int.reduceToNat]; refine Z _ _ ?_; clear Z Y))
    all_goals have q7q := J12 im1 e0 e2 e4 l4 e7 @ptrV.eq_1 hobj hgr hgf hi (J6 hif ho1 hf1 @encOp.eq_1 @encF.eq_1 @List.length_map.{0,0})
    all_goals (first | (refine T.y rfl trivial rfl rfl rfl rfl fun Y Z => ?_; simp only [zz, simprocAttr, -Int.reduceNatCast', -Int.reduceToNat, q7q]; refine PCalls.eqto (rsameI h f (hfl h hhm)) ?_ <;> (refine Z _ _ ?_; clear Z Y)) | ((first | refine T.x rfl (fun h => by cases h) rfl rfl rfl rfl fun Y Z => ?_ | refine T.u rfl (fun h => by cases h) rfl rfl rfl rfl fun Y Z => ?_); simp only [ze, simprocAttr, -Int.reduceNatCast', -Int.reduceToNat]; refine Z _ _ ?_; clear Z Y))
    all_goals refine T.one q7q ?_
    all_goals refine T.nil ?_
    all_goals simp only [ze, simprocAttr, q7q]
    all_goals simp_all
  clear e0 e2 e4 l4 e7 e14 s
  rintro s σ1 ⟨hs1, e0, e2, e4, l4, e7, e36⟩
  have hs1 := hs1.symm
  subst hs1
  refine AW.cond (b := hitP x o f i) e36 (fun hc => ?_) (fun hc => ?_)
  ·refine AW.sr e7 ?_
   refine AW.ret ?_
   simp only [zs, simprocAttr]
   rw [putPl_hit hi hc hb]
   exact ⟨rfl, hH⟩
  ·refine AW.skip ?_
   simp only [zs, simprocAttr]
   all_goals apply_assumption
   have q8q := J6 e7 hw e0 e2 e4 l4
   refine AW.reg0 (S.rn q8q ?_)
   simp only [ze, simprocAttr, q8q]
   refine ⟨m - 1, by omega, i + 1, by omega, rfl, fun j hj => ?_⟩
   rcases Nat.lt_succ_iff_lt_or_eq.1 hj with hj | rfl
   ·exact hb j hj
   ·exact hc
 ·have hi := of_decide_eq_false hi
  obtain rfl : i = x.ops.length := by omega
  have hnew := putPl_new hb
  refine AW.exit ?_
  simp only [zs, simprocAttr]
  all_goals apply_assumption
  rcases hH with ⟨ho, hf, rfl⟩ | ⟨ko, kf, hkk, rfl⟩
  ·have hobj : (hp0 g).obj g = some [.c (.slice none 0 0), .c (.slice none 0 0)] := by simp [hp0]
   have y3 : (1 ≤ maxLen) = True := eq_true (by unfold maxLen; omega)
   have y4 : (104 ≤ reach) = True := eq_true (by unfold reach; omega)
   have y5 : (24 ≤ reach) = True := eq_true (by unfold reach; omega)
   have z1 := len_op1 o
   have z2 := len_f1 f
   simp only [encOp] at z1 l4
   have im2 : ∀ a : Nat, isMap [V.gl a, .c (.slice none 0 0)] = false := fun _ => rfl
   refine AW.seq_j (fun s' σ' => s'.t 0 = ptrV g ∧ s'.t 2 = .sl (f.map encI) ∧ ∃ k1, σ' = ((Hp.empty.setGr k1 (some ((41, 7), [encOp o]))).setObj g (some [.gl k1, .c (.slice none 0 0)]))) ?_ ?_
   ·skip
    refine AW.dT { sd := fun _ => false } (.st 0 0 (.st 1 0 (.st 2 0 (.st 3 0 (.fork 4 (.st 5 2 (.st 6 2 (.st 7 2 (.st 8 0 (.st 9 0 (.st 10 2 .nil)))))) 5 (.fork 4 (.st 6 2 (.st 7 2 (.st 8 0 (.st 9 0 (.st 10 2 .nil))))) 6 (.st 4 2 (.st 7 2 (.st 8 0 (.st 9 0 (.st 10 2 .nil))))))))))) ?_
    all_goals iterate 4 refine T.one (J10 im0 e0 e2 e4 l4 @ptrV.eq_1 hobj z1 y3 y4) ?_
    all_goals (try refine T.fork ?_ ?_)
    all_goals have q9q := J10 im0 e0 e2 e4 l4 @ptrV.eq_1 hobj z1 y3 y4
    all_goals first | (refine T.g rfl trivial rfl rfl fun Y Z => ?_; simp only [zz, simprocAttr, -Int.reduceNatCast', -Int.reduceToNat, tt, q9q]; refine Z _ _ ?_; clear Z Y) | (refine T.g rfl trivial rfl rfl fun Y Z => ?_; simp only [zz, simprocAttr, -Int.reduceNatCast', -Int.reduceToNat, tt, q9q]; refine Z _ _ ?_; clear Z Y)
    all_goals (try refine T.fork ?_ ?_)
    all_goals have q10q := J10 im0 e0 e2 e4 l4 @ptrV.eq_1 hobj z1 y3 y4
    all_goals first | (refine T.g rfl trivial rfl rfl fun Y Z => ?_; simp only [zz, simprocAttr, -Int.reduceNatCast', -Int.reduceToNat, tt, q10q]; refine Z _ _ ?_; clear Z Y) | (refine T.g rfl trivial rfl rfl fun Y Z => ?_; simp only [zz, simprocAttr, -Int.reduceNatCast', -Int.reduceToNat, tt, q10q]; refine Z _ _ ?_; clear Z Y) | (refine T.g rfl trivial rfl rfl fun Y Z => ?_; simp only [zb, simprocAttr, -Int.reduceNatCast', -Int.reduceToNat, tt, im0, e0, e2, e4, l4, ptrV, hobj, z1, y3, y4]; refine Z _ _ ?_; clear Z Y)
    all_goals first | (refine T.g rfl trivial rfl rfl fun Y Z => ?_; simp only [zb, simprocAttr, -Int.reduceNatCast', -Int.reduceToNat, tt, im0, e0, e2, e4, l4, ptrV, hobj, z1, y3, y4]; refine Z _ _ ?_; clear Z Y) | (refine T.g rfl trivial rfl rfl fun Y Z => ?_; simp only [zz, simprocAttr, -Int.reduceNatCast', -Int.reduceToNat, tt, im0, e0, e2, e4, l4, ptrV, hobj, z1, y3, y4]; refine Z _ _ ?_; clear Z Y)
    all_goals have q11q := J10 im0 e0 e2 e4 l4 @ptrV.eq_1 hobj z1 y3 y4
    all_goals (refine T.g rfl trivial rfl rfl fun Y Z => ?_; simp only [zz, simprocAttr, -Int.reduceNatCast', -Int.reduceToNat, tt, q11q]; intro k1 hk1 <;> (refine Z _ _ ?_; clear Z Y))
    all_goals iterate 3 refine T.one q11q ?_
    all_goals refine T.nil ?_
    all_goals simp only [ze, simprocAttr, q11q]
    all_goals exact ⟨k1, Hp.eqs (fun j => by simp [hp0]; try (split <;> rfl)) (fun j => by simp [hp0, encOp])⟩
   rintro s _ ⟨e0, e2, k1, rfl⟩
   have hobj2 : ((Hp.empty.setGr k1 (some ((41, 7), [encOp o]))).setObj g (some [.gl k1, .c (.slice none 0 0)])).obj g = some [.gl k1, .c (.slice none 0 0)] := by simp
   refine AW.seq_j (fun s' σ' => s'.t 0 = ptrV g ∧ ∃ k2, ¬ k1 = k2 ∧ σ' = hpPl g k1 k2 ⟨[o], [f]⟩) ?_ ?_
   ·skip
    refine AW.reg0 ?_
    iterate 7 (refine S.g rfl rfl fun Y Z => ?_; simp only [zb, simprocAttr, -Int.reduceNatCast', -Int.reduceToNat, tt, im2, e0, e2, ptrV, hobj2, z2, y3, y5]; refine Z _ _ ?_; clear Z Y)
    all_goals have q12q := J8 im2 e0 e2 @ptrV.eq_1 hobj2 z2 y3 y5
    all_goals (refine S.g rfl rfl fun Y Z => ?_; simp only [zz, simprocAttr, -Int.reduceNatCast', -Int.reduceToNat, tt, q12q]; intro k2 hk2 <;> (refine Z _ _ ?_; clear Z Y))
    all_goals iterate 3 refine S.one q12q ?_
    all_goals refine S.nil ?_
    all_goals simp only [ze, simprocAttr, q12q]
    have hkk : ¬ k1 = k2 := fun e => by subst e; simp at hk2
    all_goals exact ⟨k2, hkk, Hp.eqs (fun j => by simp [hpPl]; try (split <;> rfl)) (fun j => by by_cases h1 : j = k2 <;> by_cases h3 : j = k1 <;> simp_all [hpPl, encF])⟩
   rintro s _ ⟨e0, k2, hkk, rfl⟩
   have hobj3 : (hpPl g k1 k2 ⟨[o], [f]⟩).obj g = some [.gl k1, .gl k2] := by simp [hpPl]
   have hgr3 : (hpPl g k1 k2 ⟨[o], [f]⟩).gr k1 = some ((41, 7), [encOp o]) := by simp [hpPl, hkk]
   have hw0 : IntKind.i64.wrap (((1 : Nat) : Int) - 1) = 0 := by decide
   all_goals refine AW.sr (J8 im1 e0 @ptrV.eq_1 hobj3 hgr3 hw0 @List.length_cons.{0} @List.length_nil.{0}) ?_
   refine AW.ret ?_
   all_goals simp only [zs, simprocAttr]
   rw [hnew, ho, hf]
   exact ⟨rfl, .inr ⟨k1, k2, hkk, rfl⟩⟩
  ·have hobj : (hpPl g ko kf x).obj g = some [.gl ko, .gl kf] := by simp [hpPl]
   have hgr : (hpPl g ko kf x).gr ko = some ((41, 7), x.ops.map encOp) := by simp [hpPl, hkk]
   have y1 : (x.ops.length + 1 ≤ maxLen) = True := eq_true (by unfold maxLen; omega)
   have y2 : ((x.ops.length + 1) * 104 ≤ reach) = True := eq_true (by unfold reach; omega)
   have y6 : (x.from_.length + 1 ≤ maxLen) = True := eq_true (by unfold maxLen; omega)
   have y7 : ((x.from_.length + 1) * 24 ≤ reach) = True := eq_true (by unfold reach; omega)
   have y3 : (1 ≤ maxLen) = True := eq_true (by unfold maxLen; omega)
   have y4 : (104 ≤ reach) = True := eq_true (by unfold reach; omega)
   have y5 : (24 ≤ reach) = True := eq_true (by unfold reach; omega)
   have z1 := len_op1 o
   have z2 := len_f1 f
   simp only [encOp] at z1 l4
   refine AW.seq_j (fun s' σ' => s'.t 0 = ptrV g ∧ s'.t 2 = .sl (f.map encI) ∧ ∃ k1, ¬ k1 = kf ∧ σ' = hpPl g k1 kf ⟨x.ops ++ [o], x.from_⟩) ?_ ?_
   ·generalize hsg : hpPl g ko kf x = σ5 at hobj hgr ⊢
    refine AW.dT { sd := fun _ => false } (.st 0 0 (.st 1 0 (.st 2 0 (.st 3 0 (.fork 4 (.st 5 2 (.st 6 2 (.st 7 2 (.st 8 0 (.st 9 0 (.st 10 2 .nil)))))) 5 (.fork 4 (.st 6 2 (.st 7 2 (.st 8 0 (.st 9 0 (.st 10 2 .nil))))) 6 (.st 4 2 (.st 7 2 (.st 8 0 (.st 9 0 (.st 10 2 .nil))))))))))) ?_
    all_goals iterate 4 refine T.one (J12 im1 e0 e2 e4 l4 @ptrV.eq_1 hobj hgr z1 y1 y2 (J3 y3 y4 @List.length_map.{0,0})) ?_
    all_goals (try refine T.fork ?_ ?_)
    all_goals have q13q := J12 im1 e0 e2 e4 l4 @ptrV.eq_1 hobj hgr z1 y1 y2 (J3 y3 y4 @List.length_map.{0,0})
    all_goals first | (refine T.g rfl trivial rfl rfl fun Y Z => ?_; simp only [zz, simprocAttr, -Int.reduceNatCast', -Int.reduceToNat, tt, q13q]; refine Z _ _ ?_; clear Z Y) | (refine T.g rfl trivial rfl rfl fun Y Z => ?_; simp only [zz, simprocAttr, -Int.reduceNatCast', -Int.reduceToNat, tt, q13q]; refine Z _ _ ?_; clear Z Y)
    all_goals (try refine T.fork ?_ ?_)
    all_goals have q14q := J12 im1 e0 e2 e4 l4 @ptrV.eq_1 hobj hgr z1 y1 y2 (J3 y3 y4 @List.length_map.{0,0})
    all_goals first | (refine T.g rfl trivial rfl rfl fun Y Z => ?_; simp only [zz, simprocAttr, -Int.reduceNatCast', -Int.reduceToNat, tt, q14q]; refine Z _ _ ?_; clear Z Y) | (refine T.g rfl trivial rfl rfl fun Y Z => ?_; simp only [zz, simprocAttr, -Int.reduceNatCast', -Int.reduceToNat, tt, q14q]; refine Z _ _ ?_; clear Z Y) | (refine T.g rfl trivial rfl rfl fun Y Z => ?_; simp only [zb, simprocAttr, -Int.reduceNatCast', -Int.reduceToNat, tt, im1, e0, e2, e4, l4, ptrV, hobj, hgr, z1, y1, y2, y3, y4, List.length_map]; refine Z _ _ ?_; clear Z Y)
    all_goals first | (refine T.g rfl trivial rfl rfl fun Y Z => ?_; simp only [zb, simprocAttr, -Int.reduceNatCast', -Int.reduceToNat, tt, im1, e0, e2, e4, l4, ptrV, hobj, hgr, z1, y1, y2, y3, y4, List.length_map]; refine Z _ _ ?_; clear Z Y) | (refine T.g rfl trivial rfl rfl fun Y Z => ?_; simp only [zz, simprocAttr, -Int.reduceNatCast', -Int.reduceToNat, tt, im1, e0, e2, e4, l4, ptrV, hobj, hgr, z1, y1, y2, y3, y4, List.length_map]; refine Z _ _ ?_; clear Z Y)
    all_goals have q15q := J12 im1 e0 e2 e4 l4 @ptrV.eq_1 hobj hgr z1 y1 y2 (J3 y3 y4 @List.length_map.{0,0})
    all_goals (refine T.g rfl trivial rfl rfl fun Y Z => ?_; simp only [zz, simprocAttr, -Int.reduceNatCast', -Int.reduceToNat, tt, q15q]; intro k1 hk1 <;> (refine Z _ _ ?_; clear Z Y))
    all_goals iterate 3 refine T.one q15q ?_
    all_goals refine T.nil ?_
    all_goals simp only [ze, simprocAttr, q15q]
    all_goals
     subst hsg
     have hk1' : ¬ k1 = kf := fun e => by subst e; simp [hpPl, Ne.symm hkk] at hk1
     exact ⟨k1, hk1', Hp.eqs (fun j => by simp [hpPl]; try (split <;> rfl)) (fun j => by by_cases h1 : j = k1 <;> by_cases h2 : j = kf <;> by_cases h3 : j = ko <;> simp_all [hpPl, encOp, List.map_append, Hp.empty])⟩
   rintro s _ ⟨e0, e2, k1, hkk1, rfl⟩
   clear hobj hgr
   have hobj2 : (hpPl g k1 kf ⟨x.ops ++ [o], x.from_⟩).obj g = some [.gl k1, .gl kf] := by simp [hpPl]
   have hgf2 : (hpPl g k1 kf ⟨x.ops ++ [o], x.from_⟩).gr kf = some ((48, 1), x.from_.map encF) := by simp [hpPl]
   refine AW.seq_j (fun s' σ' => s'.t 0 = ptrV g ∧ ∃ k2, ¬ k1 = k2 ∧ σ' = hpPl g k1 k2 ⟨x.ops ++ [o], x.from_ ++ [f]⟩) ?_ ?_
   ·generalize hsg : hpPl g k1 kf ⟨x.ops ++ [o], x.from_⟩ = σ5 at hobj2 hgf2 ⊢
    refine AW.reg0 ?_
    iterate 7 (refine S.g rfl rfl fun Y Z => ?_; simp only [zb, simprocAttr, -Int.reduceNatCast', -Int.reduceToNat, tt, im1, e0, e2, ptrV, hobj2, hgf2, z2, y3, y5, y6, y7, List.length_map]; refine Z _ _ ?_; clear Z Y)
    all_goals have q16q := J12 im1 e0 e2 @ptrV.eq_1 hobj2 hgf2 z2 y3 y5 y6 y7 @List.length_map.{0,0}
    all_goals (refine S.g rfl rfl fun Y Z => ?_; simp only [zz, simprocAttr, -Int.reduceNatCast', -Int.reduceToNat, tt, q16q]; intro k2 hk2 <;> (refine Z _ _ ?_; clear Z Y))
    all_goals iterate 3 refine S.one q16q ?_
    all_goals refine S.nil ?_
    all_goals simp only [ze, simprocAttr, q16q]
    subst hsg
    have hkk : ¬ k1 = k2 := fun e => by subst e; simp [hpPl, hkk1] at hk2
    exact ⟨k2, hkk, Hp.eqs (fun j => by simp [hpPl]; try (split <;> rfl)) (fun j => by by_cases h1 : j = k1 <;> by_cases h2 : j = kf <;> by_cases h3 : j = k2 <;> simp_all [hpPl, encF, List.map_append, Hp.empty])⟩
   rintro s _ ⟨e0, k2, hkk, rfl⟩
   have hobj3 : (hpPl g k1 k2 ⟨x.ops ++ [o], x.from_ ++ [f]⟩).obj g = some [.gl k1, .gl k2] := by simp [hpPl]
   have hgr3 : (hpPl g k1 k2 ⟨x.ops ++ [o], x.from_ ++ [f]⟩).gr k1 = some ((41, 7), (x.ops ++ [o]).map encOp) := by simp [hpPl, hkk]
   have hlen3 : ((x.ops ++ [o]).map encOp).length = x.ops.length + 1 := by simp
   have hw0 : IntKind.i64.wrap (((x.ops.length + 1 : Nat) : Int) - 1) = ((x.ops.length : Nat) : Int) := by rw [wrap_small _ (by omega) (by omega)]; omega
   all_goals refine AW.sr (J7 im1 e0 @ptrV.eq_1 hobj3 hgr3 hlen3 hw0) ?_
   refine AW.ret ?_
   all_goals simp only [zs, simprocAttr]
   rw [hnew]
   exact ⟨rfl, .inr ⟨k1, k2, hkk, rfl⟩⟩
theorem int_nth {l : List Int} {i : Nat} (h : i < l.length) : ∃ x, l[i]? = some x ∧ (l.map encI).getD i [] = encI x ∧ x ∈ l := ⟨l[i], List.getElem?_eq_getElem h, getD_map h, List.getElem_mem h⟩
def mkB (tq : Nat × Nat × Nat) (g gm : Nat) (uo uf : V) (ks : List ByteArray) : Hp := ((Hp.empty.setObj 0 (some (tabV tq))).setObj gm (some [.tup (entK ks)])).setObj g (some [uo, uf, .c (.map (some gm))])
def mkP (tq : Nat × Nat × Nat) (g gm ko kf : Nat) (x : Pln) (ks : List ByteArray) : Hp := ((mkB tq g gm (.gl ko) (.gl kf) ks).setGr ko (some ((41, 7), x.ops.map encOp))).setGr kf (some ((48, 1), x.from_.map encF))
def keysOf (x : Pln) : List ByteArray := List.zipWith keyB x.ops x.from_
def MkH (tq : Nat × Nat × Nat) (g gm : Nat) (x : Pln) (σ : Hp) : Prop := (x.ops = [] ∧ x.from_ = [] ∧ σ = mkB tq g gm (.c (.slice none 0 0)) (.c (.slice none 0 0)) (keysOf x)) ∨ ∃ ko kf, ¬ ko = kf ∧ σ = mkP tq g gm ko kf x (keysOf x)
def putM (x : Pln) (o : OpS) (f : List Int) : Pln × Nat := match (List.range x.ops.length).find? (fun i => decide ((keysOf x)[i]? = some (keyB o f))) with
  | some i => (x, i)
  | none => (⟨x.ops ++ [o], x.from_ ++ [f]⟩, x.ops.length)
theorem keysOf_len {x : Pln} (hx : x.from_.length = x.ops.length) : (keysOf x).length = x.ops.length := by simp [keysOf, hx]
theorem keysOf_app {x : Pln} (hx : x.from_.length = x.ops.length) (o : OpS) (f : List Int) : keysOf ⟨x.ops ++ [o], x.from_ ++ [f]⟩ = keysOf x ++ [keyB o f] := by
 simp only [keysOf]
 rw [List.zipWith_append hx.symm]; rfl
theorem putM_hit {x : Pln} {o : OpS} {f : List Int} {j : Nat} (hx : x.from_.length = x.ops.length) (h1 : (keysOf x)[j]? = some (keyB o f)) (h2 : ∀ q < j, (keysOf x)[q]? ≠ some (keyB o f)) : putM x o f = (x, j) := by
 have hj : j < x.ops.length := by rw [← keysOf_len hx]; exact (List.getElem?_eq_some_iff.1 h1).1
 rw [putM, range_find hj (decide_eq_true h1) (fun q hq => decide_eq_false (h2 q hq))]
theorem putM_new {x : Pln} {o : OpS} {f : List Int} (h : keyB o f ∉ keysOf x) : putM x o f = (⟨x.ops ++ [o], x.from_ ++ [f]⟩, x.ops.length) := by
 have : (List.range x.ops.length).find? (fun i => decide ((keysOf x)[i]? = some (keyB o f))) = none := by
  rw [List.find?_eq_none]
  intro j hj
  simp only [decide_eq_true_eq]
  exact fun e => h (List.mem_of_getElem? e)
 rw [putM, this]
theorem put_spec {tq : Nat × Nat × Nat} {σ : Hp} {g gm : Nat} {x : Pln} (n1 : ¬ 0 = g) (n2 : ¬ 0 = gm) (hgn : ¬ g = gm) (hH : MkH tq g gm x σ) (hx : x.from_.length = x.ops.length) (hl : x.ops.length < 1048576) (o : OpS) (f : List Int) (ho : keyP o) (hf : ∀ n ∈ f, inI64 n) (hfl : f.length < 1048576) :
  ACalls Tryz.prog 38 [ptrV g, .agg (encOp o), .sl (f.map encI)] σ (fun v σ' => v = .c (.int .i64 ((putM x o f).2 : Nat)) ∧ MkH tq g gm (putM x o f).1 σ') := by
 have hg : σ.obj 0 = some (tabV tq) := by
  rcases hH with ⟨_, _, rfl⟩ | ⟨ko, kf, _, rfl⟩ <;> simp [mkP, mkB, n1, n2]
 obtain ⟨uo, uf, hobj⟩ : ∃ uo uf, σ.obj g = some [uo, uf, .c (.map (some gm))] := by
  rcases hH with ⟨_, _, rfl⟩ | ⟨ko, kf, _, rfl⟩ <;> exact ⟨_, _, by simp [mkP, mkB]; exact ⟨rfl, rfl⟩⟩
 have hmap : σ.obj gm = some [.tup (entK (keysOf x))] := by
  rcases hH with ⟨_, _, rfl⟩ | ⟨ko, kf, _, rfl⟩ <;> simp [mkP, mkB, Ne.symm hgn]
 have hkl := keysOf_len hx
 generalize hks : keysOf x = ks at hmap hkl
 refine ACalls.intro Tryz.call38 Tryz.func38 rfl Tryz.ntmps38 Tryz.results38 (by simp) ?_
 have h32 : sp.size = 1 := rfl
 refine AW.sr (J2 @ptrV.eq_1 @encOp.eq_1) ?_
 refine AW.seq_j (fun s' σ' => σ' = σ ∧ s'.t 0 = ptrV g ∧ s'.t 2 = .sl (f.map encI) ∧ s'.t 4 = .lp 4 0 ∧ s'.l 4 = some (encOp o) ∧ s'.t 7 = .c (.string (keyOp o))) ?_ ?_
 ·have a1 := itoaB_size o.kind ho.kind.1 ho.kind.2
  have a2 := wordB_size o.var (by have := ho.var; omega)
  have a3 := wordB_size o.type (by have := ho.type; omega)
  have a4 := condsB_size o.tests ho.tl ho.tests
  have a5 := condsB_size o.conds ho.cl ho.conds
  have := ho.var
  have := ho.type
  have := ho.tl
  have := ho.cl
  have h47 : (⟨#[47]⟩ : ByteArray).size = 1 := rfl
  have q1 := le_true (a := itoaB o.kind) (n := sp.size) (by omega)
  have q2 := le_true (a := itoaB o.kind ++ sp) (n := (wordB o.var).size) (by simp only [ByteArray.size_append]; omega)
  have q3 := le_true (a := itoaB o.kind ++ sp ++ wordB o.var) (n := (wordB o.type).size) (by simp only [ByteArray.size_append]; omega)
  have q4 := le_true (a := itoaB o.kind ++ sp ++ wordB o.var ++ wordB o.type) (n := (condsB o.tests).size) (by simp only [ByteArray.size_append]; omega)
  have q5 := le_true (a := itoaB o.kind ++ sp ++ wordB o.var ++ wordB o.type ++ condsB o.tests) (n := (⟨#[47]⟩ : ByteArray).size) (by simp only [ByteArray.size_append]; omega)
  have q6 := le_true (a := itoaB o.kind ++ sp ++ wordB o.var ++ wordB o.type ++ condsB o.tests ++ ⟨#[47]⟩) (n := (condsB o.conds).size) (by simp only [ByteArray.size_append]; omega)
  unfold itoaB sp at q1 q2 q3 q4 q5 q6
  clear a1 a2 a3 a4 a5 h47
  refine AW.dT { sd := fun d => d == 4 } (.st 0 0 (.st 4 0 (.st 8 0 (.st 12 0 (.st 17 0 (.st 1 1 (.st 5 1 (.st 9 1 (.st 13 1 (.st 18 1 (.st 2 2 (.st 3 0 (.st 6 2 (.st 7 0 (.st 10 2 (.st 11 0 (.st 14 2 (.st 15 0 (.st 16 0 (.st 19 2 (.st 20 0 (.st 21 0 .nil)))))))))))))))))))))) ?_
  have q1q := J11 @Bool.or_self @kill.eq_1 @kill.eq_2 @ptrV.eq_1 @encOp.eq_1 q1 q2 q3 q4 q5 q6
  iterate 10 refine T.onf q1q ?_
  have q2q := J11 @Bool.or_self @kill.eq_1 @kill.eq_2 @ptrV.eq_1 @encOp.eq_1 q1 q2 q3 q4 q5 q6
  (refine T.g rfl trivial rfl rfl fun Y Z => ?_; simp only [zz, simprocAttr, -Int.reduceNatCast', -Int.reduceToNat, q2q]; (refine ACalls.to (itoa_all hg _ ho.kind.1 ho.kind.2) ?_; rintro v1 σ1 ⟨hs1, rfl⟩; have hs1 := hs1.symm; subst hs1) <;> (refine Z _ _ ?_; clear Z Y))
  all_goals refine T.onf q2q ?_
  all_goals have q3q := J11 @Bool.or_self @kill.eq_1 @kill.eq_2 @ptrV.eq_1 @encOp.eq_1 q1 q2 q3 q4 q5 q6
  all_goals (refine T.g rfl trivial rfl rfl fun Y Z => ?_; simp only [zz, simprocAttr, -Int.reduceNatCast', -Int.reduceToNat, q3q]; (refine ACalls.to (word_spec hg _ (by have := ho.var; omega)) ?_; rintro v1 σ1 ⟨hs1, rfl⟩; have hs1 := hs1.symm; subst hs1) <;> (refine Z _ _ ?_; clear Z Y))
  all_goals refine T.onf q3q ?_
  all_goals have q4q := J11 @Bool.or_self @kill.eq_1 @kill.eq_2 @ptrV.eq_1 @encOp.eq_1 q1 q2 q3 q4 q5 q6
  all_goals (refine T.g rfl trivial rfl rfl fun Y Z => ?_; simp only [zz, simprocAttr, -Int.reduceNatCast', -Int.reduceToNat, q4q]; (refine ACalls.to (word_spec hg _ (by have := ho.type; omega)) ?_; rintro v1 σ1 ⟨hs1, rfl⟩; have hs1 := hs1.symm; subst hs1) <;> (refine Z _ _ ?_; clear Z Y))
  all_goals refine T.onf q4q ?_
  all_goals have q5q := J11 @Bool.or_self @kill.eq_1 @kill.eq_2 @ptrV.eq_1 @encOp.eq_1 q1 q2 q3 q4 q5 q6
  all_goals (refine T.g rfl trivial rfl rfl fun Y Z => ?_; simp only [zz, simprocAttr, -Int.reduceNatCast', -Int.reduceToNat, q5q]; (refine ACalls.to (condsT_spec hg _ ho.tl ho.tests) ?_; rintro v1 σ1 ⟨hs1, rfl⟩; have hs1 := hs1.symm; subst hs1) <;> (refine Z _ _ ?_; clear Z Y))
  all_goals iterate 2 refine T.onf q5q ?_
  all_goals have q6q := J11 @Bool.or_self @kill.eq_1 @kill.eq_2 @ptrV.eq_1 @encOp.eq_1 q1 q2 q3 q4 q5 q6
  all_goals (refine T.g rfl trivial rfl rfl fun Y Z => ?_; simp only [zz, simprocAttr, -Int.reduceNatCast', -Int.reduceToNat, q6q]; (refine ACalls.to (condsT_spec hg _ ho.cl ho.conds) ?_; rintro v1 σ1 ⟨hs1, rfl⟩; have hs1 := hs1.symm; subst hs1) <;> (refine Z _ _ ?_; clear Z Y))
  all_goals iterate 2 refine T.onf q6q ?_
  all_goals refine T.nil ?_
  all_goals simp only [ze, simprocAttr, q6q]
  all_goals ((try and_intros) <;> first | rfl | assumption | (rfl))
 rintro s σ1 ⟨hs1, e0, e2, e4, l4, e7⟩
 have hs1 := hs1.symm
 subst hs1
 have hksz := keyOp_size ho
 refine AW.seq_j (fun s' σ' => σ' = σ ∧ s'.t 0 = ptrV g ∧ s'.t 2 = .sl (f.map encI) ∧ s'.t 4 = .lp 4 0 ∧ s'.l 4 = some (encOp o) ∧ s'.t 7 = .c (.string (keyB o f))) ?_ ?_
 ·refine AW.sr (J6 e0 e2 e4 l4 e7 @List.length_map.{0,0}) ?_
  refine AW.block ?_   -- 0
  refine AW.loop (fun m s σ' => σ' = σ ∧ ∃ (i : Nat) (cur : ByteArray), m + i = f.length ∧ s.t 0 = ptrV g ∧ s.t 2 = .sl (f.map encI) ∧ s.t 4 = .lp 4 0 ∧ s.l 4 = some (encOp o) ∧ s.t 7 = .c (.string cur) ∧ s.t 33 = .sl (f.map encI) ∧ s.t 34 = .c (.int .i64 (f.length : Nat)) ∧ s.t 35 = .c (.int .i64 (i : Nat)) ∧ keyB o f = (f.drop i).foldl (fun k n => k ++ (sp ++ itoaB n)) cur ∧ cur.size ≤ 17592253186048 + i * 22) f.length ?_ ?_
  ·refine ⟨rfl, 0, keyOp o, by simp, ?_⟩
   simp only [zs, simprocAttr, -Int.reduceNatCast', -Int.reduceToNat, e0, e2, e4, l4, e7]
   exact ⟨rfl, rfl, by omega⟩
  clear e0 e2 e4 l4 e7 s
  rintro m s σ1 ⟨hs1, i, cur, hm, e0, e2, e4, l4, e7, e33, e34, e35, hp, hsz⟩
  have hs1 := hs1.symm
  subst hs1
  all_goals refine AW.sr (J2 e34 e35) ?_
  refine AW.seq_k fun K4 h4 => ?_
  refine AW.cond (b := decide (i < f.length)) (by simp [ev]) (fun hi => ?_) (fun hi => ?_)
  ·have hi := of_decide_eq_true hi
   obtain ⟨z, hz, hgx, hxm⟩ := int_nth hi
   have hx64 := hf z hxm
   have hw := wadd1 (a := i) (by omega)
   have hd : f.drop i = z :: f.drop (i + 1) := by rw [List.drop_eq_getElem_cons hi]; rw [List.getElem?_eq_getElem hi] at hz; cases hz; rfl
   rw [hd, List.foldl_cons] at hp
   have b1 := itoaB_size z hx64.1 hx64.2
   have q1 := le_true (a := sp) (n := (itoaB z).size) (by omega)
   have q2 := le_true (a := cur) (n := (sp ++ itoaB z).size) (by simp only [ByteArray.size_append]; omega)
   have hsz2 : (cur ++ (sp ++ itoaB z)).size ≤ 17592253186048 + (i + 1) * 22 := by simp only [ByteArray.size_append]; omega
   unfold itoaB sp at q1 q2
   refine AW.skip ?_
   all_goals simp only [zs, simprocAttr]
   all_goals apply_assumption
   refine AW.seq_j (fun s' σ' => σ' = σ ∧ s'.t 0 = ptrV g ∧ s'.t 2 = .sl (f.map encI) ∧ s'.t 4 = .lp 4 0 ∧ s'.l 4 = some (encOp o) ∧ s'.t 7 = .c (.string (cur ++ (sp ++ itoaB z))) ∧ s'.t 33 = .sl (f.map encI) ∧ s'.t 34 = .c (.int .i64 (f.length : Nat)) ∧ s'.t 35 = .c (.int .i64 (i : Nat))) ?_ ?_
   ·refine AW.block ?_   -- 1
    refine AW.sr (J7 e33 e34 e35 hi hgx @encI.eq_1 @List.length_map.{0,0}) ?_
    refine AW.reg0 ?_
    iterate 2 refine S.one (J10 e0 e2 e4 l4 e7 e33 e34 e35 q1 q2) ?_
    have q7q := J10 e0 e2 e4 l4 e7 e33 e34 e35 q1 q2
    (refine S.g rfl rfl fun Y Z => ?_; simp only [zz, simprocAttr, -Int.reduceNatCast', -Int.reduceToNat, q7q]; (refine ACalls.to (itoa_all hg _ hx64.1 hx64.2) ?_; rintro v1 σ1 ⟨hs1, rfl⟩; have hs1 := hs1.symm; subst hs1) <;> (refine Z _ _ ?_; clear Z Y))
    all_goals iterate 3 refine S.one q7q ?_
    all_goals refine S.nil ?_
    all_goals simp only [ze, simprocAttr, q7q]
    all_goals ((try and_intros) <;> first | rfl | assumption | (rfl))
   clear e0 e2 e4 l4 e7 e33 e34 e35 s
   rintro s σ1 ⟨hs1, e0, e2, e4, l4, e7, e33, e34, e35⟩
   have hs1 := hs1.symm
   subst hs1
   all_goals have q8q := J9 e0 e2 e4 l4 e7 e33 e34 e35 hw
   all_goals refine AW.reg0 (S.rn q8q ?_)
   all_goals simp only [ze, simprocAttr, q8q]
   refine ⟨m - 1, by omega, i + 1, cur ++ (sp ++ itoaB z), by omega, ?_⟩
   all_goals ((try and_intros) <;> first | rfl | assumption | (first | exact hp | exact hsz2))
  ·have hi := of_decide_eq_false hi
   refine AW.exit ?_
   simp only [zs, simprocAttr]
   rw [List.drop_of_length_le (by omega)] at hp
   rw [hp]
   exact ⟨e0, e2, e4, l4, e7⟩
 clear e0 e2 e4 l4 e7 s
 rintro s σ1 ⟨hs1, e0, e2, e4, l4, e7⟩
 have hs1 := hs1.symm
 subst hs1
 have im3 : isMap [uo, uf, V.c (.map (some gm))] = false := by cases uo <;> rfl
 refine AW.seq_j (fun s' σ' => σ' = σ ∧ s'.t 0 = ptrV g ∧ s'.t 2 = .sl (f.map encI) ∧ s'.t 4 = .lp 4 0 ∧ s'.l 4 = some (encOp o) ∧ s'.t 7 = .c (.string (keyB o f)) ∧ ((keyB o f ∉ ks ∧ s'.t 11 = .c (.bool false)) ∨ ∃ j : Nat, ks[j]? = some (keyB o f) ∧ (∀ q < j, ks[q]? ≠ some (keyB o f)) ∧ s'.t 10 = .c (.int .i64 (j : Nat)) ∧ s'.t 11 = .c (.bool true))) ?_ ?_
 ·rcases entKf_at (keyB o f) ks 0 0 with ⟨hn, hv⟩ | ⟨j, hj1, hj2, hv⟩
  ·replace hv : entV (entK ks) (.string (keyB o f)) 0 = none := hv
   refine AW.reg0 ?_
   iterate 5 refine S.one (J10 e0 e2 e4 l4 e7 @ptrV.eq_1 im3 hobj hmap hv) ?_
   have q9q := J10 e0 e2 e4 l4 e7 @ptrV.eq_1 im3 hobj hmap hv
   (refine S.g rfl rfl fun Y Z => ?_; simp only [zn, simprocAttr, -Int.reduceNatCast', -Int.reduceToNat, q9q]; refine ⟨_, _, _, Tryz.underlying74, KeyT.str Tryz.underlying9, rfl, entK_ok _, ?_⟩; (try simp only [tt, ofC, Option.some.injEq, exists_eq_left', zz, simprocAttr, -Int.reduceNatCast', -Int.reduceToNat, e0, e2, e4, l4, e7, ptrV, im3, hobj, hmap, hv]) <;> (refine Z _ _ ?_; clear Z Y))
   all_goals iterate 5 refine S.one q9q ?_
   all_goals refine S.nil ?_
   all_goals simp only [ze, simprocAttr, q9q]
   all_goals ((try and_intros) <;> first | rfl | assumption | (first | exact .inl hn | exact .inl ⟨hn, rfl⟩))
  ·replace hv : entV (entK ks) (.string (keyB o f)) 0 = some (j, .c (.int .i64 (j : Nat))) := by simpa [entK] using hv
   refine AW.reg0 ?_
   iterate 5 refine S.one (J10 e0 e2 e4 l4 e7 @ptrV.eq_1 im3 hobj hmap hv) ?_
   have q10q := J10 e0 e2 e4 l4 e7 @ptrV.eq_1 im3 hobj hmap hv
   (refine S.g rfl rfl fun Y Z => ?_; simp only [zn, simprocAttr, -Int.reduceNatCast', -Int.reduceToNat, q10q]; refine ⟨_, _, _, Tryz.underlying74, KeyT.str Tryz.underlying9, rfl, entK_ok _, ?_⟩; (try simp only [tt, ofC, Option.some.injEq, exists_eq_left', zz, simprocAttr, -Int.reduceNatCast', -Int.reduceToNat, e0, e2, e4, l4, e7, ptrV, im3, hobj, hmap, hv]) <;> (refine Z _ _ ?_; clear Z Y))
   all_goals iterate 5 refine S.one q10q ?_
   all_goals refine S.nil ?_
   all_goals simp only [ze, simprocAttr, q10q]
   all_goals ((try and_intros) <;> first | rfl | assumption | (first | exact .inr ⟨j, hj1, hj2, rfl⟩ | exact .inr ⟨j, hj1, hj2⟩ | exact ⟨j, hj1, hj2, rfl⟩))
 clear e0 e2 e4 l4 e7 s hksz
 rintro s σ1 ⟨hs1, e0, e2, e4, l4, e7, hcase⟩
 have hs1 := hs1.symm
 subst hs1
 rcases hcase with ⟨hn, e11⟩ | ⟨j, hj1, hj2, e10, e11⟩
 rotate_left
 ·have hput := putM_hit (o := o) (f := f) hx (hks ▸ hj1) (hks ▸ hj2)
  refine AW.seq_k fun K6 h6 => ?_
  refine AW.sr e11 ?_
  refine AW.cond (b := false) rfl (fun hc => by cases hc) (fun hc => ?_)
  refine AW.skip ?_
  all_goals simp only [zs, simprocAttr]
  all_goals apply_assumption
  all_goals refine AW.sr e10 ?_
  refine AW.ret ?_
  all_goals simp only [zs, simprocAttr]
  rw [hput]
  exact ⟨rfl, hH⟩
 have hput := putM_new (x := x) (o := o) (f := f) (hks ▸ hn)
 refine AW.seq_j (fun s' σ' => s'.t 10 = .c (.int .i64 (x.ops.length : Nat)) ∧ MkH tq g gm ⟨x.ops ++ [o], x.from_ ++ [f]⟩ σ') ?_ ?_
 rotate_left
 ·rintro s2 σ2 ⟨e10, hH2⟩
  refine AW.sr e10 ?_
  refine AW.ret ?_
  simp only [zs, simprocAttr]
  rw [hput]
  exact ⟨rfl, hH2⟩
 all_goals refine AW.sr e11 ?_
 refine AW.cond (b := true) rfl (fun hc => ?_) (fun hc => by cases hc)
 have hv : entV (entK ks) (.string (keyB o f)) 0 = none := by
  rcases entKf_at (keyB o f) ks 0 0 with ⟨_, hv⟩ | ⟨j, hj1, _⟩
  ·exact hv
  ·exact absurd (List.mem_of_getElem? hj1) hn
 have hup : entK ks ++ [.tup [.c (.string (keyB o f)), .c (.int .i64 (x.ops.length : Nat))]] = entK (ks ++ [keyB o f]) := by
  have := entKf_app (keyB o f) ks 0
  rw [Nat.zero_add, hkl] at this
  exact this
 have hkapp : keysOf ⟨x.ops ++ [o], x.from_ ++ [f]⟩ = ks ++ [keyB o f] := by rw [keysOf_app hx, hks]
 clear hobj hmap im3 uo uf
 rcases hH with ⟨ho0, hf0, rfl⟩ | ⟨ko, kf, hkk, rfl⟩
 ·rw [hks]
  have hl0 : x.ops.length = 0 := by rw [ho0]; rfl
  have im0 : isMap [V.c (.slice none 0 0), .c (.slice none 0 0), .c (.map (some gm))] = false := rfl
  have im1 : ∀ a : Nat, isMap [V.gl a, .c (.slice none 0 0), .c (.map (some gm))] = false := fun _ => rfl
  have hobj : (mkB tq g gm (.c (.slice none 0 0)) (.c (.slice none 0 0)) ks).obj g = some [.c (.slice none 0 0), .c (.slice none 0 0), .c (.map (some gm))] := by simp [mkB]
  have hmap : (mkB tq g gm (.c (.slice none 0 0)) (.c (.slice none 0 0)) ks).obj gm = some [.tup (entK ks)] := by simp [mkB, Ne.symm hgn]
  refine AW.seq_j (fun s' σ' => σ' = mkB tq g gm (.c (.slice none 0 0)) (.c (.slice none 0 0)) ks ∧ s'.t 0 = ptrV g ∧ s'.t 2 = .sl (f.map encI) ∧ s'.t 4 = .lp 4 0 ∧ s'.l 4 = some (encOp o) ∧ s'.t 7 = .c (.string (keyB o f)) ∧ s'.t 10 = .c (.int .i64 (x.ops.length : Nat))) ?_ ?_
  ·skip
   have q11q := J8 e0 e2 e4 l4 e7 @ptrV.eq_1 im0 hobj
   refine AW.reg0 (S.rn q11q ?_)
   simp only [ze, simprocAttr, q11q]
   all_goals ((try and_intros) <;> first | rfl | assumption | ((first | rfl | (rw [hl0]; rfl) | rw [hl0])))
  clear e0 e2 e4 l4 e7 e11 s
  rintro s σ1 ⟨hs1, e0, e2, e4, l4, e7, e10⟩
  subst hs1
  refine AW.seq_j (fun s' σ' => σ' = mkB tq g gm (.c (.slice none 0 0)) (.c (.slice none 0 0)) (ks ++ [keyB o f]) ∧ s'.t 0 = ptrV g ∧ s'.t 2 = .sl (f.map encI) ∧ s'.t 4 = .lp 4 0 ∧ s'.l 4 = some (encOp o) ∧ s'.t 10 = .c (.int .i64 (x.ops.length : Nat))) ?_ ?_
  ·skip
   refine AW.reg0 ?_
   iterate 6 refine S.one (J12 e0 e2 e4 l4 e7 e10 @ptrV.eq_1 im0 hobj hmap hv hup) ?_
   have q12q := J12 e0 e2 e4 l4 e7 e10 @ptrV.eq_1 im0 hobj hmap hv hup
   (refine S.g rfl rfl fun Y Z => ?_; simp only [zn, simprocAttr, -Int.reduceNatCast', -Int.reduceToNat, q12q]; refine ⟨_, _, _, Tryz.underlying74, KeyT.str Tryz.underlying9, rfl, entK_ok _, ?_⟩; (try simp only [tt, ofC, Option.some.injEq, exists_eq_left', zz, simprocAttr, -Int.reduceNatCast', -Int.reduceToNat, e0, e2, e4, l4, e7, e10, ptrV, im0, hobj, hmap, hv, hup]) <;> (refine Z _ _ ?_; clear Z Y))
   all_goals refine S.nil ?_
   all_goals simp only [ze, simprocAttr, q12q]
   all_goals ((try and_intros) <;> first | rfl | assumption | (exact Hp.eqs (fun j => by by_cases h1 : j = g <;> by_cases h2 : j = gm <;> by_cases h3 : j = 0 <;> simp_all [mkB]) (fun j => by simp [mkB])))
  clear e0 e2 e4 l4 e7 e10 s hobj hmap
  rintro s σ1 ⟨hs1, e0, e2, e4, l4, e10⟩
  subst hs1
  have hobj : (mkB tq g gm (.c (.slice none 0 0)) (.c (.slice none 0 0)) (ks ++ [keyB o f])).obj g = some [.c (.slice none 0 0), .c (.slice none 0 0), .c (.map (some gm))] := by simp [mkB]
  have y3 : (1 ≤ maxLen) = True := eq_true (by unfold maxLen; omega)
  have y4 : (104 ≤ reach) = True := eq_true (by unfold reach; omega)
  have y5 : (24 ≤ reach) = True := eq_true (by unfold reach; omega)
  have z1 := len_op1 o
  have z2 := len_f1 f
  simp only [encOp] at z1 l4
  refine AW.seq_j (fun s' σ' => s'.t 0 = ptrV g ∧ s'.t 2 = .sl (f.map encI) ∧ s'.t 10 = .c (.int .i64 (x.ops.length : Nat)) ∧ ∃ k1, σ' = (mkB tq g gm (.gl k1) (.c (.slice none 0 0)) (ks ++ [keyB o f])).setGr k1 (some ((41, 7), [encOp o]))) ?_ ?_
  ·generalize hsg : mkB tq g gm (.c (.slice none 0 0)) (.c (.slice none 0 0)) (ks ++ [keyB o f]) = σ5 at hobj ⊢
   refine AW.dT { sd := fun _ => false } (.st 0 0 (.st 1 0 (.st 2 0 (.st 3 0 (.st 4 0 (.fork 5 (.st 6 2 (.st 7 2 (.st 8 2 (.st 9 0 (.st 10 0 (.st 11 0 (.st 12 2 .nil))))))) 6 (.fork 5 (.st 7 2 (.st 8 2 (.st 9 0 (.st 10 0 (.st 11 0 (.st 12 2 .nil)))))) 7 (.st 5 2 (.st 8 2 (.st 9 0 (.st 10 0 (.st 11 0 (.st 12 2 .nil))))))))))))) ?_
   all_goals iterate 5 refine T.one (J11 im0 e0 e2 e4 l4 e10 @ptrV.eq_1 hobj z1 y3 y4) ?_
   all_goals (try refine T.fork ?_ ?_)
   all_goals have q13q := J11 im0 e0 e2 e4 l4 e10 @ptrV.eq_1 hobj z1 y3 y4
   all_goals first | (refine T.g rfl trivial rfl rfl fun Y Z => ?_; simp only [zz, simprocAttr, -Int.reduceNatCast', -Int.reduceToNat, tt, q13q]; refine Z _ _ ?_; clear Z Y) | (refine T.g rfl trivial rfl rfl fun Y Z => ?_; simp only [zz, simprocAttr, -Int.reduceNatCast', -Int.reduceToNat, tt, q13q]; refine Z _ _ ?_; clear Z Y)
   all_goals (try refine T.fork ?_ ?_)
   all_goals have q14q := J11 im0 e0 e2 e4 l4 e10 @ptrV.eq_1 hobj z1 y3 y4
   all_goals first | (refine T.g rfl trivial rfl rfl fun Y Z => ?_; simp only [zz, simprocAttr, -Int.reduceNatCast', -Int.reduceToNat, tt, q14q]; refine Z _ _ ?_; clear Z Y) | (refine T.g rfl trivial rfl rfl fun Y Z => ?_; simp only [zz, simprocAttr, -Int.reduceNatCast', -Int.reduceToNat, tt, q14q]; refine Z _ _ ?_; clear Z Y) | (refine T.g rfl trivial rfl rfl fun Y Z => ?_; simp only [zb, simprocAttr, -Int.reduceNatCast', -Int.reduceToNat, tt, im0, e0, e2, e4, l4, e10, ptrV, hobj, z1, y3, y4]; refine Z _ _ ?_; clear Z Y)
   all_goals first | (refine T.g rfl trivial rfl rfl fun Y Z => ?_; simp only [zb, simprocAttr, -Int.reduceNatCast', -Int.reduceToNat, tt, im0, e0, e2, e4, l4, e10, ptrV, hobj, z1, y3, y4]; refine Z _ _ ?_; clear Z Y) | (refine T.g rfl trivial rfl rfl fun Y Z => ?_; simp only [zz, simprocAttr, -Int.reduceNatCast', -Int.reduceToNat, tt, im0, e0, e2, e4, l4, e10, ptrV, hobj, z1, y3, y4]; refine Z _ _ ?_; clear Z Y)
   all_goals have q15q := J11 im0 e0 e2 e4 l4 e10 @ptrV.eq_1 hobj z1 y3 y4
   all_goals (refine T.g rfl trivial rfl rfl fun Y Z => ?_; simp only [zz, simprocAttr, -Int.reduceNatCast', -Int.reduceToNat, tt, q15q]; intro k1 hk1 <;> (refine Z _ _ ?_; clear Z Y))
   all_goals iterate 4 refine T.one q15q ?_
   all_goals refine T.nil ?_
   all_goals simp only [ze, simprocAttr, q15q]
   all_goals
    subst hsg
    exact ⟨k1, Hp.eqs (fun j => by by_cases h1 : j = g <;> by_cases h2 : j = gm <;> by_cases h3 : j = 0 <;> simp_all [mkB, Hp.empty]) (fun j => by by_cases h1 : j = k1 <;> simp_all [mkB, encOp, Hp.empty])⟩
  clear e0 e2 e4 l4 e10 s hobj
  rintro s σ1 ⟨e0, e2, e10, k1, hs1⟩
  subst hs1
  have hobj2 : ((mkB tq g gm (.gl k1) (.c (.slice none 0 0)) (ks ++ [keyB o f])).setGr k1 (some ((41, 7), [encOp o]))).obj g = some [.gl k1, .c (.slice none 0 0), .c (.map (some gm))] := by simp [mkB]
  generalize hsg : (mkB tq g gm (.gl k1) (.c (.slice none 0 0)) (ks ++ [keyB o f])).setGr k1 (some ((41, 7), [encOp o])) = σ5 at hobj2 ⊢
  all_goals refine AW.reg0 ?_
  all_goals iterate 8 (refine S.g rfl rfl fun Y Z => ?_; simp only [zb, simprocAttr, -Int.reduceNatCast', -Int.reduceToNat, tt, im1, e0, e2, e10, ptrV, hobj2, z2, y3, y5]; refine Z _ _ ?_; clear Z Y)
  all_goals have q16q := J9 im1 e0 e2 e10 @ptrV.eq_1 hobj2 z2 y3 y5
  all_goals (refine S.g rfl rfl fun Y Z => ?_; simp only [zz, simprocAttr, -Int.reduceNatCast', -Int.reduceToNat, tt, q16q]; intro k2 hk2 <;> (refine Z _ _ ?_; clear Z Y))
  all_goals iterate 4 refine S.one q16q ?_
  all_goals refine S.nil ?_
  all_goals simp only [ze, simprocAttr, q16q]
  subst hsg
  have hkk2 : ¬ k1 = k2 := fun e => by subst e; simp at hk2
  refine .inr ⟨k1, k2, hkk2, ?_⟩
  rw [hkapp, ho0, hf0]
  exact Hp.eqs (fun j => by by_cases h1 : j = g <;> by_cases h2 : j = gm <;> by_cases h3 : j = 0 <;> simp_all [mkP, mkB, Hp.empty]) (fun j => by by_cases h1 : j = k1 <;> by_cases h3 : j = k2 <;> simp_all [mkP, mkB, encF, Hp.empty])
 ·rw [hks]
  have im4 : ∀ a b : Nat, isMap [V.gl a, .gl b, .c (.map (some gm))] = false := fun _ _ => rfl
  have hobj : (mkP tq g gm ko kf x ks).obj g = some [.gl ko, .gl kf, .c (.map (some gm))] := by simp [mkP, mkB]
  have hmap : (mkP tq g gm ko kf x ks).obj gm = some [.tup (entK ks)] := by simp [mkP, mkB, Ne.symm hgn]
  have hgr : (mkP tq g gm ko kf x ks).gr ko = some ((41, 7), x.ops.map encOp) := by simp [mkP, hkk]
  refine AW.seq_j (fun s' σ' => σ' = mkP tq g gm ko kf x ks ∧ s'.t 0 = ptrV g ∧ s'.t 2 = .sl (f.map encI) ∧ s'.t 4 = .lp 4 0 ∧ s'.l 4 = some (encOp o) ∧ s'.t 7 = .c (.string (keyB o f)) ∧ s'.t 10 = .c (.int .i64 (x.ops.length : Nat))) ?_ ?_
  ·skip
   have q17q := J10 e0 e2 e4 l4 e7 @ptrV.eq_1 im4 hobj hgr @List.length_map.{0,0}
   refine AW.reg0 (S.rn q17q ?_)
   simp only [ze, simprocAttr, q17q]
   all_goals ((try and_intros) <;> first | rfl | assumption | (rfl))
  clear e0 e2 e4 l4 e7 e11 s
  rintro s σ1 ⟨hs1, e0, e2, e4, l4, e7, e10⟩
  subst hs1
  refine AW.seq_j (fun s' σ' => σ' = mkP tq g gm ko kf x (ks ++ [keyB o f]) ∧ s'.t 0 = ptrV g ∧ s'.t 2 = .sl (f.map encI) ∧ s'.t 4 = .lp 4 0 ∧ s'.l 4 = some (encOp o) ∧ s'.t 10 = .c (.int .i64 (x.ops.length : Nat))) ?_ ?_
  ·skip
   refine AW.reg0 ?_
   iterate 6 refine S.one (J12 e0 e2 e4 l4 e7 e10 @ptrV.eq_1 im4 hobj hmap hv hup) ?_
   have q18q := J12 e0 e2 e4 l4 e7 e10 @ptrV.eq_1 im4 hobj hmap hv hup
   (refine S.g rfl rfl fun Y Z => ?_; simp only [zn, simprocAttr, -Int.reduceNatCast', -Int.reduceToNat, q18q]; refine ⟨_, _, _, Tryz.underlying74, KeyT.str Tryz.underlying9, rfl, entK_ok _, ?_⟩; (try simp only [tt, ofC, Option.some.injEq, exists_eq_left', zz, simprocAttr, -Int.reduceNatCast', -Int.reduceToNat, e0, e2, e4, l4, e7, e10, ptrV, im4, hobj, hmap, hv, hup]) <;> (refine Z _ _ ?_; clear Z Y))
   all_goals refine S.nil ?_
   all_goals simp only [ze, simprocAttr, q18q]
   all_goals ((try and_intros) <;> first | rfl | assumption | (exact Hp.eqs (fun j => by by_cases h1 : j = g <;> by_cases h2 : j = gm <;> by_cases h3 : j = 0 <;> simp_all [mkP, mkB]) (fun j => by simp [mkP, mkB])))
  clear e0 e2 e4 l4 e7 e10 s hobj hmap hgr
  rintro s σ1 ⟨hs1, e0, e2, e4, l4, e10⟩
  subst hs1
  have hobj : (mkP tq g gm ko kf x (ks ++ [keyB o f])).obj g = some [.gl ko, .gl kf, .c (.map (some gm))] := by simp [mkP, mkB]
  have hgr : (mkP tq g gm ko kf x (ks ++ [keyB o f])).gr ko = some ((41, 7), x.ops.map encOp) := by simp [mkP, hkk]
  have y1 : (x.ops.length + 1 ≤ maxLen) = True := eq_true (by unfold maxLen; omega)
  have y2 : ((x.ops.length + 1) * 104 ≤ reach) = True := eq_true (by unfold reach; omega)
  have y6 : (x.from_.length + 1 ≤ maxLen) = True := eq_true (by unfold maxLen; omega)
  have y7 : ((x.from_.length + 1) * 24 ≤ reach) = True := eq_true (by unfold reach; omega)
  have y3 : (1 ≤ maxLen) = True := eq_true (by unfold maxLen; omega)
  have y4 : (104 ≤ reach) = True := eq_true (by unfold reach; omega)
  have y5 : (24 ≤ reach) = True := eq_true (by unfold reach; omega)
  have z1 := len_op1 o
  have z2 := len_f1 f
  simp only [encOp] at z1 l4
  refine AW.seq_j (fun s' σ' => s'.t 0 = ptrV g ∧ s'.t 2 = .sl (f.map encI) ∧ s'.t 10 = .c (.int .i64 (x.ops.length : Nat)) ∧ ∃ k1, ¬ k1 = kf ∧ σ' = mkP tq g gm k1 kf ⟨x.ops ++ [o], x.from_⟩ (ks ++ [keyB o f])) ?_ ?_
  ·generalize hsg : mkP tq g gm ko kf x (ks ++ [keyB o f]) = σ5 at hobj hgr ⊢
   refine AW.dT { sd := fun _ => false } (.st 0 0 (.st 1 0 (.st 2 0 (.st 3 0 (.st 4 0 (.fork 5 (.st 6 2 (.st 7 2 (.st 8 2 (.st 9 0 (.st 10 0 (.st 11 0 (.st 12 2 .nil))))))) 6 (.fork 5 (.st 7 2 (.st 8 2 (.st 9 0 (.st 10 0 (.st 11 0 (.st 12 2 .nil)))))) 7 (.st 5 2 (.st 8 2 (.st 9 0 (.st 10 0 (.st 11 0 (.st 12 2 .nil))))))))))))) ?_
   all_goals iterate 5 refine T.one (J12 im4 e0 e2 e4 l4 e10 @ptrV.eq_1 hobj hgr z1 y1 (J4 y2 y3 y4 @List.length_map.{0,0})) ?_
   all_goals (try refine T.fork ?_ ?_)
   all_goals have q19q := J12 im4 e0 e2 e4 l4 e10 @ptrV.eq_1 hobj hgr z1 y1 (J4 y2 y3 y4 @List.length_map.{0,0})
   all_goals first | (refine T.g rfl trivial rfl rfl fun Y Z => ?_; simp only [zz, simprocAttr, -Int.reduceNatCast', -Int.reduceToNat, tt, q19q]; refine Z _ _ ?_; clear Z Y) | (refine T.g rfl trivial rfl rfl fun Y Z => ?_; simp only [zz, simprocAttr, -Int.reduceNatCast', -Int.reduceToNat, tt, q19q]; refine Z _ _ ?_; clear Z Y)
   all_goals (try refine T.fork ?_ ?_)
   all_goals have q20q := J12 im4 e0 e2 e4 l4 e10 @ptrV.eq_1 hobj hgr z1 y1 (J4 y2 y3 y4 @List.length_map.{0,0})
   all_goals first | (refine T.g rfl trivial rfl rfl fun Y Z => ?_; simp only [zz, simprocAttr, -Int.reduceNatCast', -Int.reduceToNat, tt, q20q]; refine Z _ _ ?_; clear Z Y) | (refine T.g rfl trivial rfl rfl fun Y Z => ?_; simp only [zz, simprocAttr, -Int.reduceNatCast', -Int.reduceToNat, tt, q20q]; refine Z _ _ ?_; clear Z Y) | (refine T.g rfl trivial rfl rfl fun Y Z => ?_; simp only [zb, simprocAttr, -Int.reduceNatCast', -Int.reduceToNat, tt, im4, e0, e2, e4, l4, e10, ptrV, hobj, hgr, z1, y1, y2, y3, y4, List.length_map]; refine Z _ _ ?_; clear Z Y)
   all_goals first | (refine T.g rfl trivial rfl rfl fun Y Z => ?_; simp only [zb, simprocAttr, -Int.reduceNatCast', -Int.reduceToNat, tt, im4, e0, e2, e4, l4, e10, ptrV, hobj, hgr, z1, y1, y2, y3, y4, List.length_map]; refine Z _ _ ?_; clear Z Y) | (refine T.g rfl trivial rfl rfl fun Y Z => ?_; simp only [zz, simprocAttr, -Int.reduceNatCast', -Int.reduceToNat, tt, im4, e0, e2, e4, l4, e10, ptrV, hobj, hgr, z1, y1, y2, y3, y4, List.length_map]; refine Z _ _ ?_; clear Z Y)
   all_goals have q21q := J12 im4 e0 e2 e4 l4 e10 @ptrV.eq_1 hobj hgr z1 y1 (J4 y2 y3 y4 @List.length_map.{0,0})
   all_goals (refine T.g rfl trivial rfl rfl fun Y Z => ?_; simp only [zz, simprocAttr, -Int.reduceNatCast', -Int.reduceToNat, tt, q21q]; intro k1 hk1 <;> (refine Z _ _ ?_; clear Z Y))
   all_goals iterate 4 refine T.one q21q ?_
   all_goals refine T.nil ?_
   all_goals simp only [ze, simprocAttr, q21q]
   all_goals
    subst hsg
    have hk1' : ¬ k1 = kf := fun e => by subst e; simp [mkP, Ne.symm hkk] at hk1
    exact ⟨k1, hk1', Hp.eqs (fun j => by by_cases h1 : j = g <;> by_cases h2 : j = gm <;> by_cases h3 : j = 0 <;> simp_all [mkP, mkB, Hp.empty]) (fun j => by by_cases h1 : j = k1 <;> by_cases h2 : j = kf <;> by_cases h3 : j = ko <;> simp_all [mkP, mkB, encOp, List.map_append, Hp.empty])⟩
  clear e0 e2 e4 l4 e10 s hobj hgr
  rintro s σ1 ⟨e0, e2, e10, k1, hkk1, hs1⟩
  subst hs1
  have hobj2 : (mkP tq g gm k1 kf ⟨x.ops ++ [o], x.from_⟩ (ks ++ [keyB o f])).obj g = some [.gl k1, .gl kf, .c (.map (some gm))] := by simp [mkP, mkB]
  have hgf2 : (mkP tq g gm k1 kf ⟨x.ops ++ [o], x.from_⟩ (ks ++ [keyB o f])).gr kf = some ((48, 1), x.from_.map encF) := by simp [mkP]
  generalize hsg : mkP tq g gm k1 kf ⟨x.ops ++ [o], x.from_⟩ (ks ++ [keyB o f]) = σ5 at hobj2 hgf2 ⊢
  all_goals refine AW.reg0 ?_
  all_goals iterate 8 (refine S.g rfl rfl fun Y Z => ?_; simp only [zb, simprocAttr, -Int.reduceNatCast', -Int.reduceToNat, tt, im4, e0, e2, e10, ptrV, hobj2, hgf2, z2, y3, y5, y6, y7, List.length_map]; refine Z _ _ ?_; clear Z Y)
  all_goals have q22q := J12 im4 e0 e2 e10 @ptrV.eq_1 hobj2 hgf2 z2 y3 y5 y6 (J2 y7 @List.length_map.{0,0})
  all_goals (refine S.g rfl rfl fun Y Z => ?_; simp only [zz, simprocAttr, -Int.reduceNatCast', -Int.reduceToNat, tt, q22q]; intro k2 hk2 <;> (refine Z _ _ ?_; clear Z Y))
  all_goals iterate 4 refine S.one q22q ?_
  all_goals refine S.nil ?_
  all_goals simp only [ze, simprocAttr, q22q]
  subst hsg
  have hkk2 : ¬ k1 = k2 := fun e => by subst e; simp [mkP, hkk1] at hk2
  refine .inr ⟨k1, k2, hkk2, ?_⟩
  rw [hkapp]
  exact Hp.eqs (fun j => by by_cases h1 : j = g <;> by_cases h2 : j = gm <;> by_cases h3 : j = 0 <;> simp_all [mkP, mkB, Hp.empty]) (fun j => by by_cases h1 : j = k1 <;> by_cases h2 : j = kf <;> by_cases h3 : j = k2 <;> simp_all [mkP, mkB, encF, List.map_append, Hp.empty])
def tells (x : Pln) (o : OpS) (f : List Int) : Prop := ∀ (i : Nat) (a : OpS) (h : List Int), x.ops[i]? = some a → x.from_[i]? = some h → (keyB a h = keyB o f ↔ (sameOp a o && allEq eqI h f) = true)
theorem put_same {x : Pln} {o : OpS} {f : List Int} (hx : x.from_.length = x.ops.length) (ht : tells x o f) : putM x o f = putPl x o f := by
  have hp : ∀ i ∈ List.range x.ops.length, decide ((keysOf x)[i]? = some (keyB o f)) = hitP x o f i := fun i hi => by
    have hi := List.mem_range.1 hi
    have hi2 : i < x.from_.length := by omega
    have h1 : x.ops[i]? = some x.ops[i] := List.getElem?_eq_getElem hi
    have h2 : x.from_[i]? = some x.from_[i] := List.getElem?_eq_getElem hi2
    have hk : (keysOf x)[i]? = some (keyB x.ops[i] x.from_[i]) := by simp [keysOf, List.getElem?_zipWith, h1, h2]
    have := ht i _ _ h1 h2
    rw [hk, hitP, h1, h2, Bool.eq_iff_iff, decide_eq_true_eq, Option.some.injEq]
    exact this
  have hf : (List.range x.ops.length).find? (fun i => decide ((keysOf x)[i]? = some (keyB o f))) = (List.range x.ops.length).find? (hitP x o f) := by
    generalize List.range x.ops.length = r at hp
    induction r with
    | nil => rfl
    | cons i r ih =>
      rw [List.find?_cons, List.find?_cons, hp i List.mem_cons_self]
      cases hitP x o f i
      · exact ih fun j hj => hp j (List.mem_cons_of_mem _ hj)
      · rfl
  rw [putM, putPl, hf]
  all_goals generalize (List.range x.ops.length).find? (hitP x o f) = r
  all_goals cases r <;> rfl
def digC (c : UInt8) : Bool := (48 ≤ c.toNat && c.toNat ≤ 57) || c.toNat == 45
theorem decDigits_dig : ∀ (u : Nat), ∀ c ∈ Lib.decDigits u, 48 ≤ c.toNat ∧ c.toNat ≤ 57 := by
  intro u
  induction u using Nat.strongRecOn with
  | _ u ih =>
    intro c hc
    rw [Lib.decDigits] at hc
    split at hc
    · rename_i h
      simp at hc
      subst hc
      simp
      omega
    · rename_i h
      rcases List.mem_append.1 hc with hc | hc
      · exact ih (u / 10) (by omega) c hc
      · simp at hc
        subst hc
        have := Nat.mod_lt u (show 0 < 10 by omega)
        simp
        omega
def readD (l : List UInt8) : Nat := l.foldl (fun n c => n * 10 + (c.toNat - 48)) 0
theorem readD_dec : ∀ (u : Nat), readD (Lib.decDigits u) = u := by
  intro u
  induction u using Nat.strongRecOn with
  | _ u ih =>
    rw [Lib.decDigits]
    split
    · rename_i h
      simp [readD]
      omega
    · rename_i h
      have := Nat.mod_lt u (show 0 < 10 by omega)
      have h1 := ih (u / 10) (by omega)
      rw [readD] at h1 ⊢
      rw [List.foldl_append, h1]
      simp
      omega
theorem decDigits_inj {u v : Nat} (h : Lib.decDigits u = Lib.decDigits v) : u = v := by
 rw [← readD_dec u, h, readD_dec]
theorem itoa_dig (n : Int) : ∀ c ∈ Lib.itoa n, digC c = true := by
 intro c hc
 rw [Lib.itoa] at hc
 have hd : ∀ u, c ∈ Lib.decDigits u → digC c = true := fun u h => by
  have := decDigits_dig u c h
  simp [digC, this.1, this.2]
 split at hc
 ·rcases List.mem_cons.1 hc with rfl | hc
  ·rfl
  ·exact hd _ hc
 ·exact hd _ hc
theorem itoa_inj {m n : Int} (h : Lib.itoa m = Lib.itoa n) : m = n := by
 have no : ∀ (u : Nat) (r : List UInt8), Lib.decDigits u ≠ 45 :: r := fun u r e => by
  have := decDigits_dig u 45 (by rw [e]; exact List.mem_cons_self)
  simp at this
 rw [Lib.itoa, Lib.itoa] at h
 split at h <;> split at h
 ·have := decDigits_inj (List.cons.inj h).2
  omega
 ·exact absurd h.symm (no _ _)
 ·exact absurd h (no _ _)
 ·have := decDigits_inj h
  omega
def noD (x : List UInt8) : Prop := ∀ c r, x = c :: r → digC c = false
theorem num_cut : ∀ {a b x y : List UInt8}, (∀ c ∈ a, digC c = true) → (∀ c ∈ b, digC c = true) → noD x → noD y → a ++ x = b ++ y → a = b ∧ x = y
  | [], [], _, _, _, _, _, _, h => ⟨rfl, h⟩
  | [], c :: b, x, y, _, hb, hx, _, h => by
    have := hx c (b ++ y) h
    rw [hb c List.mem_cons_self] at this; cases this
  | c :: a, [], x, y, ha, _, _, hy, h => by
    have := hy c (a ++ x) h.symm
    rw [ha c List.mem_cons_self] at this; cases this
  | c :: a, d :: b, x, y, ha, hb, hx, hy, h => by
    rw [List.cons_append, List.cons_append] at h
    obtain ⟨hcd, h2⟩ := List.cons.inj h
    obtain ⟨hab, h3⟩ := num_cut (fun e he => ha e (List.mem_cons_of_mem _ he)) (fun e he => hb e (List.mem_cons_of_mem _ he)) hx hy h2
    exact ⟨by rw [hcd, hab], h3⟩
theorem itoa_cut {m n : Int} {x y : List UInt8} (hx : noD x) (hy : noD y) (h : Lib.itoa m ++ x = Lib.itoa n ++ y) : m = n ∧ x = y := by
 obtain ⟨h1, h2⟩ := num_cut (itoa_dig m) (itoa_dig n) hx hy h
 exact ⟨itoa_inj h1, h2⟩
def wordL (s : List UInt8) : List UInt8 := Lib.itoa s.length ++ 58 :: s
theorem noD_cons {c : UInt8} (h : digC c = false) (r : List UInt8) : noD (c :: r) := fun d q e => by
 obtain ⟨rfl, _⟩ := List.cons.inj e; exact h
theorem word_cut {s t x y : List UInt8} (h : wordL s ++ x = wordL t ++ y) : s = t ∧ x = y := by
 simp only [wordL, List.append_assoc, List.cons_append] at h
 obtain ⟨h1, h2⟩ := itoa_cut (noD_cons rfl _) (noD_cons rfl _) h
 have h3 := (List.cons.inj h2).2
 exact List.append_inj h3 (by omega)
theorem toL (a b : ByteArray) : (a ++ b).toList = a.toList ++ b.toList := by
 rw [ByteArray.toList_eq, ByteArray.toList_eq, ByteArray.toList_eq]; simp
theorem toL_bytes (l : List UInt8) : (bytesOf l).toList = l := by rw [ByteArray.toList_eq]; simp [bytesOf]
theorem toL_inj {a b : ByteArray} (h : a.toList = b.toList) : a = b := eqS_iff.1 (by rw [eqS, h]; simp)
theorem toL_size (a : ByteArray) : a.toList.length = a.size := by rw [ByteArray.toList_eq]; rfl
theorem wordB_L (s : ByteArray) : (wordB s).toList = wordL s.toList := by
 rw [wordB, toL, toL, itoaB, toL_bytes, wordL, toL_size]
 have : (⟨#[58]⟩ : ByteArray).toList = [58] := by rw [ByteArray.toList_eq]
 rw [this]; simp
theorem sp_L : sp.toList = [32] := by rw [sp, ByteArray.toList_eq]
theorem opdB_L (o : Opd) : (opdB o).toList = 32 :: (wordL o.var.toList ++ (wordL o.attr.toList ++ (Lib.itoa o.v.kind ++ (32 :: (Lib.itoa o.v.n ++ (32 :: wordL o.v.s.toList)))))) := by
 simp only [opdB, toL, wordB_L, sp_L, itoaB, toL_bytes, List.append_assoc, List.cons_append, List.nil_append]
theorem opd_ext {o p : Opd} (h1 : o.var = p.var) (h2 : o.attr = p.attr) (h3 : o.v.kind = p.v.kind) (h4 : o.v.n = p.v.n) (h5 : o.v.s = p.v.s) : o = p := by
 obtain ⟨a, b, ⟨c, d, e⟩⟩ := o
 obtain ⟨a', b', ⟨c', d', e'⟩⟩ := p
 simp only at h1 h2 h3 h4 h5
 subst h1 h2 h3 h4 h5
 rfl
theorem opd_cut {o p : Opd} {x y : List UInt8} (h : (opdB o).toList ++ x = (opdB p).toList ++ y) : o = p ∧ x = y := by
 rw [opdB_L, opdB_L] at h
 simp only [List.cons_append, List.append_assoc] at h
 have h := (List.cons.inj h).2
 obtain ⟨e1, h⟩ := word_cut h
 obtain ⟨e2, h⟩ := word_cut h
 obtain ⟨e3, h⟩ := itoa_cut (noD_cons rfl _) (noD_cons rfl _) h
 have h := (List.cons.inj h).2
 obtain ⟨e4, h⟩ := itoa_cut (noD_cons rfl _) (noD_cons rfl _) h
 have h := (List.cons.inj h).2
 obtain ⟨e5, h⟩ := word_cut h
 exact ⟨opd_ext (toL_inj e1) (toL_inj e2) e3 e4 (toL_inj e5), h⟩
def condL (c : Cnd) : List UInt8 := (opdB c.l).toList ++ ((opdB c.r).toList ++ (32 :: Lib.itoa c.rel))
theorem stepB_L (s : ByteArray) (c : Cnd) : (stepB s c).toList = s.toList ++ condL c := by
 simp only [stepB, condL, toL, sp_L, itoaB, toL_bytes, List.append_assoc, List.cons_append, List.nil_append]
theorem fold_L : ∀ (l : List Cnd) (s : ByteArray), (l.foldl stepB s).toList = s.toList ++ (l.map condL).flatten
 | [], s => by simp
 | c :: l, s => by rw [List.foldl_cons, fold_L l, stepB_L, List.map_cons, List.flatten_cons, List.append_assoc]
theorem condsB_L (l : List Cnd) : (condsB l).toList = Lib.itoa l.length ++ (l.map condL).flatten := by
 rw [condsB, fold_L, itoaB, toL_bytes]
theorem condL_noD (c : Cnd) (r : List UInt8) : noD (condL c ++ r) := by
 rw [condL, opdB_L]
 exact noD_cons rfl _
theorem flat_noD {l : List Cnd} {x : List UInt8} (hx : noD x) : noD ((l.map condL).flatten ++ x) := by
 cases l with
 | nil => exact hx
 | cons c l => rw [List.map_cons, List.flatten_cons, List.append_assoc]; exact condL_noD c _
theorem cond_cut {c d : Cnd} {x y : List UInt8} (hx : noD x) (hy : noD y) (h : condL c ++ x = condL d ++ y) : c = d ∧ x = y := by
 simp only [condL, List.append_assoc, List.cons_append] at h
 obtain ⟨e1, h⟩ := opd_cut h
 obtain ⟨e2, h⟩ := opd_cut h
 have h := (List.cons.inj h).2
 obtain ⟨e3, h9⟩ := itoa_cut hx hy h
 clear h
 obtain ⟨a, b, c'⟩ := c
 obtain ⟨a', b', d'⟩ := d
 simp only at e1 e2 e3
 subst e1 e2 e3
 exact ⟨rfl, h9⟩
theorem flat_cut : ∀ {l m : List Cnd} {x y : List UInt8}, l.length = m.length → noD x → noD y → (l.map condL).flatten ++ x = (m.map condL).flatten ++ y → l = m ∧ x = y
  | [], [], _, _, _, _, _, h => ⟨rfl, h⟩
  | c :: l, d :: m, x, y, hl, hx, hy, h => by
    simp only [List.map_cons, List.flatten_cons, List.append_assoc] at h
    obtain ⟨e1, h⟩ := cond_cut (flat_noD hx) (flat_noD hy) h
    obtain ⟨e2, h⟩ := flat_cut (by simpa using hl) hx hy h
    exact ⟨by rw [e1, e2], h⟩
theorem conds_cut {l m : List Cnd} {x y : List UInt8} (hx : noD x) (hy : noD y) (h : (condsB l).toList ++ x = (condsB m).toList ++ y) : l = m ∧ x = y := by
 rw [condsB_L, condsB_L, List.append_assoc, List.append_assoc] at h
 obtain ⟨e1, h⟩ := itoa_cut (flat_noD hx) (flat_noD hy) h
 exact flat_cut (by omega) hx hy h
def intL (n : Int) : List UInt8 := 32 :: Lib.itoa n
theorem fold_int : ∀ (f : List Int) (k : ByteArray), (f.foldl (fun k n => k ++ (sp ++ itoaB n)) k).toList = k.toList ++ (f.map intL).flatten
  | [], k => by simp
  | n :: f, k => by
    rw [List.foldl_cons, fold_int f, toL, toL, sp_L, itoaB, toL_bytes, List.map_cons, List.flatten_cons, intL, List.append_assoc]
    simp
theorem keyB_L (o : OpS) (f : List Int) : (keyB o f).toList = Lib.itoa o.kind ++ (32 :: (wordL o.var.toList ++ (wordL o.type.toList ++ ((condsB o.tests).toList ++ (47 :: ((condsB o.conds).toList ++ (f.map intL).flatten)))))) := by
 have h47 : (⟨#[47]⟩ : ByteArray).toList = [47] := by rw [ByteArray.toList_eq]
 rw [keyB, fold_int]
 simp only [keyOp, toL, wordB_L, sp_L, itoaB, toL_bytes, h47, List.append_assoc, List.cons_append, List.nil_append]
theorem ints_noD (f : List Int) : noD (f.map intL).flatten := by
 cases f with
 | nil => intro c r e; cases e
 | cons n f => exact noD_cons rfl _
theorem ints_inj : ∀ {f h : List Int}, (f.map intL).flatten = (h.map intL).flatten → f = h
  | [], [], _ => rfl
  | [], n :: h, e => by simp [intL] at e
  | n :: f, [], e => by simp [intL] at e
  | n :: f, m :: h, e => by
    simp only [List.map_cons, List.flatten_cons, intL, List.cons_append] at e
    have e1 := (List.cons.inj e).2
    obtain ⟨e2, e3⟩ := itoa_cut (ints_noD f) (ints_noD h) e1
    rw [e2, ints_inj e3]
structure alike (a o : OpS) : Prop where
  kind : a.kind = o.kind
  var : a.var = o.var
  type : a.type = o.type
  tests : a.tests = o.tests
  conds : a.conds = o.conds
theorem key_inj {a o : OpS} {h f : List Int} (e : keyB a h = keyB o f) : alike a o ∧ h = f := by
 have e := congrArg ByteArray.toList e
 rw [keyB_L, keyB_L] at e
 obtain ⟨e1, e⟩ := itoa_cut (noD_cons rfl _) (noD_cons rfl _) e
 have e := (List.cons.inj e).2
 obtain ⟨e2, e⟩ := word_cut e
 obtain ⟨e3, e⟩ := word_cut e
 obtain ⟨e4, e⟩ := conds_cut (noD_cons rfl _) (noD_cons rfl _) e
 have e := (List.cons.inj e).2
 obtain ⟨e5, e⟩ := conds_cut (ints_noD h) (ints_noD f) e
 exact ⟨⟨e1, toL_inj e2, toL_inj e3, e4, e5⟩, ints_inj e⟩
theorem eqC_iff {a b : Cnd} : eqC a b = true ↔ a = b := by
 constructor
 ·intro h
  simp only [eqC, Bool.and_eq_true, beq_iff_eq, eqS_iff] at h
  obtain ⟨h1, h2, h3, h4, h5, h6, h7, h8, h9, h10, h11⟩ := h
  obtain ⟨⟨a1, a2, ⟨a3, a4, a5⟩⟩, a6, ⟨a7, a8, ⟨a9, a10, a11⟩⟩⟩ := a
  obtain ⟨⟨b1, b2, ⟨b3, b4, b5⟩⟩, b6, ⟨b7, b8, ⟨b9, b10, b11⟩⟩⟩ := b
  simp only at h1 h2 h3 h4 h5 h6 h7 h8 h9 h10 h11
  subst h1 h2 h3 h4 h5 h6 h7 h8 h9 h10 h11
  rfl
 ·rintro rfl
  simp [eqC, eqS]
theorem allEq_iff {α : Type} {p : α → α → Bool} (hp : ∀ a b, p a b = true ↔ a = b) : ∀ {l m : List α}, allEq p l m = true ↔ l = m
  | [], [] => by simp [allEq]
  | [], b :: m => by simp [allEq]
  | a :: l, [] => by simp [allEq]
  | a :: l, b :: m => by
    rw [allEq, Bool.and_eq_true, hp, allEq_iff hp, List.cons.injEq]
theorem key_iff {a o : OpS} {h f : List Int} (hw : a.win = o.win) (hi : alike a o → h = f → a.ins = o.ins) : keyB a h = keyB o f ↔ (sameOp a o && allEq eqI h f) = true := by
 constructor
 ·intro e
  obtain ⟨e1, e2⟩ := key_inj e
  have hii := hi e1 e2
  simp only [sameOp, Bool.and_eq_true, beq_iff_eq, eqS_iff, allEq_iff (p := eqC) (fun _ _ => eqC_iff), allEq_iff (p := eqI) (fun _ _ => beq_iff_eq)]
  exact ⟨⟨e1.kind, e1.var, e1.type, e1.tests, e1.conds, hw, hii⟩, e2⟩
 ·intro e
  simp only [sameOp, Bool.and_eq_true, beq_iff_eq, eqS_iff, allEq_iff (p := eqC) (fun _ _ => eqC_iff), allEq_iff (p := eqI) (fun _ _ => beq_iff_eq)] at e
  obtain ⟨⟨e1, e2, e3, e4, e5, _, _⟩, e6⟩ := e
  rw [keyB, keyB, keyOp, keyOp, e1, e2, e3, e4, e5, e6]
structure goodPl (w : Int) (x : Pln) : Prop where
  len : x.from_.length = x.ops.length
  at_ : ∀ (i : Nat) (a : OpS) (h : List Int), x.ops[i]? = some a → x.from_[i]? = some h → a.win = w ∧ a.ins = (h.length : Nat)
theorem good_nil (w : Int) : goodPl w ⟨[], []⟩ := ⟨rfl, fun i a h h1 => by simp at h1⟩
theorem tells_of {w : Int} {x : Pln} (hg : goodPl w x) {o : OpS} {f : List Int} (hw : o.win = w) (hi : o.ins = (f.length : Nat)) : tells x o f := fun i a h h1 h2 => by
 obtain ⟨e1, e2⟩ := hg.at_ i a h h1 h2
 exact key_iff (by rw [e1, hw]) (fun _ e => by rw [e2, hi, e])
theorem good_put {w : Int} {x : Pln} (hg : goodPl w x) {o : OpS} {f : List Int} (hw : o.win = w) (hi : o.ins = (f.length : Nat)) : goodPl w (putPl x o f).1 := by
  rw [putPl]
  cases (List.range x.ops.length).find? (hitP x o f) with
  | some i => exact hg
  | none =>
    refine ⟨by simp [hg.len], fun i a h h1 h2 => ?_⟩
    simp only at h1 h2
    by_cases hil : i < x.ops.length
    · rw [List.getElem?_append_left hil] at h1
      rw [List.getElem?_append_left (by rw [hg.len]; exact hil)] at h2
      exact hg.at_ i a h h1 h2
    · rw [List.getElem?_append_right (by omega)] at h1
      rw [List.getElem?_append_right (by rw [hg.len]; omega), hg.len] at h2
      generalize i - x.ops.length = j at h1 h2
      cases j with
      | zero =>
        simp at h1 h2
        subst h1; subst h2
        exact ⟨hw, hi⟩
      | succ j => simp at h1
def opOf (n : Nd) (given : List Cnd) (w : Int) : OpS := ⟨kindOf n.kind, n.var, n.type, n.tests, given.filter (fun c => n.kids.all fun k => !readyC k.vars c), w, max 1 (n.kids.length : Nat)⟩
abbrev Mk := Pln → List Cnd → Pln × Nat
def kidsR (given : List Cnd) : List (Mk × Nd) → Pln × List Int → Pln × List Int
  | [], r => r
  | (mk, k) :: l, r => kidsR given l ((mk r.1 (given.filter (readyC k.vars))).1, r.2 ++ [((mk r.1 (given.filter (readyC k.vars))).2 : Int)])
def Nd.mkR (put : Pln → OpS → List Int → Pln × Nat) (w : Int) (n : Nd) : Mk := n.para fun n l => fun x given =>
  let r := kidsR given (l.zip n.kids) (x, [])
  put r.1 (opOf n given w) (if n.kids.length = 0 then [-1] else r.2)
theorem Nd.mkR_eq (put : Pln → OpS → List Int → Pln × Nat) (w : Int) (n : Nd) (x : Pln) (given : List Cnd) : n.mkR put w x given =
  put (kidsR given ((n.kids.map (Nd.mkR put w)).zip n.kids) (x, [])).1 (opOf n given w) (if n.kids.length = 0 then [-1] else (kidsR given ((n.kids.map (Nd.mkR put w)).zip n.kids) (x, [])).2) :=
 congrFun (congrFun (Nd.para_eq (α := Mk) _ n) x) given
theorem kidsR_same {w : Int} (given : List Cnd) : ∀ (l : List Nd), (∀ k ∈ l, ∀ (x : Pln) (g : List Cnd), goodPl w x → k.mkR putM w x g = k.mkR putPl w x g ∧ goodPl w (k.mkR putPl w x g).1) → ∀ r : Pln × List Int, goodPl w r.1 →
    kidsR given ((l.map (Nd.mkR putM w)).zip l) r = kidsR given ((l.map (Nd.mkR putPl w)).zip l) r ∧ goodPl w (kidsR given ((l.map (Nd.mkR putPl w)).zip l) r).1 ∧ (kidsR given ((l.map (Nd.mkR putPl w)).zip l) r).2.length = r.2.length + l.length
  | [], _, r, hr => ⟨rfl, hr, rfl⟩
  | k :: l, ih, r, hr => by
    obtain ⟨h1, h2⟩ := ih k List.mem_cons_self r.1 (given.filter (readyC k.vars)) hr
    obtain ⟨h3, h4, h5⟩ := kidsR_same given l (fun q hq => ih q (List.mem_cons_of_mem _ hq)) ((k.mkR putPl w r.1 (given.filter (readyC k.vars))).1, r.2 ++ [((k.mkR putPl w r.1 (given.filter (readyC k.vars))).2 : Int)]) h2
    simp only [List.map_cons, List.zip_cons_cons, kidsR]
    rw [h1]
    refine ⟨h3, h4, ?_⟩
    rw [h5]; simp; omega
theorem mkR_same {w : Int} : ∀ n : Nd, ∀ (x : Pln) (g : List Cnd), goodPl w x → n.mkR putM w x g = n.mkR putPl w x g ∧ goodPl w (n.mkR putPl w x g).1 := Nd.ind fun n ih x g hx => by
 obtain ⟨h1, h2, h3⟩ := kidsR_same (w := w) g n.kids ih (x, []) hx
 rw [Nd.mkR_eq, Nd.mkR_eq, h1]
 generalize kidsR g ((n.kids.map (Nd.mkR putPl w)).zip n.kids) (x, []) = r at h2 h3
 have hi : (opOf n g w).ins = ((if n.kids.length = 0 then [-1] else r.2).length : Nat) := by
  simp only [opOf]
  split
  ·rename_i h0
   rw [h0]; rfl
  ·rename_i h0
   simp only [List.length_nil, Nat.zero_add] at h3
   rw [h3]
   omega
 exact ⟨put_same h2.len (tells_of h2 rfl hi), good_put h2 rfl hi⟩
def planR (put : Pln → OpS → List Int → Pln × Nat) (p : Pat) : Pln :=
  (put (p.node.mkR put p.within ⟨[], []⟩ p.conds).1 ⟨5, ⟨#[]⟩, ⟨#[]⟩, [], [], p.within, 1⟩ [((p.node.mkR put p.within ⟨[], []⟩ p.conds).2 : Int)]).1
theorem planR_same (p : Pat) : planR putM p = planR putPl p := by
 obtain ⟨h1, h2⟩ := mkR_same (w := p.within) p.node ⟨[], []⟩ p.conds (good_nil _)
 rw [planR, planR, h1]
 rw [put_same h2.len (tells_of h2 rfl rfl)]
theorem Nd.tests_few {n : Nd} (h : n.err = 0) : n.tests.length ≤ 16 := by
 have h0 := Nd.err_own h
 unfold ndOwn at h0
 split at h0
 ·split at h0
  ·cases h0
  ·unfold cndsErr at h0
   split at h0
   ·cases h0
   ·rename_i hb
    simp only [Bool.or_eq_true, not_or, decide_eq_true_eq] at hb
    omega
 ·split at h0
  ·split at h0
   ·cases h0
   ·rename_i hb
    simp only [joinBad, Bool.or_eq_true, not_or, decide_eq_true_eq] at hb
    omega
  ·cases h0
theorem Nd.fewT_of : ∀ n : Nd, n.err = 0 → n.fewT := Nd.ind fun n ih h => by
 rw [Nd.fewT_eq]
 refine ⟨by have := Nd.tests_few h; omega, fun p hp => ?_⟩
 obtain ⟨x, hx, rfl⟩ := List.mem_map.1 hp
 exact ih x hx (Nd.err_kid h hx)
def cI (c : Cnd) : Prop := inI64 c.l.v.n ∧ inI64 c.r.v.n
theorem key_opd {vars : List ByteArray} {o : Opd} (hv : ∀ v ∈ vars, v.size ≤ 32) (h : opdOk vars o = true) (hi : inI64 o.v.n) : keyO o := by
 unfold opdOk at h
 split at h
 ·rename_i ha
  simp only [Bool.and_eq_true, decide_eq_true_eq, valOk] at h
  obtain ⟨h1, h2⟩ := h
  refine ⟨by omega, by omega, ?_, ?_, hi⟩
  ·rcases h2 with h2 | h2 <;> omega
  ·unfold inI64
   rcases h2 with h2 | h2 <;> omega
 ·simp only [Bool.and_eq_true, decide_eq_true_eq, valNone, isName] at h
  obtain ⟨⟨h1, h2⟩, h3⟩ := h
  refine ⟨?_, by omega, by omega, by unfold inI64; omega, hi⟩
  unfold opdVar at h3
  split at h3
  ·simp only [decide_eq_true_eq] at h3; omega
  ·have := hv _ (hasS_iff.1 h3); omega
theorem key_cnd {vars : List ByteArray} {c : Cnd} (hv : ∀ v ∈ vars, v.size ≤ 32) (h : cndBad vars c = false) (hi : cI c) : keyC c := by
 unfold cndBad at h
 simp only [Bool.or_eq_false_iff, decide_eq_false_iff_not, Bool.not_eq_false'] at h
 obtain ⟨⟨⟨h1, h2⟩, h3⟩, h4⟩ := h
 exact ⟨key_opd hv h2 hi.1, key_opd hv h3 hi.2, by unfold inI64; omega⟩
theorem key_cnds {vars : List ByteArray} {l : List Cnd} (hv : ∀ v ∈ vars, v.size ≤ 32) (h : cndsErr vars l = 0) (hi : ∀ c ∈ l, cI c) : l.length ≤ 16 ∧ ∀ c ∈ l, keyC c := by
 unfold cndsErr at h
 split at h
 ·cases h
 ·rename_i hb
  simp only [Bool.or_eq_true, not_or, decide_eq_true_eq, cndsBad, Bool.not_eq_true, List.any_eq_false] at hb
  exact ⟨by omega, fun c hc => key_cnd hv (by simpa using hb.2 c hc) (hi c hc)⟩
def Nd.inr (n : Nd) : Prop := n.para fun n l => (∀ c ∈ n.tests, cI c) ∧ ∀ p ∈ l, p
theorem Nd.inr_eq (n : Nd) : n.inr = ((∀ c ∈ n.tests, cI c) ∧ ∀ p ∈ n.kids.map Nd.inr, p) := Nd.para_eq _ n
theorem Nd.inr.own {n : Nd} (h : n.inr) : ∀ c ∈ n.tests, cI c := by rw [Nd.inr_eq] at h; exact h.1
theorem Nd.inr.kid {n x : Nd} (h : n.inr) (hx : x ∈ n.kids) : x.inr := by rw [Nd.inr_eq] at h; exact h.2 _ (List.mem_map_of_mem hx)
theorem Nd.own_key {n : Nd} (h : n.err = 0) (hi : n.inr) : n.var.size ≤ 32 ∧ n.type.size ≤ 32 ∧ n.tests.length ≤ 16 ∧ (∀ c ∈ n.tests, keyC c) ∧ (n.kind = 1 ∧ n.kids = [] ∨ (n.kind = 2 ∨ n.kind = 3 ∨ n.kind = 4) ∧ 2 ≤ n.kids.length) := by
 have h0 := Nd.err_own h
 unfold ndOwn at h0
 split at h0
 ·rename_i hk
  split at h0
  ·cases h0
  ·rename_i hb
   simp only [leafBad, Bool.or_eq_true, not_or, Bool.not_eq_true', Bool.not_eq_false, isName, Bool.and_eq_true, decide_eq_true_eq] at hb
   obtain ⟨h1, h2⟩ := key_cnds (fun v hv => by cases hv) h0 hi.own
   exact ⟨by omega, by omega, h1, h2, .inl ⟨hk, List.eq_nil_of_length_eq_zero (by omega)⟩⟩
 ·split at h0
  ·rename_i hk
   split at h0
   ·cases h0
   ·rename_i hb
    simp only [joinBad, Bool.or_eq_true, not_or, decide_eq_true_eq, Decidable.not_not] at hb
    have ht : n.tests = [] := List.eq_nil_of_length_eq_zero (by omega)
    exact ⟨by omega, by omega, by omega, (fun c hc => by rw [ht] at hc; cases hc), .inr ⟨hk, by omega⟩⟩
  ·cases h0
theorem sum_two {l : List Nd} (h : ∀ x ∈ l, x.size + 1 ≤ 2 * x.terms) : (l.map Nd.size).sum + l.length ≤ 2 * (l.map Nd.terms).sum := by
  induction l with
  | nil => simp
  | cons x l ih =>
    have h1 := h x List.mem_cons_self
    have h2 := ih fun y hy => h y (List.mem_cons_of_mem _ hy)
    simp only [List.map_cons, List.sum_cons, List.length_cons]; omega
theorem Nd.size_terms : ∀ n : Nd, n.err = 0 → n.size + 1 ≤ 2 * n.terms := Nd.ind fun n ih h => by
 have hs := sum_two fun x hx => ih x hx (Nd.err_kid h hx)
 have h0 := Nd.err_own h
 rw [Nd.size_eq, Nd.terms_eq]
 split
 ·rename_i hk
  rw [List.eq_nil_of_length_eq_zero hk]; simp
 ·rename_i hk
  unfold ndOwn at h0
  split at h0
  ·split at h0
   ·cases h0
   ·rename_i hb
    simp only [leafBad, Bool.or_eq_true, not_or, decide_eq_true_eq] at hb
    omega
  ·split at h0
   ·split at h0
    ·cases h0
    ·rename_i hb
     simp only [joinBad, Bool.or_eq_true, not_or, decide_eq_true_eq, Decidable.not_not] at hb
     omega
   ·cases h0
structure goodPat (p : Pat) : Prop where
  err : p.node.err = 0
  size : p.node.size ≤ 23
  deep : p.node.deep ≤ 8
  len : p.conds.length ≤ 16
  conds : ∀ c ∈ p.conds, keyC c
  inr : p.node.inr
theorem good_of {p : Pat} (h : patErr p = 0) (hi : p.node.inr) (hc : ∀ c ∈ p.conds, cI c) : goodPat p := by
 unfold patErr at h
 split at h
 ·cases h
 split at h
 case isFalse hs => exact absurd h hs
 rename_i hs
 split at h
 case isFalse hb => exact absurd h hb
 unfold Nd.shape at hs
 split at hs
 ·cases hs
 rename_i hd
 split at hs
 case isFalse he => exact absurd hs he
 rename_i he
 simp only [Bool.or_eq_true, not_or, decide_eq_true_eq] at hd
 have h1 := Nd.size_terms p.node he
 obtain ⟨h2, h3⟩ := key_cnds (Nd.vars_sz p.node he) h hc
 exact ⟨he, by omega, by omega, h2, h3, hi⟩
theorem putM_len (x : Pln) (o : OpS) (f : List Int) (hx : x.from_.length = x.ops.length) : (putM x o f).1.from_.length = (putM x o f).1.ops.length ∧ (putM x o f).1.ops.length ≤ x.ops.length + 1 ∧ x.ops.length ≤ (putM x o f).1.ops.length ∧ (putM x o f).2 < (putM x o f).1.ops.length := by
  rw [putM]
  cases h : (List.range x.ops.length).find? (fun i => decide ((keysOf x)[i]? = some (keyB o f))) with
  | some i =>
    have := List.mem_of_find?_eq_some h
    exact ⟨hx, by simp, by simp, List.mem_range.1 this⟩
  | none => simp [hx]
theorem putPl_len (x : Pln) (o : OpS) (f : List Int) (hx : x.from_.length = x.ops.length) : (putPl x o f).1.from_.length = (putPl x o f).1.ops.length ∧ (putPl x o f).1.ops.length ≤ x.ops.length + 1 ∧ x.ops.length ≤ (putPl x o f).1.ops.length ∧ (putPl x o f).2 < (putPl x o f).1.ops.length := by
  rw [putPl]
  cases h : (List.range x.ops.length).find? (hitP x o f) with
  | some i =>
    have := List.mem_of_find?_eq_some h
    exact ⟨hx, by simp, by simp, List.mem_range.1 this⟩
  | none => simp [hx]
def PutLen (put : Pln → OpS → List Int → Pln × Nat) : Prop := ∀ (x : Pln) (o : OpS) (f : List Int), x.from_.length = x.ops.length → (put x o f).1.from_.length = (put x o f).1.ops.length ∧ (put x o f).1.ops.length ≤ x.ops.length + 1 ∧ x.ops.length ≤ (put x o f).1.ops.length ∧ (put x o f).2 < (put x o f).1.ops.length
theorem kidsR_len {put : Pln → OpS → List Int → Pln × Nat} {w : Int} (given : List Cnd) : ∀ (l : List Nd), (∀ k ∈ l, ∀ (x : Pln) (g : List Cnd), x.from_.length = x.ops.length → (k.mkR put w x g).1.from_.length = (k.mkR put w x g).1.ops.length ∧ (k.mkR put w x g).1.ops.length ≤ x.ops.length + k.size ∧ x.ops.length ≤ (k.mkR put w x g).1.ops.length ∧ (k.mkR put w x g).2 < (k.mkR put w x g).1.ops.length) →
    ∀ r : Pln × List Int, r.1.from_.length = r.1.ops.length → (kidsR given ((l.map (Nd.mkR put w)).zip l) r).1.from_.length = (kidsR given ((l.map (Nd.mkR put w)).zip l) r).1.ops.length ∧ (kidsR given ((l.map (Nd.mkR put w)).zip l) r).1.ops.length ≤ r.1.ops.length + (l.map Nd.size).sum ∧ r.1.ops.length ≤ (kidsR given ((l.map (Nd.mkR put w)).zip l) r).1.ops.length
  | [], _, r, hr => ⟨hr, by simp [kidsR], by simp [kidsR]⟩
  | k :: l, ih, r, hr => by
    obtain ⟨h1, h2, h0, _⟩ := ih k List.mem_cons_self r.1 (given.filter (readyC k.vars)) hr
    obtain ⟨h3, h4, h5⟩ := kidsR_len given l (fun q hq => ih q (List.mem_cons_of_mem _ hq)) ((k.mkR put w r.1 (given.filter (readyC k.vars))).1, r.2 ++ [((k.mkR put w r.1 (given.filter (readyC k.vars))).2 : Int)]) h1
    simp only [List.map_cons, List.zip_cons_cons, kidsR, List.sum_cons] at h3 h4 h5 ⊢
    exact ⟨h3, by omega, by omega⟩
theorem mkR_len {put : Pln → OpS → List Int → Pln × Nat} (hp : PutLen put) {w : Int} : ∀ n : Nd, ∀ (x : Pln) (g : List Cnd), x.from_.length = x.ops.length → (n.mkR put w x g).1.from_.length = (n.mkR put w x g).1.ops.length ∧ (n.mkR put w x g).1.ops.length ≤ x.ops.length + n.size ∧ x.ops.length ≤ (n.mkR put w x g).1.ops.length ∧ (n.mkR put w x g).2 < (n.mkR put w x g).1.ops.length := Nd.ind fun n ih x g hx => by
 obtain ⟨h1, h2, h3⟩ := kidsR_len (put := put) (w := w) g n.kids ih (x, []) hx
 rw [Nd.mkR_eq, Nd.size_eq]
 generalize kidsR g ((n.kids.map (Nd.mkR put w)).zip n.kids) (x, []) = r at h1 h2 h3
 obtain ⟨h4, h5, h6, h7⟩ := hp r.1 (opOf n g w) (if n.kids.length = 0 then [-1] else r.2) h1
 exact ⟨h4, by simp only at h2; omega, by simp only at h3; omega, h7⟩
def fewPl (x : Pln) : Prop := (∀ o ∈ x.ops, okOp o) ∧ ∀ l ∈ x.from_, l.length < 4611686018427387904
theorem few_nil : fewPl ⟨[], []⟩ := ⟨fun o h => (by cases h), fun o h => (by cases h)⟩
theorem few_put {x : Pln} (hx : fewPl x) {o : OpS} {f : List Int} (ho : okOp o) (hf : f.length < 4611686018427387904) : fewPl (putPl x o f).1 := by
  rw [putPl]
  cases (List.range x.ops.length).find? (hitP x o f) with
  | some i => exact hx
  | none =>
    refine ⟨fun a h => ?_, fun l h => ?_⟩
    · rcases List.mem_append.1 h with h | h
      · exact hx.1 a h
      · rw [List.mem_singleton.1 h]; exact ho
    · rcases List.mem_append.1 h with h | h
      · exact hx.2 l h
      · rw [List.mem_singleton.1 h]; exact hf
theorem kidsR_snd {put : Pln → OpS → List Int → Pln × Nat} {w : Int} (given : List Cnd) : ∀ (l : List Nd) (r : Pln × List Int), (kidsR given ((l.map (Nd.mkR put w)).zip l) r).2.length = r.2.length + l.length
  | [], r => rfl
  | k :: l, r => by
    simp only [List.map_cons, List.zip_cons_cons, kidsR]
    rw [kidsR_snd given l]
    simp; omega
theorem kidsR_few {w : Int} (given : List Cnd) : ∀ (l : List Nd), (∀ k ∈ l, ∀ (x : Pln), fewPl x → fewPl (k.mkR putPl w x (given.filter (readyC k.vars))).1) → ∀ r : Pln × List Int, fewPl r.1 → fewPl (kidsR given ((l.map (Nd.mkR putPl w)).zip l) r).1
 | [], _, r, hr => hr
 | k :: l, ih, r, hr => kidsR_few given l (fun q hq => ih q (List.mem_cons_of_mem _ hq)) _ (ih k List.mem_cons_self _ hr)
theorem okOp_of {n : Nd} (h : n.err = 0) (given : List Cnd) (w : Int) (hg : given.length ≤ 16) : okOp (opOf n given w) :=
 ⟨by have := Nd.tests_few h; show n.tests.length < _; omega, by have := List.length_filter_le (fun c => n.kids.all fun k => !readyC k.vars c) given; show (given.filter _).length < _; omega⟩
theorem mkR_few {w : Int} : ∀ n : Nd, n.small → n.err = 0 → ∀ (x : Pln) (g : List Cnd), fewPl x → g.length ≤ 16 → fewPl (n.mkR putPl w x g).1 := Nd.ind fun n ih hn he x g hx hg => by
 have h1 := kidsR_few (w := w) g n.kids (fun k hk y hy => ih k hk (hn.kid hk) (Nd.err_kid he hk) y _ hy (Nat.le_trans (List.length_filter_le ..) hg)) (x, []) hx
 have h2 := kidsR_snd (put := putPl) (w := w) g n.kids (x, [])
 rw [Nd.mkR_eq]
 refine few_put h1 (okOp_of he g w hg) ?_
 have := hn.len
 split
 ·decide
 ·rw [h2]; simp; omega
end Go.Abs.M
namespace Go.Abs
open Go
section
variable {P : Program} {σ σ0 σ1 τ : Hp}
variable [Mode]
def Hp.join (σ τ : Hp) : Hp := ⟨fun g => match σ.obj g with | some x => some x | none => τ.obj g, fun k => match σ.gr k with | some x => some x | none => τ.gr k⟩
structure Hp.Apart (σ τ : Hp) : Prop where
  obj : ∀ g, σ.obj g = none ∨ τ.obj g = none
  gr : ∀ k, σ.gr k = none ∨ τ.gr k = none
omit [Mode] in
theorem Hp.Le.joinL (σ τ : Hp) : Hp.Le σ (σ.join τ) := ⟨fun g c h => by simp [Hp.join, h], fun k x h => by simp [Hp.join, h]⟩
omit [Mode] in
theorem Hp.Apart.objR (h : Hp.Apart σ τ) {g : Nat} {c : List V} (hg : τ.obj g = some c) : (σ.join τ).obj g = some c := by
 rcases h.obj g with h1 | h1
 ·simp [Hp.join, h1, hg]
 ·rw [hg] at h1; cases h1
omit [Mode] in
theorem Hp.Apart.grR (h : Hp.Apart σ τ) {k : Nat} {x : (TypeId × Nat) × List (List V)} (hk : τ.gr k = some x) : (σ.join τ).gr k = some x := by
 rcases h.gr k with h1 | h1
 ·simp [Hp.join, h1, hk]
 ·rw [hk] at h1; cases h1
omit [Mode] in
theorem over_join (h : Hp.Apart σ0 τ) : σ1.over (σ0.join τ) σ0 = σ1.join τ := by
  simp only [Hp.over, Hp.join, Hp.mk.injEq]
  constructor
  · funext g
    cases h1 : σ1.obj g with
    | some x => rfl
    | none =>
      rcases h.obj g with h2 | h2
      · simp [h2]
      · cases h3 : σ0.obj g <;> simp [h2]
  · funext k
    cases h1 : σ1.gr k with
    | some x => rfl
    | none =>
      rcases h.gr k with h2 | h2
      · simp [h2]
      · cases h3 : σ0.gr k <;> simp [h2]
omit [Mode] in
theorem Hp.Apart.fresh (h : Hp.Apart σ0 τ) (hf : Hp.Fresh σ1 σ0 (σ0.join τ)) : Hp.Apart σ1 τ where
  obj g := by
    cases h1 : σ1.obj g with
    | none => exact .inl rfl
    | some c =>
      rcases h.obj g with h2 | h2
      · have := hf.obj g c h1 h2
        simp only [Hp.join, h2] at this
        exact .inr this
      · exact .inr h2
  gr k := by
    cases h1 : σ1.gr k with
    | none => exact .inl rfl
    | some c =>
      rcases h.gr k with h2 | h2
      · have := hf.gr k c h1 h2
        simp only [Hp.join, h2] at this
        exact .inr this
      · exact .inr h2
theorem ACalls.beside {f : FuncId} {args : List V} {R : V → Hp → Prop} (h : ACalls P f args σ0 R) (ha : Hp.Apart σ0 τ) : ACalls P f args (σ0.join τ) (fun v σ' => ∃ σ1, R v σ1 ∧ Hp.Apart σ1 τ ∧ σ' = σ1.join τ) :=
 (h.frame (.joinL σ0 τ)).mono fun _ _ ⟨σ1, h1, h2, h3⟩ => ⟨σ1, h1, ha.fresh h2, h3.trans (over_join ha)⟩
end
end Go.Abs
namespace Go.Abs
open Go
section
variable {P : Program} {σ : Hp} {s : St} {n : Nat} {Q : Exit → St → Hp → Prop}
variable [Mode]
theorem VR.wkSl {w : World} {cx : Cx} {es : List (List V)} {x : Value} (h : VR w cx (.sl es) x) : VR w cx (.sl (es.map (List.map wk1))) x := by
  generalize hv : V.sl es = v at h
  cases h with
  | c x => cases hv
  | nils => injection hv with hv; subst hv; exact .nils
  | nile a => injection hv with hv; subst hv; exact .nile a
  | sl f hI hcap hlen hc hr h1 =>
    injection hv with hv
    subst hv
    have := VR.sl (w := w) (cx := cx) (es := es.map (List.map wk1)) f hI (by simpa using hcap) (fun i e he => by
      rw [List.getElem?_map, Option.map_eq_some_iff] at he
      obtain ⟨e', h', rfl⟩ := he
      rw [List.length_map]; exact hlen i e' h') (fun i j hi hj => hc i j (by simpa using hi) hj) (fun i e j v he hv => by
      rw [List.getElem?_map, Option.map_eq_some_iff] at he
      obtain ⟨e', h', rfl⟩ := he
      rw [List.getElem?_map, Option.map_eq_some_iff] at hv
      obtain ⟨v', hv', rfl⟩ := hv
      exact wk1_VR (hr i e' j v' h' hv')) (fun i j hi hj => h1 i j (by simpa using hi) hj)
    rwa [List.length_map] at this
  | _ => cases hv
def wkD : V → V
  | .sl es => .sl (es.map (List.map wk1))
  | v => wk1 v
theorem wkD_VR {w : World} {cx : Cx} {v : V} {x : Value} (h : VR w cx v x) : VR w cx (wkD v) x := by
 unfold wkD
 split
 ·exact h.wkSl
 ·exact wk1_VR h
def wkA : V → V
  | .agg vs => .agg (vs.map wkD)
  | v => wkD v
theorem wkA_VR {w : World} {cx : Cx} {v : V} {x : Value} (h : VR w cx v x) : VR w cx (wkA v) x := by
  unfold wkA
  split
  · cases h with
    | agg h1 hn hh =>
      refine .agg h1 (by simpa using hn) (fun i v x hv hx => ?_)
      rw [List.getElem?_map, Option.map_eq_some_iff] at hv
      obtain ⟨u, hu, rfl⟩ := hv
      exact wkD_VR (hh i u x hu hx)
  · exact wkD_VR h
theorem ACalls.wkA {f : FuncId} {args : List V} {R : V → Hp → Prop} (h : ACalls P f (args.map Go.Abs.wkA) σ R) : ACalls P f args σ R :=
 ⟨h.1, fun cx w xs hH ha => h.2 cx w xs hH ⟨by simpa using ha.1, fun i v x hv hx => by
  rw [List.getElem?_map, Option.map_eq_some_iff] at hv
  obtain ⟨u, hu, rfl⟩ := hv
  exact wkA_VR (ha.2 i u x hu hx)⟩⟩
end
end Go.Abs
namespace Go.Abs
open Go
section
variable {P : Program} {B : Base} {n : Nat} {cx cx' : Cx} {s : St} {σ σ' π ρ : Hp} {a : Act} {w : World} {Q : Exit → St → Hp → Prop}
variable [Mode]
def St.mapV (s : St) (f : V → V) : St := ⟨fun t => f (s.t t), fun d => (s.l d).map (List.map f)⟩
omit [Mode] in
@[simp] theorem St.mapV_t (s : St) (f : V → V) (t : Nat) : (s.mapV f).t t = f (s.t t) := rfl
omit [Mode] in
@[simp] theorem St.mapV_l (s : St) (f : V → V) (d : Nat) : (s.mapV f).l d = (s.l d).map (List.map f) := rfl
theorem SR.remap {f : V → V} (h : SR B n cx s σ a w) (h1 : SR B n cx' s σ' a w) (hL : cx'.L = cx.L) (hlp : ∀ d o, f (.lp d o) = .lp d o) (hj : f .junk = .junk) (hf : ∀ v x, VR w cx v x → VR w cx' (f v) x) : SR B n cx' (s.mapV f) σ' a w := by
 have hfe : foot cx' σ' (s.mapV f).l = foot cx' σ' s.l := by
  funext g
  refine propext (or_congr Iff.rfl ⟨fun ⟨d, c, hd, e⟩ => ?_, fun ⟨d, c, hd, e⟩ => ⟨d, c.map f, by simp [hd], e⟩⟩)
  simp only [St.mapV_l, Option.map_eq_some_iff] at hd
  obtain ⟨c, hc, rfl⟩ := hd
  exact ⟨d, c, hc, e⟩
 refine ⟨h1.size, by rw [hfe]; exact h1.defers, h1.nd, fun t => ?_, h1.heap, ⟨fun d cells hd => ?_, fun d cells hd => ?_, fun d e c c' hd he => ?_⟩, by rw [hfe]; exact h1.ext, h1.gnew, h1.onew, h1.stab, h1.stN, fun d c hd => ?_⟩
 ·have ht := h.tmp t
  show TR w cx' (f (s.t t)) _
  generalize s.t t = v at ht
  generalize a.tmps.getD t undef = x at ht
  cases ht with
  | v hv' => exact .v (hf _ _ hv')
  | lp d off => rw [hlp, ← hL]; exact .lp d off
  | junk => rw [hj]; exact .junk _
 ·simp only [St.mapV_l, Option.map_eq_some_iff] at hd
  obtain ⟨c, hc, rfl⟩ := hd
  obtain ⟨T', cs, h2, h3⟩ := h.box.box d c hc
  rw [hL]
  refine ⟨T', cs, h2, by simpa using h3.1, h3.2.1, fun i v x hv hx => ?_⟩
  obtain ⟨u, hu, rfl⟩ := map_get hv
  exact hf _ _ (h3.2.2 i u x hu hx)
 ·simp only [St.mapV_l, Option.map_eq_some_iff] at hd
  obtain ⟨c, hc, rfl⟩ := hd
  exact h1.box.apart d c hc
 ·simp only [St.mapV_l, Option.map_eq_some_iff] at hd he
  obtain ⟨c, hc, rfl⟩ := hd
  obtain ⟨c', hc', rfl⟩ := he
  exact h1.box.inj d e c c' hc hc'
 ·simp only [St.mapV_l, Option.map_eq_some_iff] at hd
  obtain ⟨c, hc, rfl⟩ := hd
  exact h1.stS d c hc
omit [Mode] in
theorem thaw_lp (m d o : Nat) : thaw π m (.lp d o) = .lp d o := by cases m <;> rfl
omit [Mode] in
theorem thaw_junk (m : Nat) : thaw π m .junk = .junk := by cases m <;> rfl
theorem SR.lend (h : SR B n cx s σ a w) (hπ : Hp.Le π σ) (hρ : Hp.Le ρ σ) (ha : Hp.Apart ρ π) (m : Nat) : SR B n (cx.lent π) (s.mapV (thaw π m)) ρ a w := by
 have hP : HR cx π w := h.heap.sub hπ.obj hπ.gr
 have hno : ∀ g, ρ.own cx g → ¬ π.own cx g := fun g h1 h2 => by
  rcases h1 with ⟨c, hc⟩ | ⟨k, x, hk, hb⟩
  ·rcases h2 with ⟨c', hc'⟩ | ⟨k', x', hk', hb'⟩
   ·rcases ha.obj g with e | e
    ·rw [e] at hc; cases hc
    ·rw [e] at hc'; cases hc'
   ·exact h.heap.mix k' x' g c (hπ.gr k' x' hk') (hρ.obj g c hc) hb'
  ·rcases h2 with ⟨c', hc'⟩ | ⟨k', x', hk', hb'⟩
   ·exact h.heap.mix k x g c' (hρ.gr k x hk) (hπ.obj g c' hc') hb
   ·have := h.heap.two k k' x x' g (hρ.gr k x hk) (hπ.gr k' x' hk') hb hb'
    subst this
    rcases ha.gr k with e | e
    ·rw [e] at hk; cases hk
    ·rw [e] at hk'; cases hk'
 have hR0 : HR cx ρ w := h.heap.sub hρ.obj hρ.gr
 have hR : HR (cx.lent π) ρ w := hR0.keep Cx.le_lent (fun _ => False) (fun _ h => h.elim) (fun _ h => h.elim) (fun g hg ho => hg.elim (h.heap.apart g (hρ.own ho)) (hno g ho)) (fun g hg => hg.elim (h.heap.ilt g) hP.own_lt) (fun _ _ _ => rfl)
 have h1 : SR B n (cx.lent π) s ρ a w := h.heapstep Cx.le_lent rfl (fun g hg => hg.imp id (fun e => .inl (hπ.own e))) (fun g hg => .inl (hρ.own hg)) rfl rfl ⟨rfl, fun _ => Nat.le_refl _⟩ (Nat.le_refl _) (fun _ _ _ => rfl) hR
  (fun k x hk => .inl ⟨x, hρ.gr k x hk⟩) (fun g x hx => .inl ⟨x, hρ.obj g x hx⟩)
 exact h.remap h1 rfl (thaw_lp m) (thaw_junk m) fun v x hv => thaw_VR hP m v x hv
theorem AW.lend {c : Code} (hπ : Hp.Le π σ) (hρ : Hp.Le ρ σ) (ha : Hp.Apart ρ π) (m : Nat) (h : AW P n c Q (s.mapV (thaw π m)) ρ) : AW P n c Q s σ :=
 fun B cx a w h1 h2 h3 => h B (cx.lent π) a w h1 h2 (h3.lend hπ hρ ha m)
theorem AW.st {c : Code} (J : St → Prop) (hJ : J s) (h : ∀ s, J s → AW P n c Q s σ) : AW P n c Q s σ := h s hJ
theorem wkD_lp (d o : Nat) : wkD (.lp d o) = .lp d o := rfl
theorem AW.wkD {c : Code} (h : AW P n c Q (s.mapV Go.Abs.wkD) σ) : AW P n c Q s σ :=
 fun B cx a w h1 h2 h3 => h B cx a w h1 h2 (h3.remap h3 rfl wkD_lp rfl fun _ _ hv => wkD_VR hv)
end
end Go.Abs
namespace Go.Abs.M
open Go Go.Abs Go.Proofs
set_option maxRecDepth 20000
def kindsC : List V := [.c (.int .i64 0), .c (.int .i64 1), .c (.int .i64 2), .c (.int .i64 3), .c (.int .i64 4)]
def makesF (p : Pat) (g g4 : Nat) : V := .fn (.func 35) [] [capZ kindsC, capZ (encPat p), ptrV g4, capZ [ptrV g]]
def FromH (τ : Hp) (l : List Int) (u : V) (τ' : Hp) : Prop := (u = .c (.slice none 0 0) ∧ l = [] ∧ τ' = τ) ∨ ∃ k, u = .gl k ∧ l ≠ [] ∧ τ.gr k = none ∧ τ' = τ.setGr k (some ((3, 1), l.map encI))
theorem join_new {σ τ : Hp} (ha : Hp.Apart σ τ) {k : Nat} {x : (TypeId × Nat) × List (List V)} (hk : (σ.join τ).gr k = none) : (σ.join τ).setGr k (some x) = σ.join (τ.setGr k (some x)) ∧ Hp.Apart σ (τ.setGr k (some x)) ∧ τ.gr k = none := by
 have h1 : σ.gr k = none ∧ τ.gr k = none := by
  simp only [Hp.join] at hk
  cases h : σ.gr k with
  | none => rw [h] at hk; exact ⟨rfl, hk⟩
  | some y => rw [h] at hk; cases hk
 refine ⟨Hp.eqs (fun j => rfl) (fun j => ?_), ⟨ha.obj, fun j => ?_⟩, h1.2⟩
 ·by_cases e : j = k
  ·subst e; simp [Hp.join, Hp.setGr, h1.1]
  ·simp [Hp.join, Hp.setGr, e]
 ·by_cases e : j = k
  ·subst e; exact .inl h1.1
  ·simpa [Hp.setGr, e] using ha.gr j
theorem join_del {σ τ : Hp} {k : Nat} {x : (TypeId × Nat) × List (List V)} (ha : Hp.Apart σ (τ.setGr k (some x))) (hk : τ.gr k = none) : (σ.join (τ.setGr k (some x))).setGr k none = σ.join τ ∧ Hp.Apart σ τ := by
 have h1 : σ.gr k = none := by
  rcases ha.gr k with h | h
  ·exact h
  ·simp [Hp.setGr] at h
 refine ⟨Hp.eqs (fun j => rfl) (fun j => ?_), ⟨ha.obj, fun j => ?_⟩⟩
 ·by_cases e : j = k
  ·subst e; simp [Hp.join, Hp.setGr, h1, hk]
  ·simp [Hp.join, Hp.setGr, e]
 ·by_cases e : j = k
  ·subst e; exact .inl h1
  ·simpa [Hp.setGr, e] using ha.gr j
theorem FromH.obj {τ τ' : Hp} {l : List Int} {u : V} (h : FromH τ l u τ') (g : Nat) : τ'.obj g = τ.obj g := by
 rcases h with ⟨_, _, rfl⟩ | ⟨k, _, _, _, rfl⟩ <;> rfl
theorem kids_left (given : List Cnd) (l : List Nd) (i : Nat) (x : Nd) (h : l[i]? = some x) : ((given.filter fun c => (l.take i).all fun k => !readyC k.vars c).filter fun c => !readyC x.vars c) = given.filter fun c => (l.take (i + 1)).all fun k => !readyC k.vars c := by
 rw [List.filter_filter, List.take_add_one, h]
 congr 1
 funext c
 simp [List.all_append, Bool.and_comm]
theorem kidsR_step {put : Pln → OpS → List Int → Pln × Nat} {w : Int} (given : List Cnd) {l : List Nd} {i : Nat} {x : Nd} (h : l[i]? = some x) (r : Pln × List Int) :
  kidsR given (((l.drop i).map (Nd.mkR put w)).zip (l.drop i)) r = kidsR given (((l.drop (i + 1)).map (Nd.mkR put w)).zip (l.drop (i + 1))) ((x.mkR put w r.1 (given.filter (readyC x.vars))).1, r.2 ++ [((x.mkR put w r.1 (given.filter (readyC x.vars))).2 : Int)]) := by
 rw [List.drop_eq_getElem_cons (List.getElem?_eq_some_iff.1 h).1, (List.getElem?_eq_some_iff.1 h).2]; rfl
theorem sum_takeN {l : List Nd} {i : Nat} {x : Nd} (h : l[i]? = some x) : ((l.take (i + 1)).map Nd.size).sum = ((l.take i).map Nd.size).sum + x.size ∧ ((l.take (i + 1)).map Nd.size).sum ≤ (l.map Nd.size).sum := by
 have h1 : ((l.take (i + 1)).map Nd.size).sum = ((l.take i).map Nd.size).sum + x.size := by rw [List.take_add_one, h]; simp
 have h2 : (l.map Nd.size).sum = ((l.take (i + 1)).map Nd.size).sum + ((l.drop (i + 1)).map Nd.size).sum := by rw [← List.sum_append, ← List.map_append, List.take_append_drop]
 exact ⟨h1, by omega⟩
theorem okF78 : okT Tryz.prog 78 = true := by kernel_rfl
theorem szF78 : szT Tryz.prog 78 = 1 := by kernel_rfl
theorem agF78 : aggT Tryz.prog 78 = false := by kernel_rfl
theorem len_i1 (n : Int) : (∀ (e : List V), e ∈ [[V.c (.int .i64 n)]] → e.length = 1) = True := eq_true fun e he => by rw [List.mem_singleton.1 he]; rfl
theorem kinds_at {k : Int} (h1 : 1 ≤ k) (h4 : k ≤ 4) : 0 ≤ k ∧ k < ((5 : Nat) : Int) ∧ k.toNat + 1 ≤ kindsC.length ∧ kindsC.getD k.toNat .junk = .c (.int .i64 (kindOf k)) := by
 have : k = 1 ∨ k = 2 ∨ k = 3 ∨ k = 4 := by omega
 rcases this with rfl | rfl | rfl | rfl <;> exact ⟨by decide, by decide, by decide, rfl⟩
theorem makes_spec {tq : Nat × Nat × Nat} {g gm g4 : Nat} {p : Pat} (n1 : ¬ 0 = g) (n2 : ¬ 0 = gm) (hgn : ¬ g = gm) (hw64 : inI64 p.within) : ∀ n : Nd, n.small → n.err = 0 → n.inr →
  ∀ (x : Pln) (given : List Cnd) (σ τ : Hp), MkH tq g gm x σ → Hp.Apart σ τ → τ.obj g4 = some [makesF p g g4] → x.from_.length = x.ops.length → x.ops.length + n.size < 1048576 → given.length ≤ 16 → (∀ c ∈ given, keyC c) →
  ACalls Tryz.prog 35 [.agg (encNd n), .sl (given.map encC), capZ kindsC, capZ (encPat p), ptrV g4, capZ [ptrV g]] (σ.join τ) (fun v σ' => v = .c (.int .i64 ((n.mkR putM p.within x given).2 : Nat)) ∧ ∃ σ1, MkH tq g gm (n.mkR putM p.within x given).1 σ1 ∧ Hp.Apart σ1 τ ∧ σ' = σ1.join τ) := Nd.ind fun n ih hn he hi x given σ τ hM ha hg4 hx hl hgl hgk => by
 have hlen := hn.len
 obtain ⟨k1, k2, k3, k4, k5⟩ := Nd.own_key he hi
 have hkb : 1 ≤ n.kind ∧ n.kind ≤ 4 := by rcases k5 with ⟨h, _⟩ | ⟨h, _⟩ <;> omega
 obtain ⟨q1, q2, q3, q4⟩ := kinds_at hkb.1 hkb.2
 have hE := (encNd_eq n).symm
 rw [encNd_eq]
 refine ACalls.intro Tryz.call35 Tryz.func35 rfl Tryz.ntmps35 Tryz.results35 (by simp) ?_
 all_goals refine AW.sr trivial ?_
 have hmx : (if (1 : Int) < (n.kids.length : Nat) then ((n.kids.length : Nat) : Int) else 1) = max 1 ((n.kids.length : Nat) : Int) := by split <;> omega
 refine AW.seq_j (fun s' σ' => σ' = σ.join τ ∧ s'.t 1 = .sl (given.map encC) ∧ s'.t 4 = ptrV g4 ∧ s'.t 5 = capZ [ptrV g] ∧ s'.t 6 = .lp 6 0 ∧ s'.l 6 = some [.c (.int .i64 n.kind), .c (.string n.var), .c (.string n.type), .sl (n.tests.map encC), .sl (n.kids.map encNd)] ∧ s'.t 9 = .lp 9 0 ∧ s'.l 9 = some [.c (.int .i64 (kindOf n.kind)), .c (.string n.var), .c (.string n.type), .sl (n.tests.map encC), .c (.slice none 0 0), .c (.int .i64 p.within), .c (.int .i64 (max 1 (n.kids.length : Nat)))]) ?_ ?_
 ·skip
  refine AW.dT { sd := fun d => d == 6 } (.st 0 0 (.st 4 0 (.st 6 0 (.st 8 0 (.st 10 0 (.st 12 0 (.st 1 1 (.st 2 0 (.st 3 1 (.st 5 1 (.st 7 1 (.st 9 1 (.st 11 1 (.st 13 1 (.st 14 0 (.fork 15 (.st 16 0 (.st 17 2 (.st 18 2 .nil))) 17 (.st 15 2 (.st 16 0 (.st 18 2 .nil))))))))))))))))))) ?_
  all_goals have q1q := J10 @Bool.or_self @kill.eq_1 @kill.eq_2 @capZ.eq_1 @encPat.eq_1 q1 q2 q3 q4 hmx
  all_goals iterate 7 refine T.onf q1q ?_
  all_goals have q2q := J10 @Bool.or_self @kill.eq_1 @kill.eq_2 @capZ.eq_1 @encPat.eq_1 q1 q2 q3 q4 hmx
  all_goals (refine T.g rfl trivial rfl rfl fun Y Z => ?_; simp only [zz, simprocAttr, -Int.reduceNatCast', -Int.reduceToNat, tt, q2q]; (refine ⟨5, 3, rfl, (by rw [sz3]; decide), q2, ?_⟩; simp only [tt, Nat.mul_one, Nat.zero_add]) <;> (refine Z _ _ ?_; clear Z Y))
  all_goals iterate 7 refine T.onf q2q ?_
  all_goals (try refine T.fork ?_ ?_)
  all_goals have q3q := J10 @Bool.or_self @kill.eq_1 @kill.eq_2 @capZ.eq_1 @encPat.eq_1 q1 q2 q3 q4 hmx
  all_goals first | (refine T.g rfl trivial rfl rfl fun Y Z => ?_; simp only [zz, simprocAttr, -Int.reduceNatCast', -Int.reduceToNat, q3q]; refine Z _ _ ?_; clear Z Y) | (refine T.g rfl trivial rfl rfl fun Y Z => ?_; simp only [zz, simprocAttr, -Int.reduceNatCast', -Int.reduceToNat, tt, q3q]; refine Z _ _ ?_; clear Z Y)
  all_goals have q4q := J10 @Bool.or_self @kill.eq_1 @kill.eq_2 @capZ.eq_1 @encPat.eq_1 q1 q2 q3 q4 hmx
  all_goals first | (refine T.g rfl trivial rfl rfl fun Y Z => ?_; simp only [zz, simprocAttr, -Int.reduceNatCast', -Int.reduceToNat, tt, q4q]; refine Z _ _ ?_; clear Z Y) | (refine T.g rfl trivial rfl rfl fun Y Z => ?_; simp only [zz, simprocAttr, -Int.reduceNatCast', -Int.reduceToNat, q4q]; refine Z _ _ ?_; clear Z Y)
  all_goals have q5q := J10 @Bool.or_self @kill.eq_1 @kill.eq_2 @capZ.eq_1 @encPat.eq_1 q1 q2 q3 q4 hmx
  all_goals first | (refine T.g rfl trivial rfl rfl fun Y Z => ?_; simp only [zz, simprocAttr, -Int.reduceNatCast', -Int.reduceToNat, tt, q5q]; refine Z _ _ ?_; clear Z Y) | (refine T.g rfl trivial rfl rfl fun Y Z => ?_; simp only [zz, simprocAttr, -Int.reduceNatCast', -Int.reduceToNat, tt, q5q]; refine Z _ _ ?_; clear Z Y)
  all_goals refine T.onf q5q ?_
  all_goals refine T.nil ?_
  all_goals simp only [ze, simprocAttr, q5q]
  all_goals ((try and_intros) <;> first | rfl | assumption | (rfl))
 rintro s σ0 ⟨rfl, e1, e4, e5, e6, l6, e9, l9⟩
 all_goals refine AW.sr e1 ?_
 all_goals refine AW.sr trivial ?_
 refine AW.seq_k fun K4 h4 => ?_
 all_goals refine AW.sr (J2 e6 l6) ?_
 refine AW.block ?_   -- 0
 refine AW.loop (fun m s σ' => ∃ (i : Nat) (xi : Pln) (li : List Int) (σi τi : Hp), m + i = n.kids.length ∧ σ' = σi.join τi ∧ MkH tq g gm xi σi ∧ FromH τ li (s.t 11) τi ∧ Hp.Apart σi τi ∧
  kidsR given ((n.kids.map (Nd.mkR putM p.within)).zip n.kids) (x, []) = kidsR given (((n.kids.drop i).map (Nd.mkR putM p.within)).zip (n.kids.drop i)) (xi, li) ∧ li.length = i ∧ (∀ z ∈ li, inI64 z) ∧ xi.from_.length = xi.ops.length ∧ xi.ops.length ≤ x.ops.length + ((n.kids.take i).map Nd.size).sum ∧
  s.t 1 = .sl (given.map encC) ∧ s.t 4 = ptrV g4 ∧ s.t 5 = capZ [ptrV g] ∧ s.t 9 = .lp 9 0 ∧ s.l 9 = some [.c (.int .i64 (kindOf n.kind)), .c (.string n.var), .c (.string n.type), .sl (n.tests.map encC), .c (.slice none 0 0), .c (.int .i64 p.within), .c (.int .i64 (max 1 (n.kids.length : Nat)))] ∧
  s.t 10 = .sl ((given.filter fun c => (n.kids.take i).all fun k => !readyC k.vars c).map encC) ∧ s.t 35 = .sl (n.kids.map encNd) ∧ s.t 36 = .c (.int .i64 (n.kids.length : Nat)) ∧ s.t 37 = .c (.int .i64 (i : Nat))) n.kids.length ?_ ?_
 ·refine ⟨0, x, [], σ, τ, by simp, rfl, hM, ?_⟩
  simp only [zs, simprocAttr, e1, e4, e5, e9, l9]
  refine ⟨.inl ⟨rfl, rfl, rfl⟩, ha, rfl, (fun z h => by cases h), hx, by simp, ?_⟩
  all_goals ((try and_intros) <;> first | rfl | assumption | ((simp [List.filter_eq_self.2])))
 clear e1 e4 e5 e6 l6 e9 l9 s
 rintro m s σw ⟨i, xi, li, σi, τi, hm, rfl, hMi, hfr, hai, hkr, hlr, hl64, hxi, hli, e1, e4, e5, e9, l9, e10, e35, e36, e37⟩
 all_goals refine AW.sr (J2 e36 e37) ?_
 refine AW.seq_k fun K7 h7 => ?_
 refine AW.cond (b := decide (i < n.kids.length)) (by simp [ev]) (fun hil => ?_) (fun hil => ?_)
 ·have hil := of_decide_eq_true hil
  obtain ⟨k, hkx, hxm, hgd⟩ := kid_get hil
  have hw := wadd1 (a := i) (by omega)
  have hxs := hn.kid hxm
  have hxe := Nd.err_kid he hxm
  have hvs := k.vars_size
  have hkn : k.size ≤ 1048576 := hxs
  obtain ⟨hs1, hs2⟩ := sum_takeN hkx
  have hns := n.size_eq
  have hg4i : τi.obj g4 = some [makesF p g g4] := (hfr.obj g4).trans hg4
  rw [kidsR_step given hkx] at hkr
  have hkill : kill 13 (s.t 11) = s.t 11 := by rcases hfr with ⟨h, _⟩ | ⟨kf, h, _⟩ <;> rw [h] <;> rfl
  have hpl := mkR_len putM_len (w := p.within) k xi (given.filter (readyC k.vars)) hxi
  refine AW.skip ?_
  all_goals simp only [zs, simprocAttr]
  all_goals apply_assumption
  refine AW.seq_k fun K8 h8 => ?_
  refine AW.block ?_   -- 1
  all_goals refine AW.sr (J6 e35 e37 hil hgd @nd @List.length_map.{0,0}) ?_
  refine AW.seq_k fun K10 h10 => ?_
  all_goals refine AW.reg0 ?_
  all_goals iterate 2 refine S.one (J2 e1 @nd) ?_
  all_goals (refine S.g rfl rfl fun Y Z => ?_; simp only [zz, simprocAttr, -Int.reduceNatCast', -Int.reduceToNat, e1, nd]; refine PCalls.eqto (Vars_spec hxs hxe) ?_ <;> (refine Z _ _ ?_; clear Z Y))
  all_goals (refine S.g rfl rfl fun Y Z => ?_; simp only [zz, simprocAttr, -Int.reduceNatCast', -Int.reduceToNat, e1, nd]; refine PCalls.eqto (Split_spec given k.vars (by omega) (by omega)) ?_ <;> (refine Z _ _ ?_; clear Z Y))
  all_goals iterate 5 refine S.one (J2 e1 @nd) ?_
  all_goals (refine S.nil ?_; simp only [ze, simprocAttr, e1, nd]; apply_assumption)
  refine AW.seq_j (fun s' σ' => σ' = σi.join τi ∧ s'.t 1 = .sl (given.map encC) ∧ s'.t 4 = ptrV g4 ∧ s'.t 5 = capZ [ptrV g] ∧ s'.t 9 = .lp 9 0 ∧ s'.l 9 = some [.c (.int .i64 (kindOf n.kind)), .c (.string n.var), .c (.string n.type), .sl (n.tests.map encC), .c (.slice none 0 0), .c (.int .i64 p.within), .c (.int .i64 (max 1 (n.kids.length : Nat)))] ∧
   s'.t 10 = .sl ((given.filter fun c => (n.kids.take (i + 1)).all fun k => !readyC k.vars c).map encC) ∧ s'.t 11 = s.t 11 ∧ s'.t 13 = .lp 13 0 ∧ s'.l 13 = some (encNd k) ∧ s'.t 14 = .sl ((given.filter (readyC k.vars)).map encC) ∧ s'.t 35 = .sl (n.kids.map encNd) ∧ s'.t 36 = .c (.int .i64 (n.kids.length : Nat)) ∧ s'.t 37 = .c (.int .i64 (i : Nat))) ?_ ?_
  ·rw [← kids_left given n.kids i k hkx]
   refine AW.reg0 ?_
   iterate 2 refine S.one (J11 e1 e4 e5 e9 l9 e10 e35 e36 e37 hkill @nd) ?_
   (refine S.g rfl rfl fun Y Z => ?_; simp only [zz, simprocAttr, -Int.reduceNatCast', -Int.reduceToNat, e1, e4, e5, e9, l9, e10, e35, e36, e37, hkill, nd]; refine PCalls.eqto (Vars_spec hxs hxe) ?_ <;> (refine Z _ _ ?_; clear Z Y))
   all_goals have q6q := J11 e1 e4 e5 e9 l9 e10 e35 e36 e37 hkill @nd
   all_goals (refine S.g rfl rfl fun Y Z => ?_; simp only [zz, simprocAttr, -Int.reduceNatCast', -Int.reduceToNat, q6q]; refine PCalls.eqto (Split_spec (given.filter fun c => (n.kids.take i).all fun k => !readyC k.vars c) k.vars (by have := List.length_filter_le (fun c => (n.kids.take i).all fun k => !readyC k.vars c) given; omega) (by omega)) ?_ <;> (refine Z _ _ ?_; clear Z Y))
   all_goals iterate 4 refine S.one q6q ?_
   all_goals refine S.nil ?_
   all_goals simp only [ze, simprocAttr, q6q]
   all_goals ((try and_intros) <;> first | rfl | assumption | (rfl))
  clear e1 e4 e5 e9 l9 e10 e35 e36 e37
  rintro s2 σ2 ⟨rfl, e1, e4, e5, e9, l9, e10, e11, e13, l13, e14, e35, e36, e37⟩
  have hgr : (σi.join τi).obj g4 = some [makesF p g g4] := hai.objR hg4i
  have hFk : isMap [makesF p g g4] = false := rfl
  have y3 : (1 ≤ maxLen) = True := eq_true (by unfold maxLen; omega)
  have y5 : (8 ≤ reach) = True := eq_true (by unfold reach; omega)
  have hz := len_i1 ((k.mkR putM p.within xi (given.filter (readyC k.vars))).2 : Nat)
  rcases hfr with ⟨hu, hl0, rfl⟩ | ⟨kf, hu, hl0, hkf, rfl⟩
  ·rw [hu] at e11
   subst hl0
   refine AW.reg0 ?_
   iterate 4 refine S.one (J12 e1 e4 e5 e9 l9 e10 e11 e13 l13 e14 e35 (J12 e36 e37 @ptrV.eq_1 hgr @makesF.eq_1 @isMap_fn @okF78 @szF78 @agF78 @capZ.eq_1 @nd (J3 y3 y5 hz))) ?_
   (refine S.g rfl rfl fun Y Z => ?_; simp only [zz, simprocAttr, -Int.reduceNatCast', -Int.reduceToNat, e1, e4, e5, e9, l9, e10, e11, e13, l13, e14, e35, e36, e37, ptrV, hgr, makesF, isMap_fn, okF78, szF78, agF78, capZ, nd, y3, y5, hz]; (refine ACalls.to (ih k hxm hxs hxe (hi.kid hxm) xi (given.filter (readyC k.vars)) σi _ hMi hai hg4i hxi (by omega) (Nat.le_trans (List.length_filter_le ..) hgl) (fun c hc => hgk c (List.mem_filter.1 hc).1)) ?_; rintro v1 σ1 ⟨rfl, σ2, hM2, ha2, rfl⟩; first | have hgr2 := ha2.grR hkf2 | have hgr2 : True := trivial) <;> (refine Z _ _ ?_; clear Z Y))
   all_goals (refine S.g rfl rfl fun Y Z => ?_; simp only [zb, simprocAttr, -Int.reduceNatCast', -Int.reduceToNat, tt, e1, e4, e5, e9, l9, e10, e11, e13, l13, e14, e35, e36, e37, ptrV, hgr, makesF, isMap_fn, okF78, szF78, agF78, capZ, nd, y3, y5, hz]; refine Z _ _ ?_; clear Z Y)
   all_goals (refine S.g rfl rfl fun Y Z => ?_; simp only [zz, simprocAttr, -Int.reduceNatCast', -Int.reduceToNat, tt, e1, e4, e5, e9, l9, e10, e11, e13, l13, e14, e35, e36, e37, ptrV, hgr, makesF, isMap_fn, okF78, szF78, agF78, capZ, nd, y3, y5, hz, hgr2, List.length_append]; intro k1 hk1 <;> (refine Z _ _ ?_; clear Z Y))
   all_goals have q7q := J12 e1 e4 e5 e9 l9 e10 e11 e13 l13 e14 e35 (J12 e36 e37 @ptrV.eq_1 hgr @makesF.eq_1 @isMap_fn @okF78 @szF78 @agF78 @capZ.eq_1 @nd (J3 y3 y5 hz))
   all_goals refine S.one q7q ?_
   all_goals refine S.nil ?_
   all_goals simp only [ze, simprocAttr, q7q]
   obtain ⟨hj1, hj2, hj3⟩ := join_new ha2 (x := ((3, 1), [[V.c (.int .i64 ((k.mkR putM p.within xi (given.filter (readyC k.vars))).2 : Nat))]])) hk1
   rw [hj1]
   all_goals apply_assumption
   all_goals have q8q := J12 e1 e4 e5 e9 l9 e10 e35 e36 e37 @ptrV.eq_1 @capZ.eq_1 hw
   all_goals refine AW.reg0 (S.rn q8q ?_)
   all_goals simp only [ze, simprocAttr, q8q]
   refine ⟨m - 1, by omega, i + 1, (k.mkR putM p.within xi (given.filter (readyC k.vars))).1, [((k.mkR putM p.within xi (given.filter (readyC k.vars))).2 : Int)], σ2, _, by omega, rfl, hM2, .inr ⟨k1, rfl, by simp, hj3, rfl⟩, hj2, hkr, by rw [← hlr]; rfl, (fun z h => by rw [List.mem_singleton.1 h]; unfold inI64; omega), hpl.1, by omega, ?_⟩
   all_goals ((try and_intros) <;> first | rfl | assumption | (rfl))
  ·have hkf2 : (τ.setGr kf (some ((3, 1), li.map encI))).gr kf = some ((3, 1), li.map encI) := by simp
   have y1 : (li.length + 1 ≤ maxLen) = True := eq_true (by unfold maxLen; have := hlr; omega)
   have y2 : ((li.length + 1) * 8 ≤ reach) = True := eq_true (by unfold reach; have := hlr; omega)
   rw [hu] at e11
   refine AW.reg0 ?_
   iterate 4 refine S.one (J12 e1 e4 e5 e9 l9 e10 e11 e13 l13 e14 e35 (J12 e36 e37 @ptrV.eq_1 hgr @makesF.eq_1 @isMap_fn @okF78 @szF78 @agF78 @capZ.eq_1 @nd (J6 y1 y2 y3 y5 hz @List.length_map.{0,0}))) ?_
   (refine S.g rfl rfl fun Y Z => ?_; simp only [zz, simprocAttr, -Int.reduceNatCast', -Int.reduceToNat, e1, e4, e5, e9, l9, e10, e11, e13, l13, e14, e35, e36, e37, ptrV, hgr, makesF, isMap_fn, okF78, szF78, agF78, capZ, nd, y1, y2, y3, y5, hz, List.length_map]; (refine ACalls.to (ih k hxm hxs hxe (hi.kid hxm) xi (given.filter (readyC k.vars)) σi _ hMi hai hg4i hxi (by omega) (Nat.le_trans (List.length_filter_le ..) hgl) (fun c hc => hgk c (List.mem_filter.1 hc).1)) ?_; rintro v1 σ1 ⟨rfl, σ2, hM2, ha2, rfl⟩; first | have hgr2 := ha2.grR hkf2 | have hgr2 : True := trivial) <;> (refine Z _ _ ?_; clear Z Y))
   all_goals (refine S.g rfl rfl fun Y Z => ?_; simp only [zb, simprocAttr, -Int.reduceNatCast', -Int.reduceToNat, tt, e1, e4, e5, e9, l9, e10, e11, e13, l13, e14, e35, e36, e37, ptrV, hgr, makesF, isMap_fn, okF78, szF78, agF78, capZ, nd, y1, y2, y3, y5, hz, List.length_map]; refine Z _ _ ?_; clear Z Y)
   all_goals (refine S.g rfl rfl fun Y Z => ?_; simp only [zz, simprocAttr, -Int.reduceNatCast', -Int.reduceToNat, tt, e1, e4, e5, e9, l9, e10, e11, e13, l13, e14, e35, e36, e37, ptrV, hgr, makesF, isMap_fn, okF78, szF78, agF78, capZ, nd, y1, y2, y3, y5, hz, List.length_map, hgr2, List.length_append]; intro k1 hk1 <;> (refine Z _ _ ?_; clear Z Y))
   all_goals have q9q := J12 e1 e4 e5 e9 l9 e10 e11 e13 l13 e14 e35 (J12 e36 e37 @ptrV.eq_1 hgr @makesF.eq_1 @isMap_fn @okF78 @szF78 @agF78 @capZ.eq_1 @nd (J6 y1 y2 y3 y5 hz @List.length_map.{0,0}))
   all_goals refine S.one q9q ?_
   all_goals refine S.nil ?_
   all_goals simp only [ze, simprocAttr, q9q]
   obtain ⟨hd1, hd2⟩ := join_del ha2 hkf
   have hk1 : (σ2.join τ).gr k1 = none := by rw [← hd1]; simpa [Hp.setGr] using hk1
   rw [hd1]
   obtain ⟨hj1, hj2, hj3⟩ := join_new hd2 (x := ((3, 1), li.map encI ++ [[V.c (.int .i64 ((k.mkR putM p.within xi (given.filter (readyC k.vars))).2 : Nat))]])) hk1
   rw [hj1]
   all_goals apply_assumption
   all_goals have q10q := J12 e1 e4 e5 e9 l9 e10 e35 e36 e37 @ptrV.eq_1 @capZ.eq_1 hw
   all_goals refine AW.reg0 (S.rn q10q ?_)
   all_goals simp only [ze, simprocAttr, q10q]
   refine ⟨m - 1, by omega, i + 1, (k.mkR putM p.within xi (given.filter (readyC k.vars))).1, li ++ [((k.mkR putM p.within xi (given.filter (readyC k.vars))).2 : Int)], σ2, _, by omega, rfl, hM2, .inr ⟨k1, rfl, by simp, hj3, by rw [List.map_append]; rfl⟩, hj2, hkr, by simp [hlr], (fun z h => by
    rcases List.mem_append.1 h with h | h
    ·exact hl64 z h
    ·rw [List.mem_singleton.1 h]; unfold inI64; omega), hpl.1, by omega, ?_⟩
   all_goals ((try and_intros) <;> first | rfl | assumption | (rfl))
 ·have hil := of_decide_eq_false hil
  obtain rfl : i = n.kids.length := by omega
  rw [List.drop_of_length_le (Nat.le_refl _)] at hkr
  rw [List.take_of_length_le (Nat.le_refl _)] at hli e10
  have hkr : kidsR given ((n.kids.map (Nd.mkR putM p.within)).zip n.kids) (x, []) = (xi, li) := hkr
  have hns := n.size_eq
  have hput := Nd.mkR_eq putM p.within n x given
  rw [hkr] at hput
  have hat : Hp.Apart σi τ := by
   rcases hfr with ⟨_, _, rfl⟩ | ⟨kf, _, _, hkf, rfl⟩
   ·exact hai
   ·exact (join_del hai hkf).2
  generalize hfr' : (if n.kids.length = 0 then [(-1 : Int)] else li) = fr at hput
  have hf64 : ∀ z ∈ fr, inI64 z := by
   subst hfr'
   intro z hz
   split at hz
   ·rw [List.mem_singleton.1 hz]; unfold inI64; omega
   ·exact hl64 z hz
  have hfl : fr.length < 1048576 := by
   subst hfr'
   split
   ·decide
   ·omega
  have hkp : keyP (opOf n given p.within) := ⟨by show inI64 (kindOf n.kind); unfold inI64 kindOf; repeat' split <;> omega, by show n.var.size ≤ _; omega, by show n.type.size ≤ _; omega, by show n.tests.length < _; omega,
   by show (given.filter _).length < _; exact Nat.lt_of_le_of_lt (List.length_filter_le ..) (by omega), k4, fun c hc => hgk c (List.mem_filter.1 hc).1⟩
  have hcall := ACalls.beside (put_spec n1 n2 hgn hMi hxi (by omega) (opOf n given p.within) fr hkp hf64 hfl) hat
  rw [← hput] at hcall
  refine AW.exit ?_
  all_goals simp only [zs, simprocAttr]
  all_goals apply_assumption
  refine AW.st (fun s' => s'.t 5 = capZ [ptrV g] ∧ s'.t 9 = .lp 9 0 ∧ s'.l 9 = some [.c (.int .i64 (kindOf n.kind)), .c (.string n.var), .c (.string n.type), .sl (n.tests.map encC), .c (.slice none 0 0), .c (.int .i64 p.within), .c (.int .i64 (max 1 (n.kids.length : Nat)))] ∧ s'.t 10 = .sl ((given.filter fun c => n.kids.all fun k => !readyC k.vars c).map encC) ∧ s'.t 11 = s.t 11) ?_ ?_
  ·simp only [zs, simprocAttr, e5, e9, l9, e10]
   all_goals ((try and_intros) <;> first | rfl | assumption | (rfl))
  clear e1 e4 e5 e9 l9 e10 e35 e36 e37
  rintro s2 ⟨e5, e9, l9, e10, e11⟩
  refine AW.seq_j (fun s' σ' => σ' = σi.join τ ∧ s'.t 5 = capZ [ptrV g] ∧ s'.t 9 = .lp 9 0 ∧ s'.l 9 = some [.c (.int .i64 (kindOf n.kind)), .c (.string n.var), .c (.string n.type), .sl (n.tests.map encC), .c (.slice none 0 0), .c (.int .i64 p.within), .c (.int .i64 (max 1 (n.kids.length : Nat)))] ∧ s'.t 10 = .sl ((given.filter fun c => n.kids.all fun k => !readyC k.vars c).map encC) ∧ s'.t 11 = .sl (fr.map encI)) ?_ ?_
  ·rcases hfr with ⟨hu, hl0, rfl⟩ | ⟨kf, hu, hl0, hkf, rfl⟩ <;> rw [hu] at e11
   ·have h0 : n.kids.length = 0 := by rw [← hlr, hl0]; rfl
    rw [if_pos h0] at hfr'
    subst hfr'
    refine AW.sr (J5 e11 e5 e9 l9 e10) ?_
    refine AW.cond (b := true) (by simp [ev]) (fun _ => ?_) (fun h => by cases h)
    all_goals refine AW.reg0 ?_
    all_goals iterate 2 (refine S.g rfl rfl fun Y Z => ?_; simp only [zb, simprocAttr, -Int.reduceNatCast', -Int.reduceToNat, tt, e11, e5, e9, l9, e10]; refine Z _ _ ?_; clear Z Y)
    all_goals refine S.nil ?_
    all_goals simp only [ze, simprocAttr, e11, e5, e9, l9, e10]
    all_goals ((try and_intros) <;> first | rfl | assumption | (rfl))
   ·obtain ⟨hd1, hd2⟩ := join_del hai hkf
    refine AW.freeze (k := kf) (T := (3, 1)) (es := li.map encI) (hai.grR (by simp)) ?_
    rw [hd1]
    have f5 : (s2.fz kf (li.map encI)).t 5 = capZ [ptrV g] := by simp [e5, fzV, fz1, capZ, ptrV]
    have f9 : (s2.fz kf (li.map encI)).t 9 = .lp 9 0 := by simp [e9, fzV, fz1]
    have f10 : (s2.fz kf (li.map encI)).t 10 = .sl ((given.filter fun c => n.kids.all fun k => !readyC k.vars c).map encC) := by simp [e10, fzV, fz1]
    have f11 : (s2.fz kf (li.map encI)).t 11 = .sl (li.map encI) := by simp [e11, fzV, fz1]
    have m9 : (s2.fz kf (li.map encI)).l 9 = some [.c (.int .i64 (kindOf n.kind)), .c (.string n.var), .c (.string n.type), .sl (n.tests.map encC), .c (.slice none 0 0), .c (.int .i64 p.within), .c (.int .i64 (max 1 (n.kids.length : Nat)))] := by simp [l9, fz1]
    generalize s2.fz kf (li.map encI) = s3 at *
    have h0 : ¬ n.kids.length = 0 := fun h => hl0 (List.eq_nil_of_length_eq_zero (by omega))
    have hli0 : ¬ ((li.length : Int) = 0) := by omega
    rw [if_neg h0] at hfr'
    subst hfr'
    refine AW.sr (J6 f5 f9 m9 f10 f11 @List.length_map.{0,0}) ?_
    refine AW.cond (b := false) (by simp [ev, hl0]) (fun h => by cases h) (fun _ => AW.skip ?_)
    all_goals simp only [zs, simprocAttr, f5, f9, m9, f10, f11]
    all_goals ((try and_intros) <;> first | rfl | assumption | (rfl))
  clear e5 e9 l9 e10 e11
  rintro s3 σ3 ⟨rfl, e5, e9, l9, e10, e11⟩
  simp only [encOp, opOf, ptrV] at hcall
  all_goals refine AW.sr (J5 e5 e9 l9 e10 e11) ?_
  refine AW.seq_k fun K14 h14 => ?_
  all_goals refine AW.reg0 ?_
  all_goals iterate 3 refine S.one (J7 e5 e9 l9 e10 e11 @capZ.eq_1 @ptrV.eq_1) ?_
  all_goals have q11q := J7 e5 e9 l9 e10 e11 @capZ.eq_1 @ptrV.eq_1
  all_goals (refine S.g rfl rfl fun Y Z => ?_; simp only [zz, simprocAttr, -Int.reduceNatCast', -Int.reduceToNat, q11q]; (refine ACalls.to hcall ?_; rintro v1 σ1 ⟨σ2, ⟨rfl, hM2⟩, ha2, rfl⟩) <;> (refine Z _ _ ?_; clear Z Y))
  all_goals refine S.one q11q ?_
  all_goals (refine S.nil ?_; simp only [ze, simprocAttr, q11q]; apply_assumption)
  refine AW.ret ?_
  all_goals simp only [zs, simprocAttr]
  exact ⟨σ2, hM2, ha2, rfl⟩
def nilV : V := .c (.slice none 0 0)
structure Dn (τ : Hp) (kd m : Nat) (A : List V) (R : Nat → List Cnd) (σ : Hp) : Prop where
  len : A.length = m + 1
  obj : ∀ g, σ.obj g = τ.obj g
  kd0 : τ.gr kd = none
  at_ : σ.gr kd = some ((22, 1), (A.take m).map fun v => [v])
  row : ∀ (j : Nat) (v : V), A[j]? = some v → (v = nilV ∧ R j = []) ∨ ∃ k, v = .gl k ∧ k ≠ kd ∧ τ.gr k = none ∧ σ.gr k = some ((47, 11), (R j).map encC)
  inj : ∀ i j k : Nat, A[i]? = some (.gl k) → A[j]? = some (.gl k) → i = j
  old : ∀ k x, τ.gr k = some x → σ.gr k = some x
theorem Dn.put {τ σ σ' : Hp} {kd m : Nat} {A : List V} {R : Nat → List Cnd} (h : Dn τ kd m A R σ) {j k1 : Nat} {v : V} {c : Cnd} (hv : A[j]? = some v) (hob : ∀ g, σ'.obj g = σ.obj g)
  (h1 : σ'.gr k1 = some ((47, 11), (R j ++ [c]).map encC)) (hkd : σ'.gr kd = some ((22, 1), ((A.set j (.gl k1)).take m).map fun v => [v])) (hne : k1 ≠ kd) (hfr : σ.gr k1 = none ∨ v = .gl k1)
  (hrest : ∀ k, k ≠ k1 → k ≠ kd → v ≠ .gl k → σ'.gr k = σ.gr k) : Dn τ kd m (A.set j (.gl k1)) (fun i => if i = j then R i ++ [c] else R i) σ' := by
 have hjl : j < A.length := (List.getElem?_eq_some_iff.1 hv).1
 have hk1 : τ.gr k1 = none := by
  rcases hfr with h2 | h2
  ·cases e : τ.gr k1 with
   | none => rfl
   | some x => rw [h.old k1 x e] at h2; cases h2
  ·subst h2
   rcases h.row j _ hv with ⟨h3, _⟩ | ⟨k, h3, _, h4, _⟩
   ·cases h3
   ·injection h3 with h3; rw [h3]; exact h4
 have far : ∀ i u, i ≠ j → A[i]? = some u → ∀ k, u = .gl k → k ≠ k1 ∧ v ≠ .gl k := fun i u hij hu k hk => by
  subst hk
  refine ⟨fun e => ?_, fun e => ?_⟩
  ·subst e
   rcases hfr with h2 | h2
   ·rcases h.row i _ hu with ⟨h3, _⟩ | ⟨k', h3, _, _, h4⟩
    ·cases h3
    ·injection h3 with h3; rw [← h3, h2] at h4; cases h4
   ·rw [h2] at hv; exact hij (h.inj i j k hu hv)
  ·rw [e] at hv; exact hij (h.inj i j k hu hv)
 refine ⟨by simpa using h.len, fun g => (hob g).trans (h.obj g), h.kd0, hkd, fun i u hu => ?_, fun i i' k hi hi' => ?_, fun k x hx => ?_⟩
 ·by_cases hij : i = j
  ·subst hij
   rw [List.getElem?_set_self hjl] at hu
   injection hu with hu
   exact .inr ⟨k1, hu.symm, hne, hk1, by rw [if_pos rfl]; exact h1⟩
  ·rw [List.getElem?_set_ne (Ne.symm hij)] at hu
   rw [if_neg hij]
   rcases h.row i u hu with h2 | ⟨k, h3, h4, h5, h6⟩
   ·exact .inl h2
   ·obtain ⟨h7, h8⟩ := far i u hij hu k h3
    exact .inr ⟨k, h3, h4, h5, (hrest k h7 h4 h8).trans h6⟩
 ·by_cases hij : i = j
  ·by_cases hij' : i' = j
   ·rw [hij, hij']
   ·subst hij
    rw [List.getElem?_set_self hjl] at hi
    rw [List.getElem?_set_ne (Ne.symm hij')] at hi'
    injection hi with hi; injection hi with hi
    exact absurd hi.symm (far i' _ hij' hi' k rfl).1
  ·by_cases hij' : i' = j
   ·subst hij'
    rw [List.getElem?_set_self hjl] at hi'
    rw [List.getElem?_set_ne (Ne.symm hij)] at hi
    injection hi' with hi'; injection hi' with hi'
    exact absurd hi'.symm (far i _ hij hi k rfl).1
   ·rw [List.getElem?_set_ne (Ne.symm hij)] at hi
    rw [List.getElem?_set_ne (Ne.symm hij')] at hi'
    exact h.inj i i' k hi hi'
 ·have h2 : k ≠ k1 := fun e => by rw [e, hk1] at hx; cases hx
  have h3 : k ≠ kd := fun e => by rw [e, h.kd0] at hx; cases hx
  have h4 : v ≠ .gl k := fun e => by
   rcases h.row j v hv with ⟨h5, _⟩ | ⟨k', h5, _, h6, _⟩
   ·rw [e] at h5; cases h5
   ·rw [e] at h5; injection h5 with h5; rw [← h5, hx] at h6; cases h6
  exact (hrest k h2 h3 h4).trans (h.old k x hx)
theorem Dn.congr {τ σ : Hp} {kd m : Nat} {A : List V} {R R' : Nat → List Cnd} (h : Dn τ kd m A R σ) (hR : ∀ j, j ≤ m → R j = R' j) : Dn τ kd m A R' σ :=
 ⟨h.len, h.obj, h.kd0, h.at_, fun j v hv => by
  have hj : j ≤ m := by have := (List.getElem?_eq_some_iff.1 hv).1; rw [h.len] at this; omega
  rw [← hR j hj]; exact h.row j v hv, h.inj, h.old⟩
theorem take_set_map {A : List V} {m j : Nat} {v : V} : (((A.set j v).take m).map fun v => [v]) = ((A.take m).map fun v => [v]).set j [v] := by
 rw [List.take_set, List.map_set]
theorem take_set_at {A : List V} {m : Nat} {v : V} : ((A.set m v).take m) = A.take m := by
 rw [List.take_set, List.set_eq_of_length_le (by rw [List.length_take]; omega)]
theorem Dn.put_new {τ σ : Hp} {kd m : Nat} {A : List V} {R R' : Nat → List Cnd} (h : Dn τ kd m A R σ) {j k1 : Nat} {c : Cnd} (hv : A[j]? = some nilV) (hR0 : R j = []) (hk1 : σ.gr k1 = none) (hR : ∀ i, i ≤ m → (if i = j then R i ++ [c] else R i) = R' i) :
  Dn τ kd m (A.set j (.gl k1)) R' ((σ.setGr k1 (some ((47, 11), [encC c]))).setGr kd (some ((22, 1), ((A.take m).map fun v => [v]).set j [.gl k1]))) := by
 have hne : k1 ≠ kd := fun e => by rw [e, h.at_] at hk1; cases hk1
 refine Dn.congr ?_ hR
 refine h.put (c := c) hv (k1 := k1) (fun _ => rfl) ?_ ?_ hne (.inl hk1) fun k h1 h2 _ => ?_
 ·simp [Hp.setGr, hne, hR0]
 ·simp only [Hp.setGr, if_true, take_set_map]
 ·simp [Hp.setGr, h1, h2]
theorem Dn.put_more {τ σ : Hp} {kd m : Nat} {A : List V} {R R' : Nat → List Cnd} (h : Dn τ kd m A R σ) {j k1 kk : Nat} {c : Cnd} (hv : A[j]? = some (.gl kk)) (hne : ¬ kd = k1) (hk1 : k1 = kk ∨ σ.gr k1 = none) (hR : ∀ i, i ≤ m → (if i = j then R i ++ [c] else R i) = R' i) :
  Dn τ kd m (A.set j (.gl k1)) R' (((σ.setGr kk none).setGr k1 (some ((47, 11), (R j).map encC ++ [encC c]))).setGr kd (some ((22, 1), ((A.take m).map fun v => [v]).set j [.gl k1]))) := by
 refine Dn.congr ?_ hR
 refine h.put (c := c) hv (k1 := k1) (fun _ => rfl) ?_ ?_ (Ne.symm hne) (hk1.elim (fun e => .inr (by rw [e])) .inl) fun k h1 h2 h3 => ?_
 ·simp [Hp.setGr, Ne.symm hne]
 ·simp only [Hp.setGr, if_true, take_set_map]
 ·have : k ≠ kk := fun e => h3 (by rw [e])
  simp [Hp.setGr, h1, h2, this]
theorem Dn.box_new {τ σ : Hp} {kd m : Nat} {A : List V} {R R' : Nat → List Cnd} (h : Dn τ kd m A R σ) {k1 : Nat} {c : Cnd} (hv : A[m]? = some nilV) (hR0 : R m = []) (hk1 : σ.gr k1 = none) (hR : ∀ i, i ≤ m → (if i = m then R i ++ [c] else R i) = R' i) :
  Dn τ kd m (A.set m (.gl k1)) R' (σ.setGr k1 (some ((47, 11), [encC c]))) := by
 have hne : k1 ≠ kd := fun e => by rw [e, h.at_] at hk1; cases hk1
 refine Dn.congr ?_ hR
 refine h.put (c := c) hv (k1 := k1) (fun _ => rfl) ?_ ?_ hne (.inl hk1) fun k h1 h2 _ => ?_
 ·simp [Hp.setGr, hR0]
 ·rw [take_set_at]; simp only [Hp.setGr, if_neg (Ne.symm hne)]; exact h.at_
 ·simp [Hp.setGr, h1]
theorem Dn.box_more {τ σ : Hp} {kd m : Nat} {A : List V} {R R' : Nat → List Cnd} (h : Dn τ kd m A R σ) {k1 kk : Nat} {c : Cnd} (hv : A[m]? = some (.gl kk)) (hne : ¬ kd = k1) (hkk : kk ≠ kd) (hk1 : k1 = kk ∨ σ.gr k1 = none) (hR : ∀ i, i ≤ m → (if i = m then R i ++ [c] else R i) = R' i) :
  Dn τ kd m (A.set m (.gl k1)) R' ((σ.setGr kk none).setGr k1 (some ((47, 11), (R m).map encC ++ [encC c]))) := by
 refine Dn.congr ?_ hR
 refine h.put (c := c) hv (k1 := k1) (fun _ => rfl) ?_ ?_ (Ne.symm hne) (hk1.elim (fun e => .inr (by rw [e])) .inl) fun k h1 h2 h3 => ?_
 ·simp [Hp.setGr]
 ·rw [take_set_at]; simp only [Hp.setGr, if_neg hne, if_neg (Ne.symm hkk)]; exact h.at_
 ·have : k ≠ kk := fun e => h3 (by rw [e])
  simp [Hp.setGr, h1, this]
theorem map_wk1_encC (l : List Cnd) : (l.map encC).map (List.map wk1) = l.map encC := by
 rw [List.map_map]; exact List.map_congr_left fun c _ => encC_wk c
theorem map_thaw_encC (π : Hp) (n : Nat) (c : Cnd) : (encC c).map (thaw π n) = encC c := by
 cases n <;> rfl
theorem AW.dn {P : Program} {n : Nat} {c : Code} {Q : Exit → St → Hp → Prop} {s : St} {τ σ : Hp} {kd m : Nat} {A : List V} {R : Nat → List Cnd} (hd : Dn τ kd m A R σ)
  (hk : ∀ π : Hp, wkD (thaw π 2 (.gl kd)) = .sl ((List.range m).map fun j => [.sl ((R j).map encC)]) → (∀ (j : Nat) (v : V), A[j]? = some v → wkD (thaw π 2 v) = .sl ((R j).map encC)) → AW P n c Q ((s.mapV (thaw π 2)).mapV Go.Abs.wkD) τ) : AW P n c Q s σ := by
 have one : ∀ (π : Hp), (∀ k x, τ.gr k = none → σ.gr k = some x → π.gr k = some x) → ∀ (i : Nat) (j : Nat) (v : V), A[j]? = some v → wk1 (thaw π (i + 1) v) = .sl ((R j).map encC) := fun π hπ i j v hv => by
  rcases hd.row j v hv with ⟨rfl, h2⟩ | ⟨k, rfl, _, h3, h4⟩
  ·rw [h2]; rfl
  ·have h5 := hπ k _ h3 h4
   simp only [thaw, h5]
   rw [List.map_map]
   show V.sl _ = _
   congr 1
   exact List.map_congr_left fun c _ => map_thaw_encC π i c
 let π : Hp := ⟨fun _ => none, fun k => match τ.gr k with | some _ => none | none => σ.gr k⟩
 have hπ : ∀ k x, τ.gr k = none → σ.gr k = some x → π.gr k = some x := fun k x h1 h2 => by show (match τ.gr k with | some _ => none | none => σ.gr k) = _; rw [h1]; exact h2
 refine AW.lend (π := π) (ρ := τ) ⟨fun g c h => (by cases h), fun k x h => ?_⟩ ⟨fun g c h => (hd.obj g).trans h, hd.old⟩ ⟨fun g => .inr rfl, fun k => ?_⟩ 2 (AW.wkD (hk π ?_ fun j v hv => ?_))
 ·have h : (match τ.gr k with | some _ => none | none => σ.gr k) = some x := h
  split at h
  ·cases h
  ·exact h
 ·show τ.gr k = none ∨ (match τ.gr k with | some _ => none | none => σ.gr k) = none
  cases τ.gr k
  ·exact .inl rfl
  ·exact .inr rfl
 ·have h1 := hπ kd _ hd.kd0 hd.at_
  simp only [thaw, h1, wkD]
  rw [List.map_map, List.map_map]
  congr 1
  refine List.ext_getElem? fun j => ?_
  by_cases hj : j < m
  ·have hjl : j < A.length := by rw [hd.len]; omega
   have h2 := one π hπ 0 j A[j] (List.getElem?_eq_getElem hjl)
   simp only [List.getElem?_map, List.getElem?_take, if_pos hj, List.getElem?_eq_getElem hjl, Option.map_some, List.getElem?_range hj, Function.comp, List.map_cons, List.map_nil]
   rw [h2]
  ·rw [List.getElem?_eq_none (by simp; omega), List.getElem?_eq_none (by simp; omega)]
 ·rcases hd.row j v hv with ⟨rfl, h2⟩ | ⟨k, rfl, _, h3, h4⟩
  ·rw [h2]; rfl
  ·have h5 := hπ k _ h3 h4
   simp only [thaw, h5, wkD]
   rw [List.map_map, List.map_map]
   congr 1
def rowR (n : Nd) (given : List Cnd) (i k j : Nat) : List Cnd := match n.kids[j]? with
  | some x => (given.take (if j < k then i + 1 else i)).filter (readyC x.vars)
  | none => (given.take i).filter fun c => n.kids.all fun x => !readyC x.vars c
theorem rowR_go {n x : Nd} {given : List Cnd} {i k : Nat} {c : Cnd} (hc : given[i]? = some c) (hk : n.kids[k]? = some x) (hr : readyC x.vars c = true) (j : Nat) : (if j = k then rowR n given i k j ++ [c] else rowR n given i k j) = rowR n given i (k + 1) j := by
  by_cases e : j = k
  · subst e
    simp only [rowR, hk, if_true, if_neg (Nat.lt_irrefl j), if_pos (Nat.lt_succ_self j)]
    rw [filter_step' hc, if_pos hr]
  · rw [if_neg e]
    simp only [rowR]
    cases n.kids[j]? with
    | none => rfl
    | some y =>
      have : (j < k) = (j < k + 1) := propext ⟨fun h => by omega, fun h => by omega⟩
      simp only [this]
theorem rowR_no {n x : Nd} {given : List Cnd} {i k : Nat} {c : Cnd} (hc : given[i]? = some c) (hk : n.kids[k]? = some x) (hr : readyC x.vars c = false) (j : Nat) : rowR n given i k j = rowR n given i (k + 1) j := by
  by_cases e : j = k
  · subst e
    simp only [rowR, hk, if_neg (Nat.lt_irrefl j), if_pos (Nat.lt_succ_self j)]
    rw [filter_step' hc, hr, if_neg Bool.false_ne_true, List.append_nil]
  · simp only [rowR]
    cases n.kids[j]? with
    | none => rfl
    | some y =>
      have : (j < k) = (j < k + 1) := propext ⟨fun h => by omega, fun h => by omega⟩
      simp only [this]
theorem rowR_len {n : Nd} {given : List Cnd} {i k j : Nat} (h : given.length ≤ 17) : (rowR n given i k j).length ≤ 17 := by
 simp only [rowR]
 split
 ·exact Nat.le_trans (List.length_filter_le ..) (Nat.le_trans (List.length_take_le' ..) h)
 ·exact Nat.le_trans (List.length_filter_le ..) (Nat.le_trans (List.length_take_le' ..) h)
theorem rowR_up {n : Nd} {given : List Cnd} {i j : Nat} (hj : j < n.kids.length) : rowR n given i n.kids.length j = rowR n given (i + 1) 0 j := by
 simp only [rowR, List.getElem?_eq_getElem hj, if_pos hj, if_neg (Nat.not_lt_zero j)]
theorem rowR_end {n : Nd} {given : List Cnd} {i : Nat} {c : Cnd} (hc : given[i]? = some c) (j : Nat) (hj : j ≤ n.kids.length) :
  ((n.kids.any fun x => readyC x.vars c) = true → rowR n given i n.kids.length j = rowR n given (i + 1) 0 j) ∧ ((n.kids.any fun x => readyC x.vars c) = false → (if j = n.kids.length then rowR n given i n.kids.length j ++ [c] else rowR n given i n.kids.length j) = rowR n given (i + 1) 0 j) := by
 by_cases e : j = n.kids.length
 ·subst e
  have hn : n.kids[n.kids.length]? = none := List.getElem?_eq_none (Nat.le_refl _)
  have hall : (n.kids.all fun x => !readyC x.vars c) = !(n.kids.any fun x => readyC x.vars c) := by rw [List.not_any_eq_all_not]
  simp only [rowR, hn, if_true]
  rw [filter_step' hc, hall]
  exact ⟨fun h => by rw [h]; simp, fun h => by rw [h]; simp⟩
 ·rw [if_neg e]
  exact ⟨fun _ => rowR_up (by omega), fun _ => rowR_up (by omega)⟩
def opC (n : Nd) (w : Int) (u : V) : List V := [.c (.int .i64 (kindOf n.kind)), .c (.string n.var), .c (.string n.type), .sl (n.tests.map encC), u, .c (.int .i64 w), .c (.int .i64 (max 1 (n.kids.length : Nat)))]
def ndC (n : Nd) : List V := [.c (.int .i64 n.kind), .c (.string n.var), .c (.string n.type), .sl (n.tests.map encC), .sl (n.kids.map encNd)]
theorem len_c1 (c : Cnd) : (∀ (e : List V), e ∈ [encC c] → e.length = 11) = True := eq_true fun e he => by rw [List.mem_singleton.1 he]; rfl
theorem ndC_mapV (n : Nd) (π : Hp) : ((ndC n).map (thaw π 2)).map Go.Abs.wkD = ndC n := by
 have h1 : Go.Abs.wkD (.sl (n.tests.map encC)) = .sl (n.tests.map encC) := by simp only [Go.Abs.wkD, map_wk1_encC]
 have h2 : Go.Abs.wkD (.sl (n.kids.map encNd)) = .sl (n.kids.map encNd) := by
  simp only [Go.Abs.wkD]
  rw [List.map_map]
  congr 1
  refine List.map_congr_left fun x _ => ?_
  show (encNd x).map wk1 = encNd x
  rw [encNd_eq]; rfl
 show [_, _, _, Go.Abs.wkD (.sl (n.tests.map encC)), Go.Abs.wkD (.sl (n.kids.map encNd))] = _
 rw [h1, h2]; rfl
theorem opC_mapV (n : Nd) (w : Int) (u : V) (π : Hp) : ((opC n w u).map (thaw π 2)).map Go.Abs.wkD = opC n w (Go.Abs.wkD (thaw π 2 u)) := by
 have h1 : Go.Abs.wkD (.sl (n.tests.map encC)) = .sl (n.tests.map encC) := by simp only [Go.Abs.wkD, map_wk1_encC]
 show [_, _, _, Go.Abs.wkD (.sl (n.tests.map encC)), Go.Abs.wkD (thaw π 2 u), _, _] = _
 rw [h1]; rfl
theorem rmakes_spec {g : Nat} {w : Int} : ∀ n : Nd, n.small → n.err = 0 → ∀ (x : Pln) (given : List Cnd) (σ τ : Hp), PlH g x σ → Hp.Apart σ τ → x.from_.length = x.ops.length → x.ops.length + n.size < 1048576 → fewPl x → given.length ≤ 16 →
  ACalls Tryz.prog 40 [ptrV g, .agg (encNd n), .sl (given.map encC), .c (.int .i64 w)] (σ.join τ) (fun v σ' => v = .c (.int .i64 ((n.mkR putPl w x given).2 : Nat)) ∧ ∃ σ1, PlH g (n.mkR putPl w x given).1 σ1 ∧ Hp.Apart σ1 τ ∧ σ' = σ1.join τ) := Nd.ind fun n ih hn he x given σ τ hM ha hx hl hfw hgl => by
 have hlen := hn.len
 have hE := (encNd_eq n).symm
 have hmx : (if (1 : Int) < (n.kids.length : Nat) then ((n.kids.length : Nat) : Int) else 1) = max 1 ((n.kids.length : Nat) : Int) := by split <;> omega
 rw [encNd_eq]
 refine ACalls.intro Tryz.call40 Tryz.func40 rfl Tryz.ntmps40 Tryz.results40 (by simp) ?_
 generalize hT : σ.join τ = Th
 all_goals refine AW.sr @ptrV.eq_1 ?_
 refine AW.seq_j (fun s' σ' => σ' = Th ∧ s'.t 0 = ptrV g ∧ s'.t 2 = .sl (given.map encC) ∧ s'.t 3 = .c (.int .i64 w) ∧ s'.t 5 = .lp 5 0 ∧ s'.l 5 = some (ndC n) ∧ s'.t 9 = .lp 9 0 ∧ s'.l 9 = some (opC n w nilV)) ?_ ?_
 ·skip
  refine AW.dF { sd := fun d => d == 5 } (.st 0 0 (.st 3 0 (.st 5 0 (.st 7 0 (.st 9 0 (.st 10 0 (.st 1 1 (.st 4 1 (.st 6 1 (.st 8 1 (.st 11 1 (.st 12 0 (.fork3 2 (.fork 13 (.st 14 0 (.st 15 2 (.st 16 2 .nil))) 15 (.st 13 2 (.st 14 0 (.st 16 2 .nil)))) 13 (.fork 2 (.st 14 0 (.st 15 2 (.st 16 2 .nil))) 15 (.st 2 2 (.st 14 0 (.st 16 2 .nil)))) 15 (.fork 2 (.st 13 2 (.st 14 0 (.st 16 2 .nil))) 13 (.st 2 2 (.st 14 0 (.st 16 2 .nil))))))))))))))))) ?_
  all_goals iterate 12 refine F.onf (J5 @Bool.or_self @kill.eq_1 @kill.eq_2 @ptrV.eq_1 hmx) ?_
  all_goals (try first | refine F.fork ?_ ?_ | refine F.fork3 ?_ ?_ ?_)
  all_goals first | (refine F.g rfl trivial rfl rfl fun Y Z => ?_; simp only [zz, simprocAttr, -Int.reduceNatCast', -Int.reduceToNat, Nat.reduceBEq, Bool.or_self, kill, ptrV, hmx]; refine PCalls.eqto (kind_spec n.kind) ?_ <;> (refine Z _ _ ?_; clear Z Y)) | (refine F.g rfl trivial rfl rfl fun Y Z => ?_; simp only [zz, simprocAttr, -Int.reduceNatCast', -Int.reduceToNat, Nat.reduceBEq, Bool.or_self, kill, ptrV, hmx]; refine Z _ _ ?_; clear Z Y) | (refine F.g rfl trivial rfl rfl fun Y Z => ?_; simp only [zz, simprocAttr, -Int.reduceNatCast', -Int.reduceToNat, tt, Nat.reduceBEq, Bool.or_self, kill, ptrV, hmx]; refine Z _ _ ?_; clear Z Y)
  all_goals (try first | refine F.fork ?_ ?_ | refine F.fork3 ?_ ?_ ?_)
  all_goals first | (refine F.g rfl trivial rfl rfl fun Y Z => ?_; simp only [zz, simprocAttr, -Int.reduceNatCast', -Int.reduceToNat, Nat.reduceBEq, Bool.or_self, kill, ptrV, hmx]; refine PCalls.eqto (kind_spec n.kind) ?_ <;> (refine Z _ _ ?_; clear Z Y)) | (refine F.g rfl trivial rfl rfl fun Y Z => ?_; simp only [zz, simprocAttr, -Int.reduceNatCast', -Int.reduceToNat, Nat.reduceBEq, Bool.or_self, kill, ptrV, hmx]; refine Z _ _ ?_; clear Z Y) | (refine F.g rfl trivial rfl rfl fun Y Z => ?_; simp only [zz, simprocAttr, -Int.reduceNatCast', -Int.reduceToNat, tt, Nat.reduceBEq, Bool.or_self, kill, ptrV, hmx]; refine Z _ _ ?_; clear Z Y)
  all_goals first | (refine F.g rfl trivial rfl rfl fun Y Z => ?_; simp only [zz, simprocAttr, -Int.reduceNatCast', -Int.reduceToNat, Nat.reduceBEq, Bool.or_self, kill, ptrV, hmx]; refine PCalls.eqto (kind_spec n.kind) ?_ <;> (refine Z _ _ ?_; clear Z Y)) | (refine F.g rfl trivial rfl rfl fun Y Z => ?_; simp only [zz, simprocAttr, -Int.reduceNatCast', -Int.reduceToNat, tt, Nat.reduceBEq, Bool.or_self, kill, ptrV, hmx]; refine Z _ _ ?_; clear Z Y) | (refine F.g rfl trivial rfl rfl fun Y Z => ?_; simp only [zz, simprocAttr, -Int.reduceNatCast', -Int.reduceToNat, Nat.reduceBEq, Bool.or_self, kill, ptrV, hmx]; refine Z _ _ ?_; clear Z Y)
  all_goals first | (refine F.g rfl trivial rfl rfl fun Y Z => ?_; simp only [zz, simprocAttr, -Int.reduceNatCast', -Int.reduceToNat, tt, Nat.reduceBEq, Bool.or_self, kill, ptrV, hmx]; refine Z _ _ ?_; clear Z Y) | (refine F.g rfl trivial rfl rfl fun Y Z => ?_; simp only [zz, simprocAttr, -Int.reduceNatCast', -Int.reduceToNat, tt, Nat.reduceBEq, Bool.or_self, kill, ptrV, hmx]; refine Z _ _ ?_; clear Z Y)
  all_goals refine F.onf (J5 @Bool.or_self @kill.eq_1 @kill.eq_2 @ptrV.eq_1 hmx) ?_
  all_goals refine F.nil ?_
  all_goals simp only [ze, simprocAttr, Nat.reduceBEq, Bool.or_self, kill, ptrV, hmx]
  all_goals ((try and_intros) <;> first | rfl | assumption | (rfl))
 rintro s σ0 ⟨hs0, e0, e2, e3, e5, l5, e9, l9⟩
 have hs0 := hs0.symm
 subst hs0
 refine AW.seq_k fun K2 h2 => ?_
 all_goals refine AW.reg0 ?_
 all_goals iterate 3 refine S.one (J4 e5 l5 @ndC.eq_1 @List.length_map.{0,0}) ?_
 all_goals (refine S.g rfl rfl fun Y Z => ?_; simp only [zz, simprocAttr, -Int.reduceNatCast', -Int.reduceToNat, tt, e5, l5, ndC, List.length_map]; refine ⟨by omega, by omega, fun kd hkd => ?_⟩ <;> (refine Z _ _ ?_; clear Z Y))
 all_goals refine S.one (J4 e5 l5 @ndC.eq_1 @List.length_map.{0,0}) ?_
 all_goals (refine S.nil ?_; simp only [ze, simprocAttr, e5, l5, ndC, List.length_map]; apply_assumption)
 have hdn : Dn Th kd n.kids.length (List.replicate (n.kids.length + 1) nilV) (rowR n given 0 0) (Th.setGr kd (some ((22, 1), List.replicate n.kids.length [V.c (Value.slice none 0 0)]))) := by
  refine ⟨by simp, fun _ => rfl, hkd, ?_, fun j v hv => .inl ⟨?_, ?_⟩, fun i j k hi hj => ?_, fun k x hk => ?_⟩
  ·simp [List.take_replicate, nilV]
  ·exact (List.eq_of_mem_replicate (List.mem_of_getElem? hv))
  ·simp only [rowR]
   cases n.kids[j]? <;> simp
  ·have := List.eq_of_mem_replicate (List.mem_of_getElem? hi); cases this
  ·have : k ≠ kd := fun e => by rw [e, hkd] at hk; cases hk
   simp [this, hk]
 generalize Th.setGr kd (some ((22, 1), List.replicate n.kids.length [V.c (Value.slice none 0 0)])) = σd at hdn
 generalize hA : List.replicate (n.kids.length + 1) nilV = A at hdn
 refine AW.seq_j (fun s' σ' => ∃ A, Dn Th kd n.kids.length A (rowR n given given.length 0) σ' ∧ s'.t 0 = ptrV g ∧ s'.t 3 = .c (.int .i64 w) ∧ s'.t 5 = .lp 5 0 ∧ s'.l 5 = some (ndC n) ∧ s'.t 9 = .lp 9 0 ∧ s'.l 9 = some (opC n w (A.getD n.kids.length nilV)) ∧ s'.t 10 = .gl kd) ?_ ?_
 ·refine AW.sr (J7 e0 e2 e3 e5 l5 e9 l9) ?_
  refine AW.block ?_   -- 0
  refine AW.loop (fun m s σ' => ∃ (i : Nat) (A : List V), m + i = given.length ∧ Dn Th kd n.kids.length A (rowR n given i 0) σ' ∧ s.t 0 = ptrV g ∧ s.t 2 = .sl (given.map encC) ∧ s.t 3 = .c (.int .i64 w) ∧ s.t 5 = .lp 5 0 ∧ s.l 5 = some (ndC n) ∧ s.t 9 = .lp 9 0 ∧ s.l 9 = some (opC n w (A.getD n.kids.length nilV)) ∧ s.t 10 = .gl kd ∧ s.t 11 = .c (.int .i64 (i : Nat))) given.length ?_ ?_
  ·refine ⟨0, A, by simp, hdn, ?_⟩
   subst hA
   simp only [zs, simprocAttr, e0, e2, e3, e5, l5, e9, l9]
   all_goals ((try and_intros) <;> first | rfl | assumption | ((simp [opC, nilV])))
  clear hdn hA A e0 e2 e3 e5 l5 e9 l9 s σd
  rintro m s σd ⟨i, A, hm, hdn, e0, e2, e3, e5, l5, e9, l9, e10, e11⟩
  refine AW.seq_k fun K4 h4 => ?_
  all_goals refine AW.sr (J3 e2 e11 @List.length_map.{0,0}) ?_
  refine AW.cond (b := decide (i < given.length)) (by simp [ev]) (fun hi => ?_) (fun hi => ?_)
  ·have hi := of_decide_eq_true hi
   obtain ⟨c, hc, hcm, hcg, _⟩ := cnd_get hi
   have hw := wadd1 (a := i) (by omega)
   have hrow : ∀ k, (rowR n given i k k).length ≤ 17 := fun k => rowR_len (by omega)
   refine AW.skip ?_
   simp only [zs, simprocAttr]
   all_goals apply_assumption
   refine AW.seq_j (fun s' σ' => ∃ A, Dn Th kd n.kids.length A (rowR n given (i + 1) 0) σ' ∧ s'.t 0 = ptrV g ∧ s'.t 2 = .sl (given.map encC) ∧ s'.t 3 = .c (.int .i64 w) ∧ s'.t 5 = .lp 5 0 ∧ s'.l 5 = some (ndC n) ∧ s'.t 9 = .lp 9 0 ∧ s'.l 9 = some (opC n w (A.getD n.kids.length nilV)) ∧ s'.t 10 = .gl kd ∧ s'.t 11 = .c (.int .i64 (i : Nat))) ?_ ?_
   ·refine AW.block ?_   -- 1
    refine AW.sr (J9 e0 e2 e3 e5 l5 e9 l9 e10 e11) ?_
    refine AW.seq_j (fun s' σ' => ∃ A, Dn Th kd n.kids.length A (rowR n given i n.kids.length) σ' ∧ s'.t 0 = ptrV g ∧ s'.t 2 = .sl (given.map encC) ∧ s'.t 3 = .c (.int .i64 w) ∧ s'.t 5 = .lp 5 0 ∧ s'.l 5 = some (ndC n) ∧ s'.t 9 = .lp 9 0 ∧ s'.l 9 = some (opC n w (A.getD n.kids.length nilV)) ∧ s'.t 10 = .gl kd ∧ s'.t 11 = .c (.int .i64 (i : Nat)) ∧ s'.t 12 = .c (.bool (n.kids.any fun x => readyC x.vars c))) ?_ ?_
    ·refine AW.sr (J9 e0 e2 e3 e5 l5 e9 l9 e10 e11) ?_
     refine AW.block ?_   -- 2
     refine AW.loop (fun m s' σ' => ∃ (k : Nat) (A : List V), m + k = n.kids.length ∧ Dn Th kd n.kids.length A (rowR n given i k) σ' ∧ s'.t 0 = ptrV g ∧ s'.t 2 = .sl (given.map encC) ∧ s'.t 3 = .c (.int .i64 w) ∧ s'.t 5 = .lp 5 0 ∧ s'.l 5 = some (ndC n) ∧ s'.t 9 = .lp 9 0 ∧ s'.l 9 = some (opC n w (A.getD n.kids.length nilV)) ∧ s'.t 10 = .gl kd ∧ s'.t 11 = .c (.int .i64 (i : Nat)) ∧ s'.t 12 = .c (.bool ((n.kids.take k).any fun x => readyC x.vars c)) ∧ s'.t 13 = .c (.int .i64 (k : Nat))) n.kids.length ?_ ?_
     ·refine ⟨0, A, by simp, hdn, ?_⟩
      simp only [zs, simprocAttr, e0, e2, e3, e5, l5, e9, l9, e10, e11]
      all_goals ((try and_intros) <;> first | rfl | assumption | (rfl))
     clear e0 e2 e3 e5 l5 e9 l9 e10 e11 hdn A s σd
     rintro m2 s σd ⟨k, A, hm2, hdn, e0, e2, e3, e5, l5, e9, l9, e10, e11, e12, e13⟩
     refine AW.seq_k fun K8 h8 => ?_
     refine AW.seq_k fun K9 h9 => ?_
     unfold ndC at l5
     all_goals refine AW.reg0 (S.rn (J4 e5 l5 e13 @List.length_map.{0,0}) ?_)
     all_goals apply_assumption
     refine AW.cond (b := decide (k < n.kids.length)) (by simp [ev]) (fun hk => ?_) (fun hk => ?_)
     ·have hk := of_decide_eq_true hk
      obtain ⟨x, hkx, hxm, hgd⟩ := kid_get hk
      have hw2 := wadd1 (a := k) (by omega)
      have hvs := x.vars_size
      have hkn : x.size ≤ 1048576 := hn.kid hxm
      have hxs := hn.kid hxm
      have hany : ((n.kids.take (k + 1)).any fun x => readyC x.vars c) = (((n.kids.take k).any fun x => readyC x.vars c) || readyC x.vars c) := by rw [List.take_add_one, hkx]; simp
      refine AW.skip ?_
      simp only [zs, simprocAttr]
      all_goals apply_assumption
      refine AW.seq_j (fun s' σ' => ∃ A, Dn Th kd n.kids.length A (rowR n given i (k + 1)) σ' ∧ s'.t 0 = ptrV g ∧ s'.t 2 = .sl (given.map encC) ∧ s'.t 3 = .c (.int .i64 w) ∧ s'.t 5 = .lp 5 0 ∧ s'.l 5 = some (ndC n) ∧ s'.t 9 = .lp 9 0 ∧ s'.l 9 = some (opC n w (A.getD n.kids.length nilV)) ∧ s'.t 10 = .gl kd ∧ s'.t 11 = .c (.int .i64 (i : Nat)) ∧ s'.t 12 = .c (.bool ((n.kids.take (k + 1)).any fun x => readyC x.vars c)) ∧ s'.t 13 = .c (.int .i64 (k : Nat))) ?_ ?_
      ·refine AW.block ?_   -- 3
       refine AW.seq_j (fun s' σ' => σ' = σd ∧ s'.t 0 = ptrV g ∧ s'.t 2 = .sl (given.map encC) ∧ s'.t 3 = .c (.int .i64 w) ∧ s'.t 5 = .lp 5 0 ∧ s'.l 5 = some (ndC n) ∧ s'.t 9 = .lp 9 0 ∧ s'.l 9 = some (opC n w (A.getD n.kids.length nilV)) ∧ s'.t 10 = .gl kd ∧ s'.t 11 = .c (.int .i64 (i : Nat)) ∧ s'.t 12 = .c (.bool ((n.kids.take k).any fun x => readyC x.vars c)) ∧ s'.t 13 = .c (.int .i64 (k : Nat)) ∧ s'.t 58 = .c (.bool (readyC x.vars c))) ?_ ?_
       ·skip
        refine AW.dT { sd := fun d => d == 5 } (.st 0 0 (.st 1 0 (.st 2 0 (.st 4 0 (.st 6 0 (.st 3 1 (.st 5 1 (.st 7 0 (.st 8 1 (.st 9 2 (.st 10 2 .nil))))))))))) ?_
        iterate 9 refine T.onf (J12 @Bool.or_self @kill.eq_1 @kill.eq_2 e0 e2 e3 e5 l5 e9 l9 e10 (J10 e11 e12 e13 hi hcg hk hgd @nd @cd @List.length_map.{0,0})) ?_
        (refine T.g rfl trivial rfl rfl fun Y Z => ?_; simp only [zz, simprocAttr, -Int.reduceNatCast', -Int.reduceToNat, Nat.reduceBEq, Bool.or_self, kill, e0, e2, e3, e5, l5, e9, l9, e10, e11, e12, e13, hi, hcg, hk, hgd, nd, cd, List.length_map]; refine PCalls.eqto (rVars_spec x hxs) ?_ <;> (refine Z _ _ ?_; clear Z Y))
        all_goals (refine T.g rfl trivial rfl rfl fun Y Z => ?_; simp only [zz, simprocAttr, -Int.reduceNatCast', -Int.reduceToNat, Nat.reduceBEq, Bool.or_self, kill, e0, e2, e3, e5, l5, e9, l9, e10, e11, e12, e13, hi, hcg, hk, hgd, nd, cd, List.length_map]; refine PCalls.eqto (rReady_spec x.vars (by omega) c) ?_ <;> (refine Z _ _ ?_; clear Z Y))
        all_goals refine T.nil ?_
        all_goals simp only [ze, simprocAttr, Nat.reduceBEq, Bool.or_self, kill, e0, e2, e3, e5, l5, e9, l9, e10, e11, e12, e13, hi, hcg, hk, hgd, nd, cd, List.length_map]
        all_goals ((try and_intros) <;> first | rfl | assumption | (rfl))
       clear e0 e2 e3 e5 l5 e9 l9 e10 e11 e12 e13 s
       rintro s σ2 ⟨hs2, e0, e2, e3, e5, l5, e9, l9, e10, e11, e12, e13, e58⟩
       have hs2 := hs2.symm
       subst hs2
       refine AW.cond (b := readyC x.vars c) e58 (fun hr => ?_) (fun hr => ?_)
       ·have hkA : k < A.length := by rw [hdn.len]; omega
        have hv : A[k]? = some A[k] := List.getElem?_eq_getElem hkA
        have hgl := hdn.at_
        have hln : ((A.take n.kids.length).map fun v => [v]).length = n.kids.length := by rw [List.length_map, List.length_take, hdn.len]; omega
        have hgA : ((A.take n.kids.length).map fun v => [v]).getD k [] = [A[k]] := by simp [List.getD, hk, hv]
        have z1 := len_c1 c
        have y3 : (1 ≤ maxLen) = True := eq_true (by unfold maxLen; omega)
        have y4 : (136 ≤ reach) = True := eq_true (by unfold reach; omega)
        generalize hAk : A[k] = v at hv hgA
        have hset : ∀ k1, (A.set k (V.gl k1)).getD n.kids.length nilV = A.getD n.kids.length nilV := fun k1 => by simp [List.getD, List.getElem?_set_ne (show k ≠ n.kids.length by omega)]
        refine AW.seq_j (fun s' σ' => ∃ A, Dn Th kd n.kids.length A (rowR n given i (k + 1)) σ' ∧ s'.t 0 = ptrV g ∧ s'.t 2 = .sl (given.map encC) ∧ s'.t 3 = .c (.int .i64 w) ∧ s'.t 5 = .lp 5 0 ∧ s'.l 5 = some (ndC n) ∧ s'.t 9 = .lp 9 0 ∧ s'.l 9 = some (opC n w (A.getD n.kids.length nilV)) ∧ s'.t 10 = .gl kd ∧ s'.t 11 = .c (.int .i64 (i : Nat)) ∧ s'.t 13 = .c (.int .i64 (k : Nat))) ?_ ?_
        ·rcases hdn.row k v hv with ⟨rfl, hR0⟩ | ⟨kk, rfl, hkk, hkk0, hkg⟩
         ·unfold nilV at hgA
          refine AW.dT { sd := fun _ => false } (.st 0 0 (.st 1 0 (.st 2 0 (.st 3 0 (.st 4 0 (.st 6 0 (.st 7 0 (.st 8 0 (.fork 5 (.st 9 2 (.st 10 2 (.st 11 2 (.st 12 0 (.st 13 2 .nil))))) 9 (.fork 5 (.st 10 2 (.st 11 2 (.st 12 0 (.st 13 2 .nil)))) 10 (.st 5 2 (.st 11 2 (.st 12 0 (.st 13 2 .nil)))))))))))))) ?_
          all_goals iterate 8 refine T.one (J12 e0 e2 e3 e5 l5 e9 l9 e10 e11 e12 e13 (J11 hi hcg hk hgl hln hgA z1 y3 y4 @cd @List.length_map.{0,0})) ?_
          all_goals (try refine T.fork ?_ ?_)
          all_goals first | (refine T.g rfl trivial rfl rfl fun Y Z => ?_; simp only [zz, simprocAttr, -Int.reduceNatCast', -Int.reduceToNat, tt, e0, e2, e3, e5, l5, e9, l9, e10, e11, e12, e13, hi, hcg, hk, hgl, hln, hgA, z1, y3, y4, cd, List.length_map]; refine Z _ _ ?_; clear Z Y) | (refine T.g rfl trivial rfl rfl fun Y Z => ?_; simp only [zz, simprocAttr, -Int.reduceNatCast', -Int.reduceToNat, tt, e0, e2, e3, e5, l5, e9, l9, e10, e11, e12, e13, hi, hcg, hk, hgl, hln, hgA, z1, y3, y4, cd, List.length_map]; refine Z _ _ ?_; clear Z Y)
          all_goals (try refine T.fork ?_ ?_)
          all_goals first | (refine T.g rfl trivial rfl rfl fun Y Z => ?_; simp only [zz, simprocAttr, -Int.reduceNatCast', -Int.reduceToNat, tt, e0, e2, e3, e5, l5, e9, l9, e10, e11, e12, e13, hi, hcg, hk, hgl, hln, hgA, z1, y3, y4, cd, List.length_map]; refine Z _ _ ?_; clear Z Y) | (refine T.g rfl trivial rfl rfl fun Y Z => ?_; simp only [zz, simprocAttr, -Int.reduceNatCast', -Int.reduceToNat, tt, e0, e2, e3, e5, l5, e9, l9, e10, e11, e12, e13, hi, hcg, hk, hgl, hln, hgA, z1, y3, y4, cd, List.length_map]; refine Z _ _ ?_; clear Z Y) | (refine T.g rfl trivial rfl rfl fun Y Z => ?_; simp only [zb, simprocAttr, -Int.reduceNatCast', -Int.reduceToNat, tt, e0, e2, e3, e5, l5, e9, l9, e10, e11, e12, e13, hi, hcg, hk, hgl, hln, hgA, z1, y3, y4, cd, List.length_map]; refine Z _ _ ?_; clear Z Y)
          all_goals first | (refine T.g rfl trivial rfl rfl fun Y Z => ?_; simp only [zb, simprocAttr, -Int.reduceNatCast', -Int.reduceToNat, tt, e0, e2, e3, e5, l5, e9, l9, e10, e11, e12, e13, hi, hcg, hk, hgl, hln, hgA, z1, y3, y4, cd, List.length_map]; refine Z _ _ ?_; clear Z Y) | (refine T.g rfl trivial rfl rfl fun Y Z => ?_; simp only [zz, simprocAttr, -Int.reduceNatCast', -Int.reduceToNat, tt, e0, e2, e3, e5, l5, e9, l9, e10, e11, e12, e13, hi, hcg, hk, hgl, hln, hgA, z1, y3, y4, cd, List.length_map]; refine Z _ _ ?_; clear Z Y)
          all_goals (refine T.g rfl trivial rfl rfl fun Y Z => ?_; simp only [zz, simprocAttr, -Int.reduceNatCast', -Int.reduceToNat, tt, e0, e2, e3, e5, l5, e9, l9, e10, e11, e12, e13, hi, hcg, hk, hgl, hln, hgA, z1, y3, y4, cd, List.length_map]; intro k1 hk1; (have hne : ¬ kd = k1 := (fun e => (by subst e; first | (rw [hgl] at hk1; cases hk1; done) | (simp [Hp.setGr, Ne.symm hkk, hgl] at hk1)))) <;> (refine Z _ _ ?_; clear Z Y))
          all_goals (refine T.g rfl trivial rfl rfl fun Y Z => ?_; simp only [zz, simprocAttr, -Int.reduceNatCast', -Int.reduceToNat, tt, e0, e2, e3, e5, l5, e9, l9, e10, e11, e12, e13, hi, hcg, hk, hgl, hln, hgA, z1, y3, y4, cd, List.length_map, hne] <;> (refine Z _ _ ?_; clear Z Y))
          all_goals (refine T.g rfl trivial rfl rfl fun Y Z => ?_; simp only [zz, simprocAttr, -Int.reduceNatCast', -Int.reduceToNat, tt, e0, e2, e3, e5, l5, e9, l9, e10, e11, e12, e13, hi, hcg, hk, hgl, hln, hgA, z1, y3, y4, cd, List.length_map, hne] <;> (refine Z _ _ ?_; clear Z Y))
          all_goals refine T.nil ?_
          all_goals simp only [ze, simprocAttr, e0, e2, e3, e5, l5, e9, l9, e10, e11, e12, e13, hi, hcg, hk, hgl, hln, hgA, z1, y3, y4, cd, List.length_map]
          all_goals
           refine ⟨A.set k (.gl k1), hdn.put_new hv hR0 hk1 (fun j _ => rowR_go hc hkx hr j), ?_⟩
           rw [hset]
         ·have y1 : ((rowR n given i k k).length + 1 ≤ maxLen) = True := eq_true (by unfold maxLen; have := hrow k; omega)
          have y2 : (((rowR n given i k k).length + 1) * 136 ≤ reach) = True := eq_true (by unfold reach; have := hrow k; omega)
          have hkk' : ¬ kd = kk := Ne.symm hkk
          refine AW.dT { sd := fun _ => false } (.st 0 0 (.st 1 0 (.st 2 0 (.st 3 0 (.st 4 0 (.st 6 0 (.st 7 0 (.st 8 0 (.fork 5 (.st 9 2 (.st 10 2 (.st 11 2 (.st 12 0 (.st 13 2 .nil))))) 9 (.fork 5 (.st 10 2 (.st 11 2 (.st 12 0 (.st 13 2 .nil)))) 10 (.st 5 2 (.st 11 2 (.st 12 0 (.st 13 2 .nil)))))))))))))) ?_
          all_goals iterate 8 refine T.one (J12 e0 e2 e3 e5 l5 e9 l9 e10 e11 e12 e13 (J12 hi hcg hk hgl hln hgA hkg hkk hkk' z1 y1 (J5 y2 y3 y4 @cd @List.length_map.{0,0}))) ?_
          all_goals (try refine T.fork ?_ ?_)
          all_goals first | (refine T.g rfl trivial rfl rfl fun Y Z => ?_; simp only [zz, simprocAttr, -Int.reduceNatCast', -Int.reduceToNat, tt, e0, e2, e3, e5, l5, e9, l9, e10, e11, e12, e13, hi, hcg, hk, hgl, hln, hgA, hkg, hkk, hkk', z1, y1, y2, y3, y4, cd, List.length_map]; refine Z _ _ ?_; clear Z Y) | (refine T.g rfl trivial rfl rfl fun Y Z => ?_; simp only [zz, simprocAttr, -Int.reduceNatCast', -Int.reduceToNat, tt, e0, e2, e3, e5, l5, e9, l9, e10, e11, e12, e13, hi, hcg, hk, hgl, hln, hgA, hkg, hkk, hkk', z1, y1, y2, y3, y4, cd, List.length_map]; refine Z _ _ ?_; clear Z Y)
          all_goals (try refine T.fork ?_ ?_)
          all_goals first | (refine T.g rfl trivial rfl rfl fun Y Z => ?_; simp only [zz, simprocAttr, -Int.reduceNatCast', -Int.reduceToNat, tt, e0, e2, e3, e5, l5, e9, l9, e10, e11, e12, e13, hi, hcg, hk, hgl, hln, hgA, hkg, hkk, hkk', z1, y1, y2, y3, y4, cd, List.length_map]; refine Z _ _ ?_; clear Z Y) | (refine T.g rfl trivial rfl rfl fun Y Z => ?_; simp only [zz, simprocAttr, -Int.reduceNatCast', -Int.reduceToNat, tt, e0, e2, e3, e5, l5, e9, l9, e10, e11, e12, e13, hi, hcg, hk, hgl, hln, hgA, hkg, hkk, hkk', z1, y1, y2, y3, y4, cd, List.length_map]; refine Z _ _ ?_; clear Z Y) | (refine T.g rfl trivial rfl rfl fun Y Z => ?_; simp only [zb, simprocAttr, -Int.reduceNatCast', -Int.reduceToNat, tt, e0, e2, e3, e5, l5, e9, l9, e10, e11, e12, e13, hi, hcg, hk, hgl, hln, hgA, hkg, hkk, hkk', z1, y1, y2, y3, y4, cd, List.length_map]; refine Z _ _ ?_; clear Z Y)
          all_goals first | (refine T.g rfl trivial rfl rfl fun Y Z => ?_; simp only [zb, simprocAttr, -Int.reduceNatCast', -Int.reduceToNat, tt, e0, e2, e3, e5, l5, e9, l9, e10, e11, e12, e13, hi, hcg, hk, hgl, hln, hgA, hkg, hkk, hkk', z1, y1, y2, y3, y4, cd, List.length_map]; refine Z _ _ ?_; clear Z Y) | (refine T.g rfl trivial rfl rfl fun Y Z => ?_; simp only [zz, simprocAttr, -Int.reduceNatCast', -Int.reduceToNat, tt, e0, e2, e3, e5, l5, e9, l9, e10, e11, e12, e13, hi, hcg, hk, hgl, hln, hgA, hkg, hkk, hkk', z1, y1, y2, y3, y4, cd, List.length_map]; refine Z _ _ ?_; clear Z Y)
          all_goals (refine T.g rfl trivial rfl rfl fun Y Z => ?_; simp only [zz, simprocAttr, -Int.reduceNatCast', -Int.reduceToNat, tt, e0, e2, e3, e5, l5, e9, l9, e10, e11, e12, e13, hi, hcg, hk, hgl, hln, hgA, hkg, hkk, hkk', z1, y1, y2, y3, y4, cd, List.length_map]; intro k1 hk1; (have hne : ¬ kd = k1 := (fun e => (by subst e; first | (rw [hgl] at hk1; cases hk1; done) | (simp [Hp.setGr, Ne.symm hkk, hgl] at hk1)))) <;> (refine Z _ _ ?_; clear Z Y))
          all_goals (refine T.g rfl trivial rfl rfl fun Y Z => ?_; simp only [zz, simprocAttr, -Int.reduceNatCast', -Int.reduceToNat, tt, e0, e2, e3, e5, l5, e9, l9, e10, e11, e12, e13, hi, hcg, hk, hgl, hln, hgA, hkg, hkk, hkk', z1, y1, y2, y3, y4, cd, List.length_map, hne] <;> (refine Z _ _ ?_; clear Z Y))
          all_goals (refine T.g rfl trivial rfl rfl fun Y Z => ?_; simp only [zz, simprocAttr, -Int.reduceNatCast', -Int.reduceToNat, tt, e0, e2, e3, e5, l5, e9, l9, e10, e11, e12, e13, hi, hcg, hk, hgl, hln, hgA, hkg, hkk, hkk', z1, y1, y2, y3, y4, cd, List.length_map, hne] <;> (refine Z _ _ ?_; clear Z Y))
          all_goals refine T.nil ?_
          all_goals simp only [ze, simprocAttr, e0, e2, e3, e5, l5, e9, l9, e10, e11, e12, e13, hi, hcg, hk, hgl, hln, hgA, hkg, hkk, hkk', z1, y1, y2, y3, y4, cd, List.length_map]
          all_goals
           have hk1 : k1 = kk ∨ σd.gr k1 = none := by
            by_cases e : k1 = kk
            ·exact .inl e
            ·exact .inr (by simpa [Hp.setGr, e] using hk1)
           refine ⟨A.set k (.gl k1), hdn.put_more hv hne hk1 (fun j _ => rowR_go hc hkx hr j), ?_⟩
           rw [hset]
        ·clear e0 e2 e3 e5 l5 e9 l9 e10 e11 e12 e13 e58 hdn hkA hv hgl hln hgA hAk hset A v s
         rintro s σ3 ⟨A, hdn, e0, e2, e3, e5, l5, e9, l9, e10, e11, e13⟩
         refine AW.reg0 (S.rn (J10 e0 e2 e3 e5 l5 e9 l9 e10 e11 e13) ?_)
         simp only [ze, simprocAttr, e0, e2, e3, e5, l5, e9, l9, e10, e11, e13]
         refine ⟨A, hdn, ?_⟩
         all_goals ((try and_intros) <;> first | rfl | assumption | ((rw [hany, hr, Bool.or_true])))
       ·refine AW.skip ?_
        refine ⟨A, hdn.congr (fun j _ => rowR_no hc hkx hr j), ?_⟩
        simp only [zs, simprocAttr, e0, e2, e3, e5, l5, e9, l9, e10, e11, e12, e13, hany, hr, Bool.or_false]
        all_goals ((try and_intros) <;> first | rfl | assumption | (rfl))
      ·clear e0 e2 e3 e5 l5 e9 l9 e10 e11 e12 e13 hdn A s σd
       rintro s σd ⟨A, hdn, e0, e2, e3, e5, l5, e9, l9, e10, e11, e12, e13⟩
       refine AW.reg0 (S.rn (J12 e0 e2 e3 e5 l5 e9 l9 e10 e11 e12 e13 hw2) ?_)
       simp only [ze, simprocAttr, e0, e2, e3, e5, l5, e9, l9, e10, e11, e12, e13, hw2]
       refine ⟨m2 - 1, by omega, k + 1, A, by omega, hdn, ?_⟩
       all_goals ((try and_intros) <;> first | rfl | assumption | (rfl))
     ·have hk := of_decide_eq_false hk
      obtain rfl : k = n.kids.length := by omega
      rw [List.take_of_length_le (Nat.le_refl _)] at e12
      refine AW.exit ?_
      refine ⟨A, hdn, ?_⟩
      simp only [zs, simprocAttr, e0, e2, e3, e5, l5, e9, l9, e10, e11, e12]
      all_goals ((try and_intros) <;> first | rfl | assumption | (rfl))
    ·clear e0 e2 e3 e5 l5 e9 l9 e10 e11 hdn A s σd
     rintro s σd ⟨A, hdn, e0, e2, e3, e5, l5, e9, l9, e10, e11, e12⟩
     refine AW.sr (J10 e0 e2 e3 e5 l5 e9 l9 e10 e11 e12) ?_
     refine AW.cond (b := !(n.kids.any fun x => readyC x.vars c)) (by simp [ev]) (fun hb => ?_) (fun hb => ?_)
     ·have hb : (n.kids.any fun x => readyC x.vars c) = false := by simpa using hb
      have hkA : n.kids.length < A.length := by rw [hdn.len]; omega
      have hv : A[n.kids.length]? = some A[n.kids.length] := List.getElem?_eq_getElem hkA
      have hgv : A.getD n.kids.length nilV = A[n.kids.length] := by simp [List.getD, hv]
      rw [hgv] at l9
      generalize A[n.kids.length] = v at hv l9
      have z1 := len_c1 c
      have y3 : (1 ≤ maxLen) = True := eq_true (by unfold maxLen; omega)
      have y4 : (136 ≤ reach) = True := eq_true (by unfold reach; omega)
      have hset : ∀ k1, (A.set n.kids.length (V.gl k1)).getD n.kids.length nilV = .gl k1 := fun k1 => by simp [List.getD, List.getElem?_set_self hkA]
      rcases hdn.row n.kids.length v hv with ⟨rfl, hR0⟩ | ⟨kk, rfl, hkk, hkk0, hkg⟩
      ·unfold nilV at l9
       refine AW.dT { sd := fun _ => false } (.st 0 0 (.st 2 0 (.st 3 0 (.st 4 0 (.fork 1 (.st 5 2 (.st 6 2 (.st 7 2 (.st 8 0 (.st 9 2 .nil))))) 5 (.fork 1 (.st 6 2 (.st 7 2 (.st 8 0 (.st 9 2 .nil)))) 6 (.st 1 2 (.st 7 2 (.st 8 0 (.st 9 2 .nil)))))))))) ?_
       all_goals iterate 4 refine T.one (J12 e0 e2 e3 e5 l5 e9 l9 e10 e11 @opC.eq_1 hi (J6 hcg z1 y3 y4 @cd @List.length_map.{0,0})) ?_
       all_goals (try refine T.fork ?_ ?_)
       all_goals first | (refine T.g rfl trivial rfl rfl fun Y Z => ?_; simp only [zz, simprocAttr, -Int.reduceNatCast', -Int.reduceToNat, tt, e0, e2, e3, e5, l5, e9, l9, e10, e11, opC, hi, hcg, z1, y3, y4, cd, List.length_map]; refine Z _ _ ?_; clear Z Y) | (refine T.g rfl trivial rfl rfl fun Y Z => ?_; simp only [zz, simprocAttr, -Int.reduceNatCast', -Int.reduceToNat, tt, e0, e2, e3, e5, l5, e9, l9, e10, e11, opC, hi, hcg, z1, y3, y4, cd, List.length_map]; refine Z _ _ ?_; clear Z Y)
       all_goals (try refine T.fork ?_ ?_)
       all_goals first | (refine T.g rfl trivial rfl rfl fun Y Z => ?_; simp only [zz, simprocAttr, -Int.reduceNatCast', -Int.reduceToNat, tt, e0, e2, e3, e5, l5, e9, l9, e10, e11, opC, hi, hcg, z1, y3, y4, cd, List.length_map]; refine Z _ _ ?_; clear Z Y) | (refine T.g rfl trivial rfl rfl fun Y Z => ?_; simp only [zz, simprocAttr, -Int.reduceNatCast', -Int.reduceToNat, tt, e0, e2, e3, e5, l5, e9, l9, e10, e11, opC, hi, hcg, z1, y3, y4, cd, List.length_map]; refine Z _ _ ?_; clear Z Y) | (refine T.g rfl trivial rfl rfl fun Y Z => ?_; simp only [zb, simprocAttr, -Int.reduceNatCast', -Int.reduceToNat, tt, e0, e2, e3, e5, l5, e9, l9, e10, e11, opC, hi, hcg, z1, y3, y4, cd, List.length_map]; refine Z _ _ ?_; clear Z Y)
       all_goals first | (refine T.g rfl trivial rfl rfl fun Y Z => ?_; simp only [zb, simprocAttr, -Int.reduceNatCast', -Int.reduceToNat, tt, e0, e2, e3, e5, l5, e9, l9, e10, e11, opC, hi, hcg, z1, y3, y4, cd, List.length_map]; refine Z _ _ ?_; clear Z Y) | (refine T.g rfl trivial rfl rfl fun Y Z => ?_; simp only [zz, simprocAttr, -Int.reduceNatCast', -Int.reduceToNat, tt, e0, e2, e3, e5, l5, e9, l9, e10, e11, opC, hi, hcg, z1, y3, y4, cd, List.length_map]; refine Z _ _ ?_; clear Z Y)
       all_goals (refine T.g rfl trivial rfl rfl fun Y Z => ?_; simp only [zz, simprocAttr, -Int.reduceNatCast', -Int.reduceToNat, tt, e0, e2, e3, e5, l5, e9, l9, e10, e11, opC, hi, hcg, z1, y3, y4, cd, List.length_map]; intro k1 hk1 <;> (refine Z _ _ ?_; clear Z Y))
       all_goals iterate 2 refine T.one (J12 e0 e2 e3 e5 l5 e9 l9 e10 e11 @opC.eq_1 hi (J6 hcg z1 y3 y4 @cd @List.length_map.{0,0})) ?_
       all_goals refine T.nil ?_
       all_goals simp only [ze, simprocAttr, e0, e2, e3, e5, l5, e9, l9, e10, e11, opC, hi, hcg, z1, y3, y4, cd, List.length_map]
       all_goals
        refine ⟨A.set n.kids.length (.gl k1), hdn.box_new hv hR0 hk1 (fun j hj => (rowR_end hc j hj).2 hb), ?_⟩
        rw [hset]
        all_goals ((try and_intros) <;> first | rfl | assumption | (rfl))
      ·have y1 : ((rowR n given i n.kids.length n.kids.length).length + 1 ≤ maxLen) = True := eq_true (by unfold maxLen; have := hrow n.kids.length; omega)
       have y2 : (((rowR n given i n.kids.length n.kids.length).length + 1) * 136 ≤ reach) = True := eq_true (by unfold reach; have := hrow n.kids.length; omega)
       refine AW.dT { sd := fun _ => false } (.st 0 0 (.st 2 0 (.st 3 0 (.st 4 0 (.fork 1 (.st 5 2 (.st 6 2 (.st 7 2 (.st 8 0 (.st 9 2 .nil))))) 5 (.fork 1 (.st 6 2 (.st 7 2 (.st 8 0 (.st 9 2 .nil)))) 6 (.st 1 2 (.st 7 2 (.st 8 0 (.st 9 2 .nil)))))))))) ?_
       all_goals iterate 4 refine T.one (J12 e0 e2 e3 e5 l5 e9 l9 e10 e11 @opC.eq_1 hi (J9 hcg hkg z1 y1 y2 y3 y4 @cd @List.length_map.{0,0})) ?_
       all_goals (try refine T.fork ?_ ?_)
       all_goals first | (refine T.g rfl trivial rfl rfl fun Y Z => ?_; simp only [zz, simprocAttr, -Int.reduceNatCast', -Int.reduceToNat, tt, e0, e2, e3, e5, l5, e9, l9, e10, e11, opC, hi, hcg, hkg, z1, y1, y2, y3, y4, cd, List.length_map]; refine Z _ _ ?_; clear Z Y) | (refine T.g rfl trivial rfl rfl fun Y Z => ?_; simp only [zz, simprocAttr, -Int.reduceNatCast', -Int.reduceToNat, tt, e0, e2, e3, e5, l5, e9, l9, e10, e11, opC, hi, hcg, hkg, z1, y1, y2, y3, y4, cd, List.length_map]; refine Z _ _ ?_; clear Z Y)
       all_goals (try refine T.fork ?_ ?_)
       all_goals first | (refine T.g rfl trivial rfl rfl fun Y Z => ?_; simp only [zz, simprocAttr, -Int.reduceNatCast', -Int.reduceToNat, tt, e0, e2, e3, e5, l5, e9, l9, e10, e11, opC, hi, hcg, hkg, z1, y1, y2, y3, y4, cd, List.length_map]; refine Z _ _ ?_; clear Z Y) | (refine T.g rfl trivial rfl rfl fun Y Z => ?_; simp only [zz, simprocAttr, -Int.reduceNatCast', -Int.reduceToNat, tt, e0, e2, e3, e5, l5, e9, l9, e10, e11, opC, hi, hcg, hkg, z1, y1, y2, y3, y4, cd, List.length_map]; refine Z _ _ ?_; clear Z Y) | (refine T.g rfl trivial rfl rfl fun Y Z => ?_; simp only [zb, simprocAttr, -Int.reduceNatCast', -Int.reduceToNat, tt, e0, e2, e3, e5, l5, e9, l9, e10, e11, opC, hi, hcg, hkg, z1, y1, y2, y3, y4, cd, List.length_map]; refine Z _ _ ?_; clear Z Y)
       all_goals first | (refine T.g rfl trivial rfl rfl fun Y Z => ?_; simp only [zb, simprocAttr, -Int.reduceNatCast', -Int.reduceToNat, tt, e0, e2, e3, e5, l5, e9, l9, e10, e11, opC, hi, hcg, hkg, z1, y1, y2, y3, y4, cd, List.length_map]; refine Z _ _ ?_; clear Z Y) | (refine T.g rfl trivial rfl rfl fun Y Z => ?_; simp only [zz, simprocAttr, -Int.reduceNatCast', -Int.reduceToNat, tt, e0, e2, e3, e5, l5, e9, l9, e10, e11, opC, hi, hcg, hkg, z1, y1, y2, y3, y4, cd, List.length_map]; refine Z _ _ ?_; clear Z Y)
       all_goals (refine T.g rfl trivial rfl rfl fun Y Z => ?_; simp only [zz, simprocAttr, -Int.reduceNatCast', -Int.reduceToNat, tt, e0, e2, e3, e5, l5, e9, l9, e10, e11, opC, hi, hcg, hkg, z1, y1, y2, y3, y4, cd, List.length_map]; intro k1 hk1 <;> (refine Z _ _ ?_; clear Z Y))
       all_goals iterate 2 refine T.one (J12 e0 e2 e3 e5 l5 e9 l9 e10 e11 @opC.eq_1 hi (J9 hcg hkg z1 y1 y2 y3 y4 @cd @List.length_map.{0,0})) ?_
       all_goals refine T.nil ?_
       all_goals simp only [ze, simprocAttr, e0, e2, e3, e5, l5, e9, l9, e10, e11, opC, hi, hcg, hkg, z1, y1, y2, y3, y4, cd, List.length_map]
       all_goals
        have hne : ¬ kd = k1 := fun e => (by subst e; simp [Hp.setGr, Ne.symm hkk, hdn.at_] at hk1)
        have hk1 : k1 = kk ∨ σd.gr k1 = none := by
         by_cases e : k1 = kk
         ·exact .inl e
         ·exact .inr (by simpa [Hp.setGr, e] using hk1)
        refine ⟨A.set n.kids.length (.gl k1), hdn.box_more hv hne hkk hk1 (fun j hj => (rowR_end hc j hj).2 hb), ?_⟩
        rw [hset]
        all_goals ((try and_intros) <;> first | rfl | assumption | (rfl))
     ·have hb : (n.kids.any fun x => readyC x.vars c) = true := by simpa using hb
      refine AW.skip ?_
      refine ⟨A, hdn.congr (fun j hj => (rowR_end hc j hj).1 hb), ?_⟩
      simp only [zs, simprocAttr, e0, e2, e3, e5, l5, e9, l9, e10, e11]
      all_goals ((try and_intros) <;> first | rfl | assumption | (rfl))
   ·clear e0 e2 e3 e5 l5 e9 l9 e10 e11 hdn A s σd
    rintro s σd ⟨A, hdn, e0, e2, e3, e5, l5, e9, l9, e10, e11⟩
    refine AW.reg0 (S.rn (J10 e0 e2 e3 e5 l5 e9 l9 e10 e11 hw) ?_)
    simp only [ze, simprocAttr, e0, e2, e3, e5, l5, e9, l9, e10, e11, hw]
    refine ⟨m - 1, by omega, i + 1, A, by omega, hdn, ?_⟩
    all_goals ((try and_intros) <;> first | rfl | assumption | (rfl))
  ·have hi := of_decide_eq_false hi
   obtain rfl : i = given.length := by omega
   refine AW.exit ?_
   refine ⟨A, hdn, ?_⟩
   simp only [zs, simprocAttr, e0, e2, e3, e5, l5, e9, l9, e10, e11]
   all_goals ((try and_intros) <;> first | rfl | assumption | (rfl))
 clear e0 e2 e3 e5 l5 e9 l9 hdn hA A s σd
 rintro s σd ⟨A, hdn, e0, e3, e5, l5, e9, l9, e10⟩
 have hkA : n.kids.length < A.length := by rw [hdn.len]; omega
 have hv : A[n.kids.length]? = some A[n.kids.length] := List.getElem?_eq_getElem hkA
 have hgv : A.getD n.kids.length nilV = A[n.kids.length] := by simp [List.getD, hv]
 rw [hgv] at l9
 have hleft : rowR n given given.length 0 n.kids.length = (given.filter fun c => n.kids.all fun k => !readyC k.vars c) := by
  simp only [rowR, List.getElem?_eq_none (Nat.le_refl n.kids.length), List.take_length]
 refine AW.dn hdn fun π hgl hrows => ?_
 have hu := hrows _ _ hv
 rw [hleft] at hu
 refine AW.st (fun s' => s'.t 0 = ptrV g ∧ s'.t 3 = .c (.int .i64 w) ∧ s'.t 5 = .lp 5 0 ∧ s'.l 5 = some (ndC n) ∧ s'.t 9 = .lp 9 0 ∧ s'.l 9 = some (opC n w (.sl ((given.filter fun c => n.kids.all fun k => !readyC k.vars c).map encC))) ∧ s'.t 10 = .sl ((List.range n.kids.length).map fun j => [V.sl ((rowR n given given.length 0 j).map encC)])) ?_ ?_
 ·simp only [St.mapV_t, St.mapV_l, e0, e3, e5, l5, e9, l9, e10, hgl, Option.map_some, ndC_mapV, opC_mapV, hu]
  and_intros <;> first | rfl | trivial
 clear e0 e3 e5 l5 e9 l9 e10 hgl hrows hu hv hgv hkA hdn A s σd
 rintro s ⟨e0, e3, e5, l5, e9, l9, e10⟩
 subst hT
 have hop : ∀ f : List Int, f.length < 4611686018427387904 → ∀ (xi : Pln) (σi : Hp), PlH g xi σi → xi.from_.length = xi.ops.length → xi.ops.length < 1048576 → fewPl xi → Hp.Apart σi τ →
   ACalls Tryz.prog 41 [ptrV g, .agg (opC n w (.sl ((given.filter fun c => n.kids.all fun k => !readyC k.vars c).map encC))), .sl (f.map encI)] (σi.join τ) (fun v σ' => ∃ σ1, (v = .c (.int .i64 ((putPl xi (opOf n given w) f).2 : Nat)) ∧ PlH g (putPl xi (opOf n given w) f).1 σ1) ∧ Hp.Apart σ1 τ ∧ σ' = σ1.join τ) :=
  fun f _ xi σi h1 h2 h3 h4 h5 => ACalls.beside (rputPl_spec h1 (opOf n given w) f h2 h3 h4.1 h4.2) h5
 have hput := Nd.mkR_eq putPl w n x given
 have hns := n.size_eq
 have hcz : ((n.kids.length : Int) = 0) = (n.kids.length = 0) := by rw [eq_iff_iff]; omega
 refine AW.seq_j (fun s' σ' => σ' = σ.join τ ∧ ¬ n.kids.length = 0 ∧ s'.t 0 = ptrV g ∧ s'.t 3 = .c (.int .i64 w) ∧ s'.t 5 = .lp 5 0 ∧ s'.l 5 = some (ndC n) ∧ s'.t 9 = .lp 9 0 ∧ s'.l 9 = some (opC n w (.sl ((given.filter fun c => n.kids.all fun k => !readyC k.vars c).map encC))) ∧ s'.t 10 = .sl ((List.range n.kids.length).map fun j => [V.sl ((rowR n given given.length 0 j).map encC)])) ?_ ?_
 ·refine AW.sr (J9 e0 e3 e5 l5 @ndC.eq_1 e9 l9 e10 @List.length_map.{0,0}) ?_
  refine AW.cond (b := ((n.kids.length : Int) == 0)) (by simp only [ev, St.put_t, simprocAttr]) (fun hb => ?_) (fun hb => ?_)
  ·have hb : n.kids.length = 0 := by have := eq_of_beq hb; omega
   have hk0 : n.kids = [] := List.eq_nil_of_length_eq_zero hb
   have hcall := hop [-1] (by decide) x σ hM hx (by omega) hfw ha
   rw [if_pos hb, hk0] at hput
   have hput : n.mkR putPl w x given = putPl x (opOf n given w) [-1] := hput
   rw [← hput] at hcall
   refine AW.seq_k fun K12 h12 => ?_
   refine AW.reg0 ?_
   iterate 3 (refine S.g rfl rfl fun Y Z => ?_; simp only [zb, simprocAttr, -Int.reduceNatCast', -Int.reduceToNat, tt, e0, e9, l9, opC, ptrV]; refine Z _ _ ?_; clear Z Y)
   all_goals (refine S.g rfl rfl fun Y Z => ?_; simp only [zz, simprocAttr, -Int.reduceNatCast', -Int.reduceToNat, e0, e9, l9, opC, ptrV]; (unfold ptrV opC at hcall; refine ACalls.to hcall ?_; rintro v1 σ1 ⟨σ2, ⟨rfl, hM2⟩, ha2, rfl⟩) <;> (refine Z _ _ ?_; clear Z Y))
   all_goals refine S.one (J5 e0 e9 l9 @opC.eq_1 @ptrV.eq_1) ?_
   all_goals (refine S.nil ?_; simp only [ze, simprocAttr, e0, e9, l9, opC, ptrV]; apply_assumption)
   refine AW.ret ?_
   all_goals simp only [zs, simprocAttr]
   exact ⟨σ2, hM2, ha2, rfl⟩
  ·have hb : ¬ n.kids.length = 0 := fun h => by rw [h] at hb; exact Bool.noConfusion hb
   refine AW.skip ?_
   simp only [zs, simprocAttr, e0, e3, e5, l5, e9, l9, e10]
   all_goals ((try and_intros) <;> first | rfl | assumption | (exact hb))
 clear e0 e3 e5 l5 e9 l9 e10 s
 rintro s σ0 ⟨rfl, hn0, e0, e3, e5, l5, e9, l9, e10⟩
 rw [if_neg hn0] at hput
 all_goals refine AW.sr (J7 e0 e3 e5 l5 e9 l9 e10) ?_
 refine AW.seq_j (fun s' σ' => ∃ σi, σ' = σi.join τ ∧ Hp.Apart σi τ ∧ PlH g (kidsR given ((n.kids.map (Nd.mkR putPl w)).zip n.kids) (x, [])).1 σi ∧ s'.t 0 = ptrV g ∧ s'.t 9 = .lp 9 0 ∧ s'.l 9 = some (opC n w (.sl ((given.filter fun c => n.kids.all fun k => !readyC k.vars c).map encC))) ∧ s'.t 14 = .sl ((kidsR given ((n.kids.map (Nd.mkR putPl w)).zip n.kids) (x, [])).2.map encI)) ?_ ?_
 ·refine AW.sr (J7 e0 e3 e5 l5 e9 l9 e10) ?_
  refine AW.block ?_   -- 4
  refine AW.loop (fun m s' σ' => ∃ (j : Nat) (xk : Pln) (lk : List Int) (σk τk : Hp), m + j = n.kids.length ∧ σ' = σk.join τk ∧ PlH g xk σk ∧ FromH τ lk (s'.t 14) τk ∧ Hp.Apart σk τk ∧
   kidsR given ((n.kids.map (Nd.mkR putPl w)).zip n.kids) (x, []) = kidsR given (((n.kids.drop j).map (Nd.mkR putPl w)).zip (n.kids.drop j)) (xk, lk) ∧ lk.length = j ∧ xk.from_.length = xk.ops.length ∧ xk.ops.length ≤ x.ops.length + ((n.kids.take j).map Nd.size).sum ∧ fewPl xk ∧
   s'.t 0 = ptrV g ∧ s'.t 3 = .c (.int .i64 w) ∧ s'.t 5 = .lp 5 0 ∧ s'.l 5 = some (ndC n) ∧ s'.t 9 = .lp 9 0 ∧ s'.l 9 = some (opC n w (.sl ((given.filter fun c => n.kids.all fun k => !readyC k.vars c).map encC))) ∧ s'.t 10 = .sl ((List.range n.kids.length).map fun j => [V.sl ((rowR n given given.length 0 j).map encC)]) ∧ s'.t 15 = .c (.int .i64 (j : Nat))) n.kids.length ?_ ?_
  ·refine ⟨0, x, [], σ, τ, by simp, rfl, hM, ?_⟩
   simp only [zs, simprocAttr, -Int.reduceNatCast', -Int.reduceToNat, e0, e3, e5, l5, e9, l9, e10]
   refine ⟨.inl ⟨rfl, rfl, rfl⟩, ha, rfl, hx, by simp, hfw, ?_⟩
   all_goals ((try and_intros) <;> first | rfl | assumption | (rfl))
  clear e0 e3 e5 l5 e9 l9 e10 s
  rintro m s σw ⟨j, xk, lk, σk, τk, hm, rfl, hMk, hfr, hak, hkr, hlr, hxk, hlk, hfwk, e0, e3, e5, l5, e9, l9, e10, e15⟩
  refine AW.seq_k fun K15 h15 => ?_
  refine AW.sr (J5 e5 l5 @ndC.eq_1 e15 @List.length_map.{0,0}) ?_
  refine AW.cond (b := decide (j < n.kids.length)) (by simp [ev]) (fun hil => ?_) (fun hil => ?_)
  ·have hil := of_decide_eq_true hil
   obtain ⟨k, hkx, hxm, hgd⟩ := kid_get hil
   have hw := wadd1 (a := j) (by omega)
   have hxs := hn.kid hxm
   have hxe := Nd.err_kid he hxm
   obtain ⟨hs1, hs2⟩ := sum_takeN hkx
   rw [kidsR_step given hkx] at hkr
   have hpl := mkR_len putPl_len (w := w) k xk (given.filter (readyC k.vars)) hxk
   have hfl : (given.filter (readyC k.vars)).length ≤ 16 := Nat.le_trans (List.length_filter_le ..) hgl
   have hpf := mkR_few (w := w) k hxs hxe xk (given.filter (readyC k.vars)) hfwk hfl
   have hrk : rowR n given given.length 0 j = given.filter (readyC k.vars) := by simp only [rowR, hkx, List.take_length, if_neg (Nat.not_lt_zero j)]
   have hdg : ((List.range n.kids.length).map fun j => [V.sl ((rowR n given given.length 0 j).map encC)]).getD j [] = [.sl ((given.filter (readyC k.vars)).map encC)] := by simp [List.getD, hil, hrk]
   have y3 : (1 ≤ maxLen) = True := eq_true (by unfold maxLen; omega)
   have y5 : (8 ≤ reach) = True := eq_true (by unfold reach; omega)
   have hz := len_i1 ((k.mkR putPl w xk (given.filter (readyC k.vars))).2 : Nat)
   refine AW.skip ?_
   simp only [zs, simprocAttr]
   all_goals apply_assumption
   refine AW.seq_j (fun s' σ' => ∃ (σ1 τ1 : Hp), σ' = σ1.join τ1 ∧ Hp.Apart σ1 τ1 ∧ PlH g (k.mkR putPl w xk (given.filter (readyC k.vars))).1 σ1 ∧ FromH τ (lk ++ [((k.mkR putPl w xk (given.filter (readyC k.vars))).2 : Int)]) (s'.t 14) τ1 ∧ s'.t 0 = ptrV g ∧ s'.t 3 = .c (.int .i64 w) ∧ s'.t 5 = .lp 5 0 ∧ s'.l 5 = some (ndC n) ∧ s'.t 9 = .lp 9 0 ∧ s'.l 9 = some (opC n w (.sl ((given.filter fun c => n.kids.all fun k => !readyC k.vars c).map encC))) ∧ s'.t 10 = .sl ((List.range n.kids.length).map fun j => [V.sl ((rowR n given given.length 0 j).map encC)]) ∧ s'.t 15 = .c (.int .i64 (j : Nat))) ?_ ?_
   ·refine AW.block ?_   -- 5
    refine AW.st (fun s' => s'.t 0 = ptrV g ∧ s'.t 3 = .c (.int .i64 w) ∧ s'.t 5 = .lp 5 0 ∧ s'.l 5 = some (ndC n) ∧ s'.t 9 = .lp 9 0 ∧ s'.l 9 = some (opC n w (.sl ((given.filter fun c => n.kids.all fun k => !readyC k.vars c).map encC))) ∧ s'.t 10 = .sl ((List.range n.kids.length).map fun j => [V.sl ((rowR n given given.length 0 j).map encC)]) ∧ s'.t 14 = s.t 14 ∧ s'.t 15 = .c (.int .i64 (j : Nat))) ?_ ?_
    ·simp only [zs, simprocAttr, e0, e3, e5, l5, e9, l9, e10, e15]
     all_goals ((try and_intros) <;> first | rfl | assumption | (rfl))
    clear e0 e3 e5 l5 e9 l9 e10 e15
    rintro s2 ⟨e0, e3, e5, l5, e9, l9, e10, e14, e15⟩
    unfold ndC at l5
    rcases hfr with ⟨hu, hl0, rfl⟩ | ⟨kf, hu, hl0, hkf, rfl⟩ <;> rw [hu] at e14
    ·subst hl0
     refine AW.dT { sd := fun d => d == 5 } (.st 0 0 (.st 1 0 (.st 2 0 (.st 4 0 (.st 7 0 (.st 8 0 (.st 9 0 (.st 11 0 (.st 3 1 (.st 5 0 (.st 6 1 (.st 10 1 (.st 12 2 (.st 13 2 (.st 14 2 (.st 15 0 .nil)))))))))))))))) ?_
     iterate 12 refine T.onf (J12 @Bool.or_self @kill.eq_1 @kill.eq_2 e0 e3 e5 l5 e9 l9 e10 e14 (J11 e15 hil hgd hdg @ptrV.eq_1 @nd y3 y5 hz @List.length_map.{0,0} @List.length_range)) ?_
     (refine T.g rfl trivial rfl rfl fun Y Z => ?_; simp only [zz, simprocAttr, -Int.reduceNatCast', -Int.reduceToNat, Nat.reduceBEq, Bool.or_self, kill, e0, e3, e5, l5, e9, l9, e10, e14, e15, hil, hgd, hdg, ptrV, nd, y3, y5, hz, List.length_map, List.length_range]; (refine ACalls.to (ih k hxm hxs hxe xk (given.filter (readyC k.vars)) σk _ hMk hak hxk (by omega) hfwk hfl) ?_; rintro v1 σ1 ⟨rfl, σ2, hM2, ha2, rfl⟩; first | have hgr2 := ha2.grR hkf2 | have hgr2 : True := trivial) <;> (refine Z _ _ ?_; clear Z Y))
     all_goals (refine T.g rfl trivial rfl rfl fun Y Z => ?_; simp only [zb, simprocAttr, -Int.reduceNatCast', -Int.reduceToNat, tt, Nat.reduceBEq, Bool.or_self, kill, e0, e3, e5, l5, e9, l9, e10, e14, e15, hil, hgd, hdg, ptrV, nd, y3, y5, hz, List.length_map, List.length_range]; refine Z _ _ ?_; clear Z Y)
     all_goals (refine T.g rfl trivial rfl rfl fun Y Z => ?_; simp only [zz, simprocAttr, -Int.reduceNatCast', -Int.reduceToNat, tt, Nat.reduceBEq, Bool.or_self, kill, e0, e3, e5, l5, e9, l9, e10, e14, e15, hil, hgd, hdg, ptrV, nd, y3, y5, hz, List.length_map, List.length_range, hgr2, List.length_append]; intro k1 hk1 <;> (refine Z _ _ ?_; clear Z Y))
     all_goals refine T.onf (J12 @Bool.or_self @kill.eq_1 @kill.eq_2 e0 e3 e5 l5 e9 l9 e10 e14 (J11 e15 hil hgd hdg @ptrV.eq_1 @nd y3 y5 hz @List.length_map.{0,0} @List.length_range)) ?_
     all_goals refine T.nil ?_
     all_goals simp only [ze, simprocAttr, Nat.reduceBEq, Bool.or_self, kill, e0, e3, e5, l5, e9, l9, e10, e14, e15, hil, hgd, hdg, ptrV, nd, y3, y5, hz, List.length_map, List.length_range]
     all_goals
      obtain ⟨hj1, hj2, hj3⟩ := join_new ha2 (x := ((3, 1), [[V.c (.int .i64 ((k.mkR putPl w xk (given.filter (readyC k.vars))).2 : Nat))]])) hk1
      refine ⟨σ2, _, hj1, hj2, hM2, .inr ⟨k1, rfl, by simp, hj3, rfl⟩, ?_⟩
      all_goals ((try and_intros) <;> first | rfl | assumption | (rfl))
    ·have hkf2 : (τ.setGr kf (some ((3, 1), lk.map encI))).gr kf = some ((3, 1), lk.map encI) := by simp
     have y1 : (lk.length + 1 ≤ maxLen) = True := eq_true (by unfold maxLen; omega)
     have y2 : ((lk.length + 1) * 8 ≤ reach) = True := eq_true (by unfold reach; omega)
     refine AW.dT { sd := fun d => d == 5 } (.st 0 0 (.st 1 0 (.st 2 0 (.st 4 0 (.st 7 0 (.st 8 0 (.st 9 0 (.st 11 0 (.st 3 1 (.st 5 0 (.st 6 1 (.st 10 1 (.st 12 2 (.st 13 2 (.st 14 2 (.st 15 0 .nil)))))))))))))))) ?_
     iterate 12 refine T.onf (J12 @Bool.or_self @kill.eq_1 @kill.eq_2 e0 e3 e5 l5 e9 l9 e10 e14 (J12 e15 hil hgd hdg @ptrV.eq_1 @nd y1 y2 y3 y5 hz (J2 @List.length_map.{0,0} @List.length_range))) ?_
     (refine T.g rfl trivial rfl rfl fun Y Z => ?_; simp only [zz, simprocAttr, -Int.reduceNatCast', -Int.reduceToNat, Nat.reduceBEq, Bool.or_self, kill, e0, e3, e5, l5, e9, l9, e10, e14, e15, hil, hgd, hdg, ptrV, nd, y1, y2, y3, y5, hz, List.length_map, List.length_range]; (refine ACalls.to (ih k hxm hxs hxe xk (given.filter (readyC k.vars)) σk _ hMk hak hxk (by omega) hfwk hfl) ?_; rintro v1 σ1 ⟨rfl, σ2, hM2, ha2, rfl⟩; first | have hgr2 := ha2.grR hkf2 | have hgr2 : True := trivial) <;> (refine Z _ _ ?_; clear Z Y))
     all_goals (refine T.g rfl trivial rfl rfl fun Y Z => ?_; simp only [zb, simprocAttr, -Int.reduceNatCast', -Int.reduceToNat, tt, Nat.reduceBEq, Bool.or_self, kill, e0, e3, e5, l5, e9, l9, e10, e14, e15, hil, hgd, hdg, ptrV, nd, y1, y2, y3, y5, hz, List.length_map, List.length_range]; refine Z _ _ ?_; clear Z Y)
     all_goals (refine T.g rfl trivial rfl rfl fun Y Z => ?_; simp only [zz, simprocAttr, -Int.reduceNatCast', -Int.reduceToNat, tt, Nat.reduceBEq, Bool.or_self, kill, e0, e3, e5, l5, e9, l9, e10, e14, e15, hil, hgd, hdg, ptrV, nd, y1, y2, y3, y5, hz, List.length_map, List.length_range, hgr2, List.length_append]; intro k1 hk1 <;> (refine Z _ _ ?_; clear Z Y))
     all_goals refine T.onf (J12 @Bool.or_self @kill.eq_1 @kill.eq_2 e0 e3 e5 l5 e9 l9 e10 e14 (J12 e15 hil hgd hdg @ptrV.eq_1 @nd y1 y2 y3 y5 hz (J2 @List.length_map.{0,0} @List.length_range))) ?_
     all_goals refine T.nil ?_
     all_goals simp only [ze, simprocAttr, Nat.reduceBEq, Bool.or_self, kill, e0, e3, e5, l5, e9, l9, e10, e14, e15, hil, hgd, hdg, ptrV, nd, y1, y2, y3, y5, hz, List.length_map, List.length_range]
     all_goals
      obtain ⟨hd1, hd2⟩ := join_del ha2 hkf
      have hk1 : (σ2.join τ).gr k1 = none := by rw [← hd1]; simpa [Hp.setGr] using hk1
      obtain ⟨hj1, hj2, hj3⟩ := join_new hd2 (x := ((3, 1), lk.map encI ++ [[V.c (.int .i64 ((k.mkR putPl w xk (given.filter (readyC k.vars))).2 : Nat))]])) hk1
      rw [hd1]
      refine ⟨σ2, _, hj1, hj2, hM2, .inr ⟨k1, rfl, by simp, hj3, by rw [List.map_append]; rfl⟩, ?_⟩
      all_goals ((try and_intros) <;> first | rfl | assumption | (rfl))
   ·clear e0 e3 e5 l5 e9 l9 e10 e15 hfr hak hMk s
    rintro s σw ⟨σ1, τ1, rfl, ha1, hM1, hfr, e0, e3, e5, l5, e9, l9, e10, e15⟩
    refine AW.reg0 (S.rn (J9 e0 e3 e5 l5 e9 l9 e10 e15 hw) ?_)
    simp only [ze, simprocAttr, e0, e3, e5, l5, e9, l9, e10, e15, hw]
    refine ⟨m - 1, by omega, j + 1, (k.mkR putPl w xk (given.filter (readyC k.vars))).1, lk ++ [((k.mkR putPl w xk (given.filter (readyC k.vars))).2 : Int)], σ1, τ1, by omega, rfl, hM1, ?_, ha1, hkr, by simp [hlr], hpl.1, by omega, hpf, ?_⟩
    ·have hkl : kill 15 (s.t 14) = s.t 14 := by rcases hfr with ⟨h, _⟩ | ⟨kf, h, _⟩ <;> rw [h] <;> rfl
     first | exact hfr | (rw [hkl]; exact hfr)
    ·all_goals ((try and_intros) <;> first | rfl | assumption | (rfl))
  ·have hil := of_decide_eq_false hil
   obtain rfl : j = n.kids.length := by omega
   rw [List.drop_of_length_le (Nat.le_refl _)] at hkr
   have hkr : kidsR given ((n.kids.map (Nd.mkR putPl w)).zip n.kids) (x, []) = (xk, lk) := hkr
   rw [hkr]
   refine AW.st (fun s' => s'.t 0 = ptrV g ∧ s'.t 9 = .lp 9 0 ∧ s'.l 9 = some (opC n w (.sl ((given.filter fun c => n.kids.all fun k => !readyC k.vars c).map encC))) ∧ s'.t 14 = s.t 14) ?_ ?_
   ·simp only [zs, simprocAttr, e0, e9, l9]
    all_goals ((try and_intros) <;> first | rfl | assumption | (rfl))
   rintro s2 ⟨e0, e9, l9, e14⟩
   rcases hfr with ⟨hu, hl0, rfl⟩ | ⟨kf, hu, hl0, hkf, rfl⟩ <;> rw [hu] at e14
   ·rw [hl0] at hlr; exact absurd hlr.symm hn0
   ·obtain ⟨hd1, hd2⟩ := join_del hak hkf
    refine AW.freeze (k := kf) (T := (3, 1)) (es := lk.map encI) (hak.grR (by simp)) ?_
    rw [hd1]
    refine AW.exit ?_
    refine ⟨σk, rfl, hd2, hMk, by simp [e0, fzV, fz1, ptrV], by simp [e9, fzV, fz1], by simp [l9, opC, fz1], by simp [e14, fzV, fz1]⟩
 clear e0 e3 e5 l5 e9 l9 e10 s
 rintro s σ0 ⟨σi, rfl, hai, hMi, e0, e9, l9, e14⟩
 have hsnd := kidsR_snd (put := putPl) (w := w) given n.kids (x, [])
 obtain ⟨hl1, hl2, _⟩ := kidsR_len (put := putPl) (w := w) given n.kids (fun k _ y z hy => mkR_len putPl_len k y z hy) (x, []) hx
 have hfk := kidsR_few (w := w) given n.kids (fun k hk y hy => mkR_few k (hn.kid hk) (Nd.err_kid he hk) y _ hy (Nat.le_trans (List.length_filter_le ..) hgl)) (x, []) hfw
 have hcall := hop _ (by rw [hsnd]; simp; omega) _ σi hMi hl1 (by simp only at hl2; omega) hfk hai
 rw [← hput] at hcall
 refine AW.seq_k fun K17 h17 => ?_
 all_goals refine AW.reg0 ?_
 all_goals iterate 3 refine S.one (J6 e0 e9 l9 e14 @opC.eq_1 @ptrV.eq_1) ?_
 all_goals (refine S.g rfl rfl fun Y Z => ?_; simp only [zz, simprocAttr, -Int.reduceNatCast', -Int.reduceToNat, e0, e9, l9, e14, opC, ptrV]; (unfold ptrV opC at hcall; refine ACalls.to hcall ?_; rintro v1 σ1 ⟨σ2, ⟨rfl, hM2⟩, ha2, rfl⟩) <;> (refine Z _ _ ?_; clear Z Y))
 all_goals refine S.one (J6 e0 e9 l9 e14 @opC.eq_1 @ptrV.eq_1) ?_
 all_goals (refine S.nil ?_; simp only [ze, simprocAttr, e0, e9, l9, e14, opC, ptrV]; apply_assumption)
 refine AW.ret ?_
 all_goals simp only [zs, simprocAttr]
 exact ⟨σ2, hM2, ha2, rfl⟩
theorem rSame_spec (a b : Pln) (ha : okPl a) : PCalls Tryz.prog 11 [.agg (encPl a), .agg (encPl b)] (fun v => v = .c (.bool (samePl a b))) := by
 have h1 := ha.ops
 have h2 := ha.from_
 refine PCalls.intro Tryz.call11 Tryz.func11 rfl Tryz.ntmps11 Tryz.results11 (by simp) ?_
 refine AW.sr @encPl.eq_1 ?_
 refine AW.seq_j (fun s' σ' => σ' = Hp.empty ∧ a.ops.length = b.ops.length ∧ a.from_.length = b.from_.length ∧ s'.t 2 = .lp 2 0 ∧ s'.l 2 = some [.sl (a.ops.map encOp), .sl (a.from_.map encF)] ∧ s'.t 3 = .lp 3 0 ∧ s'.l 3 = some [.sl (b.ops.map encOp), .sl (b.from_.map encF)]) ?_ ?_
 ·refine AW.seq_j (fun s' σ' => σ' = Hp.empty ∧ s'.t 2 = .lp 2 0 ∧ s'.l 2 = some [.sl (a.ops.map encOp), .sl (a.from_.map encF)] ∧ s'.t 3 = .lp 3 0 ∧ s'.l 3 = some [.sl (b.ops.map encOp), .sl (b.from_.map encF)] ∧ s'.t 22 = .c (.bool (((a.ops.length : Int) != b.ops.length) || ((a.from_.length : Int) != b.from_.length)))) ?_ ?_
  ·skip
   refine AW.reg0 ?_
   iterate 6 refine S.one @List.length_map.{0,0} ?_
   (refine S.sp @List.length_map.{0,0} fun b a13 => ?_; cases b <;> (try exact nope a13))
   all_goals iterate 9 refine S.one @List.length_map.{0,0} ?_
   all_goals refine S.nil ?_
   all_goals simp only [ze, simprocAttr, List.length_map]
   all_goals simp_all [bne]
  rintro s σ ⟨rfl, e2, l2, e3, l3, e22⟩
  refine AW.cond (b := ((a.ops.length : Int) != b.ops.length) || ((a.from_.length : Int) != b.from_.length)) e22 (fun hc => ?_) (fun hc => ?_)
  ·refine AW.sr trivial ?_
   refine AW.ret ?_
   simp only [zs, simprocAttr]
   have hc : ¬ (a.ops.length = b.ops.length ∧ a.from_.length = b.from_.length) := fun ⟨h3, h4⟩ => by rw [h3, h4] at hc; simp at hc
   by_cases h3 : a.ops.length = b.ops.length
   ·rw [samePl, allEq_len (f := allEq eqI) (fun h4 => hc ⟨h3, h4⟩), Bool.and_false]
   ·rw [samePl, allEq_len h3, Bool.false_and]
  ·refine AW.skip ?_
   simp only [Bool.or_eq_false_iff, bne_eq_false_iff_eq, Int.natCast_inj] at hc
   exact ⟨rfl, hc.1, hc.2, e2, l2, e3, l3⟩
 rintro s σ ⟨rfl, hl1, hl2, e2, l2, e3, l3⟩
 refine AW.seq_j (fun s' σ' => σ' = Hp.empty ∧ samePl a b = allEq (allEq eqI) a.from_ b.from_ ∧ s'.t 2 = .lp 2 0 ∧ s'.l 2 = some [.sl (a.ops.map encOp), .sl (a.from_.map encF)] ∧ s'.t 3 = .lp 3 0 ∧ s'.l 3 = some [.sl (b.ops.map encOp), .sl (b.from_.map encF)]) ?_ ?_
 ·refine AW.sr (J4 e2 l2 e3 l3) ?_
  refine AW.block ?_   -- 0
  refine AW.loop (fun m s σ => σ = Hp.empty ∧ ∃ i : Nat, m + i = a.ops.length ∧ s.t 2 = .lp 2 0 ∧ s.l 2 = some [.sl (a.ops.map encOp), .sl (a.from_.map encF)] ∧ s.t 3 = .lp 3 0 ∧ s.l 3 = some [.sl (b.ops.map encOp), .sl (b.from_.map encF)] ∧ s.t 5 = .c (.int .i64 (i : Nat)) ∧ allEq sameOp a.ops b.ops = allEq sameOp (a.ops.drop i) (b.ops.drop i)) a.ops.length ?_ ?_
  ·refine ⟨rfl, 0, by simp, ?_⟩
   simp only [zs, simprocAttr, e2, l2, e3, l3]
   all_goals ((try and_intros) <;> first | rfl | assumption | (rfl))
  clear e2 l2 e3 l3 s
  rintro m s σ ⟨rfl, i, hm, e2, l2, e3, l3, e5, hp⟩
  refine AW.seq_k fun K4 h4 => ?_
  all_goals refine AW.sr (J4 e2 l2 e5 @List.length_map.{0,0}) ?_
  refine AW.cond (b := decide (i < a.ops.length)) (by simp [ev]) (fun hi => ?_) (fun hi => ?_)
  ·have hi := of_decide_eq_true hi
   have hj : i < b.ops.length := by omega
   have hw := wadd1 (a := i) (by omega)
   have hg := getD_map (f := encOp) hi
   have hg2 := getD_map (f := encOp) hj
   have hd : a.ops.drop i = a.ops[i] :: a.ops.drop (i + 1) := List.drop_eq_getElem_cons hi
   have hd2 : b.ops.drop i = b.ops[i] :: b.ops.drop (i + 1) := List.drop_eq_getElem_cons hj
   have hum : a.ops[i] ∈ a.ops := List.getElem_mem hi
   generalize a.ops[i] = u at hg hd hum
   generalize b.ops[i] = v at hg2 hd2
   rw [hd, hd2, allEq] at hp
   refine AW.skip ?_
   simp only [zs, simprocAttr]
   all_goals apply_assumption
   refine AW.seq_k fun K6 h6 => ?_
   refine AW.block ?_   -- 1
   refine AW.seq_k fun K7 h7 => ?_
   refine AW.dT { sd := fun d => d == 2 || d == 3 } (.st 0 0 (.st 2 0 (.st 5 0 (.st 7 0 (.st 1 1 (.st 3 0 (.st 4 1 (.st 6 1 (.st 8 0 (.st 9 1 (.st 10 2 (.st 11 0 .nil)))))))))))) ?_
   iterate 10 refine T.onf (J12 @Bool.or_self @kill.eq_1 @kill.eq_2 e2 l2 e3 l3 e5 hi hj hg (J3 hg2 @encOp.eq_1 @List.length_map.{0,0})) ?_
   (refine T.g rfl trivial rfl rfl fun Y Z => ?_; simp only [zz, simprocAttr, -Int.reduceNatCast', -Int.reduceToNat, Nat.reduceBEq, Bool.or_self, kill, e2, l2, e3, l3, e5, hi, hj, hg, hg2, encOp, List.length_map]; refine PCalls.eqto (rsameOp_spec u v (ha.op u hum)) ?_ <;> (refine Z _ _ ?_; clear Z Y))
   all_goals refine T.onf (J12 @Bool.or_self @kill.eq_1 @kill.eq_2 e2 l2 e3 l3 e5 hi hj hg (J3 hg2 @encOp.eq_1 @List.length_map.{0,0})) ?_
   all_goals (refine T.nil ?_; apply_assumption)
   refine AW.cond (b := !sameOp u v) (by simp [ev]) (fun hc => ?_) (fun hc => ?_)
   ·refine AW.sr trivial ?_
    refine AW.ret ?_
    simp only [zs, simprocAttr]
    have hx : sameOp u v = false := by simpa using hc
    rw [samePl, hp, hx]; rfl
   ·refine AW.skip ?_
    simp only [zs, simprocAttr]
    all_goals apply_assumption
    have hx : sameOp u v = true := by simpa using hc
    refine AW.reg0 (S.rn (J6 e2 l2 e3 l3 e5 hw) ?_)
    simp only [ze, simprocAttr, e2, l2, e3, l3, e5, hw]
    refine ⟨m - 1, by omega, i + 1, by omega, ?_⟩
    all_goals ((try and_intros) <;> first | rfl | assumption | ((rw [hp, hx, Bool.true_and])))
  ·have hi := of_decide_eq_false hi
   refine AW.exit ?_
   rw [List.drop_of_length_le (by omega), List.drop_of_length_le (by omega)] at hp
   refine ⟨rfl, by rw [samePl, hp]; rfl, ?_⟩
   simp only [zs, simprocAttr, e2, l2, e3, l3]
   all_goals ((try and_intros) <;> first | rfl | assumption | (rfl))
 clear e2 l2 e3 l3 s
 rintro s σ ⟨rfl, hs0, e2, l2, e3, l3⟩
 refine AW.seq_k fun K9 h9 => ?_
 all_goals refine AW.sr (J4 e2 l2 e3 l3) ?_
 refine AW.block ?_   -- 2
 refine AW.loop (fun m s σ => σ = Hp.empty ∧ ∃ i : Nat, m + i = a.from_.length ∧ s.t 2 = .lp 2 0 ∧ s.l 2 = some [.sl (a.ops.map encOp), .sl (a.from_.map encF)] ∧ s.t 3 = .lp 3 0 ∧ s.l 3 = some [.sl (b.ops.map encOp), .sl (b.from_.map encF)] ∧ s.t 6 = .c (.int .i64 (i : Nat)) ∧ samePl a b = allEq (allEq eqI) (a.from_.drop i) (b.from_.drop i)) a.from_.length ?_ ?_
 ·refine ⟨rfl, 0, by simp, ?_⟩
  simp only [zs, simprocAttr, e2, l2, e3, l3]
  all_goals ((try and_intros) <;> first | rfl | assumption | ((exact hs0)))
 clear e2 l2 e3 l3 s
 rintro m s σ ⟨rfl, i, hm, e2, l2, e3, l3, e6, hp⟩
 refine AW.seq_k fun K11 h11 => ?_
 all_goals refine AW.sr (J4 e2 l2 e6 @List.length_map.{0,0}) ?_
 refine AW.cond (b := decide (i < a.from_.length)) (by simp [ev]) (fun hi => ?_) (fun hi => ?_)
 ·have hi := of_decide_eq_true hi
  have hj : i < b.from_.length := by omega
  have hw := wadd1 (a := i) (by omega)
  have hg := getD_map (f := encF) hi
  have hg2 := getD_map (f := encF) hj
  have hd : a.from_.drop i = a.from_[i] :: a.from_.drop (i + 1) := List.drop_eq_getElem_cons hi
  have hd2 : b.from_.drop i = b.from_[i] :: b.from_.drop (i + 1) := List.drop_eq_getElem_cons hj
  have hum : a.from_[i] ∈ a.from_ := List.getElem_mem hi
  generalize a.from_[i] = u at hg hd hum
  generalize b.from_[i] = v at hg2 hd2
  rw [hd, hd2, allEq] at hp
  refine AW.skip ?_
  simp only [zs, simprocAttr]
  all_goals apply_assumption
  refine AW.seq_k fun K13 h13 => ?_
  refine AW.block ?_   -- 3
  refine AW.seq_k fun K14 h14 => ?_
  refine AW.dT { sd := fun d => d == 2 || d == 3 } (.st 0 0 (.st 2 0 (.st 5 0 (.st 7 0 (.st 1 1 (.st 3 0 (.st 4 1 (.st 6 1 (.st 8 0 (.st 9 1 (.st 10 2 (.st 11 0 .nil)))))))))))) ?_
  iterate 10 refine T.onf (J12 @Bool.or_self @kill.eq_1 @kill.eq_2 e2 l2 e3 l3 e6 hi hj hg (J3 hg2 @encF.eq_1 @List.length_map.{0,0})) ?_
  (refine T.g rfl trivial rfl rfl fun Y Z => ?_; simp only [zz, simprocAttr, -Int.reduceNatCast', -Int.reduceToNat, Nat.reduceBEq, Bool.or_self, kill, e2, l2, e3, l3, e6, hi, hj, hg, hg2, encF, List.length_map]; refine PCalls.eqto (rsameI u v (ha.fr u hum)) ?_ <;> (refine Z _ _ ?_; clear Z Y))
  all_goals refine T.onf (J12 @Bool.or_self @kill.eq_1 @kill.eq_2 e2 l2 e3 l3 e6 hi hj hg (J3 hg2 @encF.eq_1 @List.length_map.{0,0})) ?_
  all_goals (refine T.nil ?_; apply_assumption)
  refine AW.cond (b := !allEq eqI u v) (by simp [ev]) (fun hc => ?_) (fun hc => ?_)
  ·refine AW.sr trivial ?_
   refine AW.ret ?_
   simp only [zs, simprocAttr]
   have hx : allEq eqI u v = false := by simpa using hc
   rw [hp, hx]; rfl
  ·refine AW.skip ?_
   simp only [zs, simprocAttr]
   all_goals apply_assumption
   have hx : allEq eqI u v = true := by simpa using hc
   refine AW.reg0 (S.rn (J6 e2 l2 e3 l3 e6 hw) ?_)
   simp only [ze, simprocAttr, e2, l2, e3, l3, e6, hw]
   refine ⟨m - 1, by omega, i + 1, by omega, ?_⟩
   all_goals ((try and_intros) <;> first | rfl | assumption | ((rw [hp, hx, Bool.true_and])))
 ·have hi := of_decide_eq_false hi
  rw [List.drop_of_length_le (by omega), List.drop_of_length_le (by omega)] at hp
  refine AW.exit ?_
  simp only [zs, simprocAttr]
  all_goals apply_assumption
  refine AW.sr trivial ?_
  refine AW.ret ?_
  simp only [zs, simprocAttr]
  rw [hp]; rfl
def tabH (tq : Nat × Nat × Nat) : Hp := Hp.empty.setObj 0 (some (tabV tq))
def planE (put : Pln → OpS → List Int → Pln × Nat) (p : Pat) : Pln × Int := if patErr p = 0 then (planR put p, 0) else (⟨[], []⟩, patErr p)
def patC (p : Pat) : List V := [.c (.string p.name), .c (.int .i64 p.within), .c (.int .i64 p.node.kind), .c (.string p.node.var), .c (.string p.node.type), .sl (p.node.tests.map encC), .sl (p.node.kids.map encNd), .sl (p.conds.map encC)]
theorem kept_tab {tq : Nat × Nat × Nat} {σ' : Hp} (h : σ'.obj 0 = some (tabV tq)) : (∀ g c, (tabH tq).obj g = some c → σ'.obj g = some c) ∧ (∀ k x, (tabH tq).gr k = some x → σ'.gr k = some x) :=
 ⟨fun g c hg => by
  by_cases e : g = 0
  ·subst e; simp [tabH] at hg; rw [← hg]; exact h
  ·simp [tabH, e, Hp.empty] at hg, fun k x hk => by simp [tabH, Hp.empty] at hk⟩
theorem zt78 : zeroT Tryz.prog 78 = some .nilFunc := by kernel_rfl
theorem join_one {σ : Hp} {g : Nat} {x : List V} (h : σ.obj g = none) : σ.setObj g (some x) = σ.join (Hp.empty.setObj g (some x)) ∧ Hp.Apart σ (Hp.empty.setObj g (some x)) := by
 refine ⟨Hp.eqs (fun j => ?_) (fun j => ?_), ⟨fun j => ?_, fun j => .inr rfl⟩⟩
 ·by_cases e : j = g
  ·subst e; simp [Hp.join, Hp.setObj, h]
  ·cases hj : σ.obj j <;> simp [Hp.join, Hp.setObj, e, hj, Hp.empty]
 ·cases hj : σ.gr j <;> simp [Hp.join, Hp.setObj, hj, Hp.empty]
 ·by_cases e : j = g
  ·subst e; exact .inl h
  ·exact .inr (by simp [Hp.setObj, e, Hp.empty])
theorem key_root (w : Int) : keyP ⟨5, ⟨#[]⟩, ⟨#[]⟩, [], [], w, 1⟩ where
 kind := by show inI64 5; unfold inI64; decide
 var := by show (0 : Nat) ≤ _; decide
 type := by show (0 : Nat) ≤ _; decide
 tl := by show (0 : Nat) < _; decide
 cl := by show (0 : Nat) < _; decide
 tests := fun c h => by cases h
 conds := fun c h => by cases h
theorem Of_spec {tq : Nat × Nat × Nat} (p : Pat) (hp : okPat p) (hi : p.node.inr) (hci : ∀ c ∈ p.conds, cI c) (hw : inI64 p.within) :
  ACalls Tryz.prog 9 [.agg (encPat p)] (tabH tq) (fun v σ' => σ' = tabH tq ∧ v = .tup [.agg (encPl (planE putM p).1), .c (.int .i64 (planE putM p).2)]) := by
 refine ACalls.keepH (R := fun v σ' => σ'.obj 0 = some (tabV tq) ∧ v = .tup [.agg (encPl (planE putM p).1), .c (.int .i64 (planE putM p).2)]) ?_ fun v σ' ⟨h1, h2⟩ => ⟨(kept_tab h1).1, (kept_tab h1).2, rfl, h2⟩
 have hE := (encNd_eq p.node).symm
 refine ACalls.intro Tryz.call9 Tryz.func9 rfl Tryz.ntmps9 Tryz.results9 (by simp) ?_
 refine AW.sr @encPat.eq_1 ?_
 refine AW.seq_j (fun s' σ' => σ' = tabH tq ∧ patErr p = 0 ∧ s'.t 1 = .lp 1 0 ∧ s'.l 1 = some (patC p) ∧ s'.t 2 = .lp 2 0 ∧ s'.l 2 = some [.c (.slice none 0 0), .c (.slice none 0 0)]) ?_ ?_
 ·refine AW.seq_k fun K2 h2 => ?_
  refine AW.reg0 ?_
  refine S.one trivial ?_
  (refine S.g rfl rfl fun Y Z => ?_; simp only [zz, simprocAttr, -Int.reduceNatCast', -Int.reduceToNat]; refine PCalls.eqto (Pattern_spec p hp) ?_ <;> (refine Z _ _ ?_; clear Z Y))
  all_goals refine S.one trivial ?_
  all_goals (refine S.nil ?_; simp only [ze, simprocAttr]; apply_assumption)
  all_goals refine AW.sr trivial ?_
  refine AW.cond (b := (patErr p != 0)) (by simp [ev]) (fun hb => ?_) (fun hb => ?_)
  ·have hb : ¬ patErr p = 0 := by simpa using hb
   refine AW.sr trivial ?_
   refine AW.ret ?_
   simp only [zs, simprocAttr, tt, cut, List.drop_zero, List.take_succ_cons, List.take_zero]
   simp only [zz, Bool.false_eq_true, if_true, simprocAttr, not_false_eq_true, true_and]
   rw [planE, if_neg hb]
   exact ⟨by simp [tabH], rfl⟩
  ·have hb : patErr p = 0 := by simpa using hb
   refine AW.skip ?_
   simp only [zs, simprocAttr]
   all_goals ((try and_intros) <;> first | rfl | assumption | (exact hb))
 rintro s σ0 ⟨rfl, he, e1, l1, e2, l2⟩
 have hgp := good_of he hi hci
 unfold patC at l1
 refine AW.seq_k fun K5 h5 => ?_
 all_goals refine AW.reg0 ?_
 all_goals refine S.one (J5 e1 l1 e2 l2 @encPat.eq_1) ?_
 all_goals (refine S.g rfl rfl fun Y Z => ?_; simp only [zz, simprocAttr, -Int.reduceNatCast', -Int.reduceToNat, e1, l1, e2, l2, encPat]; refine PCalls.eqto (clonePat_spec p hp.small (Nd.fewT_of _ hgp.err) (by have := hgp.len; omega)) ?_ <;> (refine Z _ _ ?_; clear Z Y))
 all_goals refine S.one (J5 e1 l1 e2 l2 @encPat.eq_1) ?_
 all_goals (refine S.nil ?_; simp only [ze, simprocAttr, e1, l1, e2, l2, encPat]; apply_assumption)
 refine AW.seq_k fun K6 h6 => ?_
 all_goals refine AW.region (T := { hp := fun d => d == 19 }) (fun _ _ h => by cases h) rfl ?_
 all_goals (refine S.g rfl rfl fun Y Z => ?_; simp only [zz, simprocAttr, -Int.reduceNatCast', -Int.reduceToNat, e1, l1, e2, l2]; intro gm ngm <;> (refine Z _ _ ?_; clear Z Y))
 all_goals refine S.one (J4 e1 l1 e2 l2) ?_
 all_goals (refine S.g rfl rfl fun Y Z => ?_; simp only [zz, simprocAttr, -Int.reduceNatCast', -Int.reduceToNat, tt, e1, l1, e2, l2]; intro g ng <;> (refine Z _ _ ?_; clear Z Y))
 all_goals iterate 2 refine S.one (J4 e1 l1 e2 l2) ?_
 all_goals (refine S.nil ?_; simp only [ze, simprocAttr, e1, l1, e2, l2]; apply_assumption)
 refine AW.seq_j (fun s' σ' => σ' = mkB tq g gm (.c (.slice none 0 0)) (.c (.slice none 0 0)) [] ∧ s'.t 1 = .lp 1 0 ∧ s'.l 1 = some (patC p) ∧ s'.t 2 = .lp 2 0 ∧ s'.l 2 = some [.c (.slice none 0 0), .c (.slice none 0 0)] ∧ s'.t 5 = .lp 5 0 ∧ s'.l 5 = some [ptrV g] ∧ s'.t 6 = .lp 6 0 ∧ s'.l 6 = some kindsC) ?_ ?_
 ·skip
  refine AW.reg0 (S.rn (J3 e1 e2 l2) ?_)
  simp only [ze, simprocAttr, e1, e2, l2]
  all_goals ((try and_intros) <;> first | rfl | assumption | (rfl))
 have hg0 : ¬ 0 = gm := fun e => by subst e; simp [tabH] at ngm
 have hg1 : ¬ g = gm := fun e => by subst e; simp at ng
 have hg2 : ¬ 0 = g := fun e => by subst e; simp [tabH, hg0] at ng
 clear e1 l1 e2 l2 s ngm ng
 rintro s σ0 ⟨rfl, e1, l1, e2, l2, e5, l5, e6, l6⟩
 refine AW.hushBox l1 (by simp [patC]) ?_
 have f1 : (s.bx 1 (patC p)).t 1 = capZ (patC p) := by simp [e1, bxV, capZ]
 have f2 : (s.bx 1 (patC p)).t 2 = .lp 2 0 := by simp [e2, bxV]
 have f5 : (s.bx 1 (patC p)).t 5 = .lp 5 0 := by simp [e5, bxV]
 have f6 : (s.bx 1 (patC p)).t 6 = .lp 6 0 := by simp [e6, bxV]
 have m2 : (s.bx 1 (patC p)).l 2 = some [.c (.slice none 0 0), .c (.slice none 0 0)] := by simp [l2]
 have m5 : (s.bx 1 (patC p)).l 5 = some [ptrV g] := by simp [l5]
 have m6 : (s.bx 1 (patC p)).l 6 = some kindsC := by simp [l6]
 generalize s.bx 1 (patC p) = s1 at *
 clear e1 l1 e2 l2 e5 l5 e6 l6
 refine AW.hushBox m5 (by simp) ?_
 have e1 : (s1.bx 5 [ptrV g]).t 1 = capZ (patC p) := by simp [f1, bxV, capZ]
 have e2 : (s1.bx 5 [ptrV g]).t 2 = .lp 2 0 := by simp [f2, bxV]
 have e5 : (s1.bx 5 [ptrV g]).t 5 = capZ [ptrV g] := by simp [f5, bxV, capZ]
 have e6 : (s1.bx 5 [ptrV g]).t 6 = .lp 6 0 := by simp [f6, bxV]
 have l2 : (s1.bx 5 [ptrV g]).l 2 = some [.c (.slice none 0 0), .c (.slice none 0 0)] := by simp [m2]
 have l6 : (s1.bx 5 [ptrV g]).l 6 = some kindsC := by simp [m6]
 generalize s1.bx 5 [ptrV g] = s2 at *
 clear f1 f2 f5 f6 m2 m5 m6
 refine AW.hushBox l6 (by simp [kindsC]) ?_
 have f1 : (s2.bx 6 kindsC).t 1 = capZ (patC p) := by simp [e1, bxV, capZ]
 have f2 : (s2.bx 6 kindsC).t 2 = .lp 2 0 := by simp [e2, bxV]
 have f5 : (s2.bx 6 kindsC).t 5 = capZ [ptrV g] := by simp [e5, bxV, capZ]
 have f6 : (s2.bx 6 kindsC).t 6 = capZ kindsC := by simp [e6, bxV, capZ]
 have m2 : (s2.bx 6 kindsC).l 2 = some [.c (.slice none 0 0), .c (.slice none 0 0)] := by simp [l2]
 generalize s2.bx 6 kindsC = s3 at *
 clear e1 e2 e5 e6 l2 l6
 refine AW.seq_k fun K7 h7 => ?_
 all_goals refine AW.region (T := { hp := fun d => d == 7 }) (fun _ _ h => by cases h) rfl ?_
 all_goals (refine S.g rfl rfl fun Y Z => ?_; simp only [zz, simprocAttr, -Int.reduceNatCast', -Int.reduceToNat, zt78, f1, f2, f5, f6, m2, capZ]; intro g4 ng4 <;> (refine Z _ _ ?_; clear Z Y))
 all_goals (refine S.nil ?_; simp only [ze, simprocAttr, f1, f2, f5, f6, m2, capZ]; apply_assumption)
 have ng4 : (mkB tq g gm (.c (.slice none 0 0)) (.c (.slice none 0 0)) []).obj g4 = none := by simpa using ng4
 all_goals refine AW.sr (J10 f1 f2 f5 f6 m2 @capZ_ok @isMap_nf @okF78 @szF78 @agF78) ?_
 have hmk : V.fn (Fn.func 35) [] [capZ kindsC, capZ (patC p), .c (.pointer (some ⟨g4, 0, none⟩)), capZ [ptrV g]] = makesF p g g4 := rfl
 obtain ⟨hj1, hj2⟩ := join_one ng4 (x := [makesF p g g4])
 rw [hmk, hj1]
 refine AW.st (fun s' => s'.t 1 = capZ (patC p) ∧ s'.t 2 = .lp 2 0 ∧ s'.t 5 = capZ [ptrV g] ∧ s'.t 7 = ptrV g4 ∧ s'.l 2 = some [.c (.slice none 0 0), .c (.slice none 0 0)]) ?_ ?_
 ·simp only [zs, simprocAttr, f1, f2, f5, m2]
  all_goals ((try and_intros) <;> first | rfl | assumption | (rfl))
 clear f1 f2 f5 f6 m2 s3
 rintro s ⟨e1, e2, e5, e7, l2⟩
 have hM0 : MkH tq g gm ⟨[], []⟩ (mkB tq g gm (.c (.slice none 0 0)) (.c (.slice none 0 0)) []) := .inl ⟨rfl, rfl, rfl⟩
 generalize mkB tq g gm (.c (.slice none 0 0)) (.c (.slice none 0 0)) [] = σm at hM0 hj2
 clear hj1 ng4
 have hτ4 : (Hp.empty.setObj g4 (some [makesF p g g4])).obj g4 = some [makesF p g g4] := by simp
 generalize Hp.empty.setObj g4 (some [makesF p g g4]) = τ at hj2 hτ4
 have hsz := hgp.size
 have hlen := hgp.len
 have hmake := makes_spec hg2 hg0 hg1 hw p.node hp.small hgp.err hi ⟨[], []⟩ p.conds σm τ hM0 hj2 hτ4 rfl (by simp; omega) hgp.len hgp.conds
 have hml := mkR_len putM_len (w := p.within) p.node ⟨[], []⟩ p.conds rfl
 have hob4 : (σm.join τ).obj g4 = some [makesF p g g4] := hj2.objR hτ4
 unfold ptrV makesF at hob4
 rw [encNd_eq] at hmake
 unfold ptrV at hmake
 generalize hr : p.node.mkR putM p.within ⟨[], []⟩ p.conds = r at hmake hml
 refine AW.seq_j (fun s' σ' => ∃ σ1, σ' = σ1.join τ ∧ Hp.Apart σ1 τ ∧ MkH tq g gm r.1 σ1 ∧ s'.t 1 = capZ (patC p) ∧ s'.t 2 = .lp 2 0 ∧ s'.t 5 = capZ [ptrV g] ∧ s'.l 2 = some [.c (.slice none 0 0), .c (.slice none 0 0)] ∧ s'.t 8 = .c (.int .i64 (r.2 : Nat))) ?_ ?_
 ·skip
  refine AW.reg0 ?_
  iterate 5 refine S.one (J12 e1 e2 e5 e7 l2 @ptrV.eq_1 hob4 @capZ.eq_1 @patC.eq_1 @isMap_fn @okF78 (J2 @szF78 @agF78)) ?_
  (refine S.g rfl rfl fun Y Z => ?_; simp only [zz, simprocAttr, -Int.reduceNatCast', -Int.reduceToNat, e1, e2, e5, e7, l2, ptrV, hob4, capZ, patC, isMap_fn, okF78, szF78, agF78]; (refine ACalls.to hmake ?_; rintro v1 σ1 ⟨rfl, σ2, hM2, ha2, rfl⟩) <;> (refine Z _ _ ?_; clear Z Y))
  all_goals refine S.one (J12 e1 e2 e5 e7 l2 @ptrV.eq_1 hob4 @capZ.eq_1 @patC.eq_1 @isMap_fn @okF78 (J2 @szF78 @agF78)) ?_
  all_goals refine S.nil ?_
  all_goals simp only [ze, simprocAttr, e1, e2, e5, e7, l2, ptrV, hob4, capZ, patC, isMap_fn, okF78, szF78, agF78]
  first | exact ⟨σ2, rfl, ha2, hM2⟩ | exact ⟨σ2, rfl, ha2, hM2, rfl, rfl, rfl, rfl, rfl⟩
 clear e1 e2 e5 e7 l2 hob4 s
 rintro s σw ⟨σ1, rfl, ha1, hM1, e1, e2, e5, l2, e8⟩
 have hkp := key_root p.within
 simp only [List.length_nil, Nat.zero_add] at hml
 have hput := ACalls.beside (put_spec hg2 hg0 hg1 hM1 hml.1 (by omega) ⟨5, ⟨#[]⟩, ⟨#[]⟩, [], [], p.within, 1⟩ [(r.2 : Int)] hkp (fun z hz => by rw [List.mem_singleton.1 hz]; unfold inI64; omega) (by show 1 < _; decide)) ha1
 have hpl := putM_len r.1 ⟨5, ⟨#[]⟩, ⟨#[]⟩, [], [], p.within, 1⟩ [(r.2 : Int)] hml.1
 have hpe : planE putM p = ((putM r.1 ⟨5, ⟨#[]⟩, ⟨#[]⟩, [], [], p.within, 1⟩ [(r.2 : Int)]).1, 0) := by rw [planE, if_pos he, planR, hr]
 rw [hpe]
 generalize putM r.1 ⟨5, ⟨#[]⟩, ⟨#[]⟩, [], [], p.within, 1⟩ [(r.2 : Int)] = y at hput hpl
 simp only [encOp, ptrV, encI, List.map_cons, List.map_nil] at hput
 refine AW.seq_k fun K9 h9 => ?_
 all_goals refine AW.reg0 ?_
 all_goals iterate 6 (refine S.g rfl rfl fun Y Z => ?_; simp only [zb, simprocAttr, -Int.reduceNatCast', -Int.reduceToNat, tt, e1, e2, e5, e8, l2, capZ, patC, ptrV]; refine Z _ _ ?_; clear Z Y)
 all_goals (refine S.g rfl rfl fun Y Z => ?_; simp only [zz, simprocAttr, -Int.reduceNatCast', -Int.reduceToNat, e1, e2, e5, e8, l2, capZ, patC, ptrV]; (refine ACalls.to hput ?_; rintro v1 σ9 ⟨σ2, ⟨rfl, hM2⟩, ha2, rfl⟩) <;> (refine Z _ _ ?_; clear Z Y))
 all_goals (refine S.nil ?_; simp only [ze, simprocAttr, e1, e2, e5, e8, l2, capZ, patC, ptrV]; apply_assumption)
 refine AW.st (fun s' => s'.t 2 = .lp 2 0 ∧ s'.t 5 = capZ [ptrV g] ∧ s'.l 2 = some [.c (.slice none 0 0), .c (.slice none 0 0)]) ?_ ?_
 ·simp only [zs, simprocAttr, e2, e5, l2]
  all_goals ((try and_intros) <;> first | rfl | assumption | (rfl))
 clear e1 e2 e5 e8 l2 s
 rintro s ⟨e2, e5, l2⟩
 obtain ⟨y, y2⟩ := y
 simp only at hM2 hpl
 rcases hM2 with ⟨hy0, _⟩ | ⟨ko, kf, hkk, rfl⟩
 ·rw [hy0] at hpl; exact absurd hpl.2.2.2 (Nat.not_lt_zero _)
 have ho0 : (mkP tq g gm ko kf y (keysOf y)).obj g = some [.gl ko, .gl kf, .c (.map (some gm))] := by simp [mkP, mkB]
 have hob : ((mkP tq g gm ko kf y (keysOf y)).join τ).obj g = some [.gl ko, .gl kf, .c (.map (some gm))] := by simp [Hp.join, ho0]
 have im : isMap [V.gl ko, .gl kf, .c (.map (some gm))] = false := rfl
 have hgo : ((mkP tq g gm ko kf y (keysOf y)).join τ).gr ko = some ((41, 7), y.ops.map encOp) := by simp [Hp.join, mkP, hkk]
 have hgf : (((mkP tq g gm ko kf y (keysOf y)).join τ).setGr ko none).gr kf = some ((48, 1), y.from_.map encF) := by simp [Hp.join, mkP, Ne.symm hkk, Hp.setGr]
 have htab : ((mkP tq g gm ko kf y (keysOf y)).join τ).obj 0 = some (tabV tq) := by simp [Hp.join, mkP, mkB, hg0, hg2]
 generalize (mkP tq g gm ko kf y (keysOf y)).join τ = σf at hob hgo hgf htab
 refine AW.seq_j (fun s' σ' => σ' = σf ∧ s'.t 2 = .lp 2 0 ∧ s'.l 2 = some [.gl ko, .gl kf] ∧ s'.t 3 = .c (.int .i64 0)) ?_ ?_
 ·skip
  refine AW.reg0 (S.rn (J7 e2 e5 l2 @capZ.eq_1 @ptrV.eq_1 hob im) ?_)
  simp only [ze, simprocAttr, e2, e5, l2, capZ, ptrV, hob, im]
  all_goals ((try and_intros) <;> first | rfl | assumption | (rfl))
 clear e2 e5 l2 s
 rintro s σ9 ⟨rfl, e2, l2, e3⟩
 refine AW.freeze hgo ?_
 refine AW.freeze hgf ?_
 refine AW.st (fun s' => s'.t 2 = .lp 2 0 ∧ s'.l 2 = some (encPl y) ∧ s'.t 3 = .c (.int .i64 0)) ?_ ?_
 ·refine ⟨by simp [e2, fzV, fz1], ?_, by simp [e3, fzV, fz1]⟩
  simp [l2, fz1, hkk, Ne.symm hkk, encPl]
 rintro s ⟨e2, l2, e3⟩
 unfold encPl at l2
 refine AW.ret ?_
 all_goals simp only [zs, simprocAttr, tt, cut, List.drop_zero, List.take_succ_cons, List.take_zero, e2, l2, e3]
 all_goals simp only [zz, Bool.false_eq_true, if_true, simprocAttr, not_false_eq_true, true_and, e2, l2, e3]
 refine ⟨?_, rfl⟩
 simpa [Hp.setGr] using htab
theorem okOp_root (w : Int) : okOp ⟨5, ⟨#[]⟩, ⟨#[]⟩, [], [], w, 1⟩ := ⟨by show (0 : Nat) < _; decide, by show (0 : Nat) < _; decide⟩
theorem join_empty (σ : Hp) : σ.join Hp.empty = σ := Hp.eqs (fun j => by simp only [Hp.join]; cases σ.obj j <;> rfl) (fun j => by simp only [Hp.join]; cases σ.gr j <;> rfl)
theorem apart_empty (σ : Hp) : Hp.Apart σ Hp.empty := ⟨fun _ => .inr rfl, fun _ => .inr rfl⟩
theorem rOf_spec (p : Pat) (hp : okPat p) (hi : p.node.inr) (hci : ∀ c ∈ p.conds, cI c) :
  PCalls Tryz.prog 10 [.agg (encPat p)] (fun v => v = .tup [.agg (encPl (planE putPl p).1), .c (.int .i64 (planE putPl p).2)]) := by
 have hE := (encNd_eq p.node).symm
 refine ACalls.bare (R := fun v _ => v = .tup [.agg (encPl (planE putPl p).1), .c (.int .i64 (planE putPl p).2)]) (ACalls.intro Tryz.call10 Tryz.func10 rfl Tryz.ntmps10 Tryz.results10 (by simp) ?_) fun _ _ h => h
 refine AW.sr @encPat.eq_1 ?_
 refine AW.seq_j (fun s' σ' => σ' = Hp.empty ∧ patErr p = 0 ∧ s'.t 1 = .lp 1 0 ∧ s'.l 1 = some (patC p) ∧ s'.t 2 = .lp 2 0 ∧ s'.l 2 = some [.c (.slice none 0 0), .c (.slice none 0 0)]) ?_ ?_
 ·refine AW.seq_k fun K2 h2 => ?_
  refine AW.reg0 ?_
  refine S.one trivial ?_
  (refine S.g rfl rfl fun Y Z => ?_; simp only [zz, simprocAttr, -Int.reduceNatCast', -Int.reduceToNat]; refine PCalls.eqto (rPattern_spec p hp) ?_ <;> (refine Z _ _ ?_; clear Z Y))
  all_goals refine S.one trivial ?_
  all_goals (refine S.nil ?_; simp only [ze, simprocAttr]; apply_assumption)
  all_goals refine AW.sr trivial ?_
  refine AW.cond (b := (patErr p != 0)) (by simp [ev]) (fun hb => ?_) (fun hb => ?_)
  ·have hb : ¬ patErr p = 0 := by simpa using hb
   refine AW.sr trivial ?_
   refine AW.ret ?_
   simp only [zs, simprocAttr, tt, cut, List.drop_zero, List.take_succ_cons, List.take_zero]
   simp only [zz, Bool.false_eq_true, if_true, simprocAttr, not_false_eq_true, true_and]
   rw [planE, if_neg hb]
   rfl
  ·have hb : patErr p = 0 := by simpa using hb
   refine AW.skip ?_
   simp only [zs, simprocAttr]
   all_goals ((try and_intros) <;> first | rfl | assumption | (exact hb))
 rintro s σ0 ⟨rfl, he, e1, l1, e2, l2⟩
 have hgp := good_of he hi hci
 unfold patC at l1
 refine AW.seq_k fun K5 h5 => ?_
 all_goals refine AW.region (T := { hp := fun d => d == 14 }) (fun _ _ h => by cases h) rfl ?_
 all_goals refine S.one (J4 e1 l1 e2 l2) ?_
 all_goals (refine S.g rfl rfl fun Y Z => ?_; simp only [zz, simprocAttr, -Int.reduceNatCast', -Int.reduceToNat, tt, e1, l1, e2, l2]; intro g ng <;> (refine Z _ _ ?_; clear Z Y))
 all_goals refine S.one (J4 e1 l1 e2 l2) ?_
 all_goals (refine S.nil ?_; simp only [ze, simprocAttr, e1, l1, e2, l2]; apply_assumption)
 have hsz := hgp.size
 have hlen := hgp.len
 have hM0 : PlH g ⟨[], []⟩ (hp0 g) := .inl ⟨rfl, rfl, rfl⟩
 have hmake := rmakes_spec (w := p.within) p.node hp.small hgp.err ⟨[], []⟩ p.conds (hp0 g) Hp.empty hM0 (apart_empty _) rfl (by simp; omega) few_nil hgp.len
 rw [join_empty] at hmake
 have hml := mkR_len putPl_len (w := p.within) p.node ⟨[], []⟩ p.conds rfl
 have hfw := mkR_few (w := p.within) p.node hp.small hgp.err ⟨[], []⟩ p.conds few_nil hgp.len
 rw [encNd_eq] at hmake
 unfold ptrV hp0 at hmake
 generalize hr : p.node.mkR putPl p.within ⟨[], []⟩ p.conds = r at hmake hml hfw
 refine AW.seq_j (fun s' σ' => PlH g r.1 σ' ∧ s'.t 1 = .lp 1 0 ∧ s'.l 1 = some (patC p) ∧ s'.t 2 = .lp 2 0 ∧ s'.t 5 = ptrV g ∧ s'.l 2 = some [.c (.slice none 0 0), .c (.slice none 0 0)] ∧ s'.t 6 = .c (.int .i64 (r.2 : Nat))) ?_ ?_
 ·skip
  refine AW.reg0 ?_
  iterate 7 refine S.one (J5 e1 l1 e2 l2 @ptrV.eq_1) ?_
  (refine S.g rfl rfl fun Y Z => ?_; simp only [zz, simprocAttr, -Int.reduceNatCast', -Int.reduceToNat, e1, l1, e2, l2, ptrV]; (refine ACalls.to hmake ?_; rintro v1 σ1 ⟨rfl, σ2, hM2, _, rfl⟩) <;> (refine Z _ _ ?_; clear Z Y))
  all_goals refine S.one (J5 e1 l1 e2 l2 @ptrV.eq_1) ?_
  all_goals refine S.nil ?_
  all_goals simp only [ze, simprocAttr, e1, l1, e2, l2, ptrV]
  rw [join_empty]
  first | exact hM2 | (refine ⟨hM2, ?_⟩)
  all_goals ((try and_intros) <;> first | rfl | assumption | (rfl))
 clear e1 l1 e2 l2 s
 rintro s σ1 ⟨hM1, e1, l1, e2, e5, l2, e6⟩
 simp only [List.length_nil, Nat.zero_add] at hml
 have hput := rputPl_spec hM1 ⟨5, ⟨#[]⟩, ⟨#[]⟩, [], [], p.within, 1⟩ [(r.2 : Int)] hml.1 (by omega) hfw.1 hfw.2
 have hpl := putPl_len r.1 ⟨5, ⟨#[]⟩, ⟨#[]⟩, [], [], p.within, 1⟩ [(r.2 : Int)] hml.1
 have hpe : planE putPl p = ((putPl r.1 ⟨5, ⟨#[]⟩, ⟨#[]⟩, [], [], p.within, 1⟩ [(r.2 : Int)]).1, 0) := by rw [planE, if_pos he, planR, hr]
 rw [hpe]
 generalize putPl r.1 ⟨5, ⟨#[]⟩, ⟨#[]⟩, [], [], p.within, 1⟩ [(r.2 : Int)] = y at hput hpl
 simp only [encOp, ptrV, encI, List.map_cons, List.map_nil] at hput
 unfold patC at l1
 refine AW.seq_k fun K6 h6 => ?_
 all_goals refine AW.reg0 ?_
 all_goals iterate 6 (refine S.g rfl rfl fun Y Z => ?_; simp only [zb, simprocAttr, -Int.reduceNatCast', -Int.reduceToNat, tt, e1, l1, e2, e5, e6, l2, ptrV]; refine Z _ _ ?_; clear Z Y)
 all_goals (refine S.g rfl rfl fun Y Z => ?_; simp only [zz, simprocAttr, -Int.reduceNatCast', -Int.reduceToNat, e1, l1, e2, e5, e6, l2, ptrV]; (refine ACalls.to hput ?_; rintro v1 σ9 ⟨rfl, hM2⟩) <;> (refine Z _ _ ?_; clear Z Y))
 all_goals (refine S.nil ?_; simp only [ze, simprocAttr, e1, l1, e2, e5, e6, l2, ptrV]; apply_assumption)
 refine AW.st (fun s' => s'.t 2 = .lp 2 0 ∧ s'.t 5 = ptrV g ∧ s'.l 2 = some [.c (.slice none 0 0), .c (.slice none 0 0)]) ?_ ?_
 ·simp only [zs, simprocAttr, e2, e5, l2]
  all_goals ((try and_intros) <;> first | rfl | assumption | (rfl))
 clear e1 l1 e2 e5 e6 l2 s
 rintro s ⟨e2, e5, l2⟩
 obtain ⟨y, y2⟩ := y
 simp only at hM2 hpl
 rcases hM2 with ⟨hy0, _⟩ | ⟨ko, kf, hkk, rfl⟩
 ·rw [hy0] at hpl; exact absurd hpl.2.2.2 (Nat.not_lt_zero _)
 have hob : (hpPl g ko kf y).obj g = some [.gl ko, .gl kf] := by simp [hpPl]
 have im : isMap [V.gl ko, .gl kf] = false := rfl
 have hgo : (hpPl g ko kf y).gr ko = some ((41, 7), y.ops.map encOp) := by simp [hpPl, hkk]
 have hgf : ((hpPl g ko kf y).setGr ko none).gr kf = some ((48, 1), y.from_.map encF) := by simp [hpPl, Ne.symm hkk, Hp.setGr]
 generalize hpPl g ko kf y = σf at hob hgo hgf
 refine AW.seq_j (fun s' σ' => σ' = σf ∧ s'.t 2 = .lp 2 0 ∧ s'.l 2 = some [.gl ko, .gl kf] ∧ s'.t 3 = .c (.int .i64 0)) ?_ ?_
 ·skip
  refine AW.reg0 (S.rn (J6 e2 e5 l2 @ptrV.eq_1 hob im) ?_)
  simp only [ze, simprocAttr, e2, e5, l2, ptrV, hob, im]
  all_goals ((try and_intros) <;> first | rfl | assumption | (rfl))
 clear e2 e5 l2 s
 rintro s σ9 ⟨rfl, e2, l2, e3⟩
 refine AW.freeze hgo ?_
 refine AW.freeze hgf ?_
 refine AW.st (fun s' => s'.t 2 = .lp 2 0 ∧ s'.l 2 = some (encPl y) ∧ s'.t 3 = .c (.int .i64 0)) ?_ ?_
 ·refine ⟨by simp [e2, fzV, fz1], ?_, by simp [e3, fzV, fz1]⟩
  simp [l2, fz1, hkk, Ne.symm hkk, encPl]
 rintro s ⟨e2, l2, e3⟩
 unfold encPl at l2
 refine AW.ret ?_
 all_goals simp only [zs, simprocAttr, tt, cut, List.drop_zero, List.take_succ_cons, List.take_zero, e2, l2, e3]
 all_goals simp only [zz, Bool.false_eq_true, if_true, simprocAttr, not_false_eq_true, true_and, e2, l2, e3]
 rfl
theorem idxC_spec {g : Nat} {p : Cnd → Bool} (l : List Cnd) (hl : l.length < 4611686018427387904) (hf : ∀ a, PCalls Tryz.prog g [.agg (encC a)] (fun v => v = .c (.bool (p a)))) :
  PCalls Tryz.prog 164 [.sl (l.map encC), .fn (.func g) [] []] (fun v => v = .c (.int .i64 (idxZ p 0 l))) := by
 refine PCalls.intro Tryz.call164 Tryz.func164 rfl Tryz.ntmps164 Tryz.results164 (by simp) ?_
 refine AW.sr trivial ?_
 refine AW.seq_k fun K2 h2 => ?_
 refine AW.sr @List.length_map.{0,0} ?_
 refine AW.block ?_   -- 0
 refine AW.loop (fun m s σ => σ = Hp.empty ∧ ∃ i : Nat, m + i = l.length ∧ s.t 0 = .sl (l.map encC) ∧ s.t 1 = .fn (.func g) [] [] ∧ s.t 7 = .c (.int .i64 (l.length : Nat)) ∧ s.t 8 = .c (.int .i64 (i : Nat)) ∧ idxZ p 0 l = idxZ p i (l.drop i)) l.length ?_ ?_
 ·refine ⟨rfl, 0, by simp, ?_⟩
  simp only [zs, simprocAttr]
  all_goals ((try and_intros) <;> first | rfl | assumption | (rfl))
 rintro m s σ ⟨rfl, i, hm, e0, e1, e7, e8, hp⟩
 all_goals refine AW.sr (J2 e7 e8) ?_
 refine AW.seq_k fun K5 h5 => ?_
 refine AW.cond (b := decide (i < l.length)) (by simp [ev]) (fun hc => ?_) (fun hc => ?_)
 ·have hi := of_decide_eq_true hc
  obtain ⟨x, hx, hg, hd⟩ := cnd_nth hi
  have hw := wadd1 (a := i) (by omega)
  rw [hd, idxZ] at hp
  refine AW.skip ?_
  simp only [zs, simprocAttr]
  all_goals apply_assumption
  refine AW.seq_k fun K6 h6 => ?_
  refine AW.block ?_   -- 1
  refine AW.sr e8 ?_
  refine AW.seq_k fun K8 h8 => ?_
  refine AW.reg0 ?_
  iterate 5 refine S.one (J6 e0 e1 hi hg @List.length_map.{0,0} @cd) ?_
  have q1q := J6 e0 e1 hi hg @List.length_map.{0,0} @cd
  (refine S.g rfl rfl fun Y Z => ?_; simp only [zz, simprocAttr, -Int.reduceNatCast', -Int.reduceToNat, q1q]; refine PCalls.eqto (hf x) ?_ <;> (refine Z _ _ ?_; clear Z Y))
  all_goals (refine S.nil ?_; simp only [ze, simprocAttr, q1q]; apply_assumption)
  refine AW.cond (b := p x) (by simp [ev]) (fun hc2 => ?_) (fun hc2 => ?_)
  ·refine AW.sr trivial ?_
   refine AW.ret ?_
   simp only [zs, simprocAttr]
   rw [hp, if_pos hc2]
  ·refine AW.skip ?_
   simp only [zs, simprocAttr]
   all_goals apply_assumption
   rw [hc2, if_neg Bool.false_ne_true] at hp
   have q2q := J5 e8 hw e0 e1 e7
   refine AW.reg0 (S.rn q2q ?_)
   simp only [ze, simprocAttr, q2q]
   refine ⟨m - 1, by omega, i + 1, by omega, ?_⟩
   all_goals ((try and_intros) <;> first | rfl | assumption | (exact hp))
 ·have hi := of_decide_eq_false hc
  refine AW.exit ?_
  simp only [zs, simprocAttr]
  all_goals apply_assumption
  rw [List.drop_of_length_le (by omega), idxZ] at hp
  refine AW.sr trivial ?_
  refine AW.ret ?_
  simp only [zs, simprocAttr]
  rw [hp]
theorem anyC_spec {g : Nat} {p : Cnd → Bool} (l : List Cnd) (hl : l.length < 4611686018427387904) (hf : ∀ a, PCalls Tryz.prog g [.agg (encC a)] (fun v => v = .c (.bool (p a)))) :
  PCalls Tryz.prog 129 [.sl (l.map encC), .fn (.func g) [] []] (fun v => v = .c (.bool (l.any p))) := by
 have hh := idxZ_any p l 0
 refine PCalls.intro Tryz.call129 Tryz.func129 rfl Tryz.ntmps129 Tryz.results129 (by simp) ?_
 refine AW.sr trivial ?_
 refine AW.seq_k fun K2 h2 => ?_
 refine AW.reg0 ?_
 iterate 2 refine S.one hh ?_
 (refine S.g rfl rfl fun Y Z => ?_; simp only [zz, simprocAttr, -Int.reduceNatCast', -Int.reduceToNat, hh]; refine PCalls.eqto (idxC_spec l hl hf) ?_ <;> (refine Z _ _ ?_; clear Z Y))
 all_goals iterate 2 refine S.one hh ?_
 all_goals (refine S.nil ?_; simp only [ze, simprocAttr, hh]; apply_assumption)
 refine AW.ret ?_
 all_goals simp only [zs, simprocAttr]
 all_goals ((try and_intros) <;> first | rfl | assumption | (rfl))
theorem int_get {l : List Int} {i : Nat} (h : i < l.length) : ∃ x, l[i]? = some x ∧ (l.map encI).getD i [] = encI x ∧ l.drop i = x :: l.drop (i + 1) := ⟨l[i], List.getElem?_eq_getElem h, getD_map h, List.drop_eq_getElem_cons h⟩
theorem idxI_spec {c c2 : V} {g : Nat} {p : Int → Bool} (l : List Int) (hl : l.length < 4611686018427387904) (hk : wk c = c) (hv : okV c = true) (hk2 : wk c2 = c2) (hv2 : okV c2 = true) (hf : ∀ a, PCalls Tryz.prog g [.c (.int .i64 a), c, c2] (fun v => v = .c (.bool (p a)))) :
  PCalls Tryz.prog 90 [.sl (l.map encI), .fn (.func g) [] [c, c2]] (fun v => v = .c (.int .i64 (idxZ p 0 l))) := by
 refine PCalls.intro Tryz.call90 Tryz.func90 rfl Tryz.ntmps90 Tryz.results90 (by simp) ?_
 refine AW.sr trivial ?_
 refine AW.seq_k fun K2 h2 => ?_
 refine AW.sr @List.length_map.{0,0} ?_
 refine AW.block ?_   -- 0
 refine AW.loop (fun m s σ => σ = Hp.empty ∧ ∃ i : Nat, m + i = l.length ∧ s.t 0 = .sl (l.map encI) ∧ s.t 1 = .fn (.func g) [] [c, c2] ∧ s.t 7 = .c (.int .i64 (l.length : Nat)) ∧ s.t 8 = .c (.int .i64 (i : Nat)) ∧ idxZ p 0 l = idxZ p i (l.drop i)) l.length ?_ ?_
 ·refine ⟨rfl, 0, by simp, ?_⟩
  simp only [zs, simprocAttr]
  all_goals ((try and_intros) <;> first | rfl | assumption | (rfl))
 rintro m s σ ⟨rfl, i, hm, e0, e1, e7, e8, hp⟩
 all_goals refine AW.sr (J2 e7 e8) ?_
 refine AW.seq_k fun K5 h5 => ?_
 refine AW.cond (b := decide (i < l.length)) (by simp [ev]) (fun hc => ?_) (fun hc => ?_)
 ·have hi := of_decide_eq_true hc
  obtain ⟨x, hx, hg, hd⟩ := int_get hi
  have hw := wadd1 (a := i) (by omega)
  rw [hd, idxZ] at hp
  refine AW.skip ?_
  simp only [zs, simprocAttr]
  all_goals apply_assumption
  refine AW.seq_k fun K6 h6 => ?_
  refine AW.block ?_   -- 1
  refine AW.sr e8 ?_
  refine AW.seq_k fun K8 h8 => ?_
  refine AW.reg0 ?_
  iterate 5 refine S.one (J10 e0 e1 hi hg hv hk hv2 hk2 @List.length_map.{0,0} @encI.eq_1) ?_
  have q1q := J10 e0 e1 hi hg hv hk hv2 hk2 @List.length_map.{0,0} @encI.eq_1
  (refine S.g rfl rfl fun Y Z => ?_; simp only [zz, simprocAttr, -Int.reduceNatCast', -Int.reduceToNat, q1q]; refine PCalls.eqto (hf x) ?_ <;> (refine Z _ _ ?_; clear Z Y))
  all_goals (refine S.nil ?_; simp only [ze, simprocAttr, q1q]; apply_assumption)
  refine AW.cond (b := p x) (by simp [ev]) (fun hc2 => ?_) (fun hc2 => ?_)
  ·refine AW.sr trivial ?_
   refine AW.ret ?_
   simp only [zs, simprocAttr]
   rw [hp, if_pos hc2]
  ·refine AW.skip ?_
   simp only [zs, simprocAttr]
   all_goals apply_assumption
   rw [hc2, if_neg Bool.false_ne_true] at hp
   have q2q := J5 e8 hw e0 e1 e7
   refine AW.reg0 (S.rn q2q ?_)
   simp only [ze, simprocAttr, q2q]
   refine ⟨m - 1, by omega, i + 1, by omega, ?_⟩
   all_goals ((try and_intros) <;> first | rfl | assumption | (exact hp))
 ·have hi := of_decide_eq_false hc
  refine AW.exit ?_
  simp only [zs, simprocAttr]
  all_goals apply_assumption
  rw [List.drop_of_length_le (by omega), idxZ] at hp
  refine AW.sr trivial ?_
  refine AW.ret ?_
  simp only [zs, simprocAttr]
  rw [hp]
theorem anyI_spec {c c2 : V} {g : Nat} {p : Int → Bool} (l : List Int) (hl : l.length < 4611686018427387904) (hk : wk c = c) (hv : okV c = true) (hk2 : wk c2 = c2) (hv2 : okV c2 = true) (hf : ∀ a, PCalls Tryz.prog g [.c (.int .i64 a), c, c2] (fun v => v = .c (.bool (p a)))) :
  PCalls Tryz.prog 53 [.sl (l.map encI), .fn (.func g) [] [c, c2]] (fun v => v = .c (.bool (l.any p))) := by
 have hh := idxZ_any p l 0
 refine PCalls.intro Tryz.call53 Tryz.func53 rfl Tryz.ntmps53 Tryz.results53 (by simp) ?_
 refine AW.sr trivial ?_
 refine AW.seq_k fun K2 h2 => ?_
 refine AW.reg0 ?_
 iterate 2 refine S.one (J5 hv hk hv2 hk2 hh) ?_
 have q1q := J5 hv hk hv2 hk2 hh
 (refine S.g rfl rfl fun Y Z => ?_; simp only [zz, simprocAttr, -Int.reduceNatCast', -Int.reduceToNat, q1q]; refine PCalls.eqto (idxI_spec l hl hk hv hk2 hv2 hf) ?_ <;> (refine Z _ _ ?_; clear Z Y))
 all_goals iterate 2 refine S.one q1q ?_
 all_goals (refine S.nil ?_; simp only [ze, simprocAttr, q1q]; apply_assumption)
 refine AW.ret ?_
 all_goals simp only [zs, simprocAttr]
 all_goals ((try and_intros) <;> first | rfl | assumption | (rfl))
def relBad (c : Cnd) : Bool := decide (c.rel < 1) || decide (c.rel > 6)
theorem rel_spec (c : Cnd) : PCalls Tryz.prog 130 [.agg (encC c)] (fun v => v = .c (.bool (relBad c))) := by
 refine PCalls.intro Tryz.call130 Tryz.func130 rfl Tryz.ntmps130 Tryz.results130 (by simp) ?_
 refine AW.sr (J2 @encC.eq_1 @encO.eq_1) ?_
 refine AW.seq_j (fun s' σ' => σ' = Hp.empty ∧ s'.t 2 = .c (.bool (relBad c))) ?_ ?_
 ·skip
  refine AW.reg0 ?_
  iterate 2 refine S.one trivial ?_
  (refine S.sp trivial fun b a5 => ?_; cases b <;> (try exact nope a5))
  all_goals iterate 6 refine S.one trivial ?_
  all_goals refine S.nil ?_
  all_goals simp only [ze, simprocAttr]
  all_goals first | (simp_all [relBad]; done) | (simp_all [relBad] <;> (intros; first | omega | (simp_all; done) | (simp_all; omega)))
 rintro s σ ⟨rfl, e2⟩
 refine AW.ret ?_
 all_goals simp only [zs, simprocAttr, e2]
 all_goals ((try and_intros) <;> first | rfl | assumption | (rfl))
def relsOk (l : List Cnd) : Bool := decide (l.length ≤ 16) && !l.any relBad
theorem rels_spec (l : List Cnd) (hl : l.length < 4611686018427387904) : PCalls Tryz.prog 88 [.sl (l.map encC)] (fun v => v = .c (.bool (relsOk l))) := by
 have q1 : ((l.length : Int) ≤ 16) = (l.length ≤ 16) := by rw [eq_iff_iff]; omega
 refine PCalls.intro Tryz.call88 Tryz.func88 rfl Tryz.ntmps88 Tryz.results88 (by simp) ?_
 refine AW.sr trivial ?_
 refine AW.seq_j (fun s' σ' => σ' = Hp.empty ∧ s'.t 2 = .c (.bool (relsOk l))) ?_ ?_
 ·skip
  refine AW.reg0 ?_
  have q1q := J2 @List.length_map.{0,0} q1
  iterate 2 refine S.one q1q ?_
  (refine S.sp q1q fun b a5 => ?_; cases b <;> (try exact nope a5))
  all_goals iterate 2 refine S.one q1q ?_
  all_goals have q2q := J2 @List.length_map.{0,0} q1
  all_goals (first | (refine S.y rfl rfl rfl rfl fun Y Z => ?_; simp only [zz, simprocAttr, -Int.reduceNatCast', -Int.reduceToNat, q2q]; refine PCalls.eqto (anyC_spec l hl rel_spec) ?_ <;> (refine Z _ _ ?_; clear Z Y)) | ((first | refine S.x rfl rfl rfl rfl fun Y Z => ?_ | refine S.u rfl rfl rfl rfl fun Y Z => ?_); simp only [ze, simprocAttr, -Int.reduceNatCast', -Int.reduceToNat]; refine Z _ _ ?_; clear Z Y))
  all_goals iterate 3 refine S.one q2q ?_
  all_goals refine S.nil ?_
  all_goals simp only [ze, simprocAttr, q2q]
  all_goals first | (simp_all [relsOk]; done) | (simp_all [relsOk] <;> (intros; first | omega | (simp_all; done) | (simp_all; omega)))
 rintro s σ ⟨rfl, e2⟩
 refine AW.ret ?_
 all_goals simp only [zs, simprocAttr, e2]
 all_goals ((try and_intros) <;> first | rfl | assumption | (rfl))
def bareO (o : OpS) : Bool := decide (o.var.size = 0) && (decide (o.type.size = 0) && decide (o.tests.length = 0))
theorem bare_spec (o : OpS) : PCalls Tryz.prog 89 [.agg (encOp o)] (fun v => v = .c (.bool (bareO o))) := by
 have q1 : (((o.tests.length : Nat) : Int) == 0) = decide (o.tests.length = 0) := by rw [Bool.eq_iff_iff]; simp
 refine PCalls.intro Tryz.call89 Tryz.func89 rfl Tryz.ntmps89 Tryz.results89 (by simp) ?_
 refine AW.sr @encOp.eq_1 ?_
 refine AW.seq_j (fun s' σ' => σ' = Hp.empty ∧ s'.t 2 = .c (.bool (bareO o))) ?_ ?_
 ·skip
  refine AW.reg0 ?_
  iterate 2 refine S.one @List.length_map.{0,0} ?_
  (refine S.sp @List.length_map.{0,0} fun b a5 => ?_; cases b <;> (try exact nope a5))
  all_goals iterate 3 refine S.one @List.length_map.{0,0} ?_
  all_goals (first | (refine S.sp @List.length_map.{0,0} fun b a9 => ?_; cases b <;> (try exact nope a9)) | ((first | refine S.x rfl rfl rfl rfl fun Y Z => ?_ | refine S.u rfl rfl rfl rfl fun Y Z => ?_); simp only [ze, simprocAttr, -Int.reduceNatCast', -Int.reduceToNat]; refine Z _ _ ?_; clear Z Y))
  all_goals iterate 8 refine S.one @List.length_map.{0,0} ?_
  all_goals refine S.nil ?_
  all_goals simp only [ze, simprocAttr, List.length_map]
  all_goals first | (simp_all [bareO, q1]; done) | (simp_all [bareO, q1] <;> (intros; first | omega | (simp_all; done) | (simp_all; omega)))
 rintro s σ ⟨rfl, e2⟩
 refine AW.ret ?_
 all_goals simp only [zs, simprocAttr, e2]
 all_goals ((try and_intros) <;> first | rfl | assumption | (rfl))
structure okOpN (o : OpS) : Prop extends okOp o where
  var : o.var.size < 4611686018427387904
  type : o.type.size < 4611686018427387904
def opOk (o : OpS) : Bool := (decide (1 ≤ o.win) && (decide (o.win ≤ 1099511627776) && (relsOk o.tests && relsOk o.conds))) &&
  (if o.kind = 1 then o.ins == 1 && (isName o.var && isName o.type) else if o.kind = 5 then o.ins == 1 && bareO o else if o.kind = 2 ∨ o.kind = 3 ∨ o.kind = 4 then decide (2 ≤ o.ins) && (decide (o.ins ≤ 12) && bareO o) else false)
def opErr (o : OpS) : Int := if opOk o then 0 else 140
theorem operCheck_spec (o : OpS) (ho : okOpN o) : PCalls Tryz.prog 52 [.agg (encOp o)] (fun v => v = .c (.int .i64 (opErr o))) := by
 refine PCalls.intro Tryz.call52 Tryz.func52 rfl Tryz.ntmps52 Tryz.results52 (by simp) ?_
 refine AW.sr @encOp.eq_1 ?_
 refine AW.seq_j (fun s' σ' => σ' = Hp.empty ∧ s'.t 1 = .lp 1 0 ∧ s'.l 1 = some (encOp o) ∧ s'.t 3 = .c (.bool (decide (1 ≤ o.win) && (decide (o.win ≤ 1099511627776) && (relsOk o.tests && relsOk o.conds))))) ?_ ?_
 ·skip
  refine AW.reg0 ?_
  iterate 2 refine S.one trivial ?_
  (refine S.sp trivial fun b a6 => ?_; cases b <;> (try exact nope a6))
  all_goals iterate 3 refine S.one trivial ?_
  all_goals (first | (refine S.sp trivial fun b a10 => ?_; cases b <;> (try exact nope a10)) | ((first | refine S.x rfl rfl rfl rfl fun Y Z => ?_ | refine S.u rfl rfl rfl rfl fun Y Z => ?_); simp only [ze, simprocAttr, -Int.reduceNatCast', -Int.reduceToNat]; refine Z _ _ ?_; clear Z Y))
  all_goals iterate 4 refine S.one trivial ?_
  all_goals (first | (refine S.y rfl rfl rfl rfl fun Y Z => ?_; simp only [zz, simprocAttr, -Int.reduceNatCast', -Int.reduceToNat]; (first | refine PCalls.eqto (rels_spec o.tests ho.tests) ?_ | refine PCalls.eqto (rels_spec o.conds ho.conds) ?_); refine S.bool fun b a15 => ?_; cases b <;> (try exact nope a15) <;> (refine Z _ _ ?_; clear Z Y)) | ((first | refine S.x rfl rfl rfl rfl fun Y Z => ?_ | refine S.u rfl rfl rfl rfl fun Y Z => ?_); simp only [ze, simprocAttr, -Int.reduceNatCast', -Int.reduceToNat]; refine Z _ _ ?_; clear Z Y))
  all_goals iterate 4 refine S.one trivial ?_
  all_goals (first | (refine S.y rfl rfl rfl rfl fun Y Z => ?_; simp only [zz, simprocAttr, -Int.reduceNatCast', -Int.reduceToNat]; (first | refine PCalls.eqto (rels_spec o.tests ho.tests) ?_ | refine PCalls.eqto (rels_spec o.conds ho.conds) ?_) <;> (refine Z _ _ ?_; clear Z Y)) | ((first | refine S.x rfl rfl rfl rfl fun Y Z => ?_ | refine S.u rfl rfl rfl rfl fun Y Z => ?_); simp only [ze, simprocAttr, -Int.reduceNatCast', -Int.reduceToNat]; refine Z _ _ ?_; clear Z Y))
  all_goals iterate 2 refine S.one trivial ?_
  all_goals refine S.nil ?_
  all_goals simp only [ze, simprocAttr]
  all_goals first | (simp_all [encOp]; done) | (simp_all [encOp] <;> (intros; first | omega | (simp_all; done) | (simp_all; omega)))
 rintro s σ ⟨rfl, e1, l1, e3⟩
 generalize hpre : (decide (1 ≤ o.win) && (decide (o.win ≤ 1099511627776) && (relsOk o.tests && relsOk o.conds))) = pre at e3
 unfold encOp at l1
 refine AW.seq_j (fun s' σ' => σ' = Hp.empty ∧ s'.t 3 = .c (.bool (opOk o))) ?_ ?_
 ·refine AW.sr (J2 e1 l1) ?_
  refine AW.block ?_   -- 0
  refine AW.sr trivial ?_
  refine AW.cond (b := (o.kind == 1)) (by simp [ev]) (fun h1 => ?_) (fun h1 => ?_)
  ·have h1 : o.kind = 1 := eq_of_beq h1
   cases pre
   all_goals refine AW.reg0 ?_
   all_goals iterate 4 refine S.one (J3 e1 l1 e3) ?_
   all_goals (first | (refine S.sp (J3 e1 l1 e3) fun b a30 => ?_; cases b <;> (try exact nope a30)) | ((first | refine S.x rfl rfl rfl rfl fun Y Z => ?_ | refine S.u rfl rfl rfl rfl fun Y Z => ?_); simp only [ze, simprocAttr, -Int.reduceNatCast', -Int.reduceToNat]; refine Z _ _ ?_; clear Z Y))
   all_goals iterate 4 refine S.one (J3 e1 l1 e3) ?_
   all_goals (first | (refine S.y rfl rfl rfl rfl fun Y Z => ?_; simp only [zz, simprocAttr, -Int.reduceNatCast', -Int.reduceToNat, e1, l1, e3]; (first | refine PCalls.eqto (name_spec o.var ho.var) ?_ | refine PCalls.eqto (name_spec o.type ho.type) ?_); refine S.bool fun b a35 => ?_; cases b <;> (try exact nope a35) <;> (refine Z _ _ ?_; clear Z Y)) | ((first | refine S.x rfl rfl rfl rfl fun Y Z => ?_ | refine S.u rfl rfl rfl rfl fun Y Z => ?_); simp only [ze, simprocAttr, -Int.reduceNatCast', -Int.reduceToNat]; refine Z _ _ ?_; clear Z Y))
   all_goals iterate 4 refine S.one (J3 e1 l1 e3) ?_
   all_goals (first | (refine S.y rfl rfl rfl rfl fun Y Z => ?_; simp only [zz, simprocAttr, -Int.reduceNatCast', -Int.reduceToNat, e1, l1, e3]; (first | refine PCalls.eqto (name_spec o.var ho.var) ?_ | refine PCalls.eqto (name_spec o.type ho.type) ?_); refine S.bool fun b a40 => ?_; cases b <;> (try exact nope a40) <;> (refine Z _ _ ?_; clear Z Y)) | ((first | refine S.x rfl rfl rfl rfl fun Y Z => ?_ | refine S.u rfl rfl rfl rfl fun Y Z => ?_); simp only [ze, simprocAttr, -Int.reduceNatCast', -Int.reduceToNat]; refine Z _ _ ?_; clear Z Y))
   all_goals iterate 2 refine S.one (J3 e1 l1 e3) ?_
   all_goals refine S.nil ?_
   all_goals simp only [ze, simprocAttr, e1, l1, e3]
   all_goals first | (simp_all [opOk]; done) | (simp_all [opOk] <;> (intros; first | omega | (simp_all; done) | (simp_all; omega)))
  have h1 : ¬ o.kind = 1 := by simpa using h1
  all_goals refine AW.sr trivial ?_
  refine AW.cond (b := (o.kind == 5)) (by simp [ev]) (fun h5 => ?_) (fun h5 => ?_)
  ·have h5 : o.kind = 5 := eq_of_beq h5
   cases pre
   all_goals refine AW.reg0 ?_
   all_goals iterate 4 refine S.one (J3 e1 l1 e3) ?_
   all_goals (first | (refine S.sp (J3 e1 l1 e3) fun b a48 => ?_; cases b <;> (try exact nope a48)) | ((first | refine S.x rfl rfl rfl rfl fun Y Z => ?_ | refine S.u rfl rfl rfl rfl fun Y Z => ?_); simp only [ze, simprocAttr, -Int.reduceNatCast', -Int.reduceToNat]; refine Z _ _ ?_; clear Z Y))
   all_goals iterate 3 refine S.one (J3 e1 l1 e3) ?_
   all_goals (first | (refine S.y rfl rfl rfl rfl fun Y Z => ?_; simp only [zz, simprocAttr, -Int.reduceNatCast', -Int.reduceToNat, e1, l1, e3]; refine PCalls.eqto (bare_spec o) ?_; refine S.bool fun b a52 => ?_; cases b <;> (try exact nope a52) <;> (refine Z _ _ ?_; clear Z Y)) | ((first | refine S.x rfl rfl rfl rfl fun Y Z => ?_ | refine S.u rfl rfl rfl rfl fun Y Z => ?_); simp only [ze, simprocAttr, -Int.reduceNatCast', -Int.reduceToNat]; refine Z _ _ ?_; clear Z Y))
   all_goals iterate 2 refine S.one (J3 e1 l1 e3) ?_
   all_goals refine S.nil ?_
   all_goals simp only [ze, simprocAttr, e1, l1, e3]
   all_goals first | (simp_all [opOk]; done) | (simp_all [opOk] <;> (intros; first | omega | (simp_all; done) | (simp_all; omega)))
  have h5 : ¬ o.kind = 5 := by simpa using h5
  refine AW.seq_j (fun s' σ' => σ' = Hp.empty ∧ s'.t 1 = .lp 1 0 ∧ s'.l 1 = s.l 1 ∧ s'.t 3 = .c (.bool pre) ∧ s'.t 54 = .c (.bool (decide (o.kind = 2 ∨ o.kind = 3 ∨ o.kind = 4)))) ?_ ?_
  ·refine AW.sr (J3 e1 l1 e3) ?_
   refine AW.cond (b := (o.kind == 2)) (by simp [ev]) (fun h2 => ?_) (fun h2 => ?_)
   ·have h2 : o.kind = 2 := eq_of_beq h2
    refine AW.skip ?_
    simp only [zs, simprocAttr, e1, l1, e3]
    all_goals ((try and_intros) <;> first | rfl | assumption | (simp [h2]))
   have h2 : ¬ o.kind = 2 := by simpa using h2
   all_goals refine AW.sr (J3 e1 l1 e3) ?_
   refine AW.cond (b := (o.kind == 3)) (by simp [ev]) (fun h3 => ?_) (fun h3 => ?_)
   ·have h3 : o.kind = 3 := eq_of_beq h3
    refine AW.skip ?_
    simp only [zs, simprocAttr, e1, l1, e3]
    all_goals ((try and_intros) <;> first | rfl | assumption | (simp [h3]))
   have h3 : ¬ o.kind = 3 := by simpa using h3
   all_goals refine AW.reg0 (S.rn (J3 e1 l1 e3) ?_)
   all_goals simp only [ze, simprocAttr, e1, l1, e3]
   all_goals ((try and_intros) <;> first | rfl | assumption | ((congr 2; rw [Bool.eq_iff_iff]; simp [h2, h3])))
  rintro s2 σ2 ⟨rfl, e1', l1', e3', e54⟩
  rw [l1] at l1'
  refine AW.cond (b := decide (o.kind = 2 ∨ o.kind = 3 ∨ o.kind = 4)) e54 (fun h2 => ?_) (fun h2 => ?_)
  ·have h2 := of_decide_eq_true h2
   cases pre
   all_goals refine AW.reg0 ?_
   all_goals have q1q := J3 e1' l1' e3'
   all_goals iterate 4 refine S.one q1q ?_
   all_goals (first | (refine S.sp q1q fun b a62 => ?_; cases b <;> (try exact nope a62)) | ((first | refine S.x rfl rfl rfl rfl fun Y Z => ?_ | refine S.u rfl rfl rfl rfl fun Y Z => ?_); simp only [ze, simprocAttr, -Int.reduceNatCast', -Int.reduceToNat]; refine Z _ _ ?_; clear Z Y))
   all_goals iterate 4 refine S.one q1q ?_
   all_goals (first | (refine S.sp q1q fun b a67 => ?_; cases b <;> (try exact nope a67)) | ((first | refine S.x rfl rfl rfl rfl fun Y Z => ?_ | refine S.u rfl rfl rfl rfl fun Y Z => ?_); simp only [ze, simprocAttr, -Int.reduceNatCast', -Int.reduceToNat]; refine Z _ _ ?_; clear Z Y))
   all_goals iterate 3 refine S.one q1q ?_
   all_goals have q2q := J3 e1' l1' e3'
   all_goals (first | (refine S.y rfl rfl rfl rfl fun Y Z => ?_; simp only [zz, simprocAttr, -Int.reduceNatCast', -Int.reduceToNat, q2q]; refine PCalls.eqto (bare_spec o) ?_; refine S.bool fun b a71 => ?_; cases b <;> (try exact nope a71) <;> (refine Z _ _ ?_; clear Z Y)) | ((first | refine S.x rfl rfl rfl rfl fun Y Z => ?_ | refine S.u rfl rfl rfl rfl fun Y Z => ?_); simp only [ze, simprocAttr, -Int.reduceNatCast', -Int.reduceToNat]; refine Z _ _ ?_; clear Z Y))
   all_goals iterate 2 refine S.one q2q ?_
   all_goals refine S.nil ?_
   all_goals simp only [ze, simprocAttr, q2q]
   all_goals first | (simp_all [opOk]; done) | (simp_all [opOk] <;> (intros; first | omega | (simp_all; done) | (simp_all; omega)))
  ·have h2 := of_decide_eq_false h2
   refine AW.reg0 (S.rn trivial ?_)
   simp only [ze, simprocAttr]
   simp_all [opOk]
 clear e1 l1 e3 s
 rintro s σ ⟨rfl, e3⟩
 refine AW.seq_j (fun s' σ' => σ' = Hp.empty ∧ opOk o = true) ?_ ?_
 ·refine AW.sr e3 ?_
  refine AW.cond (b := !opOk o) (by simp [ev]) (fun hb => ?_) (fun hb => ?_)
  ·have hb : opOk o = false := by simpa using hb
   refine AW.sr trivial ?_
   refine AW.ret ?_
   simp only [zs, simprocAttr]
   rw [opErr, hb]; rfl
  ·refine AW.skip ?_
   exact ⟨rfl, by simpa using hb⟩
 rintro s σ ⟨rfl, hb⟩
 all_goals refine AW.sr trivial ?_
 refine AW.ret ?_
 all_goals simp only [zs, simprocAttr]
 rw [opErr, hb]; rfl
def usesRow (i : Int) (k : Nat) : Nat → List Int → List (Nat × Nat)
  | _, [] => []
  | j, f :: l => (if f == i then [(k, j)] else []) ++ usesRow i k (j + 1) l
def usesAll (i : Int) : Nat → List (List Int) → List (Nat × Nat)
  | _, [] => []
  | k, f :: l => usesRow i k 0 f ++ usesAll i (k + 1) l
theorem usesRow_len (i : Int) (k : Nat) : ∀ (l : List Int) (j : Nat), (usesRow i k j l).length ≤ l.length
  | [], _ => Nat.le_refl _
  | f :: l, j => by
    have := usesRow_len i k l (j + 1)
    simp only [usesRow, List.length_append, List.length_cons]
    split <;> simp <;> omega
theorem usesAll_len (i : Int) : ∀ (l : List (List Int)) (k : Nat), (usesAll i k l).length ≤ (l.map List.length).sum
  | [], _ => Nat.le_refl _
  | f :: l, k => by
    have h1 := usesAll_len i l (k + 1)
    have h2 := usesRow_len i k f 0
    simp only [usesAll, List.length_append, List.map_cons, List.sum_cons]; omega
def encU (u : Nat × Nat) : List V := [.c (.int .i64 (u.1 : Nat)), .c (.int .i64 (u.2 : Nat))]
def AccU (l : List (Nat × Nat)) (u : V) (σ : Hp) : Prop := (u = .c (.slice none 0 0) ∧ l = [] ∧ σ = Hp.empty) ∨ ∃ k, u = .gl k ∧ σ = Hp.empty.setGr k (some ((53, 2), l.map encU))
theorem AccU.kill {l : List (Nat × Nat)} {u : V} {σ : Hp} (h : AccU l u σ) (d : Nat) : kill d u = u := by
 rcases h with ⟨h, _⟩ | ⟨k, h, _⟩ <;> rw [h] <;> rfl
theorem len_f1s {l : List (List Int)} {i : Nat} (h : i < l.length) : ∃ f, l[i]? = some f ∧ f ∈ l ∧ (l.map encF).getD i [] = encF f ∧ l.drop i = f :: l.drop (i + 1) := ⟨l[i], List.getElem?_eq_getElem h, List.getElem_mem h, getD_map h, List.drop_eq_getElem_cons h⟩
theorem len_u1 (a b : Int) : (∀ (e : List V), e ∈ [[V.c (.int .i64 a), .c (.int .i64 b)]] → e.length = 2) = True := eq_true fun e he => by rw [List.mem_singleton.1 he]; rfl
def smallPl (x : Pln) : Prop := x.ops.length ≤ 1048576 ∧ x.from_.length ≤ 1048576 ∧ (x.from_.map List.length).sum ≤ 1048576
theorem len_sum {l : List (List Int)} {f : List Int} (h : f ∈ l) : f.length ≤ (l.map List.length).sum := by
  induction l with
  | nil => cases h
  | cons g l ih =>
    simp only [List.map_cons, List.sum_cons]
    rcases List.mem_cons.1 h with rfl | h
    · omega
    · have := ih h; omega
theorem uses_spec (x : Pln) (hx : smallPl x) (i : Int) : PCalls Tryz.prog 51 [.agg (encPl x), .c (.int .i64 i)] (fun v => v = .sl ((usesAll i 0 x.from_).map encU)) := by
 obtain ⟨hs1, hs2, hs3⟩ := hx
 have hal := usesAll_len i x.from_ 0
 refine PCalls.intro Tryz.call51 Tryz.func51 rfl Tryz.ntmps51 Tryz.results51 (by simp) ?_
 refine AW.sr @encPl.eq_1 ?_
 refine AW.sr trivial ?_
 refine AW.seq_j (fun s' σ' => AccU (usesAll i 0 x.from_) (s'.t 5) σ') ?_ ?_
 ·refine AW.sr @List.length_map.{0,0} ?_
  refine AW.block ?_   -- 0
  refine AW.loop (fun m s' σ' => ∃ (k : Nat) (acc : List (Nat × Nat)), m + k = x.from_.length ∧ AccU acc (s'.t 5) σ' ∧ usesAll i 0 x.from_ = acc ++ usesAll i k (x.from_.drop k) ∧ s'.t 1 = .c (.int .i64 i) ∧ s'.t 11 = .sl (x.from_.map encF) ∧ s'.t 12 = .c (.int .i64 (x.from_.length : Nat)) ∧ s'.t 13 = .c (.int .i64 (k : Nat))) x.from_.length ?_ ?_
  ·refine ⟨0, [], by simp, ?_⟩
   simp only [zs, simprocAttr, -Int.reduceNatCast', -Int.reduceToNat]
   exact ⟨.inl ⟨rfl, rfl, rfl⟩, rfl, rfl⟩
  rintro m s σ ⟨k, acc, hm, hacc, hp, e1, e11, e12, e13⟩
  all_goals refine AW.sr (J2 e12 e13) ?_
  refine AW.seq_k fun K5 h5 => ?_
  refine AW.cond (b := decide (k < x.from_.length)) (by simp [ev]) (fun hk => ?_) (fun hk => ?_)
  ·have hk := of_decide_eq_true hk
   obtain ⟨f, hf, hfm, hg, hd⟩ := len_f1s hk
   have hfl := len_sum hfm
   have hw := wadd1 (a := k) (by omega)
   have hk5 := hacc.kill
   rw [hd, usesAll] at hp
   refine AW.skip ?_
   simp only [zs, simprocAttr]
   all_goals apply_assumption
   refine AW.seq_j (fun s' σ' => ∃ acc', AccU acc' (s'.t 5) σ' ∧ usesAll i 0 x.from_ = acc' ++ usesAll i (k + 1) (x.from_.drop (k + 1)) ∧ s'.t 1 = .c (.int .i64 i) ∧ s'.t 11 = .sl (x.from_.map encF) ∧ s'.t 12 = .c (.int .i64 (x.from_.length : Nat)) ∧ s'.t 13 = .c (.int .i64 (k : Nat))) ?_ ?_
   ·refine AW.block ?_   -- 1
    refine AW.sr (J6 e11 e13 hk hg @encF.eq_1 @List.length_map.{0,0}) ?_
    refine AW.sr (J5 e1 e11 e12 e13 @List.length_map.{0,0}) ?_
    refine AW.block ?_   -- 2
    refine AW.loop (fun m s' σ' => ∃ (j : Nat) (acc : List (Nat × Nat)), m + j = f.length ∧ AccU acc (s'.t 5) σ' ∧ usesAll i 0 x.from_ = acc ++ (usesRow i k j (f.drop j) ++ usesAll i (k + 1) (x.from_.drop (k + 1))) ∧ s'.t 1 = .c (.int .i64 i) ∧ s'.t 6 = .c (.int .i64 (k : Nat)) ∧ s'.t 11 = .sl (x.from_.map encF) ∧ s'.t 12 = .c (.int .i64 (x.from_.length : Nat)) ∧ s'.t 13 = .c (.int .i64 (k : Nat)) ∧ s'.t 18 = .sl (f.map encI) ∧ s'.t 19 = .c (.int .i64 (f.length : Nat)) ∧ s'.t 20 = .c (.int .i64 (j : Nat))) f.length ?_ ?_
    ·refine ⟨0, acc, by simp, ?_⟩
     simp only [zs, simprocAttr, -Int.reduceNatCast', -Int.reduceToNat, e1, e11, e12, e13]
     exact ⟨hacc, hp, rfl⟩
    clear e1 e11 e12 e13 hp hacc hk5 acc s σ
    rintro m2 s σ ⟨j, acc, hm2, hacc, hp, e1, e6, e11, e12, e13, e18, e19, e20⟩
    all_goals refine AW.sr (J2 e19 e20) ?_
    refine AW.seq_k fun K9 h9 => ?_
    refine AW.cond (b := decide (j < f.length)) (by simp [ev]) (fun hj => ?_) (fun hj => ?_)
    ·have hj := of_decide_eq_true hj
     obtain ⟨z, hz, hg2, hd2⟩ := int_get hj
     have hw2 := wadd1 (a := j) (by omega)
     rw [hd2, usesRow, List.append_assoc, ← List.append_assoc acc] at hp
     have hal2 : acc.length + 1 ≤ 1048577 := by have := congrArg List.length hp; simp at this; omega
     refine AW.skip ?_
     simp only [zs, simprocAttr]
     all_goals apply_assumption
     refine AW.seq_j (fun s' σ' => AccU (acc ++ (if z == i then [(k, j)] else [])) (s'.t 5) σ' ∧ s'.t 1 = .c (.int .i64 i) ∧ s'.t 6 = .c (.int .i64 (k : Nat)) ∧ s'.t 11 = .sl (x.from_.map encF) ∧ s'.t 12 = .c (.int .i64 (x.from_.length : Nat)) ∧ s'.t 13 = .c (.int .i64 (k : Nat)) ∧ s'.t 18 = .sl (f.map encI) ∧ s'.t 19 = .c (.int .i64 (f.length : Nat)) ∧ s'.t 20 = .c (.int .i64 (j : Nat))) ?_ ?_
     ·refine AW.block ?_   -- 3
      refine AW.sr (J6 e18 e20 hj hg2 @encI.eq_1 @List.length_map.{0,0}) ?_
      refine AW.sr e1 ?_
      refine AW.cond (b := (z == i)) (by simp [ev]) (fun hc => ?_) (fun hc => ?_)
      ·rw [if_pos hc]
       have y3 : (1 ≤ maxLen) = True := eq_true (by unfold maxLen; omega)
       have y4 : (16 ≤ reach) = True := eq_true (by unfold reach; omega)
       have z1 := len_u1 (k : Nat) (j : Nat)
       rcases hacc with ⟨h5, rfl, rfl⟩ | ⟨kk, h5, rfl⟩
       ·skip
        refine AW.reg0 ?_
        iterate 5 (refine S.g rfl rfl fun Y Z => ?_; simp only [zb, simprocAttr, -Int.reduceNatCast', -Int.reduceToNat, e1, e6, e11, e12, e13, e18, e19, e20, h5, y3, y4, z1, tt]; refine Z _ _ ?_; clear Z Y)
        all_goals have q1q := J12 e1 e6 e11 e12 e13 e18 e19 e20 h5 y3 y4 z1
        all_goals (refine S.g rfl rfl fun Y Z => ?_; simp only [zz, simprocAttr, -Int.reduceNatCast', -Int.reduceToNat, tt, q1q]; intro k1 hk1 <;> (refine Z _ _ ?_; clear Z Y))
        all_goals refine S.one q1q ?_
        all_goals refine S.nil ?_
        all_goals simp only [ze, simprocAttr, q1q]
        exact .inr ⟨k1, rfl, rfl⟩
       ·have y1 : (acc.length + 1 ≤ maxLen) = True := eq_true (by unfold maxLen; omega)
        have y2 : ((acc.length + 1) * 16 ≤ reach) = True := eq_true (by unfold reach; omega)
        refine AW.reg0 ?_
        iterate 5 (refine S.g rfl rfl fun Y Z => ?_; simp only [zb, simprocAttr, -Int.reduceNatCast', -Int.reduceToNat, e1, e6, e11, e12, e13, e18, e19, e20, h5, y1, y2, y3, y4, z1, List.length_map, tt]; refine Z _ _ ?_; clear Z Y)
        all_goals have q2q := J12 e1 e6 e11 e12 e13 e18 e19 e20 h5 y1 y2 (J4 y3 y4 z1 @List.length_map.{0,0})
        all_goals (refine S.g rfl rfl fun Y Z => ?_; simp only [zz, simprocAttr, -Int.reduceNatCast', -Int.reduceToNat, tt, q2q]; intro k1 hk1 <;> (refine Z _ _ ?_; clear Z Y))
        all_goals refine S.one q2q ?_
        all_goals refine S.nil ?_
        all_goals simp only [ze, simprocAttr, q2q]
        refine .inr ⟨k1, rfl, ?_⟩
        ·rw [List.map_append]
         exact Hp.eqs (fun _ => rfl) fun q => by by_cases h1 : q = k1 <;> by_cases h2 : q = kk <;> simp [h1, h2, Hp.setGr, Hp.empty, encU]
      ·have hk5 := hacc.kill
       rw [if_neg (by simpa using hc), List.append_nil]
       refine AW.skip ?_
       simp only [zs, simprocAttr, e1, e6, e11, e12, e13, e18, e19, e20]
       all_goals ((try and_intros) <;> first | rfl | assumption | (exact hacc))
     ·clear e1 e6 e11 e12 e13 e18 e19 e20 hacc s σ
      rintro s σ ⟨hacc, e1, e6, e11, e12, e13, e18, e19, e20⟩
      have hk5 := hacc.kill
      have q3q := J9 e1 e6 e11 e12 e13 e18 e19 e20 hw2
      refine AW.reg0 (S.rn q3q ?_)
      simp only [ze, simprocAttr, q3q]
      refine ⟨m2 - 1, by omega, j + 1, _, by omega, ?_, hp, ?_⟩
      ·all_goals ((try and_intros) <;> first | rfl | assumption | (exact hacc))
      ·all_goals ((try and_intros) <;> first | rfl | assumption | (rfl))
    ·have hj := of_decide_eq_false hj
     rw [List.drop_of_length_le (by omega)] at hp
     refine AW.exit ?_
     refine ⟨acc, ?_, hp, ?_⟩
     ·simp only [zs, simprocAttr]
      exact hacc
     ·simp only [zs, simprocAttr, e1, e11, e12, e13]
      all_goals ((try and_intros) <;> first | rfl | assumption | (rfl))
   ·clear e1 e11 e12 e13 hp hacc hk5 acc s σ
    rintro s σ ⟨acc, hacc, hp, e1, e11, e12, e13⟩
    have q4q := J5 e1 e11 e12 e13 hw
    refine AW.reg0 (S.rn q4q ?_)
    simp only [ze, simprocAttr, q4q]
    refine ⟨m - 1, by omega, k + 1, acc, by omega, ?_, hp, ?_⟩
    ·all_goals ((try and_intros) <;> first | rfl | assumption | (exact hacc))
    ·all_goals ((try and_intros) <;> first | rfl | assumption | (rfl))
  ·have hk := of_decide_eq_false hk
   rw [List.drop_of_length_le (by omega), usesAll, List.append_nil] at hp
   refine AW.exit ?_
   simp only [zs, simprocAttr]
   rw [hp]; exact hacc
 rintro s σ hacc
 rcases hacc with ⟨h5, h0, rfl⟩ | ⟨kk, h5, rfl⟩
 ·refine AW.sr h5 ?_
  refine AW.ret ?_
  simp only [zs, simprocAttr]
  rw [h0]; rfl
 ·refine AW.freeze (k := kk) (T := (53, 2)) (es := (usesAll i 0 x.from_).map encU) (by simp) ?_
  rw [Hp.set_none (by rfl)]
  refine AW.sr (J10 @St.fz_t @St.fz_l @fzV.eq_1 @fzV.eq_2 @fz1.eq_1 @fz1.eq_2 @Option.map_some.{0,0} @List.map.eq_1.{0,0} @List.map.eq_2.{0,0} h5) ?_
  refine AW.ret ?_
  simp only [zs, simprocAttr]
  all_goals ((try and_intros) <;> first | rfl | assumption | (rfl))
end Go.Abs.M
