import Derived.Test.YtkijhgplmikboaaGreatNic
import Derived.Test.YtkijhgplmikboaaGreatRows
set_option linter.all false
namespace Go.Abs.M
set_option maxHeartbeats 4000000
open Go Go.Abs Go.Proofs
variable [Mode]
set_option maxRecDepth 20000
def cmpV (a b : Val) : Int × Bool := if a.kind = 1 ∧ b.kind = 1 then (cmpI a.n b.n, true) else if a.kind = 2 ∧ b.kind = 2 then (cmpS a.s b.s, true) else (0, false)
def someV (a : Val) : Bool := decide (a.kind = 1 ∨ a.kind = 2)
def relB (rel n : Int) : Bool := if rel = 1 then n == 0 else if rel = 2 then !(n == 0) else if rel = 3 then decide (n < 0) else if rel = 4 then decide (n ≤ 0) else if rel = 5 then decide (n > 0) else if rel = 6 then decide (n ≥ 0) else false
def holdsV (rel : Int) (a b : Val) : Bool := if (cmpV a b).2 then relB rel (cmpV a b).1 else decide (rel = 2) && someV a && someV b
theorem cmpV_11 {a b : Val} (h : a.kind = 1) (k : b.kind = 1) : cmpV a b = (cmpI a.n b.n, true) := by rw [cmpV, if_pos ⟨h, k⟩]
theorem cmpV_22 {a b : Val} (h : a.kind = 2) (k : b.kind = 2) : cmpV a b = (cmpS a.s b.s, true) := by rw [cmpV, if_neg (by omega), if_pos ⟨h, k⟩]
theorem cmpV_no {a b : Val} (h : ¬ (a.kind = 1 ∧ b.kind = 1)) (k : ¬ (a.kind = 2 ∧ b.kind = 2)) : cmpV a b = (0, false) := by rw [cmpV, if_neg h, if_neg k]
theorem some_spec (a : Val) : PCalls Tryz.prog 156 [.agg (encVal a)] (fun v => v = .c (.bool (someV a))) := by
 refine PCalls.intro Tryz.call156 Tryz.func156 rfl Tryz.ntmps156 Tryz.results156 (by simp) ?_
 refine AW.sr @encVal.eq_1 ?_
 refine AW.seq_j (fun s' σ' => σ' = Hp.empty ∧ s'.t 2 = .c (.bool (someV a))) ?_ ?_
 ·skip
  refine AW.reg0 ?_
  iterate 2 refine S.one trivial ?_
  (refine S.sp trivial fun b a5 => ?_; cases b <;> (try exact nope a5))
  all_goals iterate 6 refine S.one trivial ?_
  all_goals refine S.nil ?_
  all_goals simp only [ze, simprocAttr]
  all_goals (rw [V.c.injEq, Value.bool.injEq, Bool.eq_iff_iff]; simp_all [someV])
 rintro s σ ⟨rfl, e2⟩
 refine AW.ret ?_
 all_goals simp only [zs, simprocAttr, e2]
 all_goals ((try and_intros) <;> first | rfl | assumption | (rfl))
theorem rsome_spec (a : Val) : PCalls Tryz.prog 148 [.agg (encVal a)] (fun v => v = .c (.bool (someV a))) := by
 refine PCalls.intro Tryz.call148 Tryz.func148 rfl Tryz.ntmps148 Tryz.results148 (by simp) ?_
 refine AW.sr @encVal.eq_1 ?_
 refine AW.seq_j (fun s' σ' => σ' = Hp.empty ∧ s'.t 2 = .c (.bool (someV a))) ?_ ?_
 ·skip
  refine AW.reg0 ?_
  iterate 2 refine S.one trivial ?_
  (refine S.sp trivial fun b a5 => ?_; cases b <;> (try exact nope a5))
  all_goals iterate 6 refine S.one trivial ?_
  all_goals refine S.nil ?_
  all_goals simp only [ze, simprocAttr]
  all_goals (rw [V.c.injEq, Value.bool.injEq, Bool.eq_iff_iff]; simp_all [someV])
 rintro s σ ⟨rfl, e2⟩
 refine AW.ret ?_
 all_goals simp only [zs, simprocAttr, e2]
 all_goals ((try and_intros) <;> first | rfl | assumption | (rfl))
theorem Compare_spec (a b : Val) : PCalls Tryz.prog 155 [.agg (encVal a), .agg (encVal b)] (fun v => v = .tup [.c (.int .i64 (cmpV a b).1), .c (.bool (cmpV a b).2)]) := by
 refine PCalls.intro Tryz.call155 Tryz.func155 rfl Tryz.ntmps155 Tryz.results155 (by simp) ?_
 refine AW.sr @encVal.eq_1 ?_
 refine AW.seq_k fun K2 h2 => ?_
 refine AW.block ?_   -- 0
 refine AW.sr trivial ?_
 refine AW.cond (b := a.kind != b.kind) (by simp [ev]) (fun hk => ?_) (fun hk => ?_)
 ·have hk : ¬ a.kind = b.kind := by simpa using hk
  refine AW.sr trivial ?_
  refine AW.ret ?_
  simp only [zs, simprocAttr]
  all_goals ((try and_intros) <;> first | rfl | assumption | (((rw [cmpV_no (by omega) (by omega)]) <;> rfl)))
 have hk : a.kind = b.kind := by simpa using hk
 refine AW.seq_j (fun s' σ' => σ' = Hp.empty ∧ s'.t 2 = .lp 2 0 ∧ s'.l 2 = some (encVal a) ∧ s'.t 3 = .lp 3 0 ∧ s'.l 3 = some (encVal b) ∧ s'.t 12 = .c (.bool (decide (a.kind = 1) && decide (a.n ≠ b.n)))) ?_ ?_
 ·skip
  refine AW.reg0 ?_
  iterate 2 refine S.one trivial ?_
  (refine S.sp trivial fun b a15 => ?_; cases b <;> (try exact nope a15))
  all_goals iterate 8 refine S.one trivial ?_
  all_goals refine S.nil ?_
  all_goals simp only [ze, simprocAttr]
  all_goals simp_all [encVal]
  all_goals (rw [Bool.eq_iff_iff]; simp)
 rintro s σ ⟨rfl, e2, l2, e3, l3, e12⟩
 refine AW.cond (b := decide (a.kind = 1) && decide (a.n ≠ b.n)) e12 (fun hc => ?_) (fun hc => ?_)
 ·have hc : a.kind = 1 ∧ ¬ a.n = b.n := by simpa using hc
  have hv := cmpV_11 hc.1 (hk ▸ hc.1)
  refine AW.seq_k fun K5 h5 => ?_
  refine AW.sr (J5 e2 l2 e3 l3 @encVal.eq_1) ?_
  refine AW.cond (b := decide (a.n < b.n)) (by simp [ev]) (fun hd => ?_) (fun hd => ?_)
  ·have hd := of_decide_eq_true hd
   refine AW.sr trivial ?_
   refine AW.ret ?_
   simp only [zs, simprocAttr]
   all_goals ((try and_intros) <;> first | rfl | assumption | ((((rw [hv, cmpI, if_pos hd])) <;> rfl)))
  have hd := of_decide_eq_false hd
  refine AW.skip ?_
  all_goals simp only [zs, simprocAttr]
  all_goals apply_assumption
  all_goals refine AW.sr trivial ?_
  refine AW.ret ?_
  all_goals simp only [zs, simprocAttr]
  all_goals ((try and_intros) <;> first | rfl | assumption | ((((rw [hv, cmpI, if_neg hd, if_pos (by omega)])) <;> rfl)))
 have hc : a.kind = 1 → a.n = b.n := by simpa using hc
 all_goals refine AW.sr (J3 e2 l2 @encVal.eq_1) ?_
 refine AW.cond (b := a.kind == 2) (by simp [ev]) (fun hd => ?_) (fun hd => ?_)
 ·have hd : a.kind = 2 := by simpa using hd
  have hv := cmpV_22 hd (hk ▸ hd)
  refine AW.seq_k fun K10 h10 => ?_
  refine AW.reg0 ?_
  iterate 4 refine S.one (J5 e2 l2 e3 l3 @encVal.eq_1) ?_
  have q1q := J5 e2 l2 e3 l3 @encVal.eq_1
  (refine S.g rfl rfl fun Y Z => ?_; simp only [zz, simprocAttr, -Int.reduceNatCast', -Int.reduceToNat, q1q]; refine PCalls.eqto (strcmp_spec _ _) ?_ <;> (refine Z _ _ ?_; clear Z Y))
  all_goals iterate 2 refine S.one q1q ?_
  all_goals (refine S.nil ?_; simp only [ze, simprocAttr, q1q]; apply_assumption)
  refine AW.ret ?_
  all_goals simp only [zs, simprocAttr]
  all_goals ((try and_intros) <;> first | rfl | assumption | (((rw [hv]) <;> rfl)))
 have hd : ¬ a.kind = 2 := by simpa using hd
 refine AW.skip ?_
 all_goals simp only [zs, simprocAttr]
 all_goals apply_assumption
 have hv : cmpV a b = (0, decide (a.kind = 1)) := by
  by_cases h1 : a.kind = 1
  ·rw [cmpV_11 h1 (hk ▸ h1), cmpI, if_neg (by have := hc h1; omega), if_neg (by have := hc h1; omega), decide_eq_true h1]
  ·rw [cmpV_no (fun h => h1 h.1) (fun h => hd h.1), decide_eq_false h1]
 refine AW.seq_k fun K11 h11 => ?_
 all_goals refine AW.dv { sd := fun d => d == 2 } [(0,0),(3,0),(1,1),(2,0),(4,0)] ?_
 all_goals have q2q := J3 e2 l2 @encVal.eq_1
 all_goals iterate 2 refine D.one q2q ?_
 all_goals refine D.one q2q ?_
 all_goals iterate 2 refine D.one q2q ?_
 all_goals (refine D.nil ?_; apply_assumption)
 refine AW.ret ?_
 all_goals simp only [zs, simprocAttr]
 all_goals ((try and_intros) <;> first | rfl | assumption | (((rw [hv]) <;> first | rfl | simp)))
theorem rCompare_spec (a b : Val) : PCalls Tryz.prog 147 [.agg (encVal a), .agg (encVal b)] (fun v => v = .tup [.c (.int .i64 (cmpV a b).1), .c (.bool (cmpV a b).2)]) := by
 refine PCalls.intro Tryz.call147 Tryz.func147 rfl Tryz.ntmps147 Tryz.results147 (by simp) ?_
 refine AW.sr @encVal.eq_1 ?_
 refine AW.seq_k fun K2 h2 => ?_
 refine AW.block ?_   -- 0
 refine AW.seq_j (fun s' σ' => σ' = Hp.empty ∧ s'.t 2 = .lp 2 0 ∧ s'.l 2 = some (encVal a) ∧ s'.t 3 = .lp 3 0 ∧ s'.l 3 = some (encVal b) ∧ s'.t 6 = .c (.bool (decide (a.kind = 1) && decide (b.kind = 1)))) ?_ ?_
 ·skip
  refine AW.reg0 ?_
  iterate 2 refine S.one trivial ?_
  (refine S.sp trivial fun b a9 => ?_; cases b <;> (try exact nope a9))
  all_goals iterate 6 refine S.one trivial ?_
  all_goals refine S.nil ?_
  all_goals simp only [ze, simprocAttr]
  all_goals simp_all [encVal]
  all_goals (rw [Bool.eq_iff_iff]; simp)
 rintro s σ ⟨rfl, e2, l2, e3, l3, e6⟩
 refine AW.cond (b := decide (a.kind = 1) && decide (b.kind = 1)) e6 (fun hc => ?_) (fun hc => ?_)
 ·have hc : a.kind = 1 ∧ b.kind = 1 := by simpa using hc
  have hv := cmpV_11 hc.1 hc.2
  refine AW.seq_k fun K3 h3 => ?_
  have q1q := J5 e2 l2 e3 l3 @encVal.eq_1
  refine AW.sr q1q ?_
  refine AW.cond (b := decide (a.n < b.n)) (by simp [ev]) (fun hd => ?_) (fun hd => ?_)
  ·have hd := of_decide_eq_true hd
   refine AW.sr trivial ?_
   refine AW.ret ?_
   simp only [zs, simprocAttr]
   all_goals ((try and_intros) <;> first | rfl | assumption | ((((rw [hv, cmpI, if_pos hd])) <;> rfl)))
  have hd := of_decide_eq_false hd
  refine AW.skip ?_
  all_goals simp only [zs, simprocAttr]
  all_goals apply_assumption
  refine AW.seq_k fun K6 h6 => ?_
  all_goals refine AW.sr (J5 e2 l2 e3 l3 @encVal.eq_1) ?_
  refine AW.cond (b := decide (a.n > b.n)) (by simp [ev]) (fun he => ?_) (fun he => ?_)
  ·have he := of_decide_eq_true he
   refine AW.sr trivial ?_
   refine AW.ret ?_
   simp only [zs, simprocAttr]
   all_goals ((try and_intros) <;> first | rfl | assumption | ((((rw [hv, cmpI, if_neg hd, if_pos he])) <;> rfl)))
  have he := of_decide_eq_false he
  refine AW.skip ?_
  all_goals simp only [zs, simprocAttr]
  all_goals apply_assumption
  all_goals refine AW.sr trivial ?_
  refine AW.ret ?_
  all_goals simp only [zs, simprocAttr]
  all_goals ((try and_intros) <;> first | rfl | assumption | ((((rw [hv, cmpI, if_neg hd, if_neg he])) <;> rfl)))
 have hc : ¬ (a.kind = 1 ∧ b.kind = 1) := by simpa using hc
 refine AW.seq_j (fun s' σ' => σ' = Hp.empty ∧ s'.t 2 = .lp 2 0 ∧ s'.l 2 = some (encVal a) ∧ s'.t 3 = .lp 3 0 ∧ s'.l 3 = some (encVal b) ∧ s'.t 25 = .c (.bool (decide (a.kind = 2) && decide (b.kind = 2)))) ?_ ?_
 ·clear hc
  refine AW.reg0 ?_
  have q2q := J5 e2 l2 e3 l3 @encVal.eq_1
  iterate 2 refine S.one q2q ?_
  (refine S.sp q2q fun b a28 => ?_; cases b <;> (try exact nope a28))
  all_goals iterate 6 refine S.one q2q ?_
  all_goals refine S.nil ?_
  all_goals simp only [ze, simprocAttr, q2q]
  all_goals simp_all [encVal]
  all_goals (rw [Bool.eq_iff_iff]; simp)
 rintro s σ ⟨rfl, e2, l2, e3, l3, e25⟩
 refine AW.cond (b := decide (a.kind = 2) && decide (b.kind = 2)) e25 (fun hk => ?_) (fun hk => ?_)
 ·have hk : a.kind = 2 ∧ b.kind = 2 := by simpa using hk
  have hv := cmpV_22 hk.1 hk.2
  refine AW.seq_k fun K10 h10 => ?_
  have q3q := J5 e2 l2 e3 l3 @encVal.eq_1
  refine AW.sr q3q ?_
  refine AW.cond (b := Op.bytesLess a.s.toList b.s.toList) (by simp [ev]) (fun hd => ?_) (fun hd => ?_)
  ·have hvv : cmpS a.s b.s = -1 := by rw [cmpS, if_pos hd]
   refine AW.sr trivial ?_
   refine AW.ret ?_
   simp only [zs, simprocAttr]
   all_goals ((try and_intros) <;> first | rfl | assumption | ((((rw [hv, hvv])) <;> rfl)))
  refine AW.skip ?_
  all_goals simp only [zs, simprocAttr]
  all_goals apply_assumption
  refine AW.seq_k fun K13 h13 => ?_
  all_goals refine AW.sr (J5 e2 l2 e3 l3 @encVal.eq_1) ?_
  refine AW.cond (b := !(Op.bytesLess a.s.toList b.s.toList || a.s.toList == b.s.toList)) (by simp [ev]) (fun he => ?_) (fun he => ?_)
  ·have hvv : cmpS a.s b.s = 1 := by rw [cmpS, if_neg (by rw [hd]; exact Bool.false_ne_true), if_neg (by simpa using he)]
   refine AW.sr trivial ?_
   refine AW.ret ?_
   simp only [zs, simprocAttr]
   all_goals ((try and_intros) <;> first | rfl | assumption | ((((rw [hv, hvv])) <;> rfl)))
  have hvv : cmpS a.s b.s = 0 := by rw [cmpS, if_neg (by rw [hd]; exact Bool.false_ne_true), if_pos (by rw [Bool.not_eq_false'] at he; exact he)]
  refine AW.skip ?_
  all_goals simp only [zs, simprocAttr]
  all_goals apply_assumption
  all_goals refine AW.sr trivial ?_
  refine AW.ret ?_
  all_goals simp only [zs, simprocAttr]
  all_goals ((try and_intros) <;> first | rfl | assumption | ((((rw [hv, hvv])) <;> rfl)))
 have hk : ¬ (a.kind = 2 ∧ b.kind = 2) := by simpa using hk
 have hv := cmpV_no hc hk
 refine AW.skip ?_
 all_goals simp only [zs, simprocAttr]
 all_goals apply_assumption
 all_goals refine AW.sr trivial ?_
 refine AW.ret ?_
 all_goals simp only [zs, simprocAttr]
 all_goals ((try and_intros) <;> first | rfl | assumption | (((rw [hv]) <;> rfl)))
theorem rHolds_spec (rel : Int) (a b : Val) : PCalls Tryz.prog 118 [.c (.int .i64 rel), .agg (encVal a), .agg (encVal b)] (fun v => v = .c (.bool (holdsV rel a b))) := by
 refine PCalls.intro Tryz.call118 Tryz.func118 rfl Tryz.ntmps118 Tryz.results118 (by simp) ?_
 refine AW.sr @encVal.eq_1 ?_
 refine AW.seq_k fun K2 h2 => ?_
 refine AW.reg0 ?_
 iterate 2 refine S.one @encVal.eq_1 ?_
 (refine S.g rfl rfl fun Y Z => ?_; simp only [zz, simprocAttr, -Int.reduceNatCast', -Int.reduceToNat, encVal]; refine PCalls.eqto (rCompare_spec a b) ?_ <;> (refine Z _ _ ?_; clear Z Y))
 all_goals iterate 5 refine S.one @encVal.eq_1 ?_
 all_goals (refine S.nil ?_; simp only [ze, simprocAttr, encVal]; apply_assumption)
 refine AW.seq_k fun K3 h3 => ?_
 all_goals refine AW.sr trivial ?_
 refine AW.cond (b := !(cmpV a b).2) (by simp [ev]) (fun hc => ?_) (fun hc => ?_)
 ·have hc : (cmpV a b).2 = false := by simpa using hc
  have hh : holdsV rel a b = (decide (rel = 2) && someV a && someV b) := by rw [holdsV, if_neg (by rw [hc]; exact Bool.false_ne_true)]
  refine AW.seq_j (fun s' σ' => σ' = Hp.empty ∧ s'.t 6 = .c (.bool (holdsV rel a b))) ?_ ?_
  ·clear hc
   refine AW.reg0 ?_
   refine S.one trivial ?_
   (refine S.sp trivial fun b a18 => ?_; cases b <;> (try exact nope a18))
   all_goals iterate 2 refine S.one trivial ?_
   all_goals (first | (refine S.y rfl rfl rfl rfl fun Y Z => ?_; simp only [zz, simprocAttr, -Int.reduceNatCast', -Int.reduceToNat]; (first | refine PCalls.eqto (rsome_spec a) ?_ | refine PCalls.eqto (rsome_spec b) ?_); refine S.bool fun b a21 => ?_; cases b <;> (try exact nope a21) <;> (refine Z _ _ ?_; clear Z Y)) | ((first | refine S.x rfl rfl rfl rfl fun Y Z => ?_ | refine S.u rfl rfl rfl rfl fun Y Z => ?_); simp only [ze, simprocAttr, -Int.reduceNatCast', -Int.reduceToNat]; refine Z _ _ ?_; clear Z Y))
   all_goals iterate 3 refine S.one trivial ?_
   all_goals (first | (refine S.y rfl rfl rfl rfl fun Y Z => ?_; simp only [zz, simprocAttr, -Int.reduceNatCast', -Int.reduceToNat]; (first | refine PCalls.eqto (rsome_spec a) ?_ | refine PCalls.eqto (rsome_spec b) ?_) <;> (refine Z _ _ ?_; clear Z Y)) | ((first | refine S.x rfl rfl rfl rfl fun Y Z => ?_ | refine S.u rfl rfl rfl rfl fun Y Z => ?_); simp only [ze, simprocAttr, -Int.reduceNatCast', -Int.reduceToNat]; refine Z _ _ ?_; clear Z Y))
   all_goals iterate 2 refine S.one trivial ?_
   all_goals refine S.nil ?_
   all_goals simp only [ze, simprocAttr]
   all_goals simp_all
  rintro s σ ⟨rfl, e6⟩
  refine AW.ret ?_
  all_goals simp only [zs, simprocAttr, e6]
  all_goals ((try and_intros) <;> first | rfl | assumption | (rfl))
 have hc : (cmpV a b).2 = true := by simpa using hc
 have hh : holdsV rel a b = relB rel (cmpV a b).1 := by rw [holdsV, if_pos hc]
 refine AW.skip ?_
 all_goals simp only [zs, simprocAttr]
 all_goals apply_assumption
 refine AW.seq_k fun K5 h5 => ?_
 all_goals refine AW.sr trivial ?_
 refine AW.block ?_   -- 0
 all_goals refine AW.sr trivial ?_
 refine AW.cond (b := rel == 1) (by simp [ev]) (fun h1 => ?_) (fun h1 => ?_)
 ·have h1 : rel = 1 := by simpa using h1
  refine AW.sr trivial ?_
  refine AW.ret ?_
  simp only [zs, simprocAttr]
  all_goals ((try and_intros) <;> first | rfl | assumption | (((rw [hh, h1]; simp [relB]) <;> rfl)))
 have h1 : ¬ rel = 1 := by simpa using h1
 all_goals refine AW.sr trivial ?_
 refine AW.cond (b := rel == 2) (by simp [ev]) (fun h2 => ?_) (fun h2 => ?_)
 ·have h2 : rel = 2 := by simpa using h2
  refine AW.sr trivial ?_
  refine AW.ret ?_
  simp only [zs, simprocAttr]
  all_goals ((try and_intros) <;> first | rfl | assumption | (((rw [hh, h2]; simp [relB]) <;> rfl)))
 have h2 : ¬ rel = 2 := by simpa using h2
 all_goals refine AW.sr trivial ?_
 refine AW.cond (b := rel == 3) (by simp [ev]) (fun h3 => ?_) (fun h3 => ?_)
 ·have h3 : rel = 3 := by simpa using h3
  refine AW.sr trivial ?_
  refine AW.ret ?_
  simp only [zs, simprocAttr]
  all_goals ((try and_intros) <;> first | rfl | assumption | (((rw [hh, h3]; simp [relB]) <;> rfl)))
 have h3 : ¬ rel = 3 := by simpa using h3
 all_goals refine AW.sr trivial ?_
 refine AW.cond (b := rel == 4) (by simp [ev]) (fun h4 => ?_) (fun h4 => ?_)
 ·have h4 : rel = 4 := by simpa using h4
  refine AW.sr trivial ?_
  refine AW.ret ?_
  simp only [zs, simprocAttr]
  all_goals ((try and_intros) <;> first | rfl | assumption | (((rw [hh, h4]; simp [relB]) <;> rfl)))
 have h4 : ¬ rel = 4 := by simpa using h4
 all_goals refine AW.sr trivial ?_
 refine AW.cond (b := rel == 5) (by simp [ev]) (fun h5 => ?_) (fun h5 => ?_)
 ·have h5 : rel = 5 := by simpa using h5
  refine AW.sr trivial ?_
  refine AW.ret ?_
  simp only [zs, simprocAttr]
  all_goals ((try and_intros) <;> first | rfl | assumption | (((rw [hh, h5]; simp [relB]) <;> rfl)))
 have h5 : ¬ rel = 5 := by simpa using h5
 all_goals refine AW.sr trivial ?_
 refine AW.cond (b := rel == 6) (by simp [ev]) (fun h6 => ?_) (fun h6 => ?_)
 ·have h6 : rel = 6 := by simpa using h6
  refine AW.sr trivial ?_
  refine AW.ret ?_
  simp only [zs, simprocAttr]
  all_goals ((try and_intros) <;> first | rfl | assumption | (((rw [hh, h6]; simp [relB]) <;> rfl)))
 have h6 : ¬ rel = 6 := by simpa using h6
 refine AW.skip ?_
 all_goals simp only [zs, simprocAttr]
 all_goals apply_assumption
 all_goals refine AW.sr trivial ?_
 refine AW.ret ?_
 all_goals simp only [zs, simprocAttr]
 all_goals ((try and_intros) <;> first | rfl | assumption | ((rw [hh]; simp [relB, h1, h2, h3, h4, h5, h6])))
theorem Holds_spec (rel : Int) (a b : Val) : PCalls Tryz.prog 130 [.c (.int .i64 rel), .agg (encVal a), .agg (encVal b)] (fun v => v = .c (.bool (holdsV rel a b))) := by
 refine PCalls.intro Tryz.call130 Tryz.func130 rfl Tryz.ntmps130 Tryz.results130 (by simp) ?_
 refine AW.sr @encVal.eq_1 ?_
 refine AW.seq_k fun K2 h2 => ?_
 refine AW.reg0 ?_
 iterate 2 refine S.one @encVal.eq_1 ?_
 (refine S.g rfl rfl fun Y Z => ?_; simp only [zz, simprocAttr, -Int.reduceNatCast', -Int.reduceToNat, encVal]; refine PCalls.eqto (Compare_spec a b) ?_ <;> (refine Z _ _ ?_; clear Z Y))
 all_goals iterate 5 refine S.one @encVal.eq_1 ?_
 all_goals (refine S.nil ?_; simp only [ze, simprocAttr, encVal]; apply_assumption)
 refine AW.seq_k fun K3 h3 => ?_
 all_goals refine AW.sr trivial ?_
 refine AW.cond (b := !(cmpV a b).2) (by simp [ev]) (fun hc => ?_) (fun hc => ?_)
 ·have hc : (cmpV a b).2 = false := by simpa using hc
  have hh : holdsV rel a b = (decide (rel = 2) && someV a && someV b) := by rw [holdsV, if_neg (by rw [hc]; exact Bool.false_ne_true)]
  refine AW.sr trivial ?_
  refine AW.seq_j (fun s' σ' => σ' = Hp.empty ∧ s'.t 6 = .c (.bool (holdsV rel a b))) ?_ ?_
  ·clear hc
   refine AW.reg0 ?_
   refine S.one trivial ?_
   (refine S.sp trivial fun b a19 => ?_; cases b <;> (try exact nope a19))
   all_goals iterate 3 refine S.one trivial ?_
   all_goals (first | (refine S.y rfl rfl rfl rfl fun Y Z => ?_; simp only [zz, simprocAttr, -Int.reduceNatCast', -Int.reduceToNat]; refine PCalls.eqto (some_spec a) ?_; refine S.bool fun b a23 => ?_; cases b <;> (try exact nope a23) <;> (refine Z _ _ ?_; clear Z Y)) | ((first | refine S.x rfl rfl rfl rfl fun Y Z => ?_ | refine S.u rfl rfl rfl rfl fun Y Z => ?_); simp only [ze, simprocAttr, -Int.reduceNatCast', -Int.reduceToNat]; refine Z _ _ ?_; clear Z Y))
   all_goals iterate 4 refine S.one trivial ?_
   all_goals (first | (refine S.y rfl rfl rfl rfl fun Y Z => ?_; simp only [zz, simprocAttr, -Int.reduceNatCast', -Int.reduceToNat]; refine PCalls.eqto (some_spec b) ?_ <;> (refine Z _ _ ?_; clear Z Y)) | ((first | refine S.x rfl rfl rfl rfl fun Y Z => ?_ | refine S.u rfl rfl rfl rfl fun Y Z => ?_); simp only [ze, simprocAttr, -Int.reduceNatCast', -Int.reduceToNat]; refine Z _ _ ?_; clear Z Y))
   all_goals iterate 2 refine S.one trivial ?_
   all_goals refine S.nil ?_
   all_goals simp only [ze, simprocAttr]
   all_goals simp_all
  rintro s σ ⟨rfl, e6⟩
  refine AW.ret ?_
  all_goals simp only [zs, simprocAttr, e6]
  all_goals ((try and_intros) <;> first | rfl | assumption | (rfl))
 have hc : (cmpV a b).2 = true := by simpa using hc
 have hh : holdsV rel a b = relB rel (cmpV a b).1 := by rw [holdsV, if_pos hc]
 refine AW.skip ?_
 all_goals simp only [zs, simprocAttr]
 all_goals apply_assumption
 refine AW.seq_k fun K6 h6 => ?_
 all_goals refine AW.sr trivial ?_
 refine AW.block ?_   -- 0
 all_goals refine AW.sr trivial ?_
 refine AW.cond (b := rel == 1) (by simp [ev]) (fun h1 => ?_) (fun h1 => ?_)
 ·have h1 : rel = 1 := by simpa using h1
  refine AW.sr trivial ?_
  refine AW.ret ?_
  simp only [zs, simprocAttr]
  all_goals ((try and_intros) <;> first | rfl | assumption | (((rw [hh, h1]; simp [relB]) <;> rfl)))
 have h1 : ¬ rel = 1 := by simpa using h1
 all_goals refine AW.sr trivial ?_
 refine AW.cond (b := rel == 2) (by simp [ev]) (fun h2 => ?_) (fun h2 => ?_)
 ·have h2 : rel = 2 := by simpa using h2
  refine AW.sr trivial ?_
  refine AW.ret ?_
  simp only [zs, simprocAttr]
  all_goals ((try and_intros) <;> first | rfl | assumption | (((rw [hh, h2]; simp [relB]) <;> rfl)))
 have h2 : ¬ rel = 2 := by simpa using h2
 all_goals refine AW.sr trivial ?_
 refine AW.cond (b := rel == 3) (by simp [ev]) (fun h3 => ?_) (fun h3 => ?_)
 ·have h3 : rel = 3 := by simpa using h3
  refine AW.sr trivial ?_
  refine AW.ret ?_
  simp only [zs, simprocAttr]
  all_goals ((try and_intros) <;> first | rfl | assumption | (((rw [hh, h3]; simp [relB]) <;> rfl)))
 have h3 : ¬ rel = 3 := by simpa using h3
 all_goals refine AW.sr trivial ?_
 refine AW.cond (b := rel == 4) (by simp [ev]) (fun h4 => ?_) (fun h4 => ?_)
 ·have h4 : rel = 4 := by simpa using h4
  refine AW.sr trivial ?_
  refine AW.ret ?_
  simp only [zs, simprocAttr]
  all_goals ((try and_intros) <;> first | rfl | assumption | (((rw [hh, h4]; simp [relB]) <;> rfl)))
 have h4 : ¬ rel = 4 := by simpa using h4
 all_goals refine AW.sr trivial ?_
 refine AW.cond (b := rel == 5) (by simp [ev]) (fun h5 => ?_) (fun h5 => ?_)
 ·have h5 : rel = 5 := by simpa using h5
  refine AW.sr trivial ?_
  refine AW.ret ?_
  simp only [zs, simprocAttr]
  all_goals ((try and_intros) <;> first | rfl | assumption | (((rw [hh, h5]; simp [relB]) <;> rfl)))
 have h5 : ¬ rel = 5 := by simpa using h5
 all_goals refine AW.sr trivial ?_
 refine AW.cond (b := rel == 6) (by simp [ev]) (fun h6 => ?_) (fun h6 => ?_)
 ·have h6 : rel = 6 := by simpa using h6
  refine AW.sr trivial ?_
  refine AW.ret ?_
  simp only [zs, simprocAttr]
  all_goals ((try and_intros) <;> first | rfl | assumption | (((rw [hh, h6]; simp [relB]) <;> rfl)))
 have h6 : ¬ rel = 6 := by simpa using h6
 refine AW.skip ?_
 all_goals simp only [zs, simprocAttr]
 all_goals apply_assumption
 all_goals refine AW.sr trivial ?_
 refine AW.ret ?_
 all_goals simp only [zs, simprocAttr]
 all_goals ((try and_intros) <;> first | rfl | assumption | ((rw [hh]; simp [relB, h1, h2, h3, h4, h5, h6])))
def noVal : Val := ⟨0, 0, ⟨#[]⟩⟩
def getV (s : ByteArray) : List Attr → Val × Bool
  | [] => (noVal, false)
  | a :: l => if eqS a.name s then (a.v, true) else getV s l
def opVal (o : Opd) (e : Ev) : Val := if o.attr.size = 0 then o.v else (getV o.attr e.attrs).1
def testB (e : Ev) (c : Cnd) : Bool := holdsV c.rel (opVal c.l e) (opVal c.r e)
def termB (n : Nd) (e : Ev) : Bool := decide (n.kind = 1) && eqS e.type n.type && n.tests.all (testB e)
theorem attr_get {l : List Attr} {i : Nat} (h : i < l.length) : ∃ x, l[i]? = some x ∧ x ∈ l ∧ (l.map encAttr).getD i [] = encAttr x ∧ l.drop i = x :: l.drop (i + 1) := ⟨l[i], List.getElem?_eq_getElem h, List.getElem_mem h, getD_map h, List.drop_eq_getElem_cons h⟩
theorem rGet_spec (l : List Attr) (str : ByteArray) (hl : l.length < 4611686018427387904) : PCalls Tryz.prog 172 [.sl (l.map encAttr), .c (.string str)] (fun v => v = .tup [.agg (encVal (getV str l).1), .c (.bool (getV str l).2)]) := by
 refine PCalls.intro Tryz.call172 Tryz.func172 rfl Tryz.ntmps172 Tryz.results172 (by simp) ?_
 refine AW.sr trivial ?_
 refine AW.seq_k fun K2 h2 => ?_
 refine AW.sr trivial ?_
 refine AW.block ?_   -- 0
 refine AW.loop (fun m s σ => σ = Hp.empty ∧ ∃ i : Nat, m + i = l.length ∧ s.t 0 = .sl (l.map encAttr) ∧ s.t 1 = .c (.string str) ∧ s.t 6 = .c (.int .i64 (i : Nat)) ∧ s.t 4 = .lp 4 0 ∧ s.l 4 = some [.c (.int .i64 0), .c (.int .i64 0), .c (.string ⟨#[]⟩)] ∧ getV str l = getV str (l.drop i)) l.length ?_ ?_
 ·refine ⟨rfl, 0, by simp, ?_⟩
  simp only [zs, simprocAttr]
  all_goals ((try and_intros) <;> first | rfl | assumption | (rfl))
 rintro m s σ ⟨rfl, i, hm, e0, e1, e6, e4, l4, hp⟩
 refine AW.seq_k fun K4 h4 => ?_
 all_goals refine AW.sr (J3 e0 e6 @List.length_map.{0,0}) ?_
 refine AW.cond (b := decide (i < l.length)) (by simp [ev]) (fun hi => ?_) (fun hi => ?_)
 ·have hi := of_decide_eq_true hi
  obtain ⟨x, hx, hxm, hg, hd⟩ := attr_get hi
  have hw := wadd1 (a := i) (by omega)
  rw [hd, getV] at hp
  refine AW.skip ?_
  simp only [zs, simprocAttr]
  all_goals apply_assumption
  refine AW.seq_k fun K6 h6 => ?_
  refine AW.block ?_   -- 1
  refine AW.sr (J7 e0 e1 e6 hi hg @encAttr.eq_1 @List.length_map.{0,0}) ?_
  refine AW.cond (b := x.name.toList == str.toList) (by simp [ev]) (fun hb => ?_) (fun hb => ?_)
  ·have hb : eqS x.name str = true := hb
   rw [if_pos hb] at hp
   refine AW.sr (J8 e0 e6 e4 l4 hi hg @encAttr.eq_1 @List.length_map.{0,0}) ?_
   refine AW.ret ?_
   simp only [zs, simprocAttr, zz, tt, e4, l4]
   all_goals ((try and_intros) <;> first | rfl | assumption | (((rw [hp]) <;> rfl)))
  ·have hb : eqS x.name str = false := hb
   rw [hb, if_neg Bool.false_ne_true] at hp
   refine AW.skip ?_
   simp only [zs, simprocAttr]
   all_goals apply_assumption
   have q1q := J6 e6 hw e0 e1 e4 l4
   refine AW.reg0 (S.rn q1q ?_)
   simp only [ze, simprocAttr, q1q]
   refine ⟨m - 1, by omega, i + 1, by omega, ?_⟩
   all_goals ((try and_intros) <;> first | rfl | assumption | (exact hp))
 ·have hi := of_decide_eq_false hi
  refine AW.exit ?_
  simp only [zs, simprocAttr]
  all_goals apply_assumption
  rw [List.drop_of_length_le (by omega), getV] at hp
  refine AW.sr (J2 e4 l4) ?_
  refine AW.ret ?_
  simp only [zs, simprocAttr, zz, tt, e4, l4]
  all_goals ((try and_intros) <;> first | rfl | assumption | (((rw [hp]) <;> rfl)))
theorem rof_spec (o : Opd) (e : Ev) (he : e.attrs.length < 4611686018427387904) : PCalls Tryz.prog 142 [.agg (encO o), .agg (encEv e)] (fun v => v = .agg (encVal (opVal o e))) := by
 refine PCalls.intro Tryz.call142 Tryz.func142 rfl Tryz.ntmps142 Tryz.results142 (by simp) ?_
 refine AW.sr (J2 @encO.eq_1 @encEv.eq_1) ?_
 refine AW.seq_k fun K2 h2 => ?_
 refine AW.sr trivial ?_
 refine AW.cond (b := decide (o.attr.size = 0)) (by simp [ev]) (fun hb => ?_) (fun hb => ?_)
 ·have hb := of_decide_eq_true hb
  refine AW.sr trivial ?_
  refine AW.ret ?_
  simp only [zs, simprocAttr, zz, tt]
  all_goals ((try and_intros) <;> first | rfl | assumption | (((rw [opVal, if_pos hb]) <;> rfl)))
 ·have hb := of_decide_eq_false hb
  refine AW.skip ?_
  simp only [zs, simprocAttr]
  all_goals apply_assumption
  refine AW.seq_k fun K5 h5 => ?_
  refine AW.reg0 ?_
  iterate 4 refine S.one @encVal.eq_1 ?_
  (refine S.g rfl rfl fun Y Z => ?_; simp only [zz, simprocAttr, -Int.reduceNatCast', -Int.reduceToNat, encVal]; refine PCalls.eqto (rGet_spec _ _ he) ?_ <;> (refine Z _ _ ?_; clear Z Y))
  all_goals iterate 6 refine S.one @encVal.eq_1 ?_
  all_goals (refine S.nil ?_; simp only [ze, simprocAttr, encVal]; apply_assumption)
  all_goals refine AW.sr trivial ?_
  refine AW.ret ?_
  all_goals simp only [zs, simprocAttr, zz, tt]
  all_goals ((try and_intros) <;> first | rfl | assumption | (((rw [opVal, if_neg hb]) <;> rfl)))
theorem rTest_spec (c : Cnd) (e : Ev) (he : e.attrs.length < 4611686018427387904) : PCalls Tryz.prog 110 [.agg (encC c), .agg (encEv e)] (fun v => v = .c (.bool (testB e c))) := by
 refine PCalls.intro Tryz.call110 Tryz.func110 rfl Tryz.ntmps110 Tryz.results110 (by simp) ?_
 refine AW.sr (J3 @encC.eq_1 @encO.eq_1 @encEv.eq_1) ?_
 refine AW.seq_k fun K2 h2 => ?_
 refine AW.dv { sd := fun d => d == 2 || d == 3 } [(0,0),(2,0),(6,0),(1,1),(3,1),(4,1),(7,1),(8,1),(5,2),(9,2),(10,2),(11,0)] ?_
 iterate 3 refine D.one trivial ?_
 iterate 5 refine D.one trivial ?_
 (refine D.g rfl trivial rfl rfl fun Y Z => ?_; simp only [zz, simprocAttr, -Int.reduceNatCast', -Int.reduceToNat]; (first | refine PCalls.eqto (rof_spec c.l e he) ?_ | refine PCalls.eqto (rof_spec c.r e he) ?_) <;> (refine Z _ _ ?_; clear Z Y))
 all_goals (refine D.g rfl trivial rfl rfl fun Y Z => ?_; simp only [zz, simprocAttr, -Int.reduceNatCast', -Int.reduceToNat]; (first | refine PCalls.eqto (rof_spec c.l e he) ?_ | refine PCalls.eqto (rof_spec c.r e he) ?_) <;> (refine Z _ _ ?_; clear Z Y))
 all_goals (refine D.g rfl trivial rfl rfl fun Y Z => ?_; simp only [zz, simprocAttr, -Int.reduceNatCast', -Int.reduceToNat]; refine PCalls.eqto (rHolds_spec _ _ _) ?_ <;> (refine Z _ _ ?_; clear Z Y))
 all_goals refine D.one trivial ?_
 all_goals (refine D.nil ?_; apply_assumption)
 refine AW.ret ?_
 all_goals simp only [zs, simprocAttr]
 all_goals ((try and_intros) <;> first | rfl | assumption | (rfl))
theorem all_step {p : Cnd → Bool} {l : List Cnd} {i : Nat} {x : Cnd} (h : l.drop i = x :: l.drop (i + 1)) : (l.drop i).all p = (p x && (l.drop (i + 1)).all p) := by rw [h]; rfl
theorem rTerm_spec (n : Nd) (e : Ev) (he : e.attrs.length < 4611686018427387904) (ht : n.tests.length < 4611686018427387904) : PCalls Tryz.prog 78 [.agg (encNd n), .agg (encEv e)] (fun v => v = .c (.bool (termB n e))) := by
 rw [encNd_eq]
 refine PCalls.intro Tryz.call78 Tryz.func78 rfl Tryz.ntmps78 Tryz.results78 (by simp) ?_
 refine AW.sr @encEv.eq_1 ?_
 refine AW.seq_k fun K2 h2 => ?_
 refine AW.seq_j (fun s' σ' => σ' = Hp.empty ∧ s'.t 2 = .lp 2 0 ∧ s'.l 2 = some [.c (.int .i64 n.kind), .c (.string n.var), .c (.string n.type), .sl (n.tests.map encC), .sl (n.kids.map encNd)] ∧ s'.t 3 = .lp 3 0 ∧ s'.l 3 = some (encEv e) ∧ s'.t 15 = .c (.bool (!(decide (n.kind = 1) && (e.type.toList == n.type.toList))))) ?_ ?_
 ·skip
  refine AW.reg0 ?_
  iterate 2 refine S.one trivial ?_
  (refine S.sp trivial fun b a8 => ?_; cases b <;> (try exact nope a8))
  all_goals iterate 7 refine S.one trivial ?_
  all_goals refine S.nil ?_
  all_goals simp only [ze, simprocAttr]
  all_goals simp_all [encEv]
 rintro s σ ⟨rfl, e2, l2, e3, l3, e15⟩
 refine AW.cond (b := !(decide (n.kind = 1) && (e.type.toList == n.type.toList))) e15 (fun hb => ?_) (fun hb => ?_)
 ·have hb : (decide (n.kind = 1) && eqS e.type n.type) = false := by rw [Bool.not_eq_true'] at hb; exact hb
  refine AW.sr trivial ?_
  refine AW.ret ?_
  simp only [zs, simprocAttr]
  all_goals ((try and_intros) <;> first | rfl | assumption | (((rw [termB, hb]) <;> rfl)))
 have hb : (decide (n.kind = 1) && eqS e.type n.type) = true := by rw [Bool.not_eq_false'] at hb; exact hb
 have hq : termB n e = n.tests.all (testB e) := by rw [termB, hb, Bool.true_and]
 refine AW.skip ?_
 all_goals simp only [zs, simprocAttr]
 all_goals apply_assumption
 refine AW.seq_k fun K4 h4 => ?_
 all_goals have q1q := J4 e2 l2 e3 l3
 all_goals refine AW.sr q1q ?_
 refine AW.block ?_   -- 0
 refine AW.loop (fun m s σ => σ = Hp.empty ∧ ∃ i : Nat, m + i = n.tests.length ∧ s.t 2 = .lp 2 0 ∧ s.l 2 = some [.c (.int .i64 n.kind), .c (.string n.var), .c (.string n.type), .sl (n.tests.map encC), .sl (n.kids.map encNd)] ∧ s.t 3 = .lp 3 0 ∧ s.l 3 = some (encEv e) ∧ s.t 5 = .c (.int .i64 (i : Nat)) ∧ termB n e = (n.tests.drop i).all (testB e)) n.tests.length ?_ ?_
 ·refine ⟨rfl, 0, by simp, ?_⟩
  simp only [zs, simprocAttr, e2, l2, e3, l3]
  all_goals ((try and_intros) <;> first | rfl | assumption | (exact hq))
 rintro m s σ ⟨rfl, i, hm, e2, l2, e3, l3, e5, hp⟩
 refine AW.seq_k fun K6 h6 => ?_
 all_goals refine AW.sr (J4 e2 l2 e5 @List.length_map.{0,0}) ?_
 refine AW.cond (b := decide (i < n.tests.length)) (by simp [ev]) (fun hi => ?_) (fun hi => ?_)
 ·have hi := of_decide_eq_true hi
  obtain ⟨c, hx, hcm, hg, hd⟩ := cnd_get hi
  have hw := wadd1 (a := i) (by omega)
  rw [all_step hd] at hp
  refine AW.skip ?_
  simp only [zs, simprocAttr]
  all_goals apply_assumption
  refine AW.seq_k fun K8 h8 => ?_
  refine AW.block ?_   -- 1
  refine AW.seq_k fun K9 h9 => ?_
  refine AW.dv { sd := fun d => d == 2 || d == 3 } [(0,0),(2,0),(1,1),(3,0),(4,1),(5,1),(6,2),(7,0)] ?_
  have q2q := J10 e2 l2 e3 l3 e5 hi hg @cd @encEv.eq_1 @List.length_map.{0,0}
  iterate 2 refine D.one q2q ?_
  refine D.one q2q ?_
  refine D.one q2q ?_
  iterate 2 refine D.one q2q ?_
  have q3q := J10 e2 l2 e3 l3 e5 hi hg @cd @encEv.eq_1 @List.length_map.{0,0}
  (refine D.g rfl trivial rfl rfl fun Y Z => ?_; simp only [zz, simprocAttr, -Int.reduceNatCast', -Int.reduceToNat, q3q]; refine PCalls.eqto (rTest_spec c e he) ?_ <;> (refine Z _ _ ?_; clear Z Y))
  all_goals refine D.one q3q ?_
  all_goals (refine D.nil ?_; apply_assumption)
  refine AW.cond (b := !testB e c) (by simp [ev]) (fun hc => ?_) (fun hc => ?_)
  ·have hc : testB e c = false := by simpa using hc
   refine AW.sr trivial ?_
   refine AW.ret ?_
   simp only [zs, simprocAttr]
   all_goals ((try and_intros) <;> first | rfl | assumption | (((rw [hp, hc]) <;> rfl)))
  ·have hc : testB e c = true := by simpa using hc
   refine AW.skip ?_
   simp only [zs, simprocAttr]
   all_goals apply_assumption
   rw [hc, Bool.true_and] at hp
   have q4q := J6 e5 hw e2 l2 e3 l3
   refine AW.reg0 (S.rn q4q ?_)
   simp only [ze, simprocAttr, q4q]
   refine ⟨m - 1, by omega, i + 1, by omega, ?_⟩
   all_goals ((try and_intros) <;> first | rfl | assumption | (exact hp))
 ·have hi := of_decide_eq_false hi
  refine AW.exit ?_
  simp only [zs, simprocAttr]
  all_goals apply_assumption
  rw [List.drop_of_length_le (by omega)] at hp
  refine AW.sr trivial ?_
  refine AW.ret ?_
  simp only [zs, simprocAttr]
  all_goals ((try and_intros) <;> first | rfl | assumption | (((rw [hp]) <;> rfl)))
def bdVal (o : Opd) : List Bd → Val × Bool
  | [] => (noVal, false)
  | b :: l => if eqS b.var o.var then (opVal o b.ev, true) else bdVal o l
def pVal (o : Opd) (l : List Bd) : Val × Bool := if o.attr.size = 0 then (o.v, true) else bdVal o l
def condB (l : List Bd) (c : Cnd) : Bool := !(pVal c.l l).2 || !(pVal c.r l).2 || holdsV c.rel (pVal c.l l).1 (pVal c.r l).1
def lenB (l : List Bd) : Prop := ∀ b ∈ l, b.ev.attrs.length < 4611686018427387904
theorem bd_get {l : List Bd} {i : Nat} (h : i < l.length) : ∃ x, l[i]? = some x ∧ x ∈ l ∧ (l.map encBd).getD i [] = encBd x ∧ l.drop i = x :: l.drop (i + 1) := ⟨l[i], List.getElem?_eq_getElem h, List.getElem_mem h, getD_map h, List.drop_eq_getElem_cons h⟩
theorem rValue_spec (o : Opd) (l : List Bd) (hl : lenB l) (hll : l.length < 4611686018427387904) : PCalls Tryz.prog 117 [.agg (encO o), .agg [.sl (l.map encBd)]] (fun v => v = .tup [.agg (encVal (pVal o l).1), .c (.bool (pVal o l).2)]) := by
 refine PCalls.intro Tryz.call117 Tryz.func117 rfl Tryz.ntmps117 Tryz.results117 (by simp) ?_
 refine AW.sr @encO.eq_1 ?_
 refine AW.seq_k fun K2 h2 => ?_
 refine AW.sr trivial ?_
 refine AW.cond (b := decide (o.attr.size = 0)) (by simp [ev]) (fun hb => ?_) (fun hb => ?_)
 ·have hb := of_decide_eq_true hb
  refine AW.sr trivial ?_
  refine AW.ret ?_
  simp only [zs, simprocAttr, zz, tt]
  all_goals ((try and_intros) <;> first | rfl | assumption | (((rw [pVal, if_pos hb]) <;> rfl)))
 have hb := of_decide_eq_false hb
 have hq : pVal o l = bdVal o l := by rw [pVal, if_neg hb]
 refine AW.skip ?_
 all_goals simp only [zs, simprocAttr]
 all_goals apply_assumption
 refine AW.seq_k fun K5 h5 => ?_
 all_goals refine AW.sr trivial ?_
 refine AW.block ?_   -- 0
 refine AW.loop (fun m s σ => σ = Hp.empty ∧ ∃ i : Nat, m + i = l.length ∧ s.t 2 = .lp 2 0 ∧ s.l 2 = some (encO o) ∧ s.t 3 = .lp 3 0 ∧ s.l 3 = some [.sl (l.map encBd)] ∧ s.t 4 = .lp 4 0 ∧ s.l 4 = some [.c (.int .i64 0), .c (.int .i64 0), .c (.string ⟨#[]⟩)] ∧ s.t 6 = .c (.int .i64 (i : Nat)) ∧ pVal o l = bdVal o (l.drop i)) l.length ?_ ?_
 ·refine ⟨rfl, 0, by simp, ?_⟩
  simp only [zs, simprocAttr]
  all_goals ((try and_intros) <;> first | rfl | assumption | (first | exact hq | rfl))
 rintro m s σ ⟨rfl, i, hm, e2, l2, e3, l3, e4, l4, e6, hp⟩
 refine AW.seq_k fun K7 h7 => ?_
 all_goals refine AW.sr (J4 e3 l3 e6 @List.length_map.{0,0}) ?_
 refine AW.cond (b := decide (i < l.length)) (by simp [ev]) (fun hi => ?_) (fun hi => ?_)
 ·have hi := of_decide_eq_true hi
  obtain ⟨x, hx, hxm, hg, hd⟩ := bd_get hi
  have hw := wadd1 (a := i) (by omega)
  rw [hd, bdVal] at hp
  refine AW.skip ?_
  simp only [zs, simprocAttr]
  all_goals apply_assumption
  refine AW.seq_k fun K9 h9 => ?_
  refine AW.block ?_   -- 1
  refine AW.seq_k fun K10 h10 => ?_
  refine AW.dv { sd := fun d => d == 2 || d == 3 } [(0,0),(2,0),(6,0),(1,1),(3,0),(4,0),(5,1),(7,1),(8,0)] ?_
  have q1q := J10 e2 l2 e3 l3 e6 hi hg @encBd.eq_1 @encO.eq_1 @List.length_map.{0,0}
  iterate 3 refine D.one q1q ?_
  refine D.one q1q ?_
  iterate 2 refine D.one q1q ?_
  iterate 2 refine D.one q1q ?_
  refine D.one q1q ?_
  (refine D.nil ?_; apply_assumption)
  refine AW.cond (b := x.var.toList == o.var.toList) (by simp [ev]) (fun hc => ?_) (fun hc => ?_)
  ·have hc : eqS x.var o.var = true := hc
   rw [if_pos hc] at hp
   refine AW.seq_k fun K11 h11 => ?_
   refine AW.dv { sd := fun d => d == 2 || d == 3 } [(1,0),(3,0),(0,1),(2,1),(4,0),(5,0),(6,1),(7,2),(8,2),(9,0)] ?_
   have q2q := J12 @Bool.or_self e2 l2 e3 l3 e4 l4 e6 hi hg @encBd.eq_1 (J3 @encO.eq_1 @encVal.eq_1 @List.length_map.{0,0})
   iterate 7 refine D.onf q2q ?_
   have q3q := J12 @Bool.or_self e2 l2 e3 l3 e4 l4 e6 hi hg @encBd.eq_1 (J3 @encO.eq_1 @encVal.eq_1 @List.length_map.{0,0})
   (refine D.g rfl trivial rfl rfl fun Y Z => ?_; simp only [zz, simprocAttr, -Int.reduceNatCast', -Int.reduceToNat, q3q]; refine PCalls.eqto (rof_spec o x.ev (hl x hxm)) ?_ <;> (refine Z _ _ ?_; clear Z Y))
   all_goals iterate 2 refine D.onf q3q ?_
   all_goals (refine D.nil ?_; apply_assumption)
   refine AW.ret ?_
   all_goals simp only [zs, simprocAttr, zz, tt, e4, l4]
   all_goals ((try and_intros) <;> first | rfl | assumption | (((rw [hp]) <;> rfl)))
  ·have hc : eqS x.var o.var = false := hc
   rw [hc, if_neg Bool.false_ne_true] at hp
   refine AW.skip ?_
   simp only [zs, simprocAttr]
   all_goals apply_assumption
   have q4q := J8 e6 hw e2 l2 e3 l3 e4 l4
   refine AW.reg0 (S.rn q4q ?_)
   simp only [ze, simprocAttr, q4q]
   refine ⟨m - 1, by omega, i + 1, by omega, ?_⟩
   all_goals ((try and_intros) <;> first | rfl | assumption | (exact hp))
 ·have hi := of_decide_eq_false hi
  refine AW.exit ?_
  simp only [zs, simprocAttr]
  all_goals apply_assumption
  rw [List.drop_of_length_le (by omega), bdVal] at hp
  refine AW.sr (J2 e4 l4) ?_
  refine AW.ret ?_
  simp only [zs, simprocAttr, zz, tt, e4, l4]
  all_goals ((try and_intros) <;> first | rfl | assumption | (((rw [hp]) <;> rfl)))
theorem rcond_spec (c : Cnd) (l : List Bd) (hl : lenB l) (hll : l.length < 4611686018427387904) : PCalls Tryz.prog 84 [.agg (encC c), .agg [.sl (l.map encBd)]] (fun v => v = .c (.bool (condB l c))) := by
 refine PCalls.intro Tryz.call84 Tryz.func84 rfl Tryz.ntmps84 Tryz.results84 (by simp) ?_
 refine AW.sr (J2 @encC.eq_1 @encO.eq_1) ?_
 refine AW.seq_k fun K2 h2 => ?_
 refine AW.reg0 ?_
 iterate 3 refine S.one @encVal.eq_1 ?_
 (refine S.g rfl rfl fun Y Z => ?_; simp only [zz, simprocAttr, -Int.reduceNatCast', -Int.reduceToNat, encVal]; (first | refine PCalls.eqto (rValue_spec c.l l hl hll) ?_ | refine PCalls.eqto (rValue_spec c.r l hl hll) ?_) <;> (refine Z _ _ ?_; clear Z Y))
 all_goals iterate 6 refine S.one @encVal.eq_1 ?_
 all_goals (refine S.nil ?_; simp only [ze, simprocAttr, encVal]; apply_assumption)
 refine AW.seq_k fun K3 h3 => ?_
 all_goals refine AW.reg0 ?_
 all_goals iterate 3 refine S.one @encVal.eq_1 ?_
 all_goals (refine S.g rfl rfl fun Y Z => ?_; simp only [zz, simprocAttr, -Int.reduceNatCast', -Int.reduceToNat, encVal]; (first | refine PCalls.eqto (rValue_spec c.l l hl hll) ?_ | refine PCalls.eqto (rValue_spec c.r l hl hll) ?_) <;> (refine Z _ _ ?_; clear Z Y))
 all_goals iterate 6 refine S.one @encVal.eq_1 ?_
 all_goals (refine S.nil ?_; simp only [ze, simprocAttr, encVal]; apply_assumption)
 refine AW.seq_j (fun s' σ' => σ' = Hp.empty ∧ s'.t 4 = .c (.bool (condB l c))) ?_ ?_
 ·cases h1 : (pVal c.l l).2 <;> cases h2 : (pVal c.r l).2
  all_goals refine AW.reg0 ?_
  all_goals iterate 11 refine S.one @encVal.eq_1 ?_
  all_goals (first | (refine S.y rfl rfl rfl rfl fun Y Z => ?_; simp only [zz, simprocAttr, -Int.reduceNatCast', -Int.reduceToNat, encVal]; refine PCalls.eqto (rHolds_spec _ _ _) ?_ <;> (refine Z _ _ ?_; clear Z Y)) | ((first | refine S.x rfl rfl rfl rfl fun Y Z => ?_ | refine S.u rfl rfl rfl rfl fun Y Z => ?_); simp only [ze, simprocAttr, -Int.reduceNatCast', -Int.reduceToNat]; refine Z _ _ ?_; clear Z Y))
  all_goals iterate 2 refine S.one @encVal.eq_1 ?_
  all_goals refine S.nil ?_
  all_goals simp only [ze, simprocAttr, encVal]
  all_goals simp_all [condB]
 rintro s σ ⟨rfl, e4⟩
 refine AW.ret ?_
 all_goals simp only [zs, simprocAttr, e4]
 all_goals ((try and_intros) <;> first | rfl | assumption | (rfl))
theorem condAll_step {p : Cnd → Bool} {l : List Cnd} {i : Nat} {x : Cnd} (h : l.drop i = x :: l.drop (i + 1)) : (l.drop i).all p = (p x && (l.drop (i + 1)).all p) := by rw [h]; rfl
theorem rAll_spec (cs : List Cnd) (l : List Bd) (hl : lenB l) (hll : l.length < 4611686018427387904) (hcl : cs.length < 4611686018427387904) : PCalls Tryz.prog 46 [.sl (cs.map encC), .agg [.sl (l.map encBd)]] (fun v => v = .c (.bool (cs.all (condB l)))) := by
 refine PCalls.intro Tryz.call46 Tryz.func46 rfl Tryz.ntmps46 Tryz.results46 (by simp) ?_
 refine AW.sr trivial ?_
 refine AW.seq_k fun K2 h2 => ?_
 refine AW.sr trivial ?_
 refine AW.block ?_   -- 0
 refine AW.loop (fun m s σ => σ = Hp.empty ∧ ∃ i : Nat, m + i = cs.length ∧ s.t 0 = .sl (cs.map encC) ∧ s.t 3 = .lp 3 0 ∧ s.l 3 = some [.sl (l.map encBd)] ∧ s.t 5 = .c (.int .i64 (i : Nat)) ∧ cs.all (condB l) = (cs.drop i).all (condB l)) cs.length ?_ ?_
 ·refine ⟨rfl, 0, by simp, ?_⟩
  simp only [zs, simprocAttr]
  all_goals ((try and_intros) <;> first | rfl | assumption | (rfl))
 rintro m s σ ⟨rfl, i, hm, e0, e3, l3, e5, hp⟩
 refine AW.seq_k fun K4 h4 => ?_
 all_goals refine AW.sr (J3 e0 e5 @List.length_map.{0,0}) ?_
 refine AW.cond (b := decide (i < cs.length)) (by simp [ev]) (fun hi => ?_) (fun hi => ?_)
 ·have hi := of_decide_eq_true hi
  obtain ⟨c, hx, hcm, hg, hd⟩ := cnd_get hi
  have hw := wadd1 (a := i) (by omega)
  rw [condAll_step hd] at hp
  refine AW.skip ?_
  simp only [zs, simprocAttr]
  all_goals apply_assumption
  refine AW.seq_k fun K6 h6 => ?_
  refine AW.block ?_   -- 1
  refine AW.seq_k fun K7 h7 => ?_
  refine AW.dv { sd := fun d => d == 3 } [(0,0),(1,0),(2,0),(3,1),(4,1),(5,2),(6,0)] ?_
  have q1q := J8 e0 e3 l3 e5 hi hg @cd @List.length_map.{0,0}
  iterate 3 refine D.one q1q ?_
  iterate 2 refine D.one q1q ?_
  have q2q := J8 e0 e3 l3 e5 hi hg @cd @List.length_map.{0,0}
  (refine D.g rfl trivial rfl rfl fun Y Z => ?_; simp only [zz, simprocAttr, -Int.reduceNatCast', -Int.reduceToNat, q2q]; refine PCalls.eqto (rcond_spec c l hl hll) ?_ <;> (refine Z _ _ ?_; clear Z Y))
  all_goals refine D.one q2q ?_
  all_goals (refine D.nil ?_; apply_assumption)
  refine AW.cond (b := !condB l c) (by simp [ev]) (fun hc => ?_) (fun hc => ?_)
  ·have hc : condB l c = false := by simpa using hc
   refine AW.sr trivial ?_
   refine AW.ret ?_
   simp only [zs, simprocAttr]
   all_goals ((try and_intros) <;> first | rfl | assumption | (((rw [hp, hc]) <;> rfl)))
  ·have hc : condB l c = true := by simpa using hc
   refine AW.skip ?_
   simp only [zs, simprocAttr]
   all_goals apply_assumption
   rw [hc, Bool.true_and] at hp
   have q3q := J5 e5 hw e0 e3 l3
   refine AW.reg0 (S.rn q3q ?_)
   simp only [ze, simprocAttr, q3q]
   refine ⟨m - 1, by omega, i + 1, by omega, ?_⟩
   all_goals ((try and_intros) <;> first | rfl | assumption | (exact hp))
 ·have hi := of_decide_eq_false hi
  refine AW.exit ?_
  simp only [zs, simprocAttr]
  all_goals apply_assumption
  rw [List.drop_of_length_le (by omega)] at hp
  refine AW.sr trivial ?_
  refine AW.ret ?_
  simp only [zs, simprocAttr]
  all_goals ((try and_intros) <;> first | rfl | assumption | (((rw [hp]) <;> rfl)))
def cmpBd (a b : Bd) : Int := orI [cmpS a.var b.var, cmpId (idOf a) (idOf b)]
def cmpL : List Bd → List Bd → Int
  | [], [] => 0
  | [], _ :: _ => -1
  | _ :: _, [] => 1
  | a :: l, b :: r => if cmpBd a b ≠ 0 then cmpBd a b else cmpL l r
theorem compare_bd (a b : Bd) : PCalls Tryz.prog 134 [.agg (encBd a), .agg (encBd b)] (fun v => v = .c (.int .i64 (cmpBd a b))) := by
 refine PCalls.intro Tryz.call134 Tryz.func134 rfl Tryz.ntmps134 Tryz.results134 (by simp) ?_
 refine AW.sr @encBd.eq_1 ?_
 refine AW.seq_k fun K2 h2 => ?_
 refine AW.dv { sd := fun d => d == 2 || d == 3 } [(0,0),(2,0),(5,0),(6,0),(8,0),(9,0),(1,1),(3,1),(7,1),(10,1),(4,2),(11,2),(12,2),(13,2),(14,0)] ?_
 iterate 6 refine D.one trivial ?_
 iterate 4 refine D.one trivial ?_
 (refine D.g rfl trivial rfl rfl fun Y Z => ?_; simp only [zz, simprocAttr, -Int.reduceNatCast', -Int.reduceToNat]; refine PCalls.eqto (compare_str _ _) ?_ <;> (refine Z _ _ ?_; clear Z Y))
 all_goals (refine D.g rfl trivial rfl rfl fun Y Z => ?_; simp only [zz, simprocAttr, -Int.reduceNatCast', -Int.reduceToNat]; refine PCalls.eqto (compare_id (idOf a) (idOf b)) ?_ <;> (refine Z _ _ ?_; clear Z Y))
 all_goals (refine D.g rfl trivial rfl rfl fun Y Z => ?_; simp only [zb, simprocAttr, -Int.reduceNatCast', -Int.reduceToNat, tt]; refine ⟨rfl, (by simp), ?_⟩ <;> (refine Z _ _ ?_; clear Z Y))
 all_goals (refine D.g rfl trivial rfl rfl fun Y Z => ?_; simp only [zz, simprocAttr, -Int.reduceNatCast', -Int.reduceToNat]; refine PCalls.eqto (or_spec [cmpS a.var b.var, cmpId (idOf a) (idOf b)] (by simp)) ?_ <;> (refine Z _ _ ?_; clear Z Y))
 all_goals refine D.one trivial ?_
 all_goals (refine D.nil ?_; apply_assumption)
 refine AW.ret ?_
 all_goals simp only [zs, simprocAttr]
 all_goals rfl
theorem compareF (l r : List Bd) (hl : l.length < 4611686018427387904) : PCalls Tryz.prog 133 [.sl (l.map encBd), .sl (r.map encBd), .fn (.func 134) [] []] (fun v => v = .c (.int .i64 (cmpL l r))) := by
 refine PCalls.intro Tryz.call133 Tryz.func133 rfl Tryz.ntmps133 Tryz.results133 (by simp) ?_
 refine AW.sr trivial ?_
 refine AW.seq_j (fun s σ => σ = Hp.empty ∧ s.t 0 = .sl (l.map encBd) ∧ s.t 1 = .sl (r.map encBd) ∧ l.length ≤ r.length ∧ cmpL l r = cmpL [] (r.drop l.length)) ?_ ?_
 ·refine AW.sr trivial ?_
  refine AW.block ?_   -- 0
  refine AW.loop (fun m s σ => σ = Hp.empty ∧ ∃ i : Nat, m + i = l.length ∧ s.t 0 = .sl (l.map encBd) ∧ s.t 1 = .sl (r.map encBd) ∧ s.t 2 = .fn (.func 134) [] [] ∧ s.t 11 = .sl (l.map encBd) ∧ s.t 12 = .c (.int .i64 l.length) ∧ s.t 13 = .c (.int .i64 i) ∧ i ≤ r.length ∧ cmpL l r = cmpL (l.drop i) (r.drop i)) l.length ?_ ?_
  ·refine ⟨rfl, 0, by simp, ?_⟩
   simp only [zs, simprocAttr]
   simp
  rintro m s σ ⟨rfl, i, hm, e0, e1, e2, e11, e12, e13, hir, hp⟩
  all_goals refine AW.sr (J2 e12 e13) ?_
  refine AW.seq_k fun K4 h4 => ?_
  refine AW.cond (b := decide (i < l.length)) (by simp [ev]) (fun hc => ?_) (fun hc => ?_)
  ·refine AW.skip ?_
   simp only [zs, simprocAttr]
   all_goals apply_assumption
   have hi : i < l.length := by simpa using hc
   have hg := getD_map (f := encBd) hi
   have hd : l.drop i = l[i] :: l.drop (i + 1) := List.drop_eq_getElem_cons hi
   generalize ha : l[i] = a at hg hd
   have hw : IntKind.i64.wrap ((i : Int) + 1) = ((i + 1 : Nat) : Int) := by rw [wrap_small _ (by omega) (by omega)]; rfl
   refine AW.seq_k fun K5 h5 => ?_
   refine AW.block ?_   -- 1
   refine AW.sr (J5 e11 e13 hi hg @encBd.eq_1) ?_
   refine AW.seq_k fun K7 h7 => ?_
   refine AW.sr e1 ?_
   refine AW.cond (b := decide ((i : Int) ≥ r.length)) (by simp [ev]) (fun hx => ?_) (fun hx => ?_)
   ·have hx := of_decide_eq_true hx
    refine AW.sr trivial ?_
    refine AW.ret ?_
    simp only [zs, simprocAttr]
    rw [hp, hd, List.drop_of_length_le (show r.length ≤ i by omega)]; rfl
   ·have hx := of_decide_eq_false hx
    have hj : i < r.length := by omega
    have hg2 := getD_map (f := encBd) hj
    have hd2 : r.drop i = r[i] :: r.drop (i + 1) := List.drop_eq_getElem_cons hj
    generalize hb : r[i] = b at hg2 hd2
    rw [hd, hd2, cmpL] at hp
    refine AW.skip ?_
    simp only [zs, simprocAttr]
    all_goals apply_assumption
    refine AW.sr (J4 e1 hj hg2 @encBd.eq_1) ?_
    refine AW.seq_k fun K11 h11 => ?_
    refine AW.reg0 ?_
    iterate 3 refine S.one (J2 e2 @encBd.eq_1) ?_
    have q1q := J2 e2 @encBd.eq_1
    (refine S.g rfl rfl fun Y Z => ?_; simp only [zz, simprocAttr, -Int.reduceNatCast', -Int.reduceToNat, q1q]; refine PCalls.eqto (compare_bd a b) ?_ <;> (refine Z _ _ ?_; clear Z Y))
    all_goals refine S.one q1q ?_
    all_goals (refine S.nil ?_; simp only [ze, simprocAttr, q1q]; apply_assumption)
    all_goals refine AW.sr trivial ?_
    refine AW.cond (b := cmpBd a b != 0) (by simp [ev]) (fun hy => ?_) (fun hy => ?_)
    ·have hy : cmpBd a b ≠ 0 := by simpa using hy
     refine AW.sr trivial ?_
     refine AW.ret ?_
     simp only [zs, simprocAttr]
     rw [hp, if_pos hy]
    ·have hy : ¬ cmpBd a b ≠ 0 := by simpa using hy
     rw [if_neg hy] at hp
     refine AW.skip ?_
     simp only [zs, simprocAttr]
     all_goals apply_assumption
     have q2q := J7 e13 hw e0 e1 e2 e11 e12
     refine AW.reg0 (S.rn q2q ?_)
     simp only [ze, simprocAttr, q2q]
     exact ⟨m - 1, by omega, i + 1, by omega, rfl, by omega, hp⟩
  ·refine AW.exit ?_
   simp only [zs, simprocAttr]
   have hc := of_decide_eq_false hc
   have hil : i = l.length := by omega
   subst hil
   rw [List.drop_length] at hp
   exact ⟨e0, e1, hir, hp⟩
 rintro s σ ⟨rfl, e0, e1, hlr, hp⟩
 refine AW.seq_k fun K14 h14 => ?_
 all_goals refine AW.sr (J2 e0 e1) ?_
 refine AW.cond (b := decide (l.length < r.length)) (by simp [ev]) (fun hc => ?_) (fun hc => ?_)
 ·have hc := of_decide_eq_true hc
  refine AW.sr trivial ?_
  refine AW.ret ?_
  simp only [zs, simprocAttr]
  rw [hp, List.drop_eq_getElem_cons hc]; rfl
 ·have hc := of_decide_eq_false hc
  refine AW.skip ?_
  simp only [zs, simprocAttr]
  all_goals apply_assumption
  refine AW.sr trivial ?_
  refine AW.ret ?_
  simp only [zs, simprocAttr]
  rw [hp, List.drop_of_length_le (by omega)]; rfl
theorem compare_part (l r : List Bd) (hl : l.length < 4611686018427387904) : PCalls Tryz.prog 103 [.agg [.sl (l.map encBd)], .agg [.sl (r.map encBd)]] (fun v => v = .c (.int .i64 (cmpL l r))) := by
 refine PCalls.intro Tryz.call103 Tryz.func103 rfl Tryz.ntmps103 Tryz.results103 (by simp) ?_
 refine AW.sr trivial ?_
 refine AW.seq_k fun K2 h2 => ?_
 refine AW.reg0 ?_
 iterate 4 refine S.one trivial ?_
 (refine S.g rfl rfl fun Y Z => ?_; simp only [zz, simprocAttr, -Int.reduceNatCast', -Int.reduceToNat]; refine PCalls.eqto (compareF _ _ (by assumption)) ?_ <;> (refine Z _ _ ?_; clear Z Y))
 all_goals refine S.one trivial ?_
 all_goals (refine S.nil ?_; simp only [ze, simprocAttr]; apply_assumption)
 refine AW.ret ?_
 all_goals simp only [zs, simprocAttr]
def encP (l : List Bd) : List V := [.sl (l.map encBd)]
structure okL (l : List Bd) : Prop where
  len : l.length < 4611686018427387904
  ev : lenB l
def idxP (l : List (List Bd)) (p : List Bd) : Nat → Nat
  | 0 => 0
  | i + 1 => if cmpL (l.getD i []) p > 0 then idxP l p i else i + 1
def samePart (a b : List Bd) : Bool := allEq eqBd a b
def putP (l : List (List Bd)) (p : List Bd) : List (List Bd) :=
  if 0 < idxP l p l.length ∧ samePart (l.getD (idxP l p l.length - 1) []) p = true then l else l.take (idxP l p l.length) ++ p :: l.drop (idxP l p l.length)
theorem part_get {l : List (List Bd)} {i : Nat} (h : i < l.length) : ∃ x, l[i]? = some x ∧ x ∈ l ∧ (l.map encP).getD i [] = encP x ∧ l.drop i = x :: l.drop (i + 1) ∧ l.getD i [] = x := ⟨l[i], List.getElem?_eq_getElem h, List.getElem_mem h, getD_map h, List.drop_eq_getElem_cons h, by rw [List.getD_eq_getElem?_getD, List.getElem?_eq_getElem h]; rfl⟩
theorem len_part (l : List (List Bd)) : ∀ (e : List V), e ∈ l.map encP → e.length = 1 := fun e he => by
 obtain ⟨a, _, rfl⟩ := List.mem_map.1 he; rfl
theorem wsub1 {a : Nat} (h : a + 1 < 9223372036854775808) : IntKind.i64.wrap (((a + 1 : Nat) : Int) - 1) = (a : Int) := by rw [wrap_small _ (by omega) (by omega)]; omega
theorem idxP_le (l : List (List Bd)) (p : List Bd) : ∀ n, idxP l p n ≤ n
  | 0 => Nat.le_refl _
  | i + 1 => by
    have := idxP_le l p i
    rw [idxP]; split <;> omega
def noBd : Bd := ⟨⟨#[]⟩, ⟨0, 0, 0, ⟨#[]⟩, []⟩⟩
def sameId (a b : Bd) : Bool := a.ev.src == b.ev.src && a.ev.seq == b.ev.seq
def apartAt (l : List Bd) (i : Nat) : Bool := (List.range i).all fun j => !sameId (l.getD i noBd) (l.getD j noBd)
def apartB (l : List Bd) : Bool := (List.range l.length).all (apartAt l)
theorem range_step {p : Nat → Bool} (i : Nat) : (List.range (i + 1)).all p = ((List.range i).all p && p i) := by rw [List.range_succ, List.all_append]; simp
theorem range_false {p : Nat → Bool} {n i : Nat} (h : i < n) (hp : p i = false) : (List.range n).all p = false := by
 rw [List.all_eq_false]; exact ⟨i, List.mem_range.2 h, by rw [hp]; exact Bool.false_ne_true⟩
theorem bd_at {l : List Bd} {i : Nat} (h : i < l.length) : (l.map encBd).getD i [] = encBd (l.getD i noBd) := by
 rw [getD_map h, List.getD_eq_getElem?_getD, List.getElem?_eq_getElem h]; rfl
theorem rapart_spec (l : List Bd) (hl : l.length < 4611686018427387904) : PCalls Tryz.prog 93 [.agg [.sl (l.map encBd)]] (fun v => v = .c (.bool (apartB l))) := by
 refine PCalls.intro Tryz.call93 Tryz.func93 rfl Tryz.ntmps93 Tryz.results93 (by simp) ?_
 refine AW.sr trivial ?_
 refine AW.seq_k fun K2 h2 => ?_
 refine AW.sr trivial ?_
 refine AW.block ?_   -- 0
 refine AW.loop (fun m s σ => σ = Hp.empty ∧ ∃ i : Nat, m + i = l.length ∧ s.t 1 = .lp 1 0 ∧ s.l 1 = some [.sl (l.map encBd)] ∧ s.t 3 = .c (.int .i64 (i : Nat)) ∧ (List.range i).all (apartAt l) = true) l.length ?_ ?_
 ·refine ⟨rfl, 0, by simp, ?_⟩
  simp only [zs, simprocAttr]
  all_goals ((try and_intros) <;> first | rfl | assumption | (rfl))
 rintro m s σ ⟨rfl, i, hm, e1, l1, e3, hp⟩
 refine AW.seq_k fun K4 h4 => ?_
 all_goals refine AW.sr (J4 e1 l1 e3 @List.length_map.{0,0}) ?_
 refine AW.cond (b := decide (i < l.length)) (by simp [ev]) (fun hi => ?_) (fun hi => ?_)
 ·have hi := of_decide_eq_true hi
  have hg := bd_at hi
  have hw := wadd1 (a := i) (by omega)
  generalize hx : l.getD i noBd = x at hg
  refine AW.skip ?_
  simp only [zs, simprocAttr]
  all_goals apply_assumption
  refine AW.seq_k fun K6 h6 => ?_
  refine AW.block ?_   -- 1
  refine AW.sr trivial ?_
  refine AW.block ?_   -- 2
  refine AW.loop (fun m2 s σ => σ = Hp.empty ∧ ∃ j : Nat, m2 + j = i ∧ s.t 1 = .lp 1 0 ∧ s.l 1 = some [.sl (l.map encBd)] ∧ s.t 3 = .c (.int .i64 (i : Nat)) ∧ s.t 4 = .c (.int .i64 (j : Nat)) ∧ (List.range j).all (fun j => !sameId (l.getD i noBd) (l.getD j noBd)) = true) i ?_ ?_
  ·refine ⟨rfl, 0, by simp, ?_⟩
   simp only [zs, simprocAttr, e1, l1, e3]
   all_goals ((try and_intros) <;> first | rfl | assumption | (rfl))
  rintro m2 s σ ⟨rfl, j, hm2, e1, l1, e3, e4, hq⟩
  refine AW.seq_k fun K8 h8 => ?_
  all_goals refine AW.sr (J2 e3 e4) ?_
  refine AW.cond (b := decide (j < i)) (by simp [ev]) (fun hj => ?_) (fun hj => ?_)
  ·have hj := of_decide_eq_true hj
   have hjl : j < l.length := by omega
   have hgj := bd_at hjl
   have hw2 := wadd1 (a := j) (by omega)
   generalize hy : l.getD j noBd = y at hgj
   refine AW.skip ?_
   simp only [zs, simprocAttr]
   all_goals apply_assumption
   refine AW.seq_k fun K10 h10 => ?_
   refine AW.block ?_   -- 3
   refine AW.seq_k fun K11 h11 => ?_
   refine AW.dv { sd := fun d => d == 1, eqk := eqTab } [(0,0),(2,0),(7,0),(9,0),(1,1),(3,0),(4,0),(5,0),(6,1),(8,1),(10,0),(11,0),(12,0),(13,1),(14,0)] ?_ eqTab_ok
   have q1q := J10 e1 l1 e3 e4 hi hjl hg hgj @encBd.eq_1 @List.length_map.{0,0}
   iterate 4 refine D.one q1q ?_
   refine D.one q1q ?_
   iterate 3 refine D.one q1q ?_
   iterate 2 refine D.one q1q ?_
   iterate 3 refine D.one q1q ?_
   refine D.one q1q ?_
   refine D.one (J12 @eqk45 @fitsAll.eq_1 @fitsAll.eq_2 @fitsAll.eq_3 @SK.fits.eq_1 @SK.fits.eq_2 @SK.fits.eq_3 @SK.fits.eq_4 @cellsEq.eq_1 @cellsEq.eq_2 @cellsEq.eq_3 (J12 @cellEq.eq_1 @cellEq.eq_2 @cellEq.eq_3 @cellEq.eq_4 e1 l1 e3 e4 hi hjl hg (J3 hgj @encBd.eq_1 @List.length_map.{0,0}))) ?_
   (refine D.nil ?_; apply_assumption)
   refine AW.cond (b := sameId x y) (by simp [ev, sameId]) (fun hc => ?_) (fun hc => ?_)
   ·have hf : (fun j => !sameId (l.getD i noBd) (l.getD j noBd)) j = false := by show (!sameId (l.getD i noBd) (l.getD j noBd)) = false; rw [hx, hy, hc]; rfl
    have ha : apartAt l i = false := range_false hj hf
    have hb : apartB l = false := range_false hi ha
    refine AW.sr trivial ?_
    refine AW.ret ?_
    simp only [zs, simprocAttr]
    all_goals ((try and_intros) <;> first | rfl | assumption | (rw [hb]))
   ·refine AW.skip ?_
    simp only [zs, simprocAttr]
    all_goals apply_assumption
    have q2q := J5 e4 hw2 e1 l1 e3
    refine AW.reg0 (S.rn q2q ?_)
    simp only [ze, simprocAttr, q2q]
    refine ⟨m2 - 1, by omega, j + 1, by omega, ?_⟩
    all_goals ((try and_intros) <;> first | rfl | assumption | ((rw [range_step, hq, hx, hy, hc]; rfl)))
  ·have hj := of_decide_eq_false hj
   have hji : j = i := by omega
   rw [hji] at hq
   refine AW.exit ?_
   simp only [zs, simprocAttr]
   all_goals apply_assumption
   have q3q := J4 e3 hw e1 l1
   refine AW.reg0 (S.rn q3q ?_)
   simp only [ze, simprocAttr, q3q]
   refine ⟨m - 1, by omega, i + 1, by omega, ?_⟩
   all_goals ((try and_intros) <;> first | rfl | assumption | ((rw [range_step, hp]; exact hq)))
 ·have hi := of_decide_eq_false hi
  have hil : i = l.length := by omega
  have hb : apartB l = true := by rw [hil] at hp; exact hp
  refine AW.exit ?_
  simp only [zs, simprocAttr]
  all_goals apply_assumption
  refine AW.sr trivial ?_
  refine AW.ret ?_
  simp only [zs, simprocAttr]
  all_goals ((try and_intros) <;> first | rfl | assumption | (rw [hb]))
def ofB (l : List Bd) (vars : List ByteArray) : List Bd := l.filter fun b => hasS vars b.var
theorem filter_step {l : List Bd} {p : Bd → Bool} {i : Nat} {x : Bd} (h : l[i]? = some x) : (l.take (i + 1)).filter p = (l.take i).filter p ++ if p x then [x] else [] := by
 rw [List.take_add_one, h, List.filter_append]
 congr 1
 cases hp : p x <;> simp [hp]
theorem filter_take_len {l : List Bd} {p : Bd → Bool} (i : Nat) : ((l.take i).filter p).length ≤ i :=
 Nat.le_trans (List.length_filter_le _ _) (by rw [List.length_take]; omega)
theorem len_bd1 (b : Bd) : (∀ (e : List V), e ∈ [encBd b] → e.length = 6) = True := eq_true fun e he => by
 rw [List.mem_singleton] at he; rw [he]; rfl
def Acc (l : List Bd) (c : Option (List V)) (σ : Hp) : Prop := (c = some [.c (.slice none 0 0)] ∧ l = [] ∧ σ = Hp.empty) ∨ ∃ k, c = some [.gl k] ∧ σ = Hp.empty.setGr k (some ((50, 6), l.map encBd))
theorem rofB_spec (l : List Bd) (vars : List ByteArray) (hl : l.length < 1048576) (hv : vars.length < 4611686018427387904) : PCalls Tryz.prog 90 [.agg [.sl (l.map encBd)], .sl (vars.map encS)] (fun v => v = .agg [.sl ((ofB l vars).map encBd)]) := by
 refine PCalls.intro Tryz.call90 Tryz.func90 rfl Tryz.ntmps90 Tryz.results90 (by simp) ?_
 refine AW.sr trivial ?_
 refine AW.sr trivial ?_
 refine AW.seq_k fun K3 h3 => ?_
 refine AW.sr trivial ?_
 refine AW.block ?_   -- 0
 refine AW.loop (fun m s σ => ∃ i : Nat, m + i = l.length ∧ s.t 1 = .sl (vars.map encS) ∧ s.t 2 = .lp 2 0 ∧ s.l 2 = some [.sl (l.map encBd)] ∧ s.t 4 = .lp 4 0 ∧ s.l 4 = some [.c (.slice none 0 0)] ∧ s.t 5 = .lp 5 0 ∧ s.t 6 = .c (.int .i64 (i : Nat)) ∧ Acc (ofB (l.take i) vars) (s.l 5) σ) l.length ?_ ?_
 ·refine ⟨0, by simp, ?_⟩
  simp only [zs, simprocAttr]
  all_goals ((try and_intros) <;> first | rfl | assumption | (exact .inl ⟨rfl, rfl, rfl⟩))
 rintro m s σ ⟨i, hm, e1, e2, l2, e4, l4, e5, e6, hacc⟩
 refine AW.seq_k fun K5 h5 => ?_
 all_goals refine AW.sr (J4 e2 l2 e6 @List.length_map.{0,0}) ?_
 refine AW.cond (b := decide (i < l.length)) (by simp [ev]) (fun hi => ?_) (fun hi => ?_)
 ·have hi := of_decide_eq_true hi
  obtain ⟨x, hx, hxm, hg, hd⟩ := bd_get hi
  have hw := wadd1 (a := i) (by omega)
  have hst : ofB (l.take (i + 1)) vars = ofB (l.take i) vars ++ if hasS vars x.var then [x] else [] := filter_step (p := fun b => hasS vars b.var) hx
  have hlen : (ofB (l.take i) vars).length ≤ i := filter_take_len i
  have y1 : ((ofB (l.take i) vars).length + 1 ≤ maxLen) = True := eq_true (by unfold maxLen; omega)
  have y2 : (((ofB (l.take i) vars).length + 1) * 80 ≤ reach) = True := eq_true (by unfold reach; omega)
  have y3 : (1 ≤ maxLen) = True := eq_true (by unfold maxLen; omega)
  have y4 : (80 ≤ reach) = True := eq_true (by unfold reach; omega)
  have z1 : (∀ (e : List V), e ∈ [encBd x] → e.length = 6) = True := len_bd1 x
  unfold encBd at z1
  refine AW.skip ?_
  simp only [zs, simprocAttr]
  all_goals apply_assumption
  refine AW.seq_j (fun s' σ' => s'.t 1 = .sl (vars.map encS) ∧ s'.t 2 = .lp 2 0 ∧ s'.l 2 = some [.sl (l.map encBd)] ∧ s'.t 4 = .lp 4 0 ∧ s'.l 4 = some [.c (.slice none 0 0)] ∧ s'.t 5 = .lp 5 0 ∧ s'.t 6 = .c (.int .i64 (i : Nat)) ∧ Acc (ofB (l.take (i + 1)) vars) (s'.l 5) σ') ?_ ?_
  ·refine AW.block ?_   -- 1
   refine AW.seq_k fun K7 h7 => ?_
   refine AW.reg0 ?_
   iterate 7 refine S.one (J8 e1 e2 l2 e6 hi hg @encBd.eq_1 @List.length_map.{0,0}) ?_
   have q1q := J8 e1 e2 l2 e6 hi hg @encBd.eq_1 @List.length_map.{0,0}
   (refine S.g rfl rfl fun Y Z => ?_; simp only [zz, simprocAttr, -Int.reduceNatCast', -Int.reduceToNat, q1q]; refine PCalls.eqto (rhasS_spec _ _ hv) ?_ <;> (refine Z _ _ ?_; clear Z Y))
   all_goals (refine S.nil ?_; simp only [ze, simprocAttr, q1q]; apply_assumption)
   refine AW.cond (b := hasS vars x.var) (by simp [ev]) (fun hc => ?_) (fun hc => ?_)
   ·rw [hc, if_pos rfl] at hst
    rcases hacc with ⟨l5, hn, rfl⟩ | ⟨k, l5, rfl⟩
    ·rw [hn] at y1 y2 hst
     refine AW.dT { sd := fun _ => false } (.st 0 0 (.st 2 0 (.st 4 0 (.fork 1 (.st 3 2 (.st 5 0 (.st 6 2 (.st 7 2 (.st 8 2 (.st 9 0 (.st 10 2 .nil))))))) 3 (.st 5 0 (.fork 1 (.st 6 2 (.st 7 2 (.st 8 2 (.st 9 0 (.st 10 2 .nil))))) 6 (.fork 1 (.st 7 2 (.st 8 2 (.st 9 0 (.st 10 2 .nil)))) 7 (.st 1 2 (.st 8 2 (.st 9 0 (.st 10 2 .nil))))))))))) ?_
     all_goals have q2q := J12 e1 e2 l2 e4 l4 e5 l5 e6 hi hg @encBd.eq_1 (J6 z1 y1 y2 y3 y4 @List.length_map.{0,0})
     all_goals iterate 3 refine T.one q2q ?_
     all_goals (try refine T.fork ?_ ?_)
     all_goals refine T.one q2q ?_
     all_goals have q3q := J12 e1 e2 l2 e4 l4 e5 l5 e6 hi hg @encBd.eq_1 (J6 z1 y1 y2 y3 y4 @List.length_map.{0,0})
     all_goals first | (refine T.g rfl trivial rfl rfl fun Y Z => ?_; simp only [zz, simprocAttr, -Int.reduceNatCast', -Int.reduceToNat, tt, q3q]; refine Z _ _ ?_; clear Z Y) | (refine T.g rfl trivial rfl rfl fun Y Z => ?_; simp only [zz, simprocAttr, -Int.reduceNatCast', -Int.reduceToNat, tt, q3q]; refine Z _ _ ?_; clear Z Y)
     all_goals (try refine T.fork ?_ ?_)
     all_goals have q4q := J12 e1 e2 l2 e4 l4 e5 l5 e6 hi hg @encBd.eq_1 (J6 z1 y1 y2 y3 y4 @List.length_map.{0,0})
     all_goals first | (refine T.g rfl trivial rfl rfl fun Y Z => ?_; simp only [zz, simprocAttr, -Int.reduceNatCast', -Int.reduceToNat, tt, q4q]; refine Z _ _ ?_; clear Z Y) | (refine T.g rfl trivial rfl rfl fun Y Z => ?_; simp only [zz, simprocAttr, -Int.reduceNatCast', -Int.reduceToNat, tt, q4q]; refine Z _ _ ?_; clear Z Y) | (refine T.g rfl trivial rfl rfl fun Y Z => ?_; simp only [zz, simprocAttr, -Int.reduceNatCast', -Int.reduceToNat, tt, q4q]; refine Z _ _ ?_; clear Z Y)
     all_goals (try refine T.fork ?_ ?_)
     all_goals have q5q := J12 e1 e2 l2 e4 l4 e5 l5 e6 hi hg @encBd.eq_1 (J6 z1 y1 y2 y3 y4 @List.length_map.{0,0})
     all_goals first | (refine T.g rfl trivial rfl rfl fun Y Z => ?_; simp only [zz, simprocAttr, -Int.reduceNatCast', -Int.reduceToNat, tt, q5q]; refine Z _ _ ?_; clear Z Y) | (refine T.g rfl trivial rfl rfl fun Y Z => ?_; simp only [zz, simprocAttr, -Int.reduceNatCast', -Int.reduceToNat, tt, q5q]; refine Z _ _ ?_; clear Z Y) | (refine T.g rfl trivial rfl rfl fun Y Z => ?_; simp only [zb, simprocAttr, -Int.reduceNatCast', -Int.reduceToNat, tt, e1, e2, l2, e4, l4, e5, l5, e6, hi, hg, encBd, z1, y1, y2, y3, y4, List.length_map]; refine Z _ _ ?_; clear Z Y)
     all_goals first | (refine T.g rfl trivial rfl rfl fun Y Z => ?_; simp only [zb, simprocAttr, -Int.reduceNatCast', -Int.reduceToNat, tt, e1, e2, l2, e4, l4, e5, l5, e6, hi, hg, encBd, z1, y1, y2, y3, y4, List.length_map]; refine Z _ _ ?_; clear Z Y) | (refine T.g rfl trivial rfl rfl fun Y Z => ?_; simp only [zz, simprocAttr, -Int.reduceNatCast', -Int.reduceToNat, tt, e1, e2, l2, e4, l4, e5, l5, e6, hi, hg, encBd, z1, y1, y2, y3, y4, List.length_map]; refine Z _ _ ?_; clear Z Y)
     all_goals have q6q := J12 e1 e2 l2 e4 l4 e5 l5 e6 hi hg @encBd.eq_1 (J6 z1 y1 y2 y3 y4 @List.length_map.{0,0})
     all_goals (refine T.g rfl trivial rfl rfl fun Y Z => ?_; simp only [zz, simprocAttr, -Int.reduceNatCast', -Int.reduceToNat, tt, q6q]; intro k1 hk1 <;> (refine Z _ _ ?_; clear Z Y))
     all_goals iterate 2 refine T.one q6q ?_
     all_goals refine T.nil ?_
     all_goals simp only [ze, simprocAttr, q6q]
     all_goals exact .inr ⟨k1, rfl, by rw [hst]; rfl⟩
    ·skip
     refine AW.dT { sd := fun _ => false } (.st 0 0 (.st 2 0 (.st 4 0 (.fork 1 (.st 3 2 (.st 5 0 (.st 6 2 (.st 7 2 (.st 8 2 (.st 9 0 (.st 10 2 .nil))))))) 3 (.st 5 0 (.fork 1 (.st 6 2 (.st 7 2 (.st 8 2 (.st 9 0 (.st 10 2 .nil))))) 6 (.fork 1 (.st 7 2 (.st 8 2 (.st 9 0 (.st 10 2 .nil)))) 7 (.st 1 2 (.st 8 2 (.st 9 0 (.st 10 2 .nil))))))))))) ?_
     all_goals have q7q := J12 e1 e2 l2 e4 l4 e5 l5 e6 hi hg @encBd.eq_1 (J6 z1 y1 y2 y3 y4 @List.length_map.{0,0})
     all_goals iterate 3 refine T.one q7q ?_
     all_goals (try refine T.fork ?_ ?_)
     all_goals refine T.one q7q ?_
     all_goals have q8q := J12 e1 e2 l2 e4 l4 e5 l5 e6 hi hg @encBd.eq_1 (J6 z1 y1 y2 y3 y4 @List.length_map.{0,0})
     all_goals first | (refine T.g rfl trivial rfl rfl fun Y Z => ?_; simp only [zz, simprocAttr, -Int.reduceNatCast', -Int.reduceToNat, tt, q8q]; refine Z _ _ ?_; clear Z Y) | (refine T.g rfl trivial rfl rfl fun Y Z => ?_; simp only [zz, simprocAttr, -Int.reduceNatCast', -Int.reduceToNat, tt, q8q]; refine Z _ _ ?_; clear Z Y)
     all_goals (try refine T.fork ?_ ?_)
     all_goals have q9q := J12 e1 e2 l2 e4 l4 e5 l5 e6 hi hg @encBd.eq_1 (J6 z1 y1 y2 y3 y4 @List.length_map.{0,0})
     all_goals first | (refine T.g rfl trivial rfl rfl fun Y Z => ?_; simp only [zz, simprocAttr, -Int.reduceNatCast', -Int.reduceToNat, tt, q9q]; refine Z _ _ ?_; clear Z Y) | (refine T.g rfl trivial rfl rfl fun Y Z => ?_; simp only [zz, simprocAttr, -Int.reduceNatCast', -Int.reduceToNat, tt, q9q]; refine Z _ _ ?_; clear Z Y) | (refine T.g rfl trivial rfl rfl fun Y Z => ?_; simp only [zz, simprocAttr, -Int.reduceNatCast', -Int.reduceToNat, tt, q9q]; refine Z _ _ ?_; clear Z Y)
     all_goals (try refine T.fork ?_ ?_)
     all_goals have q10q := J12 e1 e2 l2 e4 l4 e5 l5 e6 hi hg @encBd.eq_1 (J6 z1 y1 y2 y3 y4 @List.length_map.{0,0})
     all_goals first | (refine T.g rfl trivial rfl rfl fun Y Z => ?_; simp only [zz, simprocAttr, -Int.reduceNatCast', -Int.reduceToNat, tt, q10q]; refine Z _ _ ?_; clear Z Y) | (refine T.g rfl trivial rfl rfl fun Y Z => ?_; simp only [zz, simprocAttr, -Int.reduceNatCast', -Int.reduceToNat, tt, q10q]; refine Z _ _ ?_; clear Z Y) | (refine T.g rfl trivial rfl rfl fun Y Z => ?_; simp only [zb, simprocAttr, -Int.reduceNatCast', -Int.reduceToNat, tt, e1, e2, l2, e4, l4, e5, l5, e6, hi, hg, encBd, z1, y1, y2, y3, y4, List.length_map]; refine Z _ _ ?_; clear Z Y)
     all_goals first | (refine T.g rfl trivial rfl rfl fun Y Z => ?_; simp only [zb, simprocAttr, -Int.reduceNatCast', -Int.reduceToNat, tt, e1, e2, l2, e4, l4, e5, l5, e6, hi, hg, encBd, z1, y1, y2, y3, y4, List.length_map]; refine Z _ _ ?_; clear Z Y) | (refine T.g rfl trivial rfl rfl fun Y Z => ?_; simp only [zz, simprocAttr, -Int.reduceNatCast', -Int.reduceToNat, tt, e1, e2, l2, e4, l4, e5, l5, e6, hi, hg, encBd, z1, y1, y2, y3, y4, List.length_map]; refine Z _ _ ?_; clear Z Y)
     all_goals have q11q := J12 e1 e2 l2 e4 l4 e5 l5 e6 hi hg @encBd.eq_1 (J6 z1 y1 y2 y3 y4 @List.length_map.{0,0})
     all_goals (refine T.g rfl trivial rfl rfl fun Y Z => ?_; simp only [zz, simprocAttr, -Int.reduceNatCast', -Int.reduceToNat, tt, q11q]; intro k1 hk1 <;> (refine Z _ _ ?_; clear Z Y))
     all_goals iterate 2 refine T.one q11q ?_
     all_goals refine T.nil ?_
     all_goals simp only [ze, simprocAttr, q11q]
     all_goals exact .inr ⟨k1, rfl, by rw [hst, List.map_append]; rfl⟩
   ·rw [hc, if_neg Bool.false_ne_true, List.append_nil] at hst
    refine AW.skip ?_
    simp only [zs, simprocAttr]
    rw [hst]
    all_goals ((try and_intros) <;> first | rfl | assumption | (exact hacc))
  rintro s σ ⟨e1, e2, l2, e4, l4, e5, e6, hacc⟩
  all_goals have q12q := J8 e6 hw e1 e2 l2 e4 l4 e5
  all_goals refine AW.reg0 (S.rn q12q ?_)
  all_goals simp only [ze, simprocAttr, q12q]
  refine ⟨m - 1, by omega, i + 1, by omega, ?_⟩
  all_goals ((try and_intros) <;> first | rfl | assumption | (exact hacc))
 ·have hi := of_decide_eq_false hi
  refine AW.exit ?_
  simp only [zs, simprocAttr]
  all_goals apply_assumption
  rw [List.take_of_length_le (by omega)] at hacc
  rcases hacc with ⟨l5, hn, rfl⟩ | ⟨k, l5, rfl⟩
  ·refine AW.sr (J4 e4 l4 e5 l5) ?_
   refine AW.ret ?_
   simp only [zs, simprocAttr, zz, tt, e4, l4]
   all_goals ((try and_intros) <;> first | rfl | assumption | (((rw [hn]) <;> rfl)))
  ·refine AW.freeze (k := k) (T := (50, 6)) (es := (ofB l vars).map encBd) (by simp only [Hp.setGr_gr, if_true]) ?_
   have hem : (Hp.empty.setGr k (some ((50, 6), (ofB l vars).map encBd))).setGr k none = Hp.empty := by simp
   rw [hem]
   have q13q := J12 @St.fz_t @St.fz_l @fzV.eq_1 @fzV.eq_2 @fz1.eq_1 @fz1.eq_2 @Option.map_some.{0,0} @List.map.eq_1.{0,0} @List.map.eq_2.{0,0} e4 l4 (J2 e5 l5)
   refine AW.sr q13q ?_
   refine AW.ret ?_
   simp only [zs, simprocAttr, zz, tt, q13q]
   all_goals ((try and_intros) <;> first | rfl | assumption | (rfl))
theorem minL_snoc (a : Int) (r : List Int) (b : Int) : minL a (r ++ [b]) = if b < minL a r then b else minL a r := by unfold minL; rw [List.foldl_append]; rfl
theorem maxL_snoc (a : Int) (r : List Int) (b : Int) : maxL a (r ++ [b]) = if maxL a r < b then b else maxL a r := by unfold maxL; rw [List.foldl_append]; rfl
theorem begin_snoc (p : List Bd) (b : Bd) : beginOf (p ++ [b]) = if p = [] then b.ev.time else if b.ev.time < beginOf p then b.ev.time else beginOf p := by
 cases p with
 | nil => rfl
 | cons x p => simp [beginOf, minL_snoc]
theorem end_snoc (p : List Bd) (b : Bd) : endOf (p ++ [b]) = if p = [] then b.ev.time else if endOf p < b.ev.time then b.ev.time else endOf p := by
 cases p with
 | nil => rfl
 | cons x p => simp [endOf, maxL_snoc]
def inI64 (n : Int) : Prop := -9223372036854775808 ≤ n ∧ n ≤ 9223372036854775807
theorem minL_mem (a : Int) (r : List Int) : minL a r ∈ a :: r := by
  induction r generalizing a with
  | nil => simp [minL]
  | cons b r ih =>
    simp only [minL, List.foldl_cons] at ih ⊢
    have := ih (if b < a then b else a)
    split at this
    · rename_i h; rw [if_pos h]
      exact List.mem_cons_of_mem _ this
    · rename_i h; rw [if_neg h]
      rcases List.mem_cons.1 this with h1 | h1
      · rw [h1]; exact List.mem_cons_self
      · exact List.mem_cons_of_mem _ (List.mem_cons_of_mem _ h1)
theorem maxL_mem (a : Int) (r : List Int) : maxL a r ∈ a :: r := by
  induction r generalizing a with
  | nil => simp [maxL]
  | cons b r ih =>
    simp only [maxL, List.foldl_cons] at ih ⊢
    have := ih (if a < b then b else a)
    split at this
    · rename_i h; rw [if_pos h]
      exact List.mem_cons_of_mem _ this
    · rename_i h; rw [if_neg h]
      rcases List.mem_cons.1 this with h1 | h1
      · rw [h1]; exact List.mem_cons_self
      · exact List.mem_cons_of_mem _ (List.mem_cons_of_mem _ h1)
theorem minL_le (a : Int) (r : List Int) : minL a r ≤ a := by
  induction r generalizing a with
  | nil => simp [minL]
  | cons b r ih =>
    simp only [minL, List.foldl_cons] at ih ⊢
    have := ih (if b < a then b else a)
    split at this
    · rename_i h; rw [if_pos h]; omega
    · rename_i h; rw [if_neg h]; omega
theorem le_maxL (a : Int) (r : List Int) : a ≤ maxL a r := by
  induction r generalizing a with
  | nil => simp [maxL]
  | cons b r ih =>
    simp only [maxL, List.foldl_cons] at ih ⊢
    have := ih (if a < b then b else a)
    split at this
    · rename_i h; rw [if_pos h]; omega
    · rename_i h; rw [if_neg h]; omega
theorem begin_le_end (l : List Bd) : beginOf l ≤ endOf l := by
 cases l with
 | nil => simp [beginOf, endOf]
 | cons x l => exact Int.le_trans (minL_le _ _) (le_maxL _ _)
theorem begin_in {l : List Bd} (h : ∀ b ∈ l, inI64 b.ev.time) : inI64 (beginOf l) := by
  cases l with
  | nil => simp [beginOf, inI64]
  | cons x l =>
    have := minL_mem x.ev.time (l.map (·.ev.time))
    show inI64 (minL _ _)
    rw [show x.ev.time :: l.map (·.ev.time) = (x :: l).map (·.ev.time) from rfl] at this
    obtain ⟨b, hb, e⟩ := List.mem_map.1 this
    rw [← e]; exact h b hb
theorem end_in {l : List Bd} (h : ∀ b ∈ l, inI64 b.ev.time) : inI64 (endOf l) := by
  cases l with
  | nil => simp [endOf, inI64]
  | cons x l =>
    have := maxL_mem x.ev.time (l.map (·.ev.time))
    show inI64 (maxL _ _)
    rw [show x.ev.time :: l.map (·.ev.time) = (x :: l).map (·.ev.time) from rfl] at this
    obtain ⟨b, hb, e⟩ := List.mem_map.1 this
    rw [← e]; exact h b hb
theorem wrapI (n : Int) (h0 : -9223372036854775808 ≤ n) (h1 : n ≤ 9223372036854775807) : IntKind.i64.wrap n = n := by
 simp [IntKind.wrap, IntKind.signed, IntKind.bits, Int.bmod]; omega
def withinB (l : List Bd) (w : Int) : Bool := decide (0 ≤ w ∧ endOf l - beginOf l ≤ w)
theorem rbegin_spec (l : List Bd) (hn : l.length < 4611686018427387904) : PCalls Tryz.prog 91 [.agg [.sl (l.map encBd)]] (fun v => v = .c (.int .i64 (beginOf l))) := by
 refine PCalls.intro Tryz.call91 Tryz.func91 rfl Tryz.ntmps91 Tryz.results91 (by simp) ?_
 refine AW.sr trivial ?_
 refine AW.sr trivial ?_
 refine AW.seq_j (fun s σ => σ = Hp.empty ∧ s.t 3 = .c (.int .i64 (beginOf l))) ?_ ?_
 ·refine AW.sr trivial ?_
  refine AW.block ?_   -- 0
  refine AW.loop (fun m s σ => σ = Hp.empty ∧ ∃ i : Nat, m + i = l.length ∧ s.t 1 = .lp 1 0 ∧ s.l 1 = some [.sl (l.map encBd)] ∧ s.t 4 = .c (.int .i64 i) ∧ s.t 3 = .c (.int .i64 (beginOf (l.take i)))) l.length ?_ ?_
  ·refine ⟨rfl, 0, by simp, ?_⟩
   simp only [zs, simprocAttr]
   simp [beginOf]
  rintro m s σ ⟨rfl, i, hm, e1, l1, e4, e3⟩
  refine AW.seq_k fun K4 h4 => ?_
  all_goals refine AW.sr (J3 e1 l1 e4) ?_
  refine AW.cond (b := decide (i < l.length)) (by simp [ev]) (fun hc => ?_) (fun hc => ?_)
  ·have hi := of_decide_eq_true hc
   refine AW.skip ?_
   simp only [zs, simprocAttr]
   all_goals apply_assumption
   have hg := getD_map (f := encBd) hi
   have htk : l.take (i + 1) = l.take i ++ [l[i]] := by rw [List.take_append_getElem]
   have hnil : (l.take i = []) ↔ (i = 0) := by
    constructor
    ·intro h
     have := congrArg List.length h
     rw [List.length_take, List.length_nil] at this; omega
    ·rintro rfl; rfl
   generalize ha : l[i] = a at hg htk
   have hw : IntKind.i64.wrap ((i : Int) + 1) = ((i + 1 : Nat) : Int) := by rw [wrap_small _ (by omega) (by omega)]; rfl
   have hsn := begin_snoc (l.take i) a
   rw [← htk] at hsn
   simp only [hnil] at hsn
   refine AW.seq_k fun K6 h6 => ?_
   refine AW.block ?_   -- 1
   refine AW.sr (J6 e1 l1 e4 hi hg @encBd.eq_1) ?_
   refine AW.seq_j (fun s' σ => σ = Hp.empty ∧ s'.t 1 = .lp 1 0 ∧ s'.l 1 = some [.sl (l.map encBd)] ∧ s'.t 4 = .c (.int .i64 i) ∧ s'.t 3 = .c (.int .i64 (beginOf (l.take i))) ∧ s'.t 5 = .c (.int .i64 a.ev.time) ∧ s'.t 26 = .c (.bool (decide (i = 0 ∨ a.ev.time < beginOf (l.take i))))) ?_ ?_
   ·clear hsn htk hnil hg
    generalize beginOf (l.take i) = q at *
    refine AW.reg0 ?_
    have q1q := J4 e1 l1 e4 e3
    refine S.one q1q ?_
    (refine S.sp q1q fun b a21 => ?_; cases b <;> (try exact nope a21))
    all_goals iterate 5 refine S.one q1q ?_
    all_goals refine S.nil ?_
    all_goals simp only [ze, simprocAttr, q1q]
    all_goals (try simp only [bl] at *)
    all_goals (try simp only [V.c.injEq, Value.bool.injEq, Value.int.injEq, true_and])
    all_goals exact shut
   clear e1 l1 e4 e3
   rintro s σ ⟨rfl, e1, l1, e4, e3, e5, e26⟩
   refine AW.cond (b := _) e26 (fun hx => ?_) (fun hx => ?_)
   ·have hx := of_decide_eq_true hx
    refine AW.reg0 (S.rn e5 ?_)
    all_goals apply_assumption
    have q2q := J4 e4 hw e1 l1
    refine AW.reg0 (S.rn q2q ?_)
    simp only [ze, simprocAttr, q2q]
    refine ⟨m - 1, by omega, i + 1, by omega, rfl, ?_⟩
    rw [hsn]
    by_cases h0 : i = 0
    ·rw [if_pos h0]
    ·rw [if_neg h0, if_pos (hx.resolve_left h0)]
   ·have hx := of_decide_eq_false hx
    refine AW.skip ?_
    simp only [zs, simprocAttr]
    all_goals apply_assumption
    have q3q := J5 e4 hw e1 l1 e3
    refine AW.reg0 (S.rn q3q ?_)
    simp only [ze, simprocAttr, q3q]
    refine ⟨m - 1, by omega, i + 1, by omega, rfl, ?_⟩
    rw [hsn, if_neg (fun h => hx (.inl h)), if_neg (fun h => hx (.inr h))]
  ·have hc := of_decide_eq_false hc
   refine AW.exit ?_
   simp only [zs, simprocAttr]
   rw [List.take_of_length_le (by omega)] at e3
   exact e3
 rintro s σ ⟨rfl, e3⟩
 all_goals refine AW.sr e3 ?_
 refine AW.ret ?_
 all_goals simp only [zs, simprocAttr]
theorem rend_spec (l : List Bd) (hn : l.length < 4611686018427387904) : PCalls Tryz.prog 92 [.agg [.sl (l.map encBd)]] (fun v => v = .c (.int .i64 (endOf l))) := by
 refine PCalls.intro Tryz.call92 Tryz.func92 rfl Tryz.ntmps92 Tryz.results92 (by simp) ?_
 refine AW.sr trivial ?_
 refine AW.sr trivial ?_
 refine AW.seq_j (fun s σ => σ = Hp.empty ∧ s.t 3 = .c (.int .i64 (endOf l))) ?_ ?_
 ·refine AW.sr trivial ?_
  refine AW.block ?_   -- 0
  refine AW.loop (fun m s σ => σ = Hp.empty ∧ ∃ i : Nat, m + i = l.length ∧ s.t 1 = .lp 1 0 ∧ s.l 1 = some [.sl (l.map encBd)] ∧ s.t 4 = .c (.int .i64 i) ∧ s.t 3 = .c (.int .i64 (endOf (l.take i)))) l.length ?_ ?_
  ·refine ⟨rfl, 0, by simp, ?_⟩
   simp only [zs, simprocAttr]
   simp [endOf]
  rintro m s σ ⟨rfl, i, hm, e1, l1, e4, e3⟩
  refine AW.seq_k fun K4 h4 => ?_
  all_goals refine AW.sr (J3 e1 l1 e4) ?_
  refine AW.cond (b := decide (i < l.length)) (by simp [ev]) (fun hc => ?_) (fun hc => ?_)
  ·have hi := of_decide_eq_true hc
   refine AW.skip ?_
   simp only [zs, simprocAttr]
   all_goals apply_assumption
   have hg := getD_map (f := encBd) hi
   have htk : l.take (i + 1) = l.take i ++ [l[i]] := by rw [List.take_append_getElem]
   have hnil : (l.take i = []) ↔ (i = 0) := by
    constructor
    ·intro h
     have := congrArg List.length h
     rw [List.length_take, List.length_nil] at this; omega
    ·rintro rfl; rfl
   generalize ha : l[i] = a at hg htk
   have hw : IntKind.i64.wrap ((i : Int) + 1) = ((i + 1 : Nat) : Int) := by rw [wrap_small _ (by omega) (by omega)]; rfl
   have hsn := end_snoc (l.take i) a
   rw [← htk] at hsn
   simp only [hnil] at hsn
   refine AW.seq_k fun K6 h6 => ?_
   refine AW.block ?_   -- 1
   refine AW.sr (J6 e1 l1 e4 hi hg @encBd.eq_1) ?_
   refine AW.seq_j (fun s' σ => σ = Hp.empty ∧ s'.t 1 = .lp 1 0 ∧ s'.l 1 = some [.sl (l.map encBd)] ∧ s'.t 4 = .c (.int .i64 i) ∧ s'.t 3 = .c (.int .i64 (endOf (l.take i))) ∧ s'.t 5 = .c (.int .i64 a.ev.time) ∧ s'.t 26 = .c (.bool (decide (i = 0 ∨ endOf (l.take i) < a.ev.time)))) ?_ ?_
   ·clear hsn htk hnil hg
    generalize endOf (l.take i) = q at *
    refine AW.reg0 ?_
    have q1q := J4 e1 l1 e4 e3
    refine S.one q1q ?_
    (refine S.sp q1q fun b a21 => ?_; cases b <;> (try exact nope a21))
    all_goals iterate 5 refine S.one q1q ?_
    all_goals refine S.nil ?_
    all_goals simp only [ze, simprocAttr, q1q]
    all_goals (try simp only [bl] at *)
    all_goals (try simp only [V.c.injEq, Value.bool.injEq, Value.int.injEq, true_and])
    all_goals exact shut
   clear e1 l1 e4 e3
   rintro s σ ⟨rfl, e1, l1, e4, e3, e5, e26⟩
   refine AW.cond (b := _) e26 (fun hx => ?_) (fun hx => ?_)
   ·have hx := of_decide_eq_true hx
    refine AW.reg0 (S.rn e5 ?_)
    all_goals apply_assumption
    have q2q := J4 e4 hw e1 l1
    refine AW.reg0 (S.rn q2q ?_)
    simp only [ze, simprocAttr, q2q]
    refine ⟨m - 1, by omega, i + 1, by omega, rfl, ?_⟩
    rw [hsn]
    by_cases h0 : i = 0
    ·rw [if_pos h0]
    ·rw [if_neg h0, if_pos (hx.resolve_left h0)]
   ·have hx := of_decide_eq_false hx
    refine AW.skip ?_
    simp only [zs, simprocAttr]
    all_goals apply_assumption
    have q3q := J5 e4 hw e1 l1 e3
    refine AW.reg0 (S.rn q3q ?_)
    simp only [ze, simprocAttr, q3q]
    refine ⟨m - 1, by omega, i + 1, by omega, rfl, ?_⟩
    rw [hsn, if_neg (fun h => hx (.inl h)), if_neg (fun h => hx (.inr h))]
  ·have hc := of_decide_eq_false hc
   refine AW.exit ?_
   simp only [zs, simprocAttr]
   rw [List.take_of_length_le (by omega)] at e3
   exact e3
 rintro s σ ⟨rfl, e3⟩
 all_goals refine AW.sr e3 ?_
 refine AW.ret ?_
 all_goals simp only [zs, simprocAttr]
theorem within_spec (l : List Bd) (w : Int) (hn : l.length * 80 ≤ 140737488355328) (ht : ∀ b ∈ l, inI64 b.ev.time) (hw : inI64 w) : PCalls Tryz.prog 51 [.agg [.sl (l.map encBd)], .c (.int .i64 w)] (fun v => v = .c (.bool (withinB l w))) := by
 have hb := begin_in ht
 have he := end_in ht
 have hle := begin_le_end l
 unfold withinB
 refine PCalls.intro Tryz.call51 Tryz.func51 rfl Tryz.ntmps51 Tryz.results51 (by simp) ?_
 refine AW.sr trivial ?_
 refine AW.seq_k fun K2 h2 => ?_
 refine AW.dv { sd := fun d => d == 2 } [(0,1),(2,1),(1,2),(3,2),(4,0),(5,0)] ?_
 iterate 2 refine D.one trivial ?_
 (refine D.g rfl trivial rfl rfl fun Y Z => ?_; simp only [zz, simprocAttr, -Int.reduceNatCast', -Int.reduceToNat]; refine PCalls.eqto (begin_spec l hn) ?_ <;> (refine Z _ _ ?_; clear Z Y))
 all_goals (refine D.g rfl trivial rfl rfl fun Y Z => ?_; simp only [zz, simprocAttr, -Int.reduceNatCast', -Int.reduceToNat]; refine PCalls.eqto (end_spec l hn) ?_ <;> (refine Z _ _ ?_; clear Z Y))
 all_goals iterate 2 refine D.one trivial ?_
 all_goals (refine D.nil ?_; apply_assumption)
 generalize beginOf l = a at *
 generalize endOf l = b at *
 unfold inI64 at *
 refine AW.seq_j (fun s σ => σ = Hp.empty ∧ s.t 1 = .c (.int .i64 w) ∧ s.t 5 = .c (.int .i64 a) ∧ s.t 6 = .c (.int .i64 b) ∧ ¬ (a < 0 ∧ b > 9223372036854775807 + a) ) ?_ ?_
 ·refine AW.seq_j (fun s σ => σ = Hp.empty ∧ s.t 1 = .c (.int .i64 w) ∧ s.t 5 = .c (.int .i64 a) ∧ s.t 6 = .c (.int .i64 b) ∧ s.t 18 = .c (.bool (decide (a < 0 ∧ b > 9223372036854775807 + a)))) ?_ ?_
  ·by_cases h0 : a < 0
   ·have hw2 : IntKind.i64.wrap (9223372036854775807 + a) = 9223372036854775807 + a := wrapI _ (by omega) (by omega)
    refine AW.reg0 ?_
    refine S.one hw2 ?_
    (refine S.sp hw2 fun b a12 => ?_; cases b <;> (try exact nope a12))
    all_goals iterate 6 refine S.one hw2 ?_
    all_goals refine S.nil ?_
    all_goals simp only [ze, simprocAttr, hw2]
    all_goals (simp [h0])
   ·skip
    refine AW.reg0 ?_
    refine S.one trivial ?_
    (refine S.sp trivial fun b a12 => ?_; cases b <;> (try exact nope a12))
    all_goals iterate 6 refine S.one trivial ?_
    all_goals refine S.nil ?_
    all_goals simp only [ze, simprocAttr]
    all_goals (simp [h0])
  rintro s σ ⟨rfl, e1, e5, e6, e18⟩
  refine AW.cond (b := _) e18 (fun hc => ?_) (fun hc => ?_)
  ·have hc := of_decide_eq_true hc
   refine AW.sr trivial ?_
   refine AW.ret ?_
   simp only [zs, simprocAttr]
   have : ¬ (0 ≤ w ∧ b - a ≤ w) := by omega
   rw [decide_eq_false this]
  ·have hc := of_decide_eq_false hc
   refine AW.skip ?_
   simp only [zs, simprocAttr]
   exact ⟨e1, e5, e6, hc⟩
 rintro s σ ⟨rfl, e1, e5, e6, hc⟩
 have hw2 : IntKind.i64.wrap (b - a) = b - a := wrapI _ (by omega) (by omega)
 all_goals refine AW.sr (J4 e1 e5 e6 hw2) ?_
 refine AW.ret ?_
 all_goals simp only [zs, simprocAttr]
 simp only [V.c.injEq, Value.bool.injEq, decide_eq_decide]
 omega
theorem rwithin_spec (l : List Bd) (w : Int) (hl : l.length < 4611686018427387904) (ht : ∀ b ∈ l, inI64 b.ev.time) (hw : inI64 w) : PCalls Tryz.prog 52 [.agg [.sl (l.map encBd)], .c (.int .i64 w)] (fun v => v = .c (.bool (withinB l w))) := by
 have hb := begin_in ht
 have he := end_in ht
 have hle := begin_le_end l
 unfold withinB
 refine PCalls.intro Tryz.call52 Tryz.func52 rfl Tryz.ntmps52 Tryz.results52 (by simp) ?_
 refine AW.sr trivial ?_
 refine AW.seq_j (fun s σ => σ = Hp.empty ∧ s.t 4 = .c (.bool (decide (0 ≤ w ∧ endOf l - beginOf l ≤ w)))) ?_ ?_
 ·by_cases h0 : 0 ≤ w
  ·have hw1 : IntKind.u64.wrap (IntKind.u64.wrap (endOf l) - IntKind.u64.wrap (beginOf l)) = endOf l - beginOf l := by
    generalize beginOf l = a at *
    generalize endOf l = b at *
    unfold inI64 at *
    simp [IntKind.wrap, IntKind.signed, IntKind.bits]; omega
   have hw2 : IntKind.u64.wrap w = w := by
    unfold inI64 at *
    simp [IntKind.wrap, IntKind.signed, IntKind.bits]; omega
   refine AW.dv { sd := fun d => d == 2 } [(0,0),(1,0),(2,0),(10,0),(11,0),(3,1),(6,1),(4,2),(5,0),(7,2),(8,0),(9,0),(12,0),(13,0),(14,0)] ?_
   refine D.one (J2 hw1 hw2) ?_
   (refine D.sp (J2 hw1 hw2) fun b a6 => ?_; cases b <;> (try exact nope a6))
   all_goals iterate 3 refine D.one (J2 hw1 hw2) ?_
   all_goals iterate 2 refine D.one (J2 hw1 hw2) ?_
   all_goals (first | (refine D.y rfl trivial rfl rfl rfl rfl fun Y Z => ?_; simp only [zz, simprocAttr, -Int.reduceNatCast', -Int.reduceToNat, hw1, hw2]; refine PCalls.eqto (rend_spec l hl) ?_ <;> (refine Z _ _ ?_; clear Z Y)) | ((first | refine D.x rfl (fun h => by cases h) rfl rfl rfl rfl fun Y Z => ?_ | refine D.u rfl (fun h => by cases h) rfl rfl rfl rfl fun Y Z => ?_); simp only [ze, simprocAttr, -Int.reduceNatCast', -Int.reduceToNat]; refine Z _ _ ?_; clear Z Y))
   all_goals refine D.one (J2 hw1 hw2) ?_
   all_goals (first | (refine D.y rfl trivial rfl rfl rfl rfl fun Y Z => ?_; simp only [zz, simprocAttr, -Int.reduceNatCast', -Int.reduceToNat, hw1, hw2]; refine PCalls.eqto (rbegin_spec l hl) ?_ <;> (refine Z _ _ ?_; clear Z Y)) | ((first | refine D.x rfl (fun h => by cases h) rfl rfl rfl rfl fun Y Z => ?_ | refine D.u rfl (fun h => by cases h) rfl rfl rfl rfl fun Y Z => ?_); simp only [ze, simprocAttr, -Int.reduceNatCast', -Int.reduceToNat]; refine Z _ _ ?_; clear Z Y))
   all_goals iterate 5 refine D.one (J2 hw1 hw2) ?_
   all_goals refine D.nil ?_
   all_goals simp only [ze, simprocAttr, hw1, hw2]
   all_goals simp [h0]
  ·skip
   refine AW.dv { sd := fun d => d == 2 } [(0,0),(1,0),(2,0),(10,0),(11,0),(3,1),(6,1),(4,2),(5,0),(7,2),(8,0),(9,0),(12,0),(13,0),(14,0)] ?_
   refine D.one trivial ?_
   (refine D.sp trivial fun b a6 => ?_; cases b <;> (try exact nope a6))
   all_goals iterate 3 refine D.one trivial ?_
   all_goals iterate 2 refine D.one trivial ?_
   all_goals (first | (refine D.y rfl trivial rfl rfl rfl rfl fun Y Z => ?_; simp only [zz, simprocAttr, -Int.reduceNatCast', -Int.reduceToNat]; refine PCalls.eqto (rend_spec l hl) ?_ <;> (refine Z _ _ ?_; clear Z Y)) | ((first | refine D.x rfl (fun h => by cases h) rfl rfl rfl rfl fun Y Z => ?_ | refine D.u rfl (fun h => by cases h) rfl rfl rfl rfl fun Y Z => ?_); simp only [ze, simprocAttr, -Int.reduceNatCast', -Int.reduceToNat]; refine Z _ _ ?_; clear Z Y))
   all_goals refine D.one trivial ?_
   all_goals (first | (refine D.y rfl trivial rfl rfl rfl rfl fun Y Z => ?_; simp only [zz, simprocAttr, -Int.reduceNatCast', -Int.reduceToNat]; refine PCalls.eqto (rbegin_spec l hl) ?_ <;> (refine Z _ _ ?_; clear Z Y)) | ((first | refine D.x rfl (fun h => by cases h) rfl rfl rfl rfl fun Y Z => ?_ | refine D.u rfl (fun h => by cases h) rfl rfl rfl rfl fun Y Z => ?_); simp only [ze, simprocAttr, -Int.reduceNatCast', -Int.reduceToNat]; refine Z _ _ ?_; clear Z Y))
   all_goals iterate 5 refine D.one trivial ?_
   all_goals refine D.nil ?_
   all_goals simp only [ze, simprocAttr]
   all_goals simp [h0]
 rintro s σ ⟨rfl, e4⟩
 refine AW.ret ?_
 all_goals simp only [zs, simprocAttr, e4]
def spanB (p : Pat) (l : List Bd) : Bool := decide (0 < l.length) && withinB l p.within
theorem rWithin_spec (p : Pat) (l : List Bd) (hl : l.length < 4611686018427387904) (ht : ∀ b ∈ l, inI64 b.ev.time) (hw : inI64 p.within) : PCalls Tryz.prog 19 [.agg (encPat p), .agg [.sl (l.map encBd)]] (fun v => v = .c (.bool (spanB p l))) := by
 have q1 : ((l.length : Int) > 0) = (0 < l.length) := by rw [eq_iff_iff]; omega
 refine PCalls.intro Tryz.call19 Tryz.func19 rfl Tryz.ntmps19 Tryz.results19 (by simp) ?_
 refine AW.sr @encPat.eq_1 ?_
 refine AW.seq_j (fun s' σ' => σ' = Hp.empty ∧ s'.t 4 = .c (.bool (spanB p l))) ?_ ?_
 ·skip
  refine AW.reg0 ?_
  have q1q := J2 q1 @List.length_map.{0,0}
  iterate 3 refine S.one q1q ?_
  (refine S.sp q1q fun b a8 => ?_; cases b <;> (try exact nope a8))
  all_goals iterate 4 refine S.one q1q ?_
  all_goals have q2q := J2 q1 @List.length_map.{0,0}
  all_goals (first | (refine S.y rfl rfl rfl rfl fun Y Z => ?_; simp only [zz, simprocAttr, -Int.reduceNatCast', -Int.reduceToNat, q2q]; refine PCalls.eqto (rwithin_spec l p.within hl ht hw) ?_ <;> (refine Z _ _ ?_; clear Z Y)) | ((first | refine S.x rfl rfl rfl rfl fun Y Z => ?_ | refine S.u rfl rfl rfl rfl fun Y Z => ?_); simp only [ze, simprocAttr, -Int.reduceNatCast', -Int.reduceToNat]; refine Z _ _ ?_; clear Z Y))
  all_goals iterate 2 refine S.one q2q ?_
  all_goals refine S.nil ?_
  all_goals simp only [ze, simprocAttr, q2q]
  all_goals simp_all [spanB]
 rintro s σ ⟨rfl, e4⟩
 refine AW.ret ?_
 all_goals simp only [zs, simprocAttr, e4]
 all_goals ((try and_intros) <;> first | rfl | assumption | (rfl))
def leafFits (n : Nd) : List Bd → Bool
  | [b] => eqS b.var n.var && termB n b.ev
  | _ => false
def kidsFit (two : Bool) (p : List Bd) : Option (List Bd) → Nat → List ((List Bd → Bool) × List ByteArray) → Option Nat
  | _, s, [] => some s
  | prev, s, (f, vs) :: r => if f (ofB p vs) = false then none else if two && prev.any (fun x => decide (beginOf (ofB p vs) ≤ endOf x)) then none else kidsFit two p (some (ofB p vs)) (s + (ofB p vs).length) r
def allFit (p : List Bd) : Option Nat → Bool
  | some s => s == p.length && apartB p
  | none => false
def fitsF (n : Nd) (l : List (List Bd → Bool)) (p : List Bd) : Bool :=
  if n.kind = 1 then leafFits n p else if n.kind = 4 then l.any (fun f => f p) else allFit p (kidsFit (decide (n.kind = 2)) p none 0 (l.zip (n.kids.map Nd.vars)))
def Nd.fits (n : Nd) : List Bd → Bool := n.para fitsF
def fitOf (x : Nd) : (List Bd → Bool) × List ByteArray := (x.fits, x.vars)
theorem Nd.fits_eq (n : Nd) (p : List Bd) : n.fits p = if n.kind = 1 then leafFits n p else if n.kind = 4 then n.kids.any (fun x => x.fits p) else allFit p (kidsFit (decide (n.kind = 2)) p none 0 (n.kids.map fitOf)) := by
 have h : n.fits = fitsF n (n.kids.map Nd.fits) := Nd.para_eq _ n
 rw [h, fitsF]
 have hz : ∀ ks : List Nd, (ks.map Nd.fits).zip (ks.map Nd.vars) = ks.map fitOf := fun ks => by
  induction ks with
  | nil => rfl
  | cons x xs ih => rw [List.map_cons, List.map_cons, List.zip_cons_cons, ih]; rfl
 rw [hz, List.any_map]; rfl
def PrevV : Option (List Bd) → Option (List V) → Prop
  | none, c => c = some [.c (.slice none 0 0)]
  | some q, c => c = some [.sl (q.map encBd)]
theorem ofB_len (l : List Bd) (vs : List ByteArray) : (ofB l vs).length ≤ l.length := List.length_filter_le _ _
theorem ofB_ev {l : List Bd} (h : lenB l) (vs : List ByteArray) : lenB (ofB l vs) := fun b hb => h b (List.mem_filter.1 hb).1
theorem rfits_spec : ∀ n : Nd, n.small → n.ok → ∀ p : List Bd, lenB p → p.length < 1048576 → PCalls Tryz.prog 50 [.agg (encNd n), .agg [.sl (p.map encBd)]] (fun v => v = .c (.bool (n.fits p))) := Nd.ind fun n ih hn ho p hp hpl => by
  have hl := hn.len
  have hE := (encNd_eq n).symm
  have hfe := n.fits_eq p
  rw [encNd_eq]
  refine PCalls.intro Tryz.call50 Tryz.func50 rfl Tryz.ntmps50 Tryz.results50 (by simp) ?_
  refine AW.sr trivial ?_
  refine AW.seq_j (fun s' σ' => σ' = Hp.empty ∧ s'.t 2 = .lp 2 0 ∧ s'.l 2 = some [.c (.int .i64 n.kind), .c (.string n.var), .c (.string n.type), .sl (n.tests.map encC), .sl (n.kids.map encNd)] ∧ s'.t 3 = .lp 3 0 ∧ s'.l 3 = some [.sl (p.map encBd)] ∧ ¬ n.kind = 1 ∧ ¬ n.kind = 4) ?_ ?_
  · refine AW.sr trivial ?_
    refine AW.block ?_   -- 0
    refine AW.sr trivial ?_
    refine AW.cond (b := n.kind == 1) (by simp [ev]) (fun hk => ?_) (fun hk => ?_)
    · have hk : n.kind = 1 := by simpa using hk
      rw [if_pos hk] at hfe
      refine AW.seq_j (fun s' σ' => σ' = Hp.empty ∧ s'.t 4 = .c (.bool (leafFits n p))) ?_ ?_
      · by_cases h1 : p.length = 1
        · obtain ⟨b, rfl⟩ := List.length_eq_one_iff.1 h1
          have hbe : b.ev.attrs.length < 4611686018427387904 := hp b List.mem_cons_self
          have hterm := rTerm_spec n b.ev hbe ho.own.len
          rw [encNd_eq] at hterm
          have h01 : ((0 : Int) < ((1 : Nat) : Int)) = True := eq_true (by decide)
          refine AW.dv { sd := fun d => d == 2 || d == 3 } [(0,0),(1,1),(2,0),(3,0),(4,0),(5,0),(10,0),(6,1),(7,0),(8,0),(9,1),(11,1),(12,0),(13,0),(14,0),(16,0),(15,1),(17,1),(18,0),(19,0),(20,1),(21,2),(22,0),(23,0)] ?_
          have q1q := J12 h01 @Int.le_refl @Int.toNat_zero @Nat.zero_lt_one @Nat.lt_add_one @List.length_cons.{0} @List.length_nil.{0} @encBd.eq_1 @List.map_cons.{0,0} @List.map_nil.{0,0} @List.length_singleton.{0} @List.getD_cons_zero.{0}
          refine D.one q1q ?_
          refine D.one q1q ?_
          refine D.one q1q ?_
          (refine D.sp q1q fun b a17 => ?_; cases b <;> (try exact nope a17))
          all_goals iterate 3 refine D.one q1q ?_
          all_goals refine D.one q1q ?_
          all_goals iterate 2 refine D.one q1q ?_
          all_goals iterate 2 refine D.one q1q ?_
          all_goals (first | (refine D.sp q1q fun b a26 => ?_; cases b <;> (try exact nope a26)) | ((first | refine D.x rfl (fun h => by cases h) rfl rfl rfl rfl fun Y Z => ?_ | refine D.u rfl (fun h => by cases h) rfl rfl rfl rfl fun Y Z => ?_); simp only [ze, simprocAttr, -Int.reduceNatCast', -Int.reduceToNat]; refine Z _ _ ?_; clear Z Y))
          all_goals iterate 3 refine D.one q1q ?_
          all_goals iterate 2 refine D.one q1q ?_
          all_goals iterate 2 refine D.one q1q ?_
          all_goals refine D.one q1q ?_
          all_goals have q2q := J12 h01 @Int.le_refl @Int.toNat_zero @Nat.zero_lt_one @Nat.lt_add_one @List.length_cons.{0} @List.length_nil.{0} @encBd.eq_1 @List.map_cons.{0,0} @List.map_nil.{0,0} @List.length_singleton.{0} @List.getD_cons_zero.{0}
          all_goals (first | (refine D.y rfl trivial rfl rfl rfl rfl fun Y Z => ?_; simp only [zz, simprocAttr, -Int.reduceNatCast', -Int.reduceToNat, q2q]; refine PCalls.eqto hterm ?_ <;> (refine Z _ _ ?_; clear Z Y)) | ((first | refine D.x rfl (fun h => by cases h) rfl rfl rfl rfl fun Y Z => ?_ | refine D.u rfl (fun h => by cases h) rfl rfl rfl rfl fun Y Z => ?_); simp only [ze, simprocAttr, -Int.reduceNatCast', -Int.reduceToNat]; refine Z _ _ ?_; clear Z Y))
          all_goals iterate 2 refine D.one q2q ?_
          all_goals refine D.nil ?_
          all_goals simp only [ze, simprocAttr, q2q]
          all_goals simp_all [leafFits, eqS]
        · have hlf : leafFits n p = false := by
            match p, h1 with
            | [], _ => rfl
            | _ :: _ :: _, _ => rfl
          refine AW.dv { sd := fun d => d == 2 || d == 3 } [(0,0),(1,1),(2,0),(3,0),(4,0),(5,0),(10,0),(6,1),(7,0),(8,0),(9,1),(11,1),(12,0),(13,0),(14,0),(16,0),(15,1),(17,1),(18,0),(19,0),(20,1),(21,2),(22,0),(23,0)] ?_
          refine D.one @List.length_map.{0,0} ?_
          refine D.one @List.length_map.{0,0} ?_
          refine D.one @List.length_map.{0,0} ?_
          (refine D.sp @List.length_map.{0,0} fun b a17 => ?_; cases b <;> (try exact nope a17))
          all_goals iterate 3 refine D.one @List.length_map.{0,0} ?_
          all_goals refine D.one @List.length_map.{0,0} ?_
          all_goals iterate 2 refine D.one @List.length_map.{0,0} ?_
          all_goals iterate 2 refine D.one @List.length_map.{0,0} ?_
          all_goals (first | (refine D.sp @List.length_map.{0,0} fun b a26 => ?_; cases b <;> (try exact nope a26)) | ((first | refine D.x rfl (fun h => by cases h) rfl rfl rfl rfl fun Y Z => ?_ | refine D.u rfl (fun h => by cases h) rfl rfl rfl rfl fun Y Z => ?_); simp only [ze, simprocAttr, -Int.reduceNatCast', -Int.reduceToNat]; refine Z _ _ ?_; clear Z Y))
          all_goals iterate 3 refine D.one @List.length_map.{0,0} ?_
          all_goals iterate 2 refine D.one @List.length_map.{0,0} ?_
          all_goals iterate 2 refine D.one @List.length_map.{0,0} ?_
          all_goals refine D.one @List.length_map.{0,0} ?_
          all_goals (first | (refine D.y rfl trivial rfl rfl rfl rfl fun Y Z => ?_; simp only [zz, simprocAttr, -Int.reduceNatCast', -Int.reduceToNat, List.length_map]; refine PCalls.eqto hterm ?_ <;> (refine Z _ _ ?_; clear Z Y)) | ((first | refine D.x rfl (fun h => by cases h) rfl rfl rfl rfl fun Y Z => ?_ | refine D.u rfl (fun h => by cases h) rfl rfl rfl rfl fun Y Z => ?_); simp only [ze, simprocAttr, -Int.reduceNatCast', -Int.reduceToNat]; refine Z _ _ ?_; clear Z Y))
          all_goals iterate 2 refine D.one @List.length_map.{0,0} ?_
          all_goals refine D.nil ?_
          all_goals simp only [ze, simprocAttr, List.length_map]
          all_goals simp_all
      rintro s σ ⟨rfl, e4⟩
      refine AW.ret ?_
      all_goals simp only [zs, simprocAttr, e4]
      all_goals ((try and_intros) <;> first | rfl | assumption | (rw [hfe]))
    have hk : ¬ n.kind = 1 := by simpa using hk
    rw [if_neg hk] at hfe
    all_goals refine AW.sr trivial ?_
    refine AW.cond (b := n.kind == 4) (by simp [ev]) (fun h4 => ?_) (fun h4 => ?_)
    · have h4 : n.kind = 4 := by simpa using h4
      rw [if_pos h4] at hfe
      refine AW.seq_k fun K5 h5 => ?_
      refine AW.sr trivial ?_
      refine AW.block ?_   -- 1
      refine AW.loop (fun m s σ => σ = Hp.empty ∧ ∃ i : Nat, m + i = n.kids.length ∧ s.t 2 = .lp 2 0 ∧ s.l 2 = some [.c (.int .i64 n.kind), .c (.string n.var), .c (.string n.type), .sl (n.tests.map encC), .sl (n.kids.map encNd)] ∧ s.t 3 = .lp 3 0 ∧ s.l 3 = some [.sl (p.map encBd)] ∧ s.t 5 = .c (.int .i64 (i : Nat)) ∧ n.fits p = (n.kids.drop i).any (fun x => x.fits p)) n.kids.length ?_ ?_
      · refine ⟨rfl, 0, by simp, ?_⟩
        simp only [zs, simprocAttr]
        all_goals ((try and_intros) <;> first | rfl | assumption | (exact hfe))
      rintro m s σ ⟨rfl, i, hm, e2, l2, e3, l3, e5, hq⟩
      refine AW.seq_k fun K7 h7 => ?_
      all_goals refine AW.sr (J4 e2 l2 e5 @List.length_map.{0,0}) ?_
      refine AW.cond (b := decide (i < n.kids.length)) (by simp [ev]) (fun hi => ?_) (fun hi => ?_)
      · have hi := of_decide_eq_true hi
        obtain ⟨x, hx, hxm, hg⟩ := kid_get hi
        have hw := wadd1 (a := i) (by omega)
        rw [kid_drop hx, List.any_cons] at hq
        refine AW.skip ?_
        simp only [zs, simprocAttr]
        all_goals apply_assumption
        refine AW.seq_k fun K9 h9 => ?_
        refine AW.block ?_   -- 2
        refine AW.seq_k fun K10 h10 => ?_
        refine AW.dv { sd := fun d => d == 2 || d == 3 } [(0,0),(2,0),(1,1),(3,0),(4,1),(5,1),(6,2)] ?_
        have q3q := J9 e2 l2 e3 l3 e5 hi hg @nd @List.length_map.{0,0}
        iterate 2 refine D.one q3q ?_
        refine D.one q3q ?_
        refine D.one q3q ?_
        iterate 2 refine D.one q3q ?_
        (refine D.g rfl trivial rfl rfl fun Y Z => ?_; simp only [zz, simprocAttr, -Int.reduceNatCast', -Int.reduceToNat, e2, l2, e3, l3, e5, hi, hg, nd, List.length_map]; (first | refine PCalls.eqto (ih x hxm (hn.kid hxm) (ho.kid hxm) p hp hpl) ?_ | refine PCalls.eqto (ih x hxm (hn.kid hxm) (ho.kid hxm) q hqe hql) ?_) <;> (refine Z _ _ ?_; clear Z Y))
        all_goals (refine D.nil ?_; apply_assumption)
        refine AW.cond (b := x.fits p) (by simp [ev]) (fun hc => ?_) (fun hc => ?_)
        · rw [hc, Bool.true_or] at hq
          refine AW.sr trivial ?_
          refine AW.ret ?_
          simp only [zs, simprocAttr]
          all_goals ((try and_intros) <;> first | rfl | assumption | (rw [hq]))
        · rw [hc, Bool.false_or] at hq
          refine AW.skip ?_
          simp only [zs, simprocAttr]
          all_goals apply_assumption
          have q4q := J6 e5 hw e2 l2 e3 l3
          refine AW.reg0 (S.rn q4q ?_)
          simp only [ze, simprocAttr, q4q]
          refine ⟨m - 1, by omega, i + 1, by omega, ?_⟩
          all_goals ((try and_intros) <;> first | rfl | assumption | (exact hq))
      · have hi := of_decide_eq_false hi
        refine AW.exit ?_
        simp only [zs, simprocAttr]
        all_goals apply_assumption
        rw [List.drop_of_length_le (by omega)] at hq
        refine AW.sr trivial ?_
        refine AW.ret ?_
        simp only [zs, simprocAttr]
        all_goals ((try and_intros) <;> first | rfl | assumption | (((rw [hq]) <;> rfl)))
    · have h4 : ¬ n.kind = 4 := by simpa using h4
      refine AW.skip ?_
      simp only [zs, simprocAttr]
      all_goals ((try and_intros) <;> first | rfl | assumption | (exact ⟨hk, h4⟩))
  rintro s σ ⟨rfl, e2, l2, e3, l3, hk, h4⟩
  rw [if_neg hk, if_neg h4] at hfe
  all_goals refine AW.sr trivial ?_
  all_goals refine AW.sr trivial ?_
  refine AW.seq_k fun K15 h15 => ?_
  all_goals refine AW.sr trivial ?_
  refine AW.block ?_   -- 3
  refine AW.loop (fun m s' σ => σ = Hp.empty ∧ ∃ (i sum : Nat) (prev : Option (List Bd)), m + i = n.kids.length ∧ sum ≤ i * 1048576 ∧ (i = 0 ↔ prev = none) ∧ (∀ x, prev = some x → x.length < 1048576) ∧ n.fits p = allFit p (kidsFit (decide (n.kind = 2)) p prev sum ((n.kids.drop i).map fitOf)) ∧ s'.t 2 = .lp 2 0 ∧ s'.l 2 = some [.c (.int .i64 n.kind), .c (.string n.var), .c (.string n.type), .sl (n.tests.map encC), .sl (n.kids.map encNd)] ∧ s'.t 3 = .lp 3 0 ∧ s'.l 3 = some [.sl (p.map encBd)] ∧ s'.t 6 = .c (.int .i64 (sum : Nat)) ∧ s'.t 7 = .lp 7 0 ∧ PrevV prev (s'.l 7) ∧ s'.t 8 = .c (.int .i64 (i : Nat))) n.kids.length ?_ ?_
  · refine ⟨rfl, 0, 0, none, by simp, by simp, by simp, (fun x h => by cases h), hfe, ?_⟩
    all_goals simp only [zs, simprocAttr, e2, l2, e3, l3]
    all_goals ((try and_intros) <;> first | rfl | assumption | (rfl))
  rintro m s σ ⟨rfl, i, sum, prev, hm, hsum, hpi, hpv, hq, e2, l2, e3, l3, e6, e7, l7, e8⟩
  refine AW.seq_k fun K17 h17 => ?_
  all_goals refine AW.sr (J4 e2 l2 e8 @List.length_map.{0,0}) ?_
  refine AW.cond (b := decide (i < n.kids.length)) (by simp [ev]) (fun hi => ?_) (fun hi => ?_)
  · have hi := of_decide_eq_true hi
    obtain ⟨x, hx, hxm, hg⟩ := kid_get hi
    have hw := wadd1 (a := i) (by omega)
    have hql : (ofB p x.vars).length < 1048576 := Nat.lt_of_le_of_lt (ofB_len _ _) hpl
    have hxv := x.vars_size
    have hxs : x.size ≤ 1048576 := hn.kid hxm
    rw [kid_drop hx, List.map_cons, fitOf, kidsFit] at hq
    refine AW.skip ?_
    simp only [zs, simprocAttr]
    all_goals apply_assumption
    refine AW.seq_k fun K19 h19 => ?_
    refine AW.block ?_   -- 4
    refine AW.seq_j (fun s' σ' => σ' = Hp.empty ∧ s'.t 2 = .lp 2 0 ∧ s'.l 2 = some [.c (.int .i64 n.kind), .c (.string n.var), .c (.string n.type), .sl (n.tests.map encC), .sl (n.kids.map encNd)] ∧ s'.t 3 = .lp 3 0 ∧ s'.l 3 = some [.sl (p.map encBd)] ∧ s'.t 6 = .c (.int .i64 (sum : Nat)) ∧ s'.t 7 = .lp 7 0 ∧ PrevV prev (s'.l 7) ∧ s'.t 8 = .c (.int .i64 (i : Nat)) ∧ s'.t 9 = .lp 9 0 ∧ s'.l 9 = some [.sl ((ofB p x.vars).map encBd)]) ?_ ?_
    · skip
      refine AW.dT { sd := fun d => d == 2 || d == 3 } (.st 1 0 (.st 3 0 (.st 0 1 (.st 2 1 (.st 4 0 (.st 5 1 (.fork 6 (.fork 7 (.st 8 2 (.st 9 2 .nil)) 8 (.st 7 2 (.st 9 2 .nil))) 8 (.st 6 2 (.st 7 2 (.st 9 2 .nil)))))))))) ?_
      all_goals have q5q := J12 @Bool.or_self @kill.eq_1 @kill.eq_2 e2 l2 e3 l3 e6 e7 e8 hi (J3 hg @nd @List.length_map.{0,0})
      all_goals iterate 6 refine T.onf q5q ?_
      all_goals (try refine T.fork ?_ ?_)
      all_goals have q6q := J12 @Bool.or_self @kill.eq_1 @kill.eq_2 e2 l2 e3 l3 e6 e7 e8 hi (J3 hg @nd @List.length_map.{0,0})
      all_goals first | (refine T.g rfl trivial rfl rfl fun Y Z => ?_; simp only [zz, simprocAttr, -Int.reduceNatCast', -Int.reduceToNat, q6q]; refine PCalls.eqto (rVars_spec x (hn.kid hxm)) ?_ <;> (refine Z _ _ ?_; clear Z Y)) | (refine T.g rfl trivial rfl rfl fun Y Z => ?_; simp only [zz, simprocAttr, -Int.reduceNatCast', -Int.reduceToNat, tt, q6q]; refine Z _ _ ?_; clear Z Y)
      all_goals (try refine T.fork ?_ ?_)
      all_goals have q7q := J12 @Bool.or_self @kill.eq_1 @kill.eq_2 e2 l2 e3 l3 e6 e7 e8 hi (J3 hg @nd @List.length_map.{0,0})
      all_goals first | (refine T.g rfl trivial rfl rfl fun Y Z => ?_; simp only [zz, simprocAttr, -Int.reduceNatCast', -Int.reduceToNat, q7q]; refine PCalls.eqto (rofB_spec p x.vars hpl (by omega)) ?_ <;> (refine Z _ _ ?_; clear Z Y)) | (refine T.g rfl trivial rfl rfl fun Y Z => ?_; simp only [zz, simprocAttr, -Int.reduceNatCast', -Int.reduceToNat, q7q]; refine PCalls.eqto (rVars_spec x (hn.kid hxm)) ?_ <;> (refine Z _ _ ?_; clear Z Y)) | (refine T.g rfl trivial rfl rfl fun Y Z => ?_; simp only [zz, simprocAttr, -Int.reduceNatCast', -Int.reduceToNat, tt, q7q]; refine Z _ _ ?_; clear Z Y)
      all_goals have q8q := J12 @Bool.or_self @kill.eq_1 @kill.eq_2 e2 l2 e3 l3 e6 e7 e8 hi (J3 hg @nd @List.length_map.{0,0})
      all_goals first | (refine T.g rfl trivial rfl rfl fun Y Z => ?_; simp only [zz, simprocAttr, -Int.reduceNatCast', -Int.reduceToNat, q8q]; refine PCalls.eqto (rofB_spec p x.vars hpl (by omega)) ?_ <;> (refine Z _ _ ?_; clear Z Y)) | (refine T.g rfl trivial rfl rfl fun Y Z => ?_; simp only [zz, simprocAttr, -Int.reduceNatCast', -Int.reduceToNat, tt, q8q]; refine Z _ _ ?_; clear Z Y)
      all_goals refine T.onf q8q ?_
      all_goals refine T.nil ?_
      all_goals simp only [ze, simprocAttr, q8q]
      all_goals exact l7
    rintro s σ ⟨rfl, e2, l2, e3, l3, e6, e7, l7, e8, e9, l9⟩
    have hqe : lenB (ofB p x.vars) := ofB_ev hp _
    generalize hqq : ofB p x.vars = q at *
    refine AW.seq_k fun K20 h20 => ?_
    refine AW.seq_k fun K21 h21 => ?_
    all_goals refine AW.dv { sd := fun d => d == 2 || d == 9 } [(0,0),(2,0),(1,1),(3,0),(4,1),(5,1),(6,2),(7,0)] ?_
    all_goals have q9q := J9 e2 l2 e8 e9 l9 hi hg @nd @List.length_map.{0,0}
    all_goals iterate 2 refine D.one q9q ?_
    all_goals refine D.one q9q ?_
    all_goals refine D.one q9q ?_
    all_goals iterate 2 refine D.one q9q ?_
    all_goals have q10q := J9 e2 l2 e8 e9 l9 hi hg @nd @List.length_map.{0,0}
    all_goals (refine D.g rfl trivial rfl rfl fun Y Z => ?_; simp only [zz, simprocAttr, -Int.reduceNatCast', -Int.reduceToNat, q10q]; (first | refine PCalls.eqto (ih x hxm (hn.kid hxm) (ho.kid hxm) p hp hpl) ?_ | refine PCalls.eqto (ih x hxm (hn.kid hxm) (ho.kid hxm) q hqe hql) ?_) <;> (refine Z _ _ ?_; clear Z Y))
    all_goals refine D.one q10q ?_
    all_goals (refine D.nil ?_; apply_assumption)
    refine AW.cond (b := !(x.fits q)) (by simp [ev]) (fun hc => ?_) (fun hc => ?_)
    · have hc : x.fits q = false := by simpa using hc
      refine AW.sr trivial ?_
      refine AW.ret ?_
      simp only [zs, simprocAttr]
      all_goals ((try and_intros) <;> first | rfl | assumption | (((rw [hq, if_pos hc]) <;> rfl)))
    have hc : x.fits q = true := by simpa using hc
    rw [if_neg (by rw [hc]; simp)] at hq
    refine AW.skip ?_
    all_goals simp only [zs, simprocAttr]
    all_goals apply_assumption
    refine AW.seq_k fun K23 h23 => ?_
    refine AW.seq_j (fun s' σ' => σ' = Hp.empty ∧ s'.t 2 = .lp 2 0 ∧ s'.l 2 = some [.c (.int .i64 n.kind), .c (.string n.var), .c (.string n.type), .sl (n.tests.map encC), .sl (n.kids.map encNd)] ∧ s'.t 3 = .lp 3 0 ∧ s'.l 3 = some [.sl (p.map encBd)] ∧ s'.t 6 = .c (.int .i64 (sum : Nat)) ∧ s'.t 7 = .lp 7 0 ∧ PrevV prev (s'.l 7) ∧ s'.t 8 = .c (.int .i64 (i : Nat)) ∧ s'.t 9 = .lp 9 0 ∧ s'.l 9 = some [.sl (q.map encBd)] ∧ s'.t 89 = .c (.bool (decide (n.kind = 2) && prev.any (fun x => decide (beginOf q ≤ endOf x))))) ?_ ?_
    · cases prev with
      | none =>
        have hi0 : i = 0 := hpi.2 rfl
        have l7 : s.l 7 = some [.c (.slice none 0 0)] := l7
        refine AW.dv { sd := fun d => d == 2 || d == 7 || d == 9 } [(0,0),(1,1),(2,0),(3,0),(4,0),(5,0),(6,0),(7,0),(8,1),(10,1),(9,2),(11,2),(12,0),(13,0)] ?_
        have q11q := J7 e2 l2 e7 l7 e8 e9 l9
        refine D.one q11q ?_
        refine D.one q11q ?_
        (refine D.sp q11q fun b a78 => ?_; cases b <;> (try exact nope a78))
        all_goals iterate 2 refine D.one q11q ?_
        all_goals (first | (refine D.sp q11q fun b a81 => ?_; cases b <;> (try exact nope a81)) | ((first | refine D.x rfl (fun h => by cases h) rfl rfl rfl rfl fun Y Z => ?_ | refine D.u rfl (fun h => by cases h) rfl rfl rfl rfl fun Y Z => ?_); simp only [ze, simprocAttr, -Int.reduceNatCast', -Int.reduceToNat]; refine Z _ _ ?_; clear Z Y))
        all_goals iterate 4 refine D.one q11q ?_
        all_goals (first | (refine D.y rfl trivial rfl rfl rfl rfl fun Y Z => ?_; simp only [zz, simprocAttr, -Int.reduceNatCast', -Int.reduceToNat, e2, l2, e7, l7, e8, e9, l9]; refine PCalls.eqto (rbegin_spec _ (by omega)) ?_ <;> (refine Z _ _ ?_; clear Z Y)) | ((first | refine D.x rfl (fun h => by cases h) rfl rfl rfl rfl fun Y Z => ?_ | refine D.u rfl (fun h => by cases h) rfl rfl rfl rfl fun Y Z => ?_); simp only [ze, simprocAttr, -Int.reduceNatCast', -Int.reduceToNat]; refine Z _ _ ?_; clear Z Y))
        all_goals have q12q := J7 e2 l2 e7 l7 e8 e9 l9
        all_goals (first | (refine D.y rfl trivial rfl rfl rfl rfl fun Y Z => ?_; simp only [zz, simprocAttr, -Int.reduceNatCast', -Int.reduceToNat, q12q]; refine PCalls.eqto (rend_spec _ (by omega)) ?_ <;> (refine Z _ _ ?_; clear Z Y)) | ((first | refine D.x rfl (fun h => by cases h) rfl rfl rfl rfl fun Y Z => ?_ | refine D.u rfl (fun h => by cases h) rfl rfl rfl rfl fun Y Z => ?_); simp only [ze, simprocAttr, -Int.reduceNatCast', -Int.reduceToNat]; refine Z _ _ ?_; clear Z Y))
        all_goals iterate 2 refine D.one q12q ?_
        all_goals refine D.nil ?_
        all_goals simp only [ze, simprocAttr, q12q]
        all_goals simp_all [PrevV]
      | some y =>
        have hi0 : ¬ i = 0 := fun h => by cases hpi.1 h
        have hyl : y.length < 1048576 := hpv y rfl
        have l7 : s.l 7 = some [.sl (y.map encBd)] := l7
        all_goals refine AW.dv { sd := fun d => d == 2 || d == 7 || d == 9 } [(0,0),(1,1),(2,0),(3,0),(4,0),(5,0),(6,0),(7,0),(8,1),(10,1),(9,2),(11,2),(12,0),(13,0)] ?_
        all_goals have q13q := J7 e2 l2 e7 l7 e8 e9 l9
        all_goals refine D.one q13q ?_
        all_goals refine D.one q13q ?_
        all_goals (refine D.sp q13q fun b a78 => ?_; cases b <;> (try exact nope a78))
        all_goals iterate 2 refine D.one q13q ?_
        all_goals (first | (refine D.sp q13q fun b a81 => ?_; cases b <;> (try exact nope a81)) | ((first | refine D.x rfl (fun h => by cases h) rfl rfl rfl rfl fun Y Z => ?_ | refine D.u rfl (fun h => by cases h) rfl rfl rfl rfl fun Y Z => ?_); simp only [ze, simprocAttr, -Int.reduceNatCast', -Int.reduceToNat]; refine Z _ _ ?_; clear Z Y))
        all_goals iterate 4 refine D.one q13q ?_
        all_goals (first | (refine D.y rfl trivial rfl rfl rfl rfl fun Y Z => ?_; simp only [zz, simprocAttr, -Int.reduceNatCast', -Int.reduceToNat, e2, l2, e7, l7, e8, e9, l9]; refine PCalls.eqto (rbegin_spec _ (by omega)) ?_ <;> (refine Z _ _ ?_; clear Z Y)) | ((first | refine D.x rfl (fun h => by cases h) rfl rfl rfl rfl fun Y Z => ?_ | refine D.u rfl (fun h => by cases h) rfl rfl rfl rfl fun Y Z => ?_); simp only [ze, simprocAttr, -Int.reduceNatCast', -Int.reduceToNat]; refine Z _ _ ?_; clear Z Y))
        all_goals have q14q := J7 e2 l2 e7 l7 e8 e9 l9
        all_goals (first | (refine D.y rfl trivial rfl rfl rfl rfl fun Y Z => ?_; simp only [zz, simprocAttr, -Int.reduceNatCast', -Int.reduceToNat, q14q]; refine PCalls.eqto (rend_spec _ (by omega)) ?_ <;> (refine Z _ _ ?_; clear Z Y)) | ((first | refine D.x rfl (fun h => by cases h) rfl rfl rfl rfl fun Y Z => ?_ | refine D.u rfl (fun h => by cases h) rfl rfl rfl rfl fun Y Z => ?_); simp only [ze, simprocAttr, -Int.reduceNatCast', -Int.reduceToNat]; refine Z _ _ ?_; clear Z Y))
        all_goals iterate 2 refine D.one q14q ?_
        all_goals refine D.nil ?_
        all_goals simp only [ze, simprocAttr, q14q]
        all_goals simp_all [PrevV]
    rintro s σ ⟨rfl, e2, l2, e3, l3, e6, e7, l7, e8, e9, l9, e89⟩
    refine AW.cond (b := decide (n.kind = 2) && prev.any (fun x => decide (beginOf q ≤ endOf x))) e89 (fun hc2 => ?_) (fun hc2 => ?_)
    · refine AW.sr trivial ?_
      refine AW.ret ?_
      simp only [zs, simprocAttr]
      all_goals ((try and_intros) <;> first | rfl | assumption | (((rw [hq, if_pos hc2]) <;> rfl)))
    rw [if_neg (by rw [hc2]; exact Bool.false_ne_true)] at hq
    refine AW.skip ?_
    all_goals simp only [zs, simprocAttr]
    all_goals apply_assumption
    have hsw := wadd (a := sum) (b := q.length) (by omega)
    obtain ⟨pv, l7⟩ : ∃ v, s.l 7 = some [v] := by cases prev <;> exact ⟨_, l7⟩
    all_goals refine AW.sr (J5 e6 e9 l9 hsw @List.length_map.{0,0}) ?_
    all_goals refine AW.reg0 (S.rn (J4 e7 l7 e9 l9) ?_)
    all_goals apply_assumption
    all_goals have q15q := J7 e8 hw e2 l2 e3 l3 e7
    all_goals refine AW.reg0 (S.rn q15q ?_)
    all_goals simp only [ze, simprocAttr, q15q]
    refine ⟨m - 1, by omega, i + 1, sum + q.length, some q, by omega, by omega, by simp, (fun x h => by cases h; exact hql), hq, ?_⟩
    all_goals ((try and_intros) <;> first | rfl | assumption | (rfl))
  · have hi := of_decide_eq_false hi
    have q9 : ((sum : Int) == (p.length : Int)) = (sum == p.length) := by rw [Bool.eq_iff_iff, beq_iff_eq, beq_iff_eq]; omega
    refine AW.exit ?_
    simp only [zs, simprocAttr]
    all_goals apply_assumption
    rw [List.drop_of_length_le (by omega), List.map_nil, kidsFit] at hq
    have hq : n.fits p = (sum == p.length && apartB p) := hq
    refine AW.seq_j (fun s' σ' => σ' = Hp.empty ∧ s'.t 4 = .c (.bool (n.fits p))) ?_ ?_
    · rw [hq]
      clear hq hfe
      cases hs : (sum == p.length) <;> rw [hs] at q9
      all_goals refine AW.reg0 ?_
      all_goals have q16q := J5 e3 l3 e6 q9 @List.length_map.{0,0}
      all_goals iterate 4 refine S.one q16q ?_
      all_goals (refine S.sp q16q fun b a100 => ?_; cases b <;> (try exact nope a100))
      all_goals iterate 2 refine S.one q16q ?_
      all_goals have q17q := J5 e3 l3 e6 q9 @List.length_map.{0,0}
      all_goals (first | (refine S.y rfl rfl rfl rfl fun Y Z => ?_; simp only [zz, simprocAttr, -Int.reduceNatCast', -Int.reduceToNat, q17q]; refine PCalls.eqto (rapart_spec p (by omega)) ?_ <;> (refine Z _ _ ?_; clear Z Y)) | ((first | refine S.x rfl rfl rfl rfl fun Y Z => ?_ | refine S.u rfl rfl rfl rfl fun Y Z => ?_); simp only [ze, simprocAttr, -Int.reduceNatCast', -Int.reduceToNat]; refine Z _ _ ?_; clear Z Y))
      all_goals iterate 2 refine S.one q17q ?_
      all_goals refine S.nil ?_
      all_goals simp only [ze, simprocAttr, q17q]
      all_goals simp_all
    rintro s σ ⟨rfl, e4⟩
    refine AW.ret ?_
    all_goals simp only [zs, simprocAttr, e4]
    all_goals ((try and_intros) <;> first | rfl | assumption | (rfl))
def Nd.Fits (n : Nd) (p : List Bd) : Bool := decide (n.shape = 0) && decide (n.binds = 0) && decide (partErr p = 0) && n.fits p
theorem rFits_spec (n : Nd) (p : List Bd) (hn : n.small) (ho : n.ok) (hp : okP p) (hpe : lenB p) (hpl : p.length < 1048576) : PCalls Tryz.prog 17 [.agg (encNd n), .agg [.sl (p.map encBd)]] (fun v => v = .c (.bool (n.Fits p))) := by
 refine PCalls.intro Tryz.call17 Tryz.func17 rfl Tryz.ntmps17 Tryz.results17 (by simp) ?_
 refine AW.sr @nd ?_
 refine AW.seq_j (fun s' σ' => σ' = Hp.empty ∧ s'.t 4 = .c (.bool (n.Fits p))) ?_ ?_
 ·skip
  refine AW.reg0 ?_
  refine S.one @nd ?_
  (refine S.g rfl rfl fun Y Z => ?_; simp only [zz, simprocAttr, -Int.reduceNatCast', -Int.reduceToNat, nd]; refine PCalls.eqto (rShape_spec n hn ho) ?_ <;> (refine Z _ _ ?_; clear Z Y))
  all_goals (refine S.sp @nd fun b a7 => ?_; cases b <;> (try exact nope a7))
  all_goals iterate 2 refine S.one @nd ?_
  all_goals (first | (refine S.y rfl rfl rfl rfl fun Y Z => ?_; simp only [zz, simprocAttr, -Int.reduceNatCast', -Int.reduceToNat, nd]; refine PCalls.eqto (rBinds_spec n hn) ?_ <;> (refine Z _ _ ?_; clear Z Y)) | ((first | refine S.x rfl rfl rfl rfl fun Y Z => ?_ | refine S.u rfl rfl rfl rfl fun Y Z => ?_); simp only [ze, simprocAttr, -Int.reduceNatCast', -Int.reduceToNat]; refine Z _ _ ?_; clear Z Y))
  all_goals (first | (refine S.sp @nd fun b a11 => ?_; cases b <;> (try exact nope a11)) | ((first | refine S.x rfl rfl rfl rfl fun Y Z => ?_ | refine S.u rfl rfl rfl rfl fun Y Z => ?_); simp only [ze, simprocAttr, -Int.reduceNatCast', -Int.reduceToNat]; refine Z _ _ ?_; clear Z Y))
  all_goals iterate 3 refine S.one @nd ?_
  all_goals (first | (refine S.y rfl rfl rfl rfl fun Y Z => ?_; simp only [zz, simprocAttr, -Int.reduceNatCast', -Int.reduceToNat, nd]; refine PCalls.eqto (rcheck_part p hp) ?_ <;> (refine Z _ _ ?_; clear Z Y)) | ((first | refine S.x rfl rfl rfl rfl fun Y Z => ?_ | refine S.u rfl rfl rfl rfl fun Y Z => ?_); simp only [ze, simprocAttr, -Int.reduceNatCast', -Int.reduceToNat]; refine Z _ _ ?_; clear Z Y))
  all_goals (first | (refine S.sp @nd fun b a16 => ?_; cases b <;> (try exact nope a16)) | ((first | refine S.x rfl rfl rfl rfl fun Y Z => ?_ | refine S.u rfl rfl rfl rfl fun Y Z => ?_); simp only [ze, simprocAttr, -Int.reduceNatCast', -Int.reduceToNat]; refine Z _ _ ?_; clear Z Y))
  all_goals iterate 4 refine S.one @nd ?_
  all_goals (first | (refine S.y rfl rfl rfl rfl fun Y Z => ?_; simp only [zz, simprocAttr, -Int.reduceNatCast', -Int.reduceToNat, nd]; refine PCalls.eqto (rfits_spec n hn ho p hpe hpl) ?_ <;> (refine Z _ _ ?_; clear Z Y)) | ((first | refine S.x rfl rfl rfl rfl fun Y Z => ?_ | refine S.u rfl rfl rfl rfl fun Y Z => ?_); simp only [ze, simprocAttr, -Int.reduceNatCast', -Int.reduceToNat]; refine Z _ _ ?_; clear Z Y))
  all_goals iterate 2 refine S.one @nd ?_
  all_goals refine S.nil ?_
  all_goals simp only [ze, simprocAttr, nd]
  all_goals simp_all [Nd.Fits]
 rintro s σ ⟨rfl, e4⟩
 refine AW.ret ?_
 all_goals simp only [zs, simprocAttr, e4]
 all_goals ((try and_intros) <;> first | rfl | assumption | (rfl))
def isB (p : Pat) (l : List Bd) : Bool := decide (patErr p = 0) && p.node.Fits l && spanB p l && p.conds.all (condB l)
theorem rIs_spec (p : Pat) (l : List Bd) (hp : okPat p) (hl : okP l) (hpe : lenB l) (hpl : l.length < 1048576) (ht : ∀ b ∈ l, inI64 b.ev.time) (hw : inI64 p.within) : PCalls Tryz.prog 15 [.agg (encPat p), .agg [.sl (l.map encBd)]] (fun v => v = .c (.bool (isB p l))) := by
 have hE := (encNd_eq p.node).symm
 have hwith := rWithin_spec p l (by omega) ht hw
 refine PCalls.intro Tryz.call15 Tryz.func15 rfl Tryz.ntmps15 Tryz.results15 (by simp) ?_
 refine AW.sr @encPat.eq_1 ?_
 refine AW.seq_j (fun s' σ' => σ' = Hp.empty ∧ s'.t 4 = .c (.bool (isB p l))) ?_ ?_
 ·skip
  refine AW.reg0 ?_
  refine S.one (J2 hE @nd) ?_
  (refine S.g rfl rfl fun Y Z => ?_; simp only [zz, simprocAttr, -Int.reduceNatCast', -Int.reduceToNat, hE, nd]; refine PCalls.eqto (rPattern_spec p hp) ?_ <;> (refine Z _ _ ?_; clear Z Y))
  all_goals (refine S.sp (J2 hE @nd) fun b a7 => ?_; cases b <;> (try exact nope a7))
  all_goals iterate 4 refine S.one (J2 hE @nd) ?_
  all_goals (first | (refine S.y rfl rfl rfl rfl fun Y Z => ?_; simp only [zz, simprocAttr, -Int.reduceNatCast', -Int.reduceToNat, hE, nd]; refine PCalls.eqto (rFits_spec p.node l hp.small hp.ok hl hpe hpl) ?_; refine S.bool fun b a12 => ?_; cases b <;> (try exact nope a12) <;> (refine Z _ _ ?_; clear Z Y)) | ((first | refine S.x rfl rfl rfl rfl fun Y Z => ?_ | refine S.u rfl rfl rfl rfl fun Y Z => ?_); simp only [ze, simprocAttr, -Int.reduceNatCast', -Int.reduceToNat]; refine Z _ _ ?_; clear Z Y))
  all_goals iterate 4 refine S.one (J2 hE @nd) ?_
  all_goals (first | (refine S.y rfl rfl rfl rfl fun Y Z => ?_; simp only [zz, simprocAttr, -Int.reduceNatCast', -Int.reduceToNat, hE, nd]; refine PCalls.eqto hwith ?_; refine S.bool fun b a17 => ?_; cases b <;> (try exact nope a17) <;> (refine Z _ _ ?_; clear Z Y)) | ((first | refine S.x rfl rfl rfl rfl fun Y Z => ?_ | refine S.u rfl rfl rfl rfl fun Y Z => ?_); simp only [ze, simprocAttr, -Int.reduceNatCast', -Int.reduceToNat]; refine Z _ _ ?_; clear Z Y))
  all_goals iterate 5 refine S.one (J2 hE @nd) ?_
  all_goals (first | (refine S.y rfl rfl rfl rfl fun Y Z => ?_; simp only [zz, simprocAttr, -Int.reduceNatCast', -Int.reduceToNat, hE, nd]; refine PCalls.eqto (rAll_spec p.conds l hpe (by omega) hp.len) ?_ <;> (refine Z _ _ ?_; clear Z Y)) | ((first | refine S.x rfl rfl rfl rfl fun Y Z => ?_ | refine S.u rfl rfl rfl rfl fun Y Z => ?_); simp only [ze, simprocAttr, -Int.reduceNatCast', -Int.reduceToNat]; refine Z _ _ ?_; clear Z Y))
  all_goals iterate 2 refine S.one (J2 hE @nd) ?_
  all_goals refine S.nil ?_
  all_goals simp only [ze, simprocAttr, hE, nd]
  all_goals simp_all [isB]
 rintro s σ ⟨rfl, e4⟩
 refine AW.ret ?_
 all_goals simp only [zs, simprocAttr, e4]
 all_goals ((try and_intros) <;> first | rfl | assumption | (rfl))
end Go.Abs.M
namespace Go.Abs.M
set_option maxHeartbeats 4000000
open Go Go.Abs Go.Proofs
variable [Mode]
structure Tri {α : Type} (c : α → α → Int) : Prop where
  flip : ∀ a b, c b a = - c a b
  trans : ∀ a b d, c a b ≤ 0 → c b d ≤ 0 → c a d ≤ 0
  small : ∀ a b, -1 ≤ c a b ∧ c a b ≤ 1
namespace Tri
variable {α β : Type} {c c' : α → α → Int}
theorem refl (h : Tri c) (a : α) : c a a = 0 := by have := h.flip a a; omega
theorem lt_le (h : Tri c) {a b d : α} (h1 : c a b < 0) (h2 : c b d ≤ 0) : c a d < 0 := by
 by_cases k : c a d < 0
 ·exact k
 ·have e := h.flip a d
  have := h.trans b d a h2 (by omega)
  have e2 := h.flip a b
  omega
theorem le_lt (h : Tri c) {a b d : α} (h1 : c a b ≤ 0) (h2 : c b d < 0) : c a d < 0 := by
 by_cases k : c a d < 0
 ·exact k
 ·have e := h.flip a d
  have := h.trans d a b (by omega) h1
  have e2 := h.flip b d
  omega
theorem lex (h : Tri c) (h' : Tri c') : Tri (fun a b => if c a b ≠ 0 then c a b else c' a b) := by
 refine ⟨fun a b => ?_, fun a b d h1 h2 => ?_, fun a b => ?_⟩
 ·have e := h.flip a b
  have e' := h'.flip a b
  split <;> split <;> omega
 ·
  have k1 : c a b ≤ 0 := by split at h1 <;> omega
  have k2 : c b d ≤ 0 := by split at h2 <;> omega
  have k3 := h.trans a b d k1 k2
  split
  ·exact k3
  ·rename_i e
   have e : c a d = 0 := by omega
   have z1 : c a b = 0 := by
    by_cases k : c a b = 0
    ·exact k
    ·have := h.lt_le (a := a) (b := b) (d := d) (by omega) k2; omega
   have z2 : c b d = 0 := by
    by_cases k : c b d = 0
    ·exact k
    ·have := h.le_lt (a := a) (b := b) (d := d) k1 (by omega); omega
   rw [if_neg (by simp [z1])] at h1
   rw [if_neg (by simp [z2])] at h2
   exact h'.trans a b d h1 h2
 ·have e := h.small a b
  have e' := h'.small a b
  split <;> omega
theorem on (h : Tri c) (f : β → α) : Tri (fun a b => c (f a) (f b)) := ⟨fun a b => h.flip _ _, fun a b d => h.trans _ _ _, fun a b => h.small _ _⟩
end Tri
theorem tri_I : Tri cmpI := by
 refine ⟨fun a b => ?_, fun a b d => ?_, fun a b => ?_⟩ <;> simp only [cmpI] <;> repeat' split <;> omega
theorem cmpS_cases (a b : ByteArray) : (cmpS a b = -1 ∧ a.toList < b.toList) ∨ (cmpS a b = 0 ∧ a.toList = b.toList) ∨ (cmpS a b = 1 ∧ b.toList < a.toList) := by
 unfold cmpS
 rw [bytesLess_eq']
 by_cases h : a.toList < b.toList
 ·simp [h]
 ·by_cases e : a.toList = b.toList
  ·simp [e, List.lt_irrefl]
  ·have : b.toList < a.toList := by
    rcases List.le_iff_lt_or_eq.1 (show b.toList ≤ a.toList from h) with h1 | h1
    ·exact h1
    ·exact absurd h1.symm e
   simp [h, e, this]
theorem tri_S : Tri cmpS := by
 refine ⟨fun a b => ?_, fun a b d h1 h2 => ?_, fun a b => ?_⟩
 ·rcases cmpS_cases a b with ⟨h1, h2⟩ | ⟨h1, h2⟩ | ⟨h1, h2⟩ <;> rcases cmpS_cases b a with ⟨k1, k2⟩ | ⟨k1, k2⟩ | ⟨k1, k2⟩ <;> rw [h1, k1] <;>
   first
    | omega
    | exact absurd k2 (List.lt_asymm h2)
    | exact absurd k2 (by rw [h2]; exact List.lt_irrefl _)
    | exact absurd h2 (by rw [k2]; exact List.lt_irrefl _)
 ·rcases cmpS_cases a d with ⟨k1, _⟩ | ⟨k1, _⟩ | ⟨_, k2⟩
  ·omega
  ·omega
  ·exfalso
   have e1 : ¬ b.toList < a.toList := fun hh => by
    rcases cmpS_cases a b with ⟨_, h⟩ | ⟨_, h⟩ | ⟨h, _⟩
    ·exact List.lt_asymm h hh
    ·rw [h] at hh; exact List.lt_irrefl _ hh
    ·omega
   have e2 : ¬ d.toList < b.toList := fun hh => by
    rcases cmpS_cases b d with ⟨_, h⟩ | ⟨_, h⟩ | ⟨h, _⟩
    ·exact List.lt_asymm h hh
    ·rw [h] at hh; exact List.lt_irrefl _ hh
    ·omega
   exact List.le_trans (show a.toList ≤ b.toList from e1) (show b.toList ≤ d.toList from e2) k2
 ·rcases cmpS_cases a b with ⟨h, _⟩ | ⟨h, _⟩ | ⟨h, _⟩ <;> omega
theorem orI2 (x y : Int) : orI [x, y] = if x ≠ 0 then x else y := by
 simp only [orI]
 split
 ·rfl
 ·split
  ·rfl
  ·omega
theorem tri_Id : Tri cmpId := by
 have : cmpId = fun a b : Int × Int => if cmpI a.1 b.1 ≠ 0 then cmpI a.1 b.1 else cmpI a.2 b.2 := by funext a b; exact orI2 _ _
 rw [this]
 exact (tri_I.on Prod.fst).lex (tri_I.on Prod.snd)
theorem tri_Bd : Tri cmpBd := by
 have : cmpBd = fun a b : Bd => if cmpS a.var b.var ≠ 0 then cmpS a.var b.var else cmpId (idOf a) (idOf b) := by funext a b; exact orI2 _ _
 rw [this]
 exact (tri_S.on Bd.var).lex (tri_Id.on idOf)
theorem tri_L : Tri cmpL := by
  have fl : ∀ a b, cmpL b a = - cmpL a b := by
    intro a
    induction a with
    | nil => intro b; cases b <;> rfl
    | cons x l ih =>
      intro b
      cases b with
      | nil => rfl
      | cons y r =>
        have e := tri_Bd.flip x y
        have := ih r
        simp only [cmpL]
        split <;> split <;> omega
  refine ⟨fl, ?_, ?_⟩
  · intro a
    induction a with
    | nil => intro b d _ _; cases d <;> simp [cmpL]
    | cons x l ih =>
      intro b d h1 h2
      cases b with
      | nil => simp [cmpL] at h1
      | cons y r =>
        cases d with
        | nil => simp [cmpL] at h2
        | cons z q =>
          simp only [cmpL] at h1 h2 ⊢
          have k1 : cmpBd x y ≤ 0 := by split at h1 <;> omega
          have k2 : cmpBd y z ≤ 0 := by split at h2 <;> omega
          have k3 := tri_Bd.trans x y z k1 k2
          split
          · exact k3
          · have z1 : cmpBd x y = 0 := by
              by_cases k : cmpBd x y = 0
              · exact k
              · have := tri_Bd.lt_le (a := x) (b := y) (d := z) (by omega) k2; omega
            have z2 : cmpBd y z = 0 := by
              by_cases k : cmpBd y z = 0
              · exact k
              · have := tri_Bd.le_lt (a := x) (b := y) (d := z) k1 (by omega); omega
            rw [if_neg (by simp [z1])] at h1
            rw [if_neg (by simp [z2])] at h2
            exact ih r q h1 h2
  · intro a
    induction a with
    | nil => intro b; cases b <;> simp [cmpL]
    | cons x l ih =>
      intro b
      cases b with
      | nil => simp [cmpL]
      | cons y r =>
        have e := tri_Bd.small x y
        have := ih r
        simp only [cmpL]
        split <;> omega
def SrtL (rows : List (List Bd)) : Prop := rows.Pairwise (fun a b => cmpL a b < 0)
structure AtL (rows : List (List Bd)) (x : List Bd) (i : Nat) : Prop where
  lt : ∀ j y, rows[j]? = some y → j < i → cmpL y x < 0
  ge : ∀ j y, rows[j]? = some y → i ≤ j → 0 ≤ cmpL y x
def hasL (rows : List (List Bd)) (x : List Bd) : Bool := rows.any (fun y => cmpL y x == 0)
def insL' (rows : List (List Bd)) (x : List Bd) : List (List Bd) := rows.takeWhile (fun y => decide (cmpL y x < 0)) ++ x :: rows.dropWhile (fun y => decide (cmpL y x < 0))
theorem SrtL.get {rows : List (List Bd)} (h : SrtL rows) {i j : Nat} {x y : List Bd} (hx : rows[i]? = some x) (hy : rows[j]? = some y) (hij : i < j) : cmpL x y < 0 := by
 obtain ⟨hi, rfl⟩ := List.getElem?_eq_some_iff.1 hx
 obtain ⟨hj, rfl⟩ := List.getElem?_eq_some_iff.1 hy
 exact List.pairwise_iff_getElem.1 h i j hi hj hij
theorem takeWhile_at {α : Type} {p : α → Bool} : ∀ {l : List α} {i : Nat}, i ≤ l.length → (∀ j y, l[j]? = some y → j < i → p y = true) → (∀ j y, l[j]? = some y → i ≤ j → p y = false) → l.takeWhile p = l.take i ∧ l.dropWhile p = l.drop i
  | [], i, _, _, _ => by simp
  | a :: l, 0, _, _, h2 => by
    have := h2 0 a rfl (Nat.le_refl _)
    simp [this]
  | a :: l, i + 1, hi, h1, h2 => by
    have ha := h1 0 a rfl (by omega)
    obtain ⟨e1, e2⟩ := takeWhile_at (p := p) (l := l) (i := i) (by simpa using hi) (fun j y hy hj => h1 (j + 1) y (by simpa using hy) (by omega)) (fun j y hy hj => h2 (j + 1) y (by simpa using hy) (by omega))
    simp [ha, e1, e2]
theorem AtL.ins {rows : List (List Bd)} {x : List Bd} {i : Nat} (h : AtL rows x i) (hi : i ≤ rows.length) : insL' rows x = rows.take i ++ x :: rows.drop i := by
 obtain ⟨e1, e2⟩ := takeWhile_at (p := fun y => decide (cmpL y x < 0)) hi (fun j y hy hj => by simpa using h.lt j y hy hj) (fun j y hy hj => by have := h.ge j y hy hj; simp; omega)
 rw [insL', e1, e2]
theorem AtL.has {rows : List (List Bd)} {x : List Bd} {i : Nat} (hs : SrtL rows) (h : AtL rows x i) : hasL rows x = true ↔ ∃ y, rows[i]? = some y ∧ cmpL y x = 0 := by
 constructor
 ·intro hh
  obtain ⟨y, hy, he⟩ := List.any_eq_true.1 hh
  have he : cmpL y x = 0 := by simpa using he
  obtain ⟨j, hj⟩ := List.getElem?_of_mem hy
  rcases Nat.lt_trichotomy j i with hji | hji | hji
  ·have := h.lt j y hj hji; omega
  ·subst hji; exact ⟨y, hj, he⟩
  ·exfalso
   have hjl := (List.getElem?_eq_some_iff.1 hj).1
   have hil : rows[i]? = some rows[i] := List.getElem?_eq_getElem (by omega)
   have k1 := hs.get hil hj hji
   have k2 := h.ge i _ hil (Nat.le_refl _)
   have k3 := tri_L.lt_le k1 (by omega : cmpL y x ≤ 0)
   omega
 ·rintro ⟨y, hy, he⟩
  exact List.any_eq_true.2 ⟨y, List.mem_of_getElem? hy, by simp [he]⟩
theorem SrtL.ins {rows : List (List Bd)} {x : List Bd} {i : Nat} (hs : SrtL rows) (h : AtL rows x i) (hn : hasL rows x = false) : SrtL (rows.take i ++ x :: rows.drop i) := by
 have low : ∀ y ∈ rows.take i, cmpL y x < 0 := fun y hy => by
  obtain ⟨j, hj⟩ := List.getElem?_of_mem hy
  rw [List.getElem?_take] at hj
  split at hj
  ·rename_i hji; exact h.lt j y hj hji
  ·cases hj
 have high : ∀ y ∈ rows.drop i, cmpL x y < 0 := fun y hy => by
  obtain ⟨j, hj⟩ := List.getElem?_of_mem hy
  rw [List.getElem?_drop] at hj
  have k := h.ge _ y hj (by omega)
  have k2 : cmpL y x ≠ 0 := fun e => by
   have : hasL rows x = true := List.any_eq_true.2 ⟨y, List.mem_of_getElem? hj, by simp [e]⟩
   rw [hn] at this; cases this
  have := tri_L.flip y x
  omega
 have hs2 : SrtL (rows.take i ++ rows.drop i) := by rw [List.take_append_drop]; exact hs
 obtain ⟨s1, s2, s3⟩ := List.pairwise_append.1 hs2
 refine List.pairwise_append.2 ⟨s1, List.pairwise_cons.2 ⟨high, s2⟩, fun a ha b hb => ?_⟩
 rcases List.mem_cons.1 hb with rfl | hb
 ·exact low a ha
 ·exact s3 a ha b hb
theorem SrtL.at {rows : List (List Bd)} (hs : SrtL rows) (x : List Bd) : AtL rows x (rows.takeWhile (fun y => decide (cmpL y x < 0))).length := by
  induction rows with
  | nil => exact ⟨fun j y h => by simp at h, fun j y h => by simp at h⟩
  | cons a l ih =>
    obtain ⟨h1, h2⟩ := List.pairwise_cons.1 hs
    by_cases ha : cmpL a x < 0
    · have ih := ih h2
      rw [List.takeWhile_cons_of_pos (by simpa using ha), List.length_cons]
      refine ⟨fun j y hy hj => ?_, fun j y hy hj => ?_⟩
      · cases j with
        | zero => simp at hy; subst hy; exact ha
        | succ j => exact ih.lt j y (by simpa using hy) (by omega)
      · cases j with
        | zero => omega
        | succ j => exact ih.ge j y (by simpa using hy) (by omega)
    · rw [List.takeWhile_cons_of_neg (by simpa using ha)]
      refine ⟨fun j y hy hj => by simp at hj, fun j y hy hj => ?_⟩
      cases j with
      | zero => simp at hy; subst hy; omega
      | succ j =>
        have hm := h1 y (List.mem_of_getElem? (by simpa using hy))
        by_cases k : 0 ≤ cmpL y x
        · exact k
        · have := tri_L.lt_le hm (by omega : cmpL y x ≤ 0); omega
theorem insL'_at (rows : List (List Bd)) (x : List Bd) : insL' rows x = rows.take (rows.takeWhile (fun y => decide (cmpL y x < 0))).length ++ x :: rows.drop (rows.takeWhile (fun y => decide (cmpL y x < 0))).length := by
 have h := List.takeWhile_append_dropWhile (p := fun y => decide (cmpL y x < 0)) (l := rows)
 unfold insL'
 generalize rows.takeWhile (fun y => decide (cmpL y x < 0)) = a at h ⊢
 generalize rows.dropWhile (fun y => decide (cmpL y x < 0)) = b at h ⊢
 subst h
 simp
theorem insL'_mem (rows : List (List Bd)) (x y : List Bd) : y ∈ insL' rows x → y = x ∨ y ∈ rows := by
 rw [insL'_at]
 intro h
 rcases List.mem_append.1 h with h | h
 ·exact .inr (List.mem_of_mem_take h)
 ·rcases List.mem_cons.1 h with h | h
  ·exact .inl h
  ·exact .inr (List.mem_of_mem_drop h)
theorem hasL_self {rows : List (List Bd)} {x : List Bd} (h : x ∈ rows) : hasL rows x = true := List.any_eq_true.2 ⟨x, h, by simp [tri_L.refl x]⟩
end Go.Abs.M
namespace Go.Abs.M
set_option maxHeartbeats 4000000
open Go Go.Abs Go.Proofs
variable [Mode]
theorem cmpI_zero {a b : Int} (h : cmpI a b = 0) : a = b := by
 unfold cmpI at h
 split at h
 ·omega
 ·split at h <;> omega
theorem cmpS_zero {a b : ByteArray} (h : cmpS a b = 0) : a = b := by
 rcases cmpS_cases a b with ⟨k, _⟩ | ⟨_, k⟩ | ⟨k, _⟩
 ·omega
 ·exact eqS_iff.1 (by rw [eqS, beq_iff_eq]; exact k)
 ·omega
theorem cmpId_zero {a b : Int × Int} (h : cmpId a b = 0) : a = b := by
 unfold cmpId at h
 rw [orI2] at h
 split at h
 ·omega
 ·rename_i k
  exact Prod.ext (cmpI_zero (by omega)) (cmpI_zero h)
theorem cmpBd_zero {a b : Bd} (h : cmpBd a b = 0) : a.var = b.var ∧ idOf a = idOf b := by
 unfold cmpBd at h
 rw [orI2] at h
 split at h
 ·omega
 ·rename_i k
  exact ⟨cmpS_zero (by omega), cmpId_zero h⟩
def Apt (S : List Bd → Prop) : Prop := ∀ p q, S p → S q → cmpL p q = 0 → p = q
def Dist (evs : List Ev) : Prop := evs.Pairwise fun a b => ¬ (a.src = b.src ∧ a.seq = b.seq)
def From (evs : List Ev) (p : List Bd) : Prop := ∀ b ∈ p, b.ev ∈ evs
theorem Dist.eq {evs : List Ev} (h : Dist evs) {a b : Ev} (ha : a ∈ evs) (hb : b ∈ evs) (hs : a.src = b.src) (hq : a.seq = b.seq) : a = b := by
  induction evs with
  | nil => cases ha
  | cons e evs ih =>
    obtain ⟨h1, h2⟩ := List.pairwise_cons.1 h
    rcases List.mem_cons.1 ha with e1 | ha
    · rcases List.mem_cons.1 hb with e2 | hb
      · rw [e1, e2]
      · exact absurd ⟨by rw [← e1]; exact hs, by rw [← e1]; exact hq⟩ (h1 b hb)
    · rcases List.mem_cons.1 hb with e2 | hb
      · exact absurd ⟨by rw [← e2]; exact hs.symm, by rw [← e2]; exact hq.symm⟩ (h1 a ha)
      · exact ih h2 ha hb
theorem cmpL_cons_zero {x y : Bd} {l r : List Bd} (h : cmpL (x :: l) (y :: r) = 0) : cmpBd x y = 0 ∧ cmpL l r = 0 := by
 simp only [cmpL] at h
 split at h
 ·omega
 ·exact ⟨by omega, h⟩
theorem bd_ext {x y : Bd} (h1 : x.var = y.var) (h2 : x.ev = y.ev) : x = y := by
 cases x; cases y; simp only at h1 h2; rw [h1, h2]
theorem from_apt {evs : List Ev} (h : Dist evs) : Apt (From evs) := by
  intro p
  induction p with
  | nil =>
    intro q _ _ hc
    cases q with
    | nil => rfl
    | cons y r => simp [cmpL] at hc
  | cons x l ih =>
    intro q hp hq hc
    cases q with
    | nil => simp [cmpL] at hc
    | cons y r =>
      obtain ⟨k1, k2⟩ := cmpL_cons_zero hc
      obtain ⟨k3, k4⟩ := cmpBd_zero k1
      have hid : x.ev.src = y.ev.src ∧ x.ev.seq = y.ev.seq := by simpa [idOf] using k4
      have he := h.eq (hp x List.mem_cons_self) (hq y List.mem_cons_self) hid.1 hid.2
      rw [bd_ext k3 he, ih r (fun b hb => hp b (List.mem_cons_of_mem _ hb)) (fun b hb => hq b (List.mem_cons_of_mem _ hb)) k2]
def addP (rows : List (List Bd)) (x : List Bd) : List (List Bd) := if hasL rows x then rows else insL' rows x
def norm (l : List (List Bd)) : List (List Bd) := l.foldl addP []
theorem insL'_iff (rows : List (List Bd)) (x y : List Bd) : y ∈ insL' rows x ↔ y = x ∨ y ∈ rows := by
 refine ⟨insL'_mem rows x y, fun h => ?_⟩
 rw [insL'_at]
 rcases h with rfl | h
 ·exact List.mem_append_right _ List.mem_cons_self
 ·rw [← List.take_append_drop (rows.takeWhile (fun z => decide (cmpL z x < 0))).length rows] at h
  rcases List.mem_append.1 h with h | h
  ·exact List.mem_append_left _ h
  ·exact List.mem_append_right _ (List.mem_cons_of_mem _ h)
theorem addP_srt {rows : List (List Bd)} (x : List Bd) (hs : SrtL rows) : SrtL (addP rows x) := by
 unfold addP
 cases h : hasL rows x
 ·rw [if_neg (by simp), insL'_at]
  exact hs.ins (hs.at x) h
 ·rw [if_pos rfl]; exact hs
theorem addP_mem {S : List Bd → Prop} (hS : Apt S) {rows : List (List Bd)} {x : List Bd} (hr : ∀ y ∈ rows, S y) (hx : S x) (y : List Bd) : y ∈ addP rows x ↔ y = x ∨ y ∈ rows := by
 unfold addP
 cases h : hasL rows x
 ·rw [if_neg (by simp)]; exact insL'_iff _ _ _
 ·rw [if_pos rfl]
  refine ⟨.inr, fun h' => ?_⟩
  rcases h' with rfl | h'
  ·obtain ⟨z, hz, he⟩ := List.any_eq_true.1 h
   have he : cmpL z y = 0 := by simpa using he
   rw [← hS z y (hr z hz) hx he]; exact hz
  ·exact h'
theorem addsP_srt (l : List (List Bd)) : ∀ {rows : List (List Bd)}, SrtL rows → SrtL (l.foldl addP rows) := by
 induction l with
 | nil => intro rows h; exact h
 | cons x l ih => intro rows h; exact ih (addP_srt x h)
theorem addsP_mem {S : List Bd → Prop} (hS : Apt S) (l : List (List Bd)) : ∀ {rows : List (List Bd)}, (∀ y ∈ rows, S y) → (∀ y ∈ l, S y) → ∀ y, y ∈ l.foldl addP rows ↔ y ∈ rows ∨ y ∈ l := by
  induction l with
  | nil => intro rows _ _ y; simp
  | cons x l ih =>
    intro rows h1 h2 y
    have hx := h2 x List.mem_cons_self
    have hm := addP_mem hS h1 hx
    rw [List.foldl_cons, ih (fun z hz => ((hm z).1 hz).elim (fun e => e ▸ hx) (h1 z)) (fun z hz => h2 z (List.mem_cons_of_mem _ hz)) y, hm y, List.mem_cons]
    constructor
    · rintro ((h | h) | h)
      · exact .inr (.inl h)
      · exact .inl h
      · exact .inr (.inr h)
    · rintro (h | h | h)
      · exact .inl (.inr h)
      · exact .inl (.inl h)
      · exact .inr h
theorem srt_nil : SrtL [] := List.Pairwise.nil
theorem norm_srt (l : List (List Bd)) : SrtL (norm l) := addsP_srt l srt_nil
theorem norm_mem {S : List Bd → Prop} (hS : Apt S) {l : List (List Bd)} (h : ∀ y ∈ l, S y) (y : List Bd) : y ∈ norm l ↔ y ∈ l := by
 rw [norm, addsP_mem hS l (fun _ h => by cases h) h y]
 simp
theorem SrtL.uniq : ∀ {a b : List (List Bd)}, SrtL a → SrtL b → (∀ x, x ∈ a ↔ x ∈ b) → a = b
  | [], [], _, _, _ => rfl
  | [], y :: b, _, _, h => by have := (h y).2 List.mem_cons_self; cases this
  | x :: a, [], _, _, h => by have := (h x).1 List.mem_cons_self; cases this
  | x :: a, y :: b, ha, hb, h => by
    obtain ⟨a1, a2⟩ := List.pairwise_cons.1 ha
    obtain ⟨b1, b2⟩ := List.pairwise_cons.1 hb
    have hxy : x = y := by
      rcases List.mem_cons.1 ((h x).1 List.mem_cons_self) with e | e
      · exact e
      · rcases List.mem_cons.1 ((h y).2 List.mem_cons_self) with e' | e'
        · exact e'.symm
        · have k1 := b1 x e
          have k2 := a1 y e'
          have := tri_L.flip x y
          omega
    subst hxy
    have irr : ∀ z, cmpL x z < 0 → z ≠ x := fun z hz e => by rw [e, tri_L.refl] at hz; omega
    rw [SrtL.uniq a2 b2 fun z => ?_]
    constructor
    · intro hz
      rcases List.mem_cons.1 ((h z).1 (List.mem_cons_of_mem _ hz)) with e | e
      · exact absurd e (irr z (a1 z hz))
      · exact e
    · intro hz
      rcases List.mem_cons.1 ((h z).2 (List.mem_cons_of_mem _ hz)) with e | e
      · exact absurd e (irr z (b1 z hz))
      · exact e
theorem norm_ext {S : List Bd → Prop} (hS : Apt S) {l m : List (List Bd)} (hl : ∀ y ∈ l, S y) (hm : ∀ y ∈ m, S y) (h : ∀ y, y ∈ l ↔ y ∈ m) : norm l = norm m :=
 (norm_srt l).uniq (norm_srt m) fun y => by rw [norm_mem hS hl, norm_mem hS hm, h]
theorem norm_id {S : List Bd → Prop} (hS : Apt S) {l : List (List Bd)} (hl : ∀ y ∈ l, S y) (h : SrtL l) : norm l = l :=
 (norm_srt l).uniq h fun y => norm_mem hS hl y
theorem adds_norm {S : List Bd → Prop} (hS : Apt S) {a l : List (List Bd)} (ha : ∀ y ∈ a, S y) (hl : ∀ y ∈ l, S y) (h : SrtL a) : l.foldl addP a = norm (a ++ l) :=
 (addsP_srt l h).uniq (norm_srt _) fun y => by
  rw [addsP_mem hS l ha hl, norm_mem hS (fun z hz => (List.mem_append.1 hz).elim (ha z) (hl z)), List.mem_append]
theorem allEq_eq {α : Type} {f : α → α → Bool} (hf : ∀ x y, f x y = true → x = y) : ∀ {l m : List α}, allEq f l m = true → l = m
  | [], [], _ => rfl
  | [], _ :: _, h => by cases h
  | _ :: _, [], h => by cases h
  | a :: l, b :: m, h => by
    rw [allEq, Bool.and_eq_true] at h
    rw [hf a b h.1, allEq_eq hf h.2]
theorem eqAttr_eq (a b : Attr) (h : eqAttr a b = true) : a = b := by
 simp only [eqAttr, Bool.and_eq_true] at h
 obtain ⟨h1, h2, h3, h4⟩ := h
 cases a; rename_i an av; cases b; rename_i bn bv
 cases av; cases bv
 simp only [beq_iff_eq] at h2 h3
 have e1 := eqS_iff.1 h1
 have e2 := eqS_iff.1 h4
 simp only at e1 e2 h2 h3
 rw [e1, e2, h2, h3]
theorem eqEv_eq (a b : Ev) (h : eqEv a b = true) : a = b := by
 simp only [eqEv, Bool.and_eq_true] at h
 obtain ⟨⟨⟨⟨h1, h2⟩, h3⟩, h4⟩, h5⟩ := h
 cases a; cases b
 simp only [beq_iff_eq] at h1 h2 h3
 have e4 := eqS_iff.1 h4
 have e5 := allEq_eq eqAttr_eq h5
 simp only at e4 e5 h1 h2 h3
 rw [h1, h2, h3, e4, e5]
theorem eqBd_eq (a b : Bd) (h : eqBd a b = true) : a = b := by
 simp only [eqBd, Bool.and_eq_true] at h
 exact bd_ext (eqS_iff.1 h.1) (eqEv_eq _ _ h.2)
theorem samePart_iff {a b : List Bd} : samePart a b = true ↔ a = b :=
 ⟨allEq_eq eqBd_eq, fun h => by rw [h]; exact allEq_refl eqBd_refl b⟩
theorem getD_part {l : List (List Bd)} {i : Nat} (h : i < l.length) : l[i]? = some (l.getD i []) := by
 rw [List.getD_eq_getElem?_getD, List.getElem?_eq_getElem h]; rfl
theorem idxP_hi (l : List (List Bd)) (p : List Bd) : ∀ n, ∀ j, idxP l p n ≤ j → j < n → cmpL (l.getD j []) p > 0
  | 0, j, _, h => by omega
  | i + 1, j, h1, h2 => by
    rw [idxP] at h1
    split at h1
    · rename_i hc
      by_cases e : j = i
      · rw [e]; exact hc
      · exact idxP_hi l p i j h1 (by omega)
    · omega
theorem idxP_lo (l : List (List Bd)) (p : List Bd) : ∀ n, 0 < idxP l p n → cmpL (l.getD (idxP l p n - 1) []) p ≤ 0
  | 0, h => by rw [idxP] at h; omega
  | i + 1, h => by
    rw [idxP] at h ⊢
    split at h
    · rename_i hc
      rw [if_pos hc]; exact idxP_lo l p i h
    · rename_i hc
      rw [if_neg hc]
      rw [Nat.add_sub_cancel]; omega
theorem putP_add {S : List Bd → Prop} (hS : Apt S) {l : List (List Bd)} {p : List Bd} (hl : ∀ y ∈ l, S y) (hp : S p) (hs : SrtL l) : putP l p = addP l p := by
 have hle := idxP_le l p l.length
 have hhi := idxP_hi l p l.length
 have hlo := idxP_lo l p l.length
 unfold putP
 generalize idxP l p l.length = i at *
 by_cases h : 0 < i ∧ samePart (l.getD (i - 1) []) p = true
 ·rw [if_pos h, addP, if_pos]
  have hg := getD_part (l := l) (i := i - 1) (by omega)
  rw [samePart_iff.1 h.2] at hg
  exact hasL_self (List.mem_of_getElem? hg)
 ·rw [if_neg h]
  have hat : AtL l p i := by
   refine ⟨fun j y hy hj => ?_, fun j y hy hj => ?_⟩
   ·have hg := getD_part (l := l) (i := i - 1) (by omega)
    have k := hlo (by omega)
    generalize l.getD (i - 1) [] = z at hg k h
    have hlt : cmpL z p < 0 := by
     by_cases e : cmpL z p = 0
     ·exact absurd ⟨by omega, samePart_iff.2 (hS z p (hl z (List.mem_of_getElem? hg)) hp e)⟩ h
     ·omega
    by_cases e : j = i - 1
    ·rw [e, hg] at hy; injection hy with hy; rw [← hy]; exact hlt
    ·have := hs.get hy hg (by omega)
     exact tri_L.lt_le this (by omega)
   ·have hjl := (List.getElem?_eq_some_iff.1 hy).1
    have := hhi j hj hjl
    rw [getD_part hjl] at hy; injection hy with hy
    rw [← hy]; omega
  have hno : hasL l p = false := by
   cases hh : hasL l p
   ·rfl
   ·obtain ⟨y, hy, he⟩ := (hat.has hs).1 hh
    have hil := (List.getElem?_eq_some_iff.1 hy).1
    have := hhi i (Nat.le_refl _) hil
    rw [getD_part hil] at hy; injection hy with hy
    rw [← hy] at he; omega
  rw [addP, hno, if_neg (by simp), hat.ins hle]
theorem putsP_add {S : List Bd → Prop} (hS : Apt S) (l : List (List Bd)) : ∀ {a : List (List Bd)}, (∀ y ∈ a, S y) → (∀ y ∈ l, S y) → SrtL a → l.foldl putP a = l.foldl addP a := by
  induction l with
  | nil => intro a _ _ _; rfl
  | cons x l ih =>
    intro a ha hl hs
    have hx := hl x List.mem_cons_self
    rw [List.foldl_cons, List.foldl_cons, putP_add hS ha hx hs]
    exact ih (fun y hy => ((addP_mem hS ha hx y).1 hy).elim (fun e => e ▸ hx) (ha y)) (fun y hy => hl y (List.mem_cons_of_mem _ hy)) (addP_srt x hs)
def keepFrom : List Bd → List (List Bd) → List (List Bd)
  | _, [] => []
  | x, y :: l => if cmpL y x = 0 then keepFrom y l else y :: keepFrom y l
def compactL : List (List Bd) → List (List Bd)
  | [] => []
  | x :: l => x :: keepFrom x l
theorem keepFrom_mem {S : List Bd → Prop} (hS : Apt S) : ∀ (l : List (List Bd)) (x : List Bd), S x → (∀ y ∈ l, S y) → ∀ y, y ∈ x :: keepFrom x l ↔ y ∈ x :: l
  | [], x, _, _, y => by rw [keepFrom]
  | z :: l, x, hx, hl, y => by
    have hz := hl z List.mem_cons_self
    have ih := keepFrom_mem hS l z hz (fun w hw => hl w (List.mem_cons_of_mem _ hw)) y
    rw [keepFrom]
    split
    · rename_i h
      have e := hS z x hz hx h
      subst e
      rw [ih]; simp
    · rw [List.mem_cons, ih, ← List.mem_cons]
theorem keepFrom_srt : ∀ (l : List (List Bd)) (x : List Bd), (x :: l).Pairwise (fun a b => cmpL a b ≤ 0) → SrtL (x :: keepFrom x l)
  | [], x, _ => by rw [keepFrom]; exact List.pairwise_singleton _ _
  | z :: l, x, h => by
    obtain ⟨h1, h2⟩ := List.pairwise_cons.1 h
    have ih := keepFrom_srt l z h2
    obtain ⟨i1, i2⟩ := List.pairwise_cons.1 ih
    have hxz := h1 z List.mem_cons_self
    have hf := tri_L.flip x z
    rw [keepFrom]
    split
    · rename_i hc
      refine List.pairwise_cons.2 ⟨fun y hy => ?_, i2⟩
      exact tri_L.le_lt hxz (i1 y hy)
    · rename_i hc
      have hlt : cmpL x z < 0 := by omega
      refine List.pairwise_cons.2 ⟨fun y hy => ?_, ih⟩
      rcases List.mem_cons.1 hy with rfl | hy
      · exact hlt
      · exact tri_L.le_lt hxz (i1 y hy)
theorem compact_norm {S : List Bd → Prop} (hS : Apt S) {l l' : List (List Bd)} (hl : ∀ y ∈ l, S y) (hp : l'.Perm l) (hs : l'.Pairwise fun a b => cmpL a b ≤ 0) : compactL l' = norm l := by
 have hl' : ∀ y ∈ l', S y := fun y hy => hl y (hp.subset hy)
 have hm : ∀ y, y ∈ compactL l' ↔ y ∈ l' := fun y => by
  cases l' with
  | nil => rfl
  | cons x m => exact keepFrom_mem hS m x (hl' x List.mem_cons_self) (fun w hw => hl' w (List.mem_cons_of_mem _ hw)) y
 have hsr : SrtL (compactL l') := by
  cases l' with
  | nil => exact srt_nil
  | cons x m => exact keepFrom_srt m x hs
 exact hsr.uniq (norm_srt l) fun y => by rw [hm y, norm_mem hS hl, hp.mem_iff]
def leafL (n : Nd) (evs : List Ev) : List (List Bd) := (evs.filter (termB n)).map fun e => [⟨n.var, e⟩]
def late (two : Bool) (p q : List Bd) : Bool := two && decide (beginOf q ≤ endOf p)
def rowL (two : Bool) (b : List (List Bd)) (p : List Bd) : List (List Bd) := b.filterMap fun q => if late two p q then none else mg p q
def pairsL (two : Bool) (a b : List (List Bd)) : List (List Bd) := a.flatMap (rowL two b)
def capL (l : List (List Bd)) : Option (List (List Bd)) := if 4096 < l.length then none else some l
def stepL (kind : Int) (a l : List (List Bd)) : List (List Bd) := if kind = 4 then a ++ l else pairsL (decide (kind = 2)) a l
def denGo (kind : Int) : Option (List (List Bd)) → List (Option (List (List Bd))) → Option (List (List Bd))
  | acc, [] => some (acc.getD [])
  | _, none :: _ => none
  | none, some l :: r => (capL l).bind fun l => denGo kind (some l) r
  | some a, some l :: r => (capL (norm (stepL kind a l))).bind fun l => denGo kind (some l) r
def denF (evs : List Ev) (n : Nd) (l : List (Option (List (List Bd)))) : Option (List (List Bd)) := if n.kind = 1 then some (norm (leafL n evs)) else denGo n.kind none l
def Nd.den (evs : List Ev) (n : Nd) : Option (List (List Bd)) := n.para (denF evs)
theorem Nd.den_eq (evs : List Ev) (n : Nd) : n.den evs = if n.kind = 1 then some (norm (leafL n evs)) else denGo n.kind none (n.kids.map (Nd.den evs)) := Nd.para_eq _ n
theorem putS_mem (l : List ByteArray) (s v : ByteArray) : v ∈ putS l s ↔ v = s ∨ v ∈ l := by
 unfold putS
 split
 ·rename_i h
  have := hasS_iff.1 h
  exact ⟨.inr, fun h => h.elim (fun e => e ▸ this) id⟩
 ·rw [List.mem_append, List.mem_cons]
  have := List.takeWhile_append_dropWhile (p := (ltS · s)) (l := l)
  conv => rhs; rw [← this, List.mem_append]
  constructor
  ·rintro (h | h | h)
   ·exact .inr (.inl h)
   ·exact .inl h
   ·exact .inr (.inr h)
  ·rintro (h | h | h)
   ·exact .inr (.inl h)
   ·exact .inl h
   ·exact .inr (.inr h)
theorem putAll_mem (kv : List ByteArray) : ∀ (acc : List ByteArray) (v : ByteArray), v ∈ putAll acc kv ↔ v ∈ acc ∨ v ∈ kv := by
  induction kv with
  | nil => intro acc v; simp [putAll]
  | cons s kv ih =>
    intro acc v
    have := ih (putS acc s) v
    simp only [putAll, List.foldl_cons] at this ⊢
    rw [this, putS_mem, List.mem_cons]
    constructor
    · rintro ((h | h) | h)
      · exact .inr (.inl h)
      · exact .inl h
      · exact .inr (.inr h)
    · rintro (h | h | h)
      · exact .inl (.inr h)
      · exact .inl (.inl h)
      · exact .inr h
theorem foldAll_mem (l : List (List ByteArray)) : ∀ (acc : List ByteArray) (v : ByteArray), v ∈ l.foldl putAll acc ↔ v ∈ acc ∨ ∃ k ∈ l, v ∈ k := by
  induction l with
  | nil => intro acc v; simp
  | cons s l ih =>
    intro acc v
    rw [List.foldl_cons, ih, putAll_mem]
    constructor
    · rintro ((h | h) | ⟨k, hk, h⟩)
      · exact .inl h
      · exact .inr ⟨s, List.mem_cons_self, h⟩
      · exact .inr ⟨k, List.mem_cons_of_mem _ hk, h⟩
    · rintro (h | ⟨k, hk, h⟩)
      · exact .inl (.inl h)
      · rcases List.mem_cons.1 hk with rfl | hk
        · exact .inl (.inr h)
        · exact .inr ⟨k, hk, h⟩
theorem Nd.vars_mem (n : Nd) (v : ByteArray) : v ∈ n.vars ↔ (n.var.size ≠ 0 ∧ v = n.var) ∨ ∃ x ∈ n.kids, v ∈ x.vars := by
 rw [Nd.vars_eq, varsOf, foldAll_mem]
 refine or_congr ?_ ?_
 ·split
  ·rename_i h; simp [h]
  ·rename_i h; rw [putS_mem]; simp [h]
 ·simp only [List.mem_map]
  constructor
  ·rintro ⟨k, ⟨x, hx, rfl⟩, h⟩; exact ⟨x, hx, h⟩
  ·rintro ⟨x, hx, h⟩; exact ⟨_, ⟨x, hx, rfl⟩, h⟩
structure Nd.fine (n : Nd) : Prop where
  err : n.err = 0
  binds : n.binds = 0
theorem firstErr_zero : ∀ {l : List Int}, firstErr l = 0 → ∀ e ∈ l, e = 0
  | [], _, e, h => by cases h
  | x :: l, hz, e, h => by
    rw [firstErr] at hz
    split at hz
    · rename_i hx
      rcases List.mem_cons.1 h with rfl | h
      · exact hx
      · exact firstErr_zero hz e h
    · rename_i hx; exact absurd hz hx
theorem Nd.err_own {n : Nd} (h : n.err = 0) : ndOwn n = 0 := by
 rw [Nd.err_eq] at h
 split at h
 ·assumption
 ·exact h
theorem Nd.err_kid {n x : Nd} (h : n.err = 0) (hx : x ∈ n.kids) : x.err = 0 := by
 have h0 := Nd.err_own h
 rw [Nd.err_eq, if_pos h0] at h
 exact firstErr_zero h _ (List.mem_map_of_mem hx)
theorem bindsFrom_zero {k : Bool} : ∀ {l : List (Int × List ByteArray)} {seen : List (List ByteArray)}, bindsFrom k seen l = 0 →
    (∀ x ∈ l, x.1 = 0) ∧ (k = true → (∀ x ∈ l, ∀ o ∈ seen, meets x.2 o = false) ∧ l.Pairwise fun x y => meets y.2 x.2 = false)
  | [], seen, _ => ⟨fun x h => (by cases h), fun _ => ⟨fun x h => (by cases h), .nil⟩⟩
  | (e, kv) :: r, seen, h => by
    rw [bindsFrom] at h
    split at h
    · rename_i he
      split at h
      · cases h
      · rename_i hm
        obtain ⟨h1, h2⟩ := bindsFrom_zero h
        refine ⟨fun x hx => ?_, fun hk => ?_⟩
        · rcases List.mem_cons.1 hx with rfl | hx
          · exact he
          · exact h1 x hx
        · obtain ⟨h3, h4⟩ := h2 hk
          have hm : ∀ o ∈ seen, meets kv o = false := fun o ho => by
            cases hh : meets kv o
            · rfl
            · exact absurd (by rw [hk, Bool.true_and]; exact List.any_eq_true.2 ⟨o, ho, hh⟩) hm
          refine ⟨fun x hx o ho => ?_, List.pairwise_cons.2 ⟨fun y hy => h3 y hy kv (by simp), h4⟩⟩
          rcases List.mem_cons.1 hx with rfl | hx
          · exact hm o ho
          · exact h3 x hx o (List.mem_append_left _ ho)
    · rename_i he; exact absurd h he
theorem meets_no {kv ov : List ByteArray} (h : meets kv ov = false) : ∀ v ∈ kv, v ∉ ov := fun v hv ho => by
 have : meets kv ov = true := List.any_eq_true.2 ⟨v, ho, hasS_iff.2 hv⟩
 rw [h] at this; cases this
theorem Nd.binds_kid {n x : Nd} (h : n.binds = 0) (hx : x ∈ n.kids) : x.binds = 0 := by
 rw [Nd.binds_eq] at h
 exact (bindsFrom_zero h).1 _ (List.mem_map_of_mem hx)
def Apart (ks : List Nd) : Prop := ks.Pairwise fun x y => ∀ v ∈ y.vars, v ∉ x.vars
theorem Nd.binds_apart {n : Nd} (h : n.binds = 0) (hk : n.kind = 2 ∨ n.kind = 3) : Apart n.kids := by
 rw [Nd.binds_eq] at h
 have := ((bindsFrom_zero h).2 (by simp [twin, hk])).2
 rw [List.pairwise_map] at this
 exact this.imp fun h => meets_no h
theorem Nd.fine.kid {n x : Nd} (h : n.fine) (hx : x ∈ n.kids) : x.fine := ⟨Nd.err_kid h.err hx, Nd.binds_kid h.binds hx⟩
theorem Nd.fine.join {n : Nd} (h : n.fine) (hk : n.kind ≠ 1) : (n.kind = 2 ∨ n.kind = 3 ∨ n.kind = 4) ∧ 2 ≤ n.kids.length ∧ n.var.size = 0 := by
 have h0 := Nd.err_own h.err
 rw [ndOwn, if_neg hk] at h0
 split at h0
 ·rename_i hkk
  split at h0
  ·cases h0
  ·rename_i hb
   simp only [joinBad, Bool.or_eq_true, not_or, decide_eq_true_eq, Decidable.not_not] at hb
   exact ⟨hkk, by omega, by omega⟩
 ·cases h0
theorem name_size {s : ByteArray} (h : isName s = true) : s.size ≠ 0 := by
 simp only [isName, Bool.and_eq_true, bne_iff_ne] at h
 exact h.1.2
theorem filter_perm (f : Bd → Bool) : ∀ p : List Bd, p.Perm (p.filter f ++ p.filter fun b => !f b)
  | [] => .refl _
  | x :: p => by
    have ih := filter_perm f p
    cases h : f x
    · rw [List.filter_cons_of_neg (by simp [h]), List.filter_cons_of_pos (by simp [h])]
      exact (List.Perm.cons x ih).trans List.perm_middle.symm
    · rw [List.filter_cons_of_pos h, List.filter_cons_of_neg (by simp [h])]
      exact .cons x ih
theorem srt_filter (f : Bd → Bool) : ∀ {p : List Bd}, Srt p → Srt (p.filter f)
  | [], _ => trivial
  | x :: p, h => by
    have ih := srt_filter f h.2
    cases hx : f x
    · rw [List.filter_cons_of_neg (by simp [hx])]; exact ih
    · rw [List.filter_cons_of_pos hx]
      exact ⟨fun y hy => h.1 y (List.mem_filter.1 hy).1, ih⟩
theorem part_filter {p : List Bd} (hp : partErr p = 0) (f : Bd → Bool) : partErr (p.filter f) = 0 :=
 part_sub hp (srt_filter f (part_srt hp)) ⟨_, filter_perm f p⟩
theorem part_of {p : List Bd} (hp : partErr p = 0) (vs : List ByteArray) : partErr (ofB p vs) = 0 := part_filter hp _
theorem aft_uniq : ∀ {a b : List Bd}, a.Pairwise (fun x y => leS y.var x.var = false) → Srt b → a.Perm b → a = b
  | [], b, _, _, h => by rw [List.nil_perm.1 h]
  | x :: a, [], _, _, h => by have := h.length_eq; simp at this
  | x :: a, y :: b, ha, hb, h => by
    obtain ⟨a1, a2⟩ := List.pairwise_cons.1 ha
    have hy : y = x := by
      rcases List.mem_cons.1 (h.symm.subset List.mem_cons_self) with e | e
      · exact e
      · rcases List.mem_cons.1 (h.subset List.mem_cons_self) with e' | e'
        · exact e'.symm
        · have := hb.1 x e'
          rw [a1 y e] at this; cases this
    subst hy
    rw [aft_uniq a2 hb.2 (List.Perm.cons_inv h)]
theorem part_uniq {a b : List Bd} (ha : partErr a = 0) (hb : Srt b) (h : a.Perm b) : a = b :=
 aft_uniq (((part_iff a).1 ha).2.2.imp fun h => h.1) hb h
theorem ofB_perm {a b : List Bd} (h : a.Perm b) (vs : List ByteArray) : (ofB a vs).Perm (ofB b vs) := h.filter _
theorem ofB_append (a b : List Bd) (vs : List ByteArray) : ofB (a ++ b) vs = ofB a vs ++ ofB b vs := List.filter_append ..
theorem ofB_none {a : List Bd} {vs : List ByteArray} (h : ∀ b ∈ a, b.var ∉ vs) : ofB a vs = [] := by
 rw [ofB, List.filter_eq_nil_iff]
 intro b hb hh
 exact h b hb (hasS_iff.1 hh)
theorem ofB_all {a : List Bd} {vs : List ByteArray} (h : ∀ b ∈ a, b.var ∈ vs) : ofB a vs = a := by
 rw [ofB, List.filter_eq_self]
 intro b hb
 exact hasS_iff.2 (h b hb)
theorem ofB_mrg {p q m : List Bd} (hm : mg p q = some m) (vs : List ByteArray) : (ofB m vs).Perm (ofB p vs ++ ofB q vs) ∧ partErr m = 0 ∧ partErr p = 0 ∧ partErr q = 0 ∧ m.Perm (p ++ q) := by
 unfold mg at hm
 split at hm
 ·rename_i h
  injection hm with hm
  subst hm
  exact ⟨(ofB_append p q vs) ▸ ofB_perm (mrg_perm p q) vs, h.2.2, h.1, h.2.1, mrg_perm p q⟩
 ·cases hm
theorem ofB_right {p q m : List Bd} (hm : mg p q = some m) {vs : List ByteArray} (h : ∀ b ∈ p, b.var ∉ vs) (hq : ∀ b ∈ q, b.var ∈ vs) : ofB m vs = q := by
 obtain ⟨h1, h2, h3, h4, h5⟩ := ofB_mrg hm vs
 rw [ofB_none h, List.nil_append, ofB_all hq] at h1
 exact part_uniq (part_of h2 vs) (part_srt h4) h1
theorem minL_all (a : Int) (r : List Int) : ∀ x ∈ a :: r, minL a r ≤ x := by
  induction r generalizing a with
  | nil => intro x hx; simp at hx; subst hx; exact Int.le_refl _
  | cons b r ih =>
    intro x hx
    simp only [minL, List.foldl_cons] at ih ⊢
    have k := ih (if b < a then b else a)
    have k0 := k _ List.mem_cons_self
    rcases List.mem_cons.1 hx with rfl | hx
    · split at k0 <;> rename_i h
      · rw [if_pos h]; omega
      · rw [if_neg h]; omega
    · rcases List.mem_cons.1 hx with rfl | hx
      · split at k0 <;> rename_i h
        · rw [if_pos h]; omega
        · rw [if_neg h]; omega
      · exact k x (List.mem_cons_of_mem _ hx)
theorem maxL_all (a : Int) (r : List Int) : ∀ x ∈ a :: r, x ≤ maxL a r := by
  induction r generalizing a with
  | nil => intro x hx; simp at hx; subst hx; exact Int.le_refl _
  | cons b r ih =>
    intro x hx
    simp only [maxL, List.foldl_cons] at ih ⊢
    have k := ih (if a < b then b else a)
    have k0 := k _ List.mem_cons_self
    rcases List.mem_cons.1 hx with rfl | hx
    · split at k0 <;> rename_i h
      · rw [if_pos h]; omega
      · rw [if_neg h]; omega
    · rcases List.mem_cons.1 hx with rfl | hx
      · split at k0 <;> rename_i h
        · rw [if_pos h]; omega
        · rw [if_neg h]; omega
      · exact k x (List.mem_cons_of_mem _ hx)
theorem begin_le {l : List Bd} {b : Bd} (h : b ∈ l) : beginOf l ≤ b.ev.time := by
 cases l with
 | nil => cases h
 | cons x l => exact minL_all _ _ _ (List.mem_map_of_mem (f := fun b : Bd => b.ev.time) h)
theorem le_end {l : List Bd} {b : Bd} (h : b ∈ l) : b.ev.time ≤ endOf l := by
 cases l with
 | nil => cases h
 | cons x l => exact maxL_all _ _ _ (List.mem_map_of_mem (f := fun b : Bd => b.ev.time) h)
theorem end_at {l : List Bd} (h : l ≠ []) : ∃ b ∈ l, endOf l = b.ev.time := by
  cases l with
  | nil => exact absurd rfl h
  | cons x l =>
    have := maxL_mem x.ev.time (l.map (·.ev.time))
    rw [show x.ev.time :: l.map (·.ev.time) = (x :: l).map (·.ev.time) from rfl] at this
    obtain ⟨b, hb, e⟩ := List.mem_map.1 this
    exact ⟨b, hb, e.symm⟩
theorem end_eq {l m : List Bd} (hl : l ≠ []) (h1 : ∀ b ∈ l, b ∈ m) (h2 : ∀ b ∈ m, b.ev.time ≤ endOf l) : endOf m = endOf l := by
 obtain ⟨b, hb, e⟩ := end_at hl
 have k1 := le_end (h1 b hb)
 obtain ⟨c, hc, e'⟩ := end_at (l := m) (fun e => by rw [e] at h1; have := h1 b hb; cases this)
 have k2 := h2 c hc
 omega
end Go.Abs.M
namespace Go.Abs.M
set_option maxHeartbeats 4000000
open Go Go.Abs Go.Proofs
instance lax : Mode := ⟨False⟩
def bytesOf (x : List UInt8) : ByteArray := ⟨x.toArray⟩
def sortN (names : List ByteArray) : List ByteArray := ((names.map fun s => s.data.toList).mergeSort fun x y => decide (x ≤ y)).map bytesOf
theorem sortN_len (names : List ByteArray) : (sortN names).length = names.length := by
 simp [sortN, List.length_mergeSort]
theorem VRs_strings {w : World} {cx : Cx} : ∀ l : List ByteArray, VRs w cx (l.map encS).flatten (l.map Value.string)
  | [] => .nil
  | s :: l => by
    have := VRs_strings (w := w) (cx := cx) l
    rw [List.map_cons, List.flatten_cons, List.map_cons]
    exact VRs.cons rfl (.c _) this
theorem list_spec {g : Nat} {names : List ByteArray} {σ : Hp} (hg : σ.obj g = some [.tup (entS names)]) (hn : names.Nodup) (hs : ∀ s ∈ names, s.size ≤ maxLen) (hl : names.length ≤ 1048576) :
  ACalls Tryz.prog 96 [.c (.map (some g))] σ (fun v σ' => σ' = σ ∧ v = .sl ((sortN names).map encS)) := by
 refine ⟨Tryz.call96, fun cx w xs hH ha => ?_⟩
 have hx : xs = [.map (some g)] := ha.consts (vs := [.map (some g)])
 subst hx
 obtain ⟨D, hown, hsz, hperm⟩ := ownsMap_of (P := Tryz.prog) (kt := 9) (et := 4) Tryz.underlying9 Tryz.underlying4 hn hs (by unfold maxLen; omega) (hH.obj g _ hg)
 refine (Tryz.set_list g names.length D _ w hown (by rw [hsz]; unfold maxLen; omega) (by rw [hsz]; omega)).mono fun e w' ⟨v, ss, he, hS, hrow, hnil, hb⟩ => ?_
 have hms : ss.mergeSort (fun x y => decide (x ≤ y)) = (names.map fun s => s.data.toList).mergeSort fun x y => decide (x ≤ y) := mergeSort_of_perm (hS.trans hperm)
 have hrl : (ss.mergeSort (fun x y => decide (x ≤ y))).map encStr = (sortN names).map Value.string := by
  rw [hms, sortN, List.map_map]; rfl
 rw [hrl] at hrow
 have hlen : ss.length = (sortN names).length := by rw [sortN_len, hS.length_eq, hperm.length_eq, List.length_map]
 have hext : ∀ cx' : Cx, cx.le cx' → (∀ g', cx'.I g' → cx.I g' ∨ (w.heap.size ≤ g' ∧ g' < w'.heap.size)) → Left cx σ w cx' σ w' := fun cx' hle hI =>
  ⟨hH.new hle hI hb.size (fun g' hg' => hb.block g' hg'), ⟨hb.os, hb.tape, ⟨hb.output, fun h => h.elim⟩, hb.size, fun g' hg' _ => hb.block g' hg', hle, fun g' hi => (hI g' hi).imp id (fun h => .inr h.1), fun g' ho => .inl (own_keep hH hle ho)⟩, fun k x hk => .inl ⟨x, hk⟩, fun g' x hx => .inl ⟨x, hx⟩⟩
 rcases hrow.2 with ⟨hv, h0⟩ | ⟨b, cap, cur, hv, hbase, hbl, hcap, hmx, hcs, htk⟩
 ·have h1 : sortN names = [] := List.eq_nil_of_length_eq_zero (by omega)
  refine ⟨_, v, cx, σ, he, ?_, hext cx (.refl _) (fun _ h => .inl h), rfl, rfl⟩
  rw [h1, hv]; exact .nils
 ·refine ⟨_, v, cx.addI b, σ, he, ?_, hext (cx.addI b) (cx.le_addI b) (fun g' h => h.imp id (fun e => by subst e; exact ⟨hbase, lt_of_block hbl⟩)), rfl, rfl⟩
  have hl2 : ((sortN names).map encS).length = ss.length := by rw [List.length_map, hlen]
  rw [hv, ← hl2]
  refine VR.sl_of_row (sz := 1) (xs := (sortN names).map Value.string) (.inr rfl) (by rw [hl2]; exact hcap) (fun e he => by
   obtain ⟨s, _, rfl⟩ := List.mem_map.1 he; rfl) (VRs_strings _) (fun j x hj => ?_)
  have : (cur.toList.take (ss.length * 1))[j]? = some x := by rw [htk]; exact hj
  rw [List.getElem?_take] at this
  split at this
  ·simp only [World.cell?, hbl, Nat.zero_add, Option.isSome_none, Bool.false_eq_true, if_false]
   rw [← Array.getElem?_toList]; exact this
  ·cases this
end Go.Abs.M
namespace Go.Abs.M
set_option maxHeartbeats 4000000
open Go Go.Abs Go.Proofs
variable [Mode]
set_option maxRecDepth 20000
def ptrV (g : Nat) : V := .c (.pointer (some ⟨g, 0, none⟩))
def noEv : Ev := ⟨0, 0, 0, ⟨#[]⟩, []⟩
end Go.Abs.M
namespace Go.Abs.M
set_option maxHeartbeats 4000000
open Go Go.Abs Go.Proofs
set_option maxRecDepth 20000
def addsF (n : Nd) (fs : List (List ByteArray → List ByteArray)) (acc : List ByteArray) : List ByteArray := fs.foldl (fun a f => f a) (if n.var.size = 0 then acc else addN acc n.var)
def Nd.adds (n : Nd) : List ByteArray → List ByteArray := n.para addsF
theorem Nd.adds_eq (n : Nd) (acc : List ByteArray) : n.adds acc = (n.kids.map Nd.adds).foldl (fun a f => f a) (if n.var.size = 0 then acc else addN acc n.var) := by
 have h : n.adds = addsF n (n.kids.map Nd.adds) := Nd.para_eq _ n
 rw [h]; rfl
def hpN (σ0 : Hp) (gm : Nat) (names : List ByteArray) : Hp := σ0.setObj gm (some [.tup (entS names)])
theorem ok115 : okT Tryz.prog 115 = true := by kernel_rfl
theorem sz115 : szT Tryz.prog 115 = 1 := by kernel_rfl
theorem ag115 : aggT Tryz.prog 115 = false := by kernel_rfl
theorem isMap_c (x : Value) : isMap [.c x] = false := rfl
theorem isMap_fn (f : Fn) (a b : List V) : isMap [.fn f a b] = false := rfl
theorem adds_spec {σ0 : Hp} {g3 g4 gm : Nat} (hQ3 : σ0.obj g3 = some [.c (.map (some gm))]) (hQ4 : σ0.obj g4 = some [.fn (.func 95) [] [ptrV g3, ptrV g4]]) (n3 : ¬ g3 = gm) (n4 : ¬ g4 = gm) : ∀ n : Nd, n.small → ∀ names : List ByteArray, ACalls Tryz.prog 95 [.agg (encNd n), ptrV g3, ptrV g4] (hpN σ0 gm names) (fun v σ' => v = .tup [] ∧ σ' = hpN σ0 gm (n.adds names)) := Nd.ind fun n ih hn names => by
  have hl := hn.len
  have hE := (encNd_eq n).symm
  have hae := n.adds_eq names
  rw [encNd_eq]
  refine ACalls.intro Tryz.call95 Tryz.func95 rfl Tryz.ntmps95 Tryz.results95 (by simp) ?_
  refine AW.seq_k fun K1 h1 => ?_
  all_goals refine AW.reg0 ?_
  all_goals (refine S.g rfl rfl fun K' k' => ?_; simp only [zz, reduceIte, Nat.reduceEqDiff, Nat.reduceLT, Nat.reduceLeDiff, Nat.reduceAdd, reduceCtorEq, Nat.reduceMul, ok25, sz25, ag25, ptrV]; refine k' _ _ ?_; clear k' K')
  all_goals refine S.nil ?_
  all_goals simp only [ze, reduceIte, Nat.reduceEqDiff, Nat.reduceLT, Nat.reduceLeDiff, Nat.reduceAdd, reduceCtorEq, Nat.reduceMul, ptrV]
  all_goals apply_assumption
  refine AW.seq_j (fun s' σ' => σ' = hpN σ0 gm (if n.var.size = 0 then names else addN names n.var) ∧ s'.t 1 = ptrV g3 ∧ s'.t 2 = ptrV g4 ∧ s'.t 3 = .lp 3 0 ∧ s'.l 3 = some [.c (.int .i64 n.kind), .c (.string n.var), .c (.string n.type), .sl (n.tests.map encC), .sl (n.kids.map encNd)]) ?_ ?_
  · refine AW.seq_k fun K2 h2 => ?_
    all_goals refine AW.reg0 ?_
    all_goals iterate 3 (refine S.g rfl rfl fun K' k' => ?_; simp only [zz, reduceIte, Nat.reduceEqDiff, Nat.reduceLT, Nat.reduceLeDiff, Nat.reduceAdd, reduceCtorEq, Nat.reduceMul, of25_1, ok9, sz9, ag9]; refine k' _ _ ?_; clear k' K')
    all_goals refine S.nil ?_
    all_goals simp only [ze, reduceIte, Nat.reduceEqDiff, Nat.reduceLT, Nat.reduceLeDiff, Nat.reduceAdd, reduceCtorEq, Nat.reduceMul]
    all_goals apply_assumption
    refine AW.cond (b := !decide (n.var.size = 0)) (by simp [ev]) (fun hc => ?_) (fun hc => ?_)
    · have hc : ¬ n.var.size = 0 := by simpa using hc
      rw [if_neg hc]
      unfold hpN ptrV
      all_goals refine AW.reg0 ?_
      all_goals iterate 3 (refine S.g rfl rfl fun K' k' => ?_; simp only [zz, reduceIte, Nat.reduceEqDiff, Nat.reduceLT, Nat.reduceLeDiff, Nat.reduceAdd, reduceCtorEq, Nat.reduceMul, ok87, sz87, ag87, of25_1, ok9, sz9, ag9, hQ3, n3, isMap_c]; refine k' _ _ ?_; clear k' K')
      all_goals (refine S.g rfl rfl fun K' k' => ?_; simp only [zn, reduceIte, Nat.reduceEqDiff, Nat.reduceLT, Nat.reduceLeDiff, Nat.reduceAdd, reduceCtorEq, Nat.reduceMul, hQ3, n3, isMap_c]; refine ⟨_, _, _, Tryz.underlying87, KeyT.str Tryz.underlying9, rfl, entS_ok _, ?_⟩; (try simp only [zt4, ofC, Option.some.injEq, exists_eq_left', zz, reduceIte, Nat.reduceEqDiff, Nat.reduceLT, Nat.reduceLeDiff, Nat.reduceAdd, reduceCtorEq, Nat.reduceMul, hQ3, n3, isMap_c]); refine (congrArg (K' _) (congrArg (fun x => σ0.setObj gm (some [V.tup x])) (entS_upd n.var names))).mpr ?_ <;> (refine k' _ _ ?_; clear k' K'))
      all_goals refine S.nil ?_
      all_goals simp only [ze, reduceIte, Nat.reduceEqDiff, Nat.reduceLT, Nat.reduceLeDiff, Nat.reduceAdd, reduceCtorEq, Nat.reduceMul, hQ3, n3, isMap_c]
      all_goals ((try and_intros) <;> first | rfl | assumption | (rfl))
    · have hc : n.var.size = 0 := by simpa using hc
      rw [if_pos hc]
      refine AW.skip ?_
      all_goals simp only [zs, reduceIte, Nat.reduceEqDiff, Nat.reduceLT, Nat.reduceLeDiff, Nat.reduceAdd, reduceCtorEq, Nat.reduceMul, ptrV]
      all_goals ((try and_intros) <;> first | rfl | assumption | (rfl))
  rintro s σ ⟨rfl, e1, e2, e3, l3⟩
  generalize hacc0 : (if n.var.size = 0 then names else addN names n.var) = acc0 at *
  refine AW.seq_k fun K3 h3 => ?_
  all_goals refine AW.reg0 ?_
  all_goals iterate 4 (refine S.g rfl rfl fun K' k' => ?_; simp only [zz, reduceIte, Nat.reduceEqDiff, Nat.reduceLT, Nat.reduceLeDiff, Nat.reduceAdd, reduceCtorEq, Nat.reduceMul, of25_4, ok23, sz23, ag23, sl23, el23, ok25, sz25, ag25, e1, e2, e3, l3]; refine k' _ _ ?_; clear k' K')
  all_goals refine S.nil ?_
  all_goals simp only [ze, reduceIte, Nat.reduceEqDiff, Nat.reduceLT, Nat.reduceLeDiff, Nat.reduceAdd, reduceCtorEq, Nat.reduceMul, e1, e2, e3, l3]
  all_goals apply_assumption
  refine AW.block ?_   -- 0
  refine AW.loop (fun m s σ => ∃ (i : Nat) (acc : List ByteArray), m + i = n.kids.length ∧ σ = hpN σ0 gm acc ∧ n.adds names = ((n.kids.drop i).map Nd.adds).foldl (fun a f => f a) acc ∧ s.t 1 = ptrV g3 ∧ s.t 2 = ptrV g4 ∧ s.t 13 = .sl (n.kids.map encNd) ∧ s.t 14 = .c (.int .i64 (n.kids.length : Nat)) ∧ s.t 15 = .c (.int .i64 (i : Nat))) n.kids.length ?_ ?_
  · refine ⟨0, acc0, by simp, rfl, by simpa using hae, ?_⟩
    all_goals simp only [zs, reduceIte, Nat.reduceEqDiff, Nat.reduceLT, Nat.reduceLeDiff, Nat.reduceAdd, reduceCtorEq, Nat.reduceMul, e1, e2]
    all_goals ((try and_intros) <;> first | rfl | assumption | (rfl))
  rintro m s σ ⟨i, acc, hm, rfl, hp, e1, e2, e13, e14, e15⟩
  refine AW.seq_k fun K4 h4 => ?_
  all_goals refine AW.reg0 ?_
  all_goals (refine S.g rfl rfl fun K' k' => ?_; simp only [zz, reduceIte, Nat.reduceEqDiff, Nat.reduceAdd, e14, e15]; refine k' _ _ ?_; clear k' K')
  all_goals refine S.nil ?_
  all_goals simp only [ze, reduceIte, Nat.reduceEqDiff, Nat.reduceLT, Nat.reduceLeDiff, Nat.reduceAdd, reduceCtorEq, Nat.reduceMul, e14, e15]
  all_goals apply_assumption
  refine AW.seq_k fun K5 h5 => ?_
  refine AW.cond (b := decide (i < n.kids.length)) (by simp [ev]) (fun hi => ?_) (fun hi => ?_)
  · have hi := of_decide_eq_true hi
    obtain ⟨x, hx, hxm, hg⟩ := kid_get hi
    have hw := wadd1 (a := i) (by omega)
    rw [kid_drop hx, List.map_cons, List.foldl_cons] at hp
    refine AW.skip ?_
    all_goals simp only [zs, reduceIte, Nat.reduceEqDiff, Nat.reduceLT, Nat.reduceLeDiff, Nat.reduceAdd, reduceCtorEq, Nat.reduceMul]
    all_goals apply_assumption
    refine AW.seq_k fun K6 h6 => ?_
    refine AW.block ?_   -- 1
    refine AW.seq_k fun K7 h7 => ?_
    all_goals refine AW.reg0 ?_
    all_goals iterate 4 (refine S.g rfl rfl fun K' k' => ?_; simp only [zz, reduceIte, Nat.reduceEqDiff, Nat.reduceLT, Nat.reduceLeDiff, Nat.reduceAdd, reduceCtorEq, Nat.reduceMul, sl23, el23, ok25, sz25, ag25, zt25, e1, e2, e13, e14, e15, hi, hg, nd, List.length_map]; refine k' _ _ ?_; clear k' K')
    all_goals refine S.nil ?_
    all_goals simp only [ze, reduceIte, Nat.reduceEqDiff, Nat.reduceLT, Nat.reduceLeDiff, Nat.reduceAdd, reduceCtorEq, Nat.reduceMul, e1, e2, e13, e14, e15, hi, hg, nd, List.length_map]
    all_goals apply_assumption
    have hF4 : (hpN σ0 gm acc).obj g4 = some [.fn (.func 95) [] [ptrV g3, ptrV g4]] := by simp [hpN, n4]; exact hQ4
    unfold ptrV at e1 e2 hF4
    all_goals refine AW.reg0 ?_
    all_goals iterate 2 (refine S.g rfl rfl fun K' k' => ?_; simp only [zz, reduceIte, Nat.reduceEqDiff, Nat.reduceLT, Nat.reduceLeDiff, Nat.reduceAdd, reduceCtorEq, Nat.reduceMul, ok25, sz25, ag25, e1, e2, hF4, isMap_fn, nd, ok115, sz115, ag115]; refine k' _ _ ?_; clear k' K')
    all_goals (refine S.g rfl rfl fun K' k' => ?_; simp only [zz, reduceIte, Nat.reduceEqDiff, Nat.reduceLT, Nat.reduceLeDiff, Nat.reduceAdd, reduceCtorEq, Nat.reduceMul, e1, e2, hF4, isMap_fn, nd, ok115, sz115, ag115]; (refine ACalls.to (ih x hxm (hn.kid hxm) acc) ?_; rintro _ _ ⟨rfl, rfl⟩) <;> (refine k' _ _ ?_; clear k' K'))
    all_goals refine S.nil ?_
    all_goals simp only [ze, reduceIte, Nat.reduceEqDiff, Nat.reduceLT, Nat.reduceLeDiff, Nat.reduceAdd, reduceCtorEq, Nat.reduceMul, e1, e2, hF4, isMap_fn, nd, ok115, sz115, ag115]
    all_goals apply_assumption
    all_goals refine AW.reg0 ?_
    all_goals iterate 2 (refine S.g rfl rfl fun K' k' => ?_; simp only [zz, reduceIte, Nat.reduceEqDiff, Nat.reduceAdd, e1, e2, e13, e14, e15, hw]; refine k' _ _ ?_; clear k' K')
    all_goals refine S.nil ?_
    all_goals simp only [ze, reduceIte, Nat.reduceEqDiff, Nat.reduceLT, Nat.reduceLeDiff, Nat.reduceAdd, reduceCtorEq, Nat.reduceMul, e1, e2, e13, e14, e15, hw]
    refine ⟨m - 1, by omega, i + 1, x.adds acc, by omega, rfl, hp, ?_⟩
    all_goals ((try and_intros) <;> first | rfl | assumption | (rfl))
  · have hi := of_decide_eq_false hi
    refine AW.exit ?_
    all_goals simp only [zs, reduceIte, Nat.reduceEqDiff, Nat.reduceLT, Nat.reduceLeDiff, Nat.reduceAdd, reduceCtorEq, Nat.reduceMul]
    rw [List.drop_of_length_le (by omega)] at hp
    have hp : n.adds names = acc := hp
    rw [hp]
    all_goals ((try and_intros) <;> first | rfl | assumption | (rfl))
theorem ltS_iff {a b : ByteArray} : ltS a b = true ↔ a.data.toList < b.data.toList := by
 rw [ltS, bytesLess_eq', decide_eq_true_eq, ByteArray.toList_eq, ByteArray.toList_eq]
def SrtS (l : List ByteArray) : Prop := l.Pairwise fun a b => ltS a b = true
theorem ltS_trans {a b c : ByteArray} (h : ltS a b = true) (k : ltS b c = true) : ltS a c = true := ltS_iff.2 (List.lt_trans (ltS_iff.1 h) (ltS_iff.1 k))
theorem ltS_irr (a : ByteArray) : ltS a a ≠ true := fun h => absurd (ltS_iff.1 h) (List.lt_irrefl _)
theorem ba_ext {a b : ByteArray} (h : a.data.toList = b.data.toList) : a = b := by
 cases a; cases b; exact congrArg _ (Array.toList_inj.1 h)
theorem ltS_tri {a b : ByteArray} (h : ltS a b ≠ true) (hn : a ≠ b) : ltS b a = true := by
 rw [Ne, ltS_iff] at h
 rw [ltS_iff]
 rcases List.le_iff_lt_or_eq.1 (List.not_lt.1 h) with k | k
 ·exact k
 ·exact absurd (ba_ext k.symm) hn
theorem putS_srt {l : List ByteArray} (s : ByteArray) (h : SrtS l) : SrtS (putS l s) := by
  unfold putS
  split
  · exact h
  · rename_i hs
    have hs : s ∉ l := fun h => hs (hasS_iff.2 h)
    have e := List.takeWhile_append_dropWhile (p := (ltS · s)) (l := l)
    have h0 := h
    rw [SrtS, ← e, List.pairwise_append] at h0
    obtain ⟨p1, p2, p3⟩ := h0
    have hlt : ∀ x ∈ l.takeWhile (ltS · s), ltS x s = true := fun x hx => List.all_eq_true.1 (List.all_takeWhile (p := (ltS · s)) (l := l)) x hx
    have hgt : ∀ x ∈ l.dropWhile (ltS · s), ltS s x = true := by
      intro x hx
      cases hd : l.dropWhile (ltS · s) with
      | nil => rw [hd] at hx; cases hx
      | cons y r =>
        have hy : ltS y s ≠ true := by
          have := List.head_dropWhile_not (p := (ltS · s)) (l := l) (by rw [hd]; exact List.cons_ne_nil _ _)
          simp only [hd, List.head_cons] at this
          rw [this]; exact Bool.false_ne_true
        have hyl : y ∈ l := by rw [← e, hd]; exact List.mem_append_right _ List.mem_cons_self
        have hys : ltS s y = true := ltS_tri hy fun e => hs (e ▸ hyl)
        rw [hd] at hx p2
        rcases List.mem_cons.1 hx with rfl | hx
        · exact hys
        · exact ltS_trans hys ((List.pairwise_cons.1 p2).1 x hx)
    refine List.pairwise_append.2 ⟨p1, List.pairwise_cons.2 ⟨hgt, p2⟩, fun a ha b hb => ?_⟩
    rcases List.mem_cons.1 hb with rfl | hb
    · exact hlt a ha
    · exact p3 a ha b hb
theorem putAll_srt (kv : List ByteArray) : ∀ acc : List ByteArray, SrtS acc → SrtS (putAll acc kv) := by
 induction kv with
 | nil => intro acc h; exact h
 | cons s kv ih => intro acc h; exact ih _ (putS_srt s h)
theorem foldAll_srt (l : List (List ByteArray)) : ∀ acc : List ByteArray, SrtS acc → SrtS (l.foldl putAll acc) := by
 induction l with
 | nil => intro acc h; exact h
 | cons s l ih => intro acc h; exact ih _ (putAll_srt s acc h)
theorem Nd.vars_srt (n : Nd) : SrtS n.vars := by
 rw [Nd.vars_eq, varsOf]
 refine foldAll_srt _ _ ?_
 split
 ·exact .nil
 ·exact putS_srt _ .nil
theorem SrtS.nodup {l : List ByteArray} (h : SrtS l) : l.Nodup := List.Pairwise.imp (fun {a b} hab e => by subst e; exact ltS_irr _ hab) h
theorem sortN_eq {a b : List ByteArray} (ha : a.Nodup) (hb : SrtS b) (h : ∀ v, v ∈ a ↔ v ∈ b) : sortN a = b := by
 have hp : a.Perm b := (List.perm_ext_iff_of_nodup ha hb.nodup).2 fun v => h v
 have hs : (b.map fun s => s.data.toList).mergeSort (fun x y => decide (x ≤ y)) = b.map fun s => s.data.toList := by
  refine List.mergeSort_of_pairwise ?_
  rw [List.pairwise_map]
  exact List.Pairwise.imp (fun {a b} hab => by rw [decide_eq_true_eq]; exact List.le_of_lt (ltS_iff.1 hab)) hb
 rw [sortN, mergeSort_of_perm (hp.map _)]
 show (List.map bytesOf ((b.map fun s => s.data.toList).mergeSort fun x y => decide (x ≤ y))) = b
 rw [hs, List.map_map]
 conv => rhs; rw [← List.map_id b]
 exact List.map_congr_left fun x _ => ba_ext (by simp [bytesOf])
theorem Hp.setObj_id {σ : Hp} {g : Nat} {x : Option (List V)} (h : σ.obj g = x) : σ.setObj g x = σ := by
 subst h
 cases σ
 simp only [Hp.setObj, Hp.mk.injEq, and_true]
 funext j
 by_cases e : j = g
 ·simp [e]
 ·simp [e]
theorem isMap_none : isMap [.c (.map none)] = false := rfl
theorem foldAdds_nodup {l : List (List ByteArray → List ByteArray)} : (∀ f ∈ l, ∀ a : List ByteArray, a.Nodup → (f a).Nodup) → ∀ a : List ByteArray, a.Nodup → (l.foldl (fun a f => f a) a).Nodup := by
 induction l with
 | nil => intro _ a h; exact h
 | cons f l ih => intro hf a h; exact ih (fun g hg => hf g (List.mem_cons_of_mem _ hg)) _ (hf f List.mem_cons_self a h)
theorem Nd.adds_nodup : ∀ (n : Nd) (a : List ByteArray), a.Nodup → (n.adds a).Nodup := Nd.ind fun n ih a h => by
 rw [n.adds_eq]
 refine foldAdds_nodup (fun f hf a ha => ?_) _ ?_
 ·obtain ⟨x, hx, rfl⟩ := List.mem_map.1 hf; exact ih x hx a ha
 ·split
  ·exact h
  ·exact addN_nodup h
theorem foldAdds_mem (v : ByteArray) {l : List Nd} : (∀ x ∈ l, ∀ a : List ByteArray, v ∈ x.adds a ↔ v ∈ a ∨ v ∈ x.vars) → ∀ a : List ByteArray, v ∈ (l.map Nd.adds).foldl (fun a f => f a) a ↔ v ∈ a ∨ ∃ x ∈ l, v ∈ x.vars := by
  induction l with
  | nil => intro _ a; simp
  | cons y l ih =>
    intro hf a
    rw [List.map_cons, List.foldl_cons, ih (fun g hg => hf g (List.mem_cons_of_mem _ hg)), hf y List.mem_cons_self]
    simp [or_assoc]
theorem Nd.adds_mem (v : ByteArray) : ∀ (n : Nd) (a : List ByteArray), v ∈ n.adds a ↔ v ∈ a ∨ v ∈ n.vars := Nd.ind fun n ih a => by
 rw [n.adds_eq, foldAdds_mem v (fun x hx => ih x hx), Nd.vars_mem]
 split
 ·rename_i h; simp [h]
 ·rename_i h; simp [h, addN_mem, or_left_comm, or_comm, or_assoc]
theorem foldAdds_len {l : List Nd} : (∀ x ∈ l, ∀ a : List ByteArray, (x.adds a).length ≤ a.length + x.size) → ∀ a : List ByteArray, ((l.map Nd.adds).foldl (fun a f => f a) a).length ≤ a.length + (l.map Nd.size).sum := by
  induction l with
  | nil => intro _ a; exact Nat.le_refl _
  | cons y l ih =>
    intro hf a
    have h1 := ih (fun g hg => hf g (List.mem_cons_of_mem _ hg)) (y.adds a)
    have h2 := hf y List.mem_cons_self a
    simp only [List.map_cons, List.foldl_cons, List.sum_cons]; omega
theorem addN_len (a : List ByteArray) (s : ByteArray) : (addN a s).length ≤ a.length + 1 := by
 unfold addN; split <;> simp
theorem Nd.adds_len : ∀ (n : Nd) (a : List ByteArray), (n.adds a).length ≤ a.length + n.size := Nd.ind fun n ih a => by
 rw [n.adds_eq, Nd.size_eq]
 have h1 := foldAdds_len (fun x hx => ih x hx) (if n.var.size = 0 then a else addN a n.var)
 have h2 : (if n.var.size = 0 then a else addN a n.var).length ≤ a.length + 1 := by
  split
  ·omega
  ·exact addN_len a n.var
 omega
theorem sortN_vars (n : Nd) : sortN (n.adds []) = n.vars :=
 sortN_eq (n.adds_nodup [] .nil) n.vars_srt fun v => by rw [n.adds_mem]; simp
theorem Nd.var_sz {n : Nd} (h : n.err = 0) : n.var.size ≤ 32 := by
 have h0 := Nd.err_own h
 unfold ndOwn at h0
 split at h0
 ·split at h0
  ·cases h0
  ·rename_i hb
   simp only [leafBad, Bool.or_eq_true, not_or, Bool.not_eq_true', Bool.not_eq_false, isName, Bool.and_eq_true, decide_eq_true_eq] at hb
   exact hb.1.2.2
 ·split at h0
  ·split at h0
   ·cases h0
   ·rename_i hb
    simp only [joinBad, Bool.or_eq_true, not_or, decide_eq_true_eq, Decidable.not_not] at hb
    omega
  ·cases h0
theorem Nd.vars_sz : ∀ n : Nd, n.err = 0 → ∀ v ∈ n.vars, v.size ≤ 32 := Nd.ind fun n ih h v hv => by
 rcases (n.vars_mem v).1 hv with ⟨_, rfl⟩ | ⟨x, hx, hv⟩
 ·exact n.var_sz h
 ·exact ih x hx (Nd.err_kid h hx) v hv
theorem isMap_nf : isMap [.c .nilFunc] = false := rfl
theorem zt115 : zeroT Tryz.prog 115 = some .nilFunc := by kernel_rfl
def hpV (gm g3 g4 : Nat) : Hp := ((Hp.empty.setObj gm (some [.tup []])).setObj g3 (some [.c (.map (some gm))])).setObj g4 (some [.fn (.func 95) [] [ptrV g3, ptrV g4]])
theorem hpV_N {gm g3 g4 : Nat} (h3 : ¬ gm = g3) (h4 : ¬ gm = g4) : hpN (hpV gm g3 g4) gm [] = hpV gm g3 g4 := Hp.setObj_id (by simp [hpV, h3, h4, entS])
theorem Vars_spec {n : Nd} (hn : n.small) (hk : n.err = 0) : PCalls Tryz.prog 63 [.agg (encNd n)] (fun v => v = .sl (n.vars.map encS)) := by
 have hsz : ∀ s ∈ n.adds [], s.size ≤ maxLen := fun s hs => by
  rw [n.adds_mem] at hs
  have := n.vars_sz hk s (by simpa using hs)
  unfold maxLen; omega
 have hlen : (n.adds []).length ≤ 1048576 := by
  have := n.adds_len []
  unfold Nd.small at hn
  simp only [List.length_nil] at this; omega
 have hE := (encNd_eq n).symm
 rw [encNd_eq]
 refine ACalls.bare (R := fun v _ => v = .sl (n.vars.map encS)) (ACalls.intro Tryz.call63 Tryz.func63 rfl Tryz.ntmps63 Tryz.results63 (by simp) ?_) fun _ _ h => h
 refine AW.sr trivial ?_
 refine AW.seq_k fun K2 h2 => ?_
 refine AW.region (T := { hp := fun d => d == 3 }) (fun _ _ h => by cases h) rfl ?_
 all_goals (refine S.g rfl rfl fun Y Z => ?_; simp only [zz, simprocAttr, -Int.reduceNatCast', -Int.reduceToNat, isMap_none, if_pos, if_neg]; intro gm ngm <;> (refine Z _ _ ?_; clear Z Y))
 all_goals have q1q := J3 @isMap_none @if_pos.{0} @if_neg.{0}
 all_goals (refine S.g rfl rfl fun Y Z => ?_; simp only [zz, simprocAttr, -Int.reduceNatCast', -Int.reduceToNat, tt, q1q]; intro g3 ng3 <;> (refine Z _ _ ?_; clear Z Y))
 all_goals refine S.one q1q ?_
 all_goals (refine S.nil ?_; simp only [ze, simprocAttr, q1q]; apply_assumption)
 refine AW.seq_k fun K3 h3 => ?_
 have hn3 : ¬ gm = g3 := fun e => by subst e; simp at ng3
 all_goals refine AW.region (T := { hp := fun d => d == 4 }) (fun _ _ h => by cases h) rfl ?_
 all_goals (refine S.g rfl rfl fun Y Z => ?_; simp only [zz, simprocAttr, -Int.reduceNatCast', -Int.reduceToNat, zt115]; intro g4 ng4 <;> (refine Z _ _ ?_; clear Z Y))
 all_goals (refine S.nil ?_; simp only [ze, simprocAttr]; apply_assumption)
 have hn4 : ¬ gm = g4 := fun e => by subst e; simp at ng4; split at ng4 <;> cases ng4
 have hn34 : ¬ g3 = g4 := fun e => by simp [e] at ng4
 all_goals refine AW.sr (J5 @ok115 @sz115 @ag115 @isMap_fn @isMap_nf) ?_
 refine AW.seq_k fun K5 h5 => ?_
 rw [show (((Hp.empty.setObj gm (some [V.tup []])).setObj g3 (some [.c (.map (some gm))])).setObj g4 (some [.fn (.func 95) [] [.c (.pointer (some ⟨g3, 0, none⟩)), .c (.pointer (some ⟨g4, 0, none⟩))]])) = hpN (hpV gm g3 g4) gm [] from (hpV_N hn3 hn4).symm]
 have hf4 : (hpN (hpV gm g3 g4) gm []).obj g4 = some [.fn (.func 95) [] [.c (.pointer (some ⟨g3, 0, none⟩)), .c (.pointer (some ⟨g4, 0, none⟩))]] := by rw [hpV_N hn3 hn4]; simp [hpV, ptrV]
 all_goals refine AW.reg0 ?_
 all_goals iterate 2 refine S.one (J7 hf4 @isMap_fn @nd hE @ok115 @sz115 @ag115) ?_
 all_goals have q2q := J7 hf4 @isMap_fn @nd hE @ok115 @sz115 @ag115
 all_goals (refine S.g rfl rfl fun Y Z => ?_; simp only [zz, simprocAttr, -Int.reduceNatCast', -Int.reduceToNat, q2q]; (refine ACalls.to (adds_spec (σ0 := hpV gm g3 g4) (g3 := g3) (g4 := g4) (gm := gm) (by simp [hpV, hn34]) (by simp [hpV]) (Ne.symm hn3) (Ne.symm hn4) n hn []) ?_; rintro _ _ ⟨rfl, rfl⟩) <;> (refine Z _ _ ?_; clear Z Y))
 all_goals (refine S.nil ?_; simp only [ze, simprocAttr, q2q]; apply_assumption)
 have hf3 : (hpN (hpV gm g3 g4) gm (n.adds [])).obj g3 = some [.c (.map (some gm))] := by simp [hpN, hpV, hn3, hn34, Ne.symm hn3]
 refine AW.seq_k fun K6 h6 => ?_
 all_goals refine AW.reg0 ?_
 all_goals refine S.one (J2 hf3 @isMap_c) ?_
 all_goals have q3q := J2 hf3 @isMap_c
 all_goals (refine S.g rfl rfl fun Y Z => ?_; simp only [zz, simprocAttr, -Int.reduceNatCast', -Int.reduceToNat, q3q]; (refine ACalls.to (list_spec (g := gm) (names := n.adds []) (by simp [hpN]) (n.adds_nodup [] .nil) hsz hlen) ?_; rintro _ _ ⟨rfl, rfl⟩) <;> (refine Z _ _ ?_; clear Z Y))
 all_goals refine S.one q3q ?_
 all_goals (refine S.nil ?_; simp only [ze, simprocAttr, q3q]; apply_assumption)
 refine AW.ret ?_
 all_goals simp only [zs, simprocAttr]
 rw [sortN_vars]
 all_goals ((try and_intros) <;> first | rfl | assumption | (rfl))
theorem ent_look (K : St → Hp → Prop) (s : St) (d : Nat) (σ : Hp) {names : List ByteArray} {nm : ByteArray} (h : K (s.put d (.c (.bool (names.any fun t => nm.toList == t.toList)))) σ) :
  match entV (entS names) (.string nm) 0 with | some (_, v) => K (s.put d v) σ | none => K (s.put d (.c (.bool false))) σ := by
 rcases entS_at nm names 0 with ⟨h1, h2⟩ | ⟨h1, j, h2, _⟩
 ·rw [h2]; rw [h1] at h; exact h
 ·rw [h2]; rw [h1] at h; exact h
theorem any_str {l : List ByteArray} {s : ByteArray} : (l.any fun t => s.toList == t.toList) = true ↔ s ∈ l := by
 have : (l.any fun t => s.toList == t.toList) = hasS l s := by
  unfold hasS eqS; congr 1; funext t; rw [Bool.eq_iff_iff, beq_iff_eq, beq_iff_eq]; exact ⟨Eq.symm, Eq.symm⟩
 rw [this, hasS_iff]
def seenN (n : Nd) (i : Nat) (names : List ByteArray) : Prop := ∀ v, v ∈ names ↔ twin n = true ∧ ∃ x ∈ n.kids.take i, v ∈ x.vars
def addsN (names : List ByteArray) (l : List ByteArray) : List ByteArray := l.foldl addN names
theorem addsN_mem {l : List ByteArray} {v : ByteArray} : ∀ {a : List ByteArray}, v ∈ addsN a l ↔ v ∈ a ∨ v ∈ l := by
  induction l with
  | nil => intro a; simp [addsN]
  | cons s l ih =>
    intro a
    have := @ih (addN a s)
    simp only [addsN, List.foldl_cons] at this ⊢
    rw [this, addN_mem, List.mem_cons, or_assoc, or_left_comm]
theorem addsN_step {l : List ByteArray} {j : Nat} {s : ByteArray} (h : l[j]? = some s) (a : List ByteArray) : addN (addsN a (l.take j)) s = addsN a (l.take (j + 1)) := by
 rw [List.take_add_one, h, addsN, addsN, List.foldl_append]; rfl
theorem seen_any {n x : Nd} {i : Nat} {names : List ByteArray} (h : seenN n i names) (ht : twin n = true) : (((n.kids.take i).map Nd.vars).any (meets x.vars) = true) ↔ ∃ v ∈ x.vars, v ∈ names := by
 simp only [List.any_eq_true, List.mem_map, meets, hasS_iff]
 constructor
 ·rintro ⟨_, ⟨y, hy, rfl⟩, v, h1, h2⟩
  exact ⟨v, h2, (h v).2 ⟨ht, y, hy, h1⟩⟩
 ·rintro ⟨v, h1, h2⟩
  obtain ⟨_, y, hy, h3⟩ := (h v).1 h2
  exact ⟨_, ⟨y, hy, rfl⟩, v, h3, h1⟩
theorem seen_step {n x : Nd} {i : Nat} {names : List ByteArray} (h : seenN n i names) (ht : twin n = true) (hx : n.kids[i]? = some x) : seenN n (i + 1) (addsN names x.vars) := fun v => by
 rw [addsN_mem, h v, List.take_add_one, hx]
 simp only [List.mem_append, Option.toList_some, List.mem_singleton, ht, true_and]
 constructor
 ·rintro (⟨y, hy, k⟩ | k)
  ·exact ⟨y, .inl hy, k⟩
  ·exact ⟨x, .inr rfl, k⟩
 ·rintro ⟨y, hy | rfl, k⟩
  ·exact .inl ⟨y, hy, k⟩
  ·exact .inr k
theorem seen_skip {n : Nd} {i : Nat} {names : List ByteArray} (h : seenN n i names) (ht : twin n = false) : seenN n (i + 1) names := fun v => by
 rw [h v, ht]; simp
theorem kid_dropS {l : List ByteArray} {i : Nat} {x : ByteArray} (hx : l[i]? = some x) : l.drop i = x :: l.drop (i + 1) := by
 obtain ⟨hi, h⟩ := List.getElem?_eq_some_iff.1 hx
 rw [List.drop_eq_getElem_cons hi, h]
theorem stS (x : ByteArray) : List.map wk1 (encS x) = encS x := rfl
theorem seen_take {n x : Nd} {i : Nat} (hx : n.kids[i]? = some x) : (n.kids.take i).map Nd.vars ++ [x.vars] = (n.kids.take (i + 1)).map Nd.vars := by
 rw [List.take_add_one, hx, List.map_append]; rfl
theorem Binds_spec : ∀ n : Nd, n.small → n.err = 0 → PCalls Tryz.prog 36 [.agg (encNd n)] (fun v => v = .c (.int .i64 n.binds)) := Nd.ind fun n ih hn hk => by
 have hl := hn.len
 have hb0 := n.binds_eq
 rw [encNd_eq]
 refine ACalls.bare (R := fun v _ => v = .c (.int .i64 n.binds)) (ACalls.intro Tryz.call36 Tryz.func36 rfl Tryz.ntmps36 Tryz.results36 (by simp) ?_) fun _ _ h => h
 refine AW.sr trivial ?_
 refine AW.seq_k fun K2 h2 => ?_
 refine AW.reg0 ?_
 (refine S.g rfl rfl fun Y Z => ?_; simp only [zz, simprocAttr, -Int.reduceNatCast', -Int.reduceToNat]; intro gm ngm <;> (refine Z _ _ ?_; clear Z Y))
 all_goals refine S.one trivial ?_
 all_goals (refine S.nil ?_; simp only [ze, simprocAttr]; apply_assumption)
 refine AW.seq_k fun K3 h3 => ?_
 all_goals refine AW.sr trivial ?_
 refine AW.block ?_   -- 0
 refine AW.loop (fun m s σ => ∃ (i : Nat) (names : List ByteArray), m + i = n.kids.length ∧ σ = hpN Hp.empty gm names ∧ seenN n i names ∧ n.binds = bindsFrom (twin n) ((n.kids.take i).map Nd.vars) ((n.kids.drop i).map bindOf) ∧ s.t 1 = .lp 1 0 ∧ s.l 1 = some [.c (.int .i64 n.kind), .c (.string n.var), .c (.string n.type), .sl (n.tests.map encC), .sl (n.kids.map encNd)] ∧ s.t 3 = .c (.map (some gm)) ∧ s.t 11 = .sl (n.kids.map encNd) ∧ s.t 12 = .c (.int .i64 (n.kids.length : Nat)) ∧ s.t 13 = .c (.int .i64 (i : Nat))) n.kids.length ?_ ?_
 ·refine ⟨0, [], by simp, rfl, (fun v => by simp), by simpa using hb0, ?_⟩
  simp only [zs, simprocAttr]
  all_goals ((try and_intros) <;> first | rfl | assumption | (rfl))
 rintro m s σ ⟨i, names, hm, rfl, hse, hp, e1, l1, e3, e11, e12, e13⟩
 all_goals refine AW.sr (J2 e12 e13) ?_
 refine AW.seq_k fun K6 h6 => ?_
 refine AW.cond (b := decide (i < n.kids.length)) (by simp [ev]) (fun hi => ?_) (fun hi => ?_)
 ·have hi := of_decide_eq_true hi
  obtain ⟨x, hx, hxm, hg⟩ := kid_get hi
  have hw := wadd1 (a := i) (by omega)
  have hxs := x.vars_size
  have hxn : x.size ≤ 1048576 := hn.kid hxm
  rw [kid_drop hx, List.map_cons, bindOf, bindsFrom] at hp
  refine AW.skip ?_
  simp only [zs, simprocAttr]
  all_goals apply_assumption
  refine AW.seq_k fun K7 h7 => ?_
  refine AW.block ?_   -- 1
  refine AW.sr (J6 e11 e13 hi hg @nd @List.length_map.{0,0}) ?_
  refine AW.seq_k fun K9 h9 => ?_
  refine AW.seq_k fun K10 h10 => ?_
  refine AW.reg0 ?_
  refine S.one @nd ?_
  (refine S.g rfl rfl fun Y Z => ?_; simp only [zz, simprocAttr, -Int.reduceNatCast', -Int.reduceToNat, nd]; refine PCalls.eqto (ih x hxm (hn.kid hxm) (Nd.err_kid hk hxm)) ?_ <;> (refine Z _ _ ?_; clear Z Y))
  all_goals refine S.one @nd ?_
  all_goals (refine S.nil ?_; simp only [ze, simprocAttr, nd]; apply_assumption)
  all_goals refine AW.sr trivial ?_
  refine AW.cond (b := x.binds != 0) (by simp [ev]) (fun hb => ?_) (fun hb => ?_)
  ·have hb : ¬ x.binds = 0 := by simpa using hb
   rw [if_neg hb] at hp
   refine AW.sr trivial ?_
   refine AW.ret ?_
   simp only [zs, simprocAttr]
   all_goals ((try and_intros) <;> first | rfl | assumption | ((rw [hp])))
  have hb : x.binds = 0 := by simpa using hb
  rw [if_pos hb] at hp
  refine AW.skip ?_
  all_goals simp only [zs, simprocAttr]
  all_goals apply_assumption
  refine AW.seq_k fun K13 h13 => ?_
  refine AW.seq_j (fun s' σ' => σ' = hpN Hp.empty gm names ∧ s'.t 29 = .c (.bool (!twin n)) ∧ s'.t 1 = .lp 1 0 ∧ s'.l 1 = some [.c (.int .i64 n.kind), .c (.string n.var), .c (.string n.type), .sl (n.tests.map encC), .sl (n.kids.map encNd)] ∧ s'.t 3 = .c (.map (some gm)) ∧ s'.t 11 = .sl (n.kids.map encNd) ∧ s'.t 12 = .c (.int .i64 (n.kids.length : Nat)) ∧ s'.t 13 = .c (.int .i64 (i : Nat)) ∧ s'.t 5 = .lp 5 0 ∧ s'.l 5 = some (encNd x)) ?_ ?_
  ·skip
   refine AW.reg0 ?_
   iterate 2 refine S.one (J2 e1 l1) ?_
   (refine S.sp (J2 e1 l1) fun b a24 => ?_; cases b <;> (try exact nope a24))
   all_goals iterate 5 refine S.one (J2 e1 l1) ?_
   all_goals refine S.nil ?_
   all_goals simp only [ze, simprocAttr, e1, l1]
   all_goals (first | (simp_all [twin, kill]; done) | (simp_all [twin, kill, bne]; rfl))
  rintro s σ ⟨rfl, e29, e1, l1, e3, e11, e12, e13, e5, l5⟩
  refine AW.cond (b := !twin n) e29 (fun ht => ?_) (fun ht => ?_)
  ·have ht : twin n = false := by simpa using ht
   refine AW.exit ?_
   simp only [zs, simprocAttr]
   all_goals apply_assumption
   have q1q := J7 e1 l1 e3 e11 e12 e13 hw
   refine AW.reg0 (S.rn q1q ?_)
   simp only [ze, simprocAttr, q1q]
   refine ⟨m - 1, by omega, i + 1, names, by omega, rfl, seen_skip hse ht, ?_, ?_⟩
   ·rw [hp, ht, Bool.false_and, if_neg Bool.false_ne_true, seen_take hx]
   ·all_goals ((try and_intros) <;> first | rfl | assumption | (rfl))
  have ht : twin n = true := by simpa using ht
  refine AW.skip ?_
  all_goals simp only [zs, simprocAttr]
  all_goals apply_assumption
  refine AW.seq_k fun K14 h14 => ?_
  all_goals refine AW.reg0 ?_
  all_goals refine S.one (J3 e5 l5 @nd) ?_
  all_goals (refine S.g rfl rfl fun Y Z => ?_; simp only [zz, simprocAttr, -Int.reduceNatCast', -Int.reduceToNat, e5, l5, nd]; refine PCalls.eqto (Vars_spec (hn.kid hxm) (Nd.err_kid hk hxm)) ?_ <;> (refine Z _ _ ?_; clear Z Y))
  all_goals iterate 2 refine S.one (J3 e5 l5 @nd) ?_
  all_goals (refine S.nil ?_; simp only [ze, simprocAttr, e5, l5, nd]; apply_assumption)
  have hnd := x.vars_srt.nodup
  refine AW.block ?_   -- 2
  refine AW.loop (fun m2 s σ => ∃ (j : Nat), m2 + j = x.vars.length ∧ σ = hpN Hp.empty gm (addsN names (x.vars.take j)) ∧ (∀ v ∈ x.vars.take j, v ∉ names) ∧ s.t 1 = .lp 1 0 ∧ s.l 1 = some [.c (.int .i64 n.kind), .c (.string n.var), .c (.string n.type), .sl (n.tests.map encC), .sl (n.kids.map encNd)] ∧ s.t 3 = .c (.map (some gm)) ∧ s.t 11 = .sl (n.kids.map encNd) ∧ s.t 12 = .c (.int .i64 (n.kids.length : Nat)) ∧ s.t 13 = .c (.int .i64 (i : Nat)) ∧ s.t 31 = .sl (x.vars.map encS) ∧ s.t 32 = .c (.int .i64 (x.vars.length : Nat)) ∧ s.t 33 = .c (.int .i64 (j : Nat))) x.vars.length ?_ ?_
  ·refine ⟨0, by simp, rfl, (fun v h => by simp at h), ?_⟩
   simp only [zs, simprocAttr, e1, l1, e3, e11, e12, e13]
   all_goals ((try and_intros) <;> first | rfl | assumption | (rfl))
  rintro m2 s σ ⟨j, hm2, rfl, hno, e1, l1, e3, e11, e12, e13, e31, e32, e33⟩
  all_goals refine AW.sr (J2 e32 e33) ?_
  refine AW.seq_k fun K16 h16 => ?_
  refine AW.cond (b := decide (j < x.vars.length)) (by simp [ev]) (fun hj => ?_) (fun hj => ?_)
  ·have hj := of_decide_eq_true hj
   obtain ⟨v, hv, hvg, _⟩ := str_get hj
   have hvm := List.mem_of_getElem? hv
   have hw2 := wadd1 (a := j) (by omega)
   refine AW.skip ?_
   simp only [zs, simprocAttr]
   all_goals apply_assumption
   refine AW.seq_k fun K17 h17 => ?_
   refine AW.block ?_   -- 3
   refine AW.sr (J5 e31 e33 hj hvg @List.length_map.{0,0}) ?_
   have hjn : v ∉ x.vars.take j := fun h => by
    rw [← List.take_append_drop j x.vars, kid_dropS hv] at hnd
    exact (List.nodup_append.1 hnd).2.2 v h v List.mem_cons_self rfl
   have hin : v ∈ addsN names (x.vars.take j) ↔ v ∈ names := by rw [addsN_mem]; exact ⟨fun h => h.resolve_right hjn, .inl⟩
   refine AW.seq_k fun K19 h19 => ?_
   refine AW.seq_k fun K20 h20 => ?_
   unfold hpN
   refine AW.reg0 ?_
   iterate 2 refine S.one e3 ?_
   (refine S.g rfl rfl fun Y Z => ?_; simp only [zn, simprocAttr, -Int.reduceNatCast', -Int.reduceToNat, e3]; (refine ⟨_, _, _, Tryz.underlying87, KeyT.str Tryz.underlying9, rfl, entS_ok _, ?_⟩); (try simp only [tt, ofC, Option.some.injEq, exists_eq_left', zz, simprocAttr, -Int.reduceNatCast', -Int.reduceToNat, e3]); refine ent_look Y _ _ _ ?_ <;> (refine Z _ _ ?_; clear Z Y))
   all_goals (refine S.nil ?_; simp only [ze, simprocAttr, e3]; apply_assumption)
   refine AW.cond (b := (addsN names (x.vars.take j)).any fun t => v.toList == t.toList) (by simp [ev]) (fun hf => ?_) (fun hf => ?_)
   ·have hf := hin.1 (any_str.1 hf)
    refine AW.sr trivial ?_
    refine AW.ret ?_
    simp only [zs, simprocAttr]
    rw [if_pos (by rw [(seen_any hse ht).2 ⟨v, hvm, hf⟩, ht]; rfl)] at hp
    all_goals ((try and_intros) <;> first | rfl | assumption | ((rw [hp])))
   have hf : v ∉ names := fun h => by rw [any_str.2 (hin.2 h)] at hf; cases hf
   refine AW.skip ?_
   all_goals simp only [zs, simprocAttr]
   all_goals apply_assumption
   all_goals refine AW.reg0 ?_
   all_goals iterate 2 refine S.one (J2 e3 @isMap_c) ?_
   all_goals have q2q := J2 e3 @isMap_c
   all_goals (refine S.g rfl rfl fun Y Z => ?_; simp only [zn, simprocAttr, -Int.reduceNatCast', -Int.reduceToNat, q2q]; (refine ⟨_, _, _, Tryz.underlying87, KeyT.str Tryz.underlying9, rfl, entS_ok _, ?_⟩); (try simp only [tt, ofC, Option.some.injEq, exists_eq_left', zz, simprocAttr, -Int.reduceNatCast', -Int.reduceToNat, e3, isMap_c]); refine (congrArg (Y _) (congrArg (fun x => Hp.empty.setObj gm (some [V.tup x])) (entS_upd v (addsN names (x.vars.take j))))).mpr ?_ <;> (refine Z _ _ ?_; clear Z Y))
   all_goals (refine S.nil ?_; simp only [ze, simprocAttr, q2q]; apply_assumption)
   rw [addsN_step hv]
   all_goals have q3q := J10 e1 l1 e3 e11 e12 e13 e31 e32 e33 hw2
   all_goals refine AW.reg0 (S.rn q3q ?_)
   all_goals simp only [ze, simprocAttr, q3q]
   refine ⟨m2 - 1, by omega, j + 1, by omega, rfl, (fun w hw => ?_), ?_⟩
   ·rw [List.take_add_one, hv] at hw
    rcases List.mem_append.1 hw with h | h
    ·exact hno w h
    ·simp at h; rw [h]; exact hf
   ·all_goals ((try and_intros) <;> first | rfl | assumption | (rfl))
  ·have hj := of_decide_eq_false hj
   refine AW.exit ?_
   simp only [zs, simprocAttr]
   all_goals apply_assumption
   rw [List.take_of_length_le (by omega)] at hno ⊢
   have q4q := J7 e1 l1 e3 e11 e12 e13 hw
   refine AW.reg0 (S.rn q4q ?_)
   simp only [ze, simprocAttr, q4q]
   refine ⟨m - 1, by omega, i + 1, addsN names x.vars, by omega, rfl, seen_step hse ht hx, ?_, ?_⟩
   ·rw [hp, if_neg, seen_take hx]
    rw [Bool.and_eq_true]
    rintro ⟨_, h⟩
    obtain ⟨v, h1, h2⟩ := (seen_any hse ht).1 h
    exact hno v h1 h2
   ·all_goals ((try and_intros) <;> first | rfl | assumption | (rfl))
 ·have hi := of_decide_eq_false hi
  refine AW.exit ?_
  simp only [zs, simprocAttr]
  all_goals apply_assumption
  refine AW.sr trivial ?_
  refine AW.ret ?_
  simp only [zs, simprocAttr]
  rw [List.drop_of_length_le (by omega)] at hp
  all_goals ((try and_intros) <;> first | rfl | assumption | ((rw [hp]; rfl)))
theorem shape_err {n : Nd} (h : n.shape = 0) : n.err = 0 := by
 unfold Nd.shape at h
 split at h
 ·cases h
 ·split at h
  ·assumption
  ·exact h
def fnV (f : FuncId) : V := .fn (.func f) [] []
theorem ok69 : okT Tryz.prog 69 = true := by kernel_rfl
theorem sz69 : szT Tryz.prog 69 = 1 := by kernel_rfl
theorem ag69 : aggT Tryz.prog 69 = false := by kernel_rfl
theorem zt69 : zeroT Tryz.prog 69 = some .nilFunc := by kernel_rfl
theorem by69 : Program.bytesOf Tryz.prog 69 = 8 := by kernel_rfl
theorem Pattern_spec (p : Pat) (hp : okPat p) : PCalls Tryz.prog 43 [.agg (encPat p)] (fun v => v = .c (.int .i64 (patErr p))) := by
 have hE := (encNd_eq p.node).symm
 have hsz := p.node.vars_size
 have hsm : p.node.size ≤ 1048576 := hp.small
 refine PCalls.intro Tryz.call43 Tryz.func43 rfl Tryz.ntmps43 Tryz.results43 (by simp) ?_
 refine AW.sr @encPat.eq_1 ?_
 refine AW.seq_k fun K2 h2 => ?_
 refine AW.seq_j (fun s' σ' => σ' = Hp.empty ∧ s'.t 1 = .lp 1 0 ∧ s'.l 1 = some (encPat p) ∧ s'.t 19 = .c (.bool (patOwn p))) ?_ ?_
 ·skip
  refine AW.reg0 ?_
  iterate 2 refine S.one trivial ?_
  (refine S.g rfl rfl fun Y Z => ?_; simp only [zz, simprocAttr, -Int.reduceNatCast', -Int.reduceToNat]; refine PCalls.eqto (name_spec _ hp.name) ?_; refine S.bool fun b a8 => ?_; cases b <;> (try exact nope a8) <;> (refine Z _ _ ?_; clear Z Y))
  all_goals iterate 4 refine S.one trivial ?_
  all_goals (first | (refine S.sp trivial fun b a13 => ?_; cases b <;> (try exact nope a13)) | ((first | refine S.x rfl rfl rfl rfl fun Y Z => ?_ | refine S.u rfl rfl rfl rfl fun Y Z => ?_); simp only [ze, simprocAttr, -Int.reduceNatCast', -Int.reduceToNat]; refine Z _ _ ?_; clear Z Y))
  all_goals iterate 6 refine S.one trivial ?_
  all_goals refine S.nil ?_
  all_goals simp only [ze, simprocAttr]
  all_goals simp_all [patOwn, encPat]
  all_goals omega
 rintro s σ ⟨rfl, e1, l1, e19⟩
 refine AW.cond (b := patOwn p) e19 (fun hb => ?_) (fun hb => ?_)
 ·refine AW.sr trivial ?_
  refine AW.ret ?_
  simp only [zs, simprocAttr]
  all_goals ((try and_intros) <;> first | rfl | assumption | (rw [patErr, if_pos hb]))
 have hs : patErr p = if p.node.shape = 0 then (if p.node.binds = 0 then cndsErr p.node.vars p.conds else p.node.binds) else p.node.shape := by rw [patErr, if_neg (by rw [hb]; exact Bool.false_ne_true)]
 refine AW.skip ?_
 all_goals simp only [zs, simprocAttr]
 all_goals apply_assumption
 refine AW.seq_k fun K4 h4 => ?_
 refine AW.seq_k fun K5 h5 => ?_
 all_goals refine AW.reg0 ?_
 all_goals (refine S.g rfl rfl fun Y Z => ?_; simp only [zb, simprocAttr, -Int.reduceNatCast', -Int.reduceToNat, tt, zt69, by69, sz69]; refine ⟨rfl, (by simp), ?_⟩ <;> (refine Z _ _ ?_; clear Z Y))
 all_goals iterate 2 refine S.one @sz69 ?_
 all_goals (refine S.nil ?_; simp only [ze, simprocAttr, sz69]; apply_assumption)
 refine AW.block ?_   -- 0
 refine AW.loop (fun m s σ => σ = Hp.empty ∧ ∃ i : Nat, m + i = 2 ∧ (1 ≤ i → p.node.shape = 0) ∧ (2 ≤ i → p.node.binds = 0) ∧ s.t 1 = .lp 1 0 ∧ s.l 1 = some (encPat p) ∧ s.t 20 = .sl [[fnV 35], [fnV 36]] ∧ s.t 21 = .c (.int .i64 2) ∧ s.t 22 = .c (.int .i64 (i : Nat))) 2 ?_ ?_
 ·refine ⟨rfl, 0, by simp, (fun h => by omega), (fun h => by omega), ?_⟩
  simp only [zs, simprocAttr, e1, l1]
  all_goals ((try and_intros) <;> first | rfl | assumption | (rfl))
 rintro m s σ ⟨rfl, i, hm, hq1, hq2, e1, l1, e20, e21, e22⟩
 all_goals refine AW.sr (J2 e21 e22) ?_
 refine AW.seq_k fun K7 h7 => ?_
 refine AW.cond (b := decide (i < 2)) (by simp [ev]; omega) (fun hi => ?_) (fun hi => ?_)
 ·have hi := of_decide_eq_true hi
  have hw := wadd1 (a := i) (by omega)
  refine AW.skip ?_
  simp only [zs, simprocAttr]
  all_goals apply_assumption
  refine AW.seq_k fun K8 h8 => ?_
  refine AW.block ?_   -- 1
  refine AW.seq_j (fun s' σ' => σ' = Hp.empty ∧ s'.t 1 = .lp 1 0 ∧ s'.l 1 = some (encPat p) ∧ s'.t 20 = .sl [[fnV 35], [fnV 36]] ∧ s'.t 21 = .c (.int .i64 2) ∧ s'.t 22 = .c (.int .i64 (i : Nat)) ∧ s'.t 4 = fnV (35 + i)) ?_ ?_
  ·have hc : i = 0 ∨ i = 1 := by omega
   rcases hc with rfl | rfl
   ·skip
    have q1q := J6 e20 e22 @fnV.eq_1 @ok69 @sz69 @ag69
    refine AW.reg0 (S.rn q1q ?_)
    simp only [ze, simprocAttr, q1q]
    all_goals ((try and_intros) <;> first | rfl | assumption | (rfl))
   ·skip
    have q2q := J6 e20 e22 @fnV.eq_1 @ok69 @sz69 @ag69
    refine AW.reg0 (S.rn q2q ?_)
    simp only [ze, simprocAttr, q2q]
    all_goals ((try and_intros) <;> first | rfl | assumption | (rfl))
  rintro s σ ⟨rfl, e1, l1, e20, e21, e22, e4⟩
  refine AW.seq_j (fun s' σ' => σ' = Hp.empty ∧ s'.t 1 = .lp 1 0 ∧ s'.l 1 = some (encPat p) ∧ s'.t 20 = .sl [[fnV 35], [fnV 36]] ∧ s'.t 21 = .c (.int .i64 2) ∧ s'.t 22 = .c (.int .i64 (i : Nat)) ∧ s'.t 5 = .c (.int .i64 (if i = 0 then p.node.shape else p.node.binds))) ?_ ?_
  ·have hc : i = 0 ∨ i = 1 := by omega
   rcases hc with rfl | rfl
   ·skip
    refine AW.reg0 ?_
    iterate 3 refine S.one (J7 e4 @fnV.eq_1 e1 l1 @encPat.eq_1 hE @nd) ?_
    have q3q := J7 e4 @fnV.eq_1 e1 l1 @encPat.eq_1 hE @nd
    (refine S.g rfl rfl fun Y Z => ?_; simp only [zz, simprocAttr, -Int.reduceNatCast', -Int.reduceToNat, q3q]; (first | refine PCalls.eqto (Shape_spec _ hp.small hp.ok) ?_ | refine PCalls.eqto (Binds_spec _ hp.small (shape_err (hq1 (by omega)))) ?_) <;> (refine Z _ _ ?_; clear Z Y))
    all_goals refine S.one q3q ?_
    all_goals refine S.nil ?_
    all_goals simp only [ze, simprocAttr, q3q]
    all_goals ((try and_intros) <;> first | rfl | assumption | (rfl))
   ·skip
    refine AW.reg0 ?_
    iterate 3 refine S.one (J7 e4 @fnV.eq_1 e1 l1 @encPat.eq_1 hE @nd) ?_
    have q4q := J7 e4 @fnV.eq_1 e1 l1 @encPat.eq_1 hE @nd
    (refine S.g rfl rfl fun Y Z => ?_; simp only [zz, simprocAttr, -Int.reduceNatCast', -Int.reduceToNat, q4q]; (first | refine PCalls.eqto (Shape_spec _ hp.small hp.ok) ?_ | refine PCalls.eqto (Binds_spec _ hp.small (shape_err (hq1 (by omega)))) ?_) <;> (refine Z _ _ ?_; clear Z Y))
    all_goals refine S.one q4q ?_
    all_goals refine S.nil ?_
    all_goals simp only [ze, simprocAttr, q4q]
    all_goals ((try and_intros) <;> first | rfl | assumption | (rfl))
  rintro s σ ⟨rfl, e1, l1, e20, e21, e22, e5⟩
  all_goals refine AW.sr e5 ?_
  refine AW.cond (b := (if i = 0 then p.node.shape else p.node.binds) != 0) (by simp [ev]) (fun hc => ?_) (fun hc => ?_)
  ·have hc : ¬ (if i = 0 then p.node.shape else p.node.binds) = 0 := by simpa using hc
   refine AW.sr e5 ?_
   refine AW.ret ?_
   simp only [zs, simprocAttr]
   have hc' : patErr p = if i = 0 then p.node.shape else p.node.binds := by
    rw [hs]
    split at hc
    ·rename_i h; rw [if_pos h, if_neg hc]
    ·rename_i h; rw [if_neg h, if_pos (hq1 (by omega)), if_neg hc]
   all_goals ((try and_intros) <;> first | rfl | assumption | ((rw [hc'])))
  ·have hc : (if i = 0 then p.node.shape else p.node.binds) = 0 := by simpa using hc
   refine AW.skip ?_
   simp only [zs, simprocAttr]
   all_goals apply_assumption
   have q5q := J6 e1 l1 e20 e21 e22 hw
   refine AW.reg0 (S.rn q5q ?_)
   simp only [ze, simprocAttr, q5q]
   refine ⟨m - 1, by omega, i + 1, by omega, (fun _ => ?_), (fun _ => ?_), ?_⟩
   ·by_cases h : i = 0
    ·rw [if_pos h] at hc; exact hc
    ·exact hq1 (by omega)
   ·rw [if_neg (by omega)] at hc; exact hc
   all_goals ((try and_intros) <;> first | rfl | assumption | (rfl))
 ·have hi := of_decide_eq_false hi
  have hs0 := hq1 (by omega)
  rw [if_pos hs0, if_pos (hq2 (by omega))] at hs
  refine AW.exit ?_
  simp only [zs, simprocAttr]
  all_goals apply_assumption
  refine AW.seq_k fun K11 h11 => ?_
  refine AW.dv { sd := fun d => d == 1 } [(0,0),(2,0),(1,1),(3,1),(4,2),(5,2),(6,0)] ?_
  have q6q := J5 e1 l1 @encPat.eq_1 hE @nd
  iterate 2 refine D.one q6q ?_
  iterate 2 refine D.one q6q ?_
  (refine D.g rfl trivial rfl rfl fun Y Z => ?_; simp only [zz, simprocAttr, -Int.reduceNatCast', -Int.reduceToNat, e1, l1, encPat, hE, nd]; refine PCalls.eqto (Vars_spec hp.small (shape_err hs0)) ?_ <;> (refine Z _ _ ?_; clear Z Y))
  all_goals have q7q := J5 e1 l1 @encPat.eq_1 hE @nd
  all_goals (refine D.g rfl trivial rfl rfl fun Y Z => ?_; simp only [zz, simprocAttr, -Int.reduceNatCast', -Int.reduceToNat, q7q]; refine PCalls.eqto (conds_spec p.conds p.node.vars hp.conds hp.len (by omega)) ?_ <;> (refine Z _ _ ?_; clear Z Y))
  all_goals refine D.one q7q ?_
  all_goals (refine D.nil ?_; apply_assumption)
  refine AW.ret ?_
  all_goals simp only [zs, simprocAttr]
  all_goals ((try and_intros) <;> first | rfl | assumption | ((rw [hs])))
end Go.Abs.M
namespace Go.Abs.M
open Go Go.Abs Go.Proofs
variable [Mode]
set_option maxRecDepth 20000
set_option maxHeartbeats 4000000
structure okQ (p : List Bd) : Prop where
  len : p.length ≤ 12
  ok : okP p
  few : ∀ b ∈ p, b.ev.attrs.length ≤ 8
  time : ∀ b ∈ p, inI64 b.ev.time
theorem okQ.toL {p : List Bd} (h : okQ p) : okL p := ⟨by have := h.len; omega, fun b hb => by have := h.few b hb; omega⟩
theorem mg_okQ {p q m : List Bd} (hp : okQ p) (hq : okQ q) (hm : mg p q = some m) : okQ m := by
 obtain ⟨_, h1, _, _, h2⟩ := ofB_mrg hm []
 have hin : ∀ b ∈ m, b ∈ p ∨ b ∈ q := fun b hb => List.mem_append.1 (h2.subset hb)
 exact ⟨((part_iff m).1 h1).1, fun b hb => (hin b hb).elim (hp.ok b) (hq.ok b), fun b hb => (hin b hb).elim (hp.few b) (hq.few b), fun b hb => (hin b hb).elim (hp.time b) (hq.time b)⟩
def rowR (two : Bool) (p : List Bd) (out : List (List Bd)) : List (List Bd) → List (List Bd)
  | [] => out
  | q :: b => if late two p q then rowR two p out b else match mg p q with | some m => rowR two p (putP out m) b | none => rowR two p out b
def joinR (two : Bool) (b : List (List Bd)) (out : List (List Bd)) : List (List Bd) → List (List Bd)
  | [] => out
  | p :: a => if 4096 < (rowR two p out b).length then rowR two p out b else joinR two b (rowR two p out b) a
def leafGo (n : Nd) (out : List (List Bd)) : List Ev → List (List Bd)
  | [] => out
  | e :: r => leafGo n (if termB n e then putP out [⟨n.var, e⟩] else out) r
def stepR (kind : Int) : Option (List (List Bd)) → List (List Bd) → List (List Bd)
  | none, l => l
  | some a, l => if kind = 4 then l.foldl putP a else joinR (decide (kind = 2)) l [] a
def refGo (kind : Int) : Option (List (List Bd)) → List (Option (List (List Bd))) → Option (List (List Bd))
  | acc, [] => some (acc.getD [])
  | _, none :: _ => none
  | acc, some l :: r => if 4096 < (stepR kind acc l).length then none else refGo kind (some (stepR kind acc l)) r
def refF (evs : List Ev) (n : Nd) (l : List (Option (List (List Bd)))) : Option (List (List Bd)) := if n.kind = 1 then some (leafGo n [] evs) else refGo n.kind none l
def Nd.ref (evs : List Ev) (n : Nd) : Option (List (List Bd)) := n.para (refF evs)
theorem Nd.ref_eq (evs : List Ev) (n : Nd) : n.ref evs = if n.kind = 1 then some (leafGo n [] evs) else refGo n.kind none (n.kids.map (Nd.ref evs)) := Nd.para_eq _ n
structure okEvs (evs : List Ev) : Prop where
  len : evs.length ≤ 64
  ok : ∀ e ∈ evs, okE e
  few : ∀ e ∈ evs, e.attrs.length ≤ 8
  time : ∀ e ∈ evs, inI64 e.time
theorem leaf_okQ {n : Nd} {e : Ev} (hn : n.var.size < 4611686018427387904) (he : okE e) (hf : e.attrs.length ≤ 8) (ht : inI64 e.time) : okQ [⟨n.var, e⟩] :=
 ⟨by simp, fun b hb => by rw [List.mem_singleton.1 hb]; exact ⟨hn, he⟩, fun b hb => by rw [List.mem_singleton.1 hb]; exact hf, fun b hb => by rw [List.mem_singleton.1 hb]; exact ht⟩
def sameEv (a b : Ev) : Bool := a.src == b.src && a.seq == b.seq
def clashAt (l : List Ev) (i : Nat) : Bool := (List.range i).any fun j => sameEv (l.getD j noEv) (l.getD i noEv)
def badAt (l : List Ev) (i : Nat) : Bool := !(evErr (l.getD i noEv) == 0) || clashAt l i
def evsBad (l : List Ev) : Bool := (List.range l.length).any (badAt l)
def optO : Option (List (List Bd)) → List (List Bd) × Int
  | none => ([], 6)
  | some l => (l, 0)
def nodeOut (n : Nd) (evs : List Ev) (d : Option (List (List Bd))) : List (List Bd) × Int :=
  if n.shape = 0 then (if n.binds = 0 then (if 64 < evs.length then ([], 3) else if evsBad evs then ([], 110) else optO d) else ([], n.binds)) else ([], n.shape)
theorem range_any {p : Nat → Bool} {n i : Nat} (h : i < n) (hp : p i = true) : (List.range n).any p = true := List.any_eq_true.2 ⟨i, List.mem_range.2 h, hp⟩
theorem range_anyS {p : Nat → Bool} (i : Nat) : (List.range (i + 1)).any p = ((List.range i).any p || p i) := by rw [List.range_succ, List.any_append]; simp
theorem few_of {e : Ev} (h : evErr e = 0) : e.attrs.length ≤ 8 := by
 unfold evErr at h
 split at h
 ·cases h
 ·unfold attrsErr at h
  split at h
  ·cases h
  ·omega
theorem time_of {e : Ev} (h : evErr e = 0) : 0 ≤ e.time ∧ e.time ≤ 1099511627776 := by
 unfold evErr at h
 split at h
 ·cases h
 ·rename_i k
  simp only [not_or, timeOk, decide_eq_false_iff_not, Decidable.not_not] at k
  exact k.2.2.2.1
theorem time_in {e : Ev} (h : evErr e = 0) : inI64 e.time := by have := time_of h; unfold inI64; omega
theorem evsBad_no {l : List Ev} (h : evsBad l = false) : (∀ e ∈ l, evErr e = 0) ∧ Dist l := by
 have hat : ∀ i, i < l.length → badAt l i = false := fun i hi => by
  cases hb : badAt l i
  ·rfl
  ·rw [evsBad, range_any hi hb] at h; cases h
 constructor
 ·intro e he
  obtain ⟨i, hi⟩ := List.getElem?_of_mem he
  obtain ⟨hil, rfl⟩ := List.getElem?_eq_some_iff.1 hi
  have := hat i hil
  rw [badAt, Bool.or_eq_false_iff] at this
  have := this.1
  rw [List.getD_eq_getElem?_getD, hi] at this
  simpa using this
 ·rw [Dist, List.pairwise_iff_getElem]
  intro i j hi hj hij hs
  have := hat j hj
  rw [badAt, Bool.or_eq_false_iff] at this
  have := this.2
  rw [clashAt, range_any hij (by
   rw [List.getD_eq_getElem?_getD, List.getD_eq_getElem?_getD, List.getElem?_eq_getElem hi, List.getElem?_eq_getElem hj]
   simp [sameEv, hs.1, hs.2])] at this
  cases this
end Go.Abs.M
namespace Go.Proofs
open Go.Shelf
def Tryz.sort102_ren : Go.Shelf.Ren := ⟨fun | 6 => 102 | 15 => 132 | 14 => 131 | 28 => 165 | 29 => 166 | 20 => 157 | 21 => 158 | 22 => 159 | 23 => 160 | 24 => 161 | 25 => 162 | 26 => 163 | 27 => 164 | 46 => 179 | 47 => 180 | 48 => 181 | 49 => 182 | 50 => 183 | 57 => 198 | n => n, fun | 22 => 29 | 24 => 40 | 25 => 126 | 3 => 3 | 39 => 151 | 0 => 0 | 53 => 176 | 55 => 113 | 4 => 4 | 46 => 170 | 45 => 169 | 50 => 161 | 5 => 5 | 9 => 9 | 66 => 188 | 70 => 192 | 76 => 203 | 77 => 204 | n => n, fun | n => n⟩
theorem Tryz.sort102 : Go.Proofs.SlLaysF0.n6 Tryz.prog Tryz.sort102_ren := {
 mixed := by kernel_rfl
 f6 := ⟨Tryz.f102.name, by decide, Tryz.func102.trans (congrArg some (by kernel_rfl))⟩
 f14 := ⟨Tryz.f131.name, by decide, Tryz.func131.trans (congrArg some (by kernel_rfl))⟩
 f15 := Tryz.func132.trans (congrArg some (by kernel_rfl))
 f20 := ⟨Tryz.f157.name, by decide, Tryz.func157.trans (congrArg some (by kernel_rfl))⟩
 f21 := ⟨Tryz.f158.name, by decide, Tryz.func158.trans (congrArg some (by kernel_rfl))⟩
 f22 := ⟨Tryz.f159.name, by decide, Tryz.func159.trans (congrArg some (by kernel_rfl))⟩
 f23 := ⟨Tryz.f160.name, by decide, Tryz.func160.trans (congrArg some (by kernel_rfl))⟩
 f24 := ⟨Tryz.f161.name, by decide, Tryz.func161.trans (congrArg some (by kernel_rfl))⟩
 f25 := ⟨Tryz.f162.name, by decide, Tryz.func162.trans (congrArg some (by kernel_rfl))⟩
 f26 := ⟨Tryz.f163.name, by decide, Tryz.func163.trans (congrArg some (by kernel_rfl))⟩
 f27 := ⟨Tryz.f164.name, by decide, Tryz.func164.trans (congrArg some (by kernel_rfl))⟩
 f28 := Tryz.func165.trans (congrArg some (by kernel_rfl))
 f29 := Tryz.func166.trans (congrArg some (by kernel_rfl))
 f46 := ⟨Tryz.f179.name, by decide, Tryz.func179.trans (congrArg some (by kernel_rfl))⟩
 f47 := Tryz.func180.trans (congrArg some (by kernel_rfl))
 f48 := Tryz.func181.trans (congrArg some (by kernel_rfl))
 f49 := ⟨Tryz.f182.name, by decide, Tryz.func182.trans (congrArg some (by kernel_rfl))⟩
 f50 := ⟨Tryz.f183.name, by decide, Tryz.func183.trans (congrArg some (by kernel_rfl))⟩
 f57 := ⟨Tryz.f198.name, by decide, Tryz.func198.trans (congrArg some (by kernel_rfl))⟩
 t0 := Tryz.underlying0
 a0 := Tryz.isAgg0
 z0 := Tryz.sizeOf0
 v0 := Tryz.zeroValue0
 t3 := Tryz.underlying3
 a3 := Tryz.isAgg3
 z3 := Tryz.sizeOf3
 v3 := Tryz.zeroValue3
 t4 := Tryz.underlying4
 a4 := Tryz.isAgg4
 z4 := Tryz.sizeOf4
 v4 := Tryz.zeroValue4
 t5 := Tryz.underlying5
 a5 := Tryz.isAgg5
 z5 := Tryz.sizeOf5
 v5 := Tryz.zeroValue5
 t9 := Tryz.underlying9
 a9 := Tryz.isAgg9
 z9 := Tryz.sizeOf9
 v9 := Tryz.zeroValue9
 t22 := Tryz.underlying29
 a22 := Tryz.isAgg29
 z22 := Tryz.sizeOf29
 v22 := Tryz.zeroValue29
 t25 := Tryz.underlying126
 a25 := Tryz.isAgg126
 z25 := Tryz.sizeOf126
 v25 := Tryz.zeroValue126
 t39 := Tryz.underlying151
 a39 := Tryz.isAgg151
 z39 := Tryz.sizeOf151
 v39 := Tryz.zeroValue151
 t45 := Tryz.underlying169
 a45 := Tryz.isAgg169
 z45 := Tryz.sizeOf169
 v45 := Tryz.zeroValue169
 t46 := Tryz.underlying170
 a46 := Tryz.isAgg170
 z46 := Tryz.sizeOf170
 v46 := Tryz.zeroValue170
 t50 := Tryz.underlying161
 a50 := Tryz.isAgg161
 z50 := Tryz.sizeOf161
 v50 := Tryz.zeroValue161
 t53 := Tryz.underlying176
 a53 := Tryz.isAgg176
 z53 := Tryz.sizeOf176
 v53 := Tryz.zeroValue176
 t55 := Tryz.underlying113
 a55 := Tryz.isAgg113
 z55 := Tryz.sizeOf113
 v55 := Tryz.zeroValue113
 t66 := Tryz.underlying188
 a66 := Tryz.isAgg188
 z66 := Tryz.sizeOf188
 v66 := Tryz.zeroValue188
 t70 := Tryz.underlying192
 a70 := Tryz.isAgg192
 z70 := Tryz.sizeOf192
 v70 := Tryz.zeroValue192
 t76 := Tryz.underlying203
 a76 := Tryz.isAgg203
 z76 := Tryz.sizeOf203
 v76 := Tryz.zeroValue203
 t77 := Tryz.underlying204
 a77 := Tryz.isAgg204
 z77 := Tryz.sizeOf204
 v77 := Tryz.zeroValue204 }
end Go.Proofs
namespace Go.Abs.M
set_option maxHeartbeats 4000000
open Go Go.Abs Go.Proofs
variable [Mode]
set_option maxRecDepth 20000
def hpP (σ0 : Hp) (k : Nat) (l : List (List Bd)) : Hp := σ0.setGr k (some ((40, 1), l.map encP))
theorem sort_spec {σ : Hp} {k : Nat} {l : List (List Bd)} (hk : σ.gr k = some ((40, 1), l.map encP)) (hl : l.length < 4611686018427387904) (hlen : ∀ p ∈ l, p.length < 4611686018427387904) :
  ACalls Tryz.prog 102 [.gl k, .fn (.func 103) [] []] σ (fun v σ' => v = .tup [] ∧ ∃ l' : List (List Bd), l'.Perm l ∧ l'.Pairwise (fun a b => cmpL a b ≤ 0) ∧ σ' = hpP σ k l') := by
 have h := sortFunc_calls (P := Tryz.prog) (ρ := Tryz.sort102_ren) Tryz.sort102 (fun w => (run_isAgg (P := Tryz.prog) (w := w) ok40).trans (by rw [ag40])) (fun w => run_sizeOf (P := Tryz.prog) (w := w) sz40 (by decide)) (g := 103) (en := fun p : List Bd => V.sl (p.map encBd))
  (S := fun p => p.length < 4611686018427387904) (cf := cmpL) tri_L.flip tri_L.trans (fun a b ha _ => @compare_part (Mode.mk True) a b ha) (σ := σ) (k := k) (T := (40, 1)) (l := l) rfl hk hlen hl
 exact h
theorem same0_spec (a b : List Bd) (ha : a.length < 4611686018427387904) : PCalls Tryz.prog 105 [.agg [.sl (a.map encBd)], .agg [.sl (b.map encBd)]] (fun v => v = .c (.bool (cmpL a b == 0))) := by
 refine PCalls.intro Tryz.call105 Tryz.func105 rfl Tryz.ntmps105 Tryz.results105 (by simp) ?_
 refine AW.sr trivial ?_
 refine AW.seq_k fun K2 h2 => ?_
 refine AW.reg0 ?_
 iterate 2 refine S.one trivial ?_
 (refine S.g rfl rfl fun Y Z => ?_; simp only [zz, simprocAttr, -Int.reduceNatCast', -Int.reduceToNat]; refine PCalls.eqto (compare_part a b ha) ?_ <;> (refine Z _ _ ?_; clear Z Y))
 all_goals iterate 2 refine S.one trivial ?_
 all_goals (refine S.nil ?_; simp only [ze, simprocAttr]; apply_assumption)
 refine AW.ret ?_
 all_goals simp only [zs, simprocAttr]
 all_goals ((try and_intros) <;> first | rfl | assumption | (rfl))
theorem keep_end (x : List Bd) : keepFrom x [] = [] := by rw [keepFrom]
theorem take_get {l : List (List Bd)} {i : Nat} (h : i < l.length) : l.take (i + 1) = l.take i ++ [l.getD i []] := by
 rw [List.take_add_one, getD_part h]; rfl
theorem take_cut {α : Type} {A B : List α} {q : Nat} (h : q ≤ A.length) : (A.take q ++ B).take q = A.take q := by
 rw [List.take_append_of_le_length (by simp; omega), List.take_take, Nat.min_self]
theorem compact_spec {σ0 : Hp} {k : Nat} (l : List (List Bd)) (hl : l.length < 4611686018427387904) (hlen : ∀ p ∈ l, p.length < 4611686018427387904) :
  ACalls Tryz.prog 104 [.gl k, .fn (.func 105) [] []] (hpP σ0 k l) (fun v σ' => ∃ k', v = .gl k' ∧ (σ0.setGr k none).gr k' = none ∧ σ' = hpP (σ0.setGr k none) k' (compactL l)) := by
 have hsame : hpP (σ0.setGr k none) k l = hpP σ0 k l := by simp [hpP]
 have hfree : (σ0.setGr k none).gr k = none := by simp
 have ho : (hpP σ0 k l).gr k = some ((40, 1), l.map encP) := by simp [hpP]
 refine ACalls.intro Tryz.call104 Tryz.func104 rfl Tryz.ntmps104 Tryz.results104 (by simp) ?_
 refine AW.sr trivial ?_
 refine AW.seq_k fun K2 h2 => ?_
 refine AW.sr (J2 ho @List.length_map.{0,0}) ?_
 refine AW.cond (b := decide ((l.length : Int) < 2)) (by simp [ev]) (fun h2 => ?_) (fun h2 => ?_)
 ·have h2 : l.length < 2 := by have := of_decide_eq_true h2; omega
  have hc : compactL l = l := by
   match l, h2 with
   | [], _ => rfl
   | [x], _ => rw [compactL, keep_end]
  refine AW.sr trivial ?_
  refine AW.ret ?_
  simp only [zs, simprocAttr]
  exact ⟨k, rfl, hfree, by rw [hc, hsame]⟩
 have h2 : 2 ≤ l.length := by have := of_decide_eq_false h2; omega
 refine AW.skip ?_
 all_goals simp only [zs, simprocAttr]
 all_goals apply_assumption
 refine AW.seq_k fun K5 h5 => ?_
 all_goals refine AW.sr trivial ?_
 refine AW.block ?_   -- 0
 refine AW.loop (fun m s σ => ∃ i : Nat, m + i = l.length + 1 ∧ 1 ≤ i ∧ i ≤ l.length ∧ s.t 0 = .gl k ∧ s.t 1 = .fn (.func 105) [] [] ∧ s.t 5 = .c (.int .i64 (i : Nat)) ∧ σ = hpP σ0 k l ∧ compactL l = l.take i ++ keepFrom (l.getD (i - 1) []) (l.drop i)) l.length ?_ ?_
 ·refine ⟨1, by omega, by omega, by omega, ?_⟩
  simp only [zs, simprocAttr]
  all_goals ((try and_intros) <;> first | rfl | assumption | ((match l, h2 with | x :: r, _ => rfl)))
 rintro m s σ ⟨i, hm, hi1, hil, e0, e1, e5, rfl, hp⟩
 refine AW.seq_k fun K7 h7 => ?_
 all_goals refine AW.sr (J4 ho e0 e5 @List.length_map.{0,0}) ?_
 refine AW.cond (b := decide (i < l.length)) (by simp [ev]) (fun hi => ?_) (fun hi => ?_)
 ·have hi := of_decide_eq_true hi
  have hi2 : i - 1 < l.length := by omega
  obtain ⟨x, hx, hxm, hg, hd, hgx⟩ := part_get hi
  obtain ⟨y, hy, hym, hgy, hdy, hgyx⟩ := part_get hi2
  have hxl := hlen x hxm
  have hw := wadd1 (a := i) (by omega)
  have hws : IntKind.i64.wrap ((i : Int) - 1) = ((i - 1 : Nat) : Int) := by rw [wrap_small _ (by omega) (by omega)]; omega
  rw [hd, hgyx, keepFrom] at hp
  refine AW.skip ?_
  simp only [zs, simprocAttr]
  all_goals apply_assumption
  refine AW.seq_k fun K9 h9 => ?_
  refine AW.block ?_   -- 1
  refine AW.seq_j (fun s' σ' => σ' = hpP σ0 k l ∧ s'.t 0 = .gl k ∧ s'.t 1 = .fn (.func 105) [] [] ∧ s'.t 5 = .c (.int .i64 (i : Nat)) ∧ s'.t 28 = .c (.bool (cmpL x y == 0))) ?_ ?_
  ·generalize hsg : hpP σ0 k l = σ1 at ho ⊢
   refine AW.draw2 (T := { sd := fun _ => false }) (fun _ _ h => by cases h) mixedO [(0, 0), (1, 0), (2, 0), (3, 0), (5, 0), (6, 0), (7, 0), (8, 0)] 4 9 [(10, 2)] #[true, true, true, true, false, true, true, true, true, false, false] rfl (by kernel_rfl) (by kernel_rfl) (by kernel_rfl) (by kernel_rfl) (by kernel_rfl) ?_
   all_goals have q1q := J11 ho e0 e1 e5 hi hi2 hg hgy hws @encP.eq_1 @List.length_map.{0,0}
   all_goals iterate 8 refine D.one q1q ?_
   all_goals refine D.nil ⟨?_, ?_⟩
   all_goals iterate 2 refine D.one q1q ?_
   all_goals have q2q := J11 ho e0 e1 e5 hi hi2 hg hgy hws @encP.eq_1 @List.length_map.{0,0}
   all_goals (refine D.g rfl trivial rfl rfl fun Y Z => ?_; simp only [zz, simprocAttr, -Int.reduceNatCast', -Int.reduceToNat, q2q]; refine PCalls.eqto (same0_spec x y hxl) ?_ <;> (refine Z _ _ ?_; clear Z Y))
   all_goals refine D.nil ?_
   all_goals simp only [ze, simprocAttr, q2q]
   all_goals exact ⟨e0, e1, e5, rfl⟩
  rintro s2 σ ⟨rfl, e0, e1, e5, e28⟩
  refine AW.cond (b := cmpL x y == 0) e28 (fun hc => ?_) (fun hc => ?_)
  ·have hc : cmpL x y = 0 := by simpa using hc
   rw [if_pos hc] at hp
   have z1 : (∀ (e : List V), e ∈ l.map encP → e.length = 1) = True := eq_true (len_part l)
   have hp0 : 0 < l.length := by omega
   refine AW.sr (J8 ho e0 e5 z1 hp0 hi (Nat.le_of_lt hi) @List.length_map.{0,0}) ?_
   refine AW.seq_k fun K11 h11 => ?_
   refine AW.sr trivial ?_
   refine AW.block ?_   -- 2
   refine AW.loop (fun m2 s σ => ∃ (q j : Nat) (es : List (List Bd)), m2 + j = l.length - i + 1 ∧ 1 ≤ j ∧ j ≤ l.length - i ∧ q < i + j ∧ es.length = l.length ∧ es.drop (i + j - 1) = l.drop (i + j - 1) ∧ compactL l = es.take q ++ keepFrom (l.getD (i + j - 1) []) (l.drop (i + j)) ∧ s.t 0 = .gl k ∧ s.t 1 = .fn (.func 105) [] [] ∧ s.t 5 = .c (.int .i64 (q : Nat)) ∧ s.t 6 = .gv k i (l.length - i) ∧ s.t 7 = .c (.int .i64 (j : Nat)) ∧ σ = hpP σ0 k es) (l.length - i) ?_ ?_
   ·refine ⟨i, 1, l, by omega, by omega, by omega, by omega, rfl, rfl, by rw [hp, Nat.add_sub_cancel, hgx], ?_⟩
    simp only [zs, simprocAttr, e0, e1, e5]
    all_goals ((try and_intros) <;> first | rfl | assumption | (rfl))
   rintro m2 s σ ⟨q, j, es, hm2, hj1, hjn, hqi, hel, hed, hq, e0, e1, e5, e6, e7, rfl⟩
   have ho2 : (hpP σ0 k es).gr k = some ((40, 1), es.map encP) := by simp [hpP]
   refine AW.seq_k fun K13 h13 => ?_
   all_goals refine AW.sr (J2 e6 e7) ?_
   refine AW.cond (b := decide (j < l.length - i)) (by simp [ev]) (fun hj => ?_) (fun hj => ?_)
   ·have hj := of_decide_eq_true hj
    have hjm : j - 1 < l.length - i := by omega
    have ha1 : i + j < l.length := by omega
    have ha2 : i + j - 1 < l.length := by omega
    obtain ⟨x, hx, hxm, hg, hd, hgx⟩ := part_get ha1
    obtain ⟨y, hy, hym, hgy, hdy, hgyx⟩ := part_get ha2
    have hxl := hlen x hxm
    have hex : es[i + j]? = some x := by
     have := congrArg (fun t : List (List Bd) => t[1]?) hed
     simp only [List.getElem?_drop] at this
     rw [show i + j - 1 + 1 = i + j by omega] at this
     rw [this, hx]
    have hey : es[i + j - 1]? = some y := by
     have := congrArg (fun t : List (List Bd) => t[0]?) hed
     simp only [List.getElem?_drop, Nat.add_zero] at this
     rw [this, hy]
    have hgx2 : (es.map encP).getD (i + j) [] = encP x := by rw [List.getD_eq_getElem?_getD, List.getElem?_map, hex]; rfl
    have hgy2 : (es.map encP).getD (i + (j - 1)) [] = encP y := by rw [show i + (j - 1) = i + j - 1 by omega, List.getD_eq_getElem?_getD, List.getElem?_map, hey]; rfl
    have hwj := wadd1 (a := j) (by omega)
    have hwq := wadd1 (a := q) (by omega)
    have hws : IntKind.i64.wrap ((j : Int) - 1) = ((j - 1 : Nat) : Int) := by rw [wrap_small _ (by omega) (by omega)]; omega
    have hfit : i + (l.length - i) ≤ es.length := by omega
    have hin1 : i + j < es.length := by omega
    have hin2 : i + (j - 1) < es.length := by omega
    have hin3 : q < es.length := by omega
    rw [hgyx, hd, keepFrom] at hq
    have hdr : es.drop (i + j) = l.drop (i + j) := by
     have := congrArg (List.drop 1) hed
     rwa [List.drop_drop, List.drop_drop, show i + j - 1 + 1 = i + j by omega] at this
    have hgq : ((es.map encP).getD q []).length = 1 := by rw [getD_map hin3]; rfl
    refine AW.skip ?_
    all_goals simp only [zs, simprocAttr]
    all_goals apply_assumption
    refine AW.seq_j (fun s' σ' => ∃ (q' : Nat) (es' : List (List Bd)), q' < i + (j + 1) ∧ es'.length = l.length ∧ es'.drop (i + j) = l.drop (i + j) ∧ compactL l = es'.take q' ++ keepFrom x (l.drop (i + j + 1)) ∧ s'.t 0 = .gl k ∧ s'.t 1 = .fn (.func 105) [] [] ∧ s'.t 5 = .c (.int .i64 (q' : Nat)) ∧ s'.t 6 = .gv k i (l.length - i) ∧ s'.t 7 = .c (.int .i64 (j : Nat)) ∧ σ' = hpP σ0 k es') ?_ ?_
    ·refine AW.block ?_   -- 3
     refine AW.seq_j (fun s' σ' => σ' = hpP σ0 k es ∧ s'.t 0 = .gl k ∧ s'.t 1 = .fn (.func 105) [] [] ∧ s'.t 5 = .c (.int .i64 (q : Nat)) ∧ s'.t 6 = .gv k i (l.length - i) ∧ s'.t 7 = .c (.int .i64 (j : Nat)) ∧ s'.t 49 = .c (.bool (!(cmpL x y == 0)))) ?_ ?_
     ·generalize hsg : hpP σ0 k es = σ1 at ho2 ⊢
      refine AW.draw2 (T := { sd := fun _ => false }) (fun _ _ h => by cases h) mixedO [(0, 0), (1, 0), (2, 0), (3, 0), (5, 0), (6, 0), (7, 0), (8, 0)] 4 9 [(10, 2), (11, 0)] #[true, true, true, true, false, true, true, true, true, false, false, false] rfl (by kernel_rfl) (by kernel_rfl) (by kernel_rfl) (by kernel_rfl) (by kernel_rfl) ?_
      all_goals have q3q := J12 ho2 e0 e1 e5 e6 e7 hj hjm hfit hin1 hin2 (J5 hgx2 hgy2 hws @encP.eq_1 @List.length_map.{0,0})
      all_goals iterate 8 refine D.one q3q ?_
      all_goals refine D.nil ⟨?_, ?_⟩
      all_goals iterate 2 refine D.one q3q ?_
      all_goals have q4q := J12 ho2 e0 e1 e5 e6 e7 hj hjm hfit hin1 hin2 (J5 hgx2 hgy2 hws @encP.eq_1 @List.length_map.{0,0})
      all_goals (refine D.g rfl trivial rfl rfl fun Y Z => ?_; simp only [zz, simprocAttr, -Int.reduceNatCast', -Int.reduceToNat, q4q]; refine PCalls.eqto (same0_spec x y hxl) ?_ <;> (refine Z _ _ ?_; clear Z Y))
      all_goals refine D.one q4q ?_
      all_goals refine D.nil ?_
      all_goals simp only [ze, simprocAttr, q4q]
      all_goals exact ⟨e0, e1, e5, e6, e7, rfl⟩
     rintro s2 σ ⟨rfl, e0, e1, e5, e6, e7, e49⟩
     refine AW.cond (b := !(cmpL x y == 0)) e49 (fun hc => ?_) (fun hc => ?_)
     ·have hc : ¬ cmpL x y = 0 := by simpa using hc
      rw [if_neg hc] at hq
      unfold hpP at ho2 ⊢
      refine AW.sr (J12 ho2 e0 e1 e5 e6 e7 hj hfit hin1 hin3 hgx2 (J4 hgq @encP.eq_1 @List.length_map.{0,0} @List.length_set.{0})) ?_
      refine AW.reg0 (S.rn (J2 e5 hwq) ?_)
      simp only [ze, simprocAttr, e5, hwq]
      refine ⟨q + 1, es.set q x, by omega, by simp [hel], ?_, ?_, e0, e1, rfl, e6, e7, ?_⟩
      ·rw [List.drop_set_of_lt (by omega)]; exact hdr
      ·rw [hq, List.take_set, take_get hin3, List.set_append_right _ _ (by simp; omega)]
       simp [Nat.min_eq_left (Nat.le_of_lt hin3), List.append_assoc]
      ·simp [encP, List.map_set, List.getElem?_eq_getElem hin3]
     ·have hc : cmpL x y = 0 := by simpa using hc
      rw [if_pos hc] at hq
      refine AW.skip ?_
      simp only [zs, simprocAttr]
      exact ⟨q, es, by omega, hel, hdr, hq, e0, e1, e5, e6, e7, rfl⟩
    rintro s2 σ ⟨q', es', hq', hel', hed', hp', e0, e1, e5, e6, e7, rfl⟩
    all_goals refine AW.reg0 (S.rn (J2 e7 hwj) ?_)
    all_goals simp only [ze, simprocAttr, e7, hwj]
    refine ⟨m2 - 1, by omega, q', j + 1, es', by omega, by omega, by omega, hq', hel', by rw [show i + (j + 1) - 1 = i + j by omega]; exact hed', ?_, e0, e1, e5, e6, rfl, rfl⟩
    rw [hp', show i + (j + 1) - 1 = i + j by omega, hgx]; rfl
   ·have hj := of_decide_eq_false hj
    refine AW.exit ?_
    simp only [zs, simprocAttr]
    all_goals apply_assumption
    rw [List.drop_of_length_le (by omega), keep_end, List.append_nil] at hq
    have z2 : (∀ (e : List V), e ∈ es.map encP → e.length = 1) = True := eq_true (len_part es)
    have hp1 : 0 < es.length := by omega
    have hqe : q ≤ es.length := by omega
    have hqs : q + (es.length - q) ≤ es.length := by omega
    refine AW.sr (J8 ho2 e0 e5 z2 hp1 hqe hqs @List.length_map.{0,0}) ?_
    refine AW.seq_k fun K17 h17 => ?_
    refine AW.reg0 ?_
    iterate 2 refine S.one (J2 e0 e5) ?_
    (refine S.g rfl rfl fun Y Z => ?_; simp only [zz, simprocAttr, -Int.reduceNatCast', -Int.reduceToNat, tt, e0, e5]; refine ⟨by simp; omega, fun k1 hk1 => ?_⟩ <;> (refine Z _ _ ?_; clear Z Y))
    all_goals refine S.one (J2 e0 e5) ?_
    all_goals (refine S.nil ?_; simp only [ze, simprocAttr, e0, e5]; apply_assumption)
    refine AW.ret ?_
    all_goals simp only [zs, simprocAttr]
    refine ⟨k1, rfl, ?_, ?_⟩
    ·by_cases e : k1 = k
     ·simp [e]
     ·simpa [hpP, e] using hk1
    ·rw [hq, List.append_assoc, take_cut (by simp; omega)]
     simp [hpP]
  ·have hc : ¬ cmpL x y = 0 := by simpa using hc
   rw [if_neg hc] at hp
   refine AW.skip ?_
   simp only [zs, simprocAttr]
   all_goals apply_assumption
   refine AW.reg0 (S.rn (J2 e5 hw) ?_)
   simp only [ze, simprocAttr, e5, hw]
   have hp2 : compactL l = l.take (i + 1) ++ keepFrom (l.getD (i + 1 - 1) []) (l.drop (i + 1)) := by
    rw [hp, take_get hi, hgx, Nat.add_sub_cancel, hgx, List.append_assoc]; rfl
   refine ⟨m - 1, by omega, i + 1, by omega, by omega, by omega, ?_⟩
   all_goals ((try and_intros) <;> first | rfl | assumption | (exact hp2))
 ·have hi := of_decide_eq_false hi
  refine AW.exit ?_
  simp only [zs, simprocAttr]
  all_goals apply_assumption
  rw [List.drop_of_length_le (by omega), keep_end, List.append_nil, List.take_of_length_le (by omega)] at hp
  refine AW.sr e0 ?_
  refine AW.ret ?_
  simp only [zs, simprocAttr]
  exact ⟨k, rfl, hfree, by rw [hp, hsame]⟩
def matchB (p : Pat) (l : List Bd) : Bool := spanB p l && p.conds.all (condB l)
def allOut (p : Pat) (o : List (List Bd) × Int) : List (List Bd) × Int := if patErr p = 0 then (if o.2 = 0 then (o.1.filter (matchB p), 0) else ([], o.2)) else ([], patErr p)
theorem within_in {p : Pat} (h : patErr p = 0) : inI64 p.within := by
 unfold patErr at h
 split at h
 ·cases h
 ·rename_i k
  simp only [patOwn, Bool.or_eq_true, not_or, decide_eq_true_eq] at k
  unfold inI64; omega
def idxB {α : Type} (p : α → Bool) : Nat → List α → Int
  | _, [] => -1
  | i, x :: l => if p x then (i : Int) else idxB p (i + 1) l
theorem idxB_any {α : Type} (p : α → Bool) : ∀ (l : List α) (i : Nat), decide (idxB p i l ≥ 0) = l.any p
  | [], i => rfl
  | x :: l, i => by
    rw [idxB, List.any_cons]
    cases h : p x
    · rw [if_neg Bool.false_ne_true, Bool.false_or]; exact idxB_any p l (i + 1)
    · rw [if_pos rfl, Bool.true_or, decide_eq_true_eq]; omega
theorem idxB_cases {α : Type} (p : α → Bool) : ∀ (l : List α) (i : Nat), (idxB p i l = -1 ∧ ∀ x ∈ l, p x = false) ∨ ∃ k x, idxB p i l = ((i + k : Nat) : Int) ∧ l[k]? = some x ∧ p x = true ∧ ∀ y ∈ l.take k, p y = false
  | [], i => .inl ⟨rfl, fun x h => by cases h⟩
  | x :: l, i => by
    rw [idxB]
    cases h : p x
    · rw [if_neg Bool.false_ne_true]
      rcases idxB_cases p l (i + 1) with ⟨h1, h2⟩ | ⟨k, y, h1, h2, h3, h4⟩
      · exact .inl ⟨h1, fun y hy => by rcases List.mem_cons.1 hy with rfl | hy; exact h; exact h2 y hy⟩
      · refine .inr ⟨k + 1, y, by rw [h1]; congr 1; omega, by simpa using h2, h3, fun z hz => ?_⟩
        rw [List.take_succ_cons] at hz
        rcases List.mem_cons.1 hz with rfl | hz
        · exact h
        · exact h4 z hz
    · rw [if_pos rfl]
      exact .inr ⟨0, x, by simp, rfl, h, fun z hz => by simp at hz⟩
theorem at_get {α : Type} (enc : α → List V) {l : List α} {i : Nat} (h : i < l.length) : ∃ x, l[i]? = some x ∧ x ∈ l ∧ (l.map enc).getD i [] = enc x ∧ l.drop i = x :: l.drop (i + 1) := ⟨l[i], List.getElem?_eq_getElem h, List.getElem_mem h, getD_map h, List.drop_eq_getElem_cons h⟩
theorem idx57_spec {c : V} {g : Nat} {p : (List Bd) → Bool} (l : List (List Bd)) (hl : l.length < 4611686018427387904) (hk : wk c = c) (hv : okV c = true) (hf : ∀ a ∈ l, PCalls Tryz.prog g [.agg (encP a), c] (fun v => v = .c (.bool (p a)))) :
  PCalls Tryz.prog 57 [.sl (l.map encP), .fn (.func g) [] [c]] (fun v => v = .c (.int .i64 (idxB p 0 l))) := by
 refine PCalls.intro Tryz.call57 Tryz.func57 rfl Tryz.ntmps57 Tryz.results57 (by simp) ?_
 refine AW.sr trivial ?_
 refine AW.seq_k fun K2 h2 => ?_
 refine AW.sr @List.length_map.{0,0} ?_
 refine AW.block ?_   -- 0
 refine AW.loop (fun m s σ => σ = Hp.empty ∧ ∃ i : Nat, m + i = l.length ∧ s.t 0 = .sl (l.map encP) ∧ s.t 1 = .fn (.func g) [] [c] ∧ s.t 7 = .c (.int .i64 (l.length : Nat)) ∧ s.t 8 = .c (.int .i64 (i : Nat)) ∧ idxB p 0 l = idxB p i (l.drop i)) l.length ?_ ?_
 ·refine ⟨rfl, 0, by simp, ?_⟩
  simp only [zs, simprocAttr]
  all_goals ((try and_intros) <;> first | rfl | assumption | (rfl))
 rintro m s σ ⟨rfl, i, hm, e0, e1, e7, e8, hp⟩
 all_goals refine AW.sr (J2 e7 e8) ?_
 refine AW.seq_k fun K5 h5 => ?_
 refine AW.cond (b := decide (i < l.length)) (by simp [ev]) (fun hc => ?_) (fun hc => ?_)
 ·have hi := of_decide_eq_true hc
  obtain ⟨x, hx, hxm, hg, hd⟩ := at_get encP hi
  have hw := wadd1 (a := i) (by omega)
  rw [hd, idxB] at hp
  refine AW.skip ?_
  simp only [zs, simprocAttr]
  all_goals apply_assumption
  refine AW.seq_k fun K6 h6 => ?_
  refine AW.block ?_   -- 1
  refine AW.sr e8 ?_
  refine AW.seq_k fun K8 h8 => ?_
  refine AW.reg0 ?_
  iterate 5 refine S.one (J8 e0 e1 hi hg hv hk @encP.eq_1 @List.length_map.{0,0}) ?_
  have q1q := J8 e0 e1 hi hg hv hk @encP.eq_1 @List.length_map.{0,0}
  (refine S.g rfl rfl fun Y Z => ?_; simp only [zz, simprocAttr, -Int.reduceNatCast', -Int.reduceToNat, q1q]; refine PCalls.eqto (hf x hxm) ?_ <;> (refine Z _ _ ?_; clear Z Y))
  all_goals (refine S.nil ?_; simp only [ze, simprocAttr, q1q]; apply_assumption)
  refine AW.cond (b := p x) (by simp [ev]) (fun hc2 => ?_) (fun hc2 => ?_)
  ·refine AW.sr trivial ?_
   refine AW.ret ?_
   simp only [zs, simprocAttr]
   rw [hp, if_pos hc2]
  ·refine AW.skip ?_
   simp only [zs, simprocAttr]
   all_goals apply_assumption
   rw [hc2, if_neg Bool.false_ne_true] at hp
   have q2q := J5 e8 hw e0 e1 e7
   refine AW.reg0 (S.rn q2q ?_)
   simp only [ze, simprocAttr, q2q]
   refine ⟨m - 1, by omega, i + 1, by omega, ?_⟩
   all_goals ((try and_intros) <;> first | rfl | assumption | (exact hp))
 ·have hi := of_decide_eq_false hc
  refine AW.exit ?_
  simp only [zs, simprocAttr]
  all_goals apply_assumption
  rw [List.drop_of_length_le (by omega), idxB] at hp
  refine AW.sr trivial ?_
  refine AW.ret ?_
  simp only [zs, simprocAttr]
  rw [hp]
theorem idx119_spec {c : V} {g : Nat} {p : Nd → Bool} (l : List Nd) (hl : l.length < 4611686018427387904) (hk : wk c = c) (hv : okV c = true) (hf : ∀ a ∈ l, PCalls Tryz.prog g [.agg (encNd a), c] (fun v => v = .c (.bool (p a)))) :
  PCalls Tryz.prog 119 [.sl (l.map encNd), .fn (.func g) [] [c]] (fun v => v = .c (.int .i64 (idxB p 0 l))) := by
 refine PCalls.intro Tryz.call119 Tryz.func119 rfl Tryz.ntmps119 Tryz.results119 (by simp) ?_
 refine AW.sr trivial ?_
 refine AW.seq_k fun K2 h2 => ?_
 refine AW.sr @List.length_map.{0,0} ?_
 refine AW.block ?_   -- 0
 refine AW.loop (fun m s σ => σ = Hp.empty ∧ ∃ i : Nat, m + i = l.length ∧ s.t 0 = .sl (l.map encNd) ∧ s.t 1 = .fn (.func g) [] [c] ∧ s.t 7 = .c (.int .i64 (l.length : Nat)) ∧ s.t 8 = .c (.int .i64 (i : Nat)) ∧ idxB p 0 l = idxB p i (l.drop i)) l.length ?_ ?_
 ·refine ⟨rfl, 0, by simp, ?_⟩
  simp only [zs, simprocAttr]
  all_goals ((try and_intros) <;> first | rfl | assumption | (rfl))
 rintro m s σ ⟨rfl, i, hm, e0, e1, e7, e8, hp⟩
 all_goals refine AW.sr (J2 e7 e8) ?_
 refine AW.seq_k fun K5 h5 => ?_
 refine AW.cond (b := decide (i < l.length)) (by simp [ev]) (fun hc => ?_) (fun hc => ?_)
 ·have hi := of_decide_eq_true hc
  obtain ⟨x, hx, hxm, hg, hd⟩ := at_get encNd hi
  have hw := wadd1 (a := i) (by omega)
  rw [hd, idxB] at hp
  refine AW.skip ?_
  simp only [zs, simprocAttr]
  all_goals apply_assumption
  refine AW.seq_k fun K6 h6 => ?_
  refine AW.block ?_   -- 1
  refine AW.sr e8 ?_
  refine AW.seq_k fun K8 h8 => ?_
  refine AW.reg0 ?_
  iterate 5 refine S.one (J8 e0 e1 hi hg hv hk @nd @List.length_map.{0,0}) ?_
  have q1q := J8 e0 e1 hi hg hv hk @nd @List.length_map.{0,0}
  (refine S.g rfl rfl fun Y Z => ?_; simp only [zz, simprocAttr, -Int.reduceNatCast', -Int.reduceToNat, q1q]; refine PCalls.eqto (hf x hxm) ?_ <;> (refine Z _ _ ?_; clear Z Y))
  all_goals (refine S.nil ?_; simp only [ze, simprocAttr, q1q]; apply_assumption)
  refine AW.cond (b := p x) (by simp [ev]) (fun hc2 => ?_) (fun hc2 => ?_)
  ·refine AW.sr trivial ?_
   refine AW.ret ?_
   simp only [zs, simprocAttr]
   rw [hp, if_pos hc2]
  ·refine AW.skip ?_
   simp only [zs, simprocAttr]
   all_goals apply_assumption
   rw [hc2, if_neg Bool.false_ne_true] at hp
   have q2q := J5 e8 hw e0 e1 e7
   refine AW.reg0 (S.rn q2q ?_)
   simp only [ze, simprocAttr, q2q]
   refine ⟨m - 1, by omega, i + 1, by omega, ?_⟩
   all_goals ((try and_intros) <;> first | rfl | assumption | (exact hp))
 ·have hi := of_decide_eq_false hc
  refine AW.exit ?_
  simp only [zs, simprocAttr]
  all_goals apply_assumption
  rw [List.drop_of_length_le (by omega), idxB] at hp
  refine AW.sr trivial ?_
  refine AW.ret ?_
  simp only [zs, simprocAttr]
  rw [hp]
theorem any85_spec {c : V} {g : Nat} {p : Nd → Bool} (l : List Nd) (hl : l.length < 4611686018427387904) (hk : wk c = c) (hv : okV c = true) (hf : ∀ a ∈ l, PCalls Tryz.prog g [.agg (encNd a), c] (fun v => v = .c (.bool (p a)))) :
  PCalls Tryz.prog 85 [.sl (l.map encNd), .fn (.func g) [] [c]] (fun v => v = .c (.bool (l.any p))) := by
 have hh := idxB_any p l 0
 refine PCalls.intro Tryz.call85 Tryz.func85 rfl Tryz.ntmps85 Tryz.results85 (by simp) ?_
 refine AW.sr trivial ?_
 refine AW.seq_k fun K2 h2 => ?_
 refine AW.reg0 ?_
 iterate 2 refine S.one (J3 hv hk hh) ?_
 (refine S.g rfl rfl fun Y Z => ?_; simp only [zz, simprocAttr, -Int.reduceNatCast', -Int.reduceToNat, hv, hk, hh]; refine PCalls.eqto (idx119_spec l hl hk hv hf) ?_ <;> (refine Z _ _ ?_; clear Z Y))
 all_goals iterate 2 refine S.one (J3 hv hk hh) ?_
 all_goals (refine S.nil ?_; simp only [ze, simprocAttr, hv, hk, hh]; apply_assumption)
 refine AW.ret ?_
 all_goals simp only [zs, simprocAttr]
 all_goals ((try and_intros) <;> first | rfl | assumption | (rfl))
theorem idx127_spec {c : V} {g : Nat} {p : Cnd → Bool} (l : List Cnd) (hl : l.length < 4611686018427387904) (hk : wk c = c) (hv : okV c = true) (hf : ∀ a ∈ l, PCalls Tryz.prog g [.agg (encC a), c] (fun v => v = .c (.bool (p a)))) :
  PCalls Tryz.prog 127 [.sl (l.map encC), .fn (.func g) [] [c]] (fun v => v = .c (.int .i64 (idxB p 0 l))) := by
 refine PCalls.intro Tryz.call127 Tryz.func127 rfl Tryz.ntmps127 Tryz.results127 (by simp) ?_
 refine AW.sr trivial ?_
 refine AW.seq_k fun K2 h2 => ?_
 refine AW.sr @List.length_map.{0,0} ?_
 refine AW.block ?_   -- 0
 refine AW.loop (fun m s σ => σ = Hp.empty ∧ ∃ i : Nat, m + i = l.length ∧ s.t 0 = .sl (l.map encC) ∧ s.t 1 = .fn (.func g) [] [c] ∧ s.t 7 = .c (.int .i64 (l.length : Nat)) ∧ s.t 8 = .c (.int .i64 (i : Nat)) ∧ idxB p 0 l = idxB p i (l.drop i)) l.length ?_ ?_
 ·refine ⟨rfl, 0, by simp, ?_⟩
  simp only [zs, simprocAttr]
  all_goals ((try and_intros) <;> first | rfl | assumption | (rfl))
 rintro m s σ ⟨rfl, i, hm, e0, e1, e7, e8, hp⟩
 all_goals refine AW.sr (J2 e7 e8) ?_
 refine AW.seq_k fun K5 h5 => ?_
 refine AW.cond (b := decide (i < l.length)) (by simp [ev]) (fun hc => ?_) (fun hc => ?_)
 ·have hi := of_decide_eq_true hc
  obtain ⟨x, hx, hxm, hg, hd⟩ := at_get encC hi
  have hw := wadd1 (a := i) (by omega)
  rw [hd, idxB] at hp
  refine AW.skip ?_
  simp only [zs, simprocAttr]
  all_goals apply_assumption
  refine AW.seq_k fun K6 h6 => ?_
  refine AW.block ?_   -- 1
  refine AW.sr e8 ?_
  refine AW.seq_k fun K8 h8 => ?_
  refine AW.reg0 ?_
  iterate 5 refine S.one (J8 e0 e1 hi hg hv hk @cd @List.length_map.{0,0}) ?_
  have q1q := J8 e0 e1 hi hg hv hk @cd @List.length_map.{0,0}
  (refine S.g rfl rfl fun Y Z => ?_; simp only [zz, simprocAttr, -Int.reduceNatCast', -Int.reduceToNat, q1q]; refine PCalls.eqto (hf x hxm) ?_ <;> (refine Z _ _ ?_; clear Z Y))
  all_goals (refine S.nil ?_; simp only [ze, simprocAttr, q1q]; apply_assumption)
  refine AW.cond (b := p x) (by simp [ev]) (fun hc2 => ?_) (fun hc2 => ?_)
  ·refine AW.sr trivial ?_
   refine AW.ret ?_
   simp only [zs, simprocAttr]
   rw [hp, if_pos hc2]
  ·refine AW.skip ?_
   simp only [zs, simprocAttr]
   all_goals apply_assumption
   rw [hc2, if_neg Bool.false_ne_true] at hp
   have q2q := J5 e8 hw e0 e1 e7
   refine AW.reg0 (S.rn q2q ?_)
   simp only [ze, simprocAttr, q2q]
   refine ⟨m - 1, by omega, i + 1, by omega, ?_⟩
   all_goals ((try and_intros) <;> first | rfl | assumption | (exact hp))
 ·have hi := of_decide_eq_false hc
  refine AW.exit ?_
  simp only [zs, simprocAttr]
  all_goals apply_assumption
  rw [List.drop_of_length_le (by omega), idxB] at hp
  refine AW.sr trivial ?_
  refine AW.ret ?_
  simp only [zs, simprocAttr]
  rw [hp]
theorem any99_spec {c : V} {g : Nat} {p : Cnd → Bool} (l : List Cnd) (hl : l.length < 4611686018427387904) (hk : wk c = c) (hv : okV c = true) (hf : ∀ a ∈ l, PCalls Tryz.prog g [.agg (encC a), c] (fun v => v = .c (.bool (p a)))) :
  PCalls Tryz.prog 99 [.sl (l.map encC), .fn (.func g) [] [c]] (fun v => v = .c (.bool (l.any p))) := by
 have hh := idxB_any p l 0
 refine PCalls.intro Tryz.call99 Tryz.func99 rfl Tryz.ntmps99 Tryz.results99 (by simp) ?_
 refine AW.sr trivial ?_
 refine AW.seq_k fun K2 h2 => ?_
 refine AW.reg0 ?_
 iterate 2 refine S.one (J3 hv hk hh) ?_
 (refine S.g rfl rfl fun Y Z => ?_; simp only [zz, simprocAttr, -Int.reduceNatCast', -Int.reduceToNat, hv, hk, hh]; refine PCalls.eqto (idx127_spec l hl hk hv hf) ?_ <;> (refine Z _ _ ?_; clear Z Y))
 all_goals iterate 2 refine S.one (J3 hv hk hh) ?_
 all_goals (refine S.nil ?_; simp only [ze, simprocAttr, hv, hk, hh]; apply_assumption)
 refine AW.ret ?_
 all_goals simp only [zs, simprocAttr]
 all_goals ((try and_intros) <;> first | rfl | assumption | (rfl))
theorem idx153_spec {c : V} {g : Nat} {p : Attr → Bool} (l : List Attr) (hl : l.length < 4611686018427387904) (hk : wk c = c) (hv : okV c = true) (hf : ∀ a ∈ l, PCalls Tryz.prog g [.agg (encAttr a), c] (fun v => v = .c (.bool (p a)))) :
  PCalls Tryz.prog 153 [.sl (l.map encAttr), .fn (.func g) [] [c]] (fun v => v = .c (.int .i64 (idxB p 0 l))) := by
 refine PCalls.intro Tryz.call153 Tryz.func153 rfl Tryz.ntmps153 Tryz.results153 (by simp) ?_
 refine AW.sr trivial ?_
 refine AW.seq_k fun K2 h2 => ?_
 refine AW.sr @List.length_map.{0,0} ?_
 refine AW.block ?_   -- 0
 refine AW.loop (fun m s σ => σ = Hp.empty ∧ ∃ i : Nat, m + i = l.length ∧ s.t 0 = .sl (l.map encAttr) ∧ s.t 1 = .fn (.func g) [] [c] ∧ s.t 7 = .c (.int .i64 (l.length : Nat)) ∧ s.t 8 = .c (.int .i64 (i : Nat)) ∧ idxB p 0 l = idxB p i (l.drop i)) l.length ?_ ?_
 ·refine ⟨rfl, 0, by simp, ?_⟩
  simp only [zs, simprocAttr]
  all_goals ((try and_intros) <;> first | rfl | assumption | (rfl))
 rintro m s σ ⟨rfl, i, hm, e0, e1, e7, e8, hp⟩
 all_goals refine AW.sr (J2 e7 e8) ?_
 refine AW.seq_k fun K5 h5 => ?_
 refine AW.cond (b := decide (i < l.length)) (by simp [ev]) (fun hc => ?_) (fun hc => ?_)
 ·have hi := of_decide_eq_true hc
  obtain ⟨x, hx, hxm, hg, hd⟩ := at_get encAttr hi
  have hw := wadd1 (a := i) (by omega)
  rw [hd, idxB] at hp
  refine AW.skip ?_
  simp only [zs, simprocAttr]
  all_goals apply_assumption
  refine AW.seq_k fun K6 h6 => ?_
  refine AW.block ?_   -- 1
  refine AW.sr e8 ?_
  refine AW.seq_k fun K8 h8 => ?_
  refine AW.reg0 ?_
  iterate 5 refine S.one (J8 e0 e1 hi hg hv hk @encAttr.eq_1 @List.length_map.{0,0}) ?_
  have q1q := J8 e0 e1 hi hg hv hk @encAttr.eq_1 @List.length_map.{0,0}
  (refine S.g rfl rfl fun Y Z => ?_; simp only [zz, simprocAttr, -Int.reduceNatCast', -Int.reduceToNat, q1q]; refine PCalls.eqto (hf x hxm) ?_ <;> (refine Z _ _ ?_; clear Z Y))
  all_goals (refine S.nil ?_; simp only [ze, simprocAttr, q1q]; apply_assumption)
  refine AW.cond (b := p x) (by simp [ev]) (fun hc2 => ?_) (fun hc2 => ?_)
  ·refine AW.sr trivial ?_
   refine AW.ret ?_
   simp only [zs, simprocAttr]
   rw [hp, if_pos hc2]
  ·refine AW.skip ?_
   simp only [zs, simprocAttr]
   all_goals apply_assumption
   rw [hc2, if_neg Bool.false_ne_true] at hp
   have q2q := J5 e8 hw e0 e1 e7
   refine AW.reg0 (S.rn q2q ?_)
   simp only [ze, simprocAttr, q2q]
   refine ⟨m - 1, by omega, i + 1, by omega, ?_⟩
   all_goals ((try and_intros) <;> first | rfl | assumption | (exact hp))
 ·have hi := of_decide_eq_false hc
  refine AW.exit ?_
  simp only [zs, simprocAttr]
  all_goals apply_assumption
  rw [List.drop_of_length_le (by omega), idxB] at hp
  refine AW.sr trivial ?_
  refine AW.ret ?_
  simp only [zs, simprocAttr]
  rw [hp]
theorem idx174_spec {c : V} {g : Nat} {p : Bd → Bool} (l : List Bd) (hl : l.length < 4611686018427387904) (hk : wk c = c) (hv : okV c = true) (hf : ∀ a ∈ l, PCalls Tryz.prog g [.agg (encBd a), c] (fun v => v = .c (.bool (p a)))) :
  PCalls Tryz.prog 174 [.sl (l.map encBd), .fn (.func g) [] [c]] (fun v => v = .c (.int .i64 (idxB p 0 l))) := by
 refine PCalls.intro Tryz.call174 Tryz.func174 rfl Tryz.ntmps174 Tryz.results174 (by simp) ?_
 refine AW.sr trivial ?_
 refine AW.seq_k fun K2 h2 => ?_
 refine AW.sr @List.length_map.{0,0} ?_
 refine AW.block ?_   -- 0
 refine AW.loop (fun m s σ => σ = Hp.empty ∧ ∃ i : Nat, m + i = l.length ∧ s.t 0 = .sl (l.map encBd) ∧ s.t 1 = .fn (.func g) [] [c] ∧ s.t 7 = .c (.int .i64 (l.length : Nat)) ∧ s.t 8 = .c (.int .i64 (i : Nat)) ∧ idxB p 0 l = idxB p i (l.drop i)) l.length ?_ ?_
 ·refine ⟨rfl, 0, by simp, ?_⟩
  simp only [zs, simprocAttr]
  all_goals ((try and_intros) <;> first | rfl | assumption | (rfl))
 rintro m s σ ⟨rfl, i, hm, e0, e1, e7, e8, hp⟩
 all_goals refine AW.sr (J2 e7 e8) ?_
 refine AW.seq_k fun K5 h5 => ?_
 refine AW.cond (b := decide (i < l.length)) (by simp [ev]) (fun hc => ?_) (fun hc => ?_)
 ·have hi := of_decide_eq_true hc
  obtain ⟨x, hx, hxm, hg, hd⟩ := at_get encBd hi
  have hw := wadd1 (a := i) (by omega)
  rw [hd, idxB] at hp
  refine AW.skip ?_
  simp only [zs, simprocAttr]
  all_goals apply_assumption
  refine AW.seq_k fun K6 h6 => ?_
  refine AW.block ?_   -- 1
  refine AW.sr e8 ?_
  refine AW.seq_k fun K8 h8 => ?_
  refine AW.reg0 ?_
  iterate 5 refine S.one (J8 e0 e1 hi hg hv hk @encBd.eq_1 @List.length_map.{0,0}) ?_
  have q1q := J8 e0 e1 hi hg hv hk @encBd.eq_1 @List.length_map.{0,0}
  (refine S.g rfl rfl fun Y Z => ?_; simp only [zz, simprocAttr, -Int.reduceNatCast', -Int.reduceToNat, q1q]; refine PCalls.eqto (hf x hxm) ?_ <;> (refine Z _ _ ?_; clear Z Y))
  all_goals (refine S.nil ?_; simp only [ze, simprocAttr, q1q]; apply_assumption)
  refine AW.cond (b := p x) (by simp [ev]) (fun hc2 => ?_) (fun hc2 => ?_)
  ·refine AW.sr trivial ?_
   refine AW.ret ?_
   simp only [zs, simprocAttr]
   rw [hp, if_pos hc2]
  ·refine AW.skip ?_
   simp only [zs, simprocAttr]
   all_goals apply_assumption
   rw [hc2, if_neg Bool.false_ne_true] at hp
   have q2q := J5 e8 hw e0 e1 e7
   refine AW.reg0 (S.rn q2q ?_)
   simp only [ze, simprocAttr, q2q]
   refine ⟨m - 1, by omega, i + 1, by omega, ?_⟩
   all_goals ((try and_intros) <;> first | rfl | assumption | (exact hp))
 ·have hi := of_decide_eq_false hc
  refine AW.exit ?_
  simp only [zs, simprocAttr]
  all_goals apply_assumption
  rw [List.drop_of_length_le (by omega), idxB] at hp
  refine AW.sr trivial ?_
  refine AW.ret ?_
  simp only [zs, simprocAttr]
  rw [hp]
def cap (cells : List V) : V := .ip [cells] 0 0
theorem cap_wk (cells : List V) : wk (cap cells) = cap cells := rfl
theorem cap_ok (cells : List V) : okV (cap cells) = true := rfl
theorem getF_spec (a : Attr) (nm : ByteArray) : PCalls Tryz.prog 154 [.agg (encAttr a), cap [.c (.string nm)]] (fun v => v = .c (.bool (eqS a.name nm))) := by
 refine PCalls.intro Tryz.call154 Tryz.func154 rfl Tryz.ntmps154 Tryz.results154 (by simp) ?_
 refine AW.sr (J2 @encAttr.eq_1 @cap.eq_1) ?_
 refine AW.sr trivial ?_
 refine AW.ret ?_
 simp only [zs, simprocAttr]
 all_goals ((try and_intros) <;> first | rfl | assumption | (rfl))
theorem getV_none {nm : ByteArray} : ∀ {l : List Attr}, (∀ x ∈ l, eqS x.name nm = false) → getV nm l = (noVal, false)
 | [], _ => rfl
 | x :: l, h => by rw [getV, h x List.mem_cons_self, if_neg Bool.false_ne_true]; exact getV_none fun y hy => h y (List.mem_cons_of_mem _ hy)
theorem getV_at {nm : ByteArray} : ∀ {l : List Attr} {k : Nat} {x : Attr}, l[k]? = some x → eqS x.name nm = true → (∀ y ∈ l.take k, eqS y.name nm = false) → getV nm l = (x.v, true)
  | [], k, x, h, _, _ => by simp at h
  | y :: l, 0, x, h, he, _ => by simp at h; subst h; rw [getV, if_pos he]
  | y :: l, k + 1, x, h, he, hn => by
    rw [List.take_succ_cons] at hn
    rw [getV, hn y List.mem_cons_self, if_neg Bool.false_ne_true]
    exact getV_at (by simpa using h) he fun z hz => hn z (List.mem_cons_of_mem _ hz)
theorem Get_spec (l : List Attr) (nm : ByteArray) (hl : l.length < 4611686018427387904) : PCalls Tryz.prog 129 [.sl (l.map encAttr), .c (.string nm)] (fun v => v = .tup [.agg (encVal (getV nm l).1), .c (.bool (getV nm l).2)]) := by
 refine PCalls.intro Tryz.call129 Tryz.func129 rfl Tryz.ntmps129 Tryz.results129 (by simp) ?_
 refine AW.seq_j (fun s σ => σ = Hp.empty ∧ s.t 0 = .sl (l.map encAttr) ∧ s.t 3 = .lp 3 0 ∧ s.l 3 = some [.c (.string nm)] ∧ s.t 4 = .lp 4 0 ∧ s.l 4 = some [.c (.int .i64 0), .c (.int .i64 0), .c (.string ⟨#[]⟩)]) ?_ ?_
 ·skip
  refine AW.reg0 (S.rn trivial ?_)
  simp only [ze, simprocAttr]
  all_goals ((try and_intros) <;> first | rfl | assumption | (rfl))
 rintro s σ ⟨rfl, e0, e3, l3, e4, l4⟩
 refine AW.hushBox l3 (by simp) ?_
 have f0 : (s.bx 3 [.c (.string nm)]).t 0 = .sl (l.map encAttr) := by simp [e0, bxV]
 have f3 : (s.bx 3 [.c (.string nm)]).t 3 = cap [.c (.string nm)] := by simp [e3, bxV, cap]
 have f4 : (s.bx 3 [.c (.string nm)]).t 4 = .lp 4 0 := by simp [e4, bxV]
 have g4 : (s.bx 3 [.c (.string nm)]).l 4 = some [.c (.int .i64 0), .c (.int .i64 0), .c (.string ⟨#[]⟩)] := by simp [l4]
 generalize s.bx 3 [.c (.string nm)] = s at *
 refine AW.seq_k fun K1 h1 => ?_
 all_goals refine AW.reg0 ?_
 all_goals iterate 2 refine S.one (J3 f0 f3 @cap_ok) ?_
 all_goals have q1q := J3 f0 f3 @cap_ok
 all_goals (refine S.g rfl rfl fun Y Z => ?_; simp only [zz, simprocAttr, -Int.reduceNatCast', -Int.reduceToNat, q1q]; refine PCalls.eqto (idx153_spec l hl (cap_wk _) (cap_ok _) (fun a _ => getF_spec a nm)) ?_ <;> (refine Z _ _ ?_; clear Z Y))
 all_goals refine S.one q1q ?_
 all_goals (refine S.nil ?_; simp only [ze, simprocAttr, q1q]; apply_assumption)
 refine AW.seq_k fun K2 h2 => ?_
 all_goals refine AW.sr trivial ?_
 refine AW.cond (b := decide (idxB (fun a => eqS a.name nm) 0 l < 0)) (by simp [ev]) (fun hb => ?_) (fun hb => ?_)
 ·have hb := of_decide_eq_true hb
  have hv : getV nm l = (noVal, false) := by
   rcases idxB_cases (fun a : Attr => eqS a.name nm) l 0 with ⟨_, h⟩ | ⟨k, x, h, _⟩
   ·exact getV_none h
   ·omega
  refine AW.sr (J2 f4 g4) ?_
  refine AW.ret ?_
  simp only [zs, simprocAttr, zz, tt, f4, g4]
  all_goals ((try and_intros) <;> first | rfl | assumption | (((rw [hv]) <;> rfl)))
 ·have hb := of_decide_eq_false hb
  rcases idxB_cases (fun a : Attr => eqS a.name nm) l 0 with ⟨h, _⟩ | ⟨k, x, h, hx, he, hn⟩
  ·omega
  have hv := getV_at hx he hn
  have hk : k < l.length := (List.getElem?_eq_some_iff.1 hx).1
  have hg : (l.map encAttr).getD k [] = encAttr x := by rw [getD_map hk, (List.getElem?_eq_some_iff.1 hx).2]
  rw [Nat.zero_add] at h
  refine AW.skip ?_
  all_goals simp only [zs, simprocAttr]
  all_goals apply_assumption
  all_goals refine AW.sr (J8 f0 f4 g4 h hk hg @encAttr.eq_1 @List.length_map.{0,0}) ?_
  refine AW.ret ?_
  all_goals simp only [zs, simprocAttr, zz, tt, f4, g4]
  all_goals ((try and_intros) <;> first | rfl | assumption | (((rw [hv]) <;> rfl)))
theorem of1_spec (o : Opd) (e : Ev) (he : e.attrs.length < 4611686018427387904) : PCalls Tryz.prog 128 [.agg (encO o), cap (encEv e)] (fun v => v = .agg (encVal (opVal o e))) := by
 refine PCalls.intro Tryz.call128 Tryz.func128 rfl Tryz.ntmps128 Tryz.results128 (by simp) ?_
 refine AW.sr (J3 @encO.eq_1 @encEv.eq_1 @cap.eq_1) ?_
 refine AW.seq_k fun K2 h2 => ?_
 refine AW.sr trivial ?_
 refine AW.cond (b := decide (o.attr.size = 0)) (by simp [ev]) (fun hb => ?_) (fun hb => ?_)
 ·have hb := of_decide_eq_true hb
  refine AW.sr trivial ?_
  refine AW.ret ?_
  simp only [zs, simprocAttr, zz, tt]
  all_goals ((try and_intros) <;> first | rfl | assumption | (((rw [opVal, if_pos hb]) <;> rfl)))
 ·have hb := of_decide_eq_false hb
  refine AW.skip ?_
  simp only [zs, simprocAttr]
  all_goals apply_assumption
  refine AW.seq_k fun K5 h5 => ?_
  refine AW.reg0 ?_
  iterate 4 refine S.one @encVal.eq_1 ?_
  (refine S.g rfl rfl fun Y Z => ?_; simp only [zz, simprocAttr, -Int.reduceNatCast', -Int.reduceToNat, encVal]; refine PCalls.eqto (Get_spec _ _ he) ?_ <;> (refine Z _ _ ?_; clear Z Y))
  all_goals iterate 6 refine S.one @encVal.eq_1 ?_
  all_goals (refine S.nil ?_; simp only [ze, simprocAttr, encVal]; apply_assumption)
  all_goals refine AW.sr trivial ?_
  refine AW.ret ?_
  all_goals simp only [zs, simprocAttr, zz, tt]
  all_goals ((try and_intros) <;> first | rfl | assumption | (((rw [opVal, if_neg hb]) <;> rfl)))
theorem Test_spec (c : Cnd) (e : Ev) (he : e.attrs.length < 4611686018427387904) : PCalls Tryz.prog 101 [.agg (encC c), .agg (encEv e)] (fun v => v = .c (.bool (testB e c))) := by
 refine PCalls.intro Tryz.call101 Tryz.func101 rfl Tryz.ntmps101 Tryz.results101 (by simp) ?_
 refine AW.seq_j (fun s σ => σ = Hp.empty ∧ s.t 2 = .lp 2 0 ∧ s.l 2 = some (encC c) ∧ s.t 3 = .lp 3 0 ∧ s.l 3 = some (encEv e)) ?_ ?_
 ·skip
  have q1q := J3 @encC.eq_1 @encO.eq_1 @encEv.eq_1
  refine AW.reg0 (S.rn q1q ?_)
  simp only [ze, simprocAttr, q1q]
  all_goals ((try and_intros) <;> first | rfl | assumption | (rfl))
 rintro s σ ⟨rfl, e2, l2, e3, l3⟩
 refine AW.hushBox l3 (by simp [encEv]) ?_
 have f2 : (s.bx 3 (encEv e)).t 2 = .lp 2 0 := by simp [e2, bxV]
 have g2 : (s.bx 3 (encEv e)).l 2 = some (encC c) := by simp [l2]
 have f3 : (s.bx 3 (encEv e)).t 3 = cap (encEv e) := by simp [e3, bxV, cap]
 generalize s.bx 3 (encEv e) = s at *
 rw [encC] at g2
 unfold encO at g2
 simp only [List.cons_append, List.nil_append] at g2
 all_goals refine AW.sr (J4 f2 g2 f3 @cap_ok) ?_
 refine AW.seq_k fun K2 h2 => ?_
 all_goals refine AW.dv { sd := fun d => d == 2 } [(0,0),(2,0),(3,0),(6,0),(7,0),(1,1),(4,1),(8,1),(5,2),(9,2),(10,2),(11,0)] ?_
 all_goals have q2q := J5 f2 g2 f3 @cap_ok @cap_wk
 all_goals iterate 5 refine D.one q2q ?_
 all_goals iterate 3 refine D.one q2q ?_
 all_goals (refine D.g rfl trivial rfl rfl fun Y Z => ?_; simp only [zz, simprocAttr, -Int.reduceNatCast', -Int.reduceToNat, f2, g2, f3, cap_ok, cap_wk]; refine PCalls.eqto (of1_spec c.l e he) ?_ <;> (refine Z _ _ ?_; clear Z Y))
 all_goals (refine D.g rfl trivial rfl rfl fun Y Z => ?_; simp only [zz, simprocAttr, -Int.reduceNatCast', -Int.reduceToNat, f2, g2, f3, cap_ok, cap_wk]; refine PCalls.eqto (of1_spec c.r e he) ?_ <;> (refine Z _ _ ?_; clear Z Y))
 all_goals have q3q := J5 f2 g2 f3 @cap_ok @cap_wk
 all_goals (refine D.g rfl trivial rfl rfl fun Y Z => ?_; simp only [zz, simprocAttr, -Int.reduceNatCast', -Int.reduceToNat, q3q]; refine PCalls.eqto (Holds_spec _ _ _) ?_ <;> (refine Z _ _ ?_; clear Z Y))
 all_goals refine D.one q3q ?_
 all_goals (refine D.nil ?_; apply_assumption)
 refine AW.ret ?_
 all_goals simp only [zs, simprocAttr]
 all_goals ((try and_intros) <;> first | rfl | assumption | (rfl))
theorem not1_spec (c : Cnd) (e : Ev) (he : e.attrs.length < 4611686018427387904) : PCalls Tryz.prog 100 [.agg (encC c), cap (encEv e)] (fun v => v = .c (.bool (!testB e c))) := by
 refine PCalls.intro Tryz.call100 Tryz.func100 rfl Tryz.ntmps100 Tryz.results100 (by simp) ?_
 refine AW.sr (J3 @encC.eq_1 @encO.eq_1 @cap.eq_1) ?_
 refine AW.seq_k fun K2 h2 => ?_
 refine AW.reg0 ?_
 iterate 2 refine S.one @encEv.eq_1 ?_
 (refine S.g rfl rfl fun Y Z => ?_; simp only [zz, simprocAttr, -Int.reduceNatCast', -Int.reduceToNat, encEv]; refine PCalls.eqto (Test_spec c e he) ?_ <;> (refine Z _ _ ?_; clear Z Y))
 all_goals iterate 2 refine S.one @encEv.eq_1 ?_
 all_goals (refine S.nil ?_; simp only [ze, simprocAttr, encEv]; apply_assumption)
 refine AW.ret ?_
 all_goals simp only [zs, simprocAttr]
 all_goals ((try and_intros) <;> first | rfl | assumption | (rfl))
theorem any_not {α : Type} (p : α → Bool) (l : List α) : (l.any fun x => !p x) = !l.all p := by
 induction l with
 | nil => rfl
 | cons x l ih => rw [List.any_cons, ih, List.all_cons]; cases p x <;> rfl
theorem Term_spec (n : Nd) (e : Ev) (he : e.attrs.length < 4611686018427387904) (hl : n.tests.length < 4611686018427387904) : PCalls Tryz.prog 68 [.agg (encNd n), .agg (encEv e)] (fun v => v = .c (.bool (termB n e))) := by
 have hany := any99_spec (p := fun c => !testB e c) (c := cap (encEv e)) (g := 100) n.tests hl (cap_wk _) (cap_ok _) (fun c _ => not1_spec c e he)
 rw [any_not] at hany
 rw [encNd_eq]
 refine PCalls.intro Tryz.call68 Tryz.func68 rfl Tryz.ntmps68 Tryz.results68 (by simp) ?_
 refine AW.seq_j (fun s σ => σ = Hp.empty ∧ s.t 2 = .lp 2 0 ∧ s.l 2 = some [.c (.int .i64 n.kind), .c (.string n.var), .c (.string n.type), .sl (n.tests.map encC), .sl (n.kids.map encNd)] ∧ s.t 3 = .lp 3 0 ∧ s.l 3 = some (encEv e)) ?_ ?_
 ·skip
  refine AW.reg0 (S.rn @encEv.eq_1 ?_)
  simp only [ze, simprocAttr, encEv]
  all_goals ((try and_intros) <;> first | rfl | assumption | (rfl))
 rintro s σ ⟨rfl, e2, l2, e3, l3⟩
 refine AW.hushBox l3 (by simp [encEv]) ?_
 have f2 : (s.bx 3 (encEv e)).t 2 = .lp 2 0 := by simp [e2, bxV]
 have g2 : (s.bx 3 (encEv e)).l 2 = some [.c (.int .i64 n.kind), .c (.string n.var), .c (.string n.type), .sl (n.tests.map encC), .sl (n.kids.map encNd)] := by simp [l2]
 have f3 : (s.bx 3 (encEv e)).t 3 = cap (encEv e) := by simp [e3, bxV, cap]
 generalize s.bx 3 (encEv e) = s at *
 have hs : eqS n.type e.type = eqS e.type n.type := eqS_symm _ _
 have hcap : cap (encEv e) = .ip [encEv e] 0 0 := rfl
 refine AW.seq_j (fun s' σ' => σ' = Hp.empty ∧ s'.t 4 = .c (.bool (termB n e))) ?_ ?_
 ·unfold termB
  rw [← hs]
  unfold eqS
  cases hall : n.tests.all (testB e)
  all_goals rw [hall] at hany
  ·skip
   refine AW.reg0 ?_
   have q1q := J6 f2 g2 f3 @cap_ok @cap.eq_1 @encEv.eq_1
   iterate 2 refine S.one q1q ?_
   (refine S.sp q1q fun b a7 => ?_; cases b <;> (try exact nope a7))
   all_goals iterate 5 refine S.one q1q ?_
   all_goals (first | (refine S.sp q1q fun b a13 => ?_; cases b <;> (try exact nope a13)) | ((first | refine S.x rfl rfl rfl rfl fun Y Z => ?_ | refine S.u rfl rfl rfl rfl fun Y Z => ?_); simp only [ze, simprocAttr, -Int.reduceNatCast', -Int.reduceToNat]; refine Z _ _ ?_; clear Z Y))
   all_goals iterate 5 refine S.one q1q ?_
   all_goals have q2q := J6 f2 g2 f3 @cap_ok @cap.eq_1 @encEv.eq_1
   all_goals (first | (refine S.y rfl rfl rfl rfl fun Y Z => ?_; simp only [zz, simprocAttr, -Int.reduceNatCast', -Int.reduceToNat, q2q]; refine PCalls.eqto hany ?_ <;> (refine Z _ _ ?_; clear Z Y)) | ((first | refine S.x rfl rfl rfl rfl fun Y Z => ?_ | refine S.u rfl rfl rfl rfl fun Y Z => ?_); simp only [ze, simprocAttr, -Int.reduceNatCast', -Int.reduceToNat]; refine Z _ _ ?_; clear Z Y))
   all_goals iterate 3 refine S.one q2q ?_
   all_goals refine S.nil ?_
   all_goals simp only [ze, simprocAttr, q2q]
   all_goals simp_all
  ·skip
   refine AW.reg0 ?_
   have q3q := J6 f2 g2 f3 @cap_ok @cap.eq_1 @encEv.eq_1
   iterate 2 refine S.one q3q ?_
   (refine S.sp q3q fun b a7 => ?_; cases b <;> (try exact nope a7))
   all_goals iterate 5 refine S.one q3q ?_
   all_goals (first | (refine S.sp q3q fun b a13 => ?_; cases b <;> (try exact nope a13)) | ((first | refine S.x rfl rfl rfl rfl fun Y Z => ?_ | refine S.u rfl rfl rfl rfl fun Y Z => ?_); simp only [ze, simprocAttr, -Int.reduceNatCast', -Int.reduceToNat]; refine Z _ _ ?_; clear Z Y))
   all_goals iterate 5 refine S.one q3q ?_
   all_goals have q4q := J6 f2 g2 f3 @cap_ok @cap.eq_1 @encEv.eq_1
   all_goals (first | (refine S.y rfl rfl rfl rfl fun Y Z => ?_; simp only [zz, simprocAttr, -Int.reduceNatCast', -Int.reduceToNat, q4q]; refine PCalls.eqto hany ?_ <;> (refine Z _ _ ?_; clear Z Y)) | ((first | refine S.x rfl rfl rfl rfl fun Y Z => ?_ | refine S.u rfl rfl rfl rfl fun Y Z => ?_); simp only [ze, simprocAttr, -Int.reduceNatCast', -Int.reduceToNat]; refine Z _ _ ?_; clear Z Y))
   all_goals iterate 3 refine S.one q4q ?_
   all_goals refine S.nil ?_
   all_goals simp only [ze, simprocAttr, q4q]
   all_goals simp_all
 rintro s σ ⟨rfl, e4⟩
 refine AW.ret ?_
 all_goals simp only [zs, simprocAttr, e4]
 all_goals ((try and_intros) <;> first | rfl | assumption | (rfl))
end Go.Abs.M
