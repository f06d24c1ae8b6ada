import Derived.Test.YtkijhgplmikboaaGreatNid
import Derived.Deep.Slices
import Derived.Test.YtkijhgplmikboaaGreatRows
set_option linter.all false
namespace Go.Abs.M
open Go Go.Abs Go.Proofs
variable [Mode]
set_option maxRecDepth 20000
set_option maxHeartbeats 4000000
theorem valF_spec (b : Bd) (o : Opd) : PCalls Tryz.prog 175 [.agg (encBd b), cap (encO o)] (fun v => v = .c (.bool (eqS b.var o.var))) := by
 refine PCalls.intro Tryz.call175 Tryz.func175 rfl Tryz.ntmps175 Tryz.results175 (by simp) ?_
 refine AW.sr (J2 @encBd.eq_1 @cap.eq_1) ?_
 refine AW.sr @encO.eq_1 ?_
 refine AW.ret ?_
 simp only [zs, simprocAttr]
 all_goals ((try and_intros) <;> first | rfl | assumption | (rfl))
theorem bdVal_none {o : Opd} : ∀ {l : List Bd}, (∀ x ∈ l, eqS x.var o.var = false) → bdVal o l = (noVal, false)
 | [], _ => rfl
 | x :: l, h => by rw [bdVal, h x List.mem_cons_self, if_neg Bool.false_ne_true]; exact bdVal_none fun y hy => h y (List.mem_cons_of_mem _ hy)
theorem bdVal_at {o : Opd} : ∀ {l : List Bd} {k : Nat} {x : Bd}, l[k]? = some x → eqS x.var o.var = true → (∀ y ∈ l.take k, eqS y.var o.var = false) → bdVal o l = (opVal o x.ev, true)
  | [], k, x, h, _, _ => by simp at h
  | y :: l, 0, x, h, he, _ => by simp at h; subst h; rw [bdVal, if_pos he]
  | y :: l, k + 1, x, h, he, hn => by
    rw [List.take_succ_cons] at hn
    rw [bdVal, hn y List.mem_cons_self, if_neg Bool.false_ne_true]
    exact bdVal_at (by simpa using h) he fun z hz => hn z (List.mem_cons_of_mem _ hz)
theorem Value_spec (o : Opd) (l : List Bd) (hl : lenB l) (hll : l.length < 4611686018427387904) : PCalls Tryz.prog 146 [.agg (encO o), .agg [.sl (l.map encBd)]] (fun v => v = .tup [.agg (encVal (pVal o l).1), .c (.bool (pVal o l).2)]) := by
 refine PCalls.intro Tryz.call146 Tryz.func146 rfl Tryz.ntmps146 Tryz.results146 (by simp) ?_
 refine AW.seq_j (fun s σ => σ = Hp.empty ∧ s.t 2 = .lp 2 0 ∧ s.l 2 = some (encO o) ∧ s.t 3 = .lp 3 0 ∧ s.l 3 = some [.sl (l.map encBd)] ∧ s.t 4 = .lp 4 0 ∧ s.l 4 = some [.c (.int .i64 0), .c (.int .i64 0), .c (.string ⟨#[]⟩)]) ?_ ?_
 ·skip
  refine AW.reg0 (S.rn @encO.eq_1 ?_)
  simp only [ze, simprocAttr, encO]
  all_goals ((try and_intros) <;> first | rfl | assumption | (rfl))
 rintro s σ ⟨rfl, e2, l2, e3, l3, e4, l4⟩
 refine AW.hushBox l2 (by simp [encO]) ?_
 have f2 : (s.bx 2 (encO o)).t 2 = cap (encO o) := by simp [e2, bxV, cap]
 have f3 : (s.bx 2 (encO o)).t 3 = .lp 3 0 := by simp [e3, bxV]
 have g3 : (s.bx 2 (encO o)).l 3 = some [.sl (l.map encBd)] := by simp [l3]
 have f4 : (s.bx 2 (encO o)).t 4 = .lp 4 0 := by simp [e4, bxV]
 have g4 : (s.bx 2 (encO o)).l 4 = some [.c (.int .i64 0), .c (.int .i64 0), .c (.string ⟨#[]⟩)] := by simp [l4]
 generalize s.bx 2 (encO o) = s at *
 have hov : pVal o l = if o.attr.size = 0 then (o.v, true) else bdVal o l := rfl
 refine AW.seq_k fun K1 h1 => ?_
 all_goals refine AW.sr (J3 f2 @cap.eq_1 @encO.eq_1) ?_
 refine AW.cond (b := decide (o.attr.size = 0)) (by simp [ev]) (fun hb => ?_) (fun hb => ?_)
 ·have hb := of_decide_eq_true hb
  rw [if_pos hb] at hov
  refine AW.sr (J5 f2 f4 g4 @cap.eq_1 @encO.eq_1) ?_
  refine AW.ret ?_
  simp only [zs, simprocAttr, zz, tt, f4, g4]
  all_goals ((try and_intros) <;> first | rfl | assumption | (((rw [hov]) <;> rfl)))
 have hb := of_decide_eq_false hb
 rw [if_neg hb] at hov
 refine AW.skip ?_
 all_goals simp only [zs, simprocAttr]
 all_goals apply_assumption
 refine AW.seq_j (fun s' σ' => σ' = Hp.empty ∧ s'.t 2 = cap (encO o) ∧ s'.t 3 = .lp 3 0 ∧ s'.l 3 = some [.sl (l.map encBd)] ∧ s'.t 4 = .lp 4 0 ∧ s'.l 4 = some [.c (.int .i64 0), .c (.int .i64 0), .c (.string ⟨#[]⟩)] ∧ s'.t 6 = .c (.int .i64 (idxB (fun b => eqS b.var o.var) 0 l))) ?_ ?_
 ·skip
  refine AW.reg0 ?_
  iterate 3 refine S.one (J6 f2 f3 g3 f4 g4 @cap_ok) ?_
  have q1q := J6 f2 f3 g3 f4 g4 @cap_ok
  (refine S.g rfl rfl fun Y Z => ?_; simp only [zz, simprocAttr, -Int.reduceNatCast', -Int.reduceToNat, q1q]; refine PCalls.eqto (idx174_spec l hll (cap_wk _) (cap_ok _) (fun b _ => valF_spec b o)) ?_ <;> (refine Z _ _ ?_; clear Z Y))
  all_goals refine S.one q1q ?_
  all_goals refine S.nil ?_
  all_goals simp only [ze, simprocAttr, q1q]
  all_goals ((try and_intros) <;> first | rfl | assumption | (rfl))
 rintro s σ ⟨rfl, f2, f3, g3, f4, g4, f6⟩
 refine AW.seq_k fun K4 h4 => ?_
 all_goals refine AW.sr f6 ?_
 refine AW.cond (b := decide (idxB (fun b => eqS b.var o.var) 0 l < 0)) (by simp [ev]) (fun hc => ?_) (fun hc => ?_)
 ·have hc := of_decide_eq_true hc
  have hv : bdVal o l = (noVal, false) := by
   rcases idxB_cases (fun b : Bd => eqS b.var o.var) l 0 with ⟨_, h⟩ | ⟨k, x, h, _⟩
   ·exact bdVal_none h
   ·omega
  refine AW.sr (J2 f4 g4) ?_
  refine AW.ret ?_
  simp only [zs, simprocAttr, zz, tt, f4, g4]
  all_goals ((try and_intros) <;> first | rfl | assumption | (((rw [hov, hv]) <;> rfl)))
 ·have hc := of_decide_eq_false hc
  rcases idxB_cases (fun b : Bd => eqS b.var o.var) l 0 with ⟨h, _⟩ | ⟨k, x, h, hx, he, hn⟩
  ·omega
  have hv := bdVal_at hx he hn
  have hk : k < l.length := (List.getElem?_eq_some_iff.1 hx).1
  have hg : (l.map encBd).getD k [] = encBd x := by rw [getD_map hk, (List.getElem?_eq_some_iff.1 hx).2]
  have hxa := hl x (List.mem_of_getElem? hx)
  have hop : opVal o x.ev = (getV o.attr x.ev.attrs).1 := by rw [opVal, if_neg hb]
  rw [Nat.zero_add] at h
  rw [h] at f6
  refine AW.skip ?_
  all_goals simp only [zs, simprocAttr]
  all_goals apply_assumption
  refine AW.seq_j (fun s' σ' => σ' = Hp.empty ∧ s'.t 4 = .lp 4 0 ∧ s'.l 4 = some [.c (.int .i64 0), .c (.int .i64 0), .c (.string ⟨#[]⟩)] ∧ s'.t 7 = .lp 7 0 ∧ s'.l 7 = some (encVal (opVal o x.ev))) ?_ ?_
  ·rw [hop]
   refine AW.dT { sd := fun d => d == 3 } (.st 0 0 (.st 2 0 (.st 7 0 (.st 1 1 (.st 3 0 (.st 4 0 (.st 5 0 (.st 6 1 (.st 8 1 (.fork 9 (.st 10 0 (.st 11 0 (.st 12 0 (.st 13 2 (.st 14 2 (.st 15 0 .nil)))))) 13 (.st 9 2 (.st 10 0 (.st 11 0 (.st 12 0 (.st 14 2 (.st 15 0 .nil)))))))))))))))) ?_
   all_goals have q2q := J12 @Bool.or_self f2 f3 g3 f4 g4 f6 hk hg @cap.eq_1 @encO.eq_1 (J3 @encBd.eq_1 @encVal.eq_1 @List.length_map.{0,0})
   all_goals iterate 9 refine T.onf q2q ?_
   all_goals (try refine T.fork ?_ ?_)
   all_goals have q3q := J12 @Bool.or_self f2 f3 g3 f4 g4 f6 hk hg @cap.eq_1 @encO.eq_1 (J3 @encBd.eq_1 @encVal.eq_1 @List.length_map.{0,0})
   all_goals first | (refine T.g rfl trivial rfl rfl fun Y Z => ?_; simp only [zz, simprocAttr, -Int.reduceNatCast', -Int.reduceToNat, q3q]; refine PCalls.eqto (Get_spec _ _ hxa) ?_ <;> (refine Z _ _ ?_; clear Z Y)) | (refine T.g rfl trivial rfl rfl fun Y Z => ?_; simp only [zz, simprocAttr, -Int.reduceNatCast', -Int.reduceToNat, tt, q3q]; refine Z _ _ ?_; clear Z Y)
   all_goals have q4q := J12 @Bool.or_self f2 f3 g3 f4 g4 f6 hk hg @cap.eq_1 @encO.eq_1 (J3 @encBd.eq_1 @encVal.eq_1 @List.length_map.{0,0})
   all_goals first | (refine T.g rfl trivial rfl rfl fun Y Z => ?_; simp only [zz, simprocAttr, -Int.reduceNatCast', -Int.reduceToNat, q4q]; refine PCalls.eqto (Get_spec _ _ hxa) ?_ <;> (refine Z _ _ ?_; clear Z Y)) | (refine T.g rfl trivial rfl rfl fun Y Z => ?_; simp only [zz, simprocAttr, -Int.reduceNatCast', -Int.reduceToNat, q4q]; refine Z _ _ ?_; clear Z Y)
   all_goals iterate 2 refine T.onf q4q ?_
   all_goals have q5q := J12 @Bool.or_self f2 f3 g3 f4 g4 f6 hk hg @cap.eq_1 @encO.eq_1 (J3 @encBd.eq_1 @encVal.eq_1 @List.length_map.{0,0})
   all_goals first | (refine T.g rfl trivial rfl rfl fun Y Z => ?_; simp only [zz, simprocAttr, -Int.reduceNatCast', -Int.reduceToNat, tt, q5q]; refine Z _ _ ?_; clear Z Y) | (refine T.g rfl trivial rfl rfl fun Y Z => ?_; simp only [zz, simprocAttr, -Int.reduceNatCast', -Int.reduceToNat, q5q]; refine Z _ _ ?_; clear Z Y)
   all_goals iterate 2 refine T.onf q5q ?_
   all_goals refine T.nil ?_
   all_goals simp only [ze, simprocAttr, q5q]
   all_goals ((try and_intros) <;> first | rfl | assumption | (rfl))
  rintro s σ ⟨rfl, f4, g4, f7, g7⟩
  all_goals refine AW.sr (J5 f4 g4 f7 g7 @encVal.eq_1) ?_
  refine AW.ret ?_
  all_goals simp only [zs, simprocAttr, zz, tt, f4, g4]
  all_goals ((try and_intros) <;> first | rfl | assumption | (((rw [hov, hv]) <;> rfl)))
theorem cond_spec (c : Cnd) (l : List Bd) (hl : lenB l) (hll : l.length < 4611686018427387904) : PCalls Tryz.prog 115 [.agg (encC c), .agg [.sl (l.map encBd)]] (fun v => v = .c (.bool (condB l c))) := by
 refine PCalls.intro Tryz.call115 Tryz.func115 rfl Tryz.ntmps115 Tryz.results115 (by simp) ?_
 refine AW.sr (J2 @encC.eq_1 @encO.eq_1) ?_
 refine AW.seq_k fun K2 h2 => ?_
 refine AW.reg0 ?_
 iterate 3 refine S.one @encVal.eq_1 ?_
 (refine S.g rfl rfl fun Y Z => ?_; simp only [zz, simprocAttr, -Int.reduceNatCast', -Int.reduceToNat, encVal]; (first | refine PCalls.eqto (Value_spec c.l l hl hll) ?_ | refine PCalls.eqto (Value_spec c.r l hl hll) ?_) <;> (refine Z _ _ ?_; clear Z Y))
 all_goals iterate 6 refine S.one @encVal.eq_1 ?_
 all_goals (refine S.nil ?_; simp only [ze, simprocAttr, encVal]; apply_assumption)
 refine AW.seq_k fun K3 h3 => ?_
 all_goals refine AW.reg0 ?_
 all_goals iterate 3 refine S.one @encVal.eq_1 ?_
 all_goals (refine S.g rfl rfl fun Y Z => ?_; simp only [zz, simprocAttr, -Int.reduceNatCast', -Int.reduceToNat, encVal]; (first | refine PCalls.eqto (Value_spec c.l l hl hll) ?_ | refine PCalls.eqto (Value_spec c.r l hl hll) ?_) <;> (refine Z _ _ ?_; clear Z Y))
 all_goals iterate 6 refine S.one @encVal.eq_1 ?_
 all_goals (refine S.nil ?_; simp only [ze, simprocAttr, encVal]; apply_assumption)
 refine AW.seq_j (fun s' σ' => σ' = Hp.empty ∧ s'.t 4 = .c (.bool (condB l c))) ?_ ?_
 ·cases h1 : (pVal c.l l).2 <;> cases h2 : (pVal c.r l).2
  all_goals refine AW.reg0 ?_
  all_goals iterate 11 refine S.one @encVal.eq_1 ?_
  all_goals (first | (refine S.y rfl rfl rfl rfl fun Y Z => ?_; simp only [zz, simprocAttr, -Int.reduceNatCast', -Int.reduceToNat, encVal]; refine PCalls.eqto (Holds_spec _ _ _) ?_ <;> (refine Z _ _ ?_; clear Z Y)) | ((first | refine S.x rfl rfl rfl rfl fun Y Z => ?_ | refine S.u rfl rfl rfl rfl fun Y Z => ?_); simp only [ze, simprocAttr, -Int.reduceNatCast', -Int.reduceToNat]; refine Z _ _ ?_; clear Z Y))
  all_goals iterate 2 refine S.one @encVal.eq_1 ?_
  all_goals refine S.nil ?_
  all_goals simp only [ze, simprocAttr, encVal]
  all_goals simp_all [condB]
 rintro s σ ⟨rfl, e4⟩
 refine AW.ret ?_
 all_goals simp only [zs, simprocAttr, e4]
 all_goals ((try and_intros) <;> first | rfl | assumption | (rfl))
theorem notc_spec (c : Cnd) (l : List Bd) (hl : lenB l) (hll : l.length < 4611686018427387904) : PCalls Tryz.prog 114 [.agg (encC c), cap [.sl (l.map encBd)]] (fun v => v = .c (.bool (!condB l c))) := by
 refine PCalls.intro Tryz.call114 Tryz.func114 rfl Tryz.ntmps114 Tryz.results114 (by simp) ?_
 refine AW.sr (J3 @encC.eq_1 @encO.eq_1 @cap.eq_1) ?_
 refine AW.seq_k fun K2 h2 => ?_
 refine AW.reg0 ?_
 iterate 2 refine S.one trivial ?_
 (refine S.g rfl rfl fun Y Z => ?_; simp only [zz, simprocAttr, -Int.reduceNatCast', -Int.reduceToNat]; refine PCalls.eqto (cond_spec c l hl hll) ?_ <;> (refine Z _ _ ?_; clear Z Y))
 all_goals iterate 2 refine S.one trivial ?_
 all_goals (refine S.nil ?_; simp only [ze, simprocAttr]; apply_assumption)
 refine AW.ret ?_
 all_goals simp only [zs, simprocAttr]
 all_goals ((try and_intros) <;> first | rfl | assumption | (rfl))
theorem All_spec (cs : List Cnd) (l : List Bd) (hl : lenB l) (hll : l.length < 4611686018427387904) (hcl : cs.length < 4611686018427387904) : PCalls Tryz.prog 82 [.sl (cs.map encC), .agg [.sl (l.map encBd)]] (fun v => v = .c (.bool (cs.all (condB l)))) := by
 have hany := any99_spec (p := fun c => !condB l c) (c := cap [.sl (l.map encBd)]) (g := 114) cs hcl (cap_wk _) (cap_ok _) (fun c _ => notc_spec c l hl hll)
 rw [any_not] at hany
 refine PCalls.intro Tryz.call82 Tryz.func82 rfl Tryz.ntmps82 Tryz.results82 (by simp) ?_
 refine AW.seq_j (fun s σ => σ = Hp.empty ∧ s.t 0 = .sl (cs.map encC) ∧ s.t 3 = .lp 3 0 ∧ s.l 3 = some [.sl (l.map encBd)]) ?_ ?_
 ·skip
  refine AW.reg0 (S.rn trivial ?_)
  simp only [ze, simprocAttr]
  all_goals ((try and_intros) <;> first | rfl | assumption | (rfl))
 rintro s σ ⟨rfl, e0, e3, l3⟩
 refine AW.hushBox l3 (by simp) ?_
 have f0 : (s.bx 3 [.sl (l.map encBd)]).t 0 = .sl (cs.map encC) := by simp [e0, bxV]
 have f3 : (s.bx 3 [.sl (l.map encBd)]).t 3 = cap [.sl (l.map encBd)] := by simp [e3, bxV, cap]
 generalize s.bx 3 [.sl (l.map encBd)] = s at *
 refine AW.seq_k fun K1 h1 => ?_
 all_goals refine AW.reg0 ?_
 all_goals iterate 2 refine S.one (J4 f0 f3 @cap_ok @Bool.not_not) ?_
 all_goals have q1q := J4 f0 f3 @cap_ok @Bool.not_not
 all_goals (refine S.g rfl rfl fun Y Z => ?_; simp only [zz, simprocAttr, -Int.reduceNatCast', -Int.reduceToNat, q1q]; refine PCalls.eqto hany ?_ <;> (refine Z _ _ ?_; clear Z Y))
 all_goals iterate 2 refine S.one q1q ?_
 all_goals (refine S.nil ?_; simp only [ze, simprocAttr, q1q]; apply_assumption)
 refine AW.ret ?_
 all_goals simp only [zs, simprocAttr]
 all_goals ((try and_intros) <;> first | rfl | assumption | (simp))
end Go.Abs.M
namespace Go.Abs.M
set_option maxHeartbeats 4000000
open Go Go.Abs Go.Proofs
set_option maxRecDepth 20000
theorem someB_spec (l : List Bd) (vars : List ByteArray) (hl : l.length < 1048576) (hv : vars.length < 4611686018427387904) : PCalls Tryz.prog 87 [.agg [.sl (l.map encBd)], .sl (vars.map encS)] (fun v => v = .agg [.sl ((ofB l vars).map encBd)]) := by
 refine PCalls.intro Tryz.call87 Tryz.func87 rfl Tryz.ntmps87 Tryz.results87 (by simp) ?_
 refine AW.sr trivial ?_
 refine AW.sr trivial ?_
 refine AW.seq_k fun K3 h3 => ?_
 refine AW.sr @List.length_map.{0,0} ?_
 refine AW.block ?_   -- 0
 refine AW.loop (fun m s σ => ∃ i : Nat, m + i = l.length ∧ s.t 1 = .sl (vars.map encS) ∧ s.t 4 = .lp 4 0 ∧ s.l 4 = some [.c (.slice none 0 0)] ∧ s.t 5 = .lp 5 0 ∧ s.t 9 = .sl (l.map encBd) ∧ s.t 10 = .c (.int .i64 (l.length : Nat)) ∧ s.t 11 = .c (.int .i64 (i : Nat)) ∧ Acc (ofB (l.take i) vars) (s.l 5) σ) l.length ?_ ?_
 ·refine ⟨0, by simp, ?_⟩
  simp only [zs, simprocAttr]
  all_goals ((try and_intros) <;> first | rfl | assumption | (exact .inl ⟨rfl, rfl, rfl⟩))
 rintro m s σ ⟨i, hm, e1, e4, l4, e5, e9, e10, e11, hacc⟩
 all_goals refine AW.sr (J2 e10 e11) ?_
 refine AW.seq_k fun K6 h6 => ?_
 refine AW.cond (b := decide (i < l.length)) (by simp [ev]) (fun hi => ?_) (fun hi => ?_)
 ·have hi := of_decide_eq_true hi
  obtain ⟨x, hx, hxm, hg, hd⟩ := bd_get hi
  have hw := wadd1 (a := i) (by omega)
  have hst : ofB (l.take (i + 1)) vars = ofB (l.take i) vars ++ if hasS vars x.var then [x] else [] := filter_step (p := fun b => hasS vars b.var) hx
  have hlen : (ofB (l.take i) vars).length ≤ i := filter_take_len i
  have y1 : ((ofB (l.take i) vars).length + 1 ≤ maxLen) = True := eq_true (by unfold maxLen; omega)
  have y2 : (((ofB (l.take i) vars).length + 1) * 80 ≤ reach) = True := eq_true (by unfold reach; omega)
  have y3 : (1 ≤ maxLen) = True := eq_true (by unfold maxLen; omega)
  have y4 : (80 ≤ reach) = True := eq_true (by unfold reach; omega)
  have z1 : (∀ (e : List V), e ∈ [encBd x] → e.length = 6) = True := len_bd1 x
  unfold encBd at z1
  refine AW.skip ?_
  simp only [zs, simprocAttr]
  all_goals apply_assumption
  refine AW.seq_j (fun s' σ' => s'.t 1 = .sl (vars.map encS) ∧ s'.t 4 = .lp 4 0 ∧ s'.l 4 = some [.c (.slice none 0 0)] ∧ s'.t 5 = .lp 5 0 ∧ s'.t 9 = .sl (l.map encBd) ∧ s'.t 10 = .c (.int .i64 (l.length : Nat)) ∧ s'.t 11 = .c (.int .i64 (i : Nat)) ∧ Acc (ofB (l.take (i + 1)) vars) (s'.l 5) σ') ?_ ?_
  ·refine AW.block ?_   -- 1
   refine AW.sr (J11 e1 e4 l4 e5 e9 e10 e11 hi hg @encBd.eq_1 @List.length_map.{0,0}) ?_
   refine AW.seq_k fun K8 h8 => ?_
   refine AW.reg0 ?_
   iterate 3 refine S.one (J8 e1 e4 l4 e5 e9 e10 e11 @encBd.eq_1) ?_
   have q1q := J8 e1 e4 l4 e5 e9 e10 e11 @encBd.eq_1
   (refine S.g rfl rfl fun Y Z => ?_; simp only [zz, simprocAttr, -Int.reduceNatCast', -Int.reduceToNat, q1q]; refine PCalls.eqto (containsS_spec _ _ hv) ?_ <;> (refine Z _ _ ?_; clear Z Y))
   all_goals (refine S.nil ?_; simp only [ze, simprocAttr, q1q]; apply_assumption)
   refine AW.cond (b := hasS vars x.var) (by simp [ev]) (fun hc => ?_) (fun hc => ?_)
   ·rw [hc, if_pos rfl] at hst
    rcases hacc with ⟨l5, hn, rfl⟩ | ⟨k, l5, rfl⟩
    ·rw [hn] at y1 y2 hst
     refine AW.reg0 ?_
     iterate 4 (refine S.g rfl rfl fun Y Z => ?_; simp only [zb, simprocAttr, -Int.reduceNatCast', -Int.reduceToNat, tt, e1, e4, l4, e5, l5, e9, e10, e11, encBd, z1, y1, y2, y3, y4]; refine Z _ _ ?_; clear Z Y)
     all_goals have q2q := J12 e1 e4 l4 e5 l5 e9 e10 e11 @encBd.eq_1 z1 y1 (J3 y2 y3 y4)
     all_goals (refine S.g rfl rfl fun Y Z => ?_; simp only [zz, simprocAttr, -Int.reduceNatCast', -Int.reduceToNat, tt, q2q]; intro k1 hk1 <;> (refine Z _ _ ?_; clear Z Y))
     all_goals iterate 2 refine S.one q2q ?_
     all_goals refine S.nil ?_
     all_goals simp only [ze, simprocAttr, q2q]
     all_goals exact .inr ⟨k1, rfl, by rw [hst]; rfl⟩
    ·skip
     refine AW.reg0 ?_
     iterate 4 (refine S.g rfl rfl fun Y Z => ?_; simp only [zb, simprocAttr, -Int.reduceNatCast', -Int.reduceToNat, tt, e1, e4, l4, e5, l5, e9, e10, e11, encBd, z1, y1, y2, y3, y4]; refine Z _ _ ?_; clear Z Y)
     all_goals have q3q := J12 e1 e4 l4 e5 l5 e9 e10 e11 @encBd.eq_1 z1 y1 (J3 y2 y3 y4)
     all_goals (refine S.g rfl rfl fun Y Z => ?_; simp only [zz, simprocAttr, -Int.reduceNatCast', -Int.reduceToNat, tt, q3q]; intro k1 hk1 <;> (refine Z _ _ ?_; clear Z Y))
     all_goals iterate 2 refine S.one q3q ?_
     all_goals refine S.nil ?_
     all_goals simp only [ze, simprocAttr, q3q]
     all_goals exact .inr ⟨k1, rfl, by rw [hst, List.map_append]; rfl⟩
   ·rw [hc, if_neg Bool.false_ne_true, List.append_nil] at hst
    refine AW.skip ?_
    simp only [zs, simprocAttr, e1, e4, l4, e5, e9, e10, e11]
    rw [hst]
    all_goals ((try and_intros) <;> first | rfl | assumption | (exact hacc))
  rintro s σ ⟨e1, e4, l4, e5, e9, e10, e11, hacc⟩
  all_goals have q4q := J8 e11 hw e1 e4 l4 e5 e9 e10
  all_goals refine AW.reg0 (S.rn q4q ?_)
  all_goals simp only [ze, simprocAttr, q4q]
  refine ⟨m - 1, by omega, i + 1, by omega, ?_⟩
  all_goals ((try and_intros) <;> first | rfl | assumption | (exact hacc))
 ·have hi := of_decide_eq_false hi
  refine AW.exit ?_
  simp only [zs, simprocAttr]
  all_goals apply_assumption
  rw [List.take_of_length_le (by omega)] at hacc
  rcases hacc with ⟨l5, hn, rfl⟩ | ⟨k, l5, rfl⟩
  ·refine AW.sr (J4 e4 l4 e5 l5) ?_
   refine AW.ret ?_
   simp only [zs, simprocAttr, zz, tt, e4, l4]
   all_goals ((try and_intros) <;> first | rfl | assumption | (((rw [hn]) <;> rfl)))
  ·refine AW.freeze (k := k) (T := (50, 6)) (es := (ofB l vars).map encBd) (by simp only [Hp.setGr_gr, if_true]) ?_
   have hem : (Hp.empty.setGr k (some ((50, 6), (ofB l vars).map encBd))).setGr k none = Hp.empty := by simp
   rw [hem]
   have q5q := J12 @St.fz_t @St.fz_l @fzV.eq_1 @fzV.eq_2 @fz1.eq_1 @fz1.eq_2 @Option.map_some.{0,0} @List.map.eq_1.{0,0} @List.map.eq_2.{0,0} e4 l4 (J2 e5 l5)
   refine AW.sr q5q ?_
   refine AW.ret ?_
   simp only [zs, simprocAttr, zz, tt, q5q]
   all_goals ((try and_intros) <;> first | rfl | assumption | (rfl))
theorem Within_spec (p : Pat) (l : List Bd) (hl : l.length < 1048576) (ht : ∀ b ∈ l, inI64 b.ev.time) (hw : inI64 p.within) : PCalls Tryz.prog 18 [.agg (encPat p), .agg [.sl (l.map encBd)]] (fun v => v = .c (.bool (spanB p l))) := by
 have q1 : ((l.length : Int) > 0) = (0 < l.length) := by rw [eq_iff_iff]; omega
 refine PCalls.intro Tryz.call18 Tryz.func18 rfl Tryz.ntmps18 Tryz.results18 (by simp) ?_
 refine AW.sr @encPat.eq_1 ?_
 refine AW.seq_j (fun s' σ' => σ' = Hp.empty ∧ s'.t 4 = .c (.bool (spanB p l))) ?_ ?_
 ·skip
  refine AW.reg0 ?_
  have q1q := J2 q1 @List.length_map.{0,0}
  iterate 3 refine S.one q1q ?_
  (refine S.sp q1q fun b a8 => ?_; cases b <;> (try exact nope a8))
  all_goals iterate 4 refine S.one q1q ?_
  all_goals have q2q := J2 q1 @List.length_map.{0,0}
  all_goals (first | (refine S.y rfl rfl rfl rfl fun Y Z => ?_; simp only [zz, simprocAttr, -Int.reduceNatCast', -Int.reduceToNat, q2q]; refine PCalls.eqto (within_spec l p.within (by omega) ht hw) ?_ <;> (refine Z _ _ ?_; clear Z Y)) | ((first | refine S.x rfl rfl rfl rfl fun Y Z => ?_ | refine S.u rfl rfl rfl rfl fun Y Z => ?_); simp only [ze, simprocAttr, -Int.reduceNatCast', -Int.reduceToNat]; refine Z _ _ ?_; clear Z Y))
  all_goals iterate 2 refine S.one q2q ?_
  all_goals refine S.nil ?_
  all_goals simp only [ze, simprocAttr, q2q]
  all_goals simp_all [spanB]
 rintro s σ ⟨rfl, e4⟩
 refine AW.ret ?_
 all_goals simp only [zs, simprocAttr, e4]
 all_goals ((try and_intros) <;> first | rfl | assumption | (rfl))
def holdB (p : Pat) (l : List Bd) : Bool := spanB p l && p.conds.all (condB l)
theorem holds_spec (p : Pat) (l : List Bd) (hlb : lenB l) (hl : l.length < 1048576) (ht : ∀ b ∈ l, inI64 b.ev.time) (hw : inI64 p.within) (hcl : p.conds.length < 4611686018427387904) : PCalls Tryz.prog 44 [.agg (encPat p), .agg [.sl (l.map encBd)]] (fun v => v = .c (.bool (holdB p l))) := by
 refine PCalls.intro Tryz.call44 Tryz.func44 rfl Tryz.ntmps44 Tryz.results44 (by simp) ?_
 refine AW.sr @encPat.eq_1 ?_
 refine AW.seq_j (fun s' σ' => σ' = Hp.empty ∧ s'.t 4 = .c (.bool (holdB p l))) ?_ ?_
 ·skip
  refine AW.reg0 ?_
  iterate 2 refine S.one @encPat.eq_1 ?_
  (refine S.g rfl rfl fun Y Z => ?_; simp only [zz, simprocAttr, -Int.reduceNatCast', -Int.reduceToNat, encPat]; refine PCalls.eqto (Within_spec p l hl ht hw) ?_; refine S.bool fun b a7 => ?_; cases b <;> (try exact nope a7) <;> (refine Z _ _ ?_; clear Z Y))
  all_goals iterate 4 refine S.one @encPat.eq_1 ?_
  all_goals (first | (refine S.y rfl rfl rfl rfl fun Y Z => ?_; simp only [zz, simprocAttr, -Int.reduceNatCast', -Int.reduceToNat, encPat]; refine PCalls.eqto (All_spec p.conds l hlb (by omega) hcl) ?_ <;> (refine Z _ _ ?_; clear Z Y)) | ((first | refine S.x rfl rfl rfl rfl fun Y Z => ?_ | refine S.u rfl rfl rfl rfl fun Y Z => ?_); simp only [ze, simprocAttr, -Int.reduceNatCast', -Int.reduceToNat]; refine Z _ _ ?_; clear Z Y))
  all_goals iterate 2 refine S.one @encPat.eq_1 ?_
  all_goals refine S.nil ?_
  all_goals simp only [ze, simprocAttr, encPat]
  all_goals simp_all [holdB]
 rintro s σ ⟨rfl, e4⟩
 refine AW.ret ?_
 all_goals simp only [zs, simprocAttr, e4]
 all_goals ((try and_intros) <;> first | rfl | assumption | (rfl))
def kidsFitP (two : Bool) (p : List Bd) : Int → Nat → List ((List Bd → Bool) × List ByteArray) → Option Nat
  | _, s, [] => some s
  | last, s, (f, vs) :: r => if f (ofB p vs) = false then none else if two && decide (beginOf (ofB p vs) ≤ last) then none else kidsFitP two p (endOf (ofB p vs)) (s + (ofB p vs).length) r
def allFitP (p : List Bd) : Option Nat → Bool
  | some s => s == p.length
  | none => false
def fitsPF (n : Nd) (l : List (List Bd → Bool)) (p : List Bd) : Bool :=
  if n.kind = 1 then leafFits n p else if n.kind = 4 then l.any (fun f => f p) else allFitP p (kidsFitP (decide (n.kind = 2)) p (-1) 0 (l.zip (n.kids.map Nd.vars)))
def Nd.fitsP (n : Nd) : List Bd → Bool := n.para fitsPF
def fitOfP (x : Nd) : (List Bd → Bool) × List ByteArray := (x.fitsP, x.vars)
theorem Nd.fitsP_eq (n : Nd) (p : List Bd) : n.fitsP p = if n.kind = 1 then leafFits n p else if n.kind = 4 then n.kids.any (fun x => x.fitsP p) else allFitP p (kidsFitP (decide (n.kind = 2)) p (-1) 0 (n.kids.map fitOfP)) := by
 have h : n.fitsP = fitsPF n (n.kids.map Nd.fitsP) := Nd.para_eq _ n
 rw [h, fitsPF]
 have hz : ∀ ks : List Nd, (ks.map Nd.fitsP).zip (ks.map Nd.vars) = ks.map fitOfP := fun ks => by
  induction ks with
  | nil => rfl
  | cons x xs ih => rw [List.map_cons, List.map_cons, List.zip_cons_cons, ih]; rfl
 rw [hz, List.any_map]; rfl
theorem _root_.Go.Abs.AW.gen {P : Program} {n : Nat} {c : Code} {Q : Exit → St → Hp → Prop} {s : St} {σ : Hp} (J : St → Prop) (hJ : J s) (h : ∀ s, J s → AW P n c Q s σ) : AW P n c Q s σ := h s hJ
theorem fits1_spec (x : Nd) (p : List Bd) {r : Bool} (h : PCalls Tryz.prog 48 [.agg (encNd x), .agg [.sl (p.map encBd)]] (fun v => v = .c (.bool r))) : PCalls Tryz.prog 86 [.agg (encNd x), cap [.sl (p.map encBd)]] (fun v => v = .c (.bool r)) := by
 refine PCalls.intro Tryz.call86 Tryz.func86 rfl Tryz.ntmps86 Tryz.results86 (by simp) ?_
 refine AW.sr @nd ?_
 refine AW.seq_k fun K2 h2 => ?_
 refine AW.reg0 ?_
 iterate 2 refine S.one (J2 @nd @cap.eq_1) ?_
 have q1q := J2 @nd @cap.eq_1
 (refine S.g rfl rfl fun Y Z => ?_; simp only [zz, simprocAttr, -Int.reduceNatCast', -Int.reduceToNat, q1q]; refine PCalls.eqto h ?_ <;> (refine Z _ _ ?_; clear Z Y))
 all_goals refine S.one q1q ?_
 all_goals (refine S.nil ?_; simp only [ze, simprocAttr, q1q]; apply_assumption)
 refine AW.ret ?_
 all_goals simp only [zs, simprocAttr]
 all_goals ((try and_intros) <;> first | rfl | assumption | (rfl))
theorem fits_spec : ∀ n : Nd, n.small → n.ok → n.err = 0 → ∀ p : List Bd, lenB p → p.length < 1048576 → PCalls Tryz.prog 48 [.agg (encNd n), .agg [.sl (p.map encBd)]] (fun v => v = .c (.bool (n.fitsP p))) := Nd.ind fun n ih hn ho he p hp hpl => by
 have hl := hn.len
 have hE := (encNd_eq n).symm
 have hfe := n.fitsP_eq p
 rw [encNd_eq]
 refine PCalls.intro Tryz.call48 Tryz.func48 rfl Tryz.ntmps48 Tryz.results48 (by simp) ?_
 refine AW.sr trivial ?_
 refine AW.seq_j (fun s' σ' => σ' = Hp.empty ∧ s'.t 2 = .lp 2 0 ∧ s'.l 2 = some [.c (.int .i64 n.kind), .c (.string n.var), .c (.string n.type), .sl (n.tests.map encC), .sl (n.kids.map encNd)] ∧ s'.t 3 = .lp 3 0 ∧ s'.l 3 = some [.sl (p.map encBd)] ∧ ¬ n.kind = 1 ∧ ¬ n.kind = 4) ?_ ?_
 ·refine AW.sr trivial ?_
  refine AW.block ?_   -- 0
  refine AW.sr trivial ?_
  refine AW.cond (b := n.kind == 1) (by simp [ev]) (fun hk => ?_) (fun hk => ?_)
  ·have hk : n.kind = 1 := by simpa using hk
   rw [if_pos hk] at hfe
   refine AW.seq_j (fun s' σ' => σ' = Hp.empty ∧ s'.t 4 = .c (.bool (leafFits n p))) ?_ ?_
   ·by_cases h1 : p.length = 1
    ·obtain ⟨b, rfl⟩ := List.length_eq_one_iff.1 h1
     have hbe : b.ev.attrs.length < 4611686018427387904 := hp b List.mem_cons_self
     have hterm := Term_spec n b.ev hbe ho.own.len
     rw [encNd_eq] at hterm
     have h01 : ((0 : Int) < ((1 : Nat) : Int)) = True := eq_true (by decide)
     refine AW.dv { sd := fun d => d == 2 || d == 3 } [(0,0),(1,1),(2,0),(3,0),(4,0),(5,0),(10,0),(6,1),(7,0),(8,0),(9,1),(11,1),(12,0),(13,0),(14,0),(16,0),(15,1),(17,1),(18,0),(19,0),(20,1),(21,2),(22,0),(23,0)] ?_
     have q1q := J12 h01 @Int.le_refl @Int.toNat_zero @Nat.zero_lt_one @Nat.lt_add_one @List.length_cons.{0} @List.length_nil.{0} @encBd.eq_1 @List.map_cons.{0,0} @List.map_nil.{0,0} @List.length_singleton.{0} @List.getD_cons_zero.{0}
     refine D.one q1q ?_
     refine D.one q1q ?_
     refine D.one q1q ?_
     (refine D.sp q1q fun b a17 => ?_; cases b <;> (try exact nope a17))
     all_goals iterate 3 refine D.one q1q ?_
     all_goals refine D.one q1q ?_
     all_goals iterate 2 refine D.one q1q ?_
     all_goals iterate 2 refine D.one q1q ?_
     all_goals (first | (refine D.sp q1q fun b a26 => ?_; cases b <;> (try exact nope a26)) | ((first | refine D.x rfl (fun h => by cases h) rfl rfl rfl rfl fun Y Z => ?_ | refine D.u rfl (fun h => by cases h) rfl rfl rfl rfl fun Y Z => ?_); simp only [ze, simprocAttr, -Int.reduceNatCast', -Int.reduceToNat]; refine Z _ _ ?_; clear Z Y))
     all_goals iterate 3 refine D.one q1q ?_
     all_goals iterate 2 refine D.one q1q ?_
     all_goals iterate 2 refine D.one q1q ?_
     all_goals refine D.one q1q ?_
     all_goals have q2q := J12 h01 @Int.le_refl @Int.toNat_zero @Nat.zero_lt_one @Nat.lt_add_one @List.length_cons.{0} @List.length_nil.{0} @encBd.eq_1 @List.map_cons.{0,0} @List.map_nil.{0,0} @List.length_singleton.{0} @List.getD_cons_zero.{0}
     all_goals (first | (refine D.y rfl trivial rfl rfl rfl rfl fun Y Z => ?_; simp only [zz, simprocAttr, -Int.reduceNatCast', -Int.reduceToNat, q2q]; refine PCalls.eqto hterm ?_ <;> (refine Z _ _ ?_; clear Z Y)) | ((first | refine D.x rfl (fun h => by cases h) rfl rfl rfl rfl fun Y Z => ?_ | refine D.u rfl (fun h => by cases h) rfl rfl rfl rfl fun Y Z => ?_); simp only [ze, simprocAttr, -Int.reduceNatCast', -Int.reduceToNat]; refine Z _ _ ?_; clear Z Y))
     all_goals iterate 2 refine D.one q2q ?_
     all_goals refine D.nil ?_
     all_goals simp only [ze, simprocAttr, q2q]
     all_goals simp_all [leafFits, eqS]
    ·have hlf : leafFits n p = false := by
      match p, h1 with
      | [], _ => rfl
      | _ :: _ :: _, _ => rfl
     refine AW.dv { sd := fun d => d == 2 || d == 3 } [(0,0),(1,1),(2,0),(3,0),(4,0),(5,0),(10,0),(6,1),(7,0),(8,0),(9,1),(11,1),(12,0),(13,0),(14,0),(16,0),(15,1),(17,1),(18,0),(19,0),(20,1),(21,2),(22,0),(23,0)] ?_
     refine D.one @List.length_map.{0,0} ?_
     refine D.one @List.length_map.{0,0} ?_
     refine D.one @List.length_map.{0,0} ?_
     (refine D.sp @List.length_map.{0,0} fun b a17 => ?_; cases b <;> (try exact nope a17))
     all_goals iterate 3 refine D.one @List.length_map.{0,0} ?_
     all_goals refine D.one @List.length_map.{0,0} ?_
     all_goals iterate 2 refine D.one @List.length_map.{0,0} ?_
     all_goals iterate 2 refine D.one @List.length_map.{0,0} ?_
     all_goals (first | (refine D.sp @List.length_map.{0,0} fun b a26 => ?_; cases b <;> (try exact nope a26)) | ((first | refine D.x rfl (fun h => by cases h) rfl rfl rfl rfl fun Y Z => ?_ | refine D.u rfl (fun h => by cases h) rfl rfl rfl rfl fun Y Z => ?_); simp only [ze, simprocAttr, -Int.reduceNatCast', -Int.reduceToNat]; refine Z _ _ ?_; clear Z Y))
     all_goals iterate 3 refine D.one @List.length_map.{0,0} ?_
     all_goals iterate 2 refine D.one @List.length_map.{0,0} ?_
     all_goals iterate 2 refine D.one @List.length_map.{0,0} ?_
     all_goals refine D.one @List.length_map.{0,0} ?_
     all_goals (first | (refine D.y rfl trivial rfl rfl rfl rfl fun Y Z => ?_; simp only [zz, simprocAttr, -Int.reduceNatCast', -Int.reduceToNat, List.length_map]; refine PCalls.eqto hterm ?_ <;> (refine Z _ _ ?_; clear Z Y)) | ((first | refine D.x rfl (fun h => by cases h) rfl rfl rfl rfl fun Y Z => ?_ | refine D.u rfl (fun h => by cases h) rfl rfl rfl rfl fun Y Z => ?_); simp only [ze, simprocAttr, -Int.reduceNatCast', -Int.reduceToNat]; refine Z _ _ ?_; clear Z Y))
     all_goals iterate 2 refine D.one @List.length_map.{0,0} ?_
     all_goals refine D.nil ?_
     all_goals simp only [ze, simprocAttr, List.length_map]
     all_goals simp_all
   rintro s σ ⟨rfl, e4⟩
   refine AW.ret ?_
   all_goals simp only [zs, simprocAttr, e4]
   all_goals ((try and_intros) <;> first | rfl | assumption | (rw [hfe]))
  have hk : ¬ n.kind = 1 := by simpa using hk
  rw [if_neg hk] at hfe
  all_goals refine AW.sr trivial ?_
  refine AW.cond (b := n.kind == 4) (by simp [ev]) (fun h4 => ?_) (fun h4 => ?_)
  ·have h4 : n.kind = 4 := by simpa using h4
   rw [if_pos h4] at hfe
   have hany := any85_spec (p := fun x => x.fitsP p) (c := cap [.sl (p.map encBd)]) (g := 86) n.kids (by omega) (cap_wk _) (cap_ok _) (fun x hxm => fits1_spec x p (ih x hxm (hn.kid hxm) (ho.kid hxm) (Nd.err_kid he hxm) p hp hpl))
   refine AW.gen (fun s => s.t 2 = .lp 2 0 ∧ s.l 2 = some [.c (.int .i64 n.kind), .c (.string n.var), .c (.string n.type), .sl (n.tests.map encC), .sl (n.kids.map encNd)] ∧ s.t 3 = .lp 3 0 ∧ s.l 3 = some [.sl (p.map encBd)]) ?_ ?_
   ·simp only [zs, simprocAttr]
    all_goals ((try and_intros) <;> first | rfl | assumption | (rfl))
   rintro s ⟨e2, l2, e3, l3⟩
   refine AW.hushBox l3 (by simp) ?_
   have f2 : (s.bx 3 [.sl (p.map encBd)]).t 2 = .lp 2 0 := by simp [e2, bxV]
   have f3 : (s.bx 3 [.sl (p.map encBd)]).t 3 = cap [.sl (p.map encBd)] := by simp [e3, bxV, cap]
   have g2 : (s.bx 3 [.sl (p.map encBd)]).l 2 = some [.c (.int .i64 n.kind), .c (.string n.var), .c (.string n.type), .sl (n.tests.map encC), .sl (n.kids.map encNd)] := by simp [l2]
   generalize s.bx 3 [.sl (p.map encBd)] = s at *
   refine AW.seq_k fun K5 h5 => ?_
   all_goals refine AW.reg0 ?_
   all_goals iterate 3 refine S.one (J4 f2 g2 f3 @cap_ok) ?_
   all_goals have q3q := J4 f2 g2 f3 @cap_ok
   all_goals (refine S.g rfl rfl fun Y Z => ?_; simp only [zz, simprocAttr, -Int.reduceNatCast', -Int.reduceToNat, q3q]; refine PCalls.eqto hany ?_ <;> (refine Z _ _ ?_; clear Z Y))
   all_goals refine S.one q3q ?_
   all_goals (refine S.nil ?_; simp only [ze, simprocAttr, q3q]; apply_assumption)
   refine AW.ret ?_
   all_goals simp only [zs, simprocAttr]
   all_goals ((try and_intros) <;> first | rfl | assumption | (rw [hfe]))
  ·have h4 : ¬ n.kind = 4 := by simpa using h4
   refine AW.skip ?_
   simp only [zs, simprocAttr]
   all_goals ((try and_intros) <;> first | rfl | assumption | (exact ⟨hk, h4⟩))
 rintro s σ ⟨rfl, e2, l2, e3, l3, hk, h4⟩
 rw [if_neg hk, if_neg h4] at hfe
 all_goals refine AW.sr trivial ?_
 all_goals refine AW.sr trivial ?_
 refine AW.seq_k fun K8 h8 => ?_
 all_goals refine AW.sr (J3 e2 l2 @List.length_map.{0,0}) ?_
 refine AW.block ?_   -- 1
 refine AW.loop (fun m s' σ => σ = Hp.empty ∧ ∃ (i sum : Nat) (last : Int), m + i = n.kids.length ∧ sum ≤ i * 1048576 ∧ n.fitsP p = allFitP p (kidsFitP (decide (n.kind = 2)) p last sum ((n.kids.drop i).map fitOfP)) ∧ s'.t 2 = .lp 2 0 ∧ s'.l 2 = some [.c (.int .i64 n.kind), .c (.string n.var), .c (.string n.type), .sl (n.tests.map encC), .sl (n.kids.map encNd)] ∧ s'.t 3 = .lp 3 0 ∧ s'.l 3 = some [.sl (p.map encBd)] ∧ s'.t 5 = .c (.int .i64 (sum : Nat)) ∧ s'.t 6 = .c (.int .i64 last) ∧ s'.t 44 = .sl (n.kids.map encNd) ∧ s'.t 45 = .c (.int .i64 (n.kids.length : Nat)) ∧ s'.t 46 = .c (.int .i64 (i : Nat))) n.kids.length ?_ ?_
 ·refine ⟨rfl, 0, 0, -1, by simp, by simp, hfe, ?_⟩
  simp only [zs, simprocAttr, e2, l2, e3, l3]
  all_goals ((try and_intros) <;> first | rfl | assumption | (rfl))
 rintro m s σ ⟨rfl, i, sum, last, hm, hsum, hq, e2, l2, e3, l3, e5, e6, e44, e45, e46⟩
 all_goals refine AW.sr (J2 e45 e46) ?_
 refine AW.seq_k fun K11 h11 => ?_
 refine AW.cond (b := decide (i < n.kids.length)) (by simp [ev]) (fun hi => ?_) (fun hi => ?_)
 ·have hi := of_decide_eq_true hi
  obtain ⟨x, hx, hxm, hg⟩ := kid_get hi
  have hw := wadd1 (a := i) (by omega)
  have hql : (ofB p x.vars).length < 1048576 := Nat.lt_of_le_of_lt (ofB_len _ _) hpl
  have hxv := x.vars_size
  have hxs : x.size ≤ 1048576 := hn.kid hxm
  rw [kid_drop hx, List.map_cons, fitOfP, kidsFitP] at hq
  refine AW.skip ?_
  simp only [zs, simprocAttr]
  all_goals apply_assumption
  refine AW.seq_k fun K12 h12 => ?_
  refine AW.block ?_   -- 2
  refine AW.sr (J12 e2 l2 e3 l3 e5 e6 e44 e45 e46 hi hg (J2 @nd @List.length_map.{0,0})) ?_
  refine AW.seq_j (fun s' σ' => σ' = Hp.empty ∧ s'.t 2 = .lp 2 0 ∧ s'.l 2 = some [.c (.int .i64 n.kind), .c (.string n.var), .c (.string n.type), .sl (n.tests.map encC), .sl (n.kids.map encNd)] ∧ s'.t 3 = .lp 3 0 ∧ s'.l 3 = some [.sl (p.map encBd)] ∧ s'.t 5 = .c (.int .i64 (sum : Nat)) ∧ s'.t 6 = .c (.int .i64 last) ∧ s'.t 44 = .sl (n.kids.map encNd) ∧ s'.t 45 = .c (.int .i64 (n.kids.length : Nat)) ∧ s'.t 46 = .c (.int .i64 (i : Nat)) ∧ s'.t 8 = .lp 8 0 ∧ s'.l 8 = some (encNd x) ∧ s'.t 9 = .lp 9 0 ∧ s'.l 9 = some [.sl ((ofB p x.vars).map encBd)]) ?_ ?_
  ·skip
   refine AW.dT { sd := fun d => d == 2 || d == 3 || d == 8 } (.st 0 1 (.st 1 1 (.fork 2 (.fork 3 (.st 4 2 (.st 5 2 .nil)) 4 (.st 3 2 (.st 5 2 .nil))) 4 (.st 2 2 (.st 3 2 (.st 5 2 .nil)))))) ?_
   all_goals iterate 2 refine T.onf (J12 @Bool.or_self @kill.eq_1 @kill.eq_2 e2 l2 e3 l3 e5 e6 e44 e45 (J3 e46 @nd @List.length_map.{0,0})) ?_
   all_goals (try refine T.fork ?_ ?_)
   all_goals have q4q := J12 @Bool.or_self @kill.eq_1 @kill.eq_2 e2 l2 e3 l3 e5 e6 e44 e45 (J3 e46 @nd @List.length_map.{0,0})
   all_goals first | (refine T.g rfl trivial rfl rfl fun Y Z => ?_; simp only [zz, simprocAttr, -Int.reduceNatCast', -Int.reduceToNat, q4q]; refine PCalls.eqto (Vars_spec (hn.kid hxm) (Nd.err_kid he hxm)) ?_ <;> (refine Z _ _ ?_; clear Z Y)) | (refine T.g rfl trivial rfl rfl fun Y Z => ?_; simp only [zz, simprocAttr, -Int.reduceNatCast', -Int.reduceToNat, tt, q4q]; refine Z _ _ ?_; clear Z Y)
   all_goals (try refine T.fork ?_ ?_)
   all_goals have q5q := J12 @Bool.or_self @kill.eq_1 @kill.eq_2 e2 l2 e3 l3 e5 e6 e44 e45 (J3 e46 @nd @List.length_map.{0,0})
   all_goals first | (refine T.g rfl trivial rfl rfl fun Y Z => ?_; simp only [zz, simprocAttr, -Int.reduceNatCast', -Int.reduceToNat, q5q]; refine PCalls.eqto (someB_spec p x.vars hpl (by omega)) ?_ <;> (refine Z _ _ ?_; clear Z Y)) | (refine T.g rfl trivial rfl rfl fun Y Z => ?_; simp only [zz, simprocAttr, -Int.reduceNatCast', -Int.reduceToNat, q5q]; refine PCalls.eqto (Vars_spec (hn.kid hxm) (Nd.err_kid he hxm)) ?_ <;> (refine Z _ _ ?_; clear Z Y)) | (refine T.g rfl trivial rfl rfl fun Y Z => ?_; simp only [zz, simprocAttr, -Int.reduceNatCast', -Int.reduceToNat, tt, q5q]; refine Z _ _ ?_; clear Z Y)
   all_goals have q6q := J12 @Bool.or_self @kill.eq_1 @kill.eq_2 e2 l2 e3 l3 e5 e6 e44 e45 (J3 e46 @nd @List.length_map.{0,0})
   all_goals first | (refine T.g rfl trivial rfl rfl fun Y Z => ?_; simp only [zz, simprocAttr, -Int.reduceNatCast', -Int.reduceToNat, q6q]; refine PCalls.eqto (someB_spec p x.vars hpl (by omega)) ?_ <;> (refine Z _ _ ?_; clear Z Y)) | (refine T.g rfl trivial rfl rfl fun Y Z => ?_; simp only [zz, simprocAttr, -Int.reduceNatCast', -Int.reduceToNat, tt, q6q]; refine Z _ _ ?_; clear Z Y)
   all_goals refine T.onf q6q ?_
   all_goals refine T.nil ?_
   all_goals simp only [ze, simprocAttr, q6q]
   all_goals ((try and_intros) <;> first | rfl | assumption | (rfl))
  rintro s σ ⟨rfl, e2, l2, e3, l3, e5, e6, e44, e45, e46, e8, l8, e9, l9⟩
  have hqe : lenB (ofB p x.vars) := ofB_ev hp _
  generalize hqq : ofB p x.vars = q at *
  refine AW.seq_k fun K14 h14 => ?_
  refine AW.seq_j (fun s' σ' => σ' = Hp.empty ∧ s'.t 2 = .lp 2 0 ∧ s'.l 2 = some [.c (.int .i64 n.kind), .c (.string n.var), .c (.string n.type), .sl (n.tests.map encC), .sl (n.kids.map encNd)] ∧ s'.t 3 = .lp 3 0 ∧ s'.l 3 = some [.sl (p.map encBd)] ∧ s'.t 5 = .c (.int .i64 (sum : Nat)) ∧ s'.t 6 = .c (.int .i64 last) ∧ s'.t 44 = .sl (n.kids.map encNd) ∧ s'.t 45 = .c (.int .i64 (n.kids.length : Nat)) ∧ s'.t 46 = .c (.int .i64 (i : Nat)) ∧ s'.t 9 = .lp 9 0 ∧ s'.l 9 = some [.sl (q.map encBd)] ∧ s'.t 68 = .c (.bool (!(x.fitsP q) || (decide (n.kind = 2) && decide (beginOf q ≤ last))))) ?_ ?_
  ·skip
   refine AW.reg0 ?_
   iterate 2 refine S.one (J12 e2 l2 e3 l3 e5 e6 e44 e45 e46 e8 l8 (J3 e9 l9 @nd)) ?_
   have q7q := J12 e2 l2 e3 l3 e5 e6 e44 e45 e46 e8 l8 (J3 e9 l9 @nd)
   (refine S.g rfl rfl fun Y Z => ?_; simp only [zz, simprocAttr, -Int.reduceNatCast', -Int.reduceToNat, q7q]; refine PCalls.eqto (ih x hxm (hn.kid hxm) (ho.kid hxm) (Nd.err_kid he hxm) q hqe hql) ?_; refine S.bool fun b a56 => ?_; cases b <;> (try exact nope a56) <;> (refine Z _ _ ?_; clear Z Y))
   all_goals iterate 4 refine S.one q7q ?_
   all_goals (first | (refine S.sp q7q fun b a61 => ?_; cases b <;> (try exact nope a61)) | ((first | refine S.x rfl rfl rfl rfl fun Y Z => ?_ | refine S.u rfl rfl rfl rfl fun Y Z => ?_); simp only [ze, simprocAttr, -Int.reduceNatCast', -Int.reduceToNat]; refine Z _ _ ?_; clear Z Y))
   all_goals iterate 2 refine S.one q7q ?_
   all_goals have q8q := J12 e2 l2 e3 l3 e5 e6 e44 e45 e46 e8 l8 (J3 e9 l9 @nd)
   all_goals (first | (refine S.y rfl rfl rfl rfl fun Y Z => ?_; simp only [zz, simprocAttr, -Int.reduceNatCast', -Int.reduceToNat, q8q]; refine PCalls.eqto (begin_spec q (by omega)) ?_ <;> (refine Z _ _ ?_; clear Z Y)) | ((first | refine S.x rfl rfl rfl rfl fun Y Z => ?_ | refine S.u rfl rfl rfl rfl fun Y Z => ?_); simp only [ze, simprocAttr, -Int.reduceNatCast', -Int.reduceToNat]; refine Z _ _ ?_; clear Z Y))
   all_goals iterate 4 refine S.one q8q ?_
   all_goals refine S.nil ?_
   all_goals simp only [ze, simprocAttr, q8q]
   all_goals simp_all
  rintro s σ ⟨rfl, e2, l2, e3, l3, e5, e6, e44, e45, e46, e9, l9, e68⟩
  refine AW.cond (b := !(x.fitsP q) || (decide (n.kind = 2) && decide (beginOf q ≤ last))) e68 (fun hc => ?_) (fun hc => ?_)
  ·have hf : n.fitsP p = false := by
    rw [hq]
    cases hxf : x.fitsP q
    ·rw [if_pos rfl]; rfl
    ·rw [hxf] at hc
     rw [if_neg (by simp), if_pos (by simpa using hc)]; rfl
   refine AW.sr trivial ?_
   refine AW.ret ?_
   simp only [zs, simprocAttr]
   all_goals ((try and_intros) <;> first | rfl | assumption | (rw [hf]))
  have hc1 : x.fitsP q = true := by
   cases h : x.fitsP q
   ·rw [h] at hc; cases hc
   ·rfl
  have hc2 : (decide (n.kind = 2) && decide (beginOf q ≤ last)) = false := by rw [hc1] at hc; simpa using hc
  rw [if_neg (by rw [hc1]; simp), if_neg (by rw [hc2]; exact Bool.false_ne_true)] at hq
  refine AW.skip ?_
  all_goals simp only [zs, simprocAttr]
  all_goals apply_assumption
  have hsw := wadd (a := sum) (b := q.length) (by omega)
  all_goals refine AW.sr (J5 e5 e9 l9 hsw @List.length_map.{0,0}) ?_
  all_goals refine AW.reg0 ?_
  all_goals refine S.one (J2 e9 l9) ?_
  all_goals (refine S.g rfl rfl fun Y Z => ?_; simp only [zz, simprocAttr, -Int.reduceNatCast', -Int.reduceToNat, e9, l9]; refine PCalls.eqto (end_spec q (by omega)) ?_ <;> (refine Z _ _ ?_; clear Z Y))
  all_goals refine S.one (J2 e9 l9) ?_
  all_goals (refine S.nil ?_; simp only [ze, simprocAttr, e9, l9]; apply_assumption)
  all_goals have q9q := J8 e46 hw e2 l2 e3 l3 e44 e45
  all_goals refine AW.reg0 (S.rn q9q ?_)
  all_goals simp only [ze, simprocAttr, q9q]
  refine ⟨m - 1, by omega, i + 1, sum + q.length, endOf q, by omega, by omega, hq, ?_⟩
  all_goals ((try and_intros) <;> first | rfl | assumption | (rfl))
 ·have hi := of_decide_eq_false hi
  have q9 : ((sum : Int) == (p.length : Int)) = (sum == p.length) := by rw [Bool.eq_iff_iff, beq_iff_eq, beq_iff_eq]; omega
  refine AW.exit ?_
  simp only [zs, simprocAttr]
  all_goals apply_assumption
  rw [List.drop_of_length_le (by omega), List.map_nil, kidsFitP] at hq
  have hq : n.fitsP p = (sum == p.length) := hq
  refine AW.sr (J5 e3 l3 e5 q9 @List.length_map.{0,0}) ?_
  refine AW.ret ?_
  simp only [zs, simprocAttr]
  all_goals ((try and_intros) <;> first | rfl | assumption | (rw [hq]))
def Nd.FitsP (n : Nd) (p : List Bd) : Bool := decide (n.shape = 0) && decide (n.binds = 0) && decide (partErr p = 0) && n.fitsP p
theorem Fits_spec (n : Nd) (p : List Bd) (hn : n.small) (ho : n.ok) (hp : okP p) (hpe : lenB p) (hpl : p.length < 1048576) : PCalls Tryz.prog 16 [.agg (encNd n), .agg [.sl (p.map encBd)]] (fun v => v = .c (.bool (n.FitsP p))) := by
 refine PCalls.intro Tryz.call16 Tryz.func16 rfl Tryz.ntmps16 Tryz.results16 (by simp) ?_
 refine AW.sr @nd ?_
 refine AW.seq_j (fun s' σ' => σ' = Hp.empty ∧ s'.t 4 = .c (.bool (n.FitsP p))) ?_ ?_
 ·by_cases hs : n.shape = 0
  ·have he := shape_err hs
   refine AW.reg0 ?_
   refine S.one @nd ?_
   (refine S.g rfl rfl fun Y Z => ?_; simp only [zz, simprocAttr, -Int.reduceNatCast', -Int.reduceToNat, nd]; refine PCalls.eqto (Shape_spec n hn ho) ?_ <;> (refine Z _ _ ?_; clear Z Y))
   all_goals (refine S.sp @nd fun b a7 => ?_; cases b <;> (try exact nope a7))
   all_goals iterate 2 refine S.one @nd ?_
   all_goals (first | (refine S.y rfl rfl rfl rfl fun Y Z => ?_; simp only [zz, simprocAttr, -Int.reduceNatCast', -Int.reduceToNat, nd]; refine PCalls.eqto (Binds_spec n hn he) ?_ <;> (refine Z _ _ ?_; clear Z Y)) | ((first | refine S.x rfl rfl rfl rfl fun Y Z => ?_ | refine S.u rfl rfl rfl rfl fun Y Z => ?_); simp only [ze, simprocAttr, -Int.reduceNatCast', -Int.reduceToNat]; refine Z _ _ ?_; clear Z Y))
   all_goals (first | (refine S.sp @nd fun b a11 => ?_; cases b <;> (try exact nope a11)) | ((first | refine S.x rfl rfl rfl rfl fun Y Z => ?_ | refine S.u rfl rfl rfl rfl fun Y Z => ?_); simp only [ze, simprocAttr, -Int.reduceNatCast', -Int.reduceToNat]; refine Z _ _ ?_; clear Z Y))
   all_goals iterate 3 refine S.one @nd ?_
   all_goals (first | (refine S.y rfl rfl rfl rfl fun Y Z => ?_; simp only [zz, simprocAttr, -Int.reduceNatCast', -Int.reduceToNat, nd]; refine PCalls.eqto (check_part p hp) ?_ <;> (refine Z _ _ ?_; clear Z Y)) | ((first | refine S.x rfl rfl rfl rfl fun Y Z => ?_ | refine S.u rfl rfl rfl rfl fun Y Z => ?_); simp only [ze, simprocAttr, -Int.reduceNatCast', -Int.reduceToNat]; refine Z _ _ ?_; clear Z Y))
   all_goals (first | (refine S.sp @nd fun b a16 => ?_; cases b <;> (try exact nope a16)) | ((first | refine S.x rfl rfl rfl rfl fun Y Z => ?_ | refine S.u rfl rfl rfl rfl fun Y Z => ?_); simp only [ze, simprocAttr, -Int.reduceNatCast', -Int.reduceToNat]; refine Z _ _ ?_; clear Z Y))
   all_goals iterate 4 refine S.one @nd ?_
   all_goals (first | (refine S.y rfl rfl rfl rfl fun Y Z => ?_; simp only [zz, simprocAttr, -Int.reduceNatCast', -Int.reduceToNat, nd]; refine PCalls.eqto (fits_spec n hn ho he p hpe hpl) ?_ <;> (refine Z _ _ ?_; clear Z Y)) | ((first | refine S.x rfl rfl rfl rfl fun Y Z => ?_ | refine S.u rfl rfl rfl rfl fun Y Z => ?_); simp only [ze, simprocAttr, -Int.reduceNatCast', -Int.reduceToNat]; refine Z _ _ ?_; clear Z Y))
   all_goals iterate 2 refine S.one @nd ?_
   all_goals refine S.nil ?_
   all_goals simp only [ze, simprocAttr, nd]
   all_goals simp_all [Nd.FitsP]
  ·have hsf : (n.shape == 0) = false := by simpa using hs
   refine AW.reg0 ?_
   refine S.one (J2 @nd hsf) ?_
   (refine S.g rfl rfl fun Y Z => ?_; simp only [zz, simprocAttr, -Int.reduceNatCast', -Int.reduceToNat, nd, hsf]; refine PCalls.eqto (Shape_spec n hn ho) ?_ <;> (refine Z _ _ ?_; clear Z Y))
   all_goals (refine S.sp (J2 @nd hsf) fun b a7 => ?_; cases b <;> (try exact nope a7))
   all_goals iterate 2 refine S.one (J2 @nd hsf) ?_
   all_goals (first | (refine S.y rfl rfl rfl rfl fun Y Z => ?_; simp only [zz, simprocAttr, -Int.reduceNatCast', -Int.reduceToNat, nd, hsf]; refine PCalls.eqto (Binds_spec n hn he) ?_ <;> (refine Z _ _ ?_; clear Z Y)) | ((first | refine S.x rfl rfl rfl rfl fun Y Z => ?_ | refine S.u rfl rfl rfl rfl fun Y Z => ?_); simp only [ze, simprocAttr, -Int.reduceNatCast', -Int.reduceToNat]; refine Z _ _ ?_; clear Z Y))
   all_goals (first | (refine S.sp (J2 @nd hsf) fun b a11 => ?_; cases b <;> (try exact nope a11)) | ((first | refine S.x rfl rfl rfl rfl fun Y Z => ?_ | refine S.u rfl rfl rfl rfl fun Y Z => ?_); simp only [ze, simprocAttr, -Int.reduceNatCast', -Int.reduceToNat]; refine Z _ _ ?_; clear Z Y))
   all_goals iterate 3 refine S.one (J2 @nd hsf) ?_
   all_goals (first | (refine S.y rfl rfl rfl rfl fun Y Z => ?_; simp only [zz, simprocAttr, -Int.reduceNatCast', -Int.reduceToNat, nd, hsf]; refine PCalls.eqto (check_part p hp) ?_ <;> (refine Z _ _ ?_; clear Z Y)) | ((first | refine S.x rfl rfl rfl rfl fun Y Z => ?_ | refine S.u rfl rfl rfl rfl fun Y Z => ?_); simp only [ze, simprocAttr, -Int.reduceNatCast', -Int.reduceToNat]; refine Z _ _ ?_; clear Z Y))
   all_goals (first | (refine S.sp (J2 @nd hsf) fun b a16 => ?_; cases b <;> (try exact nope a16)) | ((first | refine S.x rfl rfl rfl rfl fun Y Z => ?_ | refine S.u rfl rfl rfl rfl fun Y Z => ?_); simp only [ze, simprocAttr, -Int.reduceNatCast', -Int.reduceToNat]; refine Z _ _ ?_; clear Z Y))
   all_goals iterate 4 refine S.one (J2 @nd hsf) ?_
   all_goals (first | (refine S.y rfl rfl rfl rfl fun Y Z => ?_; simp only [zz, simprocAttr, -Int.reduceNatCast', -Int.reduceToNat, nd, hsf]; refine PCalls.eqto (fits_spec n hn ho he p hpe hpl) ?_ <;> (refine Z _ _ ?_; clear Z Y)) | ((first | refine S.x rfl rfl rfl rfl fun Y Z => ?_ | refine S.u rfl rfl rfl rfl fun Y Z => ?_); simp only [ze, simprocAttr, -Int.reduceNatCast', -Int.reduceToNat]; refine Z _ _ ?_; clear Z Y))
   all_goals iterate 2 refine S.one (J2 @nd hsf) ?_
   all_goals refine S.nil ?_
   all_goals simp only [ze, simprocAttr, nd, hsf]
   all_goals simp_all [Nd.FitsP]
 rintro s σ ⟨rfl, e4⟩
 refine AW.ret ?_
 all_goals simp only [zs, simprocAttr, e4]
 all_goals ((try and_intros) <;> first | rfl | assumption | (rfl))
def isP (p : Pat) (l : List Bd) : Bool := decide (patErr p = 0) && p.node.FitsP l && holdB p l
theorem Is_spec (p : Pat) (l : List Bd) (hp : okPat p) (hl : okP l) (hpe : lenB l) (hpl : l.length < 1048576) (ht : ∀ b ∈ l, inI64 b.ev.time) (hw : inI64 p.within) : PCalls Tryz.prog 14 [.agg (encPat p), .agg [.sl (l.map encBd)]] (fun v => v = .c (.bool (isP p l))) := by
 have hE := (encNd_eq p.node).symm
 have hwith := holds_spec p l hpe hpl ht hw hp.len
 refine PCalls.intro Tryz.call14 Tryz.func14 rfl Tryz.ntmps14 Tryz.results14 (by simp) ?_
 refine AW.sr @encPat.eq_1 ?_
 refine AW.seq_j (fun s' σ' => σ' = Hp.empty ∧ s'.t 4 = .c (.bool (isP p l))) ?_ ?_
 ·skip
  refine AW.reg0 ?_
  refine S.one (J2 hE @nd) ?_
  (refine S.g rfl rfl fun Y Z => ?_; simp only [zz, simprocAttr, -Int.reduceNatCast', -Int.reduceToNat, hE, nd]; refine PCalls.eqto (Pattern_spec p hp) ?_ <;> (refine Z _ _ ?_; clear Z Y))
  all_goals (refine S.sp (J2 hE @nd) fun b a7 => ?_; cases b <;> (try exact nope a7))
  all_goals iterate 4 refine S.one (J2 hE @nd) ?_
  all_goals (first | (refine S.y rfl rfl rfl rfl fun Y Z => ?_; simp only [zz, simprocAttr, -Int.reduceNatCast', -Int.reduceToNat, hE, nd]; refine PCalls.eqto (Fits_spec p.node l hp.small hp.ok hl hpe hpl) ?_; refine S.bool fun b a12 => ?_; cases b <;> (try exact nope a12) <;> (refine Z _ _ ?_; clear Z Y)) | ((first | refine S.x rfl rfl rfl rfl fun Y Z => ?_ | refine S.u rfl rfl rfl rfl fun Y Z => ?_); simp only [ze, simprocAttr, -Int.reduceNatCast', -Int.reduceToNat]; refine Z _ _ ?_; clear Z Y))
  all_goals iterate 4 refine S.one (J2 hE @nd) ?_
  all_goals (first | (refine S.y rfl rfl rfl rfl fun Y Z => ?_; simp only [zz, simprocAttr, -Int.reduceNatCast', -Int.reduceToNat, hE, nd]; refine PCalls.eqto hwith ?_ <;> (refine Z _ _ ?_; clear Z Y)) | ((first | refine S.x rfl rfl rfl rfl fun Y Z => ?_ | refine S.u rfl rfl rfl rfl fun Y Z => ?_); simp only [ze, simprocAttr, -Int.reduceNatCast', -Int.reduceToNat]; refine Z _ _ ?_; clear Z Y))
  all_goals iterate 2 refine S.one (J2 hE @nd) ?_
  all_goals refine S.nil ?_
  all_goals simp only [ze, simprocAttr, hE, nd]
  all_goals simp_all [isP]
 rintro s σ ⟨rfl, e4⟩
 refine AW.ret ?_
 all_goals simp only [zs, simprocAttr, e4]
 all_goals ((try and_intros) <;> first | rfl | assumption | (rfl))
end Go.Abs.M
namespace Go.Abs.M
open Go Go.Abs Go.Proofs
variable [Mode]
set_option maxRecDepth 20000
set_option maxHeartbeats 4000000
theorem sortNil_spec : PCalls Tryz.prog 102 [.sl [], .fn (.func 103) [] []] (fun v => v = .tup []) := by
 refine ⟨(Tryz.sort102.f6).enters rfl, fun cx w xs hH ha => ?_⟩
 obtain ⟨hn, ha⟩ := ha
 match xs, hn with
 | [x0, x1], _ =>
 have h0 := ha 0 _ _ rfl rfl
 obtain ⟨p, cap, e0⟩ : ∃ p cap, x0 = .slice p 0 cap := by
  generalize hu : V.sl [] = u at h0
  cases h0 with
  | nils => exact ⟨_, _, rfl⟩
  | nile a => exact ⟨_, _, rfl⟩
  | sl f h1 h2 h3 h4 h5 h6 => injection hu with hu; subst hu; exact ⟨_, _, rfl⟩
  | _ => cases hu
 subst e0
 exact (AnyF.slices_SortFunc_none (P := Tryz.prog) (ρ := Tryz.sort102_ren) Tryz.sort102 p cap x1 w).mono fun e w' ⟨he, hw⟩ => by
  subst hw
  exact ⟨.tup [], _, cx, Hp.empty, he, .tup rfl (fun i v x hv => by cases hv), ⟨hH, .refl _ _ _, fun _ x hx => .inl ⟨x, hx⟩, fun _ x hx => .inl ⟨x, hx⟩⟩, rfl, rfl⟩
theorem compactNil_spec : PCalls Tryz.prog 104 [.sl [], .fn (.func 105) [] []] (fun v => v = .sl []) := by
 refine PCalls.intro Tryz.call104 Tryz.func104 rfl Tryz.ntmps104 Tryz.results104 (by simp) ?_
 refine AW.sr trivial ?_
 refine AW.seq_k fun K2 h2 => ?_
 refine AW.sr trivial ?_
 refine AW.cond (b := true) (by simp [ev]) (fun _ => ?_) (fun h => by cases h)
 all_goals refine AW.sr trivial ?_
 refine AW.ret ?_
 all_goals simp only [zs, simprocAttr]
 all_goals ((try and_intros) <;> first | rfl | assumption | (rfl))
def hpF (g : Nat) (evs : List Ev) (full : Bool) : Hp := Hp.empty.setObj g (some [.sl (evs.map encEv), .c (.bool full)])
def OwnP (σ : Hp) (l : List (List Bd)) (v : V) (σ' : Hp) : Prop := (v = .sl [] ∧ l = [] ∧ σ' = σ) ∨ ∃ k, v = .gl k ∧ σ.gr k = none ∧ σ' = hpP σ k l
theorem hpF_gr (g : Nat) (evs : List Ev) (full : Bool) (k : Nat) : (hpF g evs full).gr k = none := rfl
theorem hpF_set (g : Nat) (evs : List Ev) (full : Bool) (k : Nat) : (hpF g evs full).setGr k none = hpF g evs full := Hp.setGr_none (hpF_gr g evs full k)
theorem hpF_full (g : Nat) (evs : List Ev) (a b : Bool) : (hpF g evs a).setObj g (some [.sl (evs.map encEv), .c (.bool b)]) = hpF g evs b := by simp [hpF]
theorem hpPF_full (g : Nat) (evs : List Ev) (a b : Bool) (k : Nat) (l : List (List Bd)) : (hpP (hpF g evs a) k l).setObj g (some [.sl (evs.map encEv), .c (.bool b)]) = hpP (hpF g evs b) k l := by
 simp only [hpP, hpF, Hp.setObj, Hp.setGr, Hp.mk.injEq, and_true]
 funext j
 by_cases h : j = g <;> simp [h]
theorem hpPF_obj (g : Nat) (evs : List Ev) (full : Bool) (k : Nat) (l : List (List Bd)) : (hpP (hpF g evs full) k l).obj g = some [.sl (evs.map encEv), .c (.bool full)] := by simp [hpP, hpF]
theorem hpF_obj (g : Nat) (evs : List Ev) (full : Bool) : (hpF g evs full).obj g = some [.sl (evs.map encEv), .c (.bool full)] := by simp [hpF]
theorem map3 (evs : List Ev) (b : Bool) : isMap [.sl (evs.map encEv), .c (.bool b)] = false := rfl
theorem onceNil_spec (g : Nat) (evs : List Ev) (full : Bool) : ACalls Tryz.prog 69 [ptrV g, .sl []] (hpF g evs full) (fun v σ' => v = .sl [] ∧ σ' = hpF g evs full) := by
 have hsortN := sortNil_spec.at (hpF g evs full)
 have hcompN := compactNil_spec.at (hpF g evs full)
 have ho := hpF_obj g evs full
 have hfull := hpF_full g evs full full
 have hm := map3 evs full
 generalize hsg : hpF g evs full = σ0 at *
 refine ACalls.intro Tryz.call69 Tryz.func69 rfl Tryz.ntmps69 Tryz.results69 (by simp) ?_
 refine AW.sr @ptrV.eq_1 ?_
 refine AW.seq_k fun K2 h2 => ?_
 refine AW.reg0 ?_
 refine S.one @ptrV.eq_1 ?_
 (refine S.g rfl rfl fun Y Z => ?_; simp only [zz, simprocAttr, -Int.reduceNatCast', -Int.reduceToNat, ptrV]; (first | (refine ACalls.to hsortN ?_; rintro _ _ ⟨rfl, rfl⟩) | (refine ACalls.to hsort ?_; rintro _ _ ⟨rfl, l', hperm, hsrt, rfl⟩)) <;> (refine Z _ _ ?_; clear Z Y))
 all_goals (refine S.nil ?_; simp only [ze, simprocAttr, ptrV]; apply_assumption)
 refine AW.seq_k fun K3 h3 => ?_
 all_goals refine AW.reg0 ?_
 all_goals refine S.one @ptrV.eq_1 ?_
 all_goals (refine S.g rfl rfl fun Y Z => ?_; simp only [zz, simprocAttr, -Int.reduceNatCast', -Int.reduceToNat, ptrV]; (first | (refine ACalls.to hcompN ?_; rintro _ _ ⟨rfl, rfl⟩) | (refine ACalls.to hcomp ?_; rintro _ _ ⟨k2, rfl, hk2, rfl⟩)) <;> (refine Z _ _ ?_; clear Z Y))
 all_goals refine S.one @ptrV.eq_1 ?_
 all_goals (refine S.nil ?_; simp only [ze, simprocAttr, ptrV]; apply_assumption)
 have q0 : ((0 : Int) > 4096) = False := by simp
 cases full
 ·refine AW.sr (J7 @ptrV.eq_1 ho hm q0 @Int.ofNat_zero @decide_false hfull) ?_
  refine AW.sr trivial ?_
  refine AW.ret ?_
  simp only [zs, simprocAttr]
  all_goals ((try and_intros) <;> first | rfl | assumption | (rfl))
 ·refine AW.sr (J5 @ptrV.eq_1 ho hm q0 hfull) ?_
  refine AW.sr trivial ?_
  refine AW.ret ?_
  simp only [zs, simprocAttr]
  all_goals ((try and_intros) <;> first | rfl | assumption | (rfl))
theorem once_spec {U : List Bd → Prop} (hS : Apt U) (g : Nat) (evs : List Ev) (full : Bool) (k : Nat) (l : List (List Bd)) (hlS : ∀ p ∈ l, U p) (hl : l.length < 4611686018427387904) (hlen : ∀ p ∈ l, p.length < 4611686018427387904) :
  ACalls Tryz.prog 69 [ptrV g, .gl k] (hpP (hpF g evs full) k l) (fun v σ' => OwnP (hpF g evs (full || decide (4096 < (norm l).length))) (norm l) v σ') := by
 have hsort := sort_spec (σ := hpP (hpF g evs full) k l) (k := k) (l := l) (by simp [hpP]) hl hlen
 have hss : ∀ l' : List (List Bd), hpP (hpP (hpF g evs full) k l) k l' = hpP (hpF g evs full) k l' := fun l' => by simp [hpP]
 refine ACalls.intro Tryz.call69 Tryz.func69 rfl Tryz.ntmps69 Tryz.results69 (by simp) ?_
 refine AW.sr @ptrV.eq_1 ?_
 refine AW.seq_k fun K2 h2 => ?_
 refine AW.reg0 ?_
 refine S.one @ptrV.eq_1 ?_
 (refine S.g rfl rfl fun Y Z => ?_; simp only [zz, simprocAttr, -Int.reduceNatCast', -Int.reduceToNat, ptrV]; (first | (refine ACalls.to hsortN ?_; rintro _ _ ⟨rfl, rfl⟩) | (refine ACalls.to hsort ?_; rintro _ _ ⟨rfl, l', hperm, hsrt, rfl⟩)) <;> (refine Z _ _ ?_; clear Z Y))
 all_goals (refine S.nil ?_; simp only [ze, simprocAttr, ptrV]; apply_assumption)
 rw [hss]
 have hcomp := compact_spec (σ0 := hpF g evs full) (k := k) l' (by rw [hperm.length_eq]; exact hl) (fun p hp => hlen p (hperm.subset hp))
 rw [compact_norm hS hlS hperm hsrt] at hcomp
 refine AW.seq_k fun K3 h3 => ?_
 all_goals refine AW.reg0 ?_
 all_goals refine S.one @ptrV.eq_1 ?_
 all_goals (refine S.g rfl rfl fun Y Z => ?_; simp only [zz, simprocAttr, -Int.reduceNatCast', -Int.reduceToNat, ptrV]; (first | (refine ACalls.to hcompN ?_; rintro _ _ ⟨rfl, rfl⟩) | (refine ACalls.to hcomp ?_; rintro _ _ ⟨k2, rfl, hk2, rfl⟩)) <;> (refine Z _ _ ?_; clear Z Y))
 all_goals refine S.one @ptrV.eq_1 ?_
 all_goals (refine S.nil ?_; simp only [ze, simprocAttr, ptrV]; apply_assumption)
 rw [hpF_set]
 have ho := hpPF_obj g evs full k2 (norm l)
 have hg : (hpP (hpF g evs full) k2 (norm l)).gr k2 = some ((40, 1), (norm l).map encP) := by simp [hpP]
 have hfull := fun b => hpPF_full g evs full b k2 (norm l)
 have hm := map3 evs full
 have q1 : (((norm l).length : Int) > 4096) = (4096 < (norm l).length) := by rw [eq_iff_iff]; omega
 generalize hsg : hpP (hpF g evs full) k2 (norm l) = σ0 at *
 cases full
 ·refine AW.sr (J7 @ptrV.eq_1 ho hg hm q1 @List.length_map.{0,0} hfull) ?_
  refine AW.sr trivial ?_
  refine AW.ret ?_
  simp only [zs, simprocAttr]
  exact .inr ⟨k2, rfl, rfl, by simp⟩
 ·refine AW.sr (J7 @ptrV.eq_1 ho hg hm q1 @List.length_map.{0,0} hfull) ?_
  refine AW.sr trivial ?_
  refine AW.ret ?_
  simp only [zs, simprocAttr]
  exact .inr ⟨k2, rfl, rfl, by rw [Bool.true_or]⟩
end Go.Abs.M
namespace Go.Abs.M
set_option maxHeartbeats 4000000
open Go Go.Abs Go.Proofs
def rowP (two : Bool) (vs : List ByteArray) (b : List (List Bd)) (p : List Bd) : List (List Bd) := b.filterMap fun q => if two && decide (beginOf q ≤ endOf (ofB p vs)) then none else mg p q
def pairsP (two : Bool) (vs : List ByteArray) (a b : List (List Bd)) : List (List Bd) := a.flatMap (rowP two vs b)
def joinP (two : Bool) : Option (List (List Bd) × List ByteArray) → List (Option (List (List Bd)) × List ByteArray) → Option (List (List Bd))
  | acc, [] => some ((acc.map Prod.fst).getD [])
  | _, (none, _) :: _ => none
  | none, (some l, vs) :: r => joinP two (some (l, vs)) r
  | some (a, vs0), (some l, vs) :: r => (capL (norm (pairsP two vs0 a l))).bind fun m => joinP two (some (m, vs)) r
def allO : List (Option (List (List Bd))) → Option (List (List Bd))
  | [] => some []
  | none :: _ => none
  | some l :: r => (allO r).map (l ++ ·)
def orP (l : List (Option (List (List Bd)))) : Option (List (List Bd)) := (allO l).bind fun l => capL (norm l)
def denPF (evs : List Ev) (n : Nd) (l : List (Option (List (List Bd)))) : Option (List (List Bd)) := if n.kind = 1 then some (norm (leafL n evs)) else if n.kind = 4 then orP l else joinP (decide (n.kind = 2)) none (l.zip (n.kids.map Nd.vars))
def Nd.denP (evs : List Ev) (n : Nd) : Option (List (List Bd)) := n.para (denPF evs)
def denOf (evs : List Ev) (x : Nd) : Option (List (List Bd)) × List ByteArray := (x.denP evs, x.vars)
theorem Nd.denP_eq (evs : List Ev) (n : Nd) : n.denP evs = if n.kind = 1 then some (norm (leafL n evs)) else if n.kind = 4 then orP (n.kids.map (Nd.denP evs)) else joinP (decide (n.kind = 2)) none (n.kids.map (denOf evs)) := by
 have h : n.denP evs = denPF evs n (n.kids.map (Nd.denP evs)) := Nd.para_eq _ n
 rw [h, denPF]
 have hz : ∀ ks : List Nd, (ks.map (Nd.denP evs)).zip (ks.map Nd.vars) = ks.map (denOf evs) := fun ks => by
  induction ks with
  | nil => rfl
  | cons x xs ih => rw [List.map_cons, List.map_cons, List.zip_cons_cons, ih]; rfl
 rw [hz]
def Held (σ0 : Hp) (l : List (List Bd)) (v : V) (σ : Hp) : Prop := ((v = .sl [] ∨ v = .c (.slice none 0 0)) ∧ l = [] ∧ σ = σ0) ∨ ∃ k, v = .gl k ∧ σ0.gr k = none ∧ σ = hpP σ0 k l
theorem OwnP.held {σ0 σ : Hp} {l : List (List Bd)} {v : V} (h : OwnP σ0 l v σ) : Held σ0 l v σ := by
 rcases h with ⟨h1, h2, h3⟩ | h
 ·exact .inl ⟨.inl h1, h2, h3⟩
 ·exact .inr h
theorem Held.own {σ0 σ : Hp} {l : List (List Bd)} {v : V} (h : Held σ0 l v σ) (hv : v ≠ .c (.slice none 0 0)) : OwnP σ0 l v σ := by
 rcases h with ⟨h1 | h1, h2, h3⟩ | h
 ·exact .inl ⟨h1, h2, h3⟩
 ·exact absurd h1 hv
 ·exact .inr h
theorem Held.obj {σ0 σ : Hp} {l : List (List Bd)} {v : V} (h : Held σ0 l v σ) (g : Nat) : σ.obj g = σ0.obj g := by
 rcases h with ⟨_, _, rfl⟩ | ⟨k, _, _, rfl⟩ <;> rfl
theorem Held.kill {σ0 σ : Hp} {l : List (List Bd)} {v : V} (h : Held σ0 l v σ) (d : Nat) : kill d v = v := by
 rcases h with ⟨h1 | h1, _⟩ | ⟨k, h1, _⟩ <;> rw [h1] <;> rfl
structure FindQ (evs : List Ev) (n : Nd) (full full' : Bool) (l : List (List Bd)) : Prop where
  of : ∀ p ∈ l, From evs p ∧ okQ p
  len : l.length ≤ 16777216 + 4096 * n.size
  no : full' = false → full = false ∧ n.denP evs = some l ∧ l.length ≤ 4096
  yes : full' = true → full = true ∨ n.denP evs = none
  nil : full = true → l = []
def FindC (g : Nat) (evs : List Ev) (n : Nd) : Prop := ∀ full, ACalls Tryz.prog 38 [ptrV g, .agg (encNd n)] (hpF g evs full) (fun v σ' => ∃ full' l, OwnP (hpF g evs full') l v σ' ∧ FindQ evs n full full' l)
theorem FindC.at {g : Nat} {evs : List Ev} {n : Nd} (h : FindC g evs n) {full : Bool} {a : List (List Bd)} {va : V} {σ : Hp} (ha : Held (hpF g evs full) a va σ) :
    ACalls Tryz.prog 38 [ptrV g, .agg (encNd n)] σ (fun v σ' => ∃ full' l σ1, OwnP (hpF g evs full') l v σ1 ∧ Held σ1 a va σ' ∧ FindQ evs n full full' l) := by
  rcases ha with ⟨hv, rfl, rfl⟩ | ⟨k, rfl, h0, rfl⟩
  · exact (h full).to fun v σ' ⟨full', l, h1, h2⟩ => ⟨full', l, σ', h1, .inl ⟨hv, rfl, rfl⟩, h2⟩
  · have hs : Hp.Le (hpF g evs full) (hpP (hpF g evs full) k a) := ⟨fun _ _ h => h, fun k' x hx => by cases hx⟩
    refine ((h full).frame hs).to fun v σ' ⟨σ1, ⟨full', l, h1, h2⟩, hf, hσ⟩ => ⟨full', l, σ1, h1, .inr ⟨k, rfl, ?_, ?_⟩, h2⟩
    · cases hk : σ1.gr k with
      | none => rfl
      | some x =>
        have := hf.gr k x hk (hpF_gr g evs full k)
        simp [hpP] at this
    · subst hσ
      have hn : σ1.gr k = none := by
        cases hk : σ1.gr k with
        | none => rfl
        | some x =>
          have := hf.gr k x hk (hpF_gr g evs full k)
          simp [hpP] at this
      have hob : ∀ j, σ1.obj j = none → (hpF g evs full).obj j = none := fun j hj => by
        by_cases e : j = g
        · subst e
          have := h1.held.obj j
          rw [hj] at this
          simp [hpF] at this
        · simp [hpF, e, Hp.empty]
      show Hp.over σ1 _ _ = _
      simp only [Hp.over, hpP, Hp.setGr, Hp.mk.injEq]
      constructor
      · funext j
        cases hj : σ1.obj j with
        | some x => rfl
        | none => rw [hob j hj]
      · funext j
        by_cases e : j = k
        · subst e; rw [hn]; simp [hpF_gr]
        · cases hj : σ1.gr j with
          | some x => simp [e]
          | none => simp [e, hpF_gr]
theorem fz_held {σ0 σ1 σ2 : Hp} {b : List (List Bd)} {v : V} {k : Nat} {es : List (List V)} (h : Held σ1 b v σ0) (hk : σ0.gr k = none) : fzV k es v = v := by
 rcases h with ⟨h1 | h1, _⟩ | ⟨k2, h1, _, h2⟩
 ·rw [h1]; rfl
 ·rw [h1]; rfl
 ·rw [h1]
  have : k2 ≠ k := fun e => by subst e; rw [h2] at hk; simp [hpP] at hk
  simp [fzV, fz1, this]
theorem AW.heldP {P : Program} {n : Nat} {c : Code} {Q : Exit → St → Hp → Prop} {s : St} {σ σ0 : Hp} {i : Nat} {a : List (List Bd)} (h : OwnP σ0 a (s.t i) σ)
  (hk : ∀ s' : St, s'.t i = .sl (a.map encP) → (∀ j v, s.t j = v → (∀ k es, fzV k es v = v) → s'.t j = v) → (∀ j σ1 b, Held σ1 b (s.t j) σ0 → s'.t j = s.t j) →
   (∀ d cs, s.l d = some cs → (∀ k es, cs.map (fz1 k es) = cs) → s'.l d = some cs) → AW P n c Q s' σ0) : AW P n c Q s σ := by
 rcases h with ⟨h1, rfl, rfl⟩ | ⟨k, h1, h2, rfl⟩
 ·exact hk s h1 (fun j v h _ => h) (fun _ _ _ _ => rfl) fun d cs h _ => h
 ·refine AW.freeze (k := k) (T := (40, 1)) (es := a.map encP) (by simp [hpP]) ?_
  have hem : (hpP σ0 k a).setGr k none = σ0 := by rw [hpP, Hp.set_none h2]
  rw [hem]
  refine hk _ ?_ (fun j v hj hv => ?_) (fun j σ1 b hb => ?_) fun d cs hd hc => ?_
  ·rw [St.fz_t, h1]; simp [fzV, fz1]
  ·rw [St.fz_t, hj, hv]
  ·rw [St.fz_t]; exact fz_held (σ2 := σ0) hb h2
  ·rw [St.fz_l, hd, Option.map_some, hc]
theorem addP_len (rows : List (List Bd)) (x : List Bd) : (addP rows x).length ≤ rows.length + 1 := by
 unfold addP
 split
 ·omega
 ·rw [insL'_at, List.length_append, List.length_cons, List.length_take, List.length_drop]; omega
theorem norm_len (l : List (List Bd)) : (norm l).length ≤ l.length := by
 have h : ∀ (l a : List (List Bd)), (l.foldl addP a).length ≤ a.length + l.length := fun l => by
  induction l with
  | nil => intro a; exact Nat.le_refl _
  | cons x l ih => intro a; have h1 := ih (addP a x); have h2 := addP_len a x; simp only [List.foldl_cons, List.length_cons] at *; omega
 have := h l []
 simpa [norm] using this
set_option maxRecDepth 20000
def AccH (σ0 : Hp) (l : List (List Bd)) (v : V) (σ : Hp) : Prop := (v = .c (.slice none 0 0) ∧ l = [] ∧ σ = σ0) ∨ ∃ k, v = .gl k ∧ σ0.gr k = none ∧ σ = hpP σ0 k l
theorem AccH.held {σ0 σ : Hp} {l : List (List Bd)} {v : V} (h : AccH σ0 l v σ) : Held σ0 l v σ := by
 rcases h with ⟨h1, h2, h3⟩ | h
 ·exact .inl ⟨.inr h1, h2, h3⟩
 ·exact .inr h
def aheadO (n : Nd) (i : Nat) (acc : List (List Bd)) : Option (List (List Bd) × List ByteArray) := if i = 0 then none else (n.kids[i - 1]?).map fun y => (acc, y.vars)
def okF (evs : List Ev) (p : List Bd) : Prop := From evs p ∧ okQ p
theorem okQ.m {p : List Bd} (h : okQ p) : okM p := ⟨h.ok, fun x hx => by have := h.few x hx; omega⟩
theorem mg_from {evs : List Ev} {p q m : List Bd} (hp : From evs p) (hq : From evs q) (h : mg p q = some m) : From evs m := by
 obtain ⟨_, _, _, _, h5⟩ := ofB_mrg h []
 intro b hb
 rcases List.mem_append.1 (h5.subset hb) with h | h
 ·exact hp b h
 ·exact hq b h
theorem row_ok {evs : List Ev} {two : Bool} {vs : List ByteArray} {b : List (List Bd)} {p : List Bd} (hb : ∀ q ∈ b, okF evs q) (hp : okF evs p) : ∀ m ∈ rowP two vs b p, okF evs m := by
 intro m hm
 obtain ⟨q, hq, h⟩ := List.mem_filterMap.1 hm
 split at h
 ·cases h
 ·exact ⟨mg_from hp.1 (hb q hq).1 h, mg_okQ hp.2 (hb q hq).2 h⟩
theorem row_len (two : Bool) (vs : List ByteArray) (b : List (List Bd)) (p : List Bd) : (rowP two vs b p).length ≤ b.length := List.length_filterMap_le _ _
theorem pairs_ok {evs : List Ev} {two : Bool} {vs : List ByteArray} {a b : List (List Bd)} (ha : ∀ q ∈ a, okF evs q) (hb : ∀ q ∈ b, okF evs q) : ∀ m ∈ pairsP two vs a b, okF evs m := by
 intro m hm
 obtain ⟨p, hp, h⟩ := List.mem_flatMap.1 hm
 exact row_ok hb (ha p hp) m h
theorem pairs_len (two : Bool) (vs : List ByteArray) (a b : List (List Bd)) : (pairsP two vs a b).length ≤ a.length * b.length := by
  induction a with
  | nil => simp [pairsP]
  | cons p a ih =>
    have := row_len two vs b p
    simp only [pairsP, List.flatMap_cons, List.length_append, List.length_cons, Nat.add_mul, Nat.one_mul] at *
    omega
theorem row_step {two : Bool} {vs : List ByteArray} {b : List (List Bd)} {p q : List Bd} {j : Nat} (h : b[j]? = some q) : rowP two vs (b.take (j + 1)) p = rowP two vs (b.take j) p ++ if two && decide (beginOf q ≤ endOf (ofB p vs)) then [] else if optB (mg p q) then [optL (mg p q)] else [] := by
 rw [List.take_add_one, h, rowP, List.filterMap_append]
 congr 1
 show List.filterMap (fun q => if (two && decide (beginOf q ≤ endOf (ofB p vs))) = true then none else mg p q) [q] = _
 rw [List.filterMap_cons]
 cases hl : (two && decide (beginOf q ≤ endOf (ofB p vs)))
 ·rw [if_neg Bool.false_ne_true, if_neg Bool.false_ne_true]
  cases hm : mg p q <;> rfl
 ·rfl
theorem pairs_step {two : Bool} {vs : List ByteArray} {a b : List (List Bd)} {p : List Bd} {i : Nat} (h : a[i]? = some p) : pairsP two vs (a.take (i + 1)) b = pairsP two vs (a.take i) b ++ rowP two vs b p := by
 rw [List.take_add_one, h, pairsP, List.flatMap_append]; simp [pairsP]
theorem joinP_none (two : Bool) (acc : Option (List (List Bd) × List ByteArray)) (vs : List ByteArray) (r : List (Option (List (List Bd)) × List ByteArray)) : joinP two acc ((none, vs) :: r) = none := by cases acc <;> rfl
theorem AW.forget {P : Program} {n : Nat} {c : Code} {Q : Exit → St → Hp → Prop} {s : St} {σ σ0 : Hp} {a : List (List Bd)} {v : V} (h : Held σ0 a v σ) (hw : AW P n c Q s σ0) : AW P n c Q s σ := by
 refine AW.sub (fun g c hg => by rw [h.obj]; exact hg) (fun k x hx => ?_) hw
 rcases h with ⟨_, _, rfl⟩ | ⟨k0, _, h0, rfl⟩
 ·exact hx
 ·have : k ≠ k0 := fun e => by subst e; rw [h0] at hx; cases hx
  simp [hpP, Hp.setGr, this, hx]
theorem joined_spec {evs : List Ev} (hev : okEvs evs) (hdi : Dist evs) (g : Nat) (n : Nd) (hn : n.small) (he : n.err = 0) (hk0 : 0 < n.kids.length) (hk1 : ¬ n.kind = 1) (hk4 : ¬ n.kind = 4) (hf : ∀ x ∈ n.kids, FindC g evs x) :
    ACalls Tryz.prog 70 [ptrV g, .agg (encNd n)] (hpF g evs false) (fun v σ' => ∃ full' l, OwnP (hpF g evs full') l v σ' ∧ FindQ evs n false full' l) := by
  have hl := hn.len
  have hp0 := n.denP_eq evs
  rw [if_neg hk1, if_neg hk4] at hp0
  have hmap := map3 evs
  rw [encNd_eq]
  refine ACalls.intro Tryz.call70 Tryz.func70 rfl Tryz.ntmps70 Tryz.results70 (by simp) ?_
  refine AW.sr trivial ?_
  refine AW.sr trivial ?_
  refine AW.seq_k fun K3 h3 => ?_
  refine AW.sr @List.length_map.{0,0} ?_
  refine AW.block ?_   -- 0
  refine AW.loop (fun m s σ => ∃ (i : Nat) (acc : List (List Bd)) (fl : Bool), m + i = n.kids.length ∧ Held (hpF g evs fl) acc (s.t 5) σ ∧ (i = 0 → s.t 5 = .c (.slice none 0 0) ∧ fl = false) ∧ (0 < i → s.t 5 ≠ .c (.slice none 0 0)) ∧ (∀ p ∈ acc, okF evs p) ∧ acc.length ≤ 16777216 ∧ (fl = false → acc.length ≤ 4096 ∧ n.denP evs = joinP (decide (n.kind = 2)) (aheadO n i acc) ((n.kids.drop i).map (denOf evs))) ∧ (fl = true → n.denP evs = none) ∧ s.t 0 = ptrV g ∧ s.t 3 = .lp 3 0 ∧ s.l 3 = some [.c (.int .i64 n.kind), .c (.string n.var), .c (.string n.type), .sl (n.tests.map encC), .sl (n.kids.map encNd)] ∧ s.t 19 = .sl (n.kids.map encNd) ∧ s.t 20 = .c (.int .i64 (n.kids.length : Nat)) ∧ s.t 21 = .c (.int .i64 (i : Nat))) n.kids.length ?_ ?_
  · refine ⟨0, [], false, by simp, .inl ⟨.inr ?_, rfl, rfl⟩, (fun _ => ⟨?_, rfl⟩), (fun h => absurd h (Nat.lt_irrefl 0)), (fun _ h => by cases h), by simp, (fun _ => ⟨by simp, by simpa [aheadO] using hp0⟩), (fun h => by cases h), ?_⟩
    · simp only [zs, simprocAttr]
    · simp only [zs, simprocAttr]
    all_goals simp only [zs, simprocAttr, ptrV]
    all_goals ((try and_intros) <;> first | rfl | assumption | (rfl))
  rintro m s σ ⟨i, acc, fl, hm, hacc, hi0, hi1, hao, hal, hno, hyes, e0, e3, l3, e19, e20, e21⟩
  have hk5 := fun d => hacc.kill d
  all_goals refine AW.sr (J2 e20 e21) ?_
  refine AW.seq_k fun K6 h6 => ?_
  refine AW.cond (b := decide (i < n.kids.length)) (by simp [ev]) (fun hi => ?_) (fun hi => ?_)
  · have hi := of_decide_eq_true hi
    obtain ⟨x, hx, hxm, hg⟩ := kid_get hi
    have hw := wadd1 (a := i) (by omega)
    refine AW.skip ?_
    simp only [zs, simprocAttr]
    all_goals apply_assumption
    refine AW.seq_k fun K7 h7 => ?_
    refine AW.block ?_   -- 1
    refine AW.sr (J12 e0 e3 l3 e19 e20 e21 hk5 hi hg @nd @ptrV.eq_1 @List.length_map.{0,0}) ?_
    have hobj : σ.obj g = some [.sl (evs.map encEv), .c (.bool fl)] := by rw [hacc.obj]; exact hpF_obj g evs fl
    refine AW.seq_k fun K9 h9 => ?_
    refine AW.reg0 ?_
    iterate 2 refine S.one (J3 e0 @ptrV.eq_1 @nd) ?_
    have q1q := J3 e0 @ptrV.eq_1 @nd
    (refine S.g rfl rfl fun Y Z => ?_; simp only [zz, simprocAttr, -Int.reduceNatCast', -Int.reduceToNat, q1q]; (refine ACalls.to (FindC.at (hf x hxm) hacc) ?_; rintro v1 σ2 ⟨full', lk, σ1, hown, hheld, hfq⟩) <;> (refine Z _ _ ?_; clear Z Y))
    all_goals refine S.one q1q ?_
    all_goals (refine S.nil ?_; simp only [ze, simprocAttr, q1q]; apply_assumption)
    have hobj2 : σ2.obj g = some [.sl (evs.map encEv), .c (.bool full')] := by rw [hheld.obj, hown.held.obj]; exact hpF_obj g evs full'
    have hk8 := fun d => hown.held.kill d
    refine AW.seq_k fun K10 h10 => ?_
    all_goals refine AW.sr (J4 e0 @ptrV.eq_1 hobj2 hmap) ?_
    refine AW.cond (b := full') (by simp [ev]) (fun hb => ?_) (fun hb => ?_)
    · subst hb
      have hden : n.denP evs = none := by
        rcases hfq.yes rfl with h | h
        · exact hyes h
        · cases fl with
          | true => exact hyes rfl
          | false =>
            have hp := (hno rfl).2
            rw [kid_drop hx, List.map_cons, denOf, h, joinP_none] at hp
            exact hp
      refine AW.forget hheld (AW.forget hown.held ?_)
      refine AW.sr trivial ?_
      refine AW.ret ?_
      simp only [zs, simprocAttr]
      refine ⟨true, [], .inl ⟨rfl, rfl, rfl⟩, (fun _ h => by cases h), by simp, (fun h => by cases h), (fun _ => .inr hden), fun h => by cases h⟩
    subst hb
    obtain ⟨rfl, hden, hlk⟩ := hfq.no rfl
    obtain ⟨hal, hp⟩ := hno rfl
    rw [kid_drop hx, List.map_cons, denOf, hden] at hp
    refine AW.skip ?_
    all_goals simp only [zs, simprocAttr]
    all_goals apply_assumption
    refine AW.seq_k fun K13 h13 => ?_
    all_goals refine AW.sr trivial ?_
    refine AW.cond (b := decide (i = 0)) (by simp [ev]; rw [Bool.eq_iff_iff, beq_iff_eq, decide_eq_true_eq]; omega) (fun hc => ?_) (fun hc => ?_)
    · have hc := of_decide_eq_true hc
      subst hc
      have hs12 : σ2 = σ1 := by
        rcases hheld with ⟨_, _, h⟩ | ⟨k, h, _⟩
        · exact h
        · rw [(hi0 rfl).1] at h; cases h
      subst hs12
      refine AW.sr trivial ?_
      refine AW.exit ?_
      simp only [zs, simprocAttr]
      all_goals apply_assumption
      have q2q := J7 e0 e3 l3 e19 e20 e21 hw
      refine AW.reg0 (S.rn q2q ?_)
      simp only [ze, simprocAttr, q2q]
      refine ⟨m - 1, by omega, 1, lk, false, by omega, hown.held, (fun h => by cases h), (fun _ h => ?_), hfq.of, by omega, (fun _ => ⟨hlk, hp.trans ?_⟩), (fun h => by cases h), ?_⟩
      · rcases hown with ⟨h1, _⟩ | ⟨k, h1, _⟩ <;> rw [h1] at h <;> cases h
      · have h1 : aheadO n 1 lk = some (lk, x.vars) := by
          unfold aheadO
          rw [if_neg (by decide)]
          show (n.kids[0]?).map _ = _
          rw [hx]; rfl
        rw [h1]; rfl
      all_goals ((try and_intros) <;> first | rfl | assumption | (rfl))
    have hc := of_decide_eq_false hc
    obtain ⟨i', rfl⟩ : ∃ i', i = i' + 1 := ⟨i - 1, by omega⟩
    obtain ⟨y, hy, hym, hgy⟩ := kid_get (n := n) (i := i') (by omega)
    have hws := wsub1 (a := i') (by omega)
    rw [aheadO, if_neg (by omega), Nat.add_sub_cancel, hy, Option.map_some, joinP] at hp
    refine AW.skip ?_
    all_goals simp only [zs, simprocAttr]
    all_goals apply_assumption
    refine AW.gen (fun s' => s'.t 0 = ptrV g ∧ s'.t 3 = .lp 3 0 ∧ s'.l 3 = some [.c (.int .i64 n.kind), .c (.string n.var), .c (.string n.type), .sl (n.tests.map encC), .sl (n.kids.map encNd)] ∧ s'.t 5 = s.t 5 ∧ s'.t 6 = .c (.int .i64 ((i' + 1 : Nat) : Int)) ∧ s'.t 8 = v1 ∧ s'.t 19 = .sl (n.kids.map encNd) ∧ s'.t 20 = .c (.int .i64 (n.kids.length : Nat)) ∧ s'.t 21 = .c (.int .i64 ((i' + 1 : Nat) : Int))) ?_ ?_
    · simp only [zs, simprocAttr, e0, e3, l3, e19, e20, e21, hk5]
      all_goals ((try and_intros) <;> first | rfl | assumption | (rfl))
    rintro s2 ⟨e0, e3, l3, e5, e6, e8, e19, e20, e21⟩
    have hown5 : OwnP σ1 acc (s2.t 5) σ2 := by rw [e5]; exact hheld.own (hi1 (by omega))
    refine AW.heldP hown5 fun s3 f5 kt kh kl => ?_
    have e0 := kt 0 _ e0 (fun _ _ => rfl)
    have e3 := kt 3 _ e3 (fun _ _ => rfl)
    have e6 := kt 6 _ e6 (fun _ _ => rfl)
    have e19 := kt 19 _ e19 (fun _ _ => rfl)
    have e20 := kt 20 _ e20 (fun _ _ => rfl)
    have e21 := kt 21 _ e21 (fun _ _ => rfl)
    have l3 := kl 3 _ l3 (fun _ _ => rfl)
    have hown8 : OwnP (hpF g evs false) lk (s3.t 8) σ1 := by
      rw [kh 8 (hpF g evs false) lk (by rw [e8]; exact hown.held), e8]; exact hown
    clear kt kh kl hheld hown hown5 hacc hk5 hk8 e5 e8
    refine AW.heldP hown8 fun s4 f8 kt kh kl => ?_
    have e0 := kt 0 _ e0 (fun _ _ => rfl)
    have e3 := kt 3 _ e3 (fun _ _ => rfl)
    have e5 := kt 5 _ f5 (fun _ _ => rfl)
    have e6 := kt 6 _ e6 (fun _ _ => rfl)
    have e19 := kt 19 _ e19 (fun _ _ => rfl)
    have e20 := kt 20 _ e20 (fun _ _ => rfl)
    have e21 := kt 21 _ e21 (fun _ _ => rfl)
    have l3 := kl 3 _ l3 (fun _ _ => rfl)
    clear kt kh kl hown8 f5
    have e8 := f8
    have hyv : PCalls Tryz.prog 63 [.agg (encNd y)] (fun v => v = .sl (y.vars.map encS)) := Vars_spec (hn.kid hym) (Nd.err_kid he hym)
    have hi'k : i' < n.kids.length := by omega
    have hyz := y.vars_size
    have hyn : y.size ≤ 1048576 := hn.kid hym
    refine AW.seq_k fun K16 h16 => ?_
    all_goals refine AW.reg0 ?_
    all_goals iterate 6 refine S.one (J8 e3 l3 e6 hws hi'k hgy @nd @List.length_map.{0,0}) ?_
    all_goals have q3q := J8 e3 l3 e6 hws hi'k hgy @nd @List.length_map.{0,0}
    all_goals (refine S.g rfl rfl fun Y Z => ?_; simp only [zz, simprocAttr, -Int.reduceNatCast', -Int.reduceToNat, q3q]; refine PCalls.eqto hyv ?_ <;> (refine Z _ _ ?_; clear Z Y))
    all_goals refine S.one q3q ?_
    all_goals (refine S.nil ?_; simp only [ze, simprocAttr, q3q]; apply_assumption)
    generalize hB : hpF g evs false = B at *
    all_goals refine AW.sr trivial ?_
    have hq1 : ∀ p ∈ acc, okF evs p := hao
    have hq2 : ∀ p ∈ lk, okF evs p := hfq.of
    refine AW.seq_j (fun s' σ' => AccH B (pairsP (decide (n.kind = 2)) y.vars acc lk) (s'.t 10) σ' ∧ s'.t 0 = ptrV g ∧ s'.t 3 = .lp 3 0 ∧ s'.l 3 = some [.c (.int .i64 n.kind), .c (.string n.var), .c (.string n.type), .sl (n.tests.map encC), .sl (n.kids.map encNd)] ∧ s'.t 19 = .sl (n.kids.map encNd) ∧ s'.t 20 = .c (.int .i64 (n.kids.length : Nat)) ∧ s'.t 21 = .c (.int .i64 ((i' + 1 : Nat) : Int))) ?_ ?_
    · refine AW.sr (J2 e5 @List.length_map.{0,0}) ?_
      refine AW.block ?_   -- 2
      refine AW.loop (fun m s σ => ∃ a : Nat, m + a = acc.length ∧ AccH B (pairsP (decide (n.kind = 2)) y.vars (acc.take a) lk) (s.t 10) σ ∧ s.t 0 = ptrV g ∧ s.t 3 = .lp 3 0 ∧ s.l 3 = some [.c (.int .i64 n.kind), .c (.string n.var), .c (.string n.type), .sl (n.tests.map encC), .sl (n.kids.map encNd)] ∧ s.t 8 = .sl (lk.map encP) ∧ s.t 9 = .sl (y.vars.map encS) ∧ s.t 19 = .sl (n.kids.map encNd) ∧ s.t 20 = .c (.int .i64 (n.kids.length : Nat)) ∧ s.t 21 = .c (.int .i64 ((i' + 1 : Nat) : Int)) ∧ s.t 43 = .sl (acc.map encP) ∧ s.t 44 = .c (.int .i64 (acc.length : Nat)) ∧ s.t 45 = .c (.int .i64 (a : Nat))) acc.length ?_ ?_
      · refine ⟨0, by simp, .inl ⟨?_, rfl, rfl⟩, ?_⟩
        · simp only [zs, simprocAttr]
        all_goals simp only [zs, simprocAttr, e0, e3, l3, e8, e19, e20, e21]
        all_goals ((try and_intros) <;> first | rfl | assumption | (rfl))
      rintro ma s σ ⟨a, hma, hA, e0, e3, l3, e8, e9, e19, e20, e21, e43, e44, e45⟩
      have hkA := fun d => hA.held.kill d
      all_goals refine AW.sr (J2 e44 e45) ?_
      refine AW.seq_k fun K20 h20 => ?_
      refine AW.cond (b := decide (a < acc.length)) (by simp [ev]) (fun ha => ?_) (fun ha => ?_)
      · have ha := of_decide_eq_true ha
        obtain ⟨p, hpx, hpm, hgp, hdp, _⟩ := part_get ha
        have hwa := wadd1 (a := a) (by omega)
        have hpq := hq1 p hpm
        have hpl := hpq.2.len
        have hoe : (ofB p y.vars).length * 80 ≤ 140737488355328 := by have := ofB_len p y.vars; omega
        refine AW.skip ?_
        simp only [zs, simprocAttr]
        all_goals apply_assumption
        refine AW.seq_j (fun s' σ' => AccH B (pairsP (decide (n.kind = 2)) y.vars (acc.take a) lk ++ rowP (decide (n.kind = 2)) y.vars lk p) (s'.t 10) σ' ∧ s'.t 0 = ptrV g ∧ s'.t 3 = .lp 3 0 ∧ s'.l 3 = some [.c (.int .i64 n.kind), .c (.string n.var), .c (.string n.type), .sl (n.tests.map encC), .sl (n.kids.map encNd)] ∧ s'.t 8 = .sl (lk.map encP) ∧ s'.t 9 = .sl (y.vars.map encS) ∧ s'.t 19 = .sl (n.kids.map encNd) ∧ s'.t 20 = .c (.int .i64 (n.kids.length : Nat)) ∧ s'.t 21 = .c (.int .i64 ((i' + 1 : Nat) : Int)) ∧ s'.t 43 = .sl (acc.map encP) ∧ s'.t 44 = .c (.int .i64 (acc.length : Nat)) ∧ s'.t 45 = .c (.int .i64 (a : Nat))) ?_ ?_
        · refine AW.block ?_   -- 3
          refine AW.sr (J12 hkA e0 e3 l3 e8 e9 e19 e20 e21 e43 e44 (J6 e45 ha hgp @encP.eq_1 @ptrV.eq_1 @List.length_map.{0,0})) ?_
          refine AW.seq_k fun K22 h22 => ?_
          refine AW.reg0 ?_
          iterate 2 refine S.one e9 ?_
          (refine S.g rfl rfl fun Y Z => ?_; simp only [zz, simprocAttr, -Int.reduceNatCast', -Int.reduceToNat, e9]; refine PCalls.eqto (someB_spec p y.vars (by omega) (by omega)) ?_ <;> (refine Z _ _ ?_; clear Z Y))
          all_goals (refine S.g rfl rfl fun Y Z => ?_; simp only [zz, simprocAttr, -Int.reduceNatCast', -Int.reduceToNat, e9]; refine PCalls.eqto (end_spec _ hoe) ?_ <;> (refine Z _ _ ?_; clear Z Y))
          all_goals refine S.one e9 ?_
          all_goals (refine S.nil ?_; simp only [ze, simprocAttr, e9]; apply_assumption)
          all_goals refine AW.sr (J12 hkA e0 e3 l3 e8 e9 e19 e20 e21 e43 e44 (J2 e45 @List.length_map.{0,0})) ?_
          have hRl : (pairsP (decide (n.kind = 2)) y.vars (acc.take a) lk).length ≤ 16777216 := Nat.le_trans (pairs_len ..) (by
            have h1 : (acc.take a).length ≤ 4096 := by rw [List.length_take]; omega
            exact Nat.le_trans (Nat.mul_le_mul h1 hlk) (by decide))
          generalize hr0 : pairsP (decide (n.kind = 2)) y.vars (acc.take a) lk = R0 at *
          refine AW.block ?_   -- 4
          refine AW.loop (fun m s σ => ∃ j : Nat, m + j = lk.length ∧ AccH B (R0 ++ rowP (decide (n.kind = 2)) y.vars (lk.take j) p) (s.t 10) σ ∧ s.t 0 = ptrV g ∧ s.t 3 = .lp 3 0 ∧ s.l 3 = some [.c (.int .i64 n.kind), .c (.string n.var), .c (.string n.type), .sl (n.tests.map encC), .sl (n.kids.map encNd)] ∧ s.t 8 = .sl (lk.map encP) ∧ s.t 9 = .sl (y.vars.map encS) ∧ s.t 12 = .lp 12 0 ∧ s.l 12 = some [.sl (p.map encBd)] ∧ s.t 13 = .c (.int .i64 (endOf (ofB p y.vars))) ∧ s.t 19 = .sl (n.kids.map encNd) ∧ s.t 20 = .c (.int .i64 (n.kids.length : Nat)) ∧ s.t 21 = .c (.int .i64 ((i' + 1 : Nat) : Int)) ∧ s.t 43 = .sl (acc.map encP) ∧ s.t 44 = .c (.int .i64 (acc.length : Nat)) ∧ s.t 45 = .c (.int .i64 (a : Nat)) ∧ s.t 53 = .sl (lk.map encP) ∧ s.t 54 = .c (.int .i64 (lk.length : Nat)) ∧ s.t 55 = .c (.int .i64 (j : Nat))) lk.length ?_ ?_
          · refine ⟨0, by simp, ?_, ?_⟩
            · simp only [zs, simprocAttr, hkA]
              simpa [rowP] using hA
            all_goals simp only [zs, simprocAttr, e0, e3, l3, e8, e9, e19, e20, e21, e43, e44, e45, ptrV]
            all_goals ((try and_intros) <;> first | rfl | assumption | (rfl))
          rintro mj s σ ⟨j, hmj, hJ, e0, e3, l3, e8, e9, e12, l12, e13, e19, e20, e21, e43, e44, e45, e53, e54, e55⟩
          have hkJ := fun d => hJ.held.kill d
          all_goals refine AW.sr (J2 e54 e55) ?_
          refine AW.seq_k fun K25 h25 => ?_
          refine AW.cond (b := decide (j < lk.length)) (by simp [ev]) (fun hj => ?_) (fun hj => ?_)
          · have hj := of_decide_eq_true hj
            obtain ⟨q, hqx, hqm, hgq, hdq, _⟩ := part_get hj
            have hwj := wadd1 (a := j) (by omega)
            have hqq := hq2 q hqm
            have hql := hqq.2.len
            refine AW.skip ?_
            simp only [zs, simprocAttr]
            all_goals apply_assumption
            refine AW.seq_j (fun s' σ' => AccH B (R0 ++ rowP (decide (n.kind = 2)) y.vars (lk.take (j + 1)) p) (s'.t 10) σ' ∧ s'.t 0 = ptrV g ∧ s'.t 3 = .lp 3 0 ∧ s'.l 3 = some [.c (.int .i64 n.kind), .c (.string n.var), .c (.string n.type), .sl (n.tests.map encC), .sl (n.kids.map encNd)] ∧ s'.t 8 = .sl (lk.map encP) ∧ s'.t 9 = .sl (y.vars.map encS) ∧ s'.t 12 = .lp 12 0 ∧ s'.l 12 = some [.sl (p.map encBd)] ∧ s'.t 13 = .c (.int .i64 (endOf (ofB p y.vars))) ∧ s'.t 19 = .sl (n.kids.map encNd) ∧ s'.t 20 = .c (.int .i64 (n.kids.length : Nat)) ∧ s'.t 21 = .c (.int .i64 ((i' + 1 : Nat) : Int)) ∧ s'.t 43 = .sl (acc.map encP) ∧ s'.t 44 = .c (.int .i64 (acc.length : Nat)) ∧ s'.t 45 = .c (.int .i64 (a : Nat)) ∧ s'.t 53 = .sl (lk.map encP) ∧ s'.t 54 = .c (.int .i64 (lk.length : Nat)) ∧ s'.t 55 = .c (.int .i64 (j : Nat))) ?_ ?_
            · refine AW.block ?_   -- 5
              refine AW.sr (J12 hkJ e0 e3 l3 e8 e9 e12 l12 e13 e19 e20 (J12 e21 e43 e44 e45 e53 e54 e55 hj hgq @encP.eq_1 @ptrV.eq_1 @List.length_map.{0,0})) ?_
              refine AW.seq_k fun K27 h27 => ?_
              refine AW.seq_j (fun s' σ' => σ' = σ ∧ s'.t 10 = s.t 10 ∧ s'.t 0 = ptrV g ∧ s'.t 3 = .lp 3 0 ∧ s'.l 3 = some [.c (.int .i64 n.kind), .c (.string n.var), .c (.string n.type), .sl (n.tests.map encC), .sl (n.kids.map encNd)] ∧ s'.t 8 = .sl (lk.map encP) ∧ s'.t 9 = .sl (y.vars.map encS) ∧ s'.t 12 = .lp 12 0 ∧ s'.l 12 = some [.sl (p.map encBd)] ∧ s'.t 13 = .c (.int .i64 (endOf (ofB p y.vars))) ∧ s'.t 19 = .sl (n.kids.map encNd) ∧ s'.t 20 = .c (.int .i64 (n.kids.length : Nat)) ∧ s'.t 21 = .c (.int .i64 ((i' + 1 : Nat) : Int)) ∧ s'.t 43 = .sl (acc.map encP) ∧ s'.t 44 = .c (.int .i64 (acc.length : Nat)) ∧ s'.t 45 = .c (.int .i64 (a : Nat)) ∧ s'.t 53 = .sl (lk.map encP) ∧ s'.t 54 = .c (.int .i64 (lk.length : Nat)) ∧ s'.t 55 = .c (.int .i64 (j : Nat)) ∧ s'.t 15 = .lp 15 0 ∧ s'.l 15 = some [.sl (q.map encBd)] ∧ s'.t 67 = .c (.bool (decide (n.kind = 2) && decide (beginOf q ≤ endOf (ofB p y.vars))))) ?_ ?_
              · skip
                refine AW.reg0 ?_
                have q4q := J12 hkJ e0 e3 l3 e8 e9 e12 l12 e13 e19 e20 (J8 e21 e43 e44 e45 e53 e54 e55 @ptrV.eq_1)
                iterate 2 refine S.one q4q ?_
                (refine S.sp q4q fun b a61 => ?_; cases b <;> (try exact nope a61))
                all_goals iterate 2 refine S.one q4q ?_
                all_goals have q5q := J12 hkJ e0 e3 l3 e8 e9 e12 l12 e13 e19 e20 (J8 e21 e43 e44 e45 e53 e54 e55 @ptrV.eq_1)
                all_goals (first | (refine S.y rfl rfl rfl rfl fun Y Z => ?_; simp only [zz, simprocAttr, -Int.reduceNatCast', -Int.reduceToNat, q5q]; refine PCalls.eqto (begin_spec q (by omega)) ?_ <;> (refine Z _ _ ?_; clear Z Y)) | ((first | refine S.x rfl rfl rfl rfl fun Y Z => ?_ | refine S.u rfl rfl rfl rfl fun Y Z => ?_); simp only [ze, simprocAttr, -Int.reduceNatCast', -Int.reduceToNat]; refine Z _ _ ?_; clear Z Y))
                all_goals iterate 3 refine S.one q5q ?_
                all_goals refine S.nil ?_
                all_goals simp only [ze, simprocAttr, q5q]
                all_goals simp_all [ptrV]
              rintro s7 σ7 ⟨rfl, e10, e0, e3, l3, e8, e9, e12, l12, e13, e19, e20, e21, e43, e44, e45, e53, e54, e55, e15, l15, e67⟩
              rw [← e10] at hJ hkJ
              clear e10
              refine AW.cond (b := decide (n.kind = 2) && decide (beginOf q ≤ endOf (ofB p y.vars))) e67 (fun hc => ?_) (fun hc => ?_)
              · refine AW.exit ?_
                simp only [zs, simprocAttr]
                rw [row_step hqx, hc, if_pos rfl, List.append_nil]
                refine ⟨hJ, e0, e3, l3, e8, e9, e12, l12, e13, e19, e20, e21, e43, e44, e45, e53, e54, e55⟩
              have hst := row_step (two := decide (n.kind = 2)) (vs := y.vars) (p := p) hqx
              rw [hc, if_neg Bool.false_ne_true] at hst
              have hRj : (R0 ++ rowP (decide (n.kind = 2)) y.vars (lk.take j) p).length ≤ 16781312 := by
                have := row_len (decide (n.kind = 2)) y.vars (lk.take j) p
                rw [List.length_append]
                rw [List.length_take] at this
                omega
              have hR : R0 ++ rowP (decide (n.kind = 2)) y.vars (lk.take (j + 1)) p = (R0 ++ rowP (decide (n.kind = 2)) y.vars (lk.take j) p) ++ (if optB (mg p q) then [optL (mg p q)] else []) := by rw [hst, List.append_assoc]
              clear hst
              generalize R0 ++ rowP (decide (n.kind = 2)) y.vars (lk.take (j + 1)) p = R1 at *
              generalize R0 ++ rowP (decide (n.kind = 2)) y.vars (lk.take j) p = R at *
              have hmerge := mergeC hpq.2.m hqq.2.m
              refine AW.skip ?_
              all_goals simp only [zs, simprocAttr]
              all_goals apply_assumption
              refine AW.seq_k fun K28 h28 => ?_
              all_goals refine AW.reg0 ?_
              all_goals iterate 2 refine S.one (J12 hkJ e0 e3 l3 e8 e9 e12 l12 e13 e19 e20 (J10 e21 e43 e44 e45 e53 e54 e55 e15 l15 @ptrV.eq_1)) ?_
              all_goals have q6q := J12 hkJ e0 e3 l3 e8 e9 e12 l12 e13 e19 e20 (J10 e21 e43 e44 e45 e53 e54 e55 e15 l15 @ptrV.eq_1)
              all_goals (refine S.g rfl rfl fun Y Z => ?_; simp only [zz, simprocAttr, -Int.reduceNatCast', -Int.reduceToNat, q6q]; refine PCalls.eqto hmerge ?_ <;> (refine Z _ _ ?_; clear Z Y))
              all_goals iterate 6 refine S.one q6q ?_
              all_goals (refine S.nil ?_; simp only [ze, simprocAttr, q6q]; apply_assumption)
              all_goals refine AW.sr trivial ?_
              refine AW.cond (b := optB (mg p q)) (by simp [ev]) (fun hb => ?_) (fun hb => ?_)
              · rw [hb, if_pos rfl] at hR
                have y1 : (R.length + 1 ≤ maxLen) = True := eq_true (by unfold maxLen; omega)
                have y2 : ((R.length + 1) * 24 ≤ reach) = True := eq_true (by unfold reach; omega)
                have y3 : (1 ≤ maxLen) = True := eq_true (by unfold maxLen; omega)
                have z1 : (∀ (e : List V), e ∈ [[V.sl ((optL (mg p q)).map encBd)]] → e.length = 1) = True := eq_true fun e he => by rw [List.mem_singleton.1 he]; rfl
                have y4 : (24 ≤ reach) = True := eq_true (by unfold reach; omega)
                rcases hJ with ⟨e10, hn0, rfl⟩ | ⟨k, e10, hk0, rfl⟩
                · rw [hn0] at hR
                  refine AW.reg0 ?_
                  iterate 3 (refine S.g rfl rfl fun Y Z => ?_; simp only [zb, simprocAttr, -Int.reduceNatCast', -Int.reduceToNat, tt, e0, e3, l3, e8, e9, e12, l12, e13, e19, e20, e21, e43, e44, e45, e53, e54, e55, e10, ptrV, kill, z1, y3, y4, List.length_map]; refine Z _ _ ?_; clear Z Y)
                  all_goals have q7q := J12 e0 e3 l3 e8 e9 e12 l12 e13 e19 e20 e21 (J12 e43 e44 e45 e53 e54 e55 e10 @ptrV.eq_1 @kill.eq_1 @kill.eq_2 z1 (J3 y3 y4 @List.length_map.{0,0}))
                  all_goals (refine S.g rfl rfl fun Y Z => ?_; simp only [zz, simprocAttr, -Int.reduceNatCast', -Int.reduceToNat, tt, q7q]; intro k1 hk1 <;> (refine Z _ _ ?_; clear Z Y))
                  all_goals refine S.one q7q ?_
                  all_goals refine S.nil ?_
                  all_goals simp only [ze, simprocAttr, q7q]
                  exact .inr ⟨k1, rfl, hk1, by rw [hR]; rfl⟩
                · unfold hpP
                  refine AW.reg0 ?_
                  iterate 3 (refine S.g rfl rfl fun Y Z => ?_; simp only [zb, simprocAttr, -Int.reduceNatCast', -Int.reduceToNat, tt, e0, e3, l3, e8, e9, e12, l12, e13, e19, e20, e21, e43, e44, e45, e53, e54, e55, e10, ptrV, kill, z1, y1, y2, y3, y4, List.length_map]; refine Z _ _ ?_; clear Z Y)
                  all_goals have q8q := J12 e0 e3 l3 e8 e9 e12 l12 e13 e19 e20 e21 (J12 e43 e44 e45 e53 e54 e55 e10 @ptrV.eq_1 @kill.eq_1 @kill.eq_2 z1 (J5 y1 y2 y3 y4 @List.length_map.{0,0}))
                  all_goals (refine S.g rfl rfl fun Y Z => ?_; simp only [zz, simprocAttr, -Int.reduceNatCast', -Int.reduceToNat, tt, q8q]; intro k1 hk1 <;> (refine Z _ _ ?_; clear Z Y))
                  all_goals refine S.one q8q ?_
                  all_goals refine S.nil ?_
                  all_goals simp only [ze, simprocAttr, q8q]
                  refine .inr ⟨k1, rfl, ?_, ?_⟩
                  · by_cases e : k1 = k
                    · rw [e]; exact hk0
                    · rw [if_neg e] at hk1; exact hk1
                  · rw [hR, hpP, Hp.setGr_none hk0, List.map_append]; rfl
              · rw [hb, if_neg Bool.false_ne_true, List.append_nil] at hR
                subst hR
                refine AW.skip ?_
                simp only [zs, simprocAttr, e0, e3, l3, e8, e9, e12, l12, e13, e19, e20, e21, e43, e44, e45, e53, e54, e55, hkJ, ptrV]
                all_goals ((try and_intros) <;> first | rfl | assumption | (exact hJ))
            rintro s8 σ8 ⟨hJ, e0, e3, l3, e8, e9, e12, l12, e13, e19, e20, e21, e43, e44, e45, e53, e54, e55⟩
            all_goals have q9q := J12 e0 e3 l3 e8 e9 e12 l12 e13 e19 e20 e21 (J7 e43 e44 e45 e53 e54 e55 hwj)
            all_goals refine AW.reg0 (S.rn q9q ?_)
            all_goals simp only [ze, simprocAttr, q9q]
            refine ⟨mj - 1, by omega, j + 1, by omega, hJ, ?_⟩
            all_goals ((try and_intros) <;> first | rfl | assumption | (rfl))
          · have hj := of_decide_eq_false hj
            refine AW.exit ?_
            simp only [zs, simprocAttr]
            rw [List.take_of_length_le (by omega)] at hJ
            refine ⟨hJ, e0, e3, l3, e8, e9, e19, e20, e21, e43, e44, e45⟩
        rintro s6 σ6 ⟨hA, e0, e3, l3, e8, e9, e19, e20, e21, e43, e44, e45⟩
        rw [← pairs_step hpx] at hA
        all_goals have q10q := J12 e0 e3 l3 e8 e9 e19 e20 e21 e43 e44 e45 hwa
        all_goals refine AW.reg0 (S.rn q10q ?_)
        all_goals simp only [ze, simprocAttr, q10q]
        refine ⟨ma - 1, by omega, a + 1, by omega, hA, ?_⟩
        all_goals ((try and_intros) <;> first | rfl | assumption | (rfl))
      · have ha := of_decide_eq_false ha
        refine AW.exit ?_
        simp only [zs, simprocAttr]
        rw [List.take_of_length_le (by omega)] at hA
        refine ⟨hA, e0, e3, l3, e19, e20, e21⟩
    rintro s5 σ5 ⟨hA, e0, e3, l3, e19, e20, e21⟩
    have hle : (pairsP (decide (n.kind = 2)) y.vars acc lk).length ≤ 16777216 := Nat.le_trans (pairs_len ..) (Nat.le_trans (Nat.mul_le_mul hal hlk) (by decide))
    have hPo : ∀ p ∈ pairsP (decide (n.kind = 2)) y.vars acc lk, okF evs p := pairs_ok hq1 hq2
    generalize pairsP (decide (n.kind = 2)) y.vars acc lk = L at *
    have hnl := norm_len L
    have hNo : ∀ p ∈ norm L, okF evs p := fun p hp => hPo p ((norm_mem (from_apt hdi) (fun y hy => (hPo y hy).1) p).1 hp)
    have hden1 : decide (4096 < (norm L).length) = false → (norm L).length ≤ 4096 ∧ n.denP evs = joinP (decide (n.kind = 2)) (aheadO n (i' + 2) (norm L)) ((n.kids.drop (i' + 2)).map (denOf evs)) := fun hf => by
      have hf := of_decide_eq_false hf
      rw [capL, if_neg hf, Option.bind_some] at hp
      refine ⟨by omega, hp.trans ?_⟩
      have h1 : aheadO n (i' + 2) (norm L) = some (norm L, x.vars) := by
        unfold aheadO
        rw [if_neg (by omega)]
        show (n.kids[i' + 1]?).map _ = _
        rw [hx]; rfl
      rw [h1]
    have hden2 : decide (4096 < (norm L).length) = true → n.denP evs = none := fun hf => by
      have hf := of_decide_eq_true hf
      rw [capL, if_pos hf] at hp
      exact hp
    rcases hA with ⟨e10, hn0, rfl⟩ | ⟨k, e10, hk0, rfl⟩
    · have honce := onceNil_spec g evs false
      rw [hB] at honce
      have hO : OwnP (hpF g evs (decide (4096 < (norm L).length))) (norm L) (.sl []) σ5 := by rw [hn0]; exact .inl ⟨rfl, rfl, hB.symm⟩
      refine AW.reg0 ?_
      iterate 2 refine S.one (J8 e0 e3 l3 e10 e19 e20 e21 @ptrV.eq_1) ?_
      have q11q := J8 e0 e3 l3 e10 e19 e20 e21 @ptrV.eq_1
      (refine S.g rfl rfl fun Y Z => ?_; simp only [zz, simprocAttr, -Int.reduceNatCast', -Int.reduceToNat, q11q]; (first | (refine ACalls.to honce ?_; rintro _ _ ⟨rfl, rfl⟩) | (refine ACalls.to honce ?_; rintro v2 σ3 hv)) <;> (refine Z _ _ ?_; clear Z Y))
      all_goals refine S.one q11q ?_
      all_goals (refine S.nil ?_; simp only [ze, simprocAttr, q11q]; apply_assumption)
      all_goals have q12q := J7 e0 e3 l3 e19 e20 e21 hw
      all_goals refine AW.reg0 (S.rn q12q ?_)
      all_goals simp only [ze, simprocAttr, q12q]
      refine ⟨m - 1, by omega, i' + 2, norm L, decide (4096 < (norm L).length), by omega, hO.held, (fun h => by cases h), (fun _ h => by cases h), hNo, by omega, hden1, hden2, ?_⟩
      all_goals ((try and_intros) <;> first | rfl | assumption | (rfl))
    · have honce := once_spec (from_apt hdi) g evs false k L (fun p hp => (hPo p hp).1) (by omega) (fun p hp => by have := (hPo p hp).2.len; omega)
      rw [hB] at honce
      refine AW.reg0 ?_
      iterate 2 refine S.one (J8 e0 e3 l3 e10 e19 e20 e21 @ptrV.eq_1) ?_
      have q13q := J8 e0 e3 l3 e10 e19 e20 e21 @ptrV.eq_1
      (refine S.g rfl rfl fun Y Z => ?_; simp only [zz, simprocAttr, -Int.reduceNatCast', -Int.reduceToNat, q13q]; (first | (refine ACalls.to honce ?_; rintro _ _ ⟨rfl, rfl⟩) | (refine ACalls.to honce ?_; rintro v2 σ3 hv)) <;> (refine Z _ _ ?_; clear Z Y))
      all_goals refine S.one q13q ?_
      all_goals (refine S.nil ?_; simp only [ze, simprocAttr, q13q]; apply_assumption)
      rw [Bool.false_or] at hv
      all_goals have q14q := J7 e0 e3 l3 e19 e20 e21 hw
      all_goals refine AW.reg0 (S.rn q14q ?_)
      all_goals simp only [ze, simprocAttr, q14q]
      refine ⟨m - 1, by omega, i' + 2, norm L, decide (4096 < (norm L).length), by omega, hv.held, (fun h => by cases h), (fun _ h => ?_), hNo, by omega, hden1, hden2, ?_⟩
      · rcases hv with ⟨h1, _⟩ | ⟨k, h1, _⟩ <;> rw [h1] at h <;> cases h
      all_goals ((try and_intros) <;> first | rfl | assumption | (rfl))
  · have hi := of_decide_eq_false hi
    refine AW.exit ?_
    simp only [zs, simprocAttr]
    all_goals apply_assumption
    have hin : i = n.kids.length := by omega
    rw [List.drop_of_length_le (by omega)] at hno
    have hown := hacc.own (hi1 (by omega))
    refine AW.sr trivial ?_
    refine AW.ret ?_
    simp only [zs, simprocAttr]
    have hd : fl = false → n.denP evs = some acc := fun h => by
      have hp := (hno h).2
      obtain ⟨y, hy, _⟩ := kid_get (n := n) (i := i - 1) (by omega)
      rw [aheadO, if_neg (by omega), hy] at hp
      exact hp
    have hq : FindQ evs n false fl acc := ⟨hao, by omega, fun h => ⟨rfl, hd h, (hno h).1⟩, fun h => .inr (hyes h), fun h => by cases h⟩
    rcases hown with ⟨h1, h2⟩ | ⟨k, h1, h2⟩
    · rw [h1]; exact ⟨rfl, fl, acc, .inl ⟨rfl, h2⟩, hq⟩
    · rw [h1]; exact ⟨rfl, fl, acc, .inr ⟨k, rfl, h2⟩, hq⟩
end Go.Abs.M
namespace Go.Abs
open Go
section
variable {P : Program} {σ : Hp}
variable [Mode]
theorem ACalls.freezeD {f : FuncId} {args : List V} {R R' : V → Hp → Prop} (h : ACalls P f args σ R)
  (hr : ∀ v σ', R v σ' → R' v σ' ∨ ∃ k T es, v = .gl k ∧ σ'.gr k = some (T, es) ∧ R' (.sl es) (σ'.setGr k none)) : ACalls P f args σ R' := by
 refine ⟨h.1, fun cx w xs hH ha => (h.2 cx w xs hH ha).mono fun e w' ⟨v, r, cx', σ', h1, h2, h3, h4⟩ => ?_⟩
 rcases hr v σ' h4 with hR | ⟨k, T, es, rfl, hk, hR⟩
 ·exact ⟨v, r, cx', σ', h1, h2, h3, hR⟩
 obtain ⟨cx2, hle, hL, hI, hH2, hv⟩ := h3.heap.freeze hk
 have hsub : ∀ g, (σ'.setGr k none).own cx2 g → σ'.own cx' g := fun g hg => by
  rcases hg with ⟨c, hc⟩ | ⟨j, x, hj, hb⟩
  ·exact .inl ⟨c, hc⟩
  ·by_cases ej : j = k
   ·simp [Hp.setGr, ej] at hj
   ·simp only [Hp.setGr, ej, if_false] at hj
    have hjn := (h3.heap.gr j x.1 x.2 hj).1
    rw [hle.M j hjn] at hb
    exact .inr ⟨j, x, hj, hb⟩
 have hcx : r = cx'.M k := by cases h2; rfl
 refine ⟨.sl es, r, cx2, σ'.setGr k none, h1, hcx ▸ hv, ⟨hH2, ⟨h3.ext.os, h3.ext.tape, h3.ext.output, h3.ext.size, h3.ext.block, h3.ext.le.trans hle, fun g hg => ?_, fun g hg => h3.ext.fnew g (hsub g hg)⟩, fun j x hj => ?_, fun g x hg => h3.onew g x hg⟩, hR⟩
 ·rcases hI g hg with hg | hg
  ·exact h3.ext.inew g hg
  ·rcases h3.ext.fnew g (.inr ⟨k, _, hk, hg⟩) with h | h
   ·exact .inr (.inl h)
   ·exact .inr (.inr h)
 ·by_cases ej : j = k
  ·simp [Hp.setGr, ej] at hj
  ·simp only [Hp.setGr, ej, if_false] at hj
   exact h3.gnew j x hj
end
end Go.Abs
namespace Go.Abs.M
open Go Go.Abs Go.Proofs
set_option maxRecDepth 20000
set_option maxHeartbeats 4000000
theorem FindC.sl {g : Nat} {evs : List Ev} {n : Nd} (h : FindC g evs n) {full : Bool} {a : List (List Bd)} {va : V} {σ : Hp} (ha : AccH (hpF g evs full) a va σ) :
  ACalls Tryz.prog 38 [ptrV g, .agg (encNd n)] σ (fun v σ' => ∃ full' l, v = .sl (l.map encP) ∧ AccH (hpF g evs full') a va σ' ∧ FindQ evs n full full' l) := by
 refine (h.at ha.held).freezeD fun v σ' ⟨full', l, σ1, ho, hh, hq⟩ => ?_
 rcases ho with ⟨rfl, rfl, rfl⟩ | ⟨k2, rfl, hk2, rfl⟩
 ·refine .inl ⟨full', [], rfl, ?_, hq⟩
  rcases ha with ⟨h1, _⟩ | ⟨k, h1, _⟩
  ·rcases hh with ⟨_, h2, h3⟩ | ⟨k, h2, _⟩
   ·exact .inl ⟨h1, h2, h3⟩
   ·rw [h1] at h2; cases h2
  ·rcases hh with ⟨h2 | h2, _⟩ | h2
   ·rw [h1] at h2; cases h2
   ·rw [h1] at h2; cases h2
   ·exact .inr h2
 ·refine .inr ⟨k2, (40, 1), l.map encP, rfl, ?_⟩
  rcases ha with ⟨h1, _⟩ | ⟨k, h1, _⟩
  ·rcases hh with ⟨_, h2, rfl⟩ | ⟨k, h2, _⟩
   ·exact ⟨by simp [hpP], full', l, rfl, .inl ⟨h1, h2, by rw [hpP, Hp.set_none hk2]⟩, hq⟩
   ·rw [h1] at h2; cases h2
  ·rcases hh with ⟨h2 | h2, _⟩ | ⟨k', h2, h3, rfl⟩
   ·rw [h1] at h2; cases h2
   ·rw [h1] at h2; cases h2
   ·have hne : k2 ≠ k' := fun e => by subst e; simp [hpP] at h3
    refine ⟨by simp [hpP, hne], full', l, rfl, .inr ⟨k', h2, ?_, ?_⟩, hq⟩
    ·simp [hpF_gr]
    ·simp only [hpP, Hp.setGr, Hp.mk.injEq, true_and]
     funext j
     by_cases e : j = k2
     ·subst e; simp [hne, hpF_gr]
     ·simp [e]
theorem FindC.nilS {g : Nat} {evs : List Ev} {n : Nd} (h : FindC g evs n) (full : Bool) : ACalls Tryz.prog 38 [ptrV g, .agg (encNd n)] (hpF g evs full) (fun v σ' => ∃ full' l, v = .sl (l.map encP) ∧ σ' = hpF g evs full' ∧ FindQ evs n full full' l) :=
 (h.sl (a := []) (.inl ⟨rfl, rfl, rfl⟩)).to fun v σ' ⟨full', l, h1, h2, h3⟩ => ⟨full', l, h1, (by
  rcases h2 with ⟨_, _, h⟩ | ⟨k, h, _⟩
  ·exact h
  ·cases h), h3⟩
theorem FindC.glS {g : Nat} {evs : List Ev} {n : Nd} (h : FindC g evs n) (full : Bool) (k : Nat) (a : List (List Bd)) : ACalls Tryz.prog 38 [ptrV g, .agg (encNd n)] (hpP (hpF g evs full) k a) (fun v σ' => ∃ full' l, v = .sl (l.map encP) ∧ σ' = hpP (hpF g evs full') k a ∧ FindQ evs n full full' l) :=
 (h.sl (a := a) (va := .gl k) (.inr ⟨k, rfl, rfl, rfl⟩)).to fun v σ' ⟨full', l, h1, h2, h3⟩ => ⟨full', l, h1, (by
  rcases h2 with ⟨h, _⟩ | ⟨k', h, _, h'⟩
  ·cases h
  ·injection h with h; subst h; exact h'), h3⟩
theorem leafL_step {n : Nd} {evs : List Ev} {i : Nat} {e : Ev} (h : evs[i]? = some e) : leafL n (evs.take (i + 1)) = leafL n (evs.take i) ++ if termB n e then [[⟨n.var, e⟩]] else [] := by
 rw [List.take_add_one, h, leafL, List.filter_append, List.map_append]
 congr 1
 cases ht : termB n e <;> simp [ht]
theorem leafL_len (n : Nd) (evs : List Ev) : (leafL n evs).length ≤ evs.length := by
 rw [leafL, List.length_map]; exact List.length_filter_le _ _
theorem leafL_ok {n : Nd} {evs : List Ev} (hev : okEvs evs) (hv : n.var.size < 4611686018427387904) : ∀ p ∈ leafL n evs, okF evs p := by
 intro p hp
 obtain ⟨e, he, rfl⟩ := List.mem_map.1 hp
 have he := (List.mem_filter.1 he).1
 exact ⟨fun b hb => by rw [List.mem_singleton.1 hb]; exact he, leaf_okQ hv (hev.ok e he) (hev.few e he) (hev.time e he)⟩
theorem leaf_part {nm : ByteArray} {e : Ev} (hn : isName nm = true) (he : evErr e = 0) : partErr [⟨nm, e⟩] = 0 := by
 rw [part_iff]
 refine ⟨by simp, fun b hb => ?_, List.pairwise_singleton ..⟩
 rw [List.mem_singleton.1 hb]
 exact ⟨by simp [named, hn], he⟩
theorem leaf_name {n : Nd} (h : n.err = 0) (hk : n.kind = 1) : isName n.var = true := by
 have h0 := Nd.err_own h
 rw [ndOwn, if_pos hk] at h0
 split at h0
 ·cases h0
 ·rename_i hb
  simp only [leafBad, Bool.or_eq_true, not_or, decide_eq_true_eq, Bool.not_eq_true', Bool.not_eq_false] at hb
  exact hb.1.2
theorem Nd.size_pos (n : Nd) : 1 ≤ n.size := by rw [Nd.size_eq]; omega
theorem sum_take_le {n : Nd} {i : Nat} : ((n.kids.take i).map Nd.size).sum ≤ n.size := by
 rw [Nd.size_eq]
 have h : (n.kids.map Nd.size).sum = ((n.kids.take i).map Nd.size).sum + ((n.kids.drop i).map Nd.size).sum := by
  rw [← List.sum_append, ← List.map_append, List.take_append_drop]
 omega
theorem find_spec {evs : List Ev} (hev : okEvs evs) (hdi : Dist evs) (hval : ∀ e ∈ evs, evErr e = 0) (g : Nat) : ∀ n : Nd, n.small → n.ok → n.err = 0 → FindC g evs n := Nd.ind fun n ih hn ho he full => by
  have hl := hn.len
  have hp0 := n.denP_eq evs
  have hmap := map3 evs
  have hE := (encNd_eq n).symm
  have hobj := fun b => hpF_obj g evs b
  have hel := hev.len
  rw [encNd_eq]
  refine ACalls.intro Tryz.call38 Tryz.func38 rfl Tryz.ntmps38 Tryz.results38 (by simp) ?_
  refine AW.sr @ptrV.eq_1 ?_
  refine AW.seq_k fun K2 h2 => ?_
  refine AW.sr (J3 @ptrV.eq_1 hobj hmap) ?_
  refine AW.cond (b := full) (by simp [ev]) (fun hb => ?_) (fun hb => ?_)
  · subst hb
    refine AW.sr trivial ?_
    refine AW.ret ?_
    simp only [zs, simprocAttr]
    exact ⟨true, [], .inl ⟨rfl, rfl, rfl⟩, (fun _ h => by cases h), by simp, (fun h => by cases h), (fun _ => .inl rfl), fun _ => rfl⟩
  subst hb
  refine AW.skip ?_
  all_goals simp only [zs, simprocAttr]
  all_goals apply_assumption
  refine AW.seq_k fun K5 h5 => ?_
  all_goals refine AW.sr trivial ?_
  refine AW.block ?_   -- 0
  all_goals refine AW.sr trivial ?_
  refine AW.cond (b := n.kind == 1) (by simp [ev]) (fun hk => ?_) (fun hk => ?_)
  · have hk : n.kind = 1 := by simpa using hk
    rw [if_pos hk] at hp0
    have hvn := leaf_name he hk
    refine AW.sr trivial ?_
    refine AW.seq_k fun K9 h9 => ?_
    refine AW.sr (J4 @ptrV.eq_1 hobj hmap @List.length_map.{0,0}) ?_
    generalize hB : hpF g evs false = B at *
    refine AW.block ?_   -- 1
    refine AW.loop (fun m s' σ => ∃ i : Nat, m + i = evs.length ∧ AccH B (leafL n (evs.take i)) (s'.t 5) σ ∧ s'.t 0 = ptrV g ∧ s'.t 3 = .lp 3 0 ∧ s'.l 3 = some [.c (.int .i64 n.kind), .c (.string n.var), .c (.string n.type), .sl (n.tests.map encC), .sl (n.kids.map encNd)] ∧ s'.t 24 = .sl (evs.map encEv) ∧ s'.t 25 = .c (.int .i64 (evs.length : Nat)) ∧ s'.t 26 = .c (.int .i64 (i : Nat))) evs.length ?_ ?_
    · refine ⟨0, by simp, .inl ⟨?_, rfl, rfl⟩, ?_⟩
      · simp only [zs, simprocAttr]
      all_goals simp only [zs, simprocAttr, ptrV]
      all_goals ((try and_intros) <;> first | rfl | assumption | (rfl))
    rintro m s σ ⟨i, hm, hA, e0, e3, l3, e24, e25, e26⟩
    have hkA := fun d => hA.held.kill d
    all_goals refine AW.sr (J2 e25 e26) ?_
    refine AW.seq_k fun K12 h12 => ?_
    refine AW.cond (b := decide (i < evs.length)) (by simp [ev]) (fun hi => ?_) (fun hi => ?_)
    · have hi := of_decide_eq_true hi
      obtain ⟨e, hx, hxm, hgx⟩ : ∃ e, evs[i]? = some e ∧ e ∈ evs ∧ (evs.map encEv).getD i [] = encEv e := ⟨evs[i], List.getElem?_eq_getElem hi, List.getElem_mem hi, getD_map hi⟩
      have hw := wadd1 (a := i) (by omega)
      have hst := leafL_step (n := n) hx
      have hll := leafL_len n (evs.take i)
      rw [List.length_take] at hll
      have hpz := leaf_part hvn (hval e hxm)
      have hof := of_spec n.var e (fun b hb => by rw [List.mem_singleton.1 hb]; exact ⟨ho.own.var, hev.ok e hxm⟩) (by have := hev.few e hxm; omega)
      rw [if_neg (by rw [hpz]; simp)] at hof
      have hterm := Term_spec n e (by have := hev.few e hxm; omega) ho.own.len
      rw [encNd_eq] at hterm
      generalize leafL n (evs.take i) = R at *
      generalize hR1 : leafL n (evs.take (i + 1)) = R1 at *
      refine AW.skip ?_
      simp only [zs, simprocAttr]
      all_goals apply_assumption
      refine AW.seq_j (fun s' σ' => AccH B R1 (s'.t 5) σ' ∧ s'.t 0 = ptrV g ∧ s'.t 3 = .lp 3 0 ∧ s'.l 3 = some [.c (.int .i64 n.kind), .c (.string n.var), .c (.string n.type), .sl (n.tests.map encC), .sl (n.kids.map encNd)] ∧ s'.t 24 = .sl (evs.map encEv) ∧ s'.t 25 = .c (.int .i64 (evs.length : Nat)) ∧ s'.t 26 = .c (.int .i64 (i : Nat))) ?_ ?_
      · refine AW.block ?_   -- 2
        refine AW.sr (J12 hkA e0 e3 l3 e24 e25 e26 hi hgx @encEv.eq_1 @ptrV.eq_1 @List.length_map.{0,0}) ?_
        rw [encEv] at hof hterm
        refine AW.seq_k fun K14 h14 => ?_
        refine AW.reg0 ?_
        iterate 3 refine S.one (J9 hkA e0 e3 l3 e24 e25 e26 @encEv.eq_1 @ptrV.eq_1) ?_
        have q1q := J9 hkA e0 e3 l3 e24 e25 e26 @encEv.eq_1 @ptrV.eq_1
        (refine S.g rfl rfl fun Y Z => ?_; simp only [zz, simprocAttr, -Int.reduceNatCast', -Int.reduceToNat, q1q]; refine PCalls.eqto hof ?_ <;> (refine Z _ _ ?_; clear Z Y))
        all_goals iterate 6 refine S.one q1q ?_
        all_goals (refine S.nil ?_; simp only [ze, simprocAttr, q1q]; apply_assumption)
        refine AW.seq_j (fun s' σ' => σ' = σ ∧ s'.t 5 = s.t 5 ∧ s'.t 0 = ptrV g ∧ s'.t 3 = .lp 3 0 ∧ s'.l 3 = some [.c (.int .i64 n.kind), .c (.string n.var), .c (.string n.type), .sl (n.tests.map encC), .sl (n.kids.map encNd)] ∧ s'.t 24 = .sl (evs.map encEv) ∧ s'.t 25 = .c (.int .i64 (evs.length : Nat)) ∧ s'.t 26 = .c (.int .i64 (i : Nat)) ∧ s'.t 8 = .lp 8 0 ∧ s'.l 8 = some [.sl (([⟨n.var, e⟩] : List Bd).map encBd)] ∧ s'.t 43 = .c (.bool (termB n e))) ?_ ?_
        · skip
          refine AW.reg0 ?_
          have q2q := J9 hkA e0 e3 l3 e24 e25 e26 @encEv.eq_1 @ptrV.eq_1
          refine S.one q2q ?_
          (refine S.sp q2q fun b a38 => ?_; cases b <;> (try exact nope a38))
          all_goals iterate 3 refine S.one q2q ?_
          all_goals have q3q := J9 hkA e0 e3 l3 e24 e25 e26 @encEv.eq_1 @ptrV.eq_1
          all_goals (first | (refine S.y rfl rfl rfl rfl fun Y Z => ?_; simp only [zz, simprocAttr, -Int.reduceNatCast', -Int.reduceToNat, q3q]; refine PCalls.eqto hterm ?_ <;> (refine Z _ _ ?_; clear Z Y)) | ((first | refine S.x rfl rfl rfl rfl fun Y Z => ?_ | refine S.u rfl rfl rfl rfl fun Y Z => ?_); simp only [ze, simprocAttr, -Int.reduceNatCast', -Int.reduceToNat]; refine Z _ _ ?_; clear Z Y))
          all_goals refine S.one q3q ?_
          all_goals refine S.nil ?_
          all_goals simp only [ze, simprocAttr, q3q]
          all_goals ((try and_intros) <;> first | rfl | assumption | (rfl))
        rintro s2 σ2 ⟨rfl, e5, e0, e3, l3, e24, e25, e26, e8, l8, e43⟩
        rw [← e5] at hA hkA
        refine AW.cond (b := termB n e) e43 (fun hc => ?_) (fun hc => ?_)
        · rw [hc, if_pos rfl] at hst
          have y1 : (R.length + 1 ≤ maxLen) = True := eq_true (by unfold maxLen; omega)
          have y2 : ((R.length + 1) * 24 ≤ reach) = True := eq_true (by unfold reach; omega)
          have y3 : (1 ≤ maxLen) = True := eq_true (by unfold maxLen; omega)
          have z1 : (∀ (e' : List V), e' ∈ [[V.sl [encBd ⟨n.var, e⟩]]] → e'.length = 1) = True := eq_true fun e he => by rw [List.mem_singleton.1 he]; rfl
          have y4 : (24 ≤ reach) = True := eq_true (by unfold reach; omega)
          rcases hA with ⟨e5', hn0, rfl⟩ | ⟨k, e5', hk0, rfl⟩
          · rw [hn0] at hst
            refine AW.reg0 ?_
            iterate 3 (refine S.g rfl rfl fun Y Z => ?_; simp only [zb, simprocAttr, -Int.reduceNatCast', -Int.reduceToNat, tt, e0, e3, l3, e24, e25, e26, e5', e8, l8, ptrV, kill, z1, y3, y4]; refine Z _ _ ?_; clear Z Y)
            all_goals have q4q := J12 e0 e3 l3 e24 e25 e26 e5' e8 l8 @ptrV.eq_1 @kill.eq_1 (J4 @kill.eq_2 z1 y3 y4)
            all_goals (refine S.g rfl rfl fun Y Z => ?_; simp only [zz, simprocAttr, -Int.reduceNatCast', -Int.reduceToNat, tt, q4q]; intro k1 hk1 <;> (refine Z _ _ ?_; clear Z Y))
            all_goals refine S.one q4q ?_
            all_goals refine S.nil ?_
            all_goals simp only [ze, simprocAttr, q4q]
            exact .inr ⟨k1, rfl, hk1, by rw [hst]; rfl⟩
          · unfold hpP
            refine AW.reg0 ?_
            iterate 3 (refine S.g rfl rfl fun Y Z => ?_; simp only [zb, simprocAttr, -Int.reduceNatCast', -Int.reduceToNat, tt, e0, e3, l3, e24, e25, e26, e5', e8, l8, ptrV, kill, z1, y1, y2, y3, y4, List.length_map]; refine Z _ _ ?_; clear Z Y)
            all_goals have q5q := J12 e0 e3 l3 e24 e25 e26 e5' e8 l8 @ptrV.eq_1 @kill.eq_1 (J7 @kill.eq_2 z1 y1 y2 y3 y4 @List.length_map.{0,0})
            all_goals (refine S.g rfl rfl fun Y Z => ?_; simp only [zz, simprocAttr, -Int.reduceNatCast', -Int.reduceToNat, tt, q5q]; intro k1 hk1 <;> (refine Z _ _ ?_; clear Z Y))
            all_goals refine S.one q5q ?_
            all_goals refine S.nil ?_
            all_goals simp only [ze, simprocAttr, q5q]
            refine .inr ⟨k1, rfl, ?_, ?_⟩
            · by_cases e : k1 = k
              · rw [e]; exact hk0
              · rw [if_neg e] at hk1; exact hk1
            · rw [hst, hpP, Hp.setGr_none hk0, List.map_append]; rfl
        · rw [hc, if_neg Bool.false_ne_true, List.append_nil] at hst
          subst hst
          refine AW.skip ?_
          simp only [zs, simprocAttr, e0, e3, l3, e24, e25, e26, hkA, ptrV]
          all_goals ((try and_intros) <;> first | rfl | assumption | (exact hA))
      rintro s2 σ2 ⟨hA, e0, e3, l3, e24, e25, e26⟩
      rw [← hR1] at hA
      all_goals have q6q := J7 e0 e3 l3 e24 e25 e26 hw
      all_goals refine AW.reg0 (S.rn q6q ?_)
      all_goals simp only [ze, simprocAttr, q6q]
      refine ⟨m - 1, by omega, i + 1, by omega, hA, ?_⟩
      all_goals ((try and_intros) <;> first | rfl | assumption | (rfl))
    · have hi := of_decide_eq_false hi
      refine AW.exit ?_
      simp only [zs, simprocAttr]
      all_goals apply_assumption
      rw [List.take_of_length_le (by omega)] at hA
      have hLo := leafL_ok hev ho.own.var (n := n)
      have hLl := leafL_len n evs
      generalize leafL n evs = L at *
      have hnl := norm_len L
      have hNo : ∀ p ∈ norm L, okF evs p := fun p hp => hLo p ((norm_mem (from_apt hdi) (fun y hy => (hLo y hy).1) p).1 hp)
      have hq : FindQ evs n false false (norm L) := ⟨hNo, by omega, fun _ => ⟨rfl, hp0, by omega⟩, (fun h => by cases h), fun h => by cases h⟩
      rcases hA with ⟨e5, hn0, rfl⟩ | ⟨k, e5, hk0, rfl⟩
      · have honce := onceNil_spec g evs false
        rw [hB] at honce
        refine AW.seq_k fun K15 h15 => ?_
        refine AW.reg0 ?_
        iterate 2 refine S.one (J8 e0 e3 l3 e24 e25 e26 e5 @ptrV.eq_1) ?_
        have q7q := J8 e0 e3 l3 e24 e25 e26 e5 @ptrV.eq_1
        (refine S.g rfl rfl fun Y Z => ?_; simp only [zz, simprocAttr, -Int.reduceNatCast', -Int.reduceToNat, q7q]; (first | (refine ACalls.to honce ?_; rintro _ _ ⟨rfl, rfl⟩) | (refine ACalls.to honce ?_; rintro v2 σ3 hv)) <;> (refine Z _ _ ?_; clear Z Y))
        all_goals refine S.one q7q ?_
        all_goals (refine S.nil ?_; simp only [ze, simprocAttr, q7q]; apply_assumption)
        refine AW.ret ?_
        all_goals simp only [zs, simprocAttr]
        exact ⟨false, norm L, .inl ⟨rfl, by rw [hn0]; rfl, hB.symm⟩, hq⟩
      · have honce := once_spec (from_apt hdi) g evs false k L (fun p hp => (hLo p hp).1) (by omega) (fun p hp => by have := (hLo p hp).2.len; omega)
        rw [hB, decide_eq_false (by omega), Bool.or_false] at honce
        refine AW.seq_k fun K16 h16 => ?_
        refine AW.reg0 ?_
        iterate 2 refine S.one (J8 e0 e3 l3 e24 e25 e26 e5 @ptrV.eq_1) ?_
        have q8q := J8 e0 e3 l3 e24 e25 e26 e5 @ptrV.eq_1
        (refine S.g rfl rfl fun Y Z => ?_; simp only [zz, simprocAttr, -Int.reduceNatCast', -Int.reduceToNat, q8q]; (first | (refine ACalls.to honce ?_; rintro _ _ ⟨rfl, rfl⟩) | (refine ACalls.to honce ?_; rintro v2 σ3 hv)) <;> (refine Z _ _ ?_; clear Z Y))
        all_goals refine S.one q8q ?_
        all_goals (refine S.nil ?_; simp only [ze, simprocAttr, q8q]; apply_assumption)
        refine AW.ret ?_
        all_goals simp only [zs, simprocAttr]
        rcases hv with ⟨rfl, h2⟩ | ⟨k, rfl, h2⟩
        · exact ⟨rfl, false, norm L, .inl ⟨rfl, h2⟩, hq⟩
        · exact ⟨rfl, false, norm L, .inr ⟨k, rfl, h2⟩, hq⟩
  have hk : ¬ n.kind = 1 := by simpa using hk
  rw [if_neg hk] at hp0
  all_goals refine AW.sr trivial ?_
  refine AW.cond (b := n.kind == 4) (by simp [ev]) (fun h4 => ?_) (fun h4 => ?_)
  · have h4 : n.kind = 4 := by simpa using h4
    rw [if_pos h4] at hp0
    refine AW.sr trivial ?_
    refine AW.seq_k fun K19 h19 => ?_
    refine AW.sr @List.length_map.{0,0} ?_
    refine AW.block ?_   -- 3
    refine AW.loop (fun m s' σ => ∃ (i : Nat) (out : List (List Bd)) (fl : Bool), m + i = n.kids.length ∧ AccH (hpF g evs fl) out (s'.t 10) σ ∧ (∀ p ∈ out, okF evs p) ∧ out.length ≤ (if fl then 16777216 else 0) + 4096 * ((n.kids.take i).map Nd.size).sum ∧ (fl = false → allO (n.kids.map (Nd.denP evs)) = (allO ((n.kids.drop i).map (Nd.denP evs))).map (out ++ ·)) ∧ (fl = true → allO (n.kids.map (Nd.denP evs)) = none) ∧ s'.t 0 = ptrV g ∧ s'.t 3 = .lp 3 0 ∧ s'.l 3 = some [.c (.int .i64 n.kind), .c (.string n.var), .c (.string n.type), .sl (n.tests.map encC), .sl (n.kids.map encNd)] ∧ s'.t 55 = .sl (n.kids.map encNd) ∧ s'.t 56 = .c (.int .i64 (n.kids.length : Nat)) ∧ s'.t 57 = .c (.int .i64 (i : Nat))) n.kids.length ?_ ?_
    · refine ⟨0, [], false, by simp, .inl ⟨?_, rfl, rfl⟩, (fun _ h => by cases h), by simp, (fun _ => ?_), (fun h => by cases h), ?_⟩
      · simp only [zs, simprocAttr]
      · rw [List.drop_zero]; cases allO (n.kids.map (Nd.denP evs)) <;> rfl
      all_goals simp only [zs, simprocAttr, ptrV]
      all_goals ((try and_intros) <;> first | rfl | assumption | (rfl))
    rintro m s σ ⟨i, out, fl, hm, hA, hoo, hol, hno, hyes, e0, e3, l3, e55, e56, e57⟩
    have hkA := fun d => hA.held.kill d
    all_goals refine AW.sr (J2 e56 e57) ?_
    refine AW.seq_k fun K22 h22 => ?_
    refine AW.cond (b := decide (i < n.kids.length)) (by simp [ev]) (fun hi => ?_) (fun hi => ?_)
    · have hi := of_decide_eq_true hi
      obtain ⟨x, hx, hxm, hg⟩ := kid_get hi
      have hw := wadd1 (a := i) (by omega)
      have hfx : FindC g evs x := ih x hxm (hn.kid hxm) (ho.kid hxm) (Nd.err_kid he hxm)
      have hsum : ((n.kids.take (i + 1)).map Nd.size).sum = ((n.kids.take i).map Nd.size).sum + x.size := by rw [List.take_add_one, hx, List.map_append, List.sum_append]; simp
      have hss := sum_take_le (n := n) (i := i + 1)
      have hxp := x.size_pos
      have hn' : n.size ≤ 1048576 := hn
      rw [kid_drop hx, List.map_cons] at hno
      refine AW.skip ?_
      simp only [zs, simprocAttr]
      all_goals apply_assumption
      refine AW.seq_k fun K23 h23 => ?_
      refine AW.block ?_   -- 4
      refine AW.sr (J12 hkA e0 e3 l3 e55 e56 e57 hi hg @nd @ptrV.eq_1 @List.length_map.{0,0}) ?_
      have hxn : x.size ≤ 1048576 := hn.kid hxm
      have hob : out.length ≤ 4311744512 := by split at hol <;> omega
      have hnext : ∀ full' lk, FindQ evs x fl full' lk → (∀ p ∈ out ++ lk, okF evs p) ∧ (out ++ lk).length ≤ (if full' then 16777216 else 0) + 4096 * ((n.kids.take (i + 1)).map Nd.size).sum ∧ (full' = false → allO (n.kids.map (Nd.denP evs)) = (allO ((n.kids.drop (i + 1)).map (Nd.denP evs))).map ((out ++ lk) ++ ·)) ∧ (full' = true → allO (n.kids.map (Nd.denP evs)) = none) := fun full' lk hq => by
        refine ⟨fun p hp => (List.mem_append.1 hp).elim (hoo p) (hq.of p), ?_, fun h => ?_, fun h => ?_⟩
        · rw [hsum, List.length_append]
          cases fl with
          | true =>
            rw [hq.nil rfl]
            cases full' with
            | true => simp only [if_true, List.length_nil, Nat.add_zero] at hol ⊢; omega
            | false => cases (hq.no rfl).1
          | false =>
            simp only [Bool.false_eq_true, if_false] at hol
            cases full' with
            | true => have := hq.len; simp only [if_true]; omega
            | false => have := (hq.no rfl).2.2; simp only [Bool.false_eq_true, if_false]; omega
        · obtain ⟨h1, h2, _⟩ := hq.no h
          rw [hno h1, h2, allO]
          cases allO ((n.kids.drop (i + 1)).map (Nd.denP evs)) <;> simp
        · rcases hq.yes h with h1 | h1
          · exact hyes h1
          · cases fl with
            | true => exact hyes rfl
            | false => rw [hno rfl, h1]; rfl
      rcases hA with ⟨e10, hn0, rfl⟩ | ⟨k, e10, hk0, rfl⟩
      · have hnil := hfx.nilS fl
        refine AW.reg0 ?_
        iterate 3 refine S.one (J10 e0 e3 l3 e55 e56 e57 e10 @ptrV.eq_1 @nd @List.length_map.{0,0}) ?_
        (refine S.g rfl rfl fun Y Z => ?_; simp only [zz, simprocAttr, -Int.reduceNatCast', -Int.reduceToNat, e0, e3, l3, e55, e56, e57, e10, ptrV, nd, List.length_map]; (first | (refine ACalls.to hnil ?_; rintro v1 σ2 ⟨full', lk, rfl, rfl, hfq⟩) | (refine ACalls.to hgl ?_; rintro v1 σ2 ⟨full', lk, rfl, rfl, hfq⟩)) <;> (refine Z _ _ ?_; clear Z Y))
        all_goals have q9q := J10 e0 e3 l3 e55 e56 e57 e10 @ptrV.eq_1 @nd @List.length_map.{0,0}
        all_goals (refine S.g rfl rfl fun Y Z => ?_; simp only [zz, simprocAttr, -Int.reduceNatCast', -Int.reduceToNat, tt, q9q]; refine ⟨(fun e he => by obtain ⟨a, _, rfl⟩ := List.mem_map.1 he; rfl), (by have := hfq.len; unfold maxLen; omega), (by have := hfq.len; unfold reach; omega), fun k1 hk1 => ?_⟩ <;> (refine Z _ _ ?_; clear Z Y))
        all_goals refine S.one q9q ?_
        all_goals (refine S.nil ?_; simp only [ze, simprocAttr, q9q]; apply_assumption)
        obtain ⟨n1, n2, n3, n4⟩ := hnext full' lk hfq
        all_goals have q10q := J7 e0 e3 l3 e55 e56 e57 hw
        all_goals refine AW.reg0 (S.rn q10q ?_)
        all_goals simp only [ze, simprocAttr, q10q]
        refine ⟨m - 1, by omega, i + 1, out ++ lk, full', by omega, .inr ⟨k1, rfl, hk1, by rw [hn0]; rfl⟩, n1, n2, n3, n4, ?_⟩
        all_goals ((try and_intros) <;> first | rfl | assumption | (rfl))
      · have hgl := hfx.glS fl k out
        unfold hpP at hgl ⊢
        refine AW.reg0 ?_
        iterate 3 refine S.one (J10 e0 e3 l3 e55 e56 e57 e10 @ptrV.eq_1 @nd @List.length_map.{0,0}) ?_
        (refine S.g rfl rfl fun Y Z => ?_; simp only [zz, simprocAttr, -Int.reduceNatCast', -Int.reduceToNat, e0, e3, l3, e55, e56, e57, e10, ptrV, nd, List.length_map]; (first | (refine ACalls.to hnil ?_; rintro v1 σ2 ⟨full', lk, rfl, rfl, hfq⟩) | (refine ACalls.to hgl ?_; rintro v1 σ2 ⟨full', lk, rfl, rfl, hfq⟩)) <;> (refine Z _ _ ?_; clear Z Y))
        all_goals have q11q := J10 e0 e3 l3 e55 e56 e57 e10 @ptrV.eq_1 @nd @List.length_map.{0,0}
        all_goals (refine S.g rfl rfl fun Y Z => ?_; simp only [zz, simprocAttr, -Int.reduceNatCast', -Int.reduceToNat, tt, q11q]; refine ⟨(fun e he => by obtain ⟨a, _, rfl⟩ := List.mem_map.1 he; rfl), (by have := hfq.len; unfold maxLen; omega), (by have := hfq.len; unfold reach; omega), fun k1 hk1 => ?_⟩ <;> (refine Z _ _ ?_; clear Z Y))
        all_goals refine S.one q11q ?_
        all_goals (refine S.nil ?_; simp only [ze, simprocAttr, q11q]; apply_assumption)
        obtain ⟨n1, n2, n3, n4⟩ := hnext full' lk hfq
        all_goals have q12q := J7 e0 e3 l3 e55 e56 e57 hw
        all_goals refine AW.reg0 (S.rn q12q ?_)
        all_goals simp only [ze, simprocAttr, q12q]
        refine ⟨m - 1, by omega, i + 1, out ++ lk, full', by omega, .inr ⟨k1, rfl, rfl, ?_⟩, n1, n2, n3, n4, ?_⟩
        · rw [hpP, Hp.setGr_none (hpF_gr g evs full' k), List.map_append]
        all_goals ((try and_intros) <;> first | rfl | assumption | (rfl))
    · have hi := of_decide_eq_false hi
      refine AW.exit ?_
      simp only [zs, simprocAttr]
      all_goals apply_assumption
      rw [List.drop_of_length_le (by omega)] at hno
      have hsz := sum_take_le (n := n) (i := i)
      have hn' : n.size ≤ 1048576 := hn
      have hob : out.length ≤ 16777216 + 4096 * n.size := by split at hol <;> omega
      have hnl := norm_len out
      have hNo : ∀ p ∈ norm out, okF evs p := fun p hp => hoo p ((norm_mem (from_apt hdi) (fun y hy => (hoo y hy).1) p).1 hp)
      have hq : FindQ evs n false (fl || decide (4096 < (norm out).length)) (norm out) := by
        refine ⟨hNo, by omega, fun h => ?_, fun h => .inr ?_, fun h => by cases h⟩
        · obtain ⟨h1, h2⟩ := Bool.or_eq_false_iff.1 h
          have h2 := of_decide_eq_false h2
          refine ⟨rfl, ?_, by omega⟩
          rw [hp0, orP, hno h1]
          show Option.bind (some (out ++ [])) _ = _
          rw [Option.bind_some, List.append_nil, capL, if_neg h2]
        · rw [hp0, orP]
          cases fl with
          | true => rw [hyes rfl]; rfl
          | false =>
            rw [hno rfl]
            show Option.bind (some (out ++ [])) _ = _
            rw [Option.bind_some, List.append_nil, capL, if_pos (by simpa using h)]
      rcases hA with ⟨e10, hn0, rfl⟩ | ⟨k, e10, hk0, rfl⟩
      · have honce := onceNil_spec g evs fl
        refine AW.seq_k fun K25 h25 => ?_
        refine AW.reg0 ?_
        iterate 2 refine S.one (J5 e0 e3 l3 e10 @ptrV.eq_1) ?_
        have q13q := J5 e0 e3 l3 e10 @ptrV.eq_1
        (refine S.g rfl rfl fun Y Z => ?_; simp only [zz, simprocAttr, -Int.reduceNatCast', -Int.reduceToNat, q13q]; (first | (refine ACalls.to honce ?_; rintro _ _ ⟨rfl, rfl⟩) | (refine ACalls.to honce ?_; rintro v2 σ3 hv)) <;> (refine Z _ _ ?_; clear Z Y))
        all_goals refine S.one q13q ?_
        all_goals (refine S.nil ?_; simp only [ze, simprocAttr, q13q]; apply_assumption)
        refine AW.ret ?_
        all_goals simp only [zs, simprocAttr]
        exact ⟨_, norm out, .inl ⟨rfl, by rw [hn0]; rfl, by rw [hn0]; cases fl <;> rfl⟩, hq⟩
      · have honce := once_spec (from_apt hdi) g evs fl k out (fun p hp => (hoo p hp).1) (by omega) (fun p hp => by have := (hoo p hp).2.len; omega)
        refine AW.seq_k fun K26 h26 => ?_
        refine AW.reg0 ?_
        iterate 2 refine S.one (J5 e0 e3 l3 e10 @ptrV.eq_1) ?_
        have q14q := J5 e0 e3 l3 e10 @ptrV.eq_1
        (refine S.g rfl rfl fun Y Z => ?_; simp only [zz, simprocAttr, -Int.reduceNatCast', -Int.reduceToNat, q14q]; (first | (refine ACalls.to honce ?_; rintro _ _ ⟨rfl, rfl⟩) | (refine ACalls.to honce ?_; rintro v2 σ3 hv)) <;> (refine Z _ _ ?_; clear Z Y))
        all_goals refine S.one q14q ?_
        all_goals (refine S.nil ?_; simp only [ze, simprocAttr, q14q]; apply_assumption)
        refine AW.ret ?_
        all_goals simp only [zs, simprocAttr]
        rcases hv with ⟨rfl, h2⟩ | ⟨k, rfl, h2⟩
        · exact ⟨rfl, _, norm out, .inl ⟨rfl, h2⟩, hq⟩
        · exact ⟨rfl, _, norm out, .inr ⟨k, rfl, h2⟩, hq⟩
  have h4 : ¬ n.kind = 4 := by simpa using h4
  refine AW.skip ?_
  all_goals simp only [zs, simprocAttr]
  all_goals apply_assumption
  have hk0 : 0 < n.kids.length := by
    have h0 := Nd.err_own he
    rw [ndOwn, if_neg hk] at h0
    split at h0
    · split at h0
      · cases h0
      · rename_i hb
        simp only [joinBad, Bool.or_eq_true, not_or, decide_eq_true_eq, Decidable.not_not] at hb
        omega
    · cases h0
  have hjoin := joined_spec hev hdi g n hn he hk0 hk h4 (fun x hxm => ih x hxm (hn.kid hxm) (ho.kid hxm) (Nd.err_kid he hxm))
  refine AW.seq_k fun K27 h27 => ?_
  all_goals refine AW.reg0 ?_
  all_goals iterate 2 refine S.one (J3 @ptrV.eq_1 @nd hE) ?_
  all_goals have q15q := J3 @ptrV.eq_1 @nd hE
  all_goals (refine S.g rfl rfl fun Y Z => ?_; simp only [zz, simprocAttr, -Int.reduceNatCast', -Int.reduceToNat, q15q]; (refine ACalls.to hjoin ?_; rintro v1 σ2 hv) <;> (refine Z _ _ ?_; clear Z Y))
  all_goals refine S.one q15q ?_
  all_goals (refine S.nil ?_; simp only [ze, simprocAttr, q15q]; apply_assumption)
  refine AW.ret ?_
  all_goals simp only [zs, simprocAttr]
  obtain ⟨full', l, hO, hq⟩ := hv
  rcases hO with ⟨rfl, h2⟩ | ⟨k, rfl, h2⟩
  · exact ⟨rfl, full', l, .inl ⟨rfl, h2⟩, hq⟩
  · exact ⟨rfl, full', l, .inr ⟨k, rfl, h2⟩, hq⟩
def evId (e : Ev) : Int × Int := (e.src, e.seq)
theorem clash_iff {evs : List Ev} {i : Nat} {x : Ev} (hx : evs[i]? = some x) : clashAt evs i = true ↔ (x.src, x.seq) ∈ (evs.take i).map evId := by
 have hi : i < evs.length := (List.getElem?_eq_some_iff.1 hx).1
 have hxd : evs.getD i noEv = x := by rw [List.getD_eq_getElem?_getD, hx]; rfl
 rw [clashAt, hxd, List.any_eq_true, List.mem_map]
 constructor
 ·rintro ⟨j, hj, h⟩
  have hj := List.mem_range.1 hj
  have hjl : j < evs.length := by omega
  simp only [sameEv, Bool.and_eq_true, beq_iff_eq] at h
  refine ⟨evs.getD j noEv, ?_, by rw [evId, h.1, h.2]⟩
  rw [List.getD_eq_getElem?_getD, List.getElem?_eq_getElem hjl]
  exact List.mem_iff_getElem?.2 ⟨j, by rw [List.getElem?_take, if_pos hj, List.getElem?_eq_getElem hjl]; rfl⟩
 ·rintro ⟨y, hy, h⟩
  obtain ⟨j, hj⟩ := List.getElem?_of_mem hy
  rw [List.getElem?_take] at hj
  split at hj
  ·rename_i hji
   refine ⟨j, List.mem_range.2 hji, ?_⟩
   rw [List.getD_eq_getElem?_getD, hj]
   rw [evId, Prod.mk.injEq] at h
   simp [sameEv, h]
  ·cases hj
theorem ids_step {evs : List Ev} {i : Nat} {x : Ev} (hx : evs[i]? = some x) : (evs.take (i + 1)).map evId = (evs.take i).map evId ++ [(x.src, x.seq)] := by
 rw [List.take_add_one, hx, List.map_append]; rfl
def NodeR (o : List (List Bd) × Int) (v : V) (σ' : Hp) : Prop := ∃ u, v = .tup [u, .c (.int .i64 o.2)] ∧ OwnP Hp.empty o.1 u σ' ∧ (∀ p ∈ o.1, okQ p) ∧ o.1.length ≤ 4096
theorem NodeR_nil (e : Int) : NodeR ([], e) (.tup [.sl [], .c (.int .i64 e)]) Hp.empty := ⟨.sl [], rfl, .inl ⟨rfl, rfl, rfl⟩, (fun _ h => by cases h), by simp⟩
theorem Node_spec (n : Nd) (hn : n.small) (ho : n.ok) (evs : List Ev) (hel : evs.length < 4611686018427387904) (heo : ∀ e ∈ evs, okE e) : ACalls Tryz.prog 11 [.agg (encNd n), .sl (evs.map encEv)] Hp.empty (NodeR (nodeOut n evs (n.denP evs))) := by
 have hmap := map3 evs
 refine ACalls.intro Tryz.call11 Tryz.func11 rfl Tryz.ntmps11 Tryz.results11 (by simp) ?_
 refine AW.sr @nd ?_
 refine AW.seq_k fun K2 h2 => ?_
 refine AW.seq_k fun K3 h3 => ?_
 refine AW.reg0 ?_
 refine S.one @nd ?_
 (refine S.g rfl rfl fun Y Z => ?_; simp only [zz, simprocAttr, -Int.reduceNatCast', -Int.reduceToNat, nd]; refine PCalls.eqto (Shape_spec n hn ho) ?_ <;> (refine Z _ _ ?_; clear Z Y))
 all_goals refine S.one @nd ?_
 all_goals (refine S.nil ?_; simp only [ze, simprocAttr, nd]; apply_assumption)
 all_goals refine AW.sr trivial ?_
 refine AW.cond (b := n.shape != 0) (by simp [ev]) (fun hb => ?_) (fun hb => ?_)
 ·have hb : n.shape ≠ 0 := by simpa using hb
  refine AW.sr trivial ?_
  refine AW.ret ?_
  simp only [zs, simprocAttr]
  rw [nodeOut, if_neg hb]
  exact NodeR_nil _
 have hsh : n.shape = 0 := by simpa using hb
 refine AW.skip ?_
 all_goals simp only [zs, simprocAttr]
 all_goals apply_assumption
 refine AW.seq_k fun K6 h6 => ?_
 refine AW.seq_k fun K7 h7 => ?_
 all_goals refine AW.reg0 ?_
 all_goals refine S.one @nd ?_
 all_goals (refine S.g rfl rfl fun Y Z => ?_; simp only [zz, simprocAttr, -Int.reduceNatCast', -Int.reduceToNat, nd]; refine PCalls.eqto (Binds_spec n hn (shape_err hsh)) ?_ <;> (refine Z _ _ ?_; clear Z Y))
 all_goals refine S.one @nd ?_
 all_goals (refine S.nil ?_; simp only [ze, simprocAttr, nd]; apply_assumption)
 all_goals refine AW.sr trivial ?_
 refine AW.cond (b := n.binds != 0) (by simp [ev]) (fun hb => ?_) (fun hb => ?_)
 ·have hb : n.binds ≠ 0 := by simpa using hb
  refine AW.sr trivial ?_
  refine AW.ret ?_
  simp only [zs, simprocAttr]
  rw [nodeOut, if_pos hsh, if_neg hb]
  exact NodeR_nil _
 have hbi : n.binds = 0 := by simpa using hb
 refine AW.skip ?_
 all_goals simp only [zs, simprocAttr]
 all_goals apply_assumption
 refine AW.seq_k fun K10 h10 => ?_
 all_goals refine AW.sr @List.length_map.{0,0} ?_
 refine AW.cond (b := decide ((evs.length : Int) > 64)) (by simp [ev]) (fun hc => ?_) (fun hc => ?_)
 ·have h64 : 64 < evs.length := by have := of_decide_eq_true hc; omega
  refine AW.sr trivial ?_
  refine AW.ret ?_
  simp only [zs, simprocAttr]
  rw [nodeOut, if_pos hsh, if_pos hbi, if_pos h64]
  exact NodeR_nil _
 have h64 : ¬ 64 < evs.length := by have := of_decide_eq_false hc; omega
 refine AW.skip ?_
 all_goals simp only [zs, simprocAttr]
 all_goals apply_assumption
 refine AW.seq_j (fun s' σ' => ∃ gm, σ' = Hp.empty.setObj gm (some [.tup ([].map ent)]) ∧ s'.t 1 = .sl (evs.map encEv) ∧ s'.t 2 = .lp 2 0 ∧ s'.l 2 = some (encNd n) ∧ s'.t 8 = .c (.map (some gm))) ?_ ?_
 ·skip
  refine AW.reg0 ?_
  (refine S.g rfl rfl fun Y Z => ?_; simp only [zz, simprocAttr, -Int.reduceNatCast', -Int.reduceToNat]; intro gm hgm <;> (refine Z _ _ ?_; clear Z Y))
  all_goals refine S.one trivial ?_
  all_goals refine S.nil ?_
  all_goals simp only [ze, simprocAttr]
  refine ⟨gm, rfl, ?_⟩
  all_goals ((try and_intros) <;> first | rfl | assumption | (rfl))
 rintro s σ ⟨gm, rfl, e1, e2, l2, e8⟩
 refine AW.seq_j (fun s' σ' => σ' = Hp.empty ∧ s'.t 1 = .sl (evs.map encEv) ∧ s'.t 2 = .lp 2 0 ∧ s'.l 2 = some (encNd n) ∧ evsBad evs = false) ?_ ?_
 ·refine AW.sr (J2 e1 @List.length_map.{0,0}) ?_
  refine AW.block ?_   -- 0
  refine AW.loop (fun m s σ => ∃ i : Nat, m + i = evs.length ∧ σ = Hp.empty.setObj gm (some [.tup (((evs.take i).map evId).map ent)]) ∧ (List.range i).any (badAt evs) = false ∧ s.t 1 = .sl (evs.map encEv) ∧ s.t 2 = .lp 2 0 ∧ s.l 2 = some (encNd n) ∧ s.t 8 = .c (.map (some gm)) ∧ s.t 27 = .sl (evs.map encEv) ∧ s.t 28 = .c (.int .i64 (evs.length : Nat)) ∧ s.t 29 = .c (.int .i64 (i : Nat))) evs.length ?_ ?_
  ·refine ⟨0, by simp, rfl, rfl, ?_⟩
   simp only [zs, simprocAttr, e1, e2, l2, e8]
   all_goals ((try and_intros) <;> first | rfl | assumption | (rfl))
  rintro m s σ ⟨i, hm, rfl, hp, e1, e2, l2, e8, e27, e28, e29⟩
  all_goals refine AW.sr (J2 e28 e29) ?_
  refine AW.seq_k fun K15 h15 => ?_
  refine AW.cond (b := decide (i < evs.length)) (by simp [ev]) (fun hi => ?_) (fun hi => ?_)
  ·have hi := of_decide_eq_true hi
   obtain ⟨x, hx, hxm, hgx⟩ : ∃ e, evs[i]? = some e ∧ e ∈ evs ∧ (evs.map encEv).getD i [] = encEv e := ⟨evs[i], List.getElem?_eq_getElem hi, List.getElem_mem hi, getD_map hi⟩
   have hw := wadd1 (a := i) (by omega)
   have hxo := heo x hxm
   have hbad : badAt evs i = true → nodeOut n evs (n.denP evs) = ([], 110) := fun hb => by
    rw [nodeOut, if_pos hsh, if_pos hbi, if_neg h64, if_pos (show evsBad evs = true from range_any hi hb)]
   have hba : badAt evs i = (!(evErr x == 0) || clashAt evs i) := by rw [badAt, List.getD_eq_getElem?_getD, hx]; rfl
   have hcl := clash_iff hx
   have hids := ids_step hx
   have hsn := entV_seen ((evs.take i).map evId) x.src x.seq 0
   have hstep := range_anyS (p := badAt evs) i
   generalize (evs.take i).map evId = sn at *
   generalize hsn1 : (evs.take (i + 1)).map evId = sn1 at *
   refine AW.skip ?_
   simp only [zs, simprocAttr]
   all_goals apply_assumption
   refine AW.seq_j (fun s' σ' => σ' = Hp.empty.setObj gm (some [.tup (sn1.map ent)]) ∧ badAt evs i = false ∧ s'.t 1 = .sl (evs.map encEv) ∧ s'.t 2 = .lp 2 0 ∧ s'.l 2 = some (encNd n) ∧ s'.t 8 = .c (.map (some gm)) ∧ s'.t 27 = .sl (evs.map encEv) ∧ s'.t 28 = .c (.int .i64 (evs.length : Nat)) ∧ s'.t 29 = .c (.int .i64 (i : Nat))) ?_ ?_
   ·refine AW.block ?_   -- 1
    refine AW.sr (J11 e1 e2 l2 e8 e27 e28 e29 hi hgx @encEv.eq_1 @List.length_map.{0,0}) ?_
    refine AW.seq_k fun K17 h17 => ?_
    refine AW.seq_j (fun s' σ' => σ' = Hp.empty.setObj gm (some [.tup (sn.map ent)]) ∧ s'.t 1 = .sl (evs.map encEv) ∧ s'.t 2 = .lp 2 0 ∧ s'.l 2 = some (encNd n) ∧ s'.t 8 = .c (.map (some gm)) ∧ s'.t 10 = .lp 10 0 ∧ s'.l 10 = some (encEv x) ∧ s'.t 27 = .sl (evs.map encEv) ∧ s'.t 28 = .c (.int .i64 (evs.length : Nat)) ∧ s'.t 29 = .c (.int .i64 (i : Nat)) ∧ s'.t 41 = .c (.bool (badAt evs i))) ?_ ?_
    ·rw [hba]
     rcases hsn with ⟨hs1, hs2⟩ | ⟨hs1, jj, hs2⟩
     ·have hclf : clashAt evs i = false := by
       cases h : clashAt evs i
       ·rfl
       ·exact absurd (hcl.1 h) hs1
      rw [hclf]
      refine AW.reg0 ?_
      refine S.one (J9 e1 e2 l2 e8 e27 e28 e29 @encEv.eq_1 hs2) ?_
      have q1q := J9 e1 e2 l2 e8 e27 e28 e29 @encEv.eq_1 hs2
      (refine S.g rfl rfl fun Y Z => ?_; simp only [zz, simprocAttr, -Int.reduceNatCast', -Int.reduceToNat, q1q]; refine PCalls.eqto (check_ev x hxo) ?_ <;> (refine Z _ _ ?_; clear Z Y))
      all_goals (refine S.sp q1q fun b a35 => ?_; cases b <;> (try exact nope a35))
      all_goals iterate 4 refine S.one q1q ?_
      all_goals have q2q := J9 e1 e2 l2 e8 e27 e28 e29 @encEv.eq_1 hs2
      all_goals (first | (refine S.y rfl rfl rfl rfl fun Y Z => ?_; simp only [zn, simprocAttr, -Int.reduceNatCast', -Int.reduceToNat, q2q]; refine ⟨_, _, _, Tryz.underlying70, key45, rfl, entOk_seen _, ?_⟩; (try simp only [tt, ofC, Option.some.injEq, exists_eq_left', zz, simprocAttr, -Int.reduceNatCast', -Int.reduceToNat, e1, e2, l2, e8, e27, e28, e29, encEv, hs2]) <;> (refine Z _ _ ?_; clear Z Y)) | ((first | refine S.x rfl rfl rfl rfl fun Y Z => ?_ | refine S.u rfl rfl rfl rfl fun Y Z => ?_); simp only [ze, simprocAttr, -Int.reduceNatCast', -Int.reduceToNat]; refine Z _ _ ?_; clear Z Y))
      all_goals refine S.one q2q ?_
      all_goals refine S.nil ?_
      all_goals simp only [ze, simprocAttr, q2q]
      all_goals simp_all [encEv, bne]
     ·rw [hcl.2 hs1]
      refine AW.reg0 ?_
      refine S.one (J9 e1 e2 l2 e8 e27 e28 e29 @encEv.eq_1 hs2) ?_
      have q3q := J9 e1 e2 l2 e8 e27 e28 e29 @encEv.eq_1 hs2
      (refine S.g rfl rfl fun Y Z => ?_; simp only [zz, simprocAttr, -Int.reduceNatCast', -Int.reduceToNat, q3q]; refine PCalls.eqto (check_ev x hxo) ?_ <;> (refine Z _ _ ?_; clear Z Y))
      all_goals (refine S.sp q3q fun b a35 => ?_; cases b <;> (try exact nope a35))
      all_goals iterate 4 refine S.one q3q ?_
      all_goals have q4q := J9 e1 e2 l2 e8 e27 e28 e29 @encEv.eq_1 hs2
      all_goals (first | (refine S.y rfl rfl rfl rfl fun Y Z => ?_; simp only [zn, simprocAttr, -Int.reduceNatCast', -Int.reduceToNat, q4q]; refine ⟨_, _, _, Tryz.underlying70, key45, rfl, entOk_seen _, ?_⟩; (try simp only [tt, ofC, Option.some.injEq, exists_eq_left', zz, simprocAttr, -Int.reduceNatCast', -Int.reduceToNat, e1, e2, l2, e8, e27, e28, e29, encEv, hs2]) <;> (refine Z _ _ ?_; clear Z Y)) | ((first | refine S.x rfl rfl rfl rfl fun Y Z => ?_ | refine S.u rfl rfl rfl rfl fun Y Z => ?_); simp only [ze, simprocAttr, -Int.reduceNatCast', -Int.reduceToNat]; refine Z _ _ ?_; clear Z Y))
      all_goals refine S.one q4q ?_
      all_goals refine S.nil ?_
      all_goals simp only [ze, simprocAttr, q4q]
      all_goals simp_all [encEv, bne]
    rintro s2 σ2 ⟨rfl, e1, e2, l2, e8, e10, l10, e27, e28, e29, e41⟩
    refine AW.cond (b := badAt evs i) e41 (fun hc => ?_) (fun hc => ?_)
    ·refine AW.bare ?_
     refine AW.sr trivial ?_
     refine AW.ret ?_
     simp only [zs, simprocAttr]
     rw [hbad hc]
     exact NodeR_nil _
    have hnot : (x.src, x.seq) ∉ sn := fun h => by
     rw [hba, Bool.or_eq_false_iff] at hc
     rw [hcl.2 h] at hc; cases hc.2
    have hs2 : entV (sn.map ent) (.agg ⟨[.int .i64 x.src, .int .i64 x.seq]⟩) 0 = none := by
     rcases hsn with ⟨_, h⟩ | ⟨h, _⟩
     ·exact h
     ·exact absurd h hnot
    refine AW.skip ?_
    all_goals simp only [zs, simprocAttr]
    all_goals apply_assumption
    rw [encEv] at l10
    all_goals refine AW.reg0 ?_
    all_goals iterate 3 refine S.one (J11 e1 e2 l2 e8 e10 l10 e27 e28 e29 @encEv.eq_1 hs2) ?_
    all_goals have q5q := J11 e1 e2 l2 e8 e10 l10 e27 e28 e29 @encEv.eq_1 hs2
    all_goals (refine S.g rfl rfl fun Y Z => ?_; simp only [zn, simprocAttr, -Int.reduceNatCast', -Int.reduceToNat, q5q]; refine ⟨_, _, _, Tryz.underlying70, key45, rfl, entOk_seen _, ?_⟩; (try simp only [tt, ofC, Option.some.injEq, exists_eq_left', zz, simprocAttr, -Int.reduceNatCast', -Int.reduceToNat, e1, e2, l2, e8, e10, l10, e27, e28, e29, encEv, hs2]) <;> (refine Z _ _ ?_; clear Z Y))
    all_goals refine S.nil ?_
    all_goals simp only [ze, simprocAttr, q5q]
    refine ⟨by rw [hids, List.map_append]; rfl, ?_⟩
    all_goals ((try and_intros) <;> first | rfl | assumption | (exact hc))
   rintro s2 σ2 ⟨rfl, hc, e1, e2, l2, e8, e27, e28, e29⟩
   all_goals have q6q := J8 e1 e2 l2 e8 e27 e28 e29 hw
   all_goals refine AW.reg0 (S.rn q6q ?_)
   all_goals simp only [ze, simprocAttr, q6q]
   refine ⟨m - 1, by omega, i + 1, by omega, by rw [hsn1], by rw [hstep, hp, hc]; rfl, ?_⟩
   all_goals ((try and_intros) <;> first | rfl | assumption | (rfl))
  ·have hi := of_decide_eq_false hi
   refine AW.bare (AW.exit ?_)
   simp only [zs, simprocAttr]
   rw [show i = evs.length by omega] at hp
   all_goals ((try and_intros) <;> first | rfl | assumption | (exact hp))
 rintro s σ ⟨rfl, e1, e2, l2, hbad⟩
 obtain ⟨hz, hdist⟩ := evsBad_no hbad
 have hevs : okEvs evs := ⟨by omega, heo, fun e he => few_of (hz e he), fun e he => time_in (hz e he)⟩
 have hout : nodeOut n evs (n.denP evs) = optO (n.denP evs) := by
  rw [nodeOut, if_pos hsh, if_pos hbi, if_neg h64, if_neg (by rw [hbad]; exact Bool.false_ne_true)]
 rw [hout]
 have hfindC := fun g => find_spec hevs hdist hz g n hn ho (shape_err hsh)
 refine AW.seq_k fun K19 h19 => ?_
 all_goals refine AW.region (T := { hp := fun d => d == 48 }) (fun _ _ h => by cases h) rfl ?_
 all_goals iterate 2 refine S.one (J2 e1 @map3) ?_
 all_goals (refine S.g rfl rfl fun Y Z => ?_; simp only [zz, simprocAttr, -Int.reduceNatCast', -Int.reduceToNat, tt, e1, map3]; intro gf hgf <;> (refine Z _ _ ?_; clear Z Y))
 all_goals refine S.one (J2 e1 @map3) ?_
 all_goals (refine S.nil ?_; simp only [ze, simprocAttr, e1, map3]; apply_assumption)
 have hempty : (Hp.empty.setObj gf (some [.sl (evs.map encEv), .c (.bool false)])) = hpF gf evs false := rfl
 rw [hempty]
 have hfind := hfindC gf false
 refine AW.seq_k fun K20 h20 => ?_
 all_goals refine AW.reg0 ?_
 all_goals iterate 2 refine S.one (J4 e2 l2 @nd @ptrV.eq_1) ?_
 all_goals have q7q := J4 e2 l2 @nd @ptrV.eq_1
 all_goals (refine S.g rfl rfl fun Y Z => ?_; simp only [zz, simprocAttr, -Int.reduceNatCast', -Int.reduceToNat, q7q]; (refine ACalls.to hfind ?_; rintro v1 σ2 ⟨full', l, hO, hq⟩) <;> (refine Z _ _ ?_; clear Z Y))
 all_goals refine S.one q7q ?_
 all_goals (refine S.nil ?_; simp only [ze, simprocAttr, q7q]; apply_assumption)
 have hobj2 : σ2.obj gf = some [.sl (evs.map encEv), .c (.bool full')] := by rw [hO.held.obj]; exact hpF_obj gf evs full'
 refine AW.seq_k fun K21 h21 => ?_
 all_goals refine AW.sr (J2 hobj2 hmap) ?_
 refine AW.cond (b := full') (by simp [ev]) (fun hb => ?_) (fun hb => ?_)
 ·have hd : n.denP evs = none := (hq.yes hb).resolve_left (by simp)
  refine AW.bare ?_
  refine AW.sr trivial ?_
  refine AW.ret ?_
  simp only [zs, simprocAttr]
  rw [hd]
  exact NodeR_nil _
 have hd := (hq.no hb).2.1
 have hlen := (hq.no hb).2.2
 subst hb
 refine AW.skip ?_
 all_goals simp only [zs, simprocAttr]
 all_goals apply_assumption
 rw [hd]
 rcases hO with ⟨rfl, rfl, rfl⟩ | ⟨k, rfl, hk, rfl⟩
 ·refine AW.bare ?_
  refine AW.sr trivial ?_
  refine AW.ret ?_
  simp only [zs, simprocAttr]
  exact NodeR_nil _
 ·refine AW.sub (σ' := hpP Hp.empty k l) (fun g c h => by cases h) (fun k' x h => by
   by_cases e : k' = k
   ·subst e; exact h
   ·simp [hpP, e, Hp.empty] at h) ?_
  all_goals refine AW.sr trivial ?_
  refine AW.ret ?_
  all_goals simp only [zs, simprocAttr]
  exact ⟨.gl k, rfl, .inr ⟨k, rfl, rfl, rfl⟩, (fun p hp => (hq.of p hp).2), hlen⟩
theorem filt_step {p : List Bd → Bool} {l : List (List Bd)} {i : Nat} {x : List Bd} (h : l[i]? = some x) : (l.take (i + 1)).filter p = (l.take i).filter p ++ if p x then [x] else [] := by
 rw [List.take_add_one, h, List.filter_append]
 congr 1
 cases hp : p x <;> simp [hp]
theorem delete_spec {c : V} {g : Nat} {p : List Bd → Bool} (k : Nat) (l : List (List Bd)) (hl : l.length < 4611686018427387904) (hk : wk c = c) (hv : okV c = true) (hfz : ∀ k es, fz1 k es c = c) (hkl : ∀ d, kill d c = c) (hf : ∀ a ∈ l, PCalls Tryz.prog g [.agg (encP a), c] (fun v => v = .c (.bool (p a)))) :
  ACalls Tryz.prog 53 [.gl k, .fn (.func g) [] [c]] (hpP Hp.empty k l) (fun v σ' => ∃ k', v = .gl k' ∧ σ' = hpP Hp.empty k' (l.filter fun q => !p q)) := by
 have ho : (hpP Hp.empty k l).gr k = some ((40, 1), l.map encP) := by simp [hpP]
 have hidx0 := idx57_spec (p := p) l hl hk hv hf
 have hidx : ACalls Tryz.prog 57 [.gl k, .fn (.func g) [] [c]] (hpP Hp.empty k l) (fun v σ' => v = .c (.int .i64 (idxB p 0 l)) ∧ σ' = hpP Hp.empty k l) := by
  have h1 : PCalls Tryz.prog 57 ([V.gl k, .fn (.func g) [] [c]].map (fzV k (l.map encP))) (fun v => v = .c (.int .i64 (idxB p 0 l))) := by simpa [fzV, fz1] using hidx0
  exact (PCalls.lend h1 ho fun v h => ⟨_, h⟩).to fun v σ' ⟨h1, h2⟩ => ⟨h2, h1⟩
 refine ACalls.intro Tryz.call53 Tryz.func53 rfl Tryz.ntmps53 Tryz.results53 (by simp) ?_
 refine AW.sr (J2 hk hv) ?_
 refine AW.seq_k fun K2 h2 => ?_
 refine AW.reg0 ?_
 iterate 2 refine S.one (J2 hk hv) ?_
 (refine S.g rfl rfl fun Y Z => ?_; simp only [zz, simprocAttr, -Int.reduceNatCast', -Int.reduceToNat, hk, hv]; (refine ACalls.to hidx ?_; rintro _ _ ⟨rfl, rfl⟩) <;> (refine Z _ _ ?_; clear Z Y))
 all_goals refine S.one (J2 hk hv) ?_
 all_goals (refine S.nil ?_; simp only [ze, simprocAttr, hk, hv]; apply_assumption)
 refine AW.seq_k fun K3 h3 => ?_
 all_goals refine AW.sr trivial ?_
 refine AW.cond (b := decide (idxB p 0 l = -1)) (by simp [ev]; rfl) (fun h2 => ?_) (fun h2 => ?_)
 ·have h2 := of_decide_eq_true h2
  have hc : l.filter (fun q => !p q) = l := by
   rcases idxB_cases p l 0 with ⟨_, h⟩ | ⟨i, x, h, _⟩
   ·rw [List.filter_eq_self]; intro q hq; rw [h q hq]; rfl
   ·rw [h] at h2; omega
  refine AW.sr trivial ?_
  refine AW.ret ?_
  simp only [zs, simprocAttr]
  exact ⟨k, rfl, by rw [hc]⟩
 have h2 := of_decide_eq_false h2
 obtain ⟨i, x0, hix, hx0, hpx0, hpre⟩ : ∃ i x0, idxB p 0 l = ((i : Nat) : Int) ∧ l[i]? = some x0 ∧ p x0 = true ∧ ∀ y ∈ l.take i, p y = false := by
  rcases idxB_cases p l 0 with ⟨h, _⟩ | ⟨i, x, h, h1, h3, h4⟩
  ·exact absurd h h2
  ·exact ⟨i, x, by simpa using h, h1, h3, h4⟩
 have hil : i < l.length := (List.getElem?_eq_some_iff.1 hx0).1
 have hw0 := wadd1 (a := i) (by omega)
 have hinit : (l.take (i + 1)).filter (fun q => !p q) = l.take i := by
  rw [filt_step hx0, hpx0]
  simp only [Bool.not_true, Bool.false_eq_true, if_false, List.append_nil]
  rw [List.filter_eq_self]; intro q hq; rw [hpre q hq]; rfl
 rw [hix]
 refine AW.skip ?_
 all_goals simp only [zs, simprocAttr]
 all_goals apply_assumption
 refine AW.seq_k fun K6 h6 => ?_
 all_goals refine AW.sr hw0 ?_
 refine AW.block ?_   -- 0
 refine AW.loop (fun m s σ => ∃ (q j : Nat) (es : List (List Bd)), m + j = l.length + i + 1 ∧ q < j ∧ j ≤ l.length ∧ es.length = l.length ∧ es.drop j = l.drop j ∧ (l.take j).filter (fun q => !p q) = es.take q ∧ σ = hpP Hp.empty k es ∧ s.t 0 = .gl k ∧ s.t 1 = .fn (.func g) [] [c] ∧ s.t 5 = .c (.int .i64 (q : Nat)) ∧ s.t 6 = .c (.int .i64 (j : Nat))) l.length ?_ ?_
 ·refine ⟨i, i + 1, l, by omega, by omega, by omega, rfl, rfl, hinit, rfl, ?_⟩
  simp only [zs, simprocAttr]
  all_goals ((try and_intros) <;> first | rfl | assumption | (rfl))
 rintro m s σ ⟨q, j, es, hm, hqj, hjl, hel, hed, hq, rfl, e0, e1, e5, e6⟩
 have ho2 : (hpP Hp.empty k es).gr k = some ((40, 1), es.map encP) := by simp [hpP]
 refine AW.seq_k fun K8 h8 => ?_
 all_goals refine AW.sr (J5 ho2 e0 e6 @List.length_map.{0,0} hel) ?_
 refine AW.cond (b := decide (j < l.length)) (by simp [ev]) (fun hj => ?_) (fun hj => ?_)
 ·have hj := of_decide_eq_true hj
  obtain ⟨x, hx, hxm, hg, hd, hgx⟩ := part_get hj
  have hex : es[j]? = some x := by
   have := congrArg (fun t : List (List Bd) => t[0]?) hed
   simp only [List.getElem?_drop, Nat.add_zero] at this
   rw [this, hx]
  have hgx2 : (es.map encP).getD j [] = encP x := by rw [List.getD_eq_getElem?_getD, List.getElem?_map, hex]; rfl
  have hwj := wadd1 (a := j) (by omega)
  have hwq := wadd1 (a := q) (by omega)
  have hin1 : j < es.length := by omega
  have hin3 : q < es.length := by omega
  have hdr : es.drop (j + 1) = l.drop (j + 1) := by
   have := congrArg (List.drop 1) hed
   rwa [List.drop_drop, List.drop_drop] at this
  have hgq : ((es.map encP).getD q []).length = 1 := by rw [getD_map hin3]; rfl
  have hst := filt_step (p := fun q => !p q) hx
  refine AW.skip ?_
  all_goals simp only [zs, simprocAttr]
  all_goals apply_assumption
  refine AW.seq_j (fun s' σ' => ∃ (q' : Nat) (es' : List (List Bd)), q' < j + 1 ∧ es'.length = l.length ∧ es'.drop (j + 1) = l.drop (j + 1) ∧ (l.take (j + 1)).filter (fun q => !p q) = es'.take q' ∧ σ' = hpP Hp.empty k es' ∧ s'.t 0 = .gl k ∧ s'.t 1 = .fn (.func g) [] [c] ∧ s'.t 5 = .c (.int .i64 (q' : Nat)) ∧ s'.t 6 = .c (.int .i64 (j : Nat))) ?_ ?_
  ·refine AW.block ?_   -- 1
   refine AW.sr (J12 ho2 e0 e1 e5 e6 hin1 hgx2 @encP.eq_1 hkl @kill.eq_1 @kill.eq_2 @List.length_map.{0,0}) ?_
   refine AW.seq_k fun K11 h11 => ?_
   refine AW.reg0 ?_
   iterate 2 refine S.one (J7 e1 hkl @kill.eq_1 @kill.eq_2 hk hv @Bool.and_self) ?_
   have q1q := J7 e1 hkl @kill.eq_1 @kill.eq_2 hk hv @Bool.and_self
   (refine S.g rfl rfl fun Y Z => ?_; simp only [zz, simprocAttr, -Int.reduceNatCast', -Int.reduceToNat, q1q]; refine PCalls.eqto (hf x hxm) ?_ <;> (refine Z _ _ ?_; clear Z Y))
   all_goals refine S.one q1q ?_
   all_goals (refine S.nil ?_; simp only [ze, simprocAttr, q1q]; apply_assumption)
   refine AW.cond (b := !p x) (by simp [ev]) (fun hc => ?_) (fun hc => ?_)
   ·rw [hc, if_pos rfl] at hst
    refine AW.seq_k fun K12 h12 => ?_
    unfold hpP at ho2 ⊢
    refine AW.reg0 (S.rn (J12 ho2 e0 e1 e5 e6 hin3 hgq @encP.eq_1 @kill.eq_1 @kill.eq_2 @List.length_map.{0,0} @List.length_set.{0}) ?_)
    all_goals apply_assumption
    have q2q := J7 e0 e1 e5 e6 @kill.eq_1 @kill.eq_2 hwq
    refine AW.reg0 (S.rn q2q ?_)
    simp only [ze, simprocAttr, q2q]
    refine ⟨q + 1, es.set q x, by omega, by simp [hel], ?_, ?_, ?_, ?_⟩
    ·rw [List.drop_set_of_lt (by omega)]; exact hdr
    ·rw [hst, hq, List.take_set, take_get hin3, List.set_append_right _ _ (by simp; omega)]
     simp [Nat.min_eq_left (Nat.le_of_lt hin3), List.append_assoc]
    ·have hd1 : List.drop 1 ((es.map encP).getD q []) = [] := by rw [getD_map hin3]; rfl
     rw [hd1, hpP, List.map_set]; rfl
    all_goals ((try and_intros) <;> first | rfl | assumption | (rfl))
   ·rw [hc, if_neg Bool.false_ne_true, List.append_nil] at hst
    refine AW.skip ?_
    simp only [zs, simprocAttr, e0, e1, e5, e6, kill]
    refine ⟨q, es, by omega, hel, hdr, by rw [hst, hq], ?_⟩
    all_goals ((try and_intros) <;> first | rfl | assumption | (rfl))
  rintro s2 σ ⟨q', es', hq', hel', hed', hp', rfl, e0, e1, e5, e6⟩
  all_goals have q3q := J5 e6 e0 e1 e5 hwj
  all_goals refine AW.reg0 (S.rn q3q ?_)
  all_goals simp only [ze, simprocAttr, q3q]
  refine ⟨m - 1, by omega, q', j + 1, es', by omega, hq', by omega, hel', hed', hp', rfl, ?_⟩
  all_goals ((try and_intros) <;> first | rfl | assumption | (rfl))
 ·have hj := of_decide_eq_false hj
  refine AW.exit ?_
  simp only [zs, simprocAttr]
  all_goals apply_assumption
  rw [List.take_of_length_le (by omega)] at hq
  have z2 : (∀ (e : List V), e ∈ es.map encP → e.length = 1) = True := eq_true (len_part es)
  have hp1 : 0 < es.length := by omega
  have hqe : q ≤ es.length := by omega
  have hqs : q + (es.length - q) ≤ es.length := by omega
  refine AW.sr (J8 ho2 e0 e5 z2 hp1 hqe hqs @List.length_map.{0,0}) ?_
  refine AW.seq_k fun K14 h14 => ?_
  refine AW.reg0 ?_
  iterate 2 refine S.one (J2 e0 e5) ?_
  (refine S.g rfl rfl fun Y Z => ?_; simp only [zz, simprocAttr, -Int.reduceNatCast', -Int.reduceToNat, tt, e0, e5]; refine ⟨by simp; omega, fun k1 hk1 => ?_⟩ <;> (refine Z _ _ ?_; clear Z Y))
  all_goals refine S.one (J2 e0 e5) ?_
  all_goals (refine S.nil ?_; simp only [ze, simprocAttr, e0, e5]; apply_assumption)
  refine AW.ret ?_
  all_goals simp only [zs, simprocAttr]
  refine ⟨k1, rfl, ?_⟩
  rw [hq, List.append_assoc, take_cut (by simp; omega)]
  simp [hpP]
theorem deleteNil_spec {c : V} {g : Nat} (hk : wk c = c) (hv : okV c = true) : PCalls Tryz.prog 53 [.sl [], .fn (.func g) [] [c]] (fun v => v = .sl []) := by
 have hidx := idx57_spec (p := fun _ => false) (g := g) [] (by simp) hk hv (fun _ h => by cases h)
 rw [show (([] : List (List Bd)).map encP) = [] from rfl] at hidx
 refine PCalls.intro Tryz.call53 Tryz.func53 rfl Tryz.ntmps53 Tryz.results53 (by simp) ?_
 all_goals refine AW.sr (J2 hk hv) ?_
 refine AW.seq_k fun K2 h2 => ?_
 all_goals refine AW.reg0 ?_
 all_goals iterate 2 refine S.one (J4 hk hv @Bool.and_self @Bool.and_true) ?_
 all_goals have q1q := J4 hk hv @Bool.and_self @Bool.and_true
 all_goals (refine S.g rfl rfl fun Y Z => ?_; simp only [zz, simprocAttr, -Int.reduceNatCast', -Int.reduceToNat, q1q]; refine PCalls.eqto hidx ?_ <;> (refine Z _ _ ?_; clear Z Y))
 all_goals refine S.one q1q ?_
 all_goals (refine S.nil ?_; simp only [ze, simprocAttr, q1q]; apply_assumption)
 refine AW.seq_k fun K3 h3 => ?_
 all_goals refine AW.sr (J2 @idxB.eq_1 @idxB.eq_2) ?_
 refine AW.cond (b := true) (by simp [ev]) (fun h2 => ?_) (fun h2 => by cases h2)
 all_goals refine AW.sr trivial ?_
 refine AW.ret ?_
 all_goals simp only [zs, simprocAttr]
 all_goals ((try and_intros) <;> first | rfl | assumption | (rfl))
theorem nothold_spec (p : Pat) (hp : okPat p) (hwi : inI64 p.within) (q : List Bd) (hq : okQ q) : PCalls Tryz.prog 54 [.agg (encP q), cap (encPat p)] (fun v => v = .c (.bool (!matchB p q))) := by
 show PCalls Tryz.prog 54 [.agg (encP q), cap (encPat p)] (fun v => v = .c (.bool (!holdB p q)))
 refine PCalls.intro Tryz.call54 Tryz.func54 rfl Tryz.ntmps54 Tryz.results54 (by simp) ?_
 refine AW.sr @encP.eq_1 ?_
 refine AW.seq_k fun K2 h2 => ?_
 refine AW.reg0 ?_
 have q1q := J3 @encP.eq_1 @cap.eq_1 @encPat.eq_1
 iterate 2 refine S.one q1q ?_
 (refine S.g rfl rfl fun Y Z => ?_; simp only [zz, simprocAttr, -Int.reduceNatCast', -Int.reduceToNat, q1q]; refine PCalls.eqto (holds_spec p q (fun b hb => by have := hq.few b hb; omega) (by have := hq.len; omega) hq.time hwi hp.len) ?_ <;> (refine Z _ _ ?_; clear Z Y))
 all_goals iterate 2 refine S.one q1q ?_
 all_goals (refine S.nil ?_; simp only [ze, simprocAttr, q1q]; apply_assumption)
 refine AW.ret ?_
 all_goals simp only [zs, simprocAttr]
 all_goals ((try and_intros) <;> first | rfl | assumption | (rfl))
theorem All_P (p : Pat) (hp : okPat p) (evs : List Ev) (hel : evs.length < 4611686018427387904) (heo : ∀ e ∈ evs, okE e) :
  ACalls Tryz.prog 20 [.agg (encPat p), .sl (evs.map encEv)] Hp.empty (NodeR (allOut p (nodeOut p.node evs (p.node.denP evs)))) := by
 have hE := (encNd_eq p.node).symm
 have hnode := Node_spec p.node hp.small hp.ok evs hel heo
 generalize nodeOut p.node evs (p.node.denP evs) = o at hnode ⊢
 obtain ⟨l, e⟩ := o
 refine ACalls.intro Tryz.call20 Tryz.func20 rfl Tryz.ntmps20 Tryz.results20 (by simp) ?_
 refine AW.sr @encPat.eq_1 ?_
 refine AW.seq_j (fun s' σ' => σ' = Hp.empty ∧ s'.t 1 = .sl (evs.map encEv) ∧ s'.t 2 = .lp 2 0 ∧ s'.l 2 = some (encPat p) ∧ patErr p = 0) ?_ ?_
 ·refine AW.seq_k fun K2 h2 => ?_
  refine AW.reg0 ?_
  refine S.one @encPat.eq_1 ?_
  (refine S.g rfl rfl fun Y Z => ?_; simp only [zz, simprocAttr, -Int.reduceNatCast', -Int.reduceToNat, encPat]; refine PCalls.eqto (Pattern_spec p hp) ?_ <;> (refine Z _ _ ?_; clear Z Y))
  all_goals refine S.one @encPat.eq_1 ?_
  all_goals (refine S.nil ?_; simp only [ze, simprocAttr, encPat]; apply_assumption)
  all_goals refine AW.sr trivial ?_
  refine AW.cond (b := patErr p != 0) (by simp [ev]) (fun hb => ?_) (fun hb => ?_)
  ·have hb : patErr p ≠ 0 := by simpa using hb
   refine AW.sr trivial ?_
   refine AW.ret ?_
   simp only [zs, simprocAttr]
   rw [allOut, if_neg hb]
   exact NodeR_nil _
  ·have hb : patErr p = 0 := by simpa using hb
   refine AW.skip ?_
   simp only [zs, simprocAttr]
   all_goals ((try and_intros) <;> first | rfl | assumption | (exact hb))
 rintro s σ ⟨rfl, e1, e2, l2, hpe⟩
 have l2' := l2
 rw [encPat] at l2'
 have hwi := within_in hpe
 refine AW.seq_k fun K5 h5 => ?_
 all_goals refine AW.reg0 ?_
 all_goals iterate 3 refine S.one (J5 e1 e2 l2' hE @nd) ?_
 all_goals have q1q := J5 e1 e2 l2' hE @nd
 all_goals (refine S.g rfl rfl fun Y Z => ?_; simp only [zz, simprocAttr, -Int.reduceNatCast', -Int.reduceToNat, q1q]; (refine ACalls.to hnode ?_; rintro _ σ1 ⟨u, rfl, hown, hok, hlen⟩) <;> (refine Z _ _ ?_; clear Z Y))
 all_goals iterate 5 refine S.one q1q ?_
 all_goals (refine S.nil ?_; simp only [ze, simprocAttr, q1q]; apply_assumption)
 refine AW.gen (fun s' => s'.t 2 = .lp 2 0 ∧ s'.l 2 = some (encPat p) ∧ s'.t 7 = u ∧ s'.t 8 = .c (.int .i64 e)) ?_ ?_
 ·simp only [zs, simprocAttr, e2, l2, encPat]
  all_goals ((try and_intros) <;> first | rfl | assumption | (rfl))
 rintro s ⟨e2, l2, e7, e8⟩
 refine AW.seq_k fun K6 h6 => ?_
 all_goals refine AW.sr e8 ?_
 refine AW.cond (b := e != 0) (by simp [ev]) (fun hb => ?_) (fun hb => ?_)
 ·have hb : e ≠ 0 := by simpa using hb
  refine AW.bare ?_
  refine AW.sr e8 ?_
  refine AW.ret ?_
  simp only [zs, simprocAttr]
  rw [allOut, if_pos hpe, if_neg hb]
  exact NodeR_nil _
 have hb : e = 0 := by simpa using hb
 subst hb
 refine AW.skip ?_
 all_goals simp only [zs, simprocAttr]
 all_goals apply_assumption
 refine AW.gen (fun s' => s'.t 2 = .lp 2 0 ∧ s'.l 2 = some (encPat p) ∧ s'.t 7 = u) ?_ ?_
 ·simp only [zs, simprocAttr, e2, l2, e7]
  all_goals ((try and_intros) <;> first | rfl | assumption | (rfl))
 rintro s ⟨e2, l2, e7⟩
 refine AW.hushBox l2 (by simp [encPat]) ?_
 have hku : bxV 2 (encPat p) u = u := by rcases hown with ⟨rfl, _⟩ | ⟨k, rfl, _⟩ <;> rfl
 have f2 : (s.bx 2 (encPat p)).t 2 = cap (encPat p) := by simp [e2, bxV, cap]
 have f7 : (s.bx 2 (encPat p)).t 7 = u := by simp [e7, hku]
 generalize s.bx 2 (encPat p) = s at *
 have hR : allOut p (l, 0) = (l.filter (matchB p), 0) := by rw [allOut, if_pos hpe, if_pos rfl]
 have hok : ∀ q ∈ l, okQ q := hok
 have hlen : l.length ≤ 4096 := hlen
 rcases hown with ⟨rfl, hl0, rfl⟩ | ⟨k, rfl, hk0, rfl⟩
 ·have hl0 : l = [] := hl0
  have hdel : ACalls Tryz.prog 53 [.sl [], .fn (.func 54) [] [cap (encPat p)]] Hp.empty (fun v σ' => v = .sl [] ∧ σ' = Hp.empty) := (deleteNil_spec (cap_wk _) (cap_ok _)).to fun v h => ⟨h, rfl⟩
  refine AW.seq_k fun K9 h9 => ?_
  refine AW.reg0 ?_
  iterate 2 refine S.one (J3 f2 f7 @cap_ok) ?_
  have q2q := J3 f2 f7 @cap_ok
  (refine S.g rfl rfl fun Y Z => ?_; simp only [zz, simprocAttr, -Int.reduceNatCast', -Int.reduceToNat, q2q]; (first | (refine ACalls.to hdel ?_; rintro _ _ ⟨rfl, rfl⟩) | (refine ACalls.to hdel ?_; rintro _ _ ⟨kr, rfl, rfl⟩)) <;> (refine Z _ _ ?_; clear Z Y))
  all_goals iterate 2 refine S.one q2q ?_
  all_goals (refine S.nil ?_; simp only [ze, simprocAttr, q2q]; apply_assumption)
  refine AW.ret ?_
  all_goals simp only [zs, simprocAttr]
  rw [hR, hl0]
  exact NodeR_nil _
 ·have hdel := delete_spec (p := fun q => !matchB p q) k l (by omega) (cap_wk (encPat p)) (cap_ok _) (fun _ _ => rfl) (fun _ => rfl) (fun q hq => nothold_spec p hp hwi q (hok q hq))
  simp only [Bool.not_not] at hdel
  refine AW.seq_k fun K10 h10 => ?_
  refine AW.reg0 ?_
  iterate 2 refine S.one (J3 f2 f7 @cap_ok) ?_
  have q3q := J3 f2 f7 @cap_ok
  (refine S.g rfl rfl fun Y Z => ?_; simp only [zz, simprocAttr, -Int.reduceNatCast', -Int.reduceToNat, q3q]; (first | (refine ACalls.to hdel ?_; rintro _ _ ⟨rfl, rfl⟩) | (refine ACalls.to hdel ?_; rintro _ _ ⟨kr, rfl, rfl⟩)) <;> (refine Z _ _ ?_; clear Z Y))
  all_goals iterate 2 refine S.one q3q ?_
  all_goals (refine S.nil ?_; simp only [ze, simprocAttr, q3q]; apply_assumption)
  refine AW.ret ?_
  all_goals simp only [zs, simprocAttr]
  rw [hR]
  exact ⟨.gl kr, rfl, .inr ⟨kr, rfl, rfl, rfl⟩, (fun q hq => hok q (List.mem_filter.1 hq).1), Nat.le_trans (List.length_filter_le _ _) hlen⟩
theorem apart_of {p : List Bd} (hp : partErr p = 0) : apartB p = true := by
 have hs := ((part_iff p).1 hp).2.2
 rw [List.pairwise_iff_getElem] at hs
 rw [apartB, List.all_eq_true]
 intro i hi
 have hi := List.mem_range.1 hi
 rw [apartAt, List.all_eq_true]
 intro j hj
 have hj := List.mem_range.1 hj
 have hjl : j < p.length := by omega
 have h := (hs j i hjl hi hj).2
 rw [List.getD_eq_getElem?_getD, List.getD_eq_getElem?_getD, List.getElem?_eq_getElem hi, List.getElem?_eq_getElem hjl]
 simp only [Option.getD_some, Bool.not_eq_true', sameId, Bool.and_eq_false_iff, beq_eq_false_iff_ne, ne_eq]
 by_cases h1 : p[i].ev.src = p[j].ev.src
 ·exact .inr fun h2 => h (by rw [idOf, idOf, h1, h2])
 ·exact .inl h1
theorem begin_nn {p : List Bd} (hp : partErr p = 0) : 0 ≤ beginOf p := by
  cases p with
  | nil => exact Int.le_refl 0
  | cons x r =>
    have h := minL_mem x.ev.time (r.map (·.ev.time))
    rw [show x.ev.time :: r.map (·.ev.time) = (x :: r).map (·.ev.time) from rfl] at h
    obtain ⟨b, hb, e⟩ := List.mem_map.1 h
    have h1 := (time_of (((part_iff _).1 hp).2.1 b hb).2).1
    show 0 ≤ minL x.ev.time (r.map (·.ev.time))
    rw [← e]; exact h1
theorem kids_same {two : Bool} {p : List Bd} (hp : partErr p = 0) : ∀ (ks : List Nd), (∀ x ∈ ks, ∀ q : List Bd, partErr q = 0 → x.fitsP q = x.fits q) → ∀ (prev : Option (List Bd)) (last : Int) (s : Nat), (last = match prev with | none => -1 | some y => endOf y) →
    kidsFitP two p last s (ks.map fitOfP) = kidsFit two p prev s (ks.map fitOf)
  | [], _, prev, last, s, _ => by simp [kidsFitP, kidsFit]
  | x :: ks, ih, prev, last, s, hl => by
    have hq := part_of hp x.vars
    have hf := ih x List.mem_cons_self _ hq
    rw [List.map_cons, List.map_cons, fitOfP, fitOf, kidsFitP, kidsFit, hf]
    have hc : decide (beginOf (ofB p x.vars) ≤ last) = prev.any (fun y => decide (beginOf (ofB p x.vars) ≤ endOf y)) := by
      subst hl
      cases prev with
      | none => have := begin_nn hq; simp; omega
      | some y => simp
    rw [hc, kids_same hp ks (fun y hy => ih y (List.mem_cons_of_mem _ hy)) (some (ofB p x.vars)) (endOf (ofB p x.vars)) _ rfl]
theorem Nd.fitsP_same : ∀ (n : Nd) (p : List Bd), partErr p = 0 → n.fitsP p = n.fits p := Nd.ind fun n ih p hp => by
 rw [Nd.fitsP_eq, Nd.fits_eq]
 split
 ·rfl
 ·split
  ·have : ∀ ks : List Nd, (∀ x ∈ ks, x.fitsP p = x.fits p) → ks.any (fun x => x.fitsP p) = ks.any (fun x => x.fits p) := fun ks => by
    induction ks with
    | nil => intro _; rfl
    | cons x ks ihk => intro h; rw [List.any_cons, List.any_cons, h x List.mem_cons_self, ihk fun y hy => h y (List.mem_cons_of_mem _ hy)]
   exact this n.kids fun x hx => ih x hx p hp
  ·rw [kids_same hp n.kids ih none (-1) 0 rfl]
   cases kidsFit (decide (n.kind = 2)) p none 0 (n.kids.map fitOf) with
   | none => rfl
   | some s => simp [allFitP, allFit, apart_of hp]
theorem Nd.FitsP_same (n : Nd) (p : List Bd) : n.FitsP p = n.Fits p := by
 rw [Nd.FitsP, Nd.Fits]
 by_cases hp : partErr p = 0
 ·rw [n.fitsP_same p hp]
 ·rw [decide_eq_false hp, Bool.and_false, Bool.false_and, Bool.false_and]
theorem isP_same (p : Pat) (l : List Bd) : isP p l = isB p l := by
 rw [isP, isB, p.node.FitsP_same l, holdB, Bool.and_assoc, Bool.and_assoc, Bool.and_assoc]
theorem putP_ge (l : List (List Bd)) (p : List Bd) : l.length ≤ (putP l p).length := by
 have := idxP_le l p l.length
 unfold putP
 split
 ·exact Nat.le_refl _
 ·simp; omega
theorem puts_ge (l : List (List Bd)) : ∀ a : List (List Bd), a.length ≤ (l.foldl putP a).length := by
 induction l with
 | nil => intro a; exact Nat.le_refl _
 | cons x l ih => intro a; exact Nat.le_trans (putP_ge a x) (ih _)
theorem rowR_fold (two : Bool) (p : List Bd) : ∀ (b : List (List Bd)) (out : List (List Bd)), rowR two p out b = (rowL two b p).foldl putP out
  | [], out => rfl
  | q :: b, out => by
    rw [rowR, rowL, List.filterMap_cons]
    cases hl : late two p q
    · rw [if_neg Bool.false_ne_true, if_neg Bool.false_ne_true]
      cases hm : mg p q with
      | none => exact rowR_fold two p b out
      | some m => exact rowR_fold two p b (putP out m)
    · rw [if_pos rfl, if_pos rfl]; exact rowR_fold two p b out
theorem joinR_fold (two : Bool) (b : List (List Bd)) : ∀ (a out : List (List Bd)), joinR two b out a = (pairsL two a b).foldl putP out ∨ (4096 < (joinR two b out a).length ∧ 4096 < ((pairsL two a b).foldl putP out).length)
  | [], out => .inl rfl
  | p :: a, out => by
    have e : pairsL two (p :: a) b = rowL two b p ++ pairsL two a b := by rw [pairsL, List.flatMap_cons]; rfl
    rw [joinR, rowR_fold, e, List.foldl_append]
    split
    · rename_i h
      exact .inr ⟨h, Nat.lt_of_lt_of_le h (puts_ge _ _)⟩
    · exact joinR_fold two b a _
theorem leafGo_fold (n : Nd) : ∀ (evs : List Ev) (out : List (List Bd)), leafGo n out evs = (leafL n evs).foldl putP out
  | [], out => rfl
  | e :: r, out => by
    rw [leafGo, leafGo_fold n r, leafL, leafL, List.filter_cons]
    cases termB n e <;> rfl
theorem rowL_from {evs : List Ev} {two : Bool} {b : List (List Bd)} {p : List Bd} (hb : ∀ q ∈ b, From evs q) (hp : From evs p) : ∀ m ∈ rowL two b p, From evs m := by
 intro m hm
 obtain ⟨q, hq, h⟩ := List.mem_filterMap.1 hm
 split at h
 ·cases h
 ·obtain ⟨_, _, _, _, h5⟩ := ofB_mrg h []
  intro b hb'
  rcases List.mem_append.1 (h5.subset hb') with h | h
  ·exact hp b h
  ·exact hb q hq b h
theorem pairsL_from {evs : List Ev} {two : Bool} {a b : List (List Bd)} (ha : ∀ q ∈ a, From evs q) (hb : ∀ q ∈ b, From evs q) : ∀ m ∈ pairsL two a b, From evs m := by
 intro m hm
 obtain ⟨p, hp, h⟩ := List.mem_flatMap.1 hm
 exact rowL_from hb (ha p hp) m h
theorem leafL_from (n : Nd) (evs : List Ev) : ∀ p ∈ leafL n evs, From evs p := by
 intro p hp
 obtain ⟨e, he, rfl⟩ := List.mem_map.1 hp
 intro b hb
 rw [List.mem_singleton.1 hb]; exact (List.mem_filter.1 he).1
theorem norm_from {evs : List Ev} (hd : Dist evs) {l : List (List Bd)} (h : ∀ p ∈ l, From evs p) : ∀ p ∈ norm l, From evs p := fun p hp => h p ((norm_mem (from_apt hd) h p).1 hp)
structure Good (evs : List Ev) (l : List (List Bd)) : Prop where
  of : ∀ p ∈ l, From evs p
  srt : SrtL l
theorem Good.norm {evs : List Ev} (hd : Dist evs) {l : List (List Bd)} (h : ∀ p ∈ l, From evs p) : Good evs (norm l) := ⟨norm_from hd h, norm_srt l⟩
theorem step_from {evs : List Ev} {kind : Int} {a l : List (List Bd)} (ha : ∀ p ∈ a, From evs p) (hl : ∀ p ∈ l, From evs p) : ∀ p ∈ stepL kind a l, From evs p := by
 unfold stepL
 split
 ·intro p hp; exact (List.mem_append.1 hp).elim (ha p) (hl p)
 ·exact pairsL_from ha hl
theorem stepR_norm {evs : List Ev} (hd : Dist evs) {kind : Int} {a l : List (List Bd)} (ha : Good evs a) (hl : Good evs l) :
  stepR kind (some a) l = norm (stepL kind a l) ∨ (4096 < (stepR kind (some a) l).length ∧ 4096 < (norm (stepL kind a l)).length) := by
 have hS := from_apt hd
 rw [stepR, stepL]
 split
 ·left
  rw [putsP_add hS l ha.of hl.of ha.srt, adds_norm hS ha.of hl.of ha.srt]
 ·have e : (pairsL (decide (kind = 2)) a l).foldl putP [] = norm (pairsL (decide (kind = 2)) a l) := putsP_add hS _ (fun _ h => by cases h) (pairsL_from ha.of hl.of) srt_nil
  have := joinR_fold (decide (kind = 2)) l a []
  rw [e] at this
  exact this
theorem refGo_den {evs : List Ev} (hd : Dist evs) {kind : Int} : ∀ (r : List (Option (List (List Bd)))) (acc : Option (List (List Bd))), (∀ a, acc = some a → Good evs a) → (∀ k ∈ r, ∀ a, k = some a → Good evs a) → refGo kind acc r = denGo kind acc r ∧ ∀ l, denGo kind acc r = some l → Good evs l
  | [], acc, ha, _ => by
    have e : ∀ a, refGo kind a [] = some (a.getD []) ∧ denGo kind a [] = some (a.getD []) := fun a => by cases a <;> exact ⟨rfl, rfl⟩
    rw [(e acc).1, (e acc).2]
    refine ⟨rfl, fun l h => ?_⟩
    injection h with h
    subst h
    cases acc with
    | none => exact ⟨(fun _ h => by cases h), srt_nil⟩
    | some a => exact ha a rfl
  | none :: r, acc, _, _ => by cases acc <;> exact ⟨rfl, fun l h => by cases h⟩
  | some k :: r, none, ha, hr => by
    have hk := hr (some k) List.mem_cons_self k rfl
    have e1 : refGo kind none (some k :: r) = if 4096 < k.length then none else refGo kind (some k) r := rfl
    have e2 : denGo kind none (some k :: r) = (capL k).bind fun l => denGo kind (some l) r := rfl
    rw [e1, e2, capL]
    split
    · exact ⟨rfl, fun l h => by cases h⟩
    · exact refGo_den hd r (some k) (fun a h => by cases h; exact hk) fun x hx => hr x (List.mem_cons_of_mem _ hx)
  | some k :: r, some a, ha, hr => by
    have hk := hr (some k) List.mem_cons_self k rfl
    have hga := ha a rfl
    have e1 : refGo kind (some a) (some k :: r) = if 4096 < (stepR kind (some a) k).length then none else refGo kind (some (stepR kind (some a) k)) r := rfl
    have e2 : denGo kind (some a) (some k :: r) = (capL (norm (stepL kind a k))).bind fun l => denGo kind (some l) r := rfl
    rw [e1, e2, capL]
    rcases stepR_norm hd (kind := kind) hga hk with h | ⟨h1, h2⟩
    · rw [h]
      split
      · exact ⟨rfl, fun l h => by cases h⟩
      · exact refGo_den hd r _ (fun a h => by cases h; exact Good.norm hd (step_from hga.of hk.of)) fun x hx => hr x (List.mem_cons_of_mem _ hx)
    · rw [if_pos h1, if_pos h2]
      exact ⟨rfl, fun l h => by cases h⟩
theorem Nd.ref_den {evs : List Ev} (hd : Dist evs) : ∀ n : Nd, n.ref evs = n.den evs ∧ ∀ l, n.den evs = some l → Good evs l := Nd.ind fun n ih => by
 rw [Nd.ref_eq, Nd.den_eq]
 split
 ·have e : leafGo n [] evs = norm (leafL n evs) := by
   rw [leafGo_fold]
   exact putsP_add (from_apt hd) _ (fun _ h => by cases h) (leafL_from n evs) srt_nil
  rw [e]
  exact ⟨rfl, fun l h => by cases h; exact Good.norm hd (leafL_from n evs)⟩
 ·have hm : n.kids.map (Nd.ref evs) = n.kids.map (Nd.den evs) := List.map_congr_left fun x hx => (ih x hx).1
  rw [hm]
  refine refGo_den hd _ none (fun a h => by cases h) fun k hk a ha => ?_
  obtain ⟨x, hx, rfl⟩ := List.mem_map.1 hk
  exact (ih x hx).2 a ha
structure PartOf (evs : List Ev) (vs : List ByteArray) (p : List Bd) : Prop where
  err : partErr p = 0
  ne : p ≠ []
  vars : ∀ b ∈ p, b.var ∈ vs
  of : From evs p
theorem PartOf.sub {evs : List Ev} {vs ws : List ByteArray} {p : List Bd} (h : PartOf evs vs p) (hs : ∀ v ∈ vs, v ∈ ws) : PartOf evs ws p := ⟨h.err, h.ne, fun b hb => hs _ (h.vars b hb), h.of⟩
theorem mg_part {evs : List Ev} {vs ws us : List ByteArray} {p q m : List Bd} (hp : PartOf evs vs p) (hq : PartOf evs ws q) (hv : ∀ v ∈ vs, v ∈ us) (hw : ∀ v ∈ ws, v ∈ us) (hm : mg p q = some m) : PartOf evs us m := by
 obtain ⟨_, h1, _, _, h5⟩ := ofB_mrg hm []
 refine ⟨h1, fun e => ?_, fun b hb => ?_, fun b hb => ?_⟩
 ·rw [e] at h5
  exact hp.ne (List.append_eq_nil_iff.1 (List.nil_perm.1 h5)).1
 ·exact (List.mem_append.1 (h5.subset hb)).elim (fun h => hv _ (hp.vars b h)) fun h => hw _ (hq.vars b h)
 ·exact (List.mem_append.1 (h5.subset hb)).elim (hp.of b) (hq.of b)
theorem norm_ge (l : List (List Bd)) : ∀ a : List (List Bd), a.length ≤ (l.foldl addP a).length := by
  induction l with
  | nil => intro a; exact Nat.le_refl _
  | cons x l ih =>
    intro a
    refine Nat.le_trans ?_ (ih (addP a x))
    unfold addP
    split
    · exact Nat.le_refl _
    · rw [insL'_at]; simp; omega
theorem norm_app_ge (a l : List (List Bd)) : (norm a).length ≤ (norm (a ++ l)).length := by
 rw [norm, norm, List.foldl_append]; exact norm_ge l _
theorem norm_part {evs : List Ev} (hd : Dist evs) {vs : List ByteArray} {l : List (List Bd)} (h : ∀ p ∈ l, PartOf evs vs p) : ∀ p ∈ norm l, PartOf evs vs p := fun p hp => h p ((norm_mem (from_apt hd) (fun y hy => (h y hy).of) p).1 hp)
theorem capL_some {l m : List (List Bd)} (h : capL l = some m) : m = l ∧ l.length ≤ 4096 := by
 unfold capL at h
 split at h
 ·cases h
 ·injection h with h; exact ⟨h.symm, by omega⟩
theorem or_same {evs : List Ev} (hd : Dist evs) : ∀ (r : List (Option (List (List Bd)))) (a : List (List Bd)), Good evs a → a.length ≤ 4096 → (∀ k ∈ r, ∀ l, k = some l → Good evs l) →
    denGo 4 (some a) r = (allO r).bind fun l => capL (norm (a ++ l))
  | [], a, ha, hl, _ => by
    show some a = capL (norm (a ++ []))
    rw [List.append_nil, norm_id (from_apt hd) ha.of ha.srt, capL, if_neg (by omega)]
  | none :: r, a, _, _, _ => rfl
  | some l :: r, a, ha, hl, hr => by
    have hk := hr (some l) List.mem_cons_self l rfl
    have e : denGo 4 (some a) (some l :: r) = (capL (norm (a ++ l))).bind fun m => denGo 4 (some m) r := rfl
    have hf : ∀ p ∈ a ++ l, From evs p := fun p hp => (List.mem_append.1 hp).elim (ha.of p) (hk.of p)
    have e2 : allO (some l :: r) = (allO r).map (l ++ ·) := rfl
    rw [e, e2, capL]
    split
    · rename_i h
      cases hA : allO r with
      | none => rfl
      | some m =>
        show none = capL (norm (a ++ (l ++ m)))
        have := norm_app_ge (a ++ l) m
        rw [List.append_assoc] at this
        rw [capL, if_pos (by omega)]
    · rename_i h
      rw [Option.bind_some, or_same hd r _ (Good.norm hd hf) (by omega) fun k hk => hr k (List.mem_cons_of_mem _ hk)]
      cases hA : allO r with
      | none => rfl
      | some m =>
        show capL (norm (norm (a ++ l) ++ m)) = capL (norm (a ++ (l ++ m)))
        congr 1
        have hm : ∀ p ∈ m, From evs p := by
          have hall : ∀ (r : List (Option (List (List Bd)))) (m : List (List Bd)), (∀ k ∈ r, ∀ l, k = some l → Good evs l) → allO r = some m → ∀ p ∈ m, From evs p := by
            intro r
            induction r with
            | nil => intro m _ h; cases h; intro p hp; cases hp
            | cons k r ih =>
              intro m hr h
              cases k with
              | none => cases h
              | some l =>
                cases hA : allO r with
                | none => rw [show allO (some l :: r) = (allO r).map (l ++ ·) from rfl, hA] at h; cases h
                | some m' =>
                  rw [show allO (some l :: r) = (allO r).map (l ++ ·) from rfl, hA] at h
                  cases h
                  intro p hp
                  rcases List.mem_append.1 hp with hp | hp
                  · exact (hr _ List.mem_cons_self l rfl).of p hp
                  · exact ih m' (fun k hk => hr k (List.mem_cons_of_mem _ hk)) hA p hp
          exact hall r m (fun k hk => hr k (List.mem_cons_of_mem _ hk)) hA
        refine norm_ext (from_apt hd) (fun p hp => (List.mem_append.1 hp).elim (norm_from hd hf p) (hm p)) (fun p hp => (List.mem_append.1 hp).elim (ha.of p) fun h => (List.mem_append.1 h).elim (hk.of p) (hm p)) fun p => ?_
        rw [List.mem_append, norm_mem (from_apt hd) hf, List.mem_append, List.mem_append, List.mem_append, or_assoc]
theorem orP_den {evs : List Ev} (hd : Dist evs) (r : List (Option (List (List Bd)))) (hr : ∀ k ∈ r, ∀ l, k = some l → Good evs l) : orP r = denGo 4 none r := by
  match r, hr with
  | [], _ => rfl
  | none :: r, _ => rfl
  | some l :: r, hr =>
    have hk := hr (some l) List.mem_cons_self l rfl
    have e : denGo 4 none (some l :: r) = (capL l).bind fun m => denGo 4 (some m) r := rfl
    have e2 : orP (some l :: r) = ((allO r).map (l ++ ·)).bind fun m => capL (norm m) := rfl
    rw [e, e2, capL]
    split
    · rename_i h
      cases allO r with
      | none => rfl
      | some m =>
        show capL (norm (l ++ m)) = none
        have := norm_app_ge l m
        rw [norm_id (from_apt hd) hk.of hk.srt] at this
        rw [capL, if_pos (by omega)]
    · rename_i h
      rw [Option.bind_some, or_same hd r l hk (by omega) fun k hk => hr k (List.mem_cons_of_mem _ hk)]
      cases allO r <;> rfl
structure Ends (vs : List ByteArray) (p : List Bd) : Prop where
  ne : ofB p vs ≠ []
  last : ∀ b ∈ p, b.ev.time ≤ endOf (ofB p vs)
theorem Ends.same {vs : List ByteArray} {p : List Bd} (h : Ends vs p) : endOf p = endOf (ofB p vs) := end_eq h.ne (fun b hb => (List.mem_filter.1 hb).1) h.last
theorem ends_all {evs : List Ev} {vs : List ByteArray} {p : List Bd} (h : PartOf evs vs p) : Ends vs p := by
 have e : ofB p vs = p := ofB_all h.vars
 exact ⟨by rw [e]; exact h.ne, fun b hb => by rw [e]; exact le_end hb⟩
theorem begin_le_endQ {q : List Bd} (h : q ≠ []) : beginOf q ≤ endOf q := by
 cases q with
 | nil => exact absurd rfl h
 | cons b r => exact Int.le_trans (begin_le List.mem_cons_self) (le_end List.mem_cons_self)
theorem ends_mg {evs : List Ev} {vs ws : List ByteArray} {p q m : List Bd} (hp : PartOf evs vs p) (hq : PartOf evs ws q) (hd : ∀ v ∈ ws, v ∉ vs) (hm : mg p q = some m) (hl : endOf p < beginOf q) : Ends ws m := by
 have e : ofB m ws = q := ofB_right hm (fun b hb h => hd _ h (hp.vars b hb)) hq.vars
 obtain ⟨_, _, _, _, h5⟩ := ofB_mrg hm []
 have hbe := begin_le_endQ hq.ne
 refine ⟨by rw [e]; exact hq.ne, fun b hb => ?_⟩
 rw [e]
 rcases List.mem_append.1 (h5.subset hb) with h | h
 ·have := le_end h; omega
 ·exact le_end h
theorem rowP_same {two : Bool} {vs : List ByteArray} {b : List (List Bd)} {p : List Bd} (h : two = true → Ends vs p) : rowP two vs b p = rowL two b p := by
 unfold rowP rowL late
 cases two with
 | false => rfl
 | true => rw [(h rfl).same]
theorem pairsP_same {two : Bool} {vs : List ByteArray} {a b : List (List Bd)} (h : ∀ p ∈ a, two = true → Ends vs p) : pairsP two vs a b = pairsL two a b := by
  induction a with
  | nil => rfl
  | cons p a ih =>
    have h1 := rowP_same (b := b) (h p List.mem_cons_self)
    have h2 := ih fun q hq => h q (List.mem_cons_of_mem _ hq)
    unfold pairsP pairsL at *
    rw [List.flatMap_cons, List.flatMap_cons, h1, h2]
structure KidOk (evs : List Ev) (n : Nd) : Prop where
  same : n.denP evs = n.den evs
  part : ∀ l, n.den evs = some l → l.length ≤ 4096 ∧ ∀ p ∈ l, PartOf evs n.vars p
theorem pairs_part {evs : List Ev} {two : Bool} {vs ws us : List ByteArray} {a b : List (List Bd)} (ha : ∀ p ∈ a, PartOf evs vs p) (hb : ∀ q ∈ b, PartOf evs ws q) (hv : ∀ v ∈ vs, v ∈ us) (hw : ∀ v ∈ ws, v ∈ us) (hd : ∀ v ∈ ws, v ∉ vs) : ∀ m ∈ pairsL two a b, PartOf evs us m ∧ (two = true → Ends ws m) := by
 intro m hm
 obtain ⟨p, hp, h⟩ := List.mem_flatMap.1 hm
 obtain ⟨q, hq, h⟩ := List.mem_filterMap.1 h
 split at h
 ·cases h
 ·rename_i hl
  refine ⟨mg_part (ha p hp) (hb q hq) hv hw h, fun ht => ends_mg (ha p hp) (hb q hq) hd h ?_⟩
  subst ht
  simp only [late, Bool.true_and, decide_eq_true_eq] at hl
  omega
theorem join_same {evs : List Ev} (hd : Dist evs) {kind : Int} (hk : kind ≠ 4) : ∀ (ks : List Nd) (a : List (List Bd)) (us vs : List ByteArray), (∀ x ∈ ks, KidOk evs x) → (∀ x ∈ ks, ∀ v ∈ x.vars, v ∉ us) → Apart ks → a.length ≤ 4096 → (∀ p ∈ a, PartOf evs us p ∧ (decide (kind = 2) = true → Ends vs p)) →
    joinP (decide (kind = 2)) (some (a, vs)) (ks.map (denOf evs)) = denGo kind (some a) (ks.map (Nd.den evs)) ∧ ∀ l, denGo kind (some a) (ks.map (Nd.den evs)) = some l → l.length ≤ 4096 ∧ ∀ p ∈ l, PartOf evs (us ++ (ks.map Nd.vars).flatten) p
  | [], a, us, vs, _, _, _, hal, ha => ⟨rfl, fun l h => by cases h; exact ⟨hal, fun p hp => (ha p hp).1.sub fun v hv => List.mem_append_left _ hv⟩⟩
  | x :: ks, a, us, vs, hks, hno, hap, hal, ha => by
    have hx := hks x List.mem_cons_self
    rw [List.map_cons, List.map_cons, denOf, hx.same]
    cases hxd : x.den evs with
    | none => exact ⟨rfl, fun l h => by cases h⟩
    | some l =>
      obtain ⟨hll, hlp⟩ := hx.part l hxd
      have hxno := hno x List.mem_cons_self
      have e1 : joinP (decide (kind = 2)) (some (a, vs)) ((some l, x.vars) :: ks.map (denOf evs)) = (capL (norm (pairsP (decide (kind = 2)) vs a l))).bind fun m => joinP (decide (kind = 2)) (some (m, x.vars)) (ks.map (denOf evs)) := rfl
      have e2 : denGo kind (some a) (some l :: ks.map (Nd.den evs)) = (capL (norm (stepL kind a l))).bind fun m => denGo kind (some m) (ks.map (Nd.den evs)) := rfl
      rw [e1, e2, stepL, if_neg hk, pairsP_same fun p hp => (ha p hp).2]
      have hP := pairs_part (two := decide (kind = 2)) (us := us ++ x.vars) (fun p hp => (ha p hp).1) hlp (fun v hv => List.mem_append_left _ hv) (fun v hv => List.mem_append_right _ hv) hxno
      cases hc : capL (norm (pairsL (decide (kind = 2)) a l)) with
      | none => exact ⟨rfl, fun l h => by cases h⟩
      | some m =>
        obtain ⟨rfl, hml⟩ := capL_some hc
        rw [Option.bind_some, Option.bind_some]
        obtain ⟨hap1, hap2⟩ := List.pairwise_cons.1 hap
        have hnm := fun p hp => hP p ((norm_mem (from_apt hd) (fun y hy => (hP y hy).1.of) p).1 hp)
        obtain ⟨i1, i2⟩ := join_same hd hk ks (norm (pairsL (decide (kind = 2)) a l)) (us ++ x.vars) x.vars (fun y hy => hks y (List.mem_cons_of_mem _ hy)) (fun y hy v hv h => (List.mem_append.1 h).elim (hno y (List.mem_cons_of_mem _ hy) v hv) (hap1 y hy v hv)) hap2 hml hnm
        refine ⟨i1, fun l' h => ?_⟩
        obtain ⟨j1, j2⟩ := i2 l' h
        refine ⟨j1, fun p hp => (j2 p hp).sub fun v hv => ?_⟩
        simpa [List.append_assoc] using hv
theorem go_part {evs : List Ev} (hd : Dist evs) {us : List ByteArray} : ∀ (r : List (Option (List (List Bd)))) (a : List (List Bd)), a.length ≤ 4096 → (∀ p ∈ a, PartOf evs us p) → (∀ k ∈ r, ∀ l, k = some l → ∀ p ∈ l, PartOf evs us p) → ∀ l, denGo 4 (some a) r = some l → l.length ≤ 4096 ∧ ∀ p ∈ l, PartOf evs us p
  | [], a, hl, ha, _, l, h => by cases h; exact ⟨hl, ha⟩
  | none :: r, a, _, _, _, l, h => by cases h
  | some k :: r, a, hl, ha, hr, l, h => by
    have e : denGo 4 (some a) (some k :: r) = (capL (norm (a ++ k))).bind fun m => denGo 4 (some m) r := rfl
    rw [e] at h
    cases hc : capL (norm (a ++ k)) with
    | none => rw [hc] at h; cases h
    | some m =>
      rw [hc] at h
      obtain ⟨rfl, hml⟩ := capL_some hc
      exact go_part hd r _ hml (norm_part hd fun p hp => (List.mem_append.1 hp).elim (ha p) (hr (some k) List.mem_cons_self k rfl p)) (fun k hk => hr k (List.mem_cons_of_mem _ hk)) l h
theorem Nd.vars_kid {n x : Nd} (hx : x ∈ n.kids) : ∀ v ∈ x.vars, v ∈ n.vars := fun v hv => (n.vars_mem v).2 (.inr ⟨x, hx, hv⟩)
theorem Nd.kid_ok {evs : List Ev} (hd : Dist evs) (hl : evs.length ≤ 64) (hv : ∀ e ∈ evs, evErr e = 0) : ∀ n : Nd, n.fine → KidOk evs n := Nd.ind fun n ih hf => by
  have hks : ∀ x ∈ n.kids, KidOk evs x := fun x hx => ih x hx (hf.kid hx)
  have hmap : n.kids.map (Nd.denP evs) = n.kids.map (Nd.den evs) := List.map_congr_left fun x hx => (hks x hx).same
  by_cases hk : n.kind = 1
  · have hn := leaf_name hf.err hk
    have e1 : n.denP evs = some (norm (leafL n evs)) := by rw [Nd.denP_eq, if_pos hk]
    have e2 : n.den evs = some (norm (leafL n evs)) := by rw [Nd.den_eq, if_pos hk]
    refine ⟨by rw [e1, e2], fun l h => ?_⟩
    rw [e2] at h
    cases h
    refine ⟨Nat.le_trans (norm_len _) (Nat.le_trans (leafL_len n evs) (by omega)), norm_part hd fun p hp => ?_⟩
    obtain ⟨e, he, rfl⟩ := List.mem_map.1 hp
    have he := (List.mem_filter.1 he).1
    refine ⟨leaf_part hn (hv e he), List.cons_ne_nil _ _, fun b hb => ?_, fun b hb => ?_⟩
    · rw [List.mem_singleton.1 hb]; exact (n.vars_mem _).2 (.inl ⟨name_size hn, rfl⟩)
    · rw [List.mem_singleton.1 hb]; exact he
  · obtain ⟨hkk, hk2, _⟩ := hf.join hk
    by_cases h4 : n.kind = 4
    · have e2 : n.den evs = denGo 4 none (n.kids.map (Nd.den evs)) := by rw [Nd.den_eq, if_neg hk, h4]
      refine ⟨?_, ?_⟩
      · rw [Nd.denP_eq, if_neg hk, if_pos h4, e2, hmap]
        refine orP_den hd _ fun k hk l hl => ?_
        obtain ⟨x, hx, rfl⟩ := List.mem_map.1 hk
        exact (Nd.ref_den hd x).2 l hl
      · intro l h
        rw [e2] at h
        cases hkd : n.kids with
        | nil => rw [hkd] at hk2; simp at hk2
        | cons x ks =>
          have hxm : x ∈ n.kids := by rw [hkd]; exact List.mem_cons_self
          rw [hkd, List.map_cons] at h
          cases hxd : x.den evs with
          | none => rw [hxd] at h; cases h
          | some k =>
            rw [hxd] at h
            obtain ⟨h1, h2⟩ := (hks x hxm).part k hxd
            have e : denGo 4 none (some k :: ks.map (Nd.den evs)) = (capL k).bind fun m => denGo 4 (some m) (ks.map (Nd.den evs)) := rfl
            rw [e, capL, if_neg (by omega), Option.bind_some] at h
            refine go_part hd _ k h1 (fun p hp => (h2 p hp).sub (Nd.vars_kid hxm)) (fun r hr l' hl' p hp => ?_) l h
            obtain ⟨y, hy, rfl⟩ := List.mem_map.1 hr
            have hym : y ∈ n.kids := by rw [hkd]; exact List.mem_cons_of_mem _ hy
            exact (((hks y hym).part l' hl').2 p hp).sub (Nd.vars_kid hym)
    · have hkj : n.kind = 2 ∨ n.kind = 3 := by
        rcases hkk with h | h | h
        · exact .inl h
        · exact .inr h
        · exact absurd h h4
      have hap := Nd.binds_apart hf.binds hkj
      have e2 : n.den evs = denGo n.kind none (n.kids.map (Nd.den evs)) := by rw [Nd.den_eq, if_neg hk]
      have e1 : n.denP evs = joinP (decide (n.kind = 2)) none (n.kids.map (denOf evs)) := by rw [Nd.denP_eq, if_neg hk, if_neg h4]
      cases hkd : n.kids with
      | nil => rw [hkd] at hk2; simp at hk2
      | cons x ks =>
        have hxm : x ∈ n.kids := by rw [hkd]; exact List.mem_cons_self
        rw [hkd, List.map_cons] at e1 e2
        rw [hkd] at hap
        obtain ⟨hap1, hap2⟩ := List.pairwise_cons.1 hap
        rw [denOf, (hks x hxm).same] at e1
        cases hxd : x.den evs with
        | none =>
          rw [hxd] at e1 e2
          exact ⟨e1.trans e2.symm, fun l h => by rw [e2] at h; cases h⟩
        | some k =>
          rw [hxd] at e1 e2
          obtain ⟨h1, h2⟩ := (hks x hxm).part k hxd
          have e3 : denGo n.kind none (some k :: ks.map (Nd.den evs)) = (capL k).bind fun m => denGo n.kind (some m) (ks.map (Nd.den evs)) := rfl
          rw [e3, capL, if_neg (by omega), Option.bind_some] at e2
          obtain ⟨j1, j2⟩ := join_same hd h4 ks k x.vars x.vars (fun y hy => hks y (by rw [hkd]; exact List.mem_cons_of_mem _ hy)) hap1 hap2 h1 fun p hp => ⟨h2 p hp, fun _ => ends_all (h2 p hp)⟩
          refine ⟨e1.trans (j1.trans e2.symm), fun l h => ?_⟩
          rw [e2] at h
          obtain ⟨i1, i2⟩ := j2 l h
          refine ⟨i1, fun p hp => (i2 p hp).sub fun v hv => ?_⟩
          rcases List.mem_append.1 hv with hv | hv
          · exact Nd.vars_kid hxm v hv
          · obtain ⟨w, hw, hv⟩ := List.mem_flatten.1 hv
            obtain ⟨y, hy, rfl⟩ := List.mem_map.1 hw
            exact Nd.vars_kid (by rw [hkd]; exact List.mem_cons_of_mem _ hy) v hv
theorem nodeOut_same (n : Nd) (evs : List Ev) : nodeOut n evs (n.denP evs) = nodeOut n evs (n.ref evs) := by
 unfold nodeOut
 split
 ·rename_i h1
  split
  ·rename_i h2
   split
   ·rfl
   ·split
    ·rfl
    ·rename_i h3 h4
     obtain ⟨hz, hd⟩ := evsBad_no (by simpa using h4)
     rw [(Nd.kid_ok hd (by omega) hz n ⟨shape_err h1, h2⟩).same, (Nd.ref_den hd n).1]
  ·rfl
 ·rfl
def sA : ByteArray := ⟨#[65]⟩
def sB : ByteArray := ⟨#[66]⟩
def vA : ByteArray := ⟨#[97]⟩
def vB : ByteArray := ⟨#[98]⟩
def nA : Nd := ⟨1, vA, sA, [], []⟩
def nB : Nd := ⟨1, vB, sB, [], []⟩
def nS : Nd := ⟨2, ⟨#[]⟩, ⟨#[]⟩, [], [nA, nB]⟩
def pL : Pat := ⟨⟨#[112]⟩, 5, nS, []⟩
def ev1 : Ev := ⟨0, 0, 1, sA, []⟩
def ev2 : Ev := ⟨1, 0, 3, sB, []⟩
def ev3 : Ev := ⟨1, 1, 9, sB, []⟩
def evL : List Ev := [ev1, ev2, ev3]
def bA1 : Bd := ⟨vA, ev1⟩
def bB2 : Bd := ⟨vB, ev2⟩
def bB3 : Bd := ⟨vB, ev3⟩
theorem eAA : eqS sA sA = true := eqS_iff.2 rfl
theorem eBB : eqS sB sB = true := eqS_iff.2 rfl
theorem eAB : eqS sA sB = false := by simp [eqS, sA, sB]
theorem eBA : eqS sB sA = false := by simp [eqS, sA, sB]
theorem eba : eqS vB vA = false := by simp [eqS, vA, vB]
theorem lab : leS vA vB = true := by simp [vA, vB, leS_one]
theorem lba : leS vB vA = false := by simp [vA, vB, leS_one]
theorem shL : nS.shape = 0 := by rfl
theorem varsA : nA.vars = [vA] := by rfl
theorem varsB : nB.vars = [vB] := by rfl
theorem biL : nS.binds = 0 := by
 rw [Nd.binds_eq]
 show bindsFrom true [] [(nA.binds, nA.vars), (nB.binds, nB.vars)] = 0
 have h1 : nA.binds = 0 := by rw [Nd.binds_eq]; rfl
 have h2 : nB.binds = 0 := by rw [Nd.binds_eq]; rfl
 rw [h1, h2, varsA, varsB]
 simp [bindsFrom, meets, hasS, eba]
theorem badL : evsBad evL = false := by rfl
theorem tA1 : termB nA ev1 = true := by show (true && eqS sA sA && true) = true; rw [eAA]; rfl
theorem tA2 : ¬ termB nA ev2 = true := by show ¬ (true && eqS sB sA && true) = true; rw [eBA]; simp
theorem tA3 : ¬ termB nA ev3 = true := by show ¬ (true && eqS sB sA && true) = true; rw [eBA]; simp
theorem tB1 : ¬ termB nB ev1 = true := by show ¬ (true && eqS sA sB && true) = true; rw [eAB]; simp
theorem tB2 : termB nB ev2 = true := by show (true && eqS sB sB && true) = true; rw [eBB]; rfl
theorem tB3 : termB nB ev3 = true := by show (true && eqS sB sB && true) = true; rw [eBB]; rfl
theorem lfA : leafL nA evL = [[bA1]] := by
 show List.map _ (List.filter (termB nA) [ev1, ev2, ev3]) = _
 rw [List.filter_cons_of_pos tA1, List.filter_cons_of_neg tA2, List.filter_cons_of_neg tA3]; rfl
theorem lfB : leafL nB evL = [[bB2], [bB3]] := by
 show List.map _ (List.filter (termB nB) [ev1, ev2, ev3]) = _
 rw [List.filter_cons_of_neg tB1, List.filter_cons_of_pos tB2, List.filter_cons_of_pos tB3]; rfl
theorem pA1 : partErr [bA1] = 0 := leaf_part (by rfl) (by rfl)
theorem pB2 : partErr [bB2] = 0 := leaf_part (by rfl) (by rfl)
theorem pB3 : partErr [bB3] = 0 := leaf_part (by rfl) (by rfl)
theorem pAB2 : partErr [bA1, bB2] = 0 := by
 rw [part_iff]
 refine ⟨by simp, ?_, ?_⟩
 ·intro b hb
  simp at hb
  rcases hb with rfl | rfl <;> exact ⟨rfl, rfl⟩
 ·simp [Aft, bA1, bB2, lba, idOf, ev1, ev2]
theorem pAB3 : partErr [bA1, bB3] = 0 := by
 rw [part_iff]
 refine ⟨by simp, ?_, ?_⟩
 ·intro b hb
  simp at hb
  rcases hb with rfl | rfl <;> exact ⟨rfl, rfl⟩
 ·simp [Aft, bA1, bB3, lba, idOf, ev1, ev3]
theorem mgAB2 : mg [bA1] [bB2] = some [bA1, bB2] := by
 have e : mrg [bA1] [bB2] = [bA1, bB2] := by rw [mrg, if_pos (by simp [bA1, bB2, lab]), mrg]
 rw [mg, e, if_pos ⟨pA1, pB2, pAB2⟩]
theorem mgAB3 : mg [bA1] [bB3] = some [bA1, bB3] := by
 have e : mrg [bA1] [bB3] = [bA1, bB3] := by rw [mrg, if_pos (by simp [bA1, bB3, lab]), mrg]
 rw [mg, e, if_pos ⟨pA1, pB3, pAB3⟩]
theorem cmpS_refl (a : ByteArray) : cmpS a a = 0 := tri_S.refl a
theorem srtB : SrtL [[bB2], [bB3]] := by
 refine List.pairwise_cons.2 ⟨fun x hx => ?_, List.pairwise_singleton ..⟩
 rw [List.mem_singleton.1 hx]
 simp [cmpL, cmpBd, bB2, bB3, cmpS_refl, ev2, ev3, cmpId, orI, cmpI, idOf]
theorem srtAB : SrtL [[bA1, bB2], [bA1, bB3]] := by
 refine List.pairwise_cons.2 ⟨fun x hx => ?_, List.pairwise_singleton ..⟩
 rw [List.mem_singleton.1 hx]
 simp [cmpL, cmpBd, bA1, bB2, bB3, cmpS_refl, ev1, ev2, ev3, cmpId, orI, cmpI, idOf]
theorem distL : Dist evL := (evsBad_no badL).2
theorem denA : nA.den evL = some [[bA1]] := by
 rw [Nd.den_eq, if_pos (show nA.kind = 1 from rfl), lfA, norm_id (from_apt distL) (fun p hp b hb => ?_) (List.pairwise_singleton ..)]
 rw [List.mem_singleton.1 hp] at hb
 rw [List.mem_singleton.1 hb]; exact List.mem_cons_self
theorem frB : ∀ p ∈ [[bB2], [bB3]], From evL p := fun p hp b hb => by
 simp at hp
 rcases hp with rfl | rfl <;> (rw [List.mem_singleton.1 hb]; simp [evL, bB2, bB3])
theorem denB : nB.den evL = some [[bB2], [bB3]] := by
 rw [Nd.den_eq, if_pos (show nB.kind = 1 from rfl), lfB, norm_id (from_apt distL) frB srtB]
theorem frAB : ∀ p ∈ [[bA1, bB2], [bA1, bB3]], From evL p := fun p hp b hb => by
 simp at hp
 rcases hp with rfl | rfl <;> (simp at hb; rcases hb with rfl | rfl <;> simp [evL, bA1, bB2, bB3])
theorem pairL : pairsL true [[bA1]] [[bB2], [bB3]] = [[bA1, bB2], [bA1, bB3]] := by
 have h2 : late true [bA1] [bB2] = false := by rfl
 have h3 : late true [bA1] [bB3] = false := by rfl
 simp [pairsL, rowL, h2, h3, mgAB2, mgAB3]
theorem denL : nS.den evL = some [[bA1, bB2], [bA1, bB3]] := by
 rw [Nd.den_eq, if_neg (by decide)]
 show denGo 2 none [nA.den evL, nB.den evL] = _
 rw [denA, denB]
 show (capL (norm (stepL 2 [[bA1]] [[bB2], [bB3]]))).bind (fun l => some l) = _
 rw [stepL, if_neg (by decide)]
 show (capL (norm (pairsL true [[bA1]] [[bB2], [bB3]]))).bind (fun l => some l) = _
 rw [pairL, norm_id (from_apt distL) frAB srtAB]; rfl
theorem patL : patErr pL = 0 := by
 have h : patOwn pL = false := by rfl
 rw [patErr, h, if_neg Bool.false_ne_true, if_pos (show pL.node.shape = 0 from shL), if_pos (show pL.node.binds = 0 from biL)]
 rfl
theorem outL : allOut pL (nodeOut nS evL (nS.denP evL)) = ([[bA1, bB2]], 0) := by
 rw [nodeOut_same, (Nd.ref_den distL nS).1, denL, nodeOut, if_pos shL, if_pos biL, if_neg (by decide), badL, if_neg Bool.false_ne_true, optO, allOut, if_pos patL, if_pos rfl]
 rfl
theorem okNd_leaf {v t : ByteArray} (hv : v.size < 4611686018427387904) (ht : t.size < 4611686018427387904) : (Nd.mk 1 v t [] []).ok := by
 rw [Nd.ok_eq]
 exact ⟨⟨hv, ht, (by show 0 < 4611686018427387904; decide), fun c h => by cases h⟩, fun p h => by cases h⟩
theorem okS : nS.ok := by
 rw [Nd.ok_eq]
 refine ⟨⟨by decide, by decide, by decide, fun c h => by cases h⟩, fun p h => ?_⟩
 have h : p ∈ [nA.ok, nB.ok] := h
 rcases List.mem_cons.1 h with rfl | h
 ·exact okNd_leaf (by decide) (by decide)
 ·rw [List.mem_singleton.1 h]; exact okNd_leaf (by decide) (by decide)
theorem okPL : okPat pL := ⟨by decide, by show nS.size ≤ 1048576; rw [show nS.size = 3 from rfl]; decide, okS, by decide, fun c h => by cases h⟩
theorem okE_L : ∀ e ∈ evL, okE e := fun e he => by
 have h : ∀ e ∈ evL, e.type.size < 4611686018427387904 ∧ e.attrs = [] := by decide
 obtain ⟨h1, h2⟩ := h e he
 exact ⟨h1, by rw [h2]; decide, fun a ha => by rw [h2] at ha; cases ha⟩
theorem of_vA : ofB [bA1, bB2] [vA] = [bA1] := by
 have h1 : hasS [vA] bA1.var = true := hasS_iff.2 List.mem_cons_self
 have h2 : ¬ hasS [vA] bB2.var = true := fun h => by have := hasS_iff.1 h; simp [bB2, vA, vB] at this
 rw [ofB, List.filter_cons_of_pos (by exact h1), List.filter_cons_of_neg (by exact h2)]; rfl
theorem of_vB : ofB [bA1, bB2] [vB] = [bB2] := by
 have h1 : ¬ hasS [vB] bA1.var = true := fun h => by have := hasS_iff.1 h; simp [bA1, vA, vB] at this
 have h2 : hasS [vB] bB2.var = true := hasS_iff.2 List.mem_cons_self
 rw [ofB, List.filter_cons_of_neg (by exact h1), List.filter_cons_of_pos (by exact h2)]; rfl
theorem fitsL : nS.fitsP [bA1, bB2] = true := by
 have hA : nA.fitsP [bA1] = true := by
  rw [Nd.fitsP_eq, if_pos (show nA.kind = 1 from rfl)]
  show (eqS vA vA && termB nA ev1) = true
  rw [tA1, eqS_iff.2 rfl]; rfl
 have hB : nB.fitsP [bB2] = true := by
  rw [Nd.fitsP_eq, if_pos (show nB.kind = 1 from rfl)]
  show (eqS vB vB && termB nB ev2) = true
  rw [tB2, eqS_iff.2 rfl]; rfl
 rw [Nd.fitsP_eq, if_neg (show ¬ nS.kind = 1 by decide), if_neg (show ¬ nS.kind = 4 by decide)]
 show allFitP [bA1, bB2] (kidsFitP true [bA1, bB2] (-1) 0 [(nA.fitsP, [vA]), (nB.fitsP, [vB])]) = true
 simp only [kidsFitP, of_vA, of_vB, hA, hB]
 rfl
theorem isL : isP pL [bA1, bB2] = true := by
 rw [isP, Nd.FitsP, decide_eq_true patL, decide_eq_true (show pL.node.shape = 0 from shL), decide_eq_true (show pL.node.binds = 0 from biL), decide_eq_true pAB2, show pL.node.fitsP [bA1, bB2] = true from fitsL]
 rfl
end Go.Abs.M
namespace Go.Abs
open Go
section
variable {P : Program} {σ : Hp} {s : St} {n : Nat} {Q : Exit → St → Hp → Prop}
variable [Mode]
theorem VR.wkSl {w : World} {cx : Cx} {es : List (List V)} {x : Value} (h : VR w cx (.sl es) x) : VR w cx (.sl (es.map (List.map wk1))) x := by
  generalize hv : V.sl es = v at h
  cases h with
  | c x => cases hv
  | nils => injection hv with hv; subst hv; exact .nils
  | nile a => injection hv with hv; subst hv; exact .nile a
  | sl f hI hcap hlen hc hr h1 =>
    injection hv with hv
    subst hv
    have := VR.sl (w := w) (cx := cx) (es := es.map (List.map wk1)) f hI (by simpa using hcap) (fun i e he => by
      rw [List.getElem?_map, Option.map_eq_some_iff] at he
      obtain ⟨e', h', rfl⟩ := he
      rw [List.length_map]; exact hlen i e' h') (fun i j hi hj => hc i j (by simpa using hi) hj) (fun i e j v he hv => by
      rw [List.getElem?_map, Option.map_eq_some_iff] at he
      obtain ⟨e', h', rfl⟩ := he
      rw [List.getElem?_map, Option.map_eq_some_iff] at hv
      obtain ⟨v', hv', rfl⟩ := hv
      exact wk1_VR (hr i e' j v' h' hv')) (fun i j hi hj => h1 i j (by simpa using hi) hj)
    rwa [List.length_map] at this
  | _ => cases hv
def wkD : V → V
  | .sl es => .sl (es.map (List.map wk1))
  | v => wk1 v
theorem wkD_VR {w : World} {cx : Cx} {v : V} {x : Value} (h : VR w cx v x) : VR w cx (wkD v) x := by
 unfold wkD
 split
 ·exact h.wkSl
 ·exact wk1_VR h
def wkA : V → V
  | .agg vs => .agg (vs.map wkD)
  | v => wkD v
theorem wkA_VR {w : World} {cx : Cx} {v : V} {x : Value} (h : VR w cx v x) : VR w cx (wkA v) x := by
  unfold wkA
  split
  · cases h with
    | agg h1 hn hh =>
      refine .agg h1 (by simpa using hn) (fun i v x hv hx => ?_)
      rw [List.getElem?_map, Option.map_eq_some_iff] at hv
      obtain ⟨u, hu, rfl⟩ := hv
      exact wkD_VR (hh i u x hu hx)
  · exact wkD_VR h
theorem ACalls.wkA {f : FuncId} {args : List V} {R : V → Hp → Prop} (h : ACalls P f (args.map Go.Abs.wkA) σ R) : ACalls P f args σ R :=
 ⟨h.1, fun cx w xs hH ha => h.2 cx w xs hH ⟨by simpa using ha.1, fun i v x hv hx => by
  rw [List.getElem?_map, Option.map_eq_some_iff] at hv
  obtain ⟨u, hu, rfl⟩ := hv
  exact wkA_VR (ha.2 i u x hu hx)⟩⟩
end
end Go.Abs
namespace Go.Abs.M
open Go Go.Abs Go.Proofs
set_option maxRecDepth 20000
set_option maxHeartbeats 4000000
def fitN (n : Nd) : Bool := decide (n.terms ≤ 200) && decide (n.deep ≤ 50)
theorem fit_spec (n : Nd) (hn : n.small) : PCalls Tryz.prog 9 [.agg (encNd n)] (fun v => v = .c (.bool (fitN n))) := by
 have q2 : ((n.deep : Int) ≤ 50) = (n.deep ≤ 50) := by rw [eq_iff_iff]; omega
 refine PCalls.intro Tryz.call9 Tryz.func9 rfl Tryz.ntmps9 Tryz.results9 (by simp) ?_
 refine AW.sr @nd ?_
 refine AW.seq_j (fun s' σ' => σ' = Hp.empty ∧ s'.t 2 = .c (.bool (fitN n))) ?_ ?_
 ·by_cases ht : n.terms ≤ 200
  ·have q1 : ((n.terms : Int) ≤ 200) = True := eq_true (by omega)
   refine AW.reg0 ?_
   refine S.one (J3 @nd q1 q2) ?_
   (refine S.g rfl rfl fun Y Z => ?_; simp only [zz, simprocAttr, -Int.reduceNatCast', -Int.reduceToNat, nd, q1, q2]; refine PCalls.eqto (rterms_spec n hn) ?_ <;> (refine Z _ _ ?_; clear Z Y))
   all_goals (refine S.sp (J3 @nd q1 q2) fun b a5 => ?_; cases b <;> (try exact nope a5))
   all_goals iterate 2 refine S.one (J3 @nd q1 q2) ?_
   all_goals (first | (refine S.y rfl rfl rfl rfl fun Y Z => ?_; simp only [zz, simprocAttr, -Int.reduceNatCast', -Int.reduceToNat, nd, q1, q2]; refine PCalls.eqto (rdeep_spec n hn) ?_ <;> (refine Z _ _ ?_; clear Z Y)) | ((first | refine S.x rfl rfl rfl rfl fun Y Z => ?_ | refine S.u rfl rfl rfl rfl fun Y Z => ?_); simp only [ze, simprocAttr, -Int.reduceNatCast', -Int.reduceToNat]; refine Z _ _ ?_; clear Z Y))
   all_goals iterate 3 refine S.one (J3 @nd q1 q2) ?_
   all_goals refine S.nil ?_
   all_goals simp only [ze, simprocAttr, nd, q1, q2]
   all_goals simp_all [fitN]
  ·have q1 : ((n.terms : Int) ≤ 200) = False := eq_false (by omega)
   refine AW.reg0 ?_
   refine S.one (J3 @nd q1 q2) ?_
   (refine S.g rfl rfl fun Y Z => ?_; simp only [zz, simprocAttr, -Int.reduceNatCast', -Int.reduceToNat, nd, q1, q2]; refine PCalls.eqto (rterms_spec n hn) ?_ <;> (refine Z _ _ ?_; clear Z Y))
   all_goals (refine S.sp (J3 @nd q1 q2) fun b a5 => ?_; cases b <;> (try exact nope a5))
   all_goals iterate 2 refine S.one (J3 @nd q1 q2) ?_
   all_goals (first | (refine S.y rfl rfl rfl rfl fun Y Z => ?_; simp only [zz, simprocAttr, -Int.reduceNatCast', -Int.reduceToNat, nd, q1, q2]; refine PCalls.eqto (rdeep_spec n hn) ?_ <;> (refine Z _ _ ?_; clear Z Y)) | ((first | refine S.x rfl rfl rfl rfl fun Y Z => ?_ | refine S.u rfl rfl rfl rfl fun Y Z => ?_); simp only [ze, simprocAttr, -Int.reduceNatCast', -Int.reduceToNat]; refine Z _ _ ?_; clear Z Y))
   all_goals iterate 3 refine S.one (J3 @nd q1 q2) ?_
   all_goals refine S.nil ?_
   all_goals simp only [ze, simprocAttr, nd, q1, q2]
   all_goals (simp_all [fitN] <;> omega)
 rintro s σ ⟨rfl, e2⟩
 refine AW.ret ?_
 all_goals simp only [zs, simprocAttr, e2]
 all_goals ((try and_intros) <;> first | rfl | assumption | (rfl))
def liveC : List V := [.c (.string ⟨#[112]⟩), .c (.int .i64 5), .c (.int .i64 2), .c (.string ⟨#[]⟩), .c (.string ⟨#[]⟩), .c (.slice none 0 0), .sl [[.c (.int .i64 1), .c (.string ⟨#[97]⟩), .c (.string ⟨#[65]⟩), .c (.slice none 0 0), .c (.slice none 0 0)], [.c (.int .i64 1), .c (.string ⟨#[98]⟩), .c (.string ⟨#[66]⟩), .c (.slice none 0 0), .c (.slice none 0 0)]], .c (.slice none 0 0)]
def liveB : List (List V) := [[.c (.string ⟨#[97]⟩), .c (.int .i64 0), .c (.int .i64 0), .c (.int .i64 1), .c (.string ⟨#[65]⟩), .sl []], [.c (.string ⟨#[98]⟩), .c (.int .i64 1), .c (.int .i64 0), .c (.int .i64 3), .c (.string ⟨#[66]⟩), .sl []]]
theorem okP_L : okP [bA1, bB2] := fun b hb => by
 simp at hb
 rcases hb with rfl | rfl
 ·exact ⟨by decide, okE_L ev1 (by simp [evL])⟩
 ·exact ⟨by decide, okE_L ev2 (by simp [evL])⟩
theorem live_spec : PCalls Tryz.prog 10 [] (fun v => v = .c (.bool true)) := by
 have hall := All_P pL okPL evL (by decide) okE_L
 rw [show pL.node = nS from rfl, outL] at hall
 refine ACalls.bare (R := fun v _ => v = .c (.bool true)) (ACalls.intro Tryz.call10 Tryz.func10 rfl Tryz.ntmps10 Tryz.results10 (by simp) ?_) fun _ _ h => h
 refine AW.sr trivial ?_
 refine AW.seq_k fun K2 h2 => ?_
 refine AW.reg0 ?_
 iterate 2 refine S.one trivial ?_
 (refine S.g rfl rfl fun Y Z => ?_; simp only [zb, simprocAttr, -Int.reduceNatCast', -Int.reduceToNat, tt]; refine ⟨rfl, (by simp), ?_⟩ <;> (refine Z _ _ ?_; clear Z Y))
 all_goals iterate 4 refine S.one trivial ?_
 all_goals (refine S.nil ?_; simp only [ze, simprocAttr]; apply_assumption)
 refine AW.seq_k fun K3 h3 => ?_
 all_goals refine AW.reg0 ?_
 all_goals iterate 6 refine S.one trivial ?_
 all_goals (refine S.g rfl rfl fun Y Z => ?_; simp only [zb, simprocAttr, -Int.reduceNatCast', -Int.reduceToNat, tt]; refine ⟨rfl, (by simp), ?_⟩ <;> (refine Z _ _ ?_; clear Z Y))
 all_goals (refine S.g rfl rfl fun Y Z => ?_; simp only [zz, simprocAttr, -Int.reduceNatCast', -Int.reduceToNat]; (refine ACalls.wkA (ACalls.to hall ?_); rintro _ σ1 ⟨u, rfl, hown, hok, hlen⟩) <;> (refine Z _ _ ?_; clear Z Y))
 all_goals iterate 5 refine S.one trivial ?_
 all_goals (refine S.nil ?_; simp only [ze, simprocAttr]; apply_assumption)
 rcases hown with ⟨_, hl, _⟩ | ⟨k, rfl, _, rfl⟩
 ·cases hl
 refine AW.gen (fun s' => s'.t 1 = .lp 1 0 ∧ s'.l 1 = some liveC ∧ s'.t 2 = .gl k ∧ s'.t 3 = .c (.int .i64 0)) ?_ ?_
 ·simp only [zs, simprocAttr]
  all_goals ((try and_intros) <;> first | rfl | assumption | (rfl))
 rintro s ⟨e1, l1, e2, e3⟩
 refine AW.freeze (k := k) (T := (40, 1)) (es := [[bA1, bB2]].map encP) (by simp [hpP]) ?_
 have hem : (hpP Hp.empty k [[bA1, bB2]]).setGr k none = Hp.empty := by simp [hpP]
 rw [hem]
 have f1 : (s.fz k ([[bA1, bB2]].map encP)).t 1 = .lp 1 0 := by simp [e1, fzV, fz1]
 have f2 : (s.fz k ([[bA1, bB2]].map encP)).t 2 = .sl [[.sl liveB]] := by simp [e2, fzV, fz1]; rfl
 have f3 : (s.fz k ([[bA1, bB2]].map encP)).t 3 = .c (.int .i64 0) := by simp [e3, fzV, fz1]
 have m1 : (s.fz k ([[bA1, bB2]].map encP)).l 1 = some liveC := by simp [l1]; rfl
 generalize s.fz k ([[bA1, bB2]].map encP) = s at *
 have his := Is_spec pL [bA1, bB2] okPL okP_L (fun b hb => by simp at hb; rcases hb with rfl | rfl <;> decide) (by decide) (fun b hb => by simp at hb; rcases hb with rfl | rfl <;> (unfold inI64; decide)) (by unfold inI64; decide)
 rw [isL, show [bA1, bB2].map encBd = liveB from rfl] at his
 have h01 : ((0 : Int) < ((1 : Nat) : Int)) = True := eq_true (by decide)
 have h12 : ((1 : Int) < ((2 : Nat) : Int)) = True := eq_true (by decide)
 have h22 : (((2 : Nat) : Int) == 2) = true := rfl
 have h11 : (((1 : Nat) : Int) == 1) = true := rfl
 unfold liveB at his f2
 unfold liveC at m1
 refine AW.seq_k fun K4 h4 => ?_
 all_goals refine AW.dv { sd := fun d => d == 1 } [(0,0),(1,0),(2,0),(3,0),(4,0),(5,0),(6,0),(7,0),(8,0),(9,0),(10,0),(11,1),(12,0),(13,0),(14,0),(15,0),(16,0),(17,0),(18,0),(19,1),(20,0),(21,0),(22,0),(23,1),(24,0),(25,0),(26,0),(28,0),(29,0),(27,1),(30,1),(31,2),(32,0),(33,0)] ?_
 all_goals have q1q := J12 f1 m1 f2 f3 h01 h12 h22 h11 @Int.le_refl @Int.toNat_zero @Nat.zero_lt_one (J6 @Nat.lt_add_one @List.length_cons.{0} @List.length_nil.{0} @List.getD_cons_zero.{0} @List.getD_cons_succ.{0} @Int.toNat_one)
 all_goals (refine D.g rfl trivial rfl rfl fun Y Z => ?_; simp only [zz, simprocAttr, -Int.reduceNatCast', -Int.reduceToNat, q1q]; refine Z _ _ ?_; clear Z Y)
 all_goals (refine D.sp q1q fun b a21 => ?_; cases b <;> (try exact nope a21))
 all_goals have q2q := J12 f1 m1 f2 f3 h01 h12 h22 h11 @Int.le_refl @Int.toNat_zero @Nat.zero_lt_one (J6 @Nat.lt_add_one @List.length_cons.{0} @List.length_nil.{0} @List.getD_cons_zero.{0} @List.getD_cons_succ.{0} @Int.toNat_one)
 all_goals iterate 3 ((first | refine D.g rfl trivial rfl rfl fun Y Z => ?_ | refine D.y rfl trivial rfl rfl rfl rfl fun Y Z => ?_ | refine D.x rfl (fun h => by cases h) rfl rfl rfl rfl fun Y Z => ?_ | refine D.u rfl (fun h => by cases h) rfl rfl rfl rfl fun Y Z => ?_); simp only [zz, simprocAttr, -Int.reduceNatCast', -Int.reduceToNat, tt, q2q]; refine Z _ _ ?_; clear Z Y)
 all_goals (first | (refine D.sp q2q fun b a25 => ?_; cases b <;> (try exact nope a25)) | ((first | refine D.x rfl (fun h => by cases h) rfl rfl rfl rfl fun Y Z => ?_ | refine D.u rfl (fun h => by cases h) rfl rfl rfl rfl fun Y Z => ?_); simp only [ze, simprocAttr, -Int.reduceNatCast', -Int.reduceToNat]; refine Z _ _ ?_; clear Z Y))
 all_goals iterate 5 ((first | refine D.g rfl trivial rfl rfl fun Y Z => ?_ | refine D.y rfl trivial rfl rfl rfl rfl fun Y Z => ?_ | refine D.x rfl (fun h => by cases h) rfl rfl rfl rfl fun Y Z => ?_ | refine D.u rfl (fun h => by cases h) rfl rfl rfl rfl fun Y Z => ?_); simp only [zz, simprocAttr, -Int.reduceNatCast', -Int.reduceToNat, f1, m1, f2, f3, h01, h12, h22, h11, Int.le_refl, Int.toNat_zero, Nat.zero_lt_one, Nat.lt_add_one, List.length_cons, List.length_nil, List.getD_cons_zero, List.getD_cons_succ, Int.reduceLE, Int.reduceLT, Int.reduceToNat, Int.toNat_one, tt]; refine Z _ _ ?_; clear Z Y)
 all_goals ((first | refine D.y rfl (by first | rfl | (simp only [stC, ze, simprocAttr, -Int.reduceNatCast', -Int.reduceToNat, f1, m1, f2, f3, h01, h12, h22, h11, Int.le_refl, Int.toNat_zero, Nat.zero_lt_one, Nat.lt_add_one, List.length_cons, List.length_nil, List.getD_cons_zero, List.getD_cons_succ, Int.reduceLE, Int.reduceLT, Int.reduceToNat, Int.toNat_one]; first | done | rfl)) rfl rfl rfl rfl fun Y Z => ?_ | refine D.x rfl (fun _ => rfl) rfl rfl rfl rfl fun Y Z => ?_ | refine D.u rfl (fun _ => rfl) rfl rfl rfl rfl fun Y Z => ?_); simp only [zz, simprocAttr, -Int.reduceNatCast', -Int.reduceToNat, tt, f1, m1, f2, f3, h01, h12, h22, h11, Int.le_refl, Int.toNat_zero, Nat.zero_lt_one, Nat.lt_add_one, List.length_cons, List.length_nil, List.getD_cons_zero, List.getD_cons_succ, Int.reduceLE, Int.reduceLT, Int.reduceToNat, Int.toNat_one]; refine Z _ _ ?_; clear Z Y)
 all_goals have q3q := J12 f1 m1 f2 f3 h01 h12 h22 h11 @Int.le_refl @Int.toNat_zero @Nat.zero_lt_one (J6 @Nat.lt_add_one @List.length_cons.{0} @List.length_nil.{0} @List.getD_cons_zero.{0} @List.getD_cons_succ.{0} @Int.toNat_one)
 all_goals ((first | refine D.y rfl trivial rfl rfl rfl rfl fun Y Z => ?_ | refine D.x rfl (fun h => by cases h) rfl rfl rfl rfl fun Y Z => ?_ | refine D.u rfl (fun h => by cases h) rfl rfl rfl rfl fun Y Z => ?_); simp only [zz, simprocAttr, -Int.reduceNatCast', -Int.reduceToNat, tt, q3q]; refine Z _ _ ?_; clear Z Y)
 all_goals (first | (refine D.sp q3q fun b a33 => ?_; cases b <;> (try exact nope a33)) | ((first | refine D.x rfl (fun h => by cases h) rfl rfl rfl rfl fun Y Z => ?_ | refine D.u rfl (fun h => by cases h) rfl rfl rfl rfl fun Y Z => ?_); simp only [ze, simprocAttr, -Int.reduceNatCast', -Int.reduceToNat]; refine Z _ _ ?_; clear Z Y))
 all_goals iterate 5 ((first | refine D.g rfl trivial rfl rfl fun Y Z => ?_ | refine D.y rfl trivial rfl rfl rfl rfl fun Y Z => ?_ | refine D.x rfl (fun h => by cases h) rfl rfl rfl rfl fun Y Z => ?_ | refine D.u rfl (fun h => by cases h) rfl rfl rfl rfl fun Y Z => ?_); simp only [zz, simprocAttr, -Int.reduceNatCast', -Int.reduceToNat, f1, m1, f2, f3, h01, h12, h22, h11, Int.le_refl, Int.toNat_zero, Nat.zero_lt_one, Nat.lt_add_one, List.length_cons, List.length_nil, List.getD_cons_zero, List.getD_cons_succ, Int.reduceLE, Int.reduceLT, Int.reduceToNat, Int.toNat_one, tt]; refine Z _ _ ?_; clear Z Y)
 all_goals ((first | refine D.y rfl (by first | rfl | (simp only [stC, ze, simprocAttr, -Int.reduceNatCast', -Int.reduceToNat, f1, m1, f2, f3, h01, h12, h22, h11, Int.le_refl, Int.toNat_zero, Nat.zero_lt_one, Nat.lt_add_one, List.length_cons, List.length_nil, List.getD_cons_zero, List.getD_cons_succ, Int.reduceLE, Int.reduceLT, Int.reduceToNat, Int.toNat_one]; first | done | rfl)) rfl rfl rfl rfl fun Y Z => ?_ | refine D.x rfl (fun _ => rfl) rfl rfl rfl rfl fun Y Z => ?_ | refine D.u rfl (fun _ => rfl) rfl rfl rfl rfl fun Y Z => ?_); simp only [zz, simprocAttr, -Int.reduceNatCast', -Int.reduceToNat, tt, f1, m1, f2, f3, h01, h12, h22, h11, Int.le_refl, Int.toNat_zero, Nat.zero_lt_one, Nat.lt_add_one, List.length_cons, List.length_nil, List.getD_cons_zero, List.getD_cons_succ, Int.reduceLE, Int.reduceLT, Int.reduceToNat, Int.toNat_one]; refine Z _ _ ?_; clear Z Y)
 all_goals iterate 3 ((first | refine D.y rfl trivial rfl rfl rfl rfl fun Y Z => ?_ | refine D.x rfl (fun h => by cases h) rfl rfl rfl rfl fun Y Z => ?_ | refine D.u rfl (fun h => by cases h) rfl rfl rfl rfl fun Y Z => ?_); simp only [zz, simprocAttr, -Int.reduceNatCast', -Int.reduceToNat, tt, f1, m1, f2, f3, h01, h12, h22, h11, Int.le_refl, Int.toNat_zero, Nat.zero_lt_one, Nat.lt_add_one, List.length_cons, List.length_nil, List.getD_cons_zero, List.getD_cons_succ, Int.reduceLE, Int.reduceLT, Int.reduceToNat, Int.toNat_one]; refine Z _ _ ?_; clear Z Y)
 all_goals have q4q := J12 f1 m1 f2 f3 h01 h12 h22 h11 @Int.le_refl @Int.toNat_zero @Nat.zero_lt_one (J6 @Nat.lt_add_one @List.length_cons.{0} @List.length_nil.{0} @List.getD_cons_zero.{0} @List.getD_cons_succ.{0} @Int.toNat_one)
 all_goals ((first | refine D.y rfl (by first | rfl | (simp only [stC, ze, simprocAttr, -Int.reduceNatCast', -Int.reduceToNat, f1, m1, f2, f3, h01, h12, h22, h11, Int.le_refl, Int.toNat_zero, Nat.zero_lt_one, Nat.lt_add_one, List.length_cons, List.length_nil, List.getD_cons_zero, List.getD_cons_succ, Int.reduceLE, Int.reduceLT, Int.reduceToNat, Int.toNat_one]; first | done | rfl)) rfl rfl rfl rfl fun Y Z => ?_ | refine D.x rfl (fun _ => rfl) rfl rfl rfl rfl fun Y Z => ?_ | refine D.u rfl (fun _ => rfl) rfl rfl rfl rfl fun Y Z => ?_); simp only [zz, simprocAttr, -Int.reduceNatCast', -Int.reduceToNat, tt, q4q]; refine Z _ _ ?_; clear Z Y)
 all_goals (first | (refine D.sp q4q fun b a44 => ?_; cases b <;> (try exact nope a44)) | ((first | refine D.x rfl (fun h => by cases h) rfl rfl rfl rfl fun Y Z => ?_ | refine D.u rfl (fun h => by cases h) rfl rfl rfl rfl fun Y Z => ?_); simp only [ze, simprocAttr, -Int.reduceNatCast', -Int.reduceToNat]; refine Z _ _ ?_; clear Z Y))
 all_goals iterate 4 ((first | refine D.g rfl trivial rfl rfl fun Y Z => ?_ | refine D.y rfl trivial rfl rfl rfl rfl fun Y Z => ?_ | refine D.x rfl (fun h => by cases h) rfl rfl rfl rfl fun Y Z => ?_ | refine D.u rfl (fun h => by cases h) rfl rfl rfl rfl fun Y Z => ?_); simp only [zz, simprocAttr, -Int.reduceNatCast', -Int.reduceToNat, f1, m1, f2, f3, h01, h12, h22, h11, Int.le_refl, Int.toNat_zero, Nat.zero_lt_one, Nat.lt_add_one, List.length_cons, List.length_nil, List.getD_cons_zero, List.getD_cons_succ, Int.reduceLE, Int.reduceLT, Int.reduceToNat, Int.toNat_one, tt]; refine Z _ _ ?_; clear Z Y)
 all_goals iterate 2 ((first | refine D.y rfl (by first | rfl | (simp only [stC, ze, simprocAttr, -Int.reduceNatCast', -Int.reduceToNat, f1, m1, f2, f3, h01, h12, h22, h11, Int.le_refl, Int.toNat_zero, Nat.zero_lt_one, Nat.lt_add_one, List.length_cons, List.length_nil, List.getD_cons_zero, List.getD_cons_succ, Int.reduceLE, Int.reduceLT, Int.reduceToNat, Int.toNat_one]; first | done | rfl)) rfl rfl rfl rfl fun Y Z => ?_ | refine D.x rfl (fun _ => rfl) rfl rfl rfl rfl fun Y Z => ?_ | refine D.u rfl (fun _ => rfl) rfl rfl rfl rfl fun Y Z => ?_); simp only [zz, simprocAttr, -Int.reduceNatCast', -Int.reduceToNat, tt, f1, m1, f2, f3, h01, h12, h22, h11, Int.le_refl, Int.toNat_zero, Nat.zero_lt_one, Nat.lt_add_one, List.length_cons, List.length_nil, List.getD_cons_zero, List.getD_cons_succ, Int.reduceLE, Int.reduceLT, Int.reduceToNat, Int.toNat_one]; refine Z _ _ ?_; clear Z Y)
 all_goals (first | (refine D.y rfl trivial rfl rfl rfl rfl fun Y Z => ?_; simp only [zz, simprocAttr, -Int.reduceNatCast', -Int.reduceToNat, f1, m1, f2, f3, h01, h12, h22, h11, Int.le_refl, Int.toNat_zero, Nat.zero_lt_one, Nat.lt_add_one, List.length_cons, List.length_nil, List.getD_cons_zero, List.getD_cons_succ, Int.reduceLE, Int.reduceLT, Int.reduceToNat, Int.toNat_one]; (refine ACalls.wkA (PCalls.eqto his ?_)) <;> (refine Z _ _ ?_; clear Z Y)) | ((first | refine D.x rfl (fun h => by cases h) rfl rfl rfl rfl fun Y Z => ?_ | refine D.u rfl (fun h => by cases h) rfl rfl rfl rfl fun Y Z => ?_); simp only [ze, simprocAttr, -Int.reduceNatCast', -Int.reduceToNat]; refine Z _ _ ?_; clear Z Y))
 all_goals iterate 2 (refine D.g rfl trivial rfl rfl fun Y Z => ?_; simp only [zz, simprocAttr, -Int.reduceNatCast', -Int.reduceToNat, f1, m1, f2, f3, h01, h12, h22, h11, Int.le_refl, Int.toNat_zero, Nat.zero_lt_one, Nat.lt_add_one, List.length_cons, List.length_nil, List.getD_cons_zero, List.getD_cons_succ, Int.reduceLE, Int.reduceLT, Int.reduceToNat, Int.toNat_one]; refine Z _ _ ?_; clear Z Y)
 all_goals (refine D.nil ?_; apply_assumption)
 refine AW.ret ?_
 all_goals simp only [zs, simprocAttr]
 all_goals ((try and_intros) <;> first | rfl | assumption | (rfl))
theorem denIs_law (p : Pat) (l : List Bd) (hp : okPat p) (hw : inI64 p.within) (hl : okP l) (hpl : l.length < 1048576) (ht : ∀ b ∈ l, inI64 b.ev.time) : PCalls Tryz.prog 4 [.agg (encPat p), .agg [.sl (l.map encBd)]] (fun v => v = .c (.bool true)) := by
 have hpe : lenB l := fun b hb => (hl b hb).ev.len
 have hE := (encNd_eq p.node).symm
 have g14 := Is_spec p l hp hl hpe hpl ht hw
 have g15 := rIs_spec p l hp hl hpe hpl ht hw
 have g16 := Fits_spec p.node l hp.small hp.ok hl hpe hpl
 have g17 := rFits_spec p.node l hp.small hp.ok hl hpe hpl
 have g18 := Within_spec p l hpl ht hw
 have g19 := rWithin_spec p l (by omega) ht hw
 rw [isP_same] at g14
 rw [Nd.FitsP_same] at g16
 generalize isB p l = bi at g14 g15
 generalize p.node.Fits l = bf at g16 g17
 generalize spanB p l = bw at g18 g19
 refine PCalls.intro Tryz.call4 Tryz.func4 rfl Tryz.ntmps4 Tryz.results4 (by simp) ?_
 refine AW.sr @encPat.eq_1 ?_
 refine AW.seq_j (fun s' σ' => σ' = Hp.empty ∧ s'.t 2 = .lp 2 0 ∧ s'.l 2 = some (encPat p) ∧ s'.t 3 = .lp 3 0 ∧ s'.l 3 = some [.sl (l.map encBd)]) ?_ ?_
 ·refine AW.seq_j (fun s' σ' => σ' = Hp.empty ∧ s'.t 2 = .lp 2 0 ∧ s'.l 2 = some (encPat p) ∧ s'.t 3 = .lp 3 0 ∧ s'.l 3 = some [.sl (l.map encBd)] ∧ s'.t 12 = .c (.bool (!fitN p.node))) ?_ ?_
  ·skip
   refine AW.reg0 ?_
   iterate 2 refine S.one (J3 @encPat.eq_1 hE @nd) ?_
   have q1q := J3 @encPat.eq_1 hE @nd
   (refine S.g rfl rfl fun Y Z => ?_; simp only [zz, simprocAttr, -Int.reduceNatCast', -Int.reduceToNat, q1q]; refine PCalls.eqto (fit_spec p.node hp.small) ?_; refine S.bool fun b a7 => ?_; cases b <;> (try exact nope a7) <;> (refine Z _ _ ?_; clear Z Y))
   all_goals iterate 2 refine S.one q1q ?_
   all_goals have q2q := J3 @encPat.eq_1 hE @nd
   all_goals (first | (refine S.y rfl rfl rfl rfl fun Y Z => ?_; simp only [zz, simprocAttr, -Int.reduceNatCast', -Int.reduceToNat, q2q]; refine PCalls.eqto live_spec ?_ <;> (refine Z _ _ ?_; clear Z Y)) | ((first | refine S.x rfl rfl rfl rfl fun Y Z => ?_ | refine S.u rfl rfl rfl rfl fun Y Z => ?_); simp only [ze, simprocAttr, -Int.reduceNatCast', -Int.reduceToNat]; refine Z _ _ ?_; clear Z Y))
   all_goals iterate 2 refine S.one q2q ?_
   all_goals refine S.nil ?_
   all_goals simp only [ze, simprocAttr, q2q]
   all_goals simp_all [encPat]
  rintro s σ ⟨rfl, e2, l2, e3, l3, e12⟩
  refine AW.cond (b := !fitN p.node) e12 (fun hb => ?_) (fun hb => ?_)
  ·refine AW.seq_k fun K2 h2 => ?_
   refine AW.reg0 ?_
   (refine S.g rfl rfl fun Y Z => ?_; simp only [zz, simprocAttr, -Int.reduceNatCast', -Int.reduceToNat]; refine PCalls.eqto live_spec ?_ <;> (refine Z _ _ ?_; clear Z Y))
   all_goals refine S.one trivial ?_
   all_goals (refine S.nil ?_; simp only [ze, simprocAttr]; apply_assumption)
   refine AW.ret ?_
   all_goals simp only [zs, simprocAttr]
   all_goals ((try and_intros) <;> first | rfl | assumption | (rfl))
  ·refine AW.skip ?_
   simp only [zs, simprocAttr, e2, l2, e3, l3]
   all_goals ((try and_intros) <;> first | rfl | assumption | (rfl))
 rintro s σ ⟨rfl, e2, l2, e3, l3⟩
 rw [encPat] at l2
 rw [encPat] at g14 g15 g18 g19
 refine AW.seq_k fun K3 h3 => ?_
 all_goals refine AW.dv { sd := fun d => d == 2 || d == 3 } [(0,1),(1,1),(3,1),(4,1),(2,2),(5,2),(6,0),(7,0),(8,0),(12,0),(9,1),(10,1),(13,1),(14,1),(11,2),(15,2),(16,0),(17,0),(18,0),(19,1),(20,1),(22,1),(23,1),(21,2),(24,2),(25,0),(26,0),(27,0)] ?_
 all_goals iterate 4 refine D.one (J7 e2 l2 e3 l3 hE @nd @beq_self_eq_true.{0}) ?_
 all_goals (refine D.g rfl trivial rfl rfl fun Y Z => ?_; simp only [zz, simprocAttr, -Int.reduceNatCast', -Int.reduceToNat, e2, l2, e3, l3, hE, nd, beq_self_eq_true]; refine PCalls.eqto g14 ?_ <;> (refine Z _ _ ?_; clear Z Y))
 all_goals have q3q := J7 e2 l2 e3 l3 hE @nd @beq_self_eq_true.{0}
 all_goals (refine D.g rfl trivial rfl rfl fun Y Z => ?_; simp only [zz, simprocAttr, -Int.reduceNatCast', -Int.reduceToNat, q3q]; refine PCalls.eqto g15 ?_ <;> (refine Z _ _ ?_; clear Z Y))
 all_goals (refine D.sp q3q fun b a20 => ?_; cases b <;> (try exact nope a20))
 all_goals iterate 3 refine D.one q3q ?_
 all_goals iterate 4 refine D.one q3q ?_
 all_goals (first | (refine D.y rfl trivial rfl rfl rfl rfl fun Y Z => ?_; simp only [zz, simprocAttr, -Int.reduceNatCast', -Int.reduceToNat, e2, l2, e3, l3, hE, nd, beq_self_eq_true]; refine PCalls.eqto g16 ?_ <;> (refine Z _ _ ?_; clear Z Y)) | ((first | refine D.x rfl (fun h => by cases h) rfl rfl rfl rfl fun Y Z => ?_ | refine D.u rfl (fun h => by cases h) rfl rfl rfl rfl fun Y Z => ?_); simp only [ze, simprocAttr, -Int.reduceNatCast', -Int.reduceToNat]; refine Z _ _ ?_; clear Z Y))
 all_goals have q4q := J7 e2 l2 e3 l3 hE @nd @beq_self_eq_true.{0}
 all_goals (first | (refine D.y rfl trivial rfl rfl rfl rfl fun Y Z => ?_; simp only [zz, simprocAttr, -Int.reduceNatCast', -Int.reduceToNat, q4q]; refine PCalls.eqto g17 ?_ <;> (refine Z _ _ ?_; clear Z Y)) | ((first | refine D.x rfl (fun h => by cases h) rfl rfl rfl rfl fun Y Z => ?_ | refine D.u rfl (fun h => by cases h) rfl rfl rfl rfl fun Y Z => ?_); simp only [ze, simprocAttr, -Int.reduceNatCast', -Int.reduceToNat]; refine Z _ _ ?_; clear Z Y))
 all_goals (first | (refine D.sp q4q fun b a30 => ?_; cases b <;> (try exact nope a30)) | ((first | refine D.x rfl (fun h => by cases h) rfl rfl rfl rfl fun Y Z => ?_ | refine D.u rfl (fun h => by cases h) rfl rfl rfl rfl fun Y Z => ?_); simp only [ze, simprocAttr, -Int.reduceNatCast', -Int.reduceToNat]; refine Z _ _ ?_; clear Z Y))
 all_goals iterate 6 refine D.one q4q ?_
 all_goals (first | (refine D.y rfl trivial rfl rfl rfl rfl fun Y Z => ?_; simp only [zz, simprocAttr, -Int.reduceNatCast', -Int.reduceToNat, e2, l2, e3, l3, hE, nd, beq_self_eq_true]; refine PCalls.eqto g18 ?_ <;> (refine Z _ _ ?_; clear Z Y)) | ((first | refine D.x rfl (fun h => by cases h) rfl rfl rfl rfl fun Y Z => ?_ | refine D.u rfl (fun h => by cases h) rfl rfl rfl rfl fun Y Z => ?_); simp only [ze, simprocAttr, -Int.reduceNatCast', -Int.reduceToNat]; refine Z _ _ ?_; clear Z Y))
 all_goals have q5q := J7 e2 l2 e3 l3 hE @nd @beq_self_eq_true.{0}
 all_goals (first | (refine D.y rfl trivial rfl rfl rfl rfl fun Y Z => ?_; simp only [zz, simprocAttr, -Int.reduceNatCast', -Int.reduceToNat, q5q]; refine PCalls.eqto g19 ?_ <;> (refine Z _ _ ?_; clear Z Y)) | ((first | refine D.x rfl (fun h => by cases h) rfl rfl rfl rfl fun Y Z => ?_ | refine D.u rfl (fun h => by cases h) rfl rfl rfl rfl fun Y Z => ?_); simp only [ze, simprocAttr, -Int.reduceNatCast', -Int.reduceToNat]; refine Z _ _ ?_; clear Z Y))
 all_goals iterate 3 refine D.one q5q ?_
 all_goals (refine D.nil ?_; apply_assumption)
 refine AW.ret ?_
 all_goals simp only [zs, simprocAttr]
 all_goals ((try and_intros) <;> first | rfl | assumption | (rfl))
end Go.Abs.M
namespace Go.Abs.M
set_option maxHeartbeats 4000000
open Go Go.Abs Go.Proofs
set_option maxRecDepth 20000
theorem co2 : Tryz.prog.cellsOf 2 = 1 := by kernel_rfl
theorem co3 : Tryz.prog.cellsOf 3 = 1 := by kernel_rfl
theorem co9 : Tryz.prog.cellsOf 9 = 1 := by kernel_rfl
theorem co22 : Tryz.prog.cellsOf 22 = 1 := by kernel_rfl
theorem co23 : Tryz.prog.cellsOf 23 = 1 := by kernel_rfl
theorem co25 : Tryz.prog.cellsOf 25 = 5 := by kernel_rfl
theorem co37 : Tryz.prog.cellsOf 37 = 8 := by kernel_rfl
theorem co38 : Tryz.prog.cellsOf 38 = 1 := by kernel_rfl
theorem co40 : Tryz.prog.cellsOf 40 = 1 := by kernel_rfl
theorem co45 : Tryz.prog.cellsOf 45 = 2 := by kernel_rfl
theorem co46 : Tryz.prog.cellsOf 46 = 1 := by kernel_rfl
theorem co48 : Tryz.prog.cellsOf 48 = 5 := by kernel_rfl
theorem co50 : Tryz.prog.cellsOf 50 = 6 := by kernel_rfl
theorem co104 : Tryz.prog.cellsOf 104 = 3 := by kernel_rfl
theorem co106 : Tryz.prog.cellsOf 106 = 5 := by kernel_rfl
theorem co108 : Tryz.prog.cellsOf 108 = 11 := by kernel_rfl
theorem co119 : Tryz.prog.cellsOf 119 = 4 := by kernel_rfl
theorem len1 {us : List V} (h : us.length = 1) : ∃ x0, us = [x0] := by
 match us, h with
 | [x0], _ => exact ⟨x0, rfl⟩
theorem len4 {us : List V} (h : us.length = 4) : ∃ x0 x1 x2 x3, us = [x0, x1, x2, x3] := by
 match us, h with
 | [x0, x1, x2, x3], _ => exact ⟨x0, x1, x2, x3, rfl⟩
theorem len5 {us : List V} (h : us.length = 5) : ∃ x0 x1 x2 x3 x4, us = [x0, x1, x2, x3, x4] := by
 match us, h with
 | [x0, x1, x2, x3, x4], _ => exact ⟨x0, x1, x2, x3, x4, rfl⟩
theorem len6 {us : List V} (h : us.length = 6) : ∃ x0 x1 x2 x3 x4 x5, us = [x0, x1, x2, x3, x4, x5] := by
 match us, h with
 | [x0, x1, x2, x3, x4, x5], _ => exact ⟨x0, x1, x2, x3, x4, x5, rfl⟩
theorem len8 {us : List V} (h : us.length = 8) : ∃ x0 x1 x2 x3 x4 x5 x6 x7, us = [x0, x1, x2, x3, x4, x5, x6, x7] := by
 match us, h with
 | [x0, x1, x2, x3, x4, x5, x6, x7], _ => exact ⟨x0, x1, x2, x3, x4, x5, x6, x7, rfl⟩
theorem len11 {us : List V} (h : us.length = 11) : ∃ x0 x1 x2 x3 x4 x5 x6 x7 x8 x9 x10, us = [x0, x1, x2, x3, x4, x5, x6, x7, x8, x9, x10] := by
 match us, h with
 | [x0, x1, x2, x3, x4, x5, x6, x7, x8, x9, x10], _ => exact ⟨x0, x1, x2, x3, x4, x5, x6, x7, x8, x9, x10, rfl⟩
theorem open_val {n : Nat} {x0 x1 x2 : V} (h : Fit Tryz.prog n 104 [x0, x1, x2]) : ∃ v : Val, [x0, x1, x2] = encVal v ∧ v.s.size ≤ reachBytes := by
 obtain ⟨_, m, _, hf⟩ := h.st Tryz.underlying104
 have h0 : Fit Tryz.prog m 3 (([x0, x1, x2].drop 0).take (Tryz.prog.cellsOf 3)) := hf 0 _ rfl
 have h1 : Fit Tryz.prog m 2 (([x0, x1, x2].drop 1).take (Tryz.prog.cellsOf 2)) := hf 1 _ rfl
 have h2 : Fit Tryz.prog m 9 (([x0, x1, x2].drop 2).take (Tryz.prog.cellsOf 9)) := hf 2 _ rfl
 simp only [co3, co2, co9, List.drop_zero, List.take_succ_cons, List.take_zero, List.drop_succ_cons] at h0 h1 h2
 obtain ⟨a, e0, _⟩ := h0.int Tryz.underlying3
 obtain ⟨b, e1, _⟩ := h1.int Tryz.underlying2
 obtain ⟨s, e2, hs⟩ := h2.str Tryz.underlying9
 simp only [List.cons.injEq, and_true] at e0 e1 e2
 exact ⟨⟨a, b, s⟩, by rw [e0, e1, e2]; rfl, hs⟩
def opdFits (o : Opd) : Prop := o.var.size ≤ reachBytes ∧ o.attr.size ≤ reachBytes ∧ o.v.s.size ≤ reachBytes
theorem open_opd {n : Nat} {x0 x1 x2 x3 x4 : V} (h : Fit Tryz.prog n 106 [x0, x1, x2, x3, x4]) : ∃ o : Opd, [x0, x1, x2, x3, x4] = encO o ∧ opdFits o := by
 obtain ⟨_, m, _, hf⟩ := h.st Tryz.underlying106
 have h0 : Fit Tryz.prog m 9 (([x0, x1, x2, x3, x4].drop 0).take (Tryz.prog.cellsOf 9)) := hf 0 _ rfl
 have h1 : Fit Tryz.prog m 9 (([x0, x1, x2, x3, x4].drop 1).take (Tryz.prog.cellsOf 9)) := hf 1 _ rfl
 have h2 : Fit Tryz.prog m 104 (([x0, x1, x2, x3, x4].drop 2).take (Tryz.prog.cellsOf 104)) := hf 2 _ rfl
 simp only [co9, co104, List.drop_zero, List.take_succ_cons, List.take_zero, List.drop_succ_cons] at h0 h1 h2
 obtain ⟨s, e0, hs⟩ := h0.str Tryz.underlying9
 obtain ⟨t, e1, ht⟩ := h1.str Tryz.underlying9
 obtain ⟨v, e2, hv⟩ := open_val h2
 simp only [List.cons.injEq, and_true] at e0 e1
 exact ⟨⟨s, t, v⟩, by rw [e0, e1, e2]; rfl, hs, ht, hv⟩
def cndFits (c : Cnd) : Prop := opdFits c.l ∧ opdFits c.r
theorem open_cnd {n : Nat} {us : List V} (hl : us.length = 11) (h : Fit Tryz.prog n 108 us) : ∃ c : Cnd, us = encC c ∧ cndFits c := by
 obtain ⟨_, m, _, hf⟩ := h.st Tryz.underlying108
 have h0 : Fit Tryz.prog m 106 ((us.drop 0).take (Tryz.prog.cellsOf 106)) := hf 0 _ rfl
 have h1 : Fit Tryz.prog m 3 ((us.drop 5).take (Tryz.prog.cellsOf 3)) := hf 1 _ rfl
 have h2 : Fit Tryz.prog m 106 ((us.drop 6).take (Tryz.prog.cellsOf 106)) := hf 2 _ rfl
 obtain ⟨x0, x1, x2, x3, x4, x5, x6, x7, x8, x9, x10, rfl⟩ := len11 hl
 simp only [co106, co3, List.drop_zero, List.take_succ_cons, List.take_zero, List.drop_succ_cons] at h0 h1 h2
 obtain ⟨a, e0, ha⟩ := open_opd h0
 obtain ⟨r, e1, _⟩ := h1.int Tryz.underlying3
 obtain ⟨b, e2, hb⟩ := open_opd h2
 simp only [List.cons.injEq, and_true] at e1
 refine ⟨⟨a, r, b⟩, ?_, ha, hb⟩
 show [x0, x1, x2, x3, x4] ++ [x5] ++ [x6, x7, x8, x9, x10] = encO a ++ [_] ++ encO b
 rw [e0, e1, e2]
def attrFits (a : Attr) : Prop := a.name.size ≤ reachBytes ∧ a.v.s.size ≤ reachBytes
theorem open_attr {n : Nat} {us : List V} (hl : us.length = 4) (h : Fit Tryz.prog n 119 us) : ∃ a : Attr, us = encAttr a ∧ attrFits a := by
 obtain ⟨_, m, _, hf⟩ := h.st Tryz.underlying119
 have h0 : Fit Tryz.prog m 9 ((us.drop 0).take (Tryz.prog.cellsOf 9)) := hf 0 _ rfl
 have h1 : Fit Tryz.prog m 104 ((us.drop 1).take (Tryz.prog.cellsOf 104)) := hf 1 _ rfl
 obtain ⟨x0, x1, x2, x3, rfl⟩ := len4 hl
 simp only [co9, co104, List.drop_zero, List.take_succ_cons, List.take_zero, List.drop_succ_cons] at h0 h1
 obtain ⟨s, e0, hs⟩ := h0.str Tryz.underlying9
 obtain ⟨v, e1, hv⟩ := open_val h1
 simp only [List.cons.injEq, and_true] at e0
 refine ⟨⟨s, v⟩, ?_, hs, hv⟩
 rw [e0, e1]; rfl
theorem inI64_of {x : Int} (h : (Lit.int .i64 x).wf = true) : inI64 x := by
 simp [Lit.wf, IntKind.min, IntKind.max, IntKind.signed, IntKind.bits] at h
 unfold inI64; omega
structure evFits (e : Ev) : Prop where
  type : e.type.size ≤ reachBytes
  len : e.attrs.length * 48 ≤ reachBytes
  attrs : ∀ a ∈ e.attrs, attrFits a
  time : inI64 e.time
theorem open_ev {n : Nat} {us : List V} (hl : us.length = 5) (h : Fit Tryz.prog n 48 us) : ∃ e : Ev, us = encEv e ∧ evFits e := by
 obtain ⟨_, m, _, hf⟩ := h.st Tryz.underlying48
 have h0 : Fit Tryz.prog m 45 ((us.drop 0).take (Tryz.prog.cellsOf 45)) := hf 0 _ rfl
 have h1 : Fit Tryz.prog m 2 ((us.drop 2).take (Tryz.prog.cellsOf 2)) := hf 1 _ rfl
 have h2 : Fit Tryz.prog m 9 ((us.drop 3).take (Tryz.prog.cellsOf 9)) := hf 2 _ rfl
 have h3 : Fit Tryz.prog m 46 ((us.drop 4).take (Tryz.prog.cellsOf 46)) := hf 3 _ rfl
 obtain ⟨x0, x1, x2, x3, x4, rfl⟩ := len5 hl
 simp only [co45, co2, co9, co46, List.drop_zero, List.take_succ_cons, List.take_zero, List.drop_succ_cons] at h0 h1 h2 h3
 obtain ⟨_, m', _, hg⟩ := h0.st Tryz.underlying45
 have g0 : Fit Tryz.prog m' 3 (([x0, x1].drop 0).take (Tryz.prog.cellsOf 3)) := hg 0 _ rfl
 have g1 : Fit Tryz.prog m' 2 (([x0, x1].drop 1).take (Tryz.prog.cellsOf 2)) := hg 1 _ rfl
 simp only [co3, co2, List.drop_zero, List.take_succ_cons, List.take_zero, List.drop_succ_cons] at g0 g1
 obtain ⟨a, e0, _⟩ := g0.int Tryz.underlying3
 obtain ⟨b, e1, _⟩ := g1.int Tryz.underlying2
 obtain ⟨c, e2, hc⟩ := h1.int Tryz.underlying2
 obtain ⟨s, e3, hs⟩ := h2.str Tryz.underlying9
 obtain ⟨es, e4, hes, k, _, hk⟩ := h3.sl Tryz.underlying46
 simp only [co119] at hk
 obtain ⟨l, rfl, hl⟩ := rows_of (f := encAttr) (p := attrFits) fun x hx => open_attr (hk x hx).1 (hk x hx).2
 simp only [List.cons.injEq, and_true] at e0 e1 e2 e3 e4
 refine ⟨⟨a, b, c, s, l⟩, by rw [e0, e1, e2, e3, e4]; rfl, hs, ?_, hl, inI64_of hc⟩
 rw [List.length_map, by119] at hes; exact hes
theorem evFits.ok {e : Ev} (h : evFits e) : okE e := by
 have hr : reachBytes = 140737488351232 := rfl
 obtain ⟨h1, h2, h3, _⟩ := h
 exact ⟨by omega, by omega, fun a ha => by obtain ⟨h5, h6⟩ := h3 a ha; exact ⟨by omega, by omega⟩⟩
structure bdFits (b : Bd) : Prop where
  var : b.var.size ≤ reachBytes
  ev : evFits b.ev
theorem open_bd {n : Nat} {us : List V} (hl : us.length = 6) (h : Fit Tryz.prog n 50 us) : ∃ b : Bd, us = encBd b ∧ bdFits b := by
 obtain ⟨_, m, _, hf⟩ := h.st Tryz.underlying50
 have h0 : Fit Tryz.prog m 9 ((us.drop 0).take (Tryz.prog.cellsOf 9)) := hf 0 _ rfl
 have h1 : Fit Tryz.prog m 48 ((us.drop 1).take (Tryz.prog.cellsOf 48)) := hf 1 _ rfl
 obtain ⟨x0, x1, x2, x3, x4, x5, rfl⟩ := len6 hl
 simp only [co9, co48, List.drop_zero, List.take_succ_cons, List.take_zero, List.drop_succ_cons] at h0 h1
 obtain ⟨s, e0, hs⟩ := h0.str Tryz.underlying9
 obtain ⟨v, e1, hv⟩ := open_ev rfl h1
 simp only [List.cons.injEq, and_true] at e0
 refine ⟨⟨s, v⟩, ?_, hs, hv⟩
 rw [e0, e1]; rfl
theorem okB_of {b : Bd} (h : bdFits b) : okB b := by
 have hr : reachBytes = 140737488351232 := rfl
 exact ⟨by have := h.var; omega, h.ev.ok⟩
theorem open_part {n : Nat} {us : List V} (hl : us.length = 1) (h : Fit Tryz.prog n 40 us) : ∃ l : List Bd, us = [.sl (l.map encBd)] ∧ (∀ b ∈ l, bdFits b) ∧ l.length * 80 ≤ reachBytes := by
 obtain ⟨_, m, _, hf⟩ := h.st Tryz.underlying40
 have h0 : Fit Tryz.prog m 38 ((us.drop 0).take (Tryz.prog.cellsOf 38)) := hf 0 _ rfl
 obtain ⟨x0, rfl⟩ := len1 hl
 simp only [co38, List.drop_zero, List.take_succ_cons, List.take_zero, List.drop_succ_cons] at h0
 obtain ⟨es, e4, hes, k, _, hk⟩ := h0.sl Tryz.underlying38
 simp only [co50] at hk
 obtain ⟨l, rfl, hl⟩ := rows_of (f := encBd) (p := bdFits) fun x hx => open_bd (hk x hx).1 (hk x hx).2
 refine ⟨l, e4, hl, ?_⟩
 rw [List.length_map, by50] at hes; exact hes
theorem okC_of {c : Cnd} (h : cndFits c) : okC c := by
 have hr : reachBytes = 140737488351232 := rfl
 obtain ⟨⟨h1, h2, h3⟩, h4, h5, h6⟩ := h
 exact ⟨⟨by omega⟩, ⟨by omega⟩⟩
theorem open_conds {n : Nat} {x : V} (h : Fit Tryz.prog n 22 [x]) : ∃ l : List Cnd, x = .sl (l.map encC) ∧ (∀ c ∈ l, okC c) ∧ l.length < 4611686018427387904 := by
 have hr : reachBytes = 140737488351232 := rfl
 obtain ⟨es, e4, hes, k, _, hk⟩ := h.sl Tryz.underlying22
 simp only [co108] at hk
 obtain ⟨l, rfl, hl⟩ := rows_of (f := encC) (p := cndFits) fun x hx => open_cnd (hk x hx).1 (hk x hx).2
 simp only [List.cons.injEq, and_true] at e4
 refine ⟨l, e4, fun c hc => okC_of (hl c hc), ?_⟩
 rw [List.length_map, by108] at hes; omega
theorem open_nd : ∀ (n : Nat) (us : List V), us.length = 5 → Fit Tryz.prog n 25 us → ∃ nd : Nd, us = encNd nd ∧ nd.ok := by
  intro n
  induction n using Nat.strongRecOn with
  | _ n ih =>
    intro us hl h
    have hr : reachBytes = 140737488351232 := rfl
    obtain ⟨_, m, hm, hf⟩ := h.st Tryz.underlying25
    have h0 : Fit Tryz.prog m 3 ((us.drop 0).take (Tryz.prog.cellsOf 3)) := hf 0 _ rfl
    have h1 : Fit Tryz.prog m 9 ((us.drop 1).take (Tryz.prog.cellsOf 9)) := hf 1 _ rfl
    have h2 : Fit Tryz.prog m 9 ((us.drop 2).take (Tryz.prog.cellsOf 9)) := hf 2 _ rfl
    have h3 : Fit Tryz.prog m 22 ((us.drop 3).take (Tryz.prog.cellsOf 22)) := hf 3 _ rfl
    have h4 : Fit Tryz.prog m 23 ((us.drop 4).take (Tryz.prog.cellsOf 23)) := hf 4 _ rfl
    obtain ⟨x0, x1, x2, x3, x4, rfl⟩ := len5 hl
    simp only [co3, co9, co22, co23, List.drop_zero, List.take_succ_cons, List.take_zero, List.drop_succ_cons] at h0 h1 h2 h3 h4
    obtain ⟨a, e0, _⟩ := h0.int Tryz.underlying3
    obtain ⟨s, e1, hs⟩ := h1.str Tryz.underlying9
    obtain ⟨t, e2, ht⟩ := h2.str Tryz.underlying9
    obtain ⟨cs, e3, hcs, hcl⟩ := open_conds h3
    obtain ⟨es, e4, hes, k, hkm, hk⟩ := h4.sl Tryz.underlying23
    simp only [co25] at hk
    obtain ⟨l, rfl, hl⟩ := rows_of (f := encNd) (p := Nd.ok) fun x hx => ih k (by omega) x (hk x hx).1 (hk x hx).2
    simp only [List.cons.injEq, and_true] at e0 e1 e2 e4
    refine ⟨⟨a, s, t, cs, l⟩, by rw [e0, e1, e2, e3, e4, encNd_eq]; rfl, ?_⟩
    rw [Nd.ok_eq]
    refine ⟨⟨by show s.size < _; omega, by show t.size < _; omega, hcl, hcs⟩, fun p hp => ?_⟩
    obtain ⟨x, hx, rfl⟩ := List.mem_map.1 hp
    exact hl x hx
theorem open_pat {n : Nat} {us : List V} (hl : us.length = 8) (h : Fit Tryz.prog n 37 us) : ∃ p : Pat, us = encPat p ∧ p.name.size < 4611686018427387904 ∧ p.node.ok ∧ p.conds.length < 4611686018427387904 ∧ (∀ c ∈ p.conds, okC c) ∧ inI64 p.within := by
 have hr : reachBytes = 140737488351232 := rfl
 obtain ⟨_, m, _, hf⟩ := h.st Tryz.underlying37
 have h0 : Fit Tryz.prog m 9 ((us.drop 0).take (Tryz.prog.cellsOf 9)) := hf 0 _ rfl
 have h1 : Fit Tryz.prog m 2 ((us.drop 1).take (Tryz.prog.cellsOf 2)) := hf 1 _ rfl
 have h2 : Fit Tryz.prog m 25 ((us.drop 2).take (Tryz.prog.cellsOf 25)) := hf 2 _ rfl
 have h3 : Fit Tryz.prog m 22 ((us.drop 7).take (Tryz.prog.cellsOf 22)) := hf 3 _ rfl
 obtain ⟨x0, x1, x2, x3, x4, x5, x6, x7, rfl⟩ := len8 hl
 simp only [co9, co2, co25, co22, List.drop_zero, List.take_succ_cons, List.take_zero, List.drop_succ_cons] at h0 h1 h2 h3
 obtain ⟨s, e0, hs⟩ := h0.str Tryz.underlying9
 obtain ⟨w, e1, hw⟩ := h1.int Tryz.underlying2
 obtain ⟨nd, e2, hn⟩ := open_nd m _ rfl h2
 obtain ⟨cs, e3, hcs, hcl⟩ := open_conds h3
 simp only [List.cons.injEq, and_true] at e0 e1
 refine ⟨⟨s, w, nd, cs⟩, ?_, by show s.size < _; omega, hn, hcl, hcs, inI64_of hw⟩
 show [x0, x1] ++ [x2, x3, x4, x5, x6] ++ [x7] = _
 rw [e0, e1, e2, e3, encNd_eq]; rfl
def plainTs : List TypeId := [25, 23, 22, 108, 106, 104, 26, 48, 45, 46, 119, 37, 40, 38, 50, 9, 3, 2, 5]
theorem plain_ok : plainB Tryz.prog plainTs = true := by kernel_rfl
theorem okWide_agg {P : Program} {W : World} {r : Reach} {base : Nat} {t : TypeId} {fs : Array Field} {v : Value} (hu : P.underlying t = some (.struct fs)) (h : Value.okWide P W r base t v) : ∃ cs, v = .agg cs ∧ cs.size = P.cellsOf t := by
 simp only [Value.okWide, hu] at h
 obtain ⟨cs, h1, h2, _⟩ := h
 exact ⟨cs, h1, h2⟩
section
variable {H : Type} {enc : TypeId × Value → H} {W : World} {base : Nat} {v : Value} {d : DataW H} {ps : List MemPlace}
theorem arg_pat (hval : Value.okWide Tryz.prog W .any base 37 v)
  (h : DataW.Trod enc Tryz.prog W 0 (fun _ => true) true 37 v d ps) (hw : ∀ n ∈ d.weights Tryz.prog 37, n ≤ reachBytes) : ∃ p : Pat, VR W (cx0 W) (.agg (encPat p)) v ∧ VRs W (cx0 W) (encPat p) v.cells.toList ∧ p.name.size < 4611686018427387904 ∧ p.node.ok ∧ p.conds.length < 4611686018427387904 ∧ (∀ c ∈ p.conds, okC c) ∧ inI64 p.within := by
 obtain ⟨n, us, h1, h2⟩ := open_arg (P := Tryz.prog) (t := 37) plainTs plain_ok (by decide) h hw
 obtain ⟨cs, rfl, hcs⟩ := okWide_agg Tryz.underlying37 hval
 have hl : us.length = 8 := by rw [h1.1]; simpa [Value.cells, co37] using hcs
 obtain ⟨p, rfl, hok⟩ := open_pat hl h2
 exact ⟨p, VR.of_row h1, h1, hok⟩
theorem arg_part (hval : Value.okWide Tryz.prog W .any base 40 v)
  (h : DataW.Trod enc Tryz.prog W 0 (fun _ => true) true 40 v d ps) (hw : ∀ n ∈ d.weights Tryz.prog 40, n ≤ reachBytes) : ∃ l : List Bd, VR W (cx0 W) (.agg [.sl (l.map encBd)]) v ∧ VRs W (cx0 W) [.sl (l.map encBd)] v.cells.toList ∧ (∀ b ∈ l, bdFits b) ∧ l.length * 80 ≤ reachBytes := by
 obtain ⟨n, us, h1, h2⟩ := open_arg (P := Tryz.prog) (t := 40) plainTs plain_ok (by decide) h hw
 obtain ⟨cs, rfl, hcs⟩ := okWide_agg Tryz.underlying40 hval
 have hl : us.length = 1 := by rw [h1.1]; simpa [Value.cells, co40] using hcs
 obtain ⟨l, rfl, hok⟩ := open_part hl h2
 exact ⟨l, VR.of_row h1, h1, hok⟩
end
end Go.Abs.M
namespace Go.Abs.M
set_option maxHeartbeats 4000000
open Go Go.Abs Go.Proofs
open Go.Proofs.YtkijhgplmikboaaGreat.Rows (uptoBulk uptoBulkAll)
set_option maxRecDepth 20000
theorem bulk_le {H : Type} : ∀ {d : DataW H} {l : List (DataW H)}, d ∈ l → uptoBulk d ≤ uptoBulkAll l
  | d, x :: l, h => by
    simp only [uptoBulkAll]
    rcases List.mem_cons.1 h with rfl | h
    · omega
    · have := bulk_le h; omega
theorem bulk_one {H : Type} (d : DataW H) : 1 ≤ uptoBulk d := by
 cases d with
 | lit l => cases l <;> simp [uptoBulk]
 | nil => simp [uptoBulk]
 | ptr d => simp [uptoBulk]
 | slice elems spare => simp [uptoBulk]
 | agg parts => simp [uptoBulk]
 | iface t d => simp [uptoBulk]
 | map entries => simp [uptoBulk]
 | held h => simp [uptoBulk]
theorem bulk_len {H : Type} : ∀ l : List (DataW H), l.length ≤ uptoBulkAll l
  | [] => by simp [uptoBulkAll]
  | d :: l => by
    have h1 := bulk_len l
    have h2 := bulk_one d
    simp only [uptoBulkAll, List.length_cons]; omega
theorem bulk_sum {H : Type} {n : Nat} (D : Nat → DataW H) : ∀ (l : List Nat) (o : Nat), (∀ i x, l[i]? = some x → x ≤ uptoBulk (D (o + i))) → l.sum ≤ uptoBulkAll ((List.range l.length).map fun i => D (o + i))
  | [], o, _ => by simp [uptoBulkAll]
  | x :: l, o, h => by
    have h0 := h 0 x rfl
    have h1 := bulk_sum (n := n) D l (o + 1) fun i y hy => by
      have := h (i + 1) y (by simpa using hy)
      rwa [show o + (i + 1) = o + 1 + i by omega] at this
    rw [List.length_cons, List.range_succ_eq_map, List.map_cons, List.sum_cons]
    simp only [uptoBulkAll, Nat.add_zero, List.map_map] at h0 ⊢
    have e : (List.range l.length).map ((fun i => D (o + i)) ∘ Nat.succ) = (List.range l.length).map fun i => D (o + 1 + i) := List.map_congr_left fun i _ => by
      show D (o + (i + 1)) = _
      rw [show o + (i + 1) = o + 1 + i by omega]
    rw [e]; omega
theorem nd_bulk {H : Type} {enc : TypeId × Value → H} {W : World} : ∀ (nd : Nd) (fuel : Nat) (cs : List Value) (d : DataW H) (ps : List MemPlace),
    DataW.trod enc Tryz.prog W 0 (fun _ => true) true fuel 25 cs = some (d, ps) → VRs W (cx0 W) (encNd nd) cs → nd.size ≤ uptoBulk d := Nd.ind fun nd ih fuel cs d ps h hv => by
  obtain ⟨xs, n, _, hx, hcl, hxl, hfs⟩ := DataW.trod_struct Tryz.underlying25 h
  simp only [Prod.mk.injEq] at hx
  obtain ⟨rfl, -⟩ := hx
  have h4 := hfs 4 _ rfl
  rw [List.getElem?_eq_getElem (by rw [hxl]; decide)] at h4
  generalize hy : xs[4]'(by rw [hxl]; decide) = y at h4
  have hym : y.1 ∈ xs.map (·.1) := List.mem_map.2 ⟨y, by rw [← hy]; exact List.getElem_mem _, rfl⟩
  obtain ⟨yd, yp⟩ := y
  have hb := bulk_le hym
  have hd : uptoBulk (DataW.agg (xs.map (·.1))) = uptoBulkAll (xs.map (·.1)) + 1 := by simp [uptoBulk]
  rw [co25] at hcl
  have hcv : ∃ c, (cs.drop 4).take 1 = [c] ∧ cs[4]? = some c := by
    match cs, hcl with
    | [a, b, c, d, e], _ => exact ⟨e, rfl, rfl⟩
  obtain ⟨c, hc1, hc2⟩ := hcv
  have h4 : DataW.trod enc Tryz.prog W 0 (fun _ => true) true n 23 ((cs.drop 4).take 1) = some (yd, yp) := h4
  rw [hc1] at h4
  have hk : VR W (cx0 W) (.sl (nd.kids.map encNd)) c := hv.2.2 4 _ c (by rw [encNd_eq]; rfl) hc2
  rw [Nd.size_eq, hd]
  suffices hs : (nd.kids.map Nd.size).sum + 1 ≤ uptoBulk yd by
    have : uptoBulk yd ≤ uptoBulkAll (xs.map (·.1)) := hb
    omega
  rcases Go.Deep.open_slice Tryz.underlying23 h4 with ⟨h1, h2⟩ | ⟨a, len, cap, m, n', D, Pl, h1, _, hlc, _, hm, h2, hel⟩
  · injection h1 with h1
    subst h1
    generalize hes : nd.kids.map encNd = es at hk
    cases hk with
    | nils =>
      have : nd.kids = [] := List.map_eq_nil_iff.1 hes
      rw [this]
      exact bulk_one yd
  · injection h1 with h1
    subst h1
    have hm : m = cap := by simpa using hm
    have hyd : yd = .slice ((List.range len).map D) ((List.range (m - len)).map fun j => D (len + j)) := congrArg Prod.fst h2
    rw [hyd]
    simp only [uptoBulk]
    suffices hs : (nd.kids.map Nd.size).sum ≤ uptoBulkAll ((List.range len).map D) by omega
    generalize hes : nd.kids.map encNd = es at hk
    have hkl : nd.kids.length = es.length := by rw [← hes, List.length_map]
    cases hk with
    | nile =>
      have : nd.kids = [] := List.map_eq_nil_iff.1 hes
      rw [this]; simp
    | sl f hI hcap hlen hc hr h1 =>
      have hsum := bulk_sum (n := 0) D (nd.kids.map Nd.size) 0 fun i x hx => ?_
      · rw [List.length_map, hkl] at hsum
        simpa using hsum
      · rw [List.getElem?_map, Option.map_eq_some_iff] at hx
        obtain ⟨k, hki, rfl⟩ := hx
        have hkm := List.mem_of_getElem? hki
        have hil : i < es.length := by rw [← hkl]; exact (List.getElem?_eq_some_iff.1 hki).1
        have hei : es[i]? = some (encNd k) := by rw [← hes, List.getElem?_map, hki]; rfl
        obtain ⟨cs', hc1', hc2'⟩ := hel i (by omega)
        rw [co25] at hc1'
        obtain ⟨_, hcl', hce'⟩ := World.cells?_some hc1'
        rw [Nat.zero_add]
        have hsz := hlen i _ hei
        rw [encNd_len] at hsz
        subst hsz
        have hcell : ∀ j, j < 5 → cs'[j]? = some (f i j) := fun j hj => by
          have h5 := hce' j hj
          rw [Addr.add_lit, Addr.add_lit] at h5
          rw [← h5]; exact hc i j hil hj
        refine ih k hkm n' cs' _ _ hc2' ⟨by rw [encNd_len, hcl'], fun x hx => ?_, fun j v x hv hx => ?_⟩
        · obtain ⟨j, hj⟩ := List.getElem?_of_mem hx
          have hj5 : j < 5 := by rw [← hcl']; exact (List.getElem?_eq_some_iff.1 hj).1
          rw [hcell j hj5] at hj
          injection hj with hj
          rw [← hj]; exact h1 i j hil hj5
        · have hj5 : j < 5 := by rw [← hcl']; exact (List.getElem?_eq_some_iff.1 hx).1
          rw [hcell j hj5] at hx
          injection hx with hx
          rw [← hx]; exact hr i _ j v hei hv
theorem trod_mono {H : Type} {x : DataW H} {l : List (DataW H)} (h : x ∈ l) : uptoBulk x + 1 ≤ uptoBulk (DataW.agg l) := by
 have := bulk_le h
 simp only [uptoBulk]; omega
theorem pat_bulk {H : Type} {enc : TypeId × Value → H} {W : World} {v : Value} {d : DataW H} {ps : List MemPlace} {p : Pat} (h : DataW.Trod enc Tryz.prog W 0 (fun _ => true) true 37 v d ps) (hv : VRs W (cx0 W) (encPat p) v.cells.toList) : p.node.size ≤ uptoBulk d := by
 obtain ⟨fuel, h⟩ := h
 generalize v.cells.toList = cs at h hv
 obtain ⟨xs, n, _, hx, hcl, hxl, hfs⟩ := DataW.trod_struct Tryz.underlying37 h
 simp only [Prod.mk.injEq] at hx
 obtain ⟨rfl, -⟩ := hx
 have h4 := hfs 2 _ rfl
 rw [List.getElem?_eq_getElem (by rw [hxl]; decide)] at h4
 generalize hy : xs[2]'(by rw [hxl]; decide) = y at h4
 have hym : y.1 ∈ xs.map (·.1) := List.mem_map.2 ⟨y, by rw [← hy]; exact List.getElem_mem _, rfl⟩
 obtain ⟨yd, yp⟩ := y
 have hb := trod_mono hym
 have h4 : DataW.trod enc Tryz.prog W 0 (fun _ => true) true n 25 ((cs.drop 2).take (Tryz.prog.cellsOf 25)) = some (yd, yp) := h4
 rw [co25] at h4
 have hn : VRs W (cx0 W) (encNd p.node) ((cs.drop 2).take 5) := by
  rw [co37] at hcl
  refine ⟨by rw [encNd_len]; simp [hcl], fun x hx => hv.2.1 x (List.mem_of_mem_drop (List.mem_of_mem_take hx)), fun j u x hu hx => ?_⟩
  have hj : j < 5 := by rw [← encNd_len p.node]; exact (List.getElem?_eq_some_iff.1 hu).1
  rw [List.getElem?_take, if_pos hj, List.getElem?_drop] at hx
  refine hv.2.2 (2 + j) u x ?_ hx
  have e : encPat p = [.c (.string p.name), .c (.int .i64 p.within)] ++ (encNd p.node ++ [.sl (p.conds.map encC)]) := by rw [encNd_eq]; rfl
  rw [e, List.getElem?_append_right (by simp), show 2 + j - [V.c (.string p.name), .c (.int .i64 p.within)].length = j by simp, List.getElem?_append_left (by rw [encNd_len]; exact hj)]
  exact hu
 have := nd_bulk p.node n _ yd yp h4 hn
 have hb : uptoBulk yd + 1 ≤ uptoBulk (DataW.agg (xs.map (·.1))) := hb
 show p.node.size ≤ uptoBulk (DataW.agg (xs.map (·.1)))
 omega
theorem part_bulk {H : Type} {enc : TypeId × Value → H} {W : World} {v : Value} {d : DataW H} {ps : List MemPlace} {l : List Bd} (h : DataW.Trod enc Tryz.prog W 0 (fun _ => true) true 40 v d ps) (hv : VRs W (cx0 W) [.sl (l.map encBd)] v.cells.toList) : l.length < uptoBulk d := by
  obtain ⟨fuel, h⟩ := h
  generalize v.cells.toList = cs at h hv
  obtain ⟨xs, n, _, hx, hcl, hxl, hfs⟩ := DataW.trod_struct Tryz.underlying40 h
  simp only [Prod.mk.injEq] at hx
  obtain ⟨rfl, -⟩ := hx
  have h4 := hfs 0 _ rfl
  rw [List.getElem?_eq_getElem (by rw [hxl]; decide)] at h4
  generalize hy : xs[0]'(by rw [hxl]; decide) = y at h4
  have hym : y.1 ∈ xs.map (·.1) := List.mem_map.2 ⟨y, by rw [← hy]; exact List.getElem_mem _, rfl⟩
  obtain ⟨yd, yp⟩ := y
  have hb : uptoBulk yd + 1 ≤ uptoBulk (DataW.agg (xs.map (·.1))) := trod_mono hym
  have h4 : DataW.trod enc Tryz.prog W 0 (fun _ => true) true n 38 ((cs.drop 0).take (Tryz.prog.cellsOf 38)) = some (yd, yp) := h4
  rw [co38, List.drop_zero] at h4
  rw [co40] at hcl
  obtain ⟨c, rfl⟩ : ∃ c, cs = [c] := by
    match cs, hcl with
    | [c], _ => exact ⟨c, rfl⟩
  have hk : VR W (cx0 W) (.sl (l.map encBd)) c := hv.2.2 0 _ c rfl rfl
  suffices hs : l.length ≤ uptoBulk yd by omega
  rcases Go.Deep.open_slice Tryz.underlying38 h4 with ⟨h1, h2⟩ | ⟨a, len, cap, m, n', D, Pl, h1, _, hlc, _, hm, h2, hel⟩
  · injection h1 with h1
    subst h1
    generalize hes : l.map encBd = es at hk
    cases hk with
    | nils =>
      have : l = [] := List.map_eq_nil_iff.1 hes
      rw [this]; exact Nat.zero_le _
  · injection h1 with h1
    subst h1
    have hyd : yd = .slice ((List.range len).map D) ((List.range (m - len)).map fun j => D (len + j)) := congrArg Prod.fst h2
    have h3 := bulk_len ((List.range len).map D)
    rw [List.length_map, List.length_range] at h3
    rw [hyd]
    simp only [uptoBulk]
    generalize hes : l.map encBd = es at hk
    have hkl : l.length = es.length := by rw [← hes, List.length_map]
    cases hk with
    | nile =>
      have : l = [] := List.map_eq_nil_iff.1 hes
      rw [this]; simp
    | sl f hI hcap hlen hc hr h1 => omega
end Go.Abs.M
