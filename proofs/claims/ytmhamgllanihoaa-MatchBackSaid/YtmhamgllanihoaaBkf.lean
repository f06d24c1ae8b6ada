import Derived.Test.YtmhamgllanihoaaBke
namespace Go.Abs.M
open Go Go.Abs Go.Proofs
set_option maxRecDepth 20000
set_option linter.unusedSimpArgs false
set_option linter.unusedVariables false
theorem strOf_size (t : List Nat) : (strOf t).size = t.length := by simp [strOf, ByteArray.size]
def goodA (a : Attr) : Prop := a.name.size < 4611686018427387904 ∧ a.v.s.size < 4611686018427387904
theorem attrP_at {b : List Nat} {q q2 : Nat} {e e2 : Int} {t : List Nat} (h : Lnk b q e textP t q2 e2) {q3 : Nat} {e3 : Int} {k : Nat} (h2 : Lnk b q2 e2 (bitsP 2) k q3 e3) :
    At b q e attrP = At b q3 e3 (Prs.bind (if k = 1 then Prs.bind numP fun n => Prs.ret ⟨1, n, ⟨#[]⟩⟩ else if k = 2 then Prs.bind textP fun t => Prs.ret ⟨2, 0, strOf t⟩ else Prs.err 40) fun v => Prs.ret ⟨strOf t, v⟩) := by
  unfold attrP
  rw [h.next]
  unfold valP
  rw [bind_assoc, h2.next]
theorem rdAttr_spec (g r : Nat) (b : List Nat) (q : Nat) (e : Int) (σ : Hp) (hs : RS g r b q e σ) (hb : b.length < 140737488355329) (hb256 : ∀ x ∈ b, x < 256) :
    ACalls Try.prog 157 [ptrV r] σ (Stp g r b q e attrP (fun a => .agg (encAttr a)) goodA σ) := by
  refine ACalls.intro Try.call157 Try.func157 rfl Try.ntmps157 Try.results157 (by simp) ?_
  refine AW.seq_k fun K1 h1 => ?_
  all_goals refine AW.reg0 ?_
  all_goals (refine S.g rfl rfl fun K' k' => ?_; simp only [zz, reduceIte, Nat.reduceEqDiff, Nat.reduceLT, Nat.reduceLeDiff, Nat.reduceAdd, reduceCtorEq, Nat.reduceMul, zt143]; refine k' _ _ ?_; clear k' K')
  all_goals refine S.nil ?_
  all_goals simp only [ze, reduceIte, Nat.reduceEqDiff, Nat.reduceLT, Nat.reduceLeDiff, Nat.reduceAdd, reduceCtorEq, Nat.reduceMul]
  all_goals apply_assumption
  refine AW.seq_k fun K2 h2 => ?_
  all_goals refine AW.reg0 ?_
  all_goals (refine S.g rfl rfl fun K' k' => ?_; simp only [zz, reduceIte, Nat.reduceEqDiff, Nat.reduceAdd, pw]; refine k' _ _ ?_; clear k' K')
  all_goals (refine S.g rfl rfl fun K' k' => ?_; simp only [zz, reduceIte, Nat.reduceEqDiff, Nat.reduceLT, Nat.reduceLeDiff, Nat.reduceAdd, reduceCtorEq, Nat.reduceMul, pw]; refine (rdText_spec g r b q e _ hs hb hb256).to fun v σ2 hv => ?_; obtain ⟨t, q2, e2, rfl, ht, hs2, hf2, hL1⟩ := hv <;> (refine k' _ _ ?_; clear k' K'))
  all_goals (refine S.g rfl rfl fun K' k' => ?_; simp only [zz, reduceIte, Nat.reduceEqDiff, Nat.reduceLT, Nat.reduceLeDiff, Nat.reduceAdd, reduceCtorEq, Nat.reduceMul, zt143, pl143, pw]; refine k' _ _ ?_; clear k' K')
  all_goals iterate 2 (refine S.g rfl rfl fun K' k' => ?_; simp only [zz, reduceIte, Nat.reduceEqDiff, Nat.reduceLT, Nat.reduceLeDiff, Nat.reduceAdd, reduceCtorEq, Nat.reduceMul, zt143, ok143, sz143, ag143, pw]; refine k' _ _ ?_; clear k' K')
  all_goals refine S.nil ?_
  all_goals simp only [ze, reduceIte, Nat.reduceEqDiff, Nat.reduceLT, Nat.reduceLeDiff, Nat.reduceAdd, reduceCtorEq, Nat.reduceMul, pw]
  all_goals apply_assumption
  refine AW.seq_k fun K3 h3 => ?_
  refine AW.seq_k fun K4 h4 => ?_
  all_goals refine AW.reg0 ?_
  all_goals (refine S.g rfl rfl fun K' k' => ?_; simp only [zz, reduceIte, Nat.reduceEqDiff, Nat.reduceAdd, pw, Nat.reduceLT, Nat.reduceLeDiff]; refine k' _ _ ?_; clear k' K')
  all_goals (refine S.g rfl rfl fun K' k' => ?_; simp only [zz, reduceIte, Nat.reduceEqDiff, Nat.reduceLT, Nat.reduceLeDiff, Nat.reduceAdd, reduceCtorEq, Nat.reduceMul, pw, Nat.reduceLT, Nat.reduceLeDiff]; refine (rdBits_spec g r b q2 2 e2 _ hs2 hb hb256 (by omega)).to fun v σ3 hv => ?_; obtain ⟨k, q3, e3, rfl, hk, hs3, hf3, hL2⟩ := hv <;> (refine k' _ _ ?_; clear k' K'))
  all_goals iterate 3 (refine S.g rfl rfl fun K' k' => ?_; simp only [zz, reduceIte, Nat.reduceEqDiff, Nat.reduceLT, Nat.reduceLeDiff, Nat.reduceAdd, reduceCtorEq, Nat.reduceMul, of143_1, of141_0, ok3, sz3, ag3, pw, Nat.reduceLT, Nat.reduceLeDiff]; refine k' _ _ ?_; clear k' K')
  all_goals refine S.nil ?_
  all_goals simp only [ze, reduceIte, Nat.reduceEqDiff, Nat.reduceLT, Nat.reduceLeDiff, Nat.reduceAdd, reduceCtorEq, Nat.reduceMul, pw, Nat.reduceLT, Nat.reduceLeDiff]
  all_goals apply_assumption
  have hA := attrP_at hL1 hL2
  have hk1 : ((k : Int) == 1) = _ := eqI k 1
  have hk2 : ((k : Int) == 2) = _ := eqI k 2
  refine AW.seq_k fun K5 h5 => ?_
  all_goals refine AW.reg0 ?_
  all_goals iterate 3 (refine S.g rfl rfl fun K' k' => ?_; simp only [zz, reduceIte, Nat.reduceEqDiff, Nat.reduceLT, Nat.reduceLeDiff, Nat.reduceAdd, reduceCtorEq, Nat.reduceMul, of143_1, of141_0, ok3, sz3, ag3]; refine k' _ _ ?_; clear k' K')
  all_goals refine S.nil ?_
  all_goals simp only [ze, reduceIte, Nat.reduceEqDiff, Nat.reduceLT, Nat.reduceLeDiff, Nat.reduceAdd, reduceCtorEq, Nat.reduceMul]
  all_goals apply_assumption
  refine AW.block ?_   -- 0
  refine AW.seq_k fun K6 h6 => ?_
  all_goals refine AW.reg0 ?_
  all_goals iterate 2 (refine S.g rfl rfl fun K' k' => ?_; simp only [zz, reduceIte, Nat.reduceEqDiff, Nat.reduceAdd, hk1]; refine k' _ _ ?_; clear k' K')
  all_goals refine S.nil ?_
  all_goals simp only [ze, reduceIte, Nat.reduceEqDiff, Nat.reduceLT, Nat.reduceLeDiff, Nat.reduceAdd, reduceCtorEq, Nat.reduceMul, hk1]
  all_goals apply_assumption
  have hg : ∀ x : ByteArray, x.size ≤ 2251799813685248 → ∀ m n : Int, goodA ⟨strOf t, ⟨m, n, x⟩⟩ := fun x hx m n => ⟨by show (strOf t).size < _; rw [strOf_size]; omega, by show x.size < _; omega⟩
  refine AW.cond (b := decide (k = 1)) (by simp [ev]) (fun hc => ?_) (fun hc => ?_)
  · have hc := of_decide_eq_true hc
    rw [if_pos hc, bind_assoc] at hA
    all_goals refine AW.reg0 ?_
    all_goals (refine S.g rfl rfl fun K' k' => ?_; simp only [zz, reduceIte, Nat.reduceEqDiff, Nat.reduceAdd, pw]; refine k' _ _ ?_; clear k' K')
    all_goals (refine S.g rfl rfl fun K' k' => ?_; simp only [zz, reduceIte, Nat.reduceEqDiff, Nat.reduceLT, Nat.reduceLeDiff, Nat.reduceAdd, reduceCtorEq, Nat.reduceMul, pw]; refine (rdNum_spec g r b q3 e3 _ hs3 hb hb256).to fun v σ4 hv => ?_; obtain ⟨n, q4, e4, rfl, _, hs4, hf4, hL3⟩ := hv <;> (refine k' _ _ ?_; clear k' K'))
    all_goals iterate 3 (refine S.g rfl rfl fun K' k' => ?_; simp only [zz, reduceIte, Nat.reduceEqDiff, Nat.reduceLT, Nat.reduceLeDiff, Nat.reduceAdd, reduceCtorEq, Nat.reduceMul, of143_1, of141_1, ok2, sz2, ag2, pw]; refine k' _ _ ?_; clear k' K')
    all_goals refine S.nil ?_
    all_goals simp only [ze, reduceIte, Nat.reduceEqDiff, Nat.reduceLT, Nat.reduceLeDiff, Nat.reduceAdd, reduceCtorEq, Nat.reduceMul, pw]
    all_goals apply_assumption
    rw [hL3.next, ret_bind] at hA
    refine AW.seq_k fun K7 h7 => ?_
    all_goals refine AW.reg0 ?_
    all_goals iterate 2 (refine S.g rfl rfl fun K' k' => ?_; simp only [zz, reduceIte, Nat.reduceEqDiff, Nat.reduceLT, Nat.reduceLeDiff, Nat.reduceAdd, reduceCtorEq, Nat.reduceMul, ok143, sz143, ag143]; refine k' _ _ ?_; clear k' K')
    all_goals refine S.nil ?_
    all_goals simp only [ze, reduceIte, Nat.reduceEqDiff, Nat.reduceLT, Nat.reduceLeDiff, Nat.reduceAdd, reduceCtorEq, Nat.reduceMul]
    all_goals apply_assumption
    refine AW.ret ?_
    all_goals simp only [zs, reduceIte, Nat.reduceEqDiff, Nat.reduceLT, Nat.reduceLeDiff, Nat.reduceAdd, reduceCtorEq, Nat.reduceMul, ok143, sz143, ag143, cut, List.drop_zero, List.take_succ_cons, List.take_zero]
    all_goals simp only [zz, Bool.false_eq_true, if_true, reduceIte, not_false_eq_true, true_and]
    exact ⟨⟨strOf t, ⟨1, n, ⟨#[]⟩⟩⟩, q4, e4, by simp [encAttr, hc], hg _ (by decide) _ _, hs4, hf2.trans (hf3.trans hf4), Lnk.of hA⟩
  · have hc := of_decide_eq_false hc
    rw [if_neg hc] at hA
    refine AW.seq_k fun K8 h8 => ?_
    all_goals refine AW.reg0 ?_
    all_goals iterate 2 (refine S.g rfl rfl fun K' k' => ?_; simp only [zz, reduceIte, Nat.reduceEqDiff, Nat.reduceAdd, hk2]; refine k' _ _ ?_; clear k' K')
    all_goals refine S.nil ?_
    all_goals simp only [ze, reduceIte, Nat.reduceEqDiff, Nat.reduceLT, Nat.reduceLeDiff, Nat.reduceAdd, reduceCtorEq, Nat.reduceMul, hk2]
    all_goals apply_assumption
    refine AW.cond (b := decide (k = 2)) (by simp [ev]) (fun hd => ?_) (fun hd => ?_)
    · have hd := of_decide_eq_true hd
      rw [if_pos hd, bind_assoc] at hA
      all_goals refine AW.reg0 ?_
      all_goals (refine S.g rfl rfl fun K' k' => ?_; simp only [zz, reduceIte, Nat.reduceEqDiff, Nat.reduceAdd, pw]; refine k' _ _ ?_; clear k' K')
      all_goals (refine S.g rfl rfl fun K' k' => ?_; simp only [zz, reduceIte, Nat.reduceEqDiff, Nat.reduceLT, Nat.reduceLeDiff, Nat.reduceAdd, reduceCtorEq, Nat.reduceMul, pw]; refine (rdText_spec g r b q3 e3 _ hs3 hb hb256).to fun v σ4 hv => ?_; obtain ⟨u, q4, e4, rfl, hu, hs4, hf4, hL3⟩ := hv <;> (refine k' _ _ ?_; clear k' K'))
      all_goals iterate 3 (refine S.g rfl rfl fun K' k' => ?_; simp only [zz, reduceIte, Nat.reduceEqDiff, Nat.reduceLT, Nat.reduceLeDiff, Nat.reduceAdd, reduceCtorEq, Nat.reduceMul, of143_1, of141_2, ok9, sz9, ag9, pw]; refine k' _ _ ?_; clear k' K')
      all_goals refine S.nil ?_
      all_goals simp only [ze, reduceIte, Nat.reduceEqDiff, Nat.reduceLT, Nat.reduceLeDiff, Nat.reduceAdd, reduceCtorEq, Nat.reduceMul, pw]
      all_goals apply_assumption
      rw [hL3.next, ret_bind] at hA
      refine AW.seq_k fun K9 h9 => ?_
      all_goals refine AW.reg0 ?_
      all_goals iterate 2 (refine S.g rfl rfl fun K' k' => ?_; simp only [zz, reduceIte, Nat.reduceEqDiff, Nat.reduceLT, Nat.reduceLeDiff, Nat.reduceAdd, reduceCtorEq, Nat.reduceMul, ok143, sz143, ag143]; refine k' _ _ ?_; clear k' K')
      all_goals refine S.nil ?_
      all_goals simp only [ze, reduceIte, Nat.reduceEqDiff, Nat.reduceLT, Nat.reduceLeDiff, Nat.reduceAdd, reduceCtorEq, Nat.reduceMul]
      all_goals apply_assumption
      refine AW.ret ?_
      all_goals simp only [zs, reduceIte, Nat.reduceEqDiff, Nat.reduceLT, Nat.reduceLeDiff, Nat.reduceAdd, reduceCtorEq, Nat.reduceMul, ok143, sz143, ag143, cut, List.drop_zero, List.take_succ_cons, List.take_zero]
      all_goals simp only [zz, Bool.false_eq_true, if_true, reduceIte, not_false_eq_true, true_and]
      exact ⟨⟨strOf t, ⟨2, 0, strOf u⟩⟩, q4, e4, by simp [encAttr, hd], hg _ (by rw [strOf_size]; exact hu) _ _, hs4, hf2.trans (hf3.trans hf4), Lnk.of hA⟩
    · have hd := of_decide_eq_false hd
      rw [if_neg hd, err_bind] at hA
      all_goals refine AW.reg0 ?_
      all_goals (refine S.g rfl rfl fun K' k' => ?_; simp only [zz, reduceIte, Nat.reduceEqDiff, Nat.reduceAdd, pw]; refine k' _ _ ?_; clear k' K')
      all_goals (refine S.g rfl rfl fun K' k' => ?_; simp only [zz, reduceIte, Nat.reduceEqDiff, Nat.reduceLT, Nat.reduceLeDiff, Nat.reduceAdd, reduceCtorEq, Nat.reduceMul, pw]; refine (keep_spec g r b q3 e3 40 _ hs3).to fun v σ4 hv => ?_; obtain ⟨rfl, hs4, hf4⟩ := hv <;> (refine k' _ _ ?_; clear k' K'))
      all_goals refine S.nil ?_
      all_goals simp only [ze, reduceIte, Nat.reduceEqDiff, Nat.reduceLT, Nat.reduceLeDiff, Nat.reduceAdd, reduceCtorEq, Nat.reduceMul, pw]
      all_goals apply_assumption
      refine AW.seq_k fun K10 h10 => ?_
      all_goals refine AW.reg0 ?_
      all_goals iterate 2 (refine S.g rfl rfl fun K' k' => ?_; simp only [zz, reduceIte, Nat.reduceEqDiff, Nat.reduceLT, Nat.reduceLeDiff, Nat.reduceAdd, reduceCtorEq, Nat.reduceMul, ok143, sz143, ag143]; refine k' _ _ ?_; clear k' K')
      all_goals refine S.nil ?_
      all_goals simp only [ze, reduceIte, Nat.reduceEqDiff, Nat.reduceLT, Nat.reduceLeDiff, Nat.reduceAdd, reduceCtorEq, Nat.reduceMul]
      all_goals apply_assumption
      refine AW.ret ?_
      all_goals simp only [zs, reduceIte, Nat.reduceEqDiff, Nat.reduceLT, Nat.reduceLeDiff, Nat.reduceAdd, reduceCtorEq, Nat.reduceMul, ok143, sz143, ag143, cut, List.drop_zero, List.take_succ_cons, List.take_zero]
      all_goals simp only [zz, Bool.false_eq_true, if_true, reduceIte, not_false_eq_true, true_and]
      refine ⟨⟨strOf t, ⟨k, 0, ⟨#[]⟩⟩⟩, q3, _, by simp [encAttr], hg _ (by decide) _ _, hs4, hf2.trans (hf3.trans hf4), Lnk.no _ (by split <;> simp_all) ?_⟩
      rw [hA]
      by_cases h3 : e3 = 0
      · rw [if_pos h3, h3]; rfl
      · rw [if_neg h3, At_err h3]
end Go.Abs.M
namespace Go.Abs.M
open Go Go.Abs Go.Proofs
set_option maxRecDepth 20000
set_option linter.unusedSimpArgs false
set_option linter.unusedVariables false
def chkE (e : Ev) : Prs Ev := if evErr e = 0 then Prs.ret e else Prs.err (evErr e)
def mkE (s q t : Nat) (ty : List Nat) (l : List Attr) : Ev := ⟨s, natV q, natV t, strOf ty, l⟩
/-- An event, as the program reads it. -/
def evQ : Prs Ev := Prs.bind (bitsP 4) fun s => Prs.bind natP fun q => Prs.bind natP fun t => Prs.bind textP fun ty => Prs.bind (bitsP 4) fun n =>
  if 8 < n then Prs.err 40 else Prs.bind (Prs.rep attrP n) fun l => chkE (mkE s q t ty l)
theorem rep_bind {α β : Type} (p : Prs α) (n : Nat) (f : List α → Prs β) : Prs.bind (Prs.rep p (n + 1)) f = Prs.bind p fun a => Prs.bind (Prs.rep p n) fun r => f (a :: r) := by
  rw [Prs.rep, bind_assoc]
  congr 1
  funext a
  rw [bind_assoc]
  congr 1
  funext r
  rw [ret_bind]
theorem Fr2.app {g r k k2 : Nat} {σ σ2 : Hp} {y : Option ((TypeId × Nat) × List (List V))} (hf : Fr2 g r σ σ2) (hk : σ.gr k = none) (hk2 : k2 ≠ k → σ2.gr k2 = none) : Fr2 g r σ ((σ2.setGr k none).setGr k2 y) ∧ σ.gr k2 = none := by
  have h2 : σ.gr k2 = none := by
    by_cases e : k2 = k
    · rw [e]; exact hk
    · cases h : σ.gr k2 with
      | none => rfl
      | some x => have := hf.gr _ _ h; rw [hk2 e] at this; cases this
  refine ⟨⟨fun x c hx hy hc => by simpa using hf.obj x c hx hy hc, fun j x hj => ?_⟩, h2⟩
  have h1 : j ≠ k := fun e => by rw [e, hk] at hj; cases hj
  have h3 : j ≠ k2 := fun e => by rw [e, h2] at hj; cases hj
  simp [h1, h3, hf.gr j x hj]
theorem Fr2.new {g r k2 : Nat} {σ σ2 : Hp} {y : Option ((TypeId × Nat) × List (List V))} (hf : Fr2 g r σ σ2) (hk2 : σ2.gr k2 = none) : Fr2 g r σ (σ2.setGr k2 y) ∧ σ.gr k2 = none := by
  have h2 : σ.gr k2 = none := by
    cases h : σ.gr k2 with
    | none => rfl
    | some x => have := hf.gr _ _ h; rw [hk2] at this; cases this
  refine ⟨⟨fun x c hx hy hc => by simpa using hf.obj x c hx hy hc, fun j x hj => ?_⟩, h2⟩
  have h3 : j ≠ k2 := fun e => by rw [e, h2] at hj; cases hj
  simp [h3, hf.gr j x hj]
theorem Fr2.drop {g r k : Nat} {σ σ2 : Hp} (hf : Fr2 g r σ σ2) (hk : σ.gr k = none) : Fr2 g r σ (σ2.setGr k none) :=
  ⟨fun x c hx hy hc => by simpa using hf.obj x c hx hy hc, fun j x hj => by
    have h1 : j ≠ k := fun e => by rw [e, hk] at hj; cases hj
    simp [h1, hf.gr j x hj]⟩
theorem RS.gr {g r q k : Nat} {b : List Nat} {e : Int} {σ : Hp} {y : Option ((TypeId × Nat) × List (List V))} (h : RS g r b q e σ) : RS g r b q e (σ.setGr k y) := ⟨h.ne, by simp [h.src], by simp [h.rd], h.le⟩
theorem okE_mk {s q t : Nat} {ty : List Nat} {l : List Attr} (ht : ty.length ≤ 2251799813685248) (hl : l.length ≤ 15) (hg : ∀ a ∈ l, goodA a) : okE (mkE s q t ty l) :=
  ⟨by show (strOf ty).size < _; rw [strOf_size]; omega, by show l.length < _; omega, hg⟩
theorem rdEvent_spec (g r : Nat) (b : List Nat) (q : Nat) (e : Int) (σ : Hp) (hs : RS g r b q e σ) (hb : b.length < 140737488355329) (hb256 : ∀ x ∈ b, x < 256) :
    ACalls Try.prog 143 [ptrV r] σ (Stp g r b q e evQ (fun a => .agg (encEv a)) okE σ) := by
  refine ACalls.intro Try.call143 Try.func143 rfl Try.ntmps143 Try.results143 (by simp) ?_
  refine AW.seq_k fun K1 h1 => ?_
  all_goals refine AW.reg0 ?_
  all_goals (refine S.g rfl rfl fun K' k' => ?_; simp only [zz, reduceIte, Nat.reduceEqDiff, Nat.reduceLT, Nat.reduceLeDiff, Nat.reduceAdd, reduceCtorEq, Nat.reduceMul, zt36]; refine k' _ _ ?_; clear k' K')
  all_goals refine S.nil ?_
  all_goals simp only [ze, reduceIte, Nat.reduceEqDiff, Nat.reduceLT, Nat.reduceLeDiff, Nat.reduceAdd, reduceCtorEq, Nat.reduceMul]
  all_goals apply_assumption
  refine AW.seq_k fun K2 h2 => ?_
  all_goals refine AW.reg0 ?_
  all_goals (refine S.g rfl rfl fun K' k' => ?_; simp only [zz, reduceIte, Nat.reduceEqDiff, Nat.reduceAdd, pw]; refine k' _ _ ?_; clear k' K')
  all_goals (refine S.g rfl rfl fun K' k' => ?_; simp only [zz, reduceIte, Nat.reduceEqDiff, Nat.reduceLT, Nat.reduceLeDiff, Nat.reduceAdd, reduceCtorEq, Nat.reduceMul, pw]; refine (rdBits_spec g r b q 4 e _ hs hb hb256 (by omega)).to fun v σ1 hv => ?_; obtain ⟨sN, q1, e1, rfl, hsN, hs1, hf1, hL1⟩ := hv <;> (refine k' _ _ ?_; clear k' K'))
  all_goals (refine S.g rfl rfl fun K' k' => ?_; simp only [zz, reduceIte, Nat.reduceEqDiff, Nat.reduceAdd, pw]; refine k' _ _ ?_; clear k' K')
  all_goals (refine S.g rfl rfl fun K' k' => ?_; simp only [zz, reduceIte, Nat.reduceEqDiff, Nat.reduceLT, Nat.reduceLeDiff, Nat.reduceAdd, reduceCtorEq, Nat.reduceMul, pw]; refine (rdNat_spec g r b q1 e1 _ hs1 hb hb256).to fun v σ2 hv => ?_; obtain ⟨qN, q2, e2, rfl, hqN, hs2, hf2, hL2⟩ := hv <;> (refine k' _ _ ?_; clear k' K'))
  all_goals (refine S.g rfl rfl fun K' k' => ?_; simp only [zz, reduceIte, Nat.reduceEqDiff, Nat.reduceLT, Nat.reduceLeDiff, Nat.reduceAdd, reduceCtorEq, Nat.reduceMul, zt33, pl33, pw]; refine k' _ _ ?_; clear k' K')
  all_goals (refine S.g rfl rfl fun K' k' => ?_; simp only [zz, reduceIte, Nat.reduceEqDiff, Nat.reduceLT, Nat.reduceLeDiff, Nat.reduceAdd, reduceCtorEq, Nat.reduceMul, zt36, pl36, pw]; refine k' _ _ ?_; clear k' K')
  all_goals iterate 2 (refine S.g rfl rfl fun K' k' => ?_; simp only [zz, reduceIte, Nat.reduceEqDiff, Nat.reduceLT, Nat.reduceLeDiff, Nat.reduceAdd, reduceCtorEq, Nat.reduceMul, zt36, ok36, sz36, ag36, pw]; refine k' _ _ ?_; clear k' K')
  all_goals refine S.nil ?_
  all_goals simp only [ze, reduceIte, Nat.reduceEqDiff, Nat.reduceLT, Nat.reduceLeDiff, Nat.reduceAdd, reduceCtorEq, Nat.reduceMul, pw]
  all_goals apply_assumption
  refine AW.seq_k fun K3 h3 => ?_
  all_goals refine AW.reg0 ?_
  all_goals (refine S.g rfl rfl fun K' k' => ?_; simp only [zz, reduceIte, Nat.reduceEqDiff, Nat.reduceAdd, pw]; refine k' _ _ ?_; clear k' K')
  all_goals (refine S.g rfl rfl fun K' k' => ?_; simp only [zz, reduceIte, Nat.reduceEqDiff, Nat.reduceLT, Nat.reduceLeDiff, Nat.reduceAdd, reduceCtorEq, Nat.reduceMul, pw]; refine (rdNat_spec g r b q2 e2 _ hs2 hb hb256).to fun v σ3 hv => ?_; obtain ⟨tN, q3, e3, rfl, htN, hs3, hf3, hL3⟩ := hv <;> (refine k' _ _ ?_; clear k' K'))
  all_goals iterate 2 (refine S.g rfl rfl fun K' k' => ?_; simp only [zz, reduceIte, Nat.reduceEqDiff, Nat.reduceLT, Nat.reduceLeDiff, Nat.reduceAdd, reduceCtorEq, Nat.reduceMul, of36_1, ok2, sz2, ag2, pw]; refine k' _ _ ?_; clear k' K')
  all_goals refine S.nil ?_
  all_goals simp only [ze, reduceIte, Nat.reduceEqDiff, Nat.reduceLT, Nat.reduceLeDiff, Nat.reduceAdd, reduceCtorEq, Nat.reduceMul, pw]
  all_goals apply_assumption
  refine AW.seq_k fun K4 h4 => ?_
  all_goals refine AW.reg0 ?_
  all_goals (refine S.g rfl rfl fun K' k' => ?_; simp only [zz, reduceIte, Nat.reduceEqDiff, Nat.reduceAdd, pw]; refine k' _ _ ?_; clear k' K')
  all_goals (refine S.g rfl rfl fun K' k' => ?_; simp only [zz, reduceIte, Nat.reduceEqDiff, Nat.reduceLT, Nat.reduceLeDiff, Nat.reduceAdd, reduceCtorEq, Nat.reduceMul, pw]; refine (rdText_spec g r b q3 e3 _ hs3 hb hb256).to fun v σ4 hv => ?_; obtain ⟨ty, q4, e4, rfl, hty, hs4, hf4, hL4⟩ := hv <;> (refine k' _ _ ?_; clear k' K'))
  all_goals iterate 2 (refine S.g rfl rfl fun K' k' => ?_; simp only [zz, reduceIte, Nat.reduceEqDiff, Nat.reduceLT, Nat.reduceLeDiff, Nat.reduceAdd, reduceCtorEq, Nat.reduceMul, of36_2, ok9, sz9, ag9, pw]; refine k' _ _ ?_; clear k' K')
  all_goals refine S.nil ?_
  all_goals simp only [ze, reduceIte, Nat.reduceEqDiff, Nat.reduceLT, Nat.reduceLeDiff, Nat.reduceAdd, reduceCtorEq, Nat.reduceMul, pw]
  all_goals apply_assumption
  refine AW.seq_k fun K5 h5 => ?_
  all_goals refine AW.reg0 ?_
  all_goals (refine S.g rfl rfl fun K' k' => ?_; simp only [zz, reduceIte, Nat.reduceEqDiff, Nat.reduceAdd, pw]; refine k' _ _ ?_; clear k' K')
  all_goals (refine S.g rfl rfl fun K' k' => ?_; simp only [zz, reduceIte, Nat.reduceEqDiff, Nat.reduceLT, Nat.reduceLeDiff, Nat.reduceAdd, reduceCtorEq, Nat.reduceMul, pw]; refine (rdBits_spec g r b q4 4 e4 _ hs4 hb hb256 (by omega)).to fun v σ5 hv => ?_; obtain ⟨n, q5, e5, rfl, hn, hs5, hf5, hL5⟩ := hv <;> (refine k' _ _ ?_; clear k' K'))
  all_goals (refine S.g rfl rfl fun K' k' => ?_; simp only [zz, reduceIte, Nat.reduceEqDiff, Nat.reduceAdd, pw]; refine k' _ _ ?_; clear k' K')
  all_goals refine S.nil ?_
  all_goals simp only [ze, reduceIte, Nat.reduceEqDiff, Nat.reduceLT, Nat.reduceLeDiff, Nat.reduceAdd, reduceCtorEq, Nat.reduceMul, pw]
  all_goals apply_assumption
  have hA : At b q e evQ = At b q5 e5 (if 8 < n then Prs.err 40 else Prs.bind (Prs.rep attrP n) fun l => chkE (mkE sN qN tN ty l)) := by
    unfold evQ
    rw [hL1.next, hL2.next, hL3.next, hL4.next, hL5.next]
  have hfa : Fr2 g r σ σ5 := hf1.trans (hf2.trans (hf3.trans (hf4.trans hf5)))
  refine AW.seq_j (fun s σ' => s.t 0 = ptrV r ∧ s.t 2 = .lp 2 0 ∧ s.l 2 = some [.c (.int .i64 0), .c (.int .i64 0), .c (.int .i64 0), .c (.string ⟨#[]⟩), .c (.slice none 0 0)] ∧ s.t 3 = .lp 3 0 ∧
    s.l 3 = some [.c (.int .i64 (sN : Nat)), .c (.int .i64 (natV qN)), .c (.int .i64 (natV tN)), .c (.string (strOf ty)), .c (.slice none 0 0)] ∧ s.t 4 = .c (.int .i64 (n : Nat)) ∧
    ∃ e6, RS g r b q5 e6 σ' ∧ Fr2 g r σ σ' ∧ At b q e evQ = At b q5 e6 (Prs.bind (Prs.rep attrP n) fun l => chkE (mkE sN qN tN ty l))) ?_ ?_
  · refine AW.seq_k fun K6 h6 => ?_
    all_goals refine AW.reg0 ?_
    all_goals iterate 2 (refine S.g rfl rfl fun K' k' => ?_; simp only [zz, reduceIte, Nat.reduceEqDiff, Nat.reduceAdd, gt_iff_lt]; refine k' _ _ ?_; clear k' K')
    all_goals refine S.nil ?_
    all_goals simp only [ze, reduceIte, Nat.reduceEqDiff, Nat.reduceLT, Nat.reduceLeDiff, Nat.reduceAdd, reduceCtorEq, Nat.reduceMul, gt_iff_lt]
    all_goals apply_assumption
    refine AW.cond (b := decide (8 < n)) (by simp [ev]; try omega) (fun hc => ?_) (fun hc => ?_)
    · have hc := of_decide_eq_true hc
      all_goals refine AW.reg0 ?_
      all_goals (refine S.g rfl rfl fun K' k' => ?_; simp only [zz, reduceIte, Nat.reduceEqDiff, Nat.reduceAdd, pw]; refine k' _ _ ?_; clear k' K')
      all_goals (refine S.g rfl rfl fun K' k' => ?_; simp only [zz, reduceIte, Nat.reduceEqDiff, Nat.reduceLT, Nat.reduceLeDiff, Nat.reduceAdd, reduceCtorEq, Nat.reduceMul, pw]; refine (keep_spec g r b q5 e5 40 _ hs5).to fun v σ6 hv => ?_; obtain ⟨rfl, hs6, hf6⟩ := hv <;> (refine k' _ _ ?_; clear k' K'))
      all_goals refine S.nil ?_
      all_goals simp only [ze, reduceIte, Nat.reduceEqDiff, Nat.reduceLT, Nat.reduceLeDiff, Nat.reduceAdd, reduceCtorEq, Nat.reduceMul, pw]
      refine ⟨_, hs6, hfa.trans hf6, ?_⟩
      rw [hA, if_pos hc]
      by_cases h5 : e5 = 0
      · rw [h5, if_pos rfl, At_err (e := 40) (by decide)]; rfl
      · rw [if_neg h5, At_err h5, At_err h5]
    · have hc := of_decide_eq_false hc
      refine AW.skip ?_
      all_goals simp only [zs, reduceIte, Nat.reduceEqDiff, Nat.reduceLT, Nat.reduceLeDiff, Nat.reduceAdd, reduceCtorEq, Nat.reduceMul]
      refine ⟨by simp [pw], e5, hs5, hfa, ?_⟩
      rw [hA, if_neg hc]
  rintro s σ' ⟨e0, e2', l2, e3', l3, e4', e6, hs6, hf6, hA6⟩
  clear hA hfa hf1 hf2 hf3 hf4 hf5 hs1 hs2 hs3 hs4 hs5 hL1 hL2 hL3 hL4 hL5
  refine AW.seq_j (fun s σ' => s.t 0 = ptrV r ∧ s.t 2 = .lp 2 0 ∧ s.l 2 = some [.c (.int .i64 0), .c (.int .i64 0), .c (.int .i64 0), .c (.string ⟨#[]⟩), .c (.slice none 0 0)] ∧ s.t 3 = .lp 3 0 ∧
    ∃ acc x q7 e7, s.l 3 = some [.c (.int .i64 (sN : Nat)), .c (.int .i64 (natV qN)), .c (.int .i64 (natV tN)), .c (.string (strOf ty)), x] ∧ (x = .sl (acc.map encAttr) ∨ (acc = [] ∧ x = .c (.slice none 0 0))) ∧
      RS g r b q7 e7 σ' ∧ Fr2 g r σ σ' ∧ acc.length ≤ 15 ∧ (∀ a ∈ acc, goodA a) ∧ At b q e evQ = At b q7 e7 (chkE (mkE sN qN tN ty acc))) ?_ ?_
  · refine AW.seq_k fun K7 h7 => ?_
    all_goals refine AW.reg0 ?_
    all_goals iterate 2 (refine S.g rfl rfl fun K' k' => ?_; simp only [zz, reduceIte, Nat.reduceEqDiff, Nat.reduceAdd, e4']; refine k' _ _ ?_; clear k' K')
    all_goals refine S.nil ?_
    all_goals simp only [ze, reduceIte, Nat.reduceEqDiff, Nat.reduceLT, Nat.reduceLeDiff, Nat.reduceAdd, reduceCtorEq, Nat.reduceMul, e4']
    all_goals apply_assumption
    refine AW.block ?_   -- 0
    refine AW.loop (fun m s σ' => s.t 0 = ptrV r ∧ s.t 2 = .lp 2 0 ∧ s.l 2 = some [.c (.int .i64 0), .c (.int .i64 0), .c (.int .i64 0), .c (.string ⟨#[]⟩), .c (.slice none 0 0)] ∧ s.t 3 = .lp 3 0 ∧ s.t 23 = .c (.int .i64 (n : Nat)) ∧
      ∃ acc x q7 e7, m = n - acc.length ∧ acc.length ≤ n ∧ s.t 24 = .c (.int .i64 (acc.length : Nat)) ∧ s.l 3 = some [.c (.int .i64 (sN : Nat)), .c (.int .i64 (natV qN)), .c (.int .i64 (natV tN)), .c (.string (strOf ty)), x] ∧
      RS g r b q7 e7 σ' ∧ Fr2 g r σ σ' ∧ (∀ a ∈ acc, goodA a) ∧ At b q e evQ = At b q7 e7 (Prs.bind (Prs.rep attrP (n - acc.length)) fun l => chkE (mkE sN qN tN ty (acc ++ l))) ∧
      ((acc = [] ∧ x = .c (.slice none 0 0)) ∨ (∃ k, x = .gl k ∧ σ.gr k = none ∧ σ'.gr k = some ((143, 4), acc.map encAttr)))) n ?_ ?_
    · all_goals simp only [zs, reduceIte, Nat.reduceEqDiff, Nat.reduceLT, Nat.reduceLeDiff, Nat.reduceAdd, reduceCtorEq, Nat.reduceMul, e0, e2', l2, e3', l3, e4']
      exact ⟨[], _, q5, e6, rfl, Nat.zero_le _, rfl, rfl, hs6, hf6, by simp, hA6, .inl ⟨rfl, rfl⟩⟩
    clear e0 e2' l2 e3' l3 e4' hs6 hf6 hA6
    rintro m s σ' ⟨e0, e2', l2, e3', e23, acc, x, q7, e7, hm, hal, e24, l3, hs7, hf7, hga, hA7, hx⟩
    have hout : ∀ (hA : At b q e evQ = At b q7 e7 (chkE (mkE sN qN tN ty acc))), AW Try.prog 50 (.exit 0) (fun z s σ => z = z) s σ' := fun _ => AW.exit rfl
    clear hout
    have hr := hs7.rd
    unfold ptrV at e0
    refine AW.seq_k fun K8 h8 => ?_
    all_goals refine AW.reg0 ?_
    all_goals (refine S.g rfl rfl fun K' k' => ?_; simp only [zz, reduceIte, Nat.reduceEqDiff, Nat.reduceAdd, e23, e24]; refine k' _ _ ?_; clear k' K')
    all_goals refine S.nil ?_
    all_goals simp only [ze, reduceIte, Nat.reduceEqDiff, Nat.reduceLT, Nat.reduceLeDiff, Nat.reduceAdd, reduceCtorEq, Nat.reduceMul, e23, e24]
    all_goals apply_assumption
    refine AW.seq_k fun K9 h9 => ?_
    refine AW.cond (b := decide (acc.length < n)) (by simp [ev]) (fun hc => ?_) (fun hc => ?_)
    · have hin := of_decide_eq_true hc
      refine AW.skip ?_
      all_goals simp only [zs, reduceIte, Nat.reduceEqDiff, Nat.reduceLT, Nat.reduceLeDiff, Nat.reduceAdd, reduceCtorEq, Nat.reduceMul]
      all_goals apply_assumption
      refine AW.seq_k fun K10 h10 => ?_
      refine AW.block ?_   -- 1
      refine AW.seq_k fun K11 h11 => ?_
      refine AW.seq_k fun K12 h12 => ?_
      all_goals refine AW.reg0 ?_
      all_goals iterate 5 (refine S.g rfl rfl fun K' k' => ?_; simp only [zz, reduceIte, Nat.reduceEqDiff, Nat.reduceLT, Nat.reduceLeDiff, Nat.reduceAdd, reduceCtorEq, Nat.reduceMul, of170_1, ok29, sz29, ag29, e0, hr, map2, List.getD_cons_succ, List.getD_cons_zero]; refine k' _ _ ?_; clear k' K')
      all_goals refine S.nil ?_
      all_goals simp only [ze, reduceIte, Nat.reduceEqDiff, Nat.reduceLT, Nat.reduceLeDiff, Nat.reduceAdd, reduceCtorEq, Nat.reduceMul, e0, hr, map2, List.getD_cons_succ, List.getD_cons_zero]
      all_goals apply_assumption
      refine AW.cond (b := decide (e7 ≠ 0)) (by simp [ev]; try rfl) (fun hd => ?_) (fun hd => ?_)
      · have hd := of_decide_eq_true hd
        rw [At_err hd] at hA7
        have hA8 : At b q e evQ = At b q7 e7 (chkE (mkE sN qN tN ty acc)) := by rw [hA7, At_err hd]
        rcases hx with ⟨rfl, rfl⟩ | ⟨k, rfl, hk, hgk⟩
        · refine AW.exit ?_
          all_goals simp only [zs, reduceIte, Nat.reduceEqDiff, Nat.reduceLT, Nat.reduceLeDiff, Nat.reduceAdd, reduceCtorEq, Nat.reduceMul, e0, e2', l2, e3', l3]
          exact ⟨rfl, [], _, q7, e7, rfl, .inr ⟨rfl, rfl⟩, hs7, hf7, Nat.zero_le _, hga, hA8⟩
        · refine AW.freeze (k := k) (T := (143, 4)) (es := acc.map encAttr) (by simpa using hgk) ?_
          refine AW.exit ?_
          all_goals simp only [zs, reduceIte, Nat.reduceEqDiff, Nat.reduceLT, Nat.reduceLeDiff, Nat.reduceAdd, reduceCtorEq, Nat.reduceMul, e0, e2', l2, e3', l3, fzV, fz1, St.fz_t, St.fz_l, Option.map_some, List.map]
          exact ⟨rfl, acc, _, q7, e7, rfl, .inl rfl, hs7.gr, hf7.drop hk, by omega, hga, hA8⟩
      have hd : e7 = 0 := by simpa using of_decide_eq_false hd
      subst hd
      refine AW.skip ?_
      all_goals simp only [zs, reduceIte, Nat.reduceEqDiff, Nat.reduceLT, Nat.reduceLeDiff, Nat.reduceAdd, reduceCtorEq, Nat.reduceMul]
      all_goals apply_assumption
      rw [show n - acc.length = (n - (acc.length + 1)) + 1 by omega, rep_bind] at hA7
      have hw : IntKind.i64.wrap ((acc.length : Int) + 1) = ((acc.length + 1 : Nat) : Int) := by rw [wrap_small _ (by omega) (by omega)]; rfl
      rcases hx with ⟨rfl, rfl⟩ | ⟨k, rfl, hk, hgk⟩
      · have hn0 : 0 < n := hin
        have hw : IntKind.i64.wrap (((([] : List Attr).length : Nat) : Int) + 1) = ((0 + 1 : Nat) : Int) := hw
        all_goals refine AW.drawF (T := { sd := fun _ => false }) (fun _ _ h => by cases h) mixedO (.st 0 0 (.st 2 0 (.fork 1 (.st 3 2 (.st 4 2 (.st 5 2 (.st 6 0 (.st 7 2 .nil))))) 3 (.fork 1 (.st 4 2 (.st 5 2 (.st 6 0 (.st 7 2 .nil)))) 4 (.st 1 2 (.st 5 2 (.st 6 0 (.st 7 2 .nil)))))))) rfl (by kernel_rfl) (by kernel_rfl) ?_
        all_goals iterate 2 (refine F.g rfl trivial rfl rfl fun K' k' => ?_; simp only [zz, reduceIte, Nat.reduceEqDiff, Nat.reduceLT, Nat.reduceLeDiff, Nat.reduceAdd, reduceCtorEq, Nat.reduceMul, of36_3, e0, e2', l2, e3', l3, encAttr]; refine k' _ _ ?_; clear k' K')
        all_goals (try first | refine F.fork ?_ ?_ | refine F.fork3 ?_ ?_ ?_)
        all_goals first | (refine F.g rfl trivial rfl rfl fun K' k' => ?_; simp only [zz, reduceIte, Nat.reduceEqDiff, Nat.reduceLT, Nat.reduceLeDiff, Nat.reduceAdd, reduceCtorEq, Nat.reduceMul, e0, e2', l2, e3', l3, encAttr]; refine (rdAttr_spec g r b q7 0 _ hs7 hb hb256).to fun v σ8 hv => ?_; obtain ⟨a, q8, e8, rfl, ha, hs8, hf8, hL8⟩ := hv <;> (refine k' _ _ ?_; clear k' K')) | (refine F.g rfl trivial rfl rfl fun K' k' => ?_; simp only [zz, reduceIte, Nat.reduceEqDiff, Nat.reduceLT, Nat.reduceLeDiff, Nat.reduceAdd, reduceCtorEq, Nat.reduceMul, ok34, sz34, ag34, e0, e2', l2, e3', l3, encAttr]; refine k' _ _ ?_; clear k' K')
        all_goals (try first | refine F.fork ?_ ?_ | refine F.fork3 ?_ ?_ ?_)
        all_goals first | (refine F.g rfl trivial rfl rfl fun K' k' => ?_; simp only [zz, reduceIte, Nat.reduceEqDiff, Nat.reduceLT, Nat.reduceLeDiff, Nat.reduceAdd, reduceCtorEq, Nat.reduceMul, e0, e2', l2, e3', l3, encAttr]; refine (rdAttr_spec g r b q7 0 _ hs7 hb hb256).to fun v σ8 hv => ?_; obtain ⟨a, q8, e8, rfl, ha, hs8, hf8, hL8⟩ := hv <;> (refine k' _ _ ?_; clear k' K')) | (refine F.g rfl trivial rfl rfl fun K' k' => ?_; simp only [zz, reduceIte, Nat.reduceEqDiff, Nat.reduceLT, Nat.reduceLeDiff, Nat.reduceAdd, reduceCtorEq, Nat.reduceMul, ok34, sz34, ag34, e0, e2', l2, e3', l3, encAttr]; refine k' _ _ ?_; clear k' K') | (refine F.g rfl trivial rfl rfl fun K' k' => ?_; simp only [zb, reduceIte, Nat.reduceEqDiff, Nat.reduceLT, Nat.reduceLeDiff, Nat.reduceAdd, reduceCtorEq, Nat.reduceMul, sl34, el34, ok143, sz143, ag143, zt143, by143, e0, e2', l2, e3', l3, encAttr]; refine k' _ _ ?_; clear k' K')
        all_goals first | (refine F.g rfl trivial rfl rfl fun K' k' => ?_; simp only [zb, reduceIte, Nat.reduceEqDiff, Nat.reduceLT, Nat.reduceLeDiff, Nat.reduceAdd, reduceCtorEq, Nat.reduceMul, sl34, el34, ok143, sz143, ag143, zt143, by143, e0, e2', l2, e3', l3, encAttr]; refine k' _ _ ?_; clear k' K') | (refine F.g rfl trivial rfl rfl fun K' k' => ?_; simp only [zz, reduceIte, Nat.reduceEqDiff, Nat.reduceLT, Nat.reduceLeDiff, Nat.reduceAdd, reduceCtorEq, Nat.reduceMul, ok34, sz34, ag34, e0, e2', l2, e3', l3, encAttr]; refine k' _ _ ?_; clear k' K')
        all_goals (refine F.g rfl trivial rfl rfl fun K' k' => ?_; simp only [zz, reduceIte, Nat.reduceEqDiff, Nat.reduceLT, Nat.reduceLeDiff, Nat.reduceAdd, reduceCtorEq, Nat.reduceMul, sl34, el34, ok143, sz143, ag143, zt143, by143, e0, e2', l2, e3', l3, encAttr]; refine ⟨by simp, by unfold maxLen; (try simp only [List.length_map, List.length_cons, List.length_nil]); omega, by unfold reach; (try simp only [List.length_map, List.length_cons, List.length_nil]); omega, fun k2 hk2 => ?_⟩ <;> (refine k' _ _ ?_; clear k' K'))
        all_goals iterate 2 (refine F.g rfl trivial rfl rfl fun K' k' => ?_; simp only [zz, reduceIte, Nat.reduceEqDiff, Nat.reduceLT, Nat.reduceLeDiff, Nat.reduceAdd, reduceCtorEq, Nat.reduceMul, of36_3, ok34, sz34, ag34, e0, e2', l2, e3', l3, encAttr]; refine k' _ _ ?_; clear k' K')
        all_goals refine F.nil ?_
        all_goals simp only [ze, reduceIte, Nat.reduceEqDiff, Nat.reduceLT, Nat.reduceLeDiff, Nat.reduceAdd, reduceCtorEq, Nat.reduceMul, e0, e2', l2, e3', l3, encAttr]
        all_goals apply_assumption
        all_goals refine AW.reg0 ?_
        all_goals iterate 2 (refine S.g rfl rfl fun K' k' => ?_; simp only [zz, reduceIte, Nat.reduceEqDiff, Nat.reduceAdd, e24, hw, e0, e2', l2, e3', l3, e23]; refine k' _ _ ?_; clear k' K')
        all_goals refine S.nil ?_
        all_goals simp only [ze, reduceIte, Nat.reduceEqDiff, Nat.reduceLT, Nat.reduceLeDiff, Nat.reduceAdd, reduceCtorEq, Nat.reduceMul, e24, hw, e0, e2', l2, e3', l3, e23]
        all_goals
          rw [hL8.next] at hA7
          obtain ⟨hfn, hkn⟩ := (hf7.trans hf8).new (k2 := k2) (y := some ((143, 4), [encAttr a])) hk2
          exact ⟨n - 1, by rw [hm]; exact Nat.sub_lt hn0 Nat.one_pos, rfl, [a], .gl k2, q8, e8, rfl, hn0, rfl, rfl, hs8.gr, hfn, by simpa using ha, by simpa using hA7, .inr ⟨k2, rfl, hkn, by simp [encAttr]⟩⟩
      · skip
        all_goals refine AW.drawF (T := { sd := fun _ => false }) (fun _ _ h => by cases h) mixedO (.st 0 0 (.st 2 0 (.fork 1 (.st 3 2 (.st 4 2 (.st 5 2 (.st 6 0 (.st 7 2 .nil))))) 3 (.fork 1 (.st 4 2 (.st 5 2 (.st 6 0 (.st 7 2 .nil)))) 4 (.st 1 2 (.st 5 2 (.st 6 0 (.st 7 2 .nil)))))))) rfl (by kernel_rfl) (by kernel_rfl) ?_
        all_goals iterate 2 (refine F.g rfl trivial rfl rfl fun K' k' => ?_; simp only [zz, reduceIte, Nat.reduceEqDiff, Nat.reduceLT, Nat.reduceLeDiff, Nat.reduceAdd, reduceCtorEq, Nat.reduceMul, of36_3, e0, e2', l2, e3', l3, encAttr]; refine k' _ _ ?_; clear k' K')
        all_goals (try first | refine F.fork ?_ ?_ | refine F.fork3 ?_ ?_ ?_)
        all_goals first | (refine F.g rfl trivial rfl rfl fun K' k' => ?_; simp only [zz, reduceIte, Nat.reduceEqDiff, Nat.reduceLT, Nat.reduceLeDiff, Nat.reduceAdd, reduceCtorEq, Nat.reduceMul, e0, e2', l2, e3', l3, encAttr]; refine (rdAttr_spec g r b q7 0 _ hs7 hb hb256).to fun v σ8 hv => ?_; obtain ⟨a, q8, e8, rfl, ha, hs8, hf8, hL8⟩ := hv; have hg8 := hf8.gr _ _ hgk <;> (refine k' _ _ ?_; clear k' K')) | (refine F.g rfl trivial rfl rfl fun K' k' => ?_; simp only [zz, reduceIte, Nat.reduceEqDiff, Nat.reduceLT, Nat.reduceLeDiff, Nat.reduceAdd, reduceCtorEq, Nat.reduceMul, ok34, sz34, ag34, e0, e2', l2, e3', l3, encAttr]; refine k' _ _ ?_; clear k' K')
        all_goals (try first | refine F.fork ?_ ?_ | refine F.fork3 ?_ ?_ ?_)
        all_goals first | (refine F.g rfl trivial rfl rfl fun K' k' => ?_; simp only [zz, reduceIte, Nat.reduceEqDiff, Nat.reduceLT, Nat.reduceLeDiff, Nat.reduceAdd, reduceCtorEq, Nat.reduceMul, e0, e2', l2, e3', l3, encAttr]; refine (rdAttr_spec g r b q7 0 _ hs7 hb hb256).to fun v σ8 hv => ?_; obtain ⟨a, q8, e8, rfl, ha, hs8, hf8, hL8⟩ := hv; have hg8 := hf8.gr _ _ hgk <;> (refine k' _ _ ?_; clear k' K')) | (refine F.g rfl trivial rfl rfl fun K' k' => ?_; simp only [zz, reduceIte, Nat.reduceEqDiff, Nat.reduceLT, Nat.reduceLeDiff, Nat.reduceAdd, reduceCtorEq, Nat.reduceMul, ok34, sz34, ag34, e0, e2', l2, e3', l3, encAttr]; refine k' _ _ ?_; clear k' K') | (refine F.g rfl trivial rfl rfl fun K' k' => ?_; simp only [zb, reduceIte, Nat.reduceEqDiff, Nat.reduceLT, Nat.reduceLeDiff, Nat.reduceAdd, reduceCtorEq, Nat.reduceMul, sl34, el34, ok143, sz143, ag143, zt143, by143, e0, e2', l2, e3', l3, encAttr]; refine k' _ _ ?_; clear k' K')
        all_goals first | (refine F.g rfl trivial rfl rfl fun K' k' => ?_; simp only [zb, reduceIte, Nat.reduceEqDiff, Nat.reduceLT, Nat.reduceLeDiff, Nat.reduceAdd, reduceCtorEq, Nat.reduceMul, sl34, el34, ok143, sz143, ag143, zt143, by143, e0, e2', l2, e3', l3, encAttr]; refine k' _ _ ?_; clear k' K') | (refine F.g rfl trivial rfl rfl fun K' k' => ?_; simp only [zz, reduceIte, Nat.reduceEqDiff, Nat.reduceLT, Nat.reduceLeDiff, Nat.reduceAdd, reduceCtorEq, Nat.reduceMul, ok34, sz34, ag34, e0, e2', l2, e3', l3, encAttr]; refine k' _ _ ?_; clear k' K')
        all_goals (refine F.g rfl trivial rfl rfl fun K' k' => ?_; simp only [zz, reduceIte, Nat.reduceEqDiff, Nat.reduceLT, Nat.reduceLeDiff, Nat.reduceAdd, reduceCtorEq, Nat.reduceMul, sl34, el34, ok143, sz143, ag143, zt143, by143, e0, e2', l2, e3', l3, encAttr, hg8]; refine ⟨by simp, by unfold maxLen; (try simp only [List.length_map, List.length_cons, List.length_nil]); omega, by unfold reach; (try simp only [List.length_map, List.length_cons, List.length_nil]); omega, fun k2 hk2 => ?_⟩ <;> (refine k' _ _ ?_; clear k' K'))
        all_goals iterate 2 (refine F.g rfl trivial rfl rfl fun K' k' => ?_; simp only [zz, reduceIte, Nat.reduceEqDiff, Nat.reduceLT, Nat.reduceLeDiff, Nat.reduceAdd, reduceCtorEq, Nat.reduceMul, of36_3, ok34, sz34, ag34, e0, e2', l2, e3', l3, encAttr]; refine k' _ _ ?_; clear k' K')
        all_goals refine F.nil ?_
        all_goals simp only [ze, reduceIte, Nat.reduceEqDiff, Nat.reduceLT, Nat.reduceLeDiff, Nat.reduceAdd, reduceCtorEq, Nat.reduceMul, e0, e2', l2, e3', l3, encAttr]
        all_goals apply_assumption
        all_goals refine AW.reg0 ?_
        all_goals iterate 2 (refine S.g rfl rfl fun K' k' => ?_; simp only [zz, reduceIte, Nat.reduceEqDiff, Nat.reduceAdd, e24, hw, e0, e2', l2, e3', l3, e23]; refine k' _ _ ?_; clear k' K')
        all_goals refine S.nil ?_
        all_goals simp only [ze, reduceIte, Nat.reduceEqDiff, Nat.reduceLT, Nat.reduceLeDiff, Nat.reduceAdd, reduceCtorEq, Nat.reduceMul, e24, hw, e0, e2', l2, e3', l3, e23]
        all_goals
          rw [hL8.next] at hA7
          obtain ⟨hfn, hkn⟩ := (hf7.trans hf8).app (k2 := k2) (y := some ((143, 4), acc.map encAttr ++ [encAttr a])) hk (fun e => by simpa [e] using hk2)
          exact ⟨n - (acc.length + 1), by omega, rfl, acc ++ [a], .gl k2, q8, e8, by simp, by simp; omega, by simp, rfl, hs8.gr.gr, hfn, fun y hy => by
            rcases List.mem_append.1 hy with h | h
            · exact hga y h
            · rw [List.mem_singleton.1 h]; exact ha, by simpa using hA7, .inr ⟨k2, rfl, hkn, by simp [encAttr]⟩⟩
    · have hin : acc.length = n := by have := of_decide_eq_false hc; omega
      rw [hin, Nat.sub_self] at hA7
      have hA8 : At b q e evQ = At b q7 e7 (chkE (mkE sN qN tN ty acc)) := by rw [hA7, Prs.rep, ret_bind, List.append_nil]
      rcases hx with ⟨rfl, rfl⟩ | ⟨k, rfl, hk, hgk⟩
      · refine AW.exit ?_
        all_goals simp only [zs, reduceIte, Nat.reduceEqDiff, Nat.reduceLT, Nat.reduceLeDiff, Nat.reduceAdd, reduceCtorEq, Nat.reduceMul, e0, e2', l2, e3', l3]
        exact ⟨rfl, [], _, q7, e7, rfl, .inr ⟨rfl, rfl⟩, hs7, hf7, Nat.zero_le _, hga, hA8⟩
      · refine AW.freeze (k := k) (T := (143, 4)) (es := acc.map encAttr) (by simpa using hgk) ?_
        refine AW.exit ?_
        all_goals simp only [zs, reduceIte, Nat.reduceEqDiff, Nat.reduceLT, Nat.reduceLeDiff, Nat.reduceAdd, reduceCtorEq, Nat.reduceMul, e0, e2', l2, e3', l3, fzV, fz1, St.fz_t, St.fz_l, Option.map_some, List.map]
        exact ⟨rfl, acc, _, q7, e7, rfl, .inl rfl, hs7.gr, hf7.drop hk, by omega, hga, hA8⟩
  clear e0 e2' l2 e3' l3 e4' hs6 hf6 hA6
  rintro s σ' ⟨e0, e2', l2, e3', acc, x, q7, e7, l3, hx, hs7, hf7, hal, hga, hA7⟩
  have hr := hs7.rd
  have hE := okE_mk (s := sN) (q := qN) (t := tN) hty hal hga
  have he7 : (e7 == 0) = decide (e7 = 0) := by rw [Bool.eq_iff_iff]; simp
  unfold ptrV at e0
  rcases hx with rfl | ⟨rfl, rfl⟩
  · refine AW.seq_k fun K13 h13 => ?_
    refine AW.seq_k fun K14 h14 => ?_
    all_goals refine AW.reg0 ?_
    all_goals iterate 5 (refine S.g rfl rfl fun K' k' => ?_; simp only [zz, reduceIte, Nat.reduceEqDiff, Nat.reduceLT, Nat.reduceLeDiff, Nat.reduceAdd, reduceCtorEq, Nat.reduceMul, of170_1, ok29, sz29, ag29, e0, hr, map2, he7, List.getD_cons_succ, List.getD_cons_zero]; refine k' _ _ ?_; clear k' K')
    all_goals refine S.nil ?_
    all_goals simp only [ze, reduceIte, Nat.reduceEqDiff, Nat.reduceLT, Nat.reduceLeDiff, Nat.reduceAdd, reduceCtorEq, Nat.reduceMul, e0, hr, map2, he7, List.getD_cons_succ, List.getD_cons_zero]
    all_goals apply_assumption
    refine AW.cond (b := decide (e7 = 0)) (by simp [ev]) (fun hd => ?_) (fun hd => ?_)
    · have hd := of_decide_eq_true hd
      subst hd
      all_goals refine AW.reg0 ?_
      all_goals iterate 2 (refine S.g rfl rfl fun K' k' => ?_; simp only [zz, reduceIte, Nat.reduceEqDiff, Nat.reduceLT, Nat.reduceLeDiff, Nat.reduceAdd, reduceCtorEq, Nat.reduceMul, ok36, sz36, ag36, e0, e3', l3, hr, map2, List.getD_cons_succ, List.getD_cons_zero]; refine k' _ _ ?_; clear k' K')
      all_goals (refine S.g rfl rfl fun K' k' => ?_; simp only [zz, reduceIte, Nat.reduceEqDiff, Nat.reduceLT, Nat.reduceLeDiff, Nat.reduceAdd, reduceCtorEq, Nat.reduceMul, e0, e3', l3, hr, map2, List.getD_cons_succ, List.getD_cons_zero]; refine PCalls.eqto (check_ev _ hE) ?_ <;> (refine k' _ _ ?_; clear k' K'))
      all_goals iterate 3 (refine S.g rfl rfl fun K' k' => ?_; simp only [zz, reduceIte, Nat.reduceEqDiff, Nat.reduceLT, Nat.reduceLeDiff, Nat.reduceAdd, reduceCtorEq, Nat.reduceMul, of170_1, ok29, sz29, ag29, e0, e3', l3, hr, map2, List.getD_cons_succ, List.getD_cons_zero]; refine k' _ _ ?_; clear k' K')
      all_goals refine S.nil ?_
      all_goals simp only [ze, reduceIte, Nat.reduceEqDiff, Nat.reduceLT, Nat.reduceLeDiff, Nat.reduceAdd, reduceCtorEq, Nat.reduceMul, e0, e3', l3, hr, map2, List.getD_cons_succ, List.getD_cons_zero]
      all_goals apply_assumption
      have hs8 := hs7.set (evErr (mkE sN qN tN ty acc))
      have hf8 : Fr2 g r σ _ := hf7.trans (Fr2.set (x := some [ptrV g, .c (.int .i64 (evErr (mkE sN qN tN ty acc)))]))
      refine AW.seq_k fun K15 h15 => ?_
      all_goals refine AW.reg0 ?_
      all_goals iterate 2 (refine S.g rfl rfl fun K' k' => ?_; simp only [zz, reduceIte, Nat.reduceEqDiff, Nat.reduceLT, Nat.reduceLeDiff, Nat.reduceAdd, reduceCtorEq, Nat.reduceMul, ok36, sz36, ag36, e2', l2, e3', l3]; refine k' _ _ ?_; clear k' K')
      all_goals refine S.nil ?_
      all_goals simp only [ze, reduceIte, Nat.reduceEqDiff, Nat.reduceLT, Nat.reduceLeDiff, Nat.reduceAdd, reduceCtorEq, Nat.reduceMul, e2', l2, e3', l3]
      all_goals apply_assumption
      refine AW.ret ?_
      all_goals simp only [zs, reduceIte, Nat.reduceEqDiff, Nat.reduceLT, Nat.reduceLeDiff, Nat.reduceAdd, reduceCtorEq, Nat.reduceMul, ok36, sz36, ag36, cut, List.drop_zero, List.take_succ_cons, List.take_zero, e2']
      all_goals simp only [zz, Bool.false_eq_true, if_true, reduceIte, not_false_eq_true, true_and, e2']
      refine ⟨mkE sN qN tN ty acc, q7, _, by simp [wk, wk1, encEv, mkE], hE, hs8, hf8, Lnk.of ?_⟩
      rw [hA7, chkE]
      by_cases hz : evErr (mkE sN qN tN ty acc) = 0
      · rw [if_pos hz, hz]
      · rw [if_neg hz, At_err hz]; rfl
    · have hd := of_decide_eq_false hd
      refine AW.skip ?_
      all_goals simp only [zs, reduceIte, Nat.reduceEqDiff, Nat.reduceLT, Nat.reduceLeDiff, Nat.reduceAdd, reduceCtorEq, Nat.reduceMul]
      all_goals apply_assumption
      refine AW.seq_k fun K16 h16 => ?_
      all_goals refine AW.reg0 ?_
      all_goals iterate 2 (refine S.g rfl rfl fun K' k' => ?_; simp only [zz, reduceIte, Nat.reduceEqDiff, Nat.reduceLT, Nat.reduceLeDiff, Nat.reduceAdd, reduceCtorEq, Nat.reduceMul, ok36, sz36, ag36, e2', l2, e3', l3]; refine k' _ _ ?_; clear k' K')
      all_goals refine S.nil ?_
      all_goals simp only [ze, reduceIte, Nat.reduceEqDiff, Nat.reduceLT, Nat.reduceLeDiff, Nat.reduceAdd, reduceCtorEq, Nat.reduceMul, e2', l2, e3', l3]
      all_goals apply_assumption
      refine AW.ret ?_
      all_goals simp only [zs, reduceIte, Nat.reduceEqDiff, Nat.reduceLT, Nat.reduceLeDiff, Nat.reduceAdd, reduceCtorEq, Nat.reduceMul, ok36, sz36, ag36, cut, List.drop_zero, List.take_succ_cons, List.take_zero, e2']
      all_goals simp only [zz, Bool.false_eq_true, if_true, reduceIte, not_false_eq_true, true_and, e2']
      refine ⟨mkE sN qN tN ty acc, q7, e7, by simp [wk, wk1, encEv, mkE], hE, hs7, hf7, Lnk.no _ hd ?_⟩
      rw [hA7, At_err hd]
  · refine AW.seq_k fun K17 h17 => ?_
    refine AW.seq_k fun K18 h18 => ?_
    all_goals refine AW.reg0 ?_
    all_goals iterate 5 (refine S.g rfl rfl fun K' k' => ?_; simp only [zz, reduceIte, Nat.reduceEqDiff, Nat.reduceLT, Nat.reduceLeDiff, Nat.reduceAdd, reduceCtorEq, Nat.reduceMul, of170_1, ok29, sz29, ag29, e0, hr, map2, he7, List.getD_cons_succ, List.getD_cons_zero]; refine k' _ _ ?_; clear k' K')
    all_goals refine S.nil ?_
    all_goals simp only [ze, reduceIte, Nat.reduceEqDiff, Nat.reduceLT, Nat.reduceLeDiff, Nat.reduceAdd, reduceCtorEq, Nat.reduceMul, e0, hr, map2, he7, List.getD_cons_succ, List.getD_cons_zero]
    all_goals apply_assumption
    refine AW.cond (b := decide (e7 = 0)) (by simp [ev]) (fun hd => ?_) (fun hd => ?_)
    · have hd := of_decide_eq_true hd
      subst hd
      all_goals refine AW.reg0 ?_
      all_goals iterate 2 (refine S.g rfl rfl fun K' k' => ?_; simp only [zz, reduceIte, Nat.reduceEqDiff, Nat.reduceLT, Nat.reduceLeDiff, Nat.reduceAdd, reduceCtorEq, Nat.reduceMul, ok36, sz36, ag36, e0, e3', l3, hr, map2, List.getD_cons_succ, List.getD_cons_zero]; refine k' _ _ ?_; clear k' K')
      all_goals (refine S.g rfl rfl fun K' k' => ?_; simp only [zz, reduceIte, Nat.reduceEqDiff, Nat.reduceLT, Nat.reduceLeDiff, Nat.reduceAdd, reduceCtorEq, Nat.reduceMul, e0, e3', l3, hr, map2, List.getD_cons_succ, List.getD_cons_zero]; refine PCalls.eqto (check_ev _ hE) ?_ <;> (refine k' _ _ ?_; clear k' K'))
      all_goals iterate 3 (refine S.g rfl rfl fun K' k' => ?_; simp only [zz, reduceIte, Nat.reduceEqDiff, Nat.reduceLT, Nat.reduceLeDiff, Nat.reduceAdd, reduceCtorEq, Nat.reduceMul, of170_1, ok29, sz29, ag29, e0, e3', l3, hr, map2, List.getD_cons_succ, List.getD_cons_zero]; refine k' _ _ ?_; clear k' K')
      all_goals refine S.nil ?_
      all_goals simp only [ze, reduceIte, Nat.reduceEqDiff, Nat.reduceLT, Nat.reduceLeDiff, Nat.reduceAdd, reduceCtorEq, Nat.reduceMul, e0, e3', l3, hr, map2, List.getD_cons_succ, List.getD_cons_zero]
      all_goals apply_assumption
      have hs8 := hs7.set (evErr (mkE sN qN tN ty []))
      have hf8 : Fr2 g r σ _ := hf7.trans (Fr2.set (x := some [ptrV g, .c (.int .i64 (evErr (mkE sN qN tN ty [])))]))
      refine AW.seq_k fun K19 h19 => ?_
      all_goals refine AW.reg0 ?_
      all_goals iterate 2 (refine S.g rfl rfl fun K' k' => ?_; simp only [zz, reduceIte, Nat.reduceEqDiff, Nat.reduceLT, Nat.reduceLeDiff, Nat.reduceAdd, reduceCtorEq, Nat.reduceMul, ok36, sz36, ag36, e2', l2, e3', l3]; refine k' _ _ ?_; clear k' K')
      all_goals refine S.nil ?_
      all_goals simp only [ze, reduceIte, Nat.reduceEqDiff, Nat.reduceLT, Nat.reduceLeDiff, Nat.reduceAdd, reduceCtorEq, Nat.reduceMul, e2', l2, e3', l3]
      all_goals apply_assumption
      refine AW.ret ?_
      all_goals simp only [zs, reduceIte, Nat.reduceEqDiff, Nat.reduceLT, Nat.reduceLeDiff, Nat.reduceAdd, reduceCtorEq, Nat.reduceMul, ok36, sz36, ag36, cut, List.drop_zero, List.take_succ_cons, List.take_zero, e2']
      all_goals simp only [zz, Bool.false_eq_true, if_true, reduceIte, not_false_eq_true, true_and, e2']
      refine ⟨mkE sN qN tN ty [], q7, _, by simp [wk, wk1, encEv, mkE], hE, hs8, hf8, Lnk.of ?_⟩
      rw [hA7, chkE]
      by_cases hz : evErr (mkE sN qN tN ty []) = 0
      · rw [if_pos hz, hz]
      · rw [if_neg hz, At_err hz]; rfl
    · have hd := of_decide_eq_false hd
      refine AW.skip ?_
      all_goals simp only [zs, reduceIte, Nat.reduceEqDiff, Nat.reduceLT, Nat.reduceLeDiff, Nat.reduceAdd, reduceCtorEq, Nat.reduceMul]
      all_goals apply_assumption
      refine AW.seq_k fun K20 h20 => ?_
      all_goals refine AW.reg0 ?_
      all_goals iterate 2 (refine S.g rfl rfl fun K' k' => ?_; simp only [zz, reduceIte, Nat.reduceEqDiff, Nat.reduceLT, Nat.reduceLeDiff, Nat.reduceAdd, reduceCtorEq, Nat.reduceMul, ok36, sz36, ag36, e2', l2, e3', l3]; refine k' _ _ ?_; clear k' K')
      all_goals refine S.nil ?_
      all_goals simp only [ze, reduceIte, Nat.reduceEqDiff, Nat.reduceLT, Nat.reduceLeDiff, Nat.reduceAdd, reduceCtorEq, Nat.reduceMul, e2', l2, e3', l3]
      all_goals apply_assumption
      refine AW.ret ?_
      all_goals simp only [zs, reduceIte, Nat.reduceEqDiff, Nat.reduceLT, Nat.reduceLeDiff, Nat.reduceAdd, reduceCtorEq, Nat.reduceMul, ok36, sz36, ag36, cut, List.drop_zero, List.take_succ_cons, List.take_zero, e2']
      all_goals simp only [zz, Bool.false_eq_true, if_true, reduceIte, not_false_eq_true, true_and, e2']
      refine ⟨mkE sN qN tN ty [], q7, e7, by simp [wk, wk1, encEv, mkE], hE, hs7, hf7, Lnk.no _ hd ?_⟩
      rw [hA7, At_err hd]
end Go.Abs.M
namespace Go.Abs.M
open Go Go.Abs Go.Proofs
set_option maxRecDepth 20000
set_option linter.unusedSimpArgs false
set_option linter.unusedVariables false
theorem Lnk.zero {α : Type} {b : List Nat} {q q' : Nat} {e' : Int} {p : Prs α} {a : α} (h : Lnk b q 0 p a q' e') : (e' = 0 ∧ ∃ c, p ((unB b).drop q) = .ok (a, c) ∧ q' = q + c) ∨ (e' ≠ 0 ∧ p ((unB b).drop q) = .error e') := by
  unfold Lnk At at h
  rw [if_pos rfl] at h
  cases hp : p ((unB b).drop q) with
  | error d =>
    rw [hp] at h
    rcases h with ⟨_, h⟩ | ⟨h1, h⟩
    · cases h
    · injection h with h; subst h; exact .inr ⟨h1, rfl⟩
  | ok x =>
    obtain ⟨x, c⟩ := x
    rw [hp] at h
    rcases h with ⟨h1, h⟩ | ⟨_, h⟩
    · injection h with h; injection h with h2 h3; subst h2; exact .inl ⟨h1, c, rfl, h3.symm⟩
    · cases h
/-- What a taking leaves: the thing, or what is wrong and where it stood. -/
def Tk {α : Type} (g : Nat) (b : List Nat) (q : Nat) (enc : α → V) (zero : V) (good : α → Prop) (p : Prs α) (σ : Hp) (v : V) (σ' : Hp) : Prop :=
  match p ((unB b).drop q) with
  | .ok (a, c) => v = .tup [enc a, .c (.int .i64 0)] ∧ σ'.obj g = some (srcC b (q + c)) ∧ q + c ≤ 8 * b.length ∧ good a ∧ Fr2 g g σ σ'
  | .error e => v = .tup [zero, .c (.int .i64 e)] ∧ e ≠ 0 ∧ σ'.obj g = some (srcC b q) ∧ Fr2 g g σ σ'
def zeroE : V := .agg [.c (.int .i64 0), .c (.int .i64 0), .c (.int .i64 0), .c (.string ⟨#[]⟩), .sl []]
theorem Fr2.one {g r : Nat} {σ σ' : Hp} {x : Option (List V)} (h : Fr2 g r (σ.setObj r x) σ') (hr : σ.obj r = none) : Fr2 g g σ σ' :=
  ⟨fun y c hy _ hc => h.obj y c hy (fun e => by rw [e, hr] at hc; cases hc) (by rw [Hp.setObj_obj, if_neg (fun e => by rw [e, hr] at hc; cases hc)]; exact hc), fun k x hk => h.gr k x hk⟩
theorem Fr2.setb {g : Nat} {σ σ' : Hp} {x : Option (List V)} (h : Fr2 g g σ σ') : Fr2 g g σ (σ'.setObj g x) :=
  ⟨fun y c hy hz hc => by rw [Hp.setObj_obj, if_neg hy]; exact h.obj y c hy hz hc, fun k x hk => h.gr k x hk⟩
theorem evTake_spec (g : Nat) (b : List Nat) (q : Nat) (σ : Hp) (ho : σ.obj g = some (srcC b q)) (hb : b.length < 140737488355329) (hb256 : ∀ x ∈ b, x < 256) (hq : q ≤ 8 * b.length) :
    ACalls Try.prog 124 [ptrV g] σ (Tk g b q (fun a => .agg (encEv a)) zeroE okE evQ σ) := by
  refine ACalls.intro Try.call124 Try.func124 rfl Try.ntmps124 Try.results124 (by simp) ?_
  have hz : σ.setObj g (some (srcC b (q + 0))) = σ := setObj_id ho
  have ho' : σ.obj g = some [.c (.bool true), .sl (b.map encB), .c (.int .i64 (q : Nat))] := ho
  refine AW.seq_k fun K1 h1 => ?_
  all_goals refine AW.reg0 ?_
  all_goals iterate 2 (refine S.g rfl rfl fun K' k' => ?_; simp only [zz, reduceIte, Nat.reduceEqDiff, Nat.reduceLT, Nat.reduceLeDiff, Nat.reduceAdd, reduceCtorEq, Nat.reduceMul, zt36]; refine k' _ _ ?_; clear k' K')
  all_goals refine S.nil ?_
  all_goals simp only [ze, reduceIte, Nat.reduceEqDiff, Nat.reduceLT, Nat.reduceLeDiff, Nat.reduceAdd, reduceCtorEq, Nat.reduceMul]
  all_goals apply_assumption
  refine AW.seq_k fun K2 h2 => ?_
  refine AW.seq_k fun K3 h3 => ?_
  all_goals refine AW.reg0 ?_
  all_goals (refine S.g rfl rfl fun K' k' => ?_; simp only [zz, reduceIte, Nat.reduceEqDiff, Nat.reduceAdd, pw]; refine k' _ _ ?_; clear k' K')
  all_goals (refine S.g rfl rfl fun K' k' => ?_; simp only [zz, reduceIte, Nat.reduceEqDiff, Nat.reduceLT, Nat.reduceLeDiff, Nat.reduceAdd, reduceCtorEq, Nat.reduceMul, pw]; refine (sBits_spec g b q 0 _ ho hb hb256 hq (by omega)).to fun v σ2 hv => ?_; rw [if_pos (by omega)] at hv; obtain ⟨rfl, hσ⟩ := hv <;> (refine k' _ _ ?_; clear k' K'))
  all_goals iterate 5 (refine S.g rfl rfl fun K' k' => ?_; simp only [zz, reduceIte, Nat.reduceEqDiff, Nat.reduceLT, Nat.reduceLeDiff, Nat.reduceAdd, reduceCtorEq, Nat.reduceMul, pw]; refine k' _ _ ?_; clear k' K')
  all_goals refine S.nil ?_
  all_goals simp only [ze, reduceIte, Nat.reduceEqDiff, Nat.reduceLT, Nat.reduceLeDiff, Nat.reduceAdd, reduceCtorEq, Nat.reduceMul, pw]
  all_goals apply_assumption
  rw [hz] at hσ
  subst hσ
  refine AW.seq_k fun K4 h4 => ?_
  all_goals refine AW.reg0 ?_
  all_goals iterate 2 (refine S.g rfl rfl fun K' k' => ?_; simp only [zz, reduceIte, Nat.reduceEqDiff, Nat.reduceAdd]; refine k' _ _ ?_; clear k' K')
  all_goals refine S.nil ?_
  all_goals simp only [ze, reduceIte, Nat.reduceEqDiff, Nat.reduceLT, Nat.reduceLeDiff, Nat.reduceAdd, reduceCtorEq, Nat.reduceMul]
  all_goals apply_assumption
  refine AW.cond (b := false) (by simp [ev]) (fun hc => by cases hc) (fun hc => ?_)
  refine AW.skip ?_
  all_goals simp only [zs, reduceIte, Nat.reduceEqDiff, Nat.reduceLT, Nat.reduceLeDiff, Nat.reduceAdd, reduceCtorEq, Nat.reduceMul]
  all_goals apply_assumption
  refine AW.seq_k fun K5 h5 => ?_
  all_goals refine AW.reg0 ?_
  all_goals iterate 5 (refine S.g rfl rfl fun K' k' => ?_; simp only [zz, reduceIte, Nat.reduceEqDiff, Nat.reduceLT, Nat.reduceLeDiff, Nat.reduceAdd, reduceCtorEq, Nat.reduceMul, ok129, sz129, ag129, zt129, pw, ptrV, ho', map3]; refine k' _ _ ?_; clear k' K')
  all_goals refine S.nil ?_
  all_goals simp only [ze, reduceIte, Nat.reduceEqDiff, Nat.reduceLT, Nat.reduceLeDiff, Nat.reduceAdd, reduceCtorEq, Nat.reduceMul, pw, ptrV, ho', map3]
  all_goals apply_assumption
  refine AW.seq_k fun K6 h6 => ?_
  all_goals refine AW.region (T := { hp := fun d => d == 22 }) (fun _ _ h => by cases h) rfl ?_
  all_goals (refine S.g rfl rfl fun K' k' => ?_; simp only [zz, reduceIte, Nat.reduceEqDiff, Nat.reduceAdd, pw]; refine k' _ _ ?_; clear k' K')
  all_goals (refine S.g rfl rfl fun K' k' => ?_; simp only [zz, reduceIte, Nat.reduceEqDiff, Nat.reduceLT, Nat.reduceLeDiff, Nat.reduceAdd, reduceCtorEq, Nat.reduceMul, zt170, pl170, pw]; refine k' _ _ ?_; clear k' K')
  all_goals (refine S.g rfl rfl fun K' k' => ?_; simp only [zz, reduceIte, Nat.reduceEqDiff, Nat.reduceLT, Nat.reduceLeDiff, Nat.reduceAdd, reduceCtorEq, Nat.reduceMul, ok170, sz170, ag170, pw]; intro r hr <;> (refine k' _ _ ?_; clear k' K'))
  all_goals (refine S.g rfl rfl fun K' k' => ?_; simp only [zz, reduceIte, Nat.reduceEqDiff, Nat.reduceAdd, pw]; refine k' _ _ ?_; clear k' K')
  all_goals refine S.nil ?_
  all_goals simp only [ze, reduceIte, Nat.reduceEqDiff, Nat.reduceLT, Nat.reduceLeDiff, Nat.reduceAdd, reduceCtorEq, Nat.reduceMul, pw]
  all_goals apply_assumption
  have hgr : g ≠ r := fun e => by rw [e, hr] at ho; cases ho
  have hs3 : RS g r b q 0 (σ2.setObj r (some [ptrV g, .c (.int .i64 0)])) := ⟨hgr, by simp [hgr, ho], by simp, hq⟩
  refine AW.seq_k fun K7 h7 => ?_
  all_goals refine AW.reg0 ?_
  all_goals (refine S.g rfl rfl fun K' k' => ?_; simp only [zz, reduceIte, Nat.reduceEqDiff, Nat.reduceAdd, pw, encEv]; refine k' _ _ ?_; clear k' K')
  all_goals (refine S.g rfl rfl fun K' k' => ?_; simp only [zz, reduceIte, Nat.reduceEqDiff, Nat.reduceLT, Nat.reduceLeDiff, Nat.reduceAdd, reduceCtorEq, Nat.reduceMul, pw, encEv]; refine (rdEvent_spec g r b q 0 _ hs3 hb hb256).to fun v σ4 hv => ?_; obtain ⟨x, q4, e4, rfl, hx, hs4, hf4, hL4⟩ := hv <;> (refine k' _ _ ?_; clear k' K'))
  all_goals iterate 2 (refine S.g rfl rfl fun K' k' => ?_; simp only [zz, reduceIte, Nat.reduceEqDiff, Nat.reduceLT, Nat.reduceLeDiff, Nat.reduceAdd, reduceCtorEq, Nat.reduceMul, zt36, ok36, sz36, ag36, pw, encEv]; refine k' _ _ ?_; clear k' K')
  all_goals refine S.nil ?_
  all_goals simp only [ze, reduceIte, Nat.reduceEqDiff, Nat.reduceLT, Nat.reduceLeDiff, Nat.reduceAdd, reduceCtorEq, Nat.reduceMul, pw, encEv]
  all_goals apply_assumption
  have hr4 := hs4.rd
  have hf5 : Fr2 g g σ2 σ4 := hf4.one hr
  refine AW.seq_k fun K8 h8 => ?_
  refine AW.seq_k fun K9 h9 => ?_
  all_goals refine AW.reg0 ?_
  all_goals iterate 5 (refine S.g rfl rfl fun K' k' => ?_; simp only [zz, reduceIte, Nat.reduceEqDiff, Nat.reduceLT, Nat.reduceLeDiff, Nat.reduceAdd, reduceCtorEq, Nat.reduceMul, of170_1, ok29, sz29, ag29, hr4, map2, List.getD_cons_succ, List.getD_cons_zero]; refine k' _ _ ?_; clear k' K')
  all_goals refine S.nil ?_
  all_goals simp only [ze, reduceIte, Nat.reduceEqDiff, Nat.reduceLT, Nat.reduceLeDiff, Nat.reduceAdd, reduceCtorEq, Nat.reduceMul, hr4, map2, List.getD_cons_succ, List.getD_cons_zero]
  all_goals apply_assumption
  have hrg := hgr.symm
  rcases hL4.zero with ⟨h0, c, hP, hq4⟩ | ⟨h0, hP⟩
  · subst h0
    refine AW.cond (b := false) (by simp [ev]) (fun hc => by cases hc) (fun hc => ?_)
    refine AW.skip ?_
    all_goals simp only [zs, reduceIte, Nat.reduceEqDiff, Nat.reduceLT, Nat.reduceLeDiff, Nat.reduceAdd, reduceCtorEq, Nat.reduceMul]
    all_goals apply_assumption
    refine AW.seq_k fun K10 h10 => ?_
    all_goals refine AW.reg0 ?_
    all_goals iterate 3 (refine S.g rfl rfl fun K' k' => ?_; simp only [zz, reduceIte, Nat.reduceEqDiff, Nat.reduceLT, Nat.reduceLeDiff, Nat.reduceAdd, reduceCtorEq, Nat.reduceMul, ok36, sz36, ag36]; refine k' _ _ ?_; clear k' K')
    all_goals refine S.nil ?_
    all_goals simp only [ze, reduceIte, Nat.reduceEqDiff, Nat.reduceLT, Nat.reduceLeDiff, Nat.reduceAdd, reduceCtorEq, Nat.reduceMul]
    all_goals apply_assumption
    refine AW.ret ?_
    all_goals simp only [zs, reduceIte, Nat.reduceEqDiff, Nat.reduceLT, Nat.reduceLeDiff, Nat.reduceAdd, reduceCtorEq, Nat.reduceMul, ok36, sz36, ag36, cut, List.drop_zero, List.take_succ_cons, List.take_zero]
    all_goals simp only [zz, Bool.false_eq_true, if_true, reduceIte, not_false_eq_true, true_and]
    unfold Tk
    rw [hP]
    exact ⟨by simp [wk, wk1, encEv], by rw [← hq4]; exact hs4.src, by rw [← hq4]; exact hs4.le, hx, hf5⟩
  · refine AW.cond (b := true) (by simp [ev, h0]) (fun hc => ?_) (fun hc => by cases hc)
    have hg4 : σ4.obj g = some [.c (.bool true), .sl (b.map encB), .c (.int .i64 (q4 : Nat))] := hs4.src
    refine AW.seq_k fun K11 h11 => ?_
    all_goals refine AW.reg0 ?_
    all_goals iterate 4 (refine S.g rfl rfl fun K' k' => ?_; simp only [zz, reduceIte, Nat.reduceEqDiff, Nat.reduceLT, Nat.reduceLeDiff, Nat.reduceAdd, reduceCtorEq, Nat.reduceMul, ok129, sz129, ag129, hg4, map3]; refine k' _ _ ?_; clear k' K')
    all_goals refine S.nil ?_
    all_goals simp only [ze, reduceIte, Nat.reduceEqDiff, Nat.reduceLT, Nat.reduceLeDiff, Nat.reduceAdd, reduceCtorEq, Nat.reduceMul, hg4, map3]
    all_goals apply_assumption
    have hr5 : (σ4.setObj g (some [.c (.bool true), .sl (b.map encB), .c (.int .i64 (q : Nat))])).obj r = some [ptrV g, .c (.int .i64 e4)] := by simp [hgr.symm, hr4]
    refine AW.seq_k fun K12 h12 => ?_
    all_goals refine AW.drawF (T := { sd := fun _ => false }) (fun _ _ h => by cases h) mixedO (.st 0 0 (.st 1 0 (.st 2 0 (.st 3 0 (.fork 4 (.st 5 2 (.st 6 0 .nil)) 5 (.st 4 2 (.st 6 0 .nil))))))) rfl (by kernel_rfl) (by kernel_rfl) ?_
    all_goals (refine F.g rfl trivial rfl rfl fun K' k' => ?_; simp only [zz, reduceIte, Nat.reduceEqDiff, Nat.reduceLT, Nat.reduceLeDiff, Nat.reduceAdd, reduceCtorEq, Nat.reduceMul, zt36, pl36, hrg, hr4, map2, List.getD_cons_succ, List.getD_cons_zero]; refine k' _ _ ?_; clear k' K')
    all_goals iterate 3 (refine F.g rfl trivial rfl rfl fun K' k' => ?_; simp only [zz, reduceIte, Nat.reduceEqDiff, Nat.reduceLT, Nat.reduceLeDiff, Nat.reduceAdd, reduceCtorEq, Nat.reduceMul, of170_1, hrg, hr4, map2, List.getD_cons_succ, List.getD_cons_zero]; refine k' _ _ ?_; clear k' K')
    all_goals (try first | refine F.fork ?_ ?_ | refine F.fork3 ?_ ?_ ?_)
    all_goals first | (refine F.g rfl trivial rfl rfl fun K' k' => ?_; simp only [zz, reduceIte, Nat.reduceEqDiff, Nat.reduceLT, Nat.reduceLeDiff, Nat.reduceAdd, reduceCtorEq, Nat.reduceMul, ok29, sz29, ag29, hrg, hr4, map2, List.getD_cons_succ, List.getD_cons_zero]; refine k' _ _ ?_; clear k' K') | (refine F.g rfl trivial rfl rfl fun K' k' => ?_; simp only [zz, reduceIte, Nat.reduceEqDiff, Nat.reduceLT, Nat.reduceLeDiff, Nat.reduceAdd, reduceCtorEq, Nat.reduceMul, ok36, sz36, ag36, hrg, hr4, map2, List.getD_cons_succ, List.getD_cons_zero]; refine k' _ _ ?_; clear k' K')
    all_goals first | (refine F.g rfl trivial rfl rfl fun K' k' => ?_; simp only [zz, reduceIte, Nat.reduceEqDiff, Nat.reduceLT, Nat.reduceLeDiff, Nat.reduceAdd, reduceCtorEq, Nat.reduceMul, ok36, sz36, ag36, hrg, hr4, map2, List.getD_cons_succ, List.getD_cons_zero]; refine k' _ _ ?_; clear k' K') | (refine F.g rfl trivial rfl rfl fun K' k' => ?_; simp only [zz, reduceIte, Nat.reduceEqDiff, Nat.reduceLT, Nat.reduceLeDiff, Nat.reduceAdd, reduceCtorEq, Nat.reduceMul, ok29, sz29, ag29, hrg, hr4, map2, List.getD_cons_succ, List.getD_cons_zero]; refine k' _ _ ?_; clear k' K')
    all_goals (refine F.g rfl trivial rfl rfl fun K' k' => ?_; simp only [zz, reduceIte, Nat.reduceEqDiff, Nat.reduceAdd, hrg, hr4, map2, List.getD_cons_succ, List.getD_cons_zero]; refine k' _ _ ?_; clear k' K')
    all_goals refine F.nil ?_
    all_goals simp only [ze, reduceIte, Nat.reduceEqDiff, Nat.reduceLT, Nat.reduceLeDiff, Nat.reduceAdd, reduceCtorEq, Nat.reduceMul, hrg, hr4, map2, List.getD_cons_succ, List.getD_cons_zero]
    all_goals apply_assumption
    all_goals (refine AW.ret ?_)
    all_goals simp only [zs, reduceIte, Nat.reduceEqDiff, Nat.reduceLT, Nat.reduceLeDiff, Nat.reduceAdd, reduceCtorEq, Nat.reduceMul, ok36, sz36, ag36, cut, List.drop_zero, List.take_succ_cons, List.take_zero]
    all_goals simp only [zz, Bool.false_eq_true, if_true, reduceIte, not_false_eq_true, true_and]
    all_goals
      unfold Tk
      rw [hP]
      exact ⟨by simp [wk, wk1, zeroE], h0, by simp [srcC], hf5.setb⟩
end Go.Abs.M
namespace Go.Abs.M
open Go Go.Abs Go.Proofs
set_option maxRecDepth 20000
set_option linter.unusedSimpArgs false
set_option linter.unusedVariables false
def bdQ : Prs Bd := Prs.bind textP fun t => Prs.bind evQ fun e => Prs.ret ⟨strOf t, e⟩
def chkP (l : List Bd) : Prs (List Bd) := if partErr l = 0 then Prs.ret l else Prs.err (partErr l)
/-- A partial match, as the program reads it. -/
def partQ : Prs (List Bd) := Prs.bind (bitsP 4) fun n => if 12 < n then Prs.err 100 else Prs.bind (Prs.rep bdQ n) chkP
theorem bdQ_bind {β : Type} (f : Bd → Prs β) : Prs.bind bdQ f = Prs.bind textP fun t => Prs.bind evQ fun e => f ⟨strOf t, e⟩ := by
  rw [bdQ, bind_assoc]
  congr 1
  funext t
  rw [bind_assoc]
  congr 1
  funext e
  rw [ret_bind]
/-- What 'bounds' leaves. -/
def BdR (g : Nat) (b : List Nat) (q : Nat) (σ : Hp) (v : V) (σ' : Hp) : Prop :=
  match At b q 0 partQ with
  | .ok (l, q') => v = .tup [.agg [.sl (l.map encBd)], .c (.int .i64 0)] ∧ σ'.obj g = some (srcC b q') ∧ q' ≤ 8 * b.length ∧ okP l ∧ Fr2 g g σ σ'
  | .error e => ∃ (l : List Bd) (q' : Nat), v = .tup [.agg [.sl (l.map encBd)], .c (.int .i64 e)] ∧ e ≠ 0 ∧ σ'.obj g = some (srcC b q') ∧ q' ≤ 8 * b.length ∧ Fr2 g g σ σ'
theorem BdR.err {g q q' : Nat} {b : List Nat} {σ σ' : Hp} {v : V} {e : Int} (l : List Bd) (h : At b q 0 partQ = .error e) (hv : v = .tup [.agg [.sl (l.map encBd)], .c (.int .i64 e)]) (he : e ≠ 0) (ho : σ'.obj g = some (srcC b q')) (hq : q' ≤ 8 * b.length) (hf : Fr2 g g σ σ') : BdR g b q σ v σ' := by
  unfold BdR; rw [h]; exact ⟨l, q', hv, he, ho, hq, hf⟩
theorem BdR.okk {g q q' : Nat} {b : List Nat} {σ σ' : Hp} {v : V} {l : List Bd} (h : At b q 0 partQ = .ok (l, q')) (hv : v = .tup [.agg [.sl (l.map encBd)], .c (.int .i64 0)]) (ho : σ'.obj g = some (srcC b q')) (hq : q' ≤ 8 * b.length) (hl : okP l) (hf : Fr2 g g σ σ') : BdR g b q σ v σ' := by
  unfold BdR; rw [h]; exact ⟨hv, ho, hq, hl, hf⟩
theorem bounds_spec (g : Nat) (b : List Nat) (q : Nat) (σ : Hp) (ho : σ.obj g = some (srcC b q)) (hb : b.length < 140737488355329) (hb256 : ∀ x ∈ b, x < 256) (hq : q ≤ 8 * b.length) :
    ACalls Try.prog 101 [ptrV g] σ (BdR g b q σ) := by
  refine ACalls.intro Try.call101 Try.func101 rfl Try.ntmps101 Try.results101 (by simp) ?_
  by_cases hin : q + 4 ≤ 8 * b.length
  · have hA : At b q 0 partQ = _ := At_bind
    rw [At_bits hq, if_pos hin] at hA
    simp only [] at hA
    have hn := bitsV_lt b q 4
    refine AW.seq_k fun K1 h1 => ?_
    all_goals refine AW.reg0 ?_
    all_goals iterate 2 (refine S.g rfl rfl fun K' k' => ?_; simp only [zz, reduceIte, Nat.reduceEqDiff, Nat.reduceLT, Nat.reduceLeDiff, Nat.reduceAdd, reduceCtorEq, Nat.reduceMul, zt24]; refine k' _ _ ?_; clear k' K')
    all_goals refine S.nil ?_
    all_goals simp only [ze, reduceIte, Nat.reduceEqDiff, Nat.reduceLT, Nat.reduceLeDiff, Nat.reduceAdd, reduceCtorEq, Nat.reduceMul]
    all_goals apply_assumption
    refine AW.seq_k fun K2 h2 => ?_
    all_goals refine AW.reg0 ?_
    all_goals (refine S.g rfl rfl fun K' k' => ?_; simp only [zz, reduceIte, Nat.reduceEqDiff, Nat.reduceLT, Nat.reduceLeDiff, Nat.reduceAdd, reduceCtorEq, Nat.reduceMul, zt24, pw]; refine k' _ _ ?_; clear k' K')
    all_goals refine S.nil ?_
    all_goals simp only [ze, reduceIte, Nat.reduceEqDiff, Nat.reduceLT, Nat.reduceLeDiff, Nat.reduceAdd, reduceCtorEq, Nat.reduceMul, pw]
    all_goals apply_assumption
    refine AW.seq_k fun K3 h3 => ?_
    all_goals refine AW.reg0 ?_
    all_goals (refine S.g rfl rfl fun K' k' => ?_; simp only [zz, reduceIte, Nat.reduceEqDiff, Nat.reduceAdd, pw]; refine k' _ _ ?_; clear k' K')
    all_goals (refine S.g rfl rfl fun K' k' => ?_; simp only [zz, reduceIte, Nat.reduceEqDiff, Nat.reduceLT, Nat.reduceLeDiff, Nat.reduceAdd, reduceCtorEq, Nat.reduceMul, pw]; refine (sBits_spec g b q 4 _ ho hb hb256 hq (by omega)).to fun v σ2 hv => ?_; (first | rw [if_pos hin] at hv | rw [if_neg hin] at hv); obtain ⟨rfl, hσ⟩ := hv <;> (refine k' _ _ ?_; clear k' K'))
    all_goals iterate 5 (refine S.g rfl rfl fun K' k' => ?_; simp only [zz, reduceIte, Nat.reduceEqDiff, Nat.reduceLT, Nat.reduceLeDiff, Nat.reduceAdd, reduceCtorEq, Nat.reduceMul, pw]; refine k' _ _ ?_; clear k' K')
    all_goals refine S.nil ?_
    all_goals simp only [ze, reduceIte, Nat.reduceEqDiff, Nat.reduceLT, Nat.reduceLeDiff, Nat.reduceAdd, reduceCtorEq, Nat.reduceMul, pw]
    all_goals apply_assumption
    generalize bitsV b q 4 = n at *
    have ho2 : σ2.obj g = some (srcC b (q + 4)) := by rw [hσ]; simp
    have hf2 : Fr2 g g σ σ2 := by rw [hσ]; exact Fr2.setg
    clear hσ
    refine AW.seq_k fun K4 h4 => ?_
    refine AW.seq_k fun K5 h5 => ?_
    all_goals refine AW.reg0 ?_
    all_goals iterate 2 (refine S.g rfl rfl fun K' k' => ?_; simp only [zz, reduceIte, Nat.reduceEqDiff, Nat.reduceAdd]; refine k' _ _ ?_; clear k' K')
    all_goals refine S.nil ?_
    all_goals simp only [ze, reduceIte, Nat.reduceEqDiff, Nat.reduceLT, Nat.reduceLeDiff, Nat.reduceAdd, reduceCtorEq, Nat.reduceMul]
    all_goals apply_assumption
    refine AW.cond (b := false) (by simp [ev]) (fun hc => by cases hc) (fun hc => ?_)
    refine AW.skip ?_
    all_goals simp only [zs, reduceIte, Nat.reduceEqDiff, Nat.reduceLT, Nat.reduceLeDiff, Nat.reduceAdd, reduceCtorEq, Nat.reduceMul]
    all_goals apply_assumption
    refine AW.seq_k fun K6 h6 => ?_
    refine AW.seq_k fun K7 h7 => ?_
    all_goals refine AW.reg0 ?_
    all_goals iterate 2 (refine S.g rfl rfl fun K' k' => ?_; simp only [zz, reduceIte, Nat.reduceEqDiff, Nat.reduceAdd, gt_iff_lt]; refine k' _ _ ?_; clear k' K')
    all_goals refine S.nil ?_
    all_goals simp only [ze, reduceIte, Nat.reduceEqDiff, Nat.reduceLT, Nat.reduceLeDiff, Nat.reduceAdd, reduceCtorEq, Nat.reduceMul, gt_iff_lt]
    all_goals apply_assumption
    refine AW.cond (b := decide (12 < n)) (by simp [ev]; try omega) (fun hc => ?_) (fun hc => ?_)
    · have hc := of_decide_eq_true hc
      rw [if_pos hc] at hA
      refine AW.seq_k fun K8 h8 => ?_
      all_goals refine AW.reg0 ?_
      all_goals iterate 3 (refine S.g rfl rfl fun K' k' => ?_; simp only [zz, reduceIte, Nat.reduceEqDiff, Nat.reduceLT, Nat.reduceLeDiff, Nat.reduceAdd, reduceCtorEq, Nat.reduceMul, ok24, sz24, ag24]; refine k' _ _ ?_; clear k' K')
      all_goals refine S.nil ?_
      all_goals simp only [ze, reduceIte, Nat.reduceEqDiff, Nat.reduceLT, Nat.reduceLeDiff, Nat.reduceAdd, reduceCtorEq, Nat.reduceMul]
      all_goals apply_assumption
      refine AW.ret ?_
      all_goals simp only [zs, reduceIte, Nat.reduceEqDiff, Nat.reduceLT, Nat.reduceLeDiff, Nat.reduceAdd, reduceCtorEq, Nat.reduceMul, ok24, sz24, ag24, cut, List.drop_zero, List.take_succ_cons, List.take_zero]
      all_goals simp only [zz, Bool.false_eq_true, if_true, reduceIte, not_false_eq_true, true_and]
      exact BdR.err [] hA (by simp [wk, wk1]) (by decide) ho2 hin hf2
    have hc := of_decide_eq_false hc
    rw [if_neg hc] at hA
    refine AW.skip ?_
    all_goals simp only [zs, reduceIte, Nat.reduceEqDiff, Nat.reduceLT, Nat.reduceLeDiff, Nat.reduceAdd, reduceCtorEq, Nat.reduceMul]
    all_goals apply_assumption
    refine AW.seq_j (fun s σ' => s.t 0 = ptrV g ∧ s.t 2 = .lp 2 0 ∧ s.l 2 = some [.c (.slice none 0 0)] ∧ s.t 4 = .lp 4 0 ∧
      ∃ acc x q7, s.l 4 = some [x] ∧ (x = .sl (acc.map encBd) ∨ (acc = [] ∧ x = .c (.slice none 0 0))) ∧
      σ'.obj g = some (srcC b q7) ∧ q7 ≤ 8 * b.length ∧ Fr2 g g σ σ' ∧ okP acc ∧ At b q 0 partQ = At b q7 0 (chkP acc)) ?_ ?_
    · refine AW.seq_k fun K9 h9 => ?_
      all_goals refine AW.reg0 ?_
      all_goals iterate 2 (refine S.g rfl rfl fun K' k' => ?_; simp only [zz, reduceIte, Nat.reduceEqDiff, Nat.reduceAdd]; refine k' _ _ ?_; clear k' K')
      all_goals refine S.nil ?_
      all_goals simp only [ze, reduceIte, Nat.reduceEqDiff, Nat.reduceLT, Nat.reduceLeDiff, Nat.reduceAdd, reduceCtorEq, Nat.reduceMul]
      all_goals apply_assumption
      refine AW.block ?_   -- 0
      refine AW.loop (fun m s σ' => s.t 0 = ptrV g ∧ s.t 2 = .lp 2 0 ∧ s.l 2 = some [.c (.slice none 0 0)] ∧ s.t 4 = .lp 4 0 ∧ s.t 22 = .c (.int .u64 (n : Nat)) ∧
        ∃ acc x q7, m = n - acc.length ∧ acc.length ≤ n ∧ s.t 23 = .c (.int .u64 (acc.length : Nat)) ∧ s.l 4 = some [x] ∧
        σ'.obj g = some (srcC b q7) ∧ q7 ≤ 8 * b.length ∧ Fr2 g g σ σ' ∧ okP acc ∧ At b q 0 partQ = At b q7 0 (Prs.bind (Prs.rep bdQ (n - acc.length)) fun l => chkP (acc ++ l)) ∧
        ((acc = [] ∧ x = .c (.slice none 0 0)) ∨ (∃ k, x = .gl k ∧ σ.gr k = none ∧ σ'.gr k = some ((42, 6), acc.map encBd)))) n ?_ ?_
      · all_goals simp only [zs, reduceIte, Nat.reduceEqDiff, Nat.reduceLT, Nat.reduceLeDiff, Nat.reduceAdd, reduceCtorEq, Nat.reduceMul, pw]
        exact ⟨[], _, q + 4, rfl, Nat.zero_le _, rfl, rfl, ho2, hin, hf2, (fun x h => absurd h List.not_mem_nil), hA, .inl ⟨rfl, rfl⟩⟩
      clear ho2 hf2 hA
      rintro m s σ' ⟨e0, e2', l2, e4', e22, acc, x, q7, hm, hal, e23, l4, ho7, hq7, hf7, hga, hA7, hx⟩
      refine AW.seq_k fun K10 h10 => ?_
      all_goals refine AW.reg0 ?_
      all_goals (refine S.g rfl rfl fun K' k' => ?_; simp only [zz, reduceIte, Nat.reduceEqDiff, Nat.reduceAdd, e22, e23]; refine k' _ _ ?_; clear k' K')
      all_goals refine S.nil ?_
      all_goals simp only [ze, reduceIte, Nat.reduceEqDiff, Nat.reduceLT, Nat.reduceLeDiff, Nat.reduceAdd, reduceCtorEq, Nat.reduceMul, e22, e23]
      all_goals apply_assumption
      refine AW.seq_k fun K11 h11 => ?_
      refine AW.cond (b := decide (acc.length < n)) (by simp [ev]) (fun hc => ?_) (fun hc => ?_)
      · have hin := of_decide_eq_true hc
        refine AW.skip ?_
        all_goals simp only [zs, reduceIte, Nat.reduceEqDiff, Nat.reduceLT, Nat.reduceLeDiff, Nat.reduceAdd, reduceCtorEq, Nat.reduceMul]
        all_goals apply_assumption
        rw [show n - acc.length = (n - (acc.length + 1)) + 1 by omega, rep_bind, bdQ_bind, At_bind] at hA7
        have hw : IntKind.u64.wrap ((acc.length : Int) + 1) = ((acc.length + 1 : Nat) : Int) := by rw [← wrap_u64 (n := acc.length + 1) (by omega)]; rfl
        have hlen : ((unB b).drop q7).length = 8 * b.length - q7 := by rw [List.length_drop, unB_len]
        refine AW.seq_k fun K12 h12 => ?_
        refine AW.block ?_   -- 1
        rcases hN : textP ((unB b).drop q7) with d | ⟨t, c⟩
        · have hd := textP_err hN
          rw [At_er hN] at hA7
          simp only [] at hA7
          refine AW.seq_k fun K13 h13 => ?_
          all_goals refine AW.reg0 ?_
          all_goals (refine S.g rfl rfl fun K' k' => ?_; simp only [zz, reduceIte, Nat.reduceEqDiff, Nat.reduceAdd, e0, pw]; refine k' _ _ ?_; clear k' K')
          all_goals (refine S.g rfl rfl fun K' k' => ?_; simp only [zz, reduceIte, Nat.reduceEqDiff, Nat.reduceLT, Nat.reduceLeDiff, Nat.reduceAdd, reduceCtorEq, Nat.reduceMul, e0, pw]; refine (sText_spec g b q7 _ ho7 hb hb256 hq7).to fun v σ3 hv => ?_; simp only [hN] at hv; obtain ⟨rfl, ho3, hf3⟩ := hv <;> (refine k' _ _ ?_; clear k' K'))
          all_goals iterate 5 (refine S.g rfl rfl fun K' k' => ?_; simp only [zz, reduceIte, Nat.reduceEqDiff, Nat.reduceLT, Nat.reduceLeDiff, Nat.reduceAdd, reduceCtorEq, Nat.reduceMul, e0, pw]; refine k' _ _ ?_; clear k' K')
          all_goals refine S.nil ?_
          all_goals simp only [ze, reduceIte, Nat.reduceEqDiff, Nat.reduceLT, Nat.reduceLeDiff, Nat.reduceAdd, reduceCtorEq, Nat.reduceMul, e0, pw]
          all_goals apply_assumption
          refine AW.seq_k fun K14 h14 => ?_
          refine AW.seq_k fun K15 h15 => ?_
          all_goals refine AW.reg0 ?_
          all_goals iterate 2 (refine S.g rfl rfl fun K' k' => ?_; simp only [zz, reduceIte, Nat.reduceEqDiff, Nat.reduceAdd]; refine k' _ _ ?_; clear k' K')
          all_goals refine S.nil ?_
          all_goals simp only [ze, reduceIte, Nat.reduceEqDiff, Nat.reduceLT, Nat.reduceLeDiff, Nat.reduceAdd, reduceCtorEq, Nat.reduceMul]
          all_goals apply_assumption
          refine AW.cond (b := true) (by simp [ev, hd]) (fun hc => ?_) (fun hc => by cases hc)
          rcases hx with ⟨rfl, rfl⟩ | ⟨k, rfl, hk, hgk⟩
          · refine AW.seq_k fun K16 h16 => ?_
            all_goals refine AW.reg0 ?_
            all_goals iterate 4 (refine S.g rfl rfl fun K' k' => ?_; simp only [zz, reduceIte, Nat.reduceEqDiff, Nat.reduceLT, Nat.reduceLeDiff, Nat.reduceAdd, reduceCtorEq, Nat.reduceMul, ok24, sz24, ag24, e2', l2, e4', l4]; refine k' _ _ ?_; clear k' K')
            all_goals refine S.nil ?_
            all_goals simp only [ze, reduceIte, Nat.reduceEqDiff, Nat.reduceLT, Nat.reduceLeDiff, Nat.reduceAdd, reduceCtorEq, Nat.reduceMul, e2', l2, e4', l4]
            all_goals apply_assumption
            refine AW.ret ?_
            all_goals simp only [zs, reduceIte, Nat.reduceEqDiff, Nat.reduceLT, Nat.reduceLeDiff, Nat.reduceAdd, reduceCtorEq, Nat.reduceMul, ok24, sz24, ag24, cut, List.drop_zero, List.take_succ_cons, List.take_zero, e2']
            all_goals simp only [zz, Bool.false_eq_true, if_true, reduceIte, not_false_eq_true, true_and, e2']
            exact BdR.err [] hA7 (by simp [wk, wk1]) hd ho3 hq7 (hf7.trans (hf3.two ho7))
          · have hg3 := (hf3.two (r := g) ho7).gr _ _ hgk
            refine AW.seq_k fun K17 h17 => ?_
            all_goals refine AW.reg0 ?_
            all_goals iterate 4 (refine S.g rfl rfl fun K' k' => ?_; simp only [zz, reduceIte, Nat.reduceEqDiff, Nat.reduceLT, Nat.reduceLeDiff, Nat.reduceAdd, reduceCtorEq, Nat.reduceMul, ok24, sz24, ag24, e2', l2, e4', l4]; refine k' _ _ ?_; clear k' K')
            all_goals refine S.nil ?_
            all_goals simp only [ze, reduceIte, Nat.reduceEqDiff, Nat.reduceLT, Nat.reduceLeDiff, Nat.reduceAdd, reduceCtorEq, Nat.reduceMul, e2', l2, e4', l4]
            all_goals apply_assumption
            refine AW.freeze (k := k) (T := (42, 6)) (es := acc.map encBd) hg3 ?_
            refine AW.ret ?_
            all_goals simp only [zs, reduceIte, Nat.reduceEqDiff, Nat.reduceLT, Nat.reduceLeDiff, Nat.reduceAdd, reduceCtorEq, Nat.reduceMul, ok24, sz24, ag24, cut, List.drop_zero, List.take_succ_cons, List.take_zero, e2', fzV, fz1, St.fz_t, St.fz_l, Option.map_some, List.map]
            all_goals simp only [zz, Bool.false_eq_true, if_true, reduceIte, not_false_eq_true, true_and, e2', fzV, fz1, St.fz_t, St.fz_l, Option.map_some, List.map]
            exact BdR.err acc hA7 (by simp [wk, wk1]) hd (by simpa using ho3) hq7 ((hf7.trans (hf3.two ho7)).drop hk)
        obtain ⟨hcl, htl, _⟩ := textP_ok hN
        have hq3 : q7 + c ≤ 8 * b.length := by omega
        rw [At_ok hN] at hA7
        simp only [] at hA7
        rw [At_bind] at hA7
        refine AW.seq_k fun K18 h18 => ?_
        all_goals refine AW.reg0 ?_
        all_goals (refine S.g rfl rfl fun K' k' => ?_; simp only [zz, reduceIte, Nat.reduceEqDiff, Nat.reduceAdd, e0, pw]; refine k' _ _ ?_; clear k' K')
        all_goals (refine S.g rfl rfl fun K' k' => ?_; simp only [zz, reduceIte, Nat.reduceEqDiff, Nat.reduceLT, Nat.reduceLeDiff, Nat.reduceAdd, reduceCtorEq, Nat.reduceMul, e0, pw]; refine (sText_spec g b q7 _ ho7 hb hb256 hq7).to fun v σ3 hv => ?_; simp only [hN] at hv; obtain ⟨rfl, ho3, hf3⟩ := hv <;> (refine k' _ _ ?_; clear k' K'))
        all_goals iterate 5 (refine S.g rfl rfl fun K' k' => ?_; simp only [zz, reduceIte, Nat.reduceEqDiff, Nat.reduceLT, Nat.reduceLeDiff, Nat.reduceAdd, reduceCtorEq, Nat.reduceMul, e0, pw]; refine k' _ _ ?_; clear k' K')
        all_goals refine S.nil ?_
        all_goals simp only [ze, reduceIte, Nat.reduceEqDiff, Nat.reduceLT, Nat.reduceLeDiff, Nat.reduceAdd, reduceCtorEq, Nat.reduceMul, e0, pw]
        all_goals apply_assumption
        refine AW.seq_k fun K19 h19 => ?_
        refine AW.seq_k fun K20 h20 => ?_
        all_goals refine AW.reg0 ?_
        all_goals iterate 2 (refine S.g rfl rfl fun K' k' => ?_; simp only [zz, reduceIte, Nat.reduceEqDiff, Nat.reduceAdd]; refine k' _ _ ?_; clear k' K')
        all_goals refine S.nil ?_
        all_goals simp only [ze, reduceIte, Nat.reduceEqDiff, Nat.reduceLT, Nat.reduceLeDiff, Nat.reduceAdd, reduceCtorEq, Nat.reduceMul]
        all_goals apply_assumption
        refine AW.cond (b := false) (by simp [ev]) (fun hc => by cases hc) (fun hc => ?_)
        refine AW.skip ?_
        all_goals simp only [zs, reduceIte, Nat.reduceEqDiff, Nat.reduceLT, Nat.reduceLeDiff, Nat.reduceAdd, reduceCtorEq, Nat.reduceMul]
        all_goals apply_assumption
        have hg3 := (hf3.two (r := g) ho7).gr
        have hf3 : Fr2 g g σ σ3 := hf7.trans (hf3.two ho7)
        rcases hM : evQ ((unB b).drop (q7 + c)) with d | ⟨a, c2⟩
        · rw [At_er hM] at hA7
          simp only [] at hA7
          refine AW.seq_k fun K21 h21 => ?_
          all_goals refine AW.reg0 ?_
          all_goals (refine S.g rfl rfl fun K' k' => ?_; simp only [zz, reduceIte, Nat.reduceEqDiff, Nat.reduceAdd, e0, pw, zeroE]; refine k' _ _ ?_; clear k' K')
          all_goals (refine S.g rfl rfl fun K' k' => ?_; simp only [zz, reduceIte, Nat.reduceEqDiff, Nat.reduceLT, Nat.reduceLeDiff, Nat.reduceAdd, reduceCtorEq, Nat.reduceMul, e0, pw, zeroE]; refine (evTake_spec g b (q7 + c) _ ho3 hb hb256 hq3).to fun v σ4 hv => ?_; unfold Tk at hv; simp only [hM] at hv; obtain ⟨rfl, hv⟩ := hv <;> (refine k' _ _ ?_; clear k' K'))
          all_goals iterate 6 (refine S.g rfl rfl fun K' k' => ?_; simp only [zz, reduceIte, Nat.reduceEqDiff, Nat.reduceLT, Nat.reduceLeDiff, Nat.reduceAdd, reduceCtorEq, Nat.reduceMul, zt36, ok36, sz36, ag36, e0, pw, zeroE]; refine k' _ _ ?_; clear k' K')
          all_goals refine S.nil ?_
          all_goals simp only [ze, reduceIte, Nat.reduceEqDiff, Nat.reduceLT, Nat.reduceLeDiff, Nat.reduceAdd, reduceCtorEq, Nat.reduceMul, e0, pw, zeroE]
          all_goals apply_assumption
          obtain ⟨hd, ho4, hf4⟩ := hv
          refine AW.seq_k fun K22 h22 => ?_
          refine AW.seq_k fun K23 h23 => ?_
          all_goals refine AW.reg0 ?_
          all_goals iterate 2 (refine S.g rfl rfl fun K' k' => ?_; simp only [zz, reduceIte, Nat.reduceEqDiff, Nat.reduceAdd]; refine k' _ _ ?_; clear k' K')
          all_goals refine S.nil ?_
          all_goals simp only [ze, reduceIte, Nat.reduceEqDiff, Nat.reduceLT, Nat.reduceLeDiff, Nat.reduceAdd, reduceCtorEq, Nat.reduceMul]
          all_goals apply_assumption
          refine AW.cond (b := true) (by simp [ev, hd]) (fun hc => ?_) (fun hc => by cases hc)
          rcases hx with ⟨rfl, rfl⟩ | ⟨k, rfl, hk, hgk⟩
          · refine AW.seq_k fun K24 h24 => ?_
            all_goals refine AW.reg0 ?_
            all_goals iterate 4 (refine S.g rfl rfl fun K' k' => ?_; simp only [zz, reduceIte, Nat.reduceEqDiff, Nat.reduceLT, Nat.reduceLeDiff, Nat.reduceAdd, reduceCtorEq, Nat.reduceMul, ok24, sz24, ag24, e2', l2, e4', l4]; refine k' _ _ ?_; clear k' K')
            all_goals refine S.nil ?_
            all_goals simp only [ze, reduceIte, Nat.reduceEqDiff, Nat.reduceLT, Nat.reduceLeDiff, Nat.reduceAdd, reduceCtorEq, Nat.reduceMul, e2', l2, e4', l4]
            all_goals apply_assumption
            refine AW.ret ?_
            all_goals simp only [zs, reduceIte, Nat.reduceEqDiff, Nat.reduceLT, Nat.reduceLeDiff, Nat.reduceAdd, reduceCtorEq, Nat.reduceMul, ok24, sz24, ag24, cut, List.drop_zero, List.take_succ_cons, List.take_zero, e2']
            all_goals simp only [zz, Bool.false_eq_true, if_true, reduceIte, not_false_eq_true, true_and, e2']
            exact BdR.err [] hA7 (by simp [wk, wk1]) hd ho4 hq3 (hf3.trans hf4)
          · have hg4 := hf4.gr _ _ (hg3 _ _ hgk)
            refine AW.seq_k fun K25 h25 => ?_
            all_goals refine AW.reg0 ?_
            all_goals iterate 4 (refine S.g rfl rfl fun K' k' => ?_; simp only [zz, reduceIte, Nat.reduceEqDiff, Nat.reduceLT, Nat.reduceLeDiff, Nat.reduceAdd, reduceCtorEq, Nat.reduceMul, ok24, sz24, ag24, e2', l2, e4', l4]; refine k' _ _ ?_; clear k' K')
            all_goals refine S.nil ?_
            all_goals simp only [ze, reduceIte, Nat.reduceEqDiff, Nat.reduceLT, Nat.reduceLeDiff, Nat.reduceAdd, reduceCtorEq, Nat.reduceMul, e2', l2, e4', l4]
            all_goals apply_assumption
            refine AW.freeze (k := k) (T := (42, 6)) (es := acc.map encBd) hg4 ?_
            refine AW.ret ?_
            all_goals simp only [zs, reduceIte, Nat.reduceEqDiff, Nat.reduceLT, Nat.reduceLeDiff, Nat.reduceAdd, reduceCtorEq, Nat.reduceMul, ok24, sz24, ag24, cut, List.drop_zero, List.take_succ_cons, List.take_zero, e2', fzV, fz1, St.fz_t, St.fz_l, Option.map_some, List.map]
            all_goals simp only [zz, Bool.false_eq_true, if_true, reduceIte, not_false_eq_true, true_and, e2', fzV, fz1, St.fz_t, St.fz_l, Option.map_some, List.map]
            exact BdR.err acc hA7 (by simp [wk, wk1]) hd (by simpa using ho4) hq3 ((hf3.trans hf4).drop hk)
        · rw [At_ok hM] at hA7
          simp only [] at hA7
          refine AW.seq_k fun K26 h26 => ?_
          all_goals refine AW.reg0 ?_
          all_goals (refine S.g rfl rfl fun K' k' => ?_; simp only [zz, reduceIte, Nat.reduceEqDiff, Nat.reduceAdd, e0, pw, encEv]; refine k' _ _ ?_; clear k' K')
          all_goals (refine S.g rfl rfl fun K' k' => ?_; simp only [zz, reduceIte, Nat.reduceEqDiff, Nat.reduceLT, Nat.reduceLeDiff, Nat.reduceAdd, reduceCtorEq, Nat.reduceMul, e0, pw, encEv]; refine (evTake_spec g b (q7 + c) _ ho3 hb hb256 hq3).to fun v σ4 hv => ?_; unfold Tk at hv; simp only [hM] at hv; obtain ⟨rfl, hv⟩ := hv <;> (refine k' _ _ ?_; clear k' K'))
          all_goals iterate 6 (refine S.g rfl rfl fun K' k' => ?_; simp only [zz, reduceIte, Nat.reduceEqDiff, Nat.reduceLT, Nat.reduceLeDiff, Nat.reduceAdd, reduceCtorEq, Nat.reduceMul, zt36, ok36, sz36, ag36, e0, pw, encEv]; refine k' _ _ ?_; clear k' K')
          all_goals refine S.nil ?_
          all_goals simp only [ze, reduceIte, Nat.reduceEqDiff, Nat.reduceLT, Nat.reduceLeDiff, Nat.reduceAdd, reduceCtorEq, Nat.reduceMul, e0, pw, encEv]
          all_goals apply_assumption
          obtain ⟨ho4, hq4, ha, hf4⟩ := hv
          refine AW.seq_k fun K27 h27 => ?_
          refine AW.seq_k fun K28 h28 => ?_
          all_goals refine AW.reg0 ?_
          all_goals iterate 2 (refine S.g rfl rfl fun K' k' => ?_; simp only [zz, reduceIte, Nat.reduceEqDiff, Nat.reduceAdd]; refine k' _ _ ?_; clear k' K')
          all_goals refine S.nil ?_
          all_goals simp only [ze, reduceIte, Nat.reduceEqDiff, Nat.reduceLT, Nat.reduceLeDiff, Nat.reduceAdd, reduceCtorEq, Nat.reduceMul]
          all_goals apply_assumption
          refine AW.cond (b := false) (by simp [ev]) (fun hc => by cases hc) (fun hc => ?_)
          refine AW.skip ?_
          all_goals simp only [zs, reduceIte, Nat.reduceEqDiff, Nat.reduceLT, Nat.reduceLeDiff, Nat.reduceAdd, reduceCtorEq, Nat.reduceMul]
          all_goals apply_assumption
          have hbd : okB ⟨strOf t, a⟩ := ⟨by show (strOf t).size < _; rw [strOf_size]; omega, ha⟩
          rcases hx with ⟨rfl, rfl⟩ | ⟨k, rfl, hk, hgk⟩
          · have hn0 : 0 < n := hin
            have hw : IntKind.u64.wrap (((([] : List Bd).length : Nat) : Int) + 1) = ((0 + 1 : Nat) : Int) := hw
            all_goals refine AW.reg0 ?_
            all_goals iterate 4 (refine S.g rfl rfl fun K' k' => ?_; simp only [zz, reduceIte, Nat.reduceEqDiff, Nat.reduceLT, Nat.reduceLeDiff, Nat.reduceAdd, reduceCtorEq, Nat.reduceMul, of24_0, ok22, sz22, ag22, ok36, sz36, ag36, e4', l4, encBd]; refine k' _ _ ?_; clear k' K')
            all_goals (refine S.g rfl rfl fun K' k' => ?_; simp only [zz, reduceIte, Nat.reduceEqDiff, Nat.reduceLT, Nat.reduceLeDiff, Nat.reduceAdd, reduceCtorEq, Nat.reduceMul, zt42, pl42, e4', l4, encBd]; refine k' _ _ ?_; clear k' K')
            all_goals (refine S.g rfl rfl fun K' k' => ?_; simp only [zb, reduceIte, Nat.reduceEqDiff, Nat.reduceLT, Nat.reduceLeDiff, Nat.reduceAdd, reduceCtorEq, Nat.reduceMul, sl22, el22, ok42, sz42, ag42, zt42, by42, e4', l4, encBd]; refine k' _ _ ?_; clear k' K')
            all_goals (refine S.g rfl rfl fun K' k' => ?_; simp only [zz, reduceIte, Nat.reduceEqDiff, Nat.reduceLT, Nat.reduceLeDiff, Nat.reduceAdd, reduceCtorEq, Nat.reduceMul, sl22, el22, ok42, sz42, ag42, zt42, by42, e4', l4, encBd]; refine ⟨by simp, by unfold maxLen; (try simp only [List.length_map, List.length_cons, List.length_nil]); omega, by unfold reach; (try simp only [List.length_map, List.length_cons, List.length_nil]); omega, fun k2 hk2 => ?_⟩ <;> (refine k' _ _ ?_; clear k' K'))
            all_goals iterate 2 (refine S.g rfl rfl fun K' k' => ?_; simp only [zz, reduceIte, Nat.reduceEqDiff, Nat.reduceLT, Nat.reduceLeDiff, Nat.reduceAdd, reduceCtorEq, Nat.reduceMul, of24_0, ok22, sz22, ag22, e4', l4, encBd]; refine k' _ _ ?_; clear k' K')
            all_goals refine S.nil ?_
            all_goals simp only [ze, reduceIte, Nat.reduceEqDiff, Nat.reduceLT, Nat.reduceLeDiff, Nat.reduceAdd, reduceCtorEq, Nat.reduceMul, e4', l4, encBd]
            all_goals apply_assumption
            all_goals refine AW.reg0 ?_
            all_goals iterate 2 (refine S.g rfl rfl fun K' k' => ?_; simp only [zz, reduceIte, Nat.reduceEqDiff, Nat.reduceAdd, e23, hw, e0, e2', l2, e4', l4, e22, pw]; refine k' _ _ ?_; clear k' K')
            all_goals refine S.nil ?_
            all_goals simp only [ze, reduceIte, Nat.reduceEqDiff, Nat.reduceLT, Nat.reduceLeDiff, Nat.reduceAdd, reduceCtorEq, Nat.reduceMul, e23, hw, e0, e2', l2, e4', l4, e22, pw]
            obtain ⟨hfn, hkn⟩ := (hf3.trans hf4).new (k2 := k2) (y := some ((42, 6), [encBd ⟨strOf t, a⟩])) hk2
            exact ⟨n - 1, by rw [hm]; exact Nat.sub_lt hn0 Nat.one_pos, [⟨strOf t, a⟩], .gl k2, q7 + c + c2, rfl, hn0, rfl, rfl, by simpa using ho4, hq4, hfn, fun y hy => by rw [List.mem_singleton.1 hy]; exact hbd, by simpa using hA7, .inr ⟨k2, rfl, hkn, by simp [encBd]⟩⟩
          · have hg4 := hf4.gr _ _ (hg3 _ _ hgk)
            all_goals refine AW.reg0 ?_
            all_goals iterate 4 (refine S.g rfl rfl fun K' k' => ?_; simp only [zz, reduceIte, Nat.reduceEqDiff, Nat.reduceLT, Nat.reduceLeDiff, Nat.reduceAdd, reduceCtorEq, Nat.reduceMul, of24_0, ok22, sz22, ag22, ok36, sz36, ag36, e4', l4, encBd, hg4]; refine k' _ _ ?_; clear k' K')
            all_goals (refine S.g rfl rfl fun K' k' => ?_; simp only [zz, reduceIte, Nat.reduceEqDiff, Nat.reduceLT, Nat.reduceLeDiff, Nat.reduceAdd, reduceCtorEq, Nat.reduceMul, zt42, pl42, e4', l4, encBd, hg4]; refine k' _ _ ?_; clear k' K')
            all_goals (refine S.g rfl rfl fun K' k' => ?_; simp only [zb, reduceIte, Nat.reduceEqDiff, Nat.reduceLT, Nat.reduceLeDiff, Nat.reduceAdd, reduceCtorEq, Nat.reduceMul, sl22, el22, ok42, sz42, ag42, zt42, by42, e4', l4, encBd, hg4]; refine k' _ _ ?_; clear k' K')
            all_goals (refine S.g rfl rfl fun K' k' => ?_; simp only [zz, reduceIte, Nat.reduceEqDiff, Nat.reduceLT, Nat.reduceLeDiff, Nat.reduceAdd, reduceCtorEq, Nat.reduceMul, sl22, el22, ok42, sz42, ag42, zt42, by42, e4', l4, encBd, hg4]; refine ⟨by simp, by unfold maxLen; (try simp only [List.length_map, List.length_cons, List.length_nil]); omega, by unfold reach; (try simp only [List.length_map, List.length_cons, List.length_nil]); omega, fun k2 hk2 => ?_⟩ <;> (refine k' _ _ ?_; clear k' K'))
            all_goals iterate 2 (refine S.g rfl rfl fun K' k' => ?_; simp only [zz, reduceIte, Nat.reduceEqDiff, Nat.reduceLT, Nat.reduceLeDiff, Nat.reduceAdd, reduceCtorEq, Nat.reduceMul, of24_0, ok22, sz22, ag22, e4', l4, encBd, hg4]; refine k' _ _ ?_; clear k' K')
            all_goals refine S.nil ?_
            all_goals simp only [ze, reduceIte, Nat.reduceEqDiff, Nat.reduceLT, Nat.reduceLeDiff, Nat.reduceAdd, reduceCtorEq, Nat.reduceMul, e4', l4, encBd, hg4]
            all_goals apply_assumption
            all_goals refine AW.reg0 ?_
            all_goals iterate 2 (refine S.g rfl rfl fun K' k' => ?_; simp only [zz, reduceIte, Nat.reduceEqDiff, Nat.reduceAdd, e23, hw, e0, e2', l2, e4', l4, e22, pw]; refine k' _ _ ?_; clear k' K')
            all_goals refine S.nil ?_
            all_goals simp only [ze, reduceIte, Nat.reduceEqDiff, Nat.reduceLT, Nat.reduceLeDiff, Nat.reduceAdd, reduceCtorEq, Nat.reduceMul, e23, hw, e0, e2', l2, e4', l4, e22, pw]
            obtain ⟨hfn, hkn⟩ := (hf3.trans hf4).app (k2 := k2) (y := some ((42, 6), acc.map encBd ++ [encBd ⟨strOf t, a⟩])) hk (fun e => by simpa [e] using hk2)
            exact ⟨n - (acc.length + 1), by omega, acc ++ [⟨strOf t, a⟩], .gl k2, q7 + c + c2, by simp, by simp; omega, by simp, rfl, by simpa using ho4, hq4, hfn, fun y hy => by
              rcases List.mem_append.1 hy with h | h
              · exact hga y h
              · rw [List.mem_singleton.1 h]; exact hbd, by simpa using hA7, .inr ⟨k2, rfl, hkn, by simp [encBd]⟩⟩
      · have hin : acc.length = n := by have := of_decide_eq_false hc; omega
        rw [hin, Nat.sub_self] at hA7
        have hA8 : At b q 0 partQ = At b q7 0 (chkP acc) := by rw [hA7, Prs.rep, ret_bind, List.append_nil]
        rcases hx with ⟨rfl, rfl⟩ | ⟨k, rfl, hk, hgk⟩
        · refine AW.exit ?_
          all_goals simp only [zs, reduceIte, Nat.reduceEqDiff, Nat.reduceLT, Nat.reduceLeDiff, Nat.reduceAdd, reduceCtorEq, Nat.reduceMul, e0, e2', l2, e4', l4]
          exact ⟨[], _, q7, rfl, .inr ⟨rfl, rfl⟩, ho7, hq7, hf7, hga, hA8⟩
        · refine AW.freeze (k := k) (T := (42, 6)) (es := acc.map encBd) (by simpa using hgk) ?_
          refine AW.exit ?_
          all_goals simp only [zs, reduceIte, Nat.reduceEqDiff, Nat.reduceLT, Nat.reduceLeDiff, Nat.reduceAdd, reduceCtorEq, Nat.reduceMul, e0, e2', l2, e4', l4, fzV, fz1, St.fz_t, St.fz_l, Option.map_some, List.map, ptrV]
          exact ⟨acc, _, q7, rfl, .inl rfl, by simpa using ho7, hq7, hf7.drop hk, hga, hA8⟩
    clear hA ho2 hf2
    rintro s σ' ⟨e0, e2', l2, e4', acc, x, q7, l4, hx, ho7, hq7, hf7, hE, hA7⟩
    rcases hx with rfl | ⟨rfl, rfl⟩
    · refine AW.seq_k fun K29 h29 => ?_
      all_goals refine AW.drawF (T := { sd := fun _ => false }) (fun _ _ h => by cases h) mixedO (.fork 0 (.st 1 2 (.st 2 2 (.st 3 2 (.st 4 0 .nil)))) 1 (.fork 0 (.st 2 2 (.st 3 2 (.st 4 0 .nil))) 2 (.st 0 2 (.st 3 2 (.st 4 0 .nil))))) rfl (by kernel_rfl) (by kernel_rfl) ?_
      all_goals (try first | refine F.fork ?_ ?_ | refine F.fork3 ?_ ?_ ?_)
      all_goals (refine F.g rfl trivial rfl rfl fun K' k' => ?_; simp only [zz, reduceIte, Nat.reduceEqDiff, Nat.reduceLT, Nat.reduceLeDiff, Nat.reduceAdd, reduceCtorEq, Nat.reduceMul, ok24, sz24, ag24, e2', l2, e4', l4]; refine k' _ _ ?_; clear k' K')
      all_goals (try first | refine F.fork ?_ ?_ | refine F.fork3 ?_ ?_ ?_)
      all_goals first | (refine F.g rfl trivial rfl rfl fun K' k' => ?_; simp only [zz, reduceIte, Nat.reduceEqDiff, Nat.reduceLT, Nat.reduceLeDiff, Nat.reduceAdd, reduceCtorEq, Nat.reduceMul, e2', l2, e4', l4]; refine PCalls.eqto (check_part _ hE) ?_ <;> (refine k' _ _ ?_; clear k' K')) | (refine F.g rfl trivial rfl rfl fun K' k' => ?_; simp only [zz, reduceIte, Nat.reduceEqDiff, Nat.reduceLT, Nat.reduceLeDiff, Nat.reduceAdd, reduceCtorEq, Nat.reduceMul, ok24, sz24, ag24, e2', l2, e4', l4]; refine k' _ _ ?_; clear k' K')
      all_goals first | (refine F.g rfl trivial rfl rfl fun K' k' => ?_; simp only [zz, reduceIte, Nat.reduceEqDiff, Nat.reduceLT, Nat.reduceLeDiff, Nat.reduceAdd, reduceCtorEq, Nat.reduceMul, e2', l2, e4', l4]; refine PCalls.eqto (check_part _ hE) ?_ <;> (refine k' _ _ ?_; clear k' K')) | (refine F.g rfl trivial rfl rfl fun K' k' => ?_; simp only [zz, reduceIte, Nat.reduceEqDiff, Nat.reduceLT, Nat.reduceLeDiff, Nat.reduceAdd, reduceCtorEq, Nat.reduceMul, ok24, sz24, ag24, e2', l2, e4', l4]; refine k' _ _ ?_; clear k' K')
      all_goals iterate 2 (refine F.g rfl trivial rfl rfl fun K' k' => ?_; simp only [zz, reduceIte, Nat.reduceEqDiff, Nat.reduceLT, Nat.reduceLeDiff, Nat.reduceAdd, reduceCtorEq, Nat.reduceMul, ok24, sz24, ag24, e2', l2, e4', l4]; refine k' _ _ ?_; clear k' K')
      all_goals refine F.nil ?_
      all_goals simp only [ze, reduceIte, Nat.reduceEqDiff, Nat.reduceLT, Nat.reduceLeDiff, Nat.reduceAdd, reduceCtorEq, Nat.reduceMul, e2', l2, e4', l4]
      all_goals apply_assumption
      all_goals (refine AW.ret ?_)
      all_goals simp only [zs, reduceIte, Nat.reduceEqDiff, Nat.reduceLT, Nat.reduceLeDiff, Nat.reduceAdd, reduceCtorEq, Nat.reduceMul, ok24, sz24, ag24, cut, List.drop_zero, List.take_succ_cons, List.take_zero, e2']
      all_goals simp only [zz, Bool.false_eq_true, if_true, reduceIte, not_false_eq_true, true_and, e2']
      all_goals
        by_cases hz : partErr acc = 0
        · exact BdR.okk (l := acc) (by rw [hA7, chkP, if_pos hz] <;> rfl) (by simp [hz, wk, wk1]) ho7 hq7 hE hf7
        · exact BdR.err acc (by rw [hA7, chkP, if_neg hz] <;> rfl) (by simp [wk, wk1]) hz ho7 hq7 hf7
    · refine AW.seq_k fun K30 h30 => ?_
      all_goals refine AW.drawF (T := { sd := fun _ => false }) (fun _ _ h => by cases h) mixedO (.fork 0 (.st 1 2 (.st 2 2 (.st 3 2 (.st 4 0 .nil)))) 1 (.fork 0 (.st 2 2 (.st 3 2 (.st 4 0 .nil))) 2 (.st 0 2 (.st 3 2 (.st 4 0 .nil))))) rfl (by kernel_rfl) (by kernel_rfl) ?_
      all_goals (try first | refine F.fork ?_ ?_ | refine F.fork3 ?_ ?_ ?_)
      all_goals (refine F.g rfl trivial rfl rfl fun K' k' => ?_; simp only [zz, reduceIte, Nat.reduceEqDiff, Nat.reduceLT, Nat.reduceLeDiff, Nat.reduceAdd, reduceCtorEq, Nat.reduceMul, ok24, sz24, ag24, e2', l2, e4', l4]; refine k' _ _ ?_; clear k' K')
      all_goals (try first | refine F.fork ?_ ?_ | refine F.fork3 ?_ ?_ ?_)
      all_goals first | (refine F.g rfl trivial rfl rfl fun K' k' => ?_; simp only [zz, reduceIte, Nat.reduceEqDiff, Nat.reduceLT, Nat.reduceLeDiff, Nat.reduceAdd, reduceCtorEq, Nat.reduceMul, e2', l2, e4', l4]; refine PCalls.eqto (check_part _ hE) ?_ <;> (refine k' _ _ ?_; clear k' K')) | (refine F.g rfl trivial rfl rfl fun K' k' => ?_; simp only [zz, reduceIte, Nat.reduceEqDiff, Nat.reduceLT, Nat.reduceLeDiff, Nat.reduceAdd, reduceCtorEq, Nat.reduceMul, ok24, sz24, ag24, e2', l2, e4', l4]; refine k' _ _ ?_; clear k' K')
      all_goals first | (refine F.g rfl trivial rfl rfl fun K' k' => ?_; simp only [zz, reduceIte, Nat.reduceEqDiff, Nat.reduceLT, Nat.reduceLeDiff, Nat.reduceAdd, reduceCtorEq, Nat.reduceMul, e2', l2, e4', l4]; refine PCalls.eqto (check_part _ hE) ?_ <;> (refine k' _ _ ?_; clear k' K')) | (refine F.g rfl trivial rfl rfl fun K' k' => ?_; simp only [zz, reduceIte, Nat.reduceEqDiff, Nat.reduceLT, Nat.reduceLeDiff, Nat.reduceAdd, reduceCtorEq, Nat.reduceMul, ok24, sz24, ag24, e2', l2, e4', l4]; refine k' _ _ ?_; clear k' K')
      all_goals iterate 2 (refine F.g rfl trivial rfl rfl fun K' k' => ?_; simp only [zz, reduceIte, Nat.reduceEqDiff, Nat.reduceLT, Nat.reduceLeDiff, Nat.reduceAdd, reduceCtorEq, Nat.reduceMul, ok24, sz24, ag24, e2', l2, e4', l4]; refine k' _ _ ?_; clear k' K')
      all_goals refine F.nil ?_
      all_goals simp only [ze, reduceIte, Nat.reduceEqDiff, Nat.reduceLT, Nat.reduceLeDiff, Nat.reduceAdd, reduceCtorEq, Nat.reduceMul, e2', l2, e4', l4]
      all_goals apply_assumption
      all_goals (refine AW.ret ?_)
      all_goals simp only [zs, reduceIte, Nat.reduceEqDiff, Nat.reduceLT, Nat.reduceLeDiff, Nat.reduceAdd, reduceCtorEq, Nat.reduceMul, ok24, sz24, ag24, cut, List.drop_zero, List.take_succ_cons, List.take_zero, e2']
      all_goals simp only [zz, Bool.false_eq_true, if_true, reduceIte, not_false_eq_true, true_and, e2']
      all_goals
        by_cases hz : partErr [] = 0
        · exact BdR.okk (l := []) (by rw [hA7, chkP, if_pos hz] <;> rfl) (by simp [hz, wk, wk1]) ho7 hq7 hE hf7
        · exact BdR.err [] (by rw [hA7, chkP, if_neg hz] <;> rfl) (by simp [wk, wk1]) hz ho7 hq7 hf7
  · have hA : At b q 0 partQ = .error 10 := by rw [partQ, At_bind, At_bits hq, if_neg hin]
    refine AW.seq_k fun K31 h31 => ?_
    all_goals refine AW.reg0 ?_
    all_goals iterate 2 (refine S.g rfl rfl fun K' k' => ?_; simp only [zz, reduceIte, Nat.reduceEqDiff, Nat.reduceLT, Nat.reduceLeDiff, Nat.reduceAdd, reduceCtorEq, Nat.reduceMul, zt24]; refine k' _ _ ?_; clear k' K')
    all_goals refine S.nil ?_
    all_goals simp only [ze, reduceIte, Nat.reduceEqDiff, Nat.reduceLT, Nat.reduceLeDiff, Nat.reduceAdd, reduceCtorEq, Nat.reduceMul]
    all_goals apply_assumption
    refine AW.seq_k fun K32 h32 => ?_
    all_goals refine AW.reg0 ?_
    all_goals (refine S.g rfl rfl fun K' k' => ?_; simp only [zz, reduceIte, Nat.reduceEqDiff, Nat.reduceLT, Nat.reduceLeDiff, Nat.reduceAdd, reduceCtorEq, Nat.reduceMul, zt24, pw]; refine k' _ _ ?_; clear k' K')
    all_goals refine S.nil ?_
    all_goals simp only [ze, reduceIte, Nat.reduceEqDiff, Nat.reduceLT, Nat.reduceLeDiff, Nat.reduceAdd, reduceCtorEq, Nat.reduceMul, pw]
    all_goals apply_assumption
    refine AW.seq_k fun K33 h33 => ?_
    all_goals refine AW.reg0 ?_
    all_goals (refine S.g rfl rfl fun K' k' => ?_; simp only [zz, reduceIte, Nat.reduceEqDiff, Nat.reduceAdd, pw]; refine k' _ _ ?_; clear k' K')
    all_goals (refine S.g rfl rfl fun K' k' => ?_; simp only [zz, reduceIte, Nat.reduceEqDiff, Nat.reduceLT, Nat.reduceLeDiff, Nat.reduceAdd, reduceCtorEq, Nat.reduceMul, pw]; refine (sBits_spec g b q 4 _ ho hb hb256 hq (by omega)).to fun v σ2 hv => ?_; (first | rw [if_pos hin] at hv | rw [if_neg hin] at hv); obtain ⟨rfl, hσ⟩ := hv <;> (refine k' _ _ ?_; clear k' K'))
    all_goals iterate 5 (refine S.g rfl rfl fun K' k' => ?_; simp only [zz, reduceIte, Nat.reduceEqDiff, Nat.reduceLT, Nat.reduceLeDiff, Nat.reduceAdd, reduceCtorEq, Nat.reduceMul, pw]; refine k' _ _ ?_; clear k' K')
    all_goals refine S.nil ?_
    all_goals simp only [ze, reduceIte, Nat.reduceEqDiff, Nat.reduceLT, Nat.reduceLeDiff, Nat.reduceAdd, reduceCtorEq, Nat.reduceMul, pw]
    all_goals apply_assumption
    subst hσ
    refine AW.seq_k fun K34 h34 => ?_
    refine AW.seq_k fun K35 h35 => ?_
    all_goals refine AW.reg0 ?_
    all_goals iterate 2 (refine S.g rfl rfl fun K' k' => ?_; simp only [zz, reduceIte, Nat.reduceEqDiff, Nat.reduceAdd]; refine k' _ _ ?_; clear k' K')
    all_goals refine S.nil ?_
    all_goals simp only [ze, reduceIte, Nat.reduceEqDiff, Nat.reduceLT, Nat.reduceLeDiff, Nat.reduceAdd, reduceCtorEq, Nat.reduceMul]
    all_goals apply_assumption
    refine AW.cond (b := true) (by simp [ev]) (fun hc => ?_) (fun hc => by cases hc)
    refine AW.seq_k fun K36 h36 => ?_
    all_goals refine AW.reg0 ?_
    all_goals iterate 4 (refine S.g rfl rfl fun K' k' => ?_; simp only [zz, reduceIte, Nat.reduceEqDiff, Nat.reduceLT, Nat.reduceLeDiff, Nat.reduceAdd, reduceCtorEq, Nat.reduceMul, ok24, sz24, ag24]; refine k' _ _ ?_; clear k' K')
    all_goals refine S.nil ?_
    all_goals simp only [ze, reduceIte, Nat.reduceEqDiff, Nat.reduceLT, Nat.reduceLeDiff, Nat.reduceAdd, reduceCtorEq, Nat.reduceMul]
    all_goals apply_assumption
    refine AW.ret ?_
    all_goals simp only [zs, reduceIte, Nat.reduceEqDiff, Nat.reduceLT, Nat.reduceLeDiff, Nat.reduceAdd, reduceCtorEq, Nat.reduceMul, ok24, sz24, ag24, cut, List.drop_zero, List.take_succ_cons, List.take_zero]
    all_goals simp only [zz, Bool.false_eq_true, if_true, reduceIte, not_false_eq_true, true_and]
    exact BdR.err [] hA (by simp [wk, wk1]) (by decide) ho hq (Fr2.refl _ _ _)
end Go.Abs.M
namespace Go.Abs.M
open Go Go.Abs Go.Proofs
set_option maxRecDepth 20000
set_option linter.unusedSimpArgs false
set_option linter.unusedVariables false
/-- What 'Take' leaves. -/
def TkP (g : Nat) (b : List Nat) (q : Nat) (σ : Hp) (v : V) (σ' : Hp) : Prop :=
  match At b q 0 partQ with
  | .ok (l, q') => v = .tup [.agg [.sl (l.map encBd)], .c (.int .i64 0)] ∧ σ'.obj g = some (srcC b q') ∧ q' ≤ 8 * b.length ∧ okP l ∧ Fr2 g g σ σ'
  | .error e => v = .tup [.agg [.sl []], .c (.int .i64 e)] ∧ e ≠ 0 ∧ σ'.obj g = some (srcC b q) ∧ Fr2 g g σ σ'
theorem Take_spec (g : Nat) (b : List Nat) (q : Nat) (σ : Hp) (ho : σ.obj g = some (srcC b q)) (hb : b.length < 140737488355329) (hb256 : ∀ x ∈ b, x < 256) (hq : q ≤ 8 * b.length) :
    ACalls Try.prog 59 [ptrV g] σ (TkP g b q σ) := by
  refine ACalls.intro Try.call59 Try.func59 rfl Try.ntmps59 Try.results59 (by simp) ?_
  have hz : σ.setObj g (some (srcC b (q + 0))) = σ := setObj_id ho
  have ho' : σ.obj g = some [.c (.bool true), .sl (b.map encB), .c (.int .i64 (q : Nat))] := ho
  refine AW.seq_k fun K1 h1 => ?_
  all_goals refine AW.reg0 ?_
  all_goals iterate 2 (refine S.g rfl rfl fun K' k' => ?_; simp only [zz, reduceIte, Nat.reduceEqDiff, Nat.reduceLT, Nat.reduceLeDiff, Nat.reduceAdd, reduceCtorEq, Nat.reduceMul, zt24]; refine k' _ _ ?_; clear k' K')
  all_goals refine S.nil ?_
  all_goals simp only [ze, reduceIte, Nat.reduceEqDiff, Nat.reduceLT, Nat.reduceLeDiff, Nat.reduceAdd, reduceCtorEq, Nat.reduceMul]
  all_goals apply_assumption
  refine AW.seq_k fun K2 h2 => ?_
  refine AW.seq_k fun K3 h3 => ?_
  all_goals refine AW.reg0 ?_
  all_goals (refine S.g rfl rfl fun K' k' => ?_; simp only [zz, reduceIte, Nat.reduceEqDiff, Nat.reduceAdd, pw]; refine k' _ _ ?_; clear k' K')
  all_goals (refine S.g rfl rfl fun K' k' => ?_; simp only [zz, reduceIte, Nat.reduceEqDiff, Nat.reduceLT, Nat.reduceLeDiff, Nat.reduceAdd, reduceCtorEq, Nat.reduceMul, pw]; refine (sBits_spec g b q 0 _ ho hb hb256 hq (by omega)).to fun v σ2 hv => ?_; rw [if_pos (by omega)] at hv; obtain ⟨rfl, hσ⟩ := hv <;> (refine k' _ _ ?_; clear k' K'))
  all_goals iterate 5 (refine S.g rfl rfl fun K' k' => ?_; simp only [zz, reduceIte, Nat.reduceEqDiff, Nat.reduceLT, Nat.reduceLeDiff, Nat.reduceAdd, reduceCtorEq, Nat.reduceMul, pw]; refine k' _ _ ?_; clear k' K')
  all_goals refine S.nil ?_
  all_goals simp only [ze, reduceIte, Nat.reduceEqDiff, Nat.reduceLT, Nat.reduceLeDiff, Nat.reduceAdd, reduceCtorEq, Nat.reduceMul, pw]
  all_goals apply_assumption
  rw [hz] at hσ
  subst hσ
  refine AW.seq_k fun K4 h4 => ?_
  all_goals refine AW.reg0 ?_
  all_goals iterate 2 (refine S.g rfl rfl fun K' k' => ?_; simp only [zz, reduceIte, Nat.reduceEqDiff, Nat.reduceAdd]; refine k' _ _ ?_; clear k' K')
  all_goals refine S.nil ?_
  all_goals simp only [ze, reduceIte, Nat.reduceEqDiff, Nat.reduceLT, Nat.reduceLeDiff, Nat.reduceAdd, reduceCtorEq, Nat.reduceMul]
  all_goals apply_assumption
  refine AW.cond (b := false) (by simp [ev]) (fun hc => by cases hc) (fun hc => ?_)
  refine AW.skip ?_
  all_goals simp only [zs, reduceIte, Nat.reduceEqDiff, Nat.reduceLT, Nat.reduceLeDiff, Nat.reduceAdd, reduceCtorEq, Nat.reduceMul]
  all_goals apply_assumption
  refine AW.seq_k fun K5 h5 => ?_
  all_goals refine AW.reg0 ?_
  all_goals iterate 5 (refine S.g rfl rfl fun K' k' => ?_; simp only [zz, reduceIte, Nat.reduceEqDiff, Nat.reduceLT, Nat.reduceLeDiff, Nat.reduceAdd, reduceCtorEq, Nat.reduceMul, ok129, sz129, ag129, zt129, pw, ptrV, ho', map3]; refine k' _ _ ?_; clear k' K')
  all_goals refine S.nil ?_
  all_goals simp only [ze, reduceIte, Nat.reduceEqDiff, Nat.reduceLT, Nat.reduceLeDiff, Nat.reduceAdd, reduceCtorEq, Nat.reduceMul, pw, ptrV, ho', map3]
  all_goals apply_assumption
  rcases hA : At b q 0 partQ with e | ⟨l, q4⟩
  · skip
    refine AW.seq_k fun K6 h6 => ?_
    all_goals refine AW.reg0 ?_
    all_goals (refine S.g rfl rfl fun K' k' => ?_; simp only [zz, reduceIte, Nat.reduceEqDiff, Nat.reduceAdd, pw]; refine k' _ _ ?_; clear k' K')
    all_goals (refine S.g rfl rfl fun K' k' => ?_; simp only [zz, reduceIte, Nat.reduceEqDiff, Nat.reduceLT, Nat.reduceLeDiff, Nat.reduceAdd, reduceCtorEq, Nat.reduceMul, pw]; refine (bounds_spec g b q _ ho hb hb256 hq).to fun v σ4 hv => ?_; unfold BdR at hv; rw [hA] at hv; obtain ⟨l, q4, rfl, he, ho4, hq4, hf4⟩ := hv <;> (refine k' _ _ ?_; clear k' K'))
    all_goals iterate 6 (refine S.g rfl rfl fun K' k' => ?_; simp only [zz, reduceIte, Nat.reduceEqDiff, Nat.reduceLT, Nat.reduceLeDiff, Nat.reduceAdd, reduceCtorEq, Nat.reduceMul, zt24, ok24, sz24, ag24, pw]; refine k' _ _ ?_; clear k' K')
    all_goals refine S.nil ?_
    all_goals simp only [ze, reduceIte, Nat.reduceEqDiff, Nat.reduceLT, Nat.reduceLeDiff, Nat.reduceAdd, reduceCtorEq, Nat.reduceMul, pw]
    all_goals apply_assumption
    have hg4 : σ4.obj g = some [.c (.bool true), .sl (b.map encB), .c (.int .i64 (q4 : Nat))] := ho4
    refine AW.seq_k fun K7 h7 => ?_
    refine AW.seq_k fun K8 h8 => ?_
    all_goals refine AW.reg0 ?_
    all_goals iterate 2 (refine S.g rfl rfl fun K' k' => ?_; simp only [zz, reduceIte, Nat.reduceEqDiff, Nat.reduceAdd]; refine k' _ _ ?_; clear k' K')
    all_goals refine S.nil ?_
    all_goals simp only [ze, reduceIte, Nat.reduceEqDiff, Nat.reduceLT, Nat.reduceLeDiff, Nat.reduceAdd, reduceCtorEq, Nat.reduceMul]
    all_goals apply_assumption
    refine AW.cond (b := true) (by simp [ev, he]) (fun hc => ?_) (fun hc => by cases hc)
    refine AW.seq_k fun K9 h9 => ?_
    all_goals refine AW.reg0 ?_
    all_goals iterate 4 (refine S.g rfl rfl fun K' k' => ?_; simp only [zz, reduceIte, Nat.reduceEqDiff, Nat.reduceLT, Nat.reduceLeDiff, Nat.reduceAdd, reduceCtorEq, Nat.reduceMul, ok129, sz129, ag129, hg4, map3]; refine k' _ _ ?_; clear k' K')
    all_goals refine S.nil ?_
    all_goals simp only [ze, reduceIte, Nat.reduceEqDiff, Nat.reduceLT, Nat.reduceLeDiff, Nat.reduceAdd, reduceCtorEq, Nat.reduceMul, hg4, map3]
    all_goals apply_assumption
    refine AW.seq_k fun K10 h10 => ?_
    all_goals refine AW.reg0 ?_
    all_goals (refine S.g rfl rfl fun K' k' => ?_; simp only [zz, reduceIte, Nat.reduceEqDiff, Nat.reduceLT, Nat.reduceLeDiff, Nat.reduceAdd, reduceCtorEq, Nat.reduceMul, zt24, pl24]; refine k' _ _ ?_; clear k' K')
    all_goals iterate 3 (refine S.g rfl rfl fun K' k' => ?_; simp only [zz, reduceIte, Nat.reduceEqDiff, Nat.reduceLT, Nat.reduceLeDiff, Nat.reduceAdd, reduceCtorEq, Nat.reduceMul, ok24, sz24, ag24]; refine k' _ _ ?_; clear k' K')
    all_goals refine S.nil ?_
    all_goals simp only [ze, reduceIte, Nat.reduceEqDiff, Nat.reduceLT, Nat.reduceLeDiff, Nat.reduceAdd, reduceCtorEq, Nat.reduceMul]
    all_goals apply_assumption
    refine AW.ret ?_
    all_goals simp only [zs, reduceIte, Nat.reduceEqDiff, Nat.reduceLT, Nat.reduceLeDiff, Nat.reduceAdd, reduceCtorEq, Nat.reduceMul, ok24, sz24, ag24, cut, List.drop_zero, List.take_succ_cons, List.take_zero]
    all_goals simp only [zz, Bool.false_eq_true, if_true, reduceIte, not_false_eq_true, true_and]
    unfold TkP
    rw [hA]
    exact ⟨by simp [wk, wk1], he, by simp [srcC], hf4.setb⟩
  · skip
    refine AW.seq_k fun K11 h11 => ?_
    all_goals refine AW.reg0 ?_
    all_goals (refine S.g rfl rfl fun K' k' => ?_; simp only [zz, reduceIte, Nat.reduceEqDiff, Nat.reduceAdd, pw]; refine k' _ _ ?_; clear k' K')
    all_goals (refine S.g rfl rfl fun K' k' => ?_; simp only [zz, reduceIte, Nat.reduceEqDiff, Nat.reduceLT, Nat.reduceLeDiff, Nat.reduceAdd, reduceCtorEq, Nat.reduceMul, pw]; refine (bounds_spec g b q _ ho hb hb256 hq).to fun v σ4 hv => ?_; unfold BdR at hv; rw [hA] at hv; obtain ⟨rfl, ho4, hq4, hl, hf4⟩ := hv <;> (refine k' _ _ ?_; clear k' K'))
    all_goals iterate 6 (refine S.g rfl rfl fun K' k' => ?_; simp only [zz, reduceIte, Nat.reduceEqDiff, Nat.reduceLT, Nat.reduceLeDiff, Nat.reduceAdd, reduceCtorEq, Nat.reduceMul, zt24, ok24, sz24, ag24, pw]; refine k' _ _ ?_; clear k' K')
    all_goals refine S.nil ?_
    all_goals simp only [ze, reduceIte, Nat.reduceEqDiff, Nat.reduceLT, Nat.reduceLeDiff, Nat.reduceAdd, reduceCtorEq, Nat.reduceMul, pw]
    all_goals apply_assumption
    refine AW.seq_k fun K12 h12 => ?_
    refine AW.seq_k fun K13 h13 => ?_
    all_goals refine AW.reg0 ?_
    all_goals iterate 2 (refine S.g rfl rfl fun K' k' => ?_; simp only [zz, reduceIte, Nat.reduceEqDiff, Nat.reduceAdd]; refine k' _ _ ?_; clear k' K')
    all_goals refine S.nil ?_
    all_goals simp only [ze, reduceIte, Nat.reduceEqDiff, Nat.reduceLT, Nat.reduceLeDiff, Nat.reduceAdd, reduceCtorEq, Nat.reduceMul]
    all_goals apply_assumption
    refine AW.cond (b := false) (by simp [ev]) (fun hc => by cases hc) (fun hc => ?_)
    refine AW.skip ?_
    all_goals simp only [zs, reduceIte, Nat.reduceEqDiff, Nat.reduceLT, Nat.reduceLeDiff, Nat.reduceAdd, reduceCtorEq, Nat.reduceMul]
    all_goals apply_assumption
    refine AW.seq_k fun K14 h14 => ?_
    all_goals refine AW.reg0 ?_
    all_goals iterate 3 (refine S.g rfl rfl fun K' k' => ?_; simp only [zz, reduceIte, Nat.reduceEqDiff, Nat.reduceLT, Nat.reduceLeDiff, Nat.reduceAdd, reduceCtorEq, Nat.reduceMul, ok24, sz24, ag24]; refine k' _ _ ?_; clear k' K')
    all_goals refine S.nil ?_
    all_goals simp only [ze, reduceIte, Nat.reduceEqDiff, Nat.reduceLT, Nat.reduceLeDiff, Nat.reduceAdd, reduceCtorEq, Nat.reduceMul]
    all_goals apply_assumption
    refine AW.ret ?_
    all_goals simp only [zs, reduceIte, Nat.reduceEqDiff, Nat.reduceLT, Nat.reduceLeDiff, Nat.reduceAdd, reduceCtorEq, Nat.reduceMul, ok24, sz24, ag24, cut, List.drop_zero, List.take_succ_cons, List.take_zero]
    all_goals simp only [zz, Bool.false_eq_true, if_true, reduceIte, not_false_eq_true, true_and]
    unfold TkP
    rw [hA]
    exact ⟨by simp [wk, wk1], ho4, hq4, hl, hf4⟩
/-- What bytes say, or what is wrong with them first. -/
def parseP (b : List Nat) : Except Int (List Bd) := match At b 0 0 partQ with
  | .error e => .error e
  | .ok (l, q) => if endP ((unB b).drop q) = 0 then .ok l else .error (endP ((unB b).drop q))
def parV (p : Except Int (List Bd)) : V := match p with
  | .ok l => .tup [.agg [.sl (l.map encBd)], .c (.int .i64 0)]
  | .error e => .tup [.agg [.sl []], .c (.int .i64 e)]
theorem Parse_spec (b : List Nat) (hb : b.length < 140737488355329) (hb256 : ∀ x ∈ b, x < 256) : PCalls Try.prog 54 [.sl (b.map encB)] (fun v => v = parV (parseP b) ∧ ∀ l, parseP b = .ok l → okP l) := by
  refine PCalls.intro Try.call54 Try.func54 rfl Try.ntmps54 Try.results54 (by simp) ?_
  refine AW.seq_k fun K1 h1 => ?_
  all_goals refine AW.reg0 ?_
  all_goals iterate 2 (refine S.g rfl rfl fun K' k' => ?_; simp only [zz, reduceIte, Nat.reduceEqDiff, Nat.reduceLT, Nat.reduceLeDiff, Nat.reduceAdd, reduceCtorEq, Nat.reduceMul, zt24]; refine k' _ _ ?_; clear k' K')
  all_goals refine S.nil ?_
  all_goals simp only [ze, reduceIte, Nat.reduceEqDiff, Nat.reduceLT, Nat.reduceLeDiff, Nat.reduceAdd, reduceCtorEq, Nat.reduceMul]
  all_goals apply_assumption
  refine AW.seq_k fun K2 h2 => ?_
  all_goals refine AW.reg0 ?_
  all_goals (refine S.g rfl rfl fun K' k' => ?_; simp only [zz, reduceIte, Nat.reduceEqDiff, Nat.reduceAdd]; refine k' _ _ ?_; clear k' K')
  all_goals (refine S.g rfl rfl fun K' k' => ?_; simp only [zz, reduceIte, Nat.reduceEqDiff, Nat.reduceLT, Nat.reduceLeDiff, Nat.reduceAdd, reduceCtorEq, Nat.reduceMul]; refine (NewSource_spec b hb _).to fun v σ2 hv => ?_; obtain ⟨g, rfl, hg, hσ⟩ := hv <;> (refine k' _ _ ?_; clear k' K'))
  all_goals (refine S.g rfl rfl fun K' k' => ?_; simp only [zz, reduceIte, Nat.reduceEqDiff, Nat.reduceAdd]; refine k' _ _ ?_; clear k' K')
  all_goals refine S.nil ?_
  all_goals simp only [ze, reduceIte, Nat.reduceEqDiff, Nat.reduceLT, Nat.reduceLeDiff, Nat.reduceAdd, reduceCtorEq, Nat.reduceMul]
  all_goals apply_assumption
  have ho2 : σ2.obj g = some (srcC b 0) := by rw [hσ]; simp
  unfold parseP
  rcases hA : At b 0 0 partQ with e | ⟨l, q4⟩
  · skip
    refine AW.seq_k fun K3 h3 => ?_
    all_goals refine AW.reg0 ?_
    all_goals (refine S.g rfl rfl fun K' k' => ?_; simp only [zz, reduceIte, Nat.reduceEqDiff, Nat.reduceAdd, pw]; refine k' _ _ ?_; clear k' K')
    all_goals (refine S.g rfl rfl fun K' k' => ?_; simp only [zz, reduceIte, Nat.reduceEqDiff, Nat.reduceLT, Nat.reduceLeDiff, Nat.reduceAdd, reduceCtorEq, Nat.reduceMul, pw]; refine (Take_spec g b 0 _ ho2 hb hb256 (by omega)).to fun v σ4 hv => ?_; unfold TkP at hv; rw [hA] at hv; obtain ⟨rfl, he, ho4, hf4⟩ := hv <;> (refine k' _ _ ?_; clear k' K'))
    all_goals iterate 6 (refine S.g rfl rfl fun K' k' => ?_; simp only [zz, reduceIte, Nat.reduceEqDiff, Nat.reduceLT, Nat.reduceLeDiff, Nat.reduceAdd, reduceCtorEq, Nat.reduceMul, zt24, ok24, sz24, ag24, pw]; refine k' _ _ ?_; clear k' K')
    all_goals refine S.nil ?_
    all_goals simp only [ze, reduceIte, Nat.reduceEqDiff, Nat.reduceLT, Nat.reduceLeDiff, Nat.reduceAdd, reduceCtorEq, Nat.reduceMul, pw]
    all_goals apply_assumption
    refine AW.seq_k fun K4 h4 => ?_
    refine AW.seq_k fun K5 h5 => ?_
    all_goals refine AW.reg0 ?_
    all_goals iterate 2 (refine S.g rfl rfl fun K' k' => ?_; simp only [zz, reduceIte, Nat.reduceEqDiff, Nat.reduceAdd]; refine k' _ _ ?_; clear k' K')
    all_goals refine S.nil ?_
    all_goals simp only [ze, reduceIte, Nat.reduceEqDiff, Nat.reduceLT, Nat.reduceLeDiff, Nat.reduceAdd, reduceCtorEq, Nat.reduceMul]
    all_goals apply_assumption
    refine AW.cond (b := false) (by simp [ev, he]) (fun hc => by cases hc) (fun hc => ?_)
    refine AW.skip ?_
    all_goals simp only [zs, reduceIte, Nat.reduceEqDiff, Nat.reduceLT, Nat.reduceLeDiff, Nat.reduceAdd, reduceCtorEq, Nat.reduceMul]
    all_goals apply_assumption
    refine AW.seq_k fun K6 h6 => ?_
    refine AW.seq_k fun K7 h7 => ?_
    all_goals refine AW.reg0 ?_
    all_goals iterate 2 (refine S.g rfl rfl fun K' k' => ?_; simp only [zz, reduceIte, Nat.reduceEqDiff, Nat.reduceAdd]; refine k' _ _ ?_; clear k' K')
    all_goals refine S.nil ?_
    all_goals simp only [ze, reduceIte, Nat.reduceEqDiff, Nat.reduceLT, Nat.reduceLeDiff, Nat.reduceAdd, reduceCtorEq, Nat.reduceMul]
    all_goals apply_assumption
    refine AW.cond (b := true) (by simp [ev, he]) (fun hc => ?_) (fun hc => by cases hc)
    refine AW.seq_k fun K8 h8 => ?_
    all_goals refine AW.reg0 ?_
    all_goals (refine S.g rfl rfl fun K' k' => ?_; simp only [zz, reduceIte, Nat.reduceEqDiff, Nat.reduceLT, Nat.reduceLeDiff, Nat.reduceAdd, reduceCtorEq, Nat.reduceMul, zt24, pl24]; refine k' _ _ ?_; clear k' K')
    all_goals iterate 3 (refine S.g rfl rfl fun K' k' => ?_; simp only [zz, reduceIte, Nat.reduceEqDiff, Nat.reduceLT, Nat.reduceLeDiff, Nat.reduceAdd, reduceCtorEq, Nat.reduceMul, ok24, sz24, ag24]; refine k' _ _ ?_; clear k' K')
    all_goals refine S.nil ?_
    all_goals simp only [ze, reduceIte, Nat.reduceEqDiff, Nat.reduceLT, Nat.reduceLeDiff, Nat.reduceAdd, reduceCtorEq, Nat.reduceMul]
    all_goals apply_assumption
    refine AW.bare ?_
    refine AW.ret ?_
    all_goals simp only [zs, reduceIte, Nat.reduceEqDiff, Nat.reduceLT, Nat.reduceLeDiff, Nat.reduceAdd, reduceCtorEq, Nat.reduceMul, ok24, sz24, ag24, cut, List.drop_zero, List.take_succ_cons, List.take_zero]
    all_goals simp only [zz, Bool.false_eq_true, if_true, reduceIte, not_false_eq_true, true_and]
    (first | exact ⟨by simp [wk, wk1, parV], fun l h => by cases h⟩ | simp [wk, wk1, parV])
  · skip
    refine AW.seq_k fun K9 h9 => ?_
    all_goals refine AW.reg0 ?_
    all_goals (refine S.g rfl rfl fun K' k' => ?_; simp only [zz, reduceIte, Nat.reduceEqDiff, Nat.reduceAdd, pw]; refine k' _ _ ?_; clear k' K')
    all_goals (refine S.g rfl rfl fun K' k' => ?_; simp only [zz, reduceIte, Nat.reduceEqDiff, Nat.reduceLT, Nat.reduceLeDiff, Nat.reduceAdd, reduceCtorEq, Nat.reduceMul, pw]; refine (Take_spec g b 0 _ ho2 hb hb256 (by omega)).to fun v σ4 hv => ?_; unfold TkP at hv; rw [hA] at hv; obtain ⟨rfl, ho4, hq4, hl, hf4⟩ := hv <;> (refine k' _ _ ?_; clear k' K'))
    all_goals iterate 6 (refine S.g rfl rfl fun K' k' => ?_; simp only [zz, reduceIte, Nat.reduceEqDiff, Nat.reduceLT, Nat.reduceLeDiff, Nat.reduceAdd, reduceCtorEq, Nat.reduceMul, zt24, ok24, sz24, ag24, pw]; refine k' _ _ ?_; clear k' K')
    all_goals refine S.nil ?_
    all_goals simp only [ze, reduceIte, Nat.reduceEqDiff, Nat.reduceLT, Nat.reduceLeDiff, Nat.reduceAdd, reduceCtorEq, Nat.reduceMul, pw]
    all_goals apply_assumption
    refine AW.seq_k fun K10 h10 => ?_
    refine AW.seq_k fun K11 h11 => ?_
    all_goals refine AW.reg0 ?_
    all_goals iterate 2 (refine S.g rfl rfl fun K' k' => ?_; simp only [zz, reduceIte, Nat.reduceEqDiff, Nat.reduceAdd]; refine k' _ _ ?_; clear k' K')
    all_goals refine S.nil ?_
    all_goals simp only [ze, reduceIte, Nat.reduceEqDiff, Nat.reduceLT, Nat.reduceLeDiff, Nat.reduceAdd, reduceCtorEq, Nat.reduceMul]
    all_goals apply_assumption
    refine AW.cond (b := true) (by simp [ev]) (fun hc => ?_) (fun hc => by cases hc)
    all_goals refine AW.reg0 ?_
    all_goals (refine S.g rfl rfl fun K' k' => ?_; simp only [zz, reduceIte, Nat.reduceEqDiff, Nat.reduceAdd, pw]; refine k' _ _ ?_; clear k' K')
    all_goals (refine S.g rfl rfl fun K' k' => ?_; simp only [zz, reduceIte, Nat.reduceEqDiff, Nat.reduceLT, Nat.reduceLeDiff, Nat.reduceAdd, reduceCtorEq, Nat.reduceMul, pw]; refine (sEnd_spec g b q4 _ ho4 hb hb256 hq4).to fun v σ5 hv => ?_; obtain ⟨rfl, hσ5⟩ := hv; subst hσ5 <;> (refine k' _ _ ?_; clear k' K'))
    all_goals (refine S.g rfl rfl fun K' k' => ?_; simp only [zz, reduceIte, Nat.reduceEqDiff, Nat.reduceAdd, pw]; refine k' _ _ ?_; clear k' K')
    all_goals refine S.nil ?_
    all_goals simp only [ze, reduceIte, Nat.reduceEqDiff, Nat.reduceLT, Nat.reduceLeDiff, Nat.reduceAdd, reduceCtorEq, Nat.reduceMul, pw]
    all_goals apply_assumption
    have hee : (endP ((unB b).drop q4) != 0) = decide (endP ((unB b).drop q4) ≠ 0) := by rw [Bool.eq_iff_iff]; simp
    refine AW.seq_k fun K12 h12 => ?_
    refine AW.seq_k fun K13 h13 => ?_
    all_goals refine AW.reg0 ?_
    all_goals iterate 2 (refine S.g rfl rfl fun K' k' => ?_; simp only [zz, reduceIte, Nat.reduceEqDiff, Nat.reduceAdd, hee]; refine k' _ _ ?_; clear k' K')
    all_goals refine S.nil ?_
    all_goals simp only [ze, reduceIte, Nat.reduceEqDiff, Nat.reduceLT, Nat.reduceLeDiff, Nat.reduceAdd, reduceCtorEq, Nat.reduceMul, hee]
    all_goals apply_assumption
    refine AW.cond (b := decide (endP ((unB b).drop q4) ≠ 0)) (by simp [ev]) (fun hc => ?_) (fun hc => ?_)
    · have hc := of_decide_eq_true hc
      refine AW.seq_k fun K14 h14 => ?_
      all_goals refine AW.reg0 ?_
      all_goals (refine S.g rfl rfl fun K' k' => ?_; simp only [zz, reduceIte, Nat.reduceEqDiff, Nat.reduceLT, Nat.reduceLeDiff, Nat.reduceAdd, reduceCtorEq, Nat.reduceMul, zt24, pl24]; refine k' _ _ ?_; clear k' K')
      all_goals iterate 3 (refine S.g rfl rfl fun K' k' => ?_; simp only [zz, reduceIte, Nat.reduceEqDiff, Nat.reduceLT, Nat.reduceLeDiff, Nat.reduceAdd, reduceCtorEq, Nat.reduceMul, ok24, sz24, ag24]; refine k' _ _ ?_; clear k' K')
      all_goals refine S.nil ?_
      all_goals simp only [ze, reduceIte, Nat.reduceEqDiff, Nat.reduceLT, Nat.reduceLeDiff, Nat.reduceAdd, reduceCtorEq, Nat.reduceMul]
      all_goals apply_assumption
      refine AW.bare ?_
      refine AW.ret ?_
      all_goals simp only [zs, reduceIte, Nat.reduceEqDiff, Nat.reduceLT, Nat.reduceLeDiff, Nat.reduceAdd, reduceCtorEq, Nat.reduceMul, ok24, sz24, ag24, cut, List.drop_zero, List.take_succ_cons, List.take_zero]
      all_goals simp only [zz, Bool.false_eq_true, if_true, reduceIte, not_false_eq_true, true_and]
      rw [if_neg hc]
      (first | exact ⟨by simp [wk, wk1, parV], fun l h => by cases h⟩ | simp [wk, wk1, parV])
    · have hc : endP ((unB b).drop q4) = 0 := by simpa using of_decide_eq_false hc
      refine AW.skip ?_
      all_goals simp only [zs, reduceIte, Nat.reduceEqDiff, Nat.reduceLT, Nat.reduceLeDiff, Nat.reduceAdd, reduceCtorEq, Nat.reduceMul]
      all_goals apply_assumption
      refine AW.seq_k fun K15 h15 => ?_
      all_goals refine AW.reg0 ?_
      all_goals iterate 3 (refine S.g rfl rfl fun K' k' => ?_; simp only [zz, reduceIte, Nat.reduceEqDiff, Nat.reduceLT, Nat.reduceLeDiff, Nat.reduceAdd, reduceCtorEq, Nat.reduceMul, ok24, sz24, ag24]; refine k' _ _ ?_; clear k' K')
      all_goals refine S.nil ?_
      all_goals simp only [ze, reduceIte, Nat.reduceEqDiff, Nat.reduceLT, Nat.reduceLeDiff, Nat.reduceAdd, reduceCtorEq, Nat.reduceMul]
      all_goals apply_assumption
      refine AW.bare ?_
      refine AW.ret ?_
      all_goals simp only [zs, reduceIte, Nat.reduceEqDiff, Nat.reduceLT, Nat.reduceLeDiff, Nat.reduceAdd, reduceCtorEq, Nat.reduceMul, ok24, sz24, ag24, cut, List.drop_zero, List.take_succ_cons, List.take_zero]
      all_goals simp only [zz, Bool.false_eq_true, if_true, reduceIte, not_false_eq_true, true_and]
      rw [if_pos hc]
      exact ⟨by simp [wk, wk1, parV], fun l h => by cases h; exact hl⟩
end Go.Abs.M
namespace Go.Abs.M
open Go Go.Abs Go.Proofs
set_option linter.unusedSimpArgs false
set_option linter.unusedVariables false
structure Inv {α : Type} (p : Prs α) (B : α → List Bool) (ok : α → Prop) : Prop where
  to : ∀ x r, ok x → p (B x ++ r) = .ok (x, (B x).length)
  back : ∀ l x c, p l = .ok (x, c) → ok x ∧ c = (B x).length ∧ ∃ r, l = B x ++ r
theorem Inv.bind {α β : Type} {p : Prs α} {A : α → List Bool} {okA : α → Prop} (hp : Inv p A okA) {f : α → Prs β} {Bf : α → β → List Bool} {okf : α → β → Prop} {g : β → α}
    (hf : ∀ a, okA a → Inv (f a) (Bf a) (okf a)) (hg : ∀ a x, okA a → okf a x → g x = a) : Inv (Prs.bind p f) (fun x => A (g x) ++ Bf (g x) x) (fun x => okA (g x) ∧ okf (g x) x) where
  to x r h := by
    rw [List.append_assoc]
    unfold Prs.bind
    rw [hp.to _ _ h.1]
    simp only [List.drop_left]
    rw [(hf _ h.1).to x r h.2]
    simp only [List.length_append]
  back l x c h := by
    unfold Prs.bind at h
    cases h1 : p l with
    | error e => rw [h1] at h; cases h
    | ok y =>
      obtain ⟨a, c1⟩ := y
      rw [h1] at h
      simp only [] at h
      obtain ⟨k1, k2, r1, k3⟩ := hp.back _ _ _ h1
      cases h2 : f a (l.drop c1) with
      | error e => rw [h2] at h; cases h
      | ok z =>
        obtain ⟨x', c2⟩ := z
        rw [h2] at h
        injection h with h
        injection h with h3 h4
        subst h3
        rw [k3, k2, List.drop_left] at h2
        obtain ⟨m1, m2, r2, m3⟩ := (hf a k1).back _ _ _ h2
        have hga := hg a x' k1 m1
        rw [hga]
        exact ⟨⟨k1, m1⟩, by rw [← h4, k2, m2, List.length_append], r2, by rw [k3, m3, List.append_assoc]⟩
theorem Inv.ret {α : Type} (y : α) : Inv (Prs.ret y) (fun _ => []) (fun x => x = y) where
  to x r h := by subst h; rfl
  back l x c h := by injection h with h; injection h with h1 h2; exact ⟨h1.symm, h2.symm, l, rfl⟩
theorem Inv.err {α : Type} (e : Int) (B : α → List Bool) : Inv (Prs.err e) B (fun _ => False) where
  to x r h := h.elim
  back l x c h := by cases h
theorem Inv.eq {α : Type} {p : Prs α} {B B' : α → List Bool} {ok ok' : α → Prop} (h : Inv p B ok) (h1 : ∀ x, ok' x ↔ ok x) (h2 : ∀ x, ok x → B' x = B x) : Inv p B' ok' where
  to x r hx := by rw [h2 x ((h1 x).1 hx)]; exact h.to x r ((h1 x).1 hx)
  back l x c hl := by
    obtain ⟨k1, k2, k3⟩ := h.back l x c hl
    rw [h2 x k1]
    exact ⟨(h1 x).2 k1, k2, k3⟩
theorem Inv.rep {α : Type} {p : Prs α} {B : α → List Bool} {ok : α → Prop} (h : Inv p B ok) : ∀ n, Inv (Prs.rep p n) (fun xs => xs.flatMap B) (fun xs => xs.length = n ∧ ∀ x ∈ xs, ok x)
  | 0 => ⟨fun x r hx => by rw [List.eq_nil_of_length_eq_zero hx.1]; rfl, fun l x c hl => by
      injection hl with hl; injection hl with h1 h2
      subst h1
      exact ⟨⟨rfl, fun _ hx => by cases hx⟩, h2.symm, l, rfl⟩⟩
  | n + 1 => ⟨fun xs r hx => by
      cases xs with
      | nil => cases hx.1
      | cons x xs =>
        have h1 := h.to x (xs.flatMap B ++ r) (hx.2 x List.mem_cons_self)
        have h2 := (Inv.rep h n).to xs r ⟨by simpa using hx.1, fun y hy => hx.2 y (List.mem_cons_of_mem _ hy)⟩
        rw [Prs.rep, List.flatMap_cons, List.append_assoc]
        unfold Prs.bind
        rw [h1]
        simp only [List.drop_left]
        rw [h2]
        simp [Prs.ret], fun l xs c hl => by
      rw [Prs.rep] at hl
      unfold Prs.bind at hl
      cases h1 : p l with
      | error e => rw [h1] at hl; cases hl
      | ok y =>
        obtain ⟨x, c1⟩ := y
        rw [h1] at hl
        simp only [] at hl
        obtain ⟨k1, k2, r1, k3⟩ := h.back _ _ _ h1
        cases h2 : Prs.rep p n (l.drop c1) with
        | error e => rw [h2] at hl; cases hl
        | ok z =>
          obtain ⟨ys, c2⟩ := z
          rw [h2] at hl
          simp only [Prs.ret, Nat.add_zero] at hl
          injection hl with hl
          injection hl with h3 h4
          subst h3
          rw [k3, k2, List.drop_left] at h2
          obtain ⟨⟨m0, m1⟩, m2, r2, m3⟩ := (Inv.rep h n).back _ _ _ h2
          refine ⟨⟨by simp [m0], fun y hy => ?_⟩, by rw [← h4, k2, m2, List.flatMap_cons, List.length_append], r2, by rw [k3, m3, List.flatMap_cons, List.append_assoc]⟩
          rcases List.mem_cons.1 hy with rfl | hy
          · exact k1
          · exact m1 y hy⟩
theorem valN_app (a b : List Bool) : valN (a ++ b) = valN a * 2 ^ b.length + valN b := by
  rw [← List.reverse_reverse b]
  induction b.reverse with
  | nil => simp [valN]
  | cons x r ih =>
    rw [List.reverse_cons, ← List.append_assoc, valN_snoc, ih, valN_snoc, List.length_append, List.length_singleton, Nat.pow_succ]
    have : valN a * (2 ^ r.reverse.length * 2) = 2 * (valN a * 2 ^ r.reverse.length) := by rw [Nat.mul_comm (2 ^ r.reverse.length) 2, ← Nat.mul_assoc, Nat.mul_comm (valN a) 2, Nat.mul_assoc]
    rw [this]
    omega
theorem valN_one (x : Bool) : valN [x] = x.toNat := by cases x <;> rfl
theorem lowB_mod (u m : Nat) : ∀ n, n ≤ m → lowB (u % 2 ^ m) n = lowB u n
  | 0, _ => rfl
  | n + 1, h => by
    rw [lowB, lowB, lowB_mod u m n (by omega)]
    congr 2
    rw [← Nat.mod_mul_right_div_self, ← Nat.mod_mul_right_div_self, ← Nat.pow_succ]
    rw [Nat.mod_mod_of_dvd u (Nat.pow_dvd_pow 2 h)]
theorem valN_low (u : Nat) : ∀ n, valN (lowB u n) = u % 2 ^ n
  | 0 => by simp [lowB, valN, Nat.mod_one]
  | n + 1 => by
    rw [lowB, show (u / 2 ^ n % 2 == 1) :: lowB u n = [u / 2 ^ n % 2 == 1] ++ lowB u n from rfl, valN_app, valN_one, valN_low u n, lowB_len]
    have h2 : u / 2 ^ n % 2 < 2 := Nat.mod_lt _ (by omega)
    have : (u / 2 ^ n % 2 == 1).toNat = u / 2 ^ n % 2 := by
      generalize u / 2 ^ n % 2 = y at *
      have : y = 0 ∨ y = 1 := by omega
      rcases this with rfl | rfl <;> rfl
    rw [this, Nat.pow_succ, Nat.mod_mul, Nat.mul_comm (2 ^ n)]
    omega
theorem low_valN : ∀ l : List Bool, lowB (valN l) l.length = l
  | [] => rfl
  | x :: l => by
    rw [List.length_cons, lowB, show x :: l = [x] ++ l from rfl, valN_app, valN_one]
    have hl := valN_lt l
    have hp : 0 < 2 ^ l.length := Nat.two_pow_pos _
    have h1 : (x.toNat * 2 ^ l.length + valN l) / 2 ^ l.length = x.toNat := by
      rw [Nat.mul_comm, Nat.mul_add_div hp, Nat.div_eq_of_lt hl, Nat.add_zero]
    rw [h1]
    have h2 : lowB (x.toNat * 2 ^ l.length + valN l) l.length = l := by
      rw [← lowB_mod _ l.length l.length (Nat.le_refl _), Nat.mul_comm, Nat.mul_add_mod, Nat.mod_eq_of_lt hl]
      exact low_valN l
    rw [h2]
    cases x <;> rfl
theorem inv_bits (n : Nat) : Inv (bitsP n) (fun u => lowB u n) (· < 2 ^ n) where
  to u r h := by
    unfold bitsP
    have hl : n ≤ (lowB u n ++ r).length := by rw [List.length_append, lowB_len]; omega
    rw [if_pos hl, List.take_left' (lowB_len u n), valN_low, Nat.mod_eq_of_lt h, lowB_len]
  back l u c h := by
    unfold bitsP at h
    split at h
    · rename_i hn
      injection h with h; injection h with h1 h2
      have hlen : (l.take n).length = n := by rw [List.length_take]; omega
      refine ⟨by rw [← h1]; exact tk2 l n, by rw [lowB_len, h2], l.drop n, ?_⟩
      have := low_valN (l.take n)
      rw [hlen, h1] at this
      rw [this, List.take_append_drop]
    · cases h
theorem zr_rep : ∀ (k m : Nat) (r : List Bool), k < m → zr (List.replicate k false ++ true :: r) m = k
  | 0, m + 1, r, _ => by simp [zr]
  | k + 1, m + 1, r, h => by
    rw [List.replicate_succ, List.cons_append, zr]
    simp only [Bool.false_eq_true, if_false]
    rw [zr_rep k m r (by omega)]
theorem zr_take : ∀ (l : List Bool) (m : Nat), l.take (zr l m) = List.replicate (zr l m) false
  | l, 0 => by cases l <;> simp [zr]
  | [], m + 1 => by simp [zr]
  | b :: l, m + 1 => by
    cases b with
    | true => simp [zr]
    | false => simp [zr, List.replicate_succ, zr_take l m]
theorem zr_next : ∀ (l : List Bool) (m : Nat), zr l m < m → zr l m < l.length → l[zr l m]? = some true
  | l, 0, h, _ => by omega
  | [], m + 1, _, h => by simp at h
  | b :: l, m + 1, h, h2 => by
    cases b with
    | true => simp [zr]
    | false =>
      simp only [zr, Bool.false_eq_true, if_false, List.length_cons] at h h2 ⊢
      rw [List.getElem?_cons_succ]
      exact zr_next l m (by omega) (by omega)
theorem low_top (u k : Nat) (h1 : 2 ^ k ≤ u) (h2 : u < 2 ^ (k + 1)) : lowB u (k + 1) = true :: lowB (u - 2 ^ k) k := by
  rw [lowB]
  have hp : 0 < 2 ^ k := Nat.two_pow_pos k
  rw [Nat.pow_succ] at h2
  have h3 : u / 2 ^ k = 1 := by
    apply Nat.div_eq_of_lt_le <;> omega
  rw [h3]
  congr 1
  have : u % 2 ^ k = u - 2 ^ k := by rw [Nat.mod_eq_sub_mod h1, Nat.mod_eq_of_lt (by omega)]
  rw [← lowB_mod u k k (Nat.le_refl _), this]
theorem low_zero : ∀ n, lowB 0 n = List.replicate n false
  | 0 => rfl
  | n + 1 => by rw [lowB, low_zero n, List.replicate_succ]; simp
theorem natB_shape (u k : Nat) (v : Nat) (hk : k < 64) (hv : v < 2 ^ k) (hu : u + 1 = 2 ^ k + v) : natB u = List.replicate k false ++ true :: lowB v k := by
  have hp : 0 < 2 ^ k := Nat.two_pow_pos k
  have h64 : (2 : Nat) ^ k ≤ 2 ^ 63 := Nat.pow_le_pow_right (by omega) (by omega)
  have hb : blen (u + 1) = k + 1 := blen_spec (by omega) (by rw [Nat.pow_succ]; omega)
  unfold natB
  rw [if_neg (by omega), hb, Nat.add_sub_cancel, low_top (u + 1) k (by omega) (by rw [Nat.pow_succ]; omega), show u + 1 - 2 ^ k = v by omega]
theorem natB_form (u : Nat) (h : u < 18446744073709551615) : ∃ k v, k < 64 ∧ v < 2 ^ k ∧ u + 1 = 2 ^ k + v := by
  obtain ⟨h1, h2⟩ := blen_bnd (u + 1) (by omega)
  have h3 := blen_le64 (u := u + 1) (by omega)
  have h4 := blen_pos u
  refine ⟨blen (u + 1) - 1, u + 1 - 2 ^ (blen (u + 1) - 1), by omega, ?_, by omega⟩
  have : 2 ^ blen (u + 1) = 2 * 2 ^ (blen (u + 1) - 1) := by rw [← Nat.pow_succ']; congr 1
  omega
theorem natP_shape (k v : Nat) (r : List Bool) (hk : k < 64) (hv : v < 2 ^ k) : natP (List.replicate k false ++ true :: lowB v k ++ r) = .ok (2 ^ k + v - 1, 2 * k + 1) := by
  have h1 : List.replicate k false ++ true :: lowB v k ++ r = List.replicate k false ++ true :: (lowB v k ++ r) := by simp
  have hlen : (List.replicate k false ++ true :: (lowB v k ++ r)).length = 2 * k + 1 + r.length := by simp [lowB_len]; omega
  unfold natP
  rw [h1]
  simp only []
  rw [zr_rep k 65 _ (by omega), if_neg (by omega), if_neg (by omega), if_neg (by omega)]
  have hd : (List.replicate k false ++ true :: (lowB v k ++ r)).drop (k + 1) = lowB v k ++ r := by
    rw [show List.replicate k false ++ true :: (lowB v k ++ r) = (List.replicate k false ++ [true]) ++ (lowB v k ++ r) by simp]
    exact List.drop_left' (by simp)
  rw [hd, List.take_left' (lowB_len v k), valN_low, Nat.mod_eq_of_lt hv]
theorem split_at {l : List Bool} {k : Nat} (hk : zr l 65 = k) (h1 : k < 65) (h2 : 2 * k + 1 ≤ l.length) : l = List.replicate k false ++ true :: (l.drop (k + 1)).take k ++ l.drop (2 * k + 1) := by
  have a := zr_take l 65
  have b := zr_next l 65 (by omega) (by omega)
  rw [hk] at a b
  have c : l = l.take k ++ l.drop k := (List.take_append_drop k l).symm
  have hlt : k < l.length := by omega
  have d : l.drop k = true :: l.drop (k + 1) := by
    rw [List.drop_eq_getElem_cons hlt]
    congr 1
    exact (List.getElem?_eq_some_iff.1 b).2
  have e : l.drop (k + 1) = (l.drop (k + 1)).take k ++ l.drop (2 * k + 1) := by
    have := (List.take_append_drop k (l.drop (k + 1))).symm
    rw [List.drop_drop, show k + 1 + k = 2 * k + 1 by omega] at this
    exact this
  conv => lhs; rw [c, a, d, e]
  simp
theorem inv_nat : Inv natP natB (· < 18446744073709551616) where
  to u r h := by
    by_cases hm : u = 18446744073709551615
    · subst hm
      have hB : natB 18446744073709551615 = List.replicate 64 false ++ true :: List.replicate 64 false := if_pos rfl
      rw [hB]
      have h1 : List.replicate 64 false ++ true :: List.replicate 64 false ++ r = List.replicate 64 false ++ true :: (List.replicate 64 false ++ r) := by simp
      rw [h1]
      unfold natP
      simp only []
      rw [zr_rep 64 65 _ (by omega)]
      have hd : (List.replicate 64 false ++ true :: (List.replicate 64 false ++ r)).drop (64 + 1) = List.replicate 64 false ++ r := by
        rw [show List.replicate 64 false ++ true :: (List.replicate 64 false ++ r) = (List.replicate 64 false ++ [true]) ++ (List.replicate 64 false ++ r) by simp]
        exact List.drop_left' (by simp)
      rw [hd, List.take_left' (by simp)]
      have hz : valN (List.replicate 64 false) = 0 := by rw [← low_zero, valN_low, Nat.zero_mod]
      rw [if_neg (by omega), if_neg (by simp), if_pos rfl, if_pos hz]
      simp
    · obtain ⟨k, v, h1, h2, h3⟩ := natB_form u (by omega)
      rw [natB_shape u k v h1 h2 h3, natP_shape k v r h1 h2]
      simp [lowB_len]; omega
  back l u c h := by
    unfold natP at h
    simp only [] at h
    generalize hk : zr l 65 = k at h
    have hle := (zr_le l 65).1
    split at h
    · cases h
    rename_i h1
    split at h
    · cases h
    rename_i h2
    have hs := split_at hk (by omega) (by omega)
    have hlen : ((l.drop (k + 1)).take k).length = k := by rw [List.length_take, List.length_drop]; omega
    have hv := valN_lt ((l.drop (k + 1)).take k)
    have hlow := low_valN ((l.drop (k + 1)).take k)
    rw [hlen] at hv hlow
    generalize (l.drop (k + 1)).take k = m at *
    split at h
    · rename_i h3
      split at h
      · rename_i h4
        injection h with h; injection h with h5 h6
        subst h5
        subst h3
        refine ⟨by omega, by rw [← h6]; rfl, l.drop (2 * 64 + 1), ?_⟩
        rw [h4, low_zero] at hlow
        rw [← hlow] at hs
        rw [show natB 18446744073709551615 = List.replicate 64 false ++ true :: List.replicate 64 false from if_pos rfl]
        exact hs
      · cases h
    · rename_i h3
      injection h with h; injection h with h5 h6
      have hk64 : k < 64 := by omega
      have hp : 0 < 2 ^ k := Nat.two_pow_pos k
      have h64 : (2 : Nat) ^ k ≤ 2 ^ 63 := Nat.pow_le_pow_right (by omega) (by omega)
      have hB := natB_shape u k (valN m) hk64 hv (by omega)
      refine ⟨by omega, by rw [hB, ← h6]; simp [lowB_len]; omega, l.drop (2 * k + 1), ?_⟩
      rw [hB, hlow]
      exact hs
end Go.Abs.M
namespace Go.Abs.M
open Go Go.Abs Go.Proofs
set_option linter.unusedSimpArgs false
set_option linter.unusedVariables false
set_option maxRecDepth 20000
theorem zag_zig (n : Int) : zagB (zigB n) = n := by unfold zagB zigB; split <;> split <;> omega
theorem zig_zag (u : Nat) : zigB (zagB u) = u := by unfold zagB zigB; split <;> split <;> omega
theorem zag_in {u : Nat} (h : u < 18446744073709551616) : inI64 (zagB u) := by unfold zagB inI64; split <;> omega
theorem zig_lt {n : Int} (h : inI64 n) : zigB n < 18446744073709551616 := by unfold zigB; unfold inI64 at h; split <;> omega
theorem inv_num : Inv numP numB inI64 where
  to n r h := by
    unfold numP numB
    rw [inv_nat.to _ r (zig_lt h)]
    simp only [zag_zig]
  back l n c h := by
    unfold numP at h
    cases hN : natP l with
    | error e => rw [hN] at h; cases h
    | ok x =>
      obtain ⟨u, c'⟩ := x
      rw [hN] at h
      injection h with h; injection h with h1 h2
      obtain ⟨k1, k2, k3⟩ := inv_nat.back _ _ _ hN
      subst h1; subst h2
      refine ⟨zag_in k1, ?_, ?_⟩
      · unfold numB; rw [zig_zag]; exact k2
      · unfold numB; rw [zig_zag]; exact k3
def chunk (l : List Bool) (u : Nat) : List Nat := (List.range u).map fun i => valN ((l.drop (8 * i)).take 8)
theorem chunk_succ (l : List Bool) (u : Nat) : chunk l (u + 1) = valN (l.take 8) :: chunk (l.drop 8) u := by
  unfold chunk
  rw [List.range_succ_eq_map, List.map_cons, List.map_map]
  congr 1
  refine List.map_congr_left fun i _ => ?_
  simp only [Function.comp, List.drop_drop]
  rw [show 8 * Nat.succ i = 8 + 8 * i by rw [Nat.mul_succ, Nat.add_comm]]
theorem chunk_low : ∀ (u : Nat) (l : List Bool), 8 * u ≤ l.length → (chunk l u).flatMap (lowB · 8) = l.take (8 * u)
  | 0, l, _ => by simp [chunk]
  | u + 1, l, h => by
    rw [chunk_succ, List.flatMap_cons, chunk_low u (l.drop 8) (by rw [List.length_drop]; omega)]
    have h8 : (l.take 8).length = 8 := by rw [List.length_take]; omega
    have := low_valN (l.take 8)
    rw [h8] at this
    rw [this, show 8 * (u + 1) = 8 + 8 * u by omega, List.take_add]
theorem chunk_of : ∀ (t : List Nat) (r : List Bool), (∀ x ∈ t, x < 256) → chunk (t.flatMap (lowB · 8) ++ r) t.length = t
  | [], r, _ => rfl
  | x :: t, r, h => by
    rw [List.length_cons, chunk_succ, List.flatMap_cons, List.append_assoc, List.take_left' (lowB_len x 8), List.drop_left' (lowB_len x 8), valN_low, Nat.mod_eq_of_lt (h x List.mem_cons_self),
      chunk_of t r fun y hy => h y (List.mem_cons_of_mem _ hy)]
def bytesOf (s : ByteArray) : List Nat := s.data.toList.map UInt8.toNat
theorem strOf_bytes (s : ByteArray) : strOf (bytesOf s) = s := by
  unfold strOf bytesOf
  rw [List.map_map]
  have : (UInt8.ofNat ∘ UInt8.toNat) = id := by funext x; simp
  rw [this, List.map_id]
theorem bytes_strOf {t : List Nat} (h : ∀ x ∈ t, x < 256) : bytesOf (strOf t) = t := by
  unfold strOf bytesOf
  simp only [List.map_map]
  conv => rhs; rw [← List.map_id t]
  refine List.map_congr_left fun x hx => ?_
  have := h x hx
  simp only [Function.comp, id, UInt8.toNat_ofNat']
  omega
theorem bytes_lt (s : ByteArray) : ∀ x ∈ bytesOf s, x < 256 := fun x hx => by
  obtain ⟨y, _, rfl⟩ := List.mem_map.1 hx
  exact y.toNat_lt
theorem bytes_len (s : ByteArray) : (bytesOf s).length = s.size := by
  unfold bytesOf
  rw [List.length_map, Array.length_toList]; rfl
theorem textB_of {t : List Nat} (h : ∀ x ∈ t, x < 256) : textB (strOf t) = natB t.length ++ t.flatMap (lowB · 8) := by
  unfold textB
  rw [strOf_size]
  congr 1
  unfold strOf
  simp only [List.flatMap_map]
  rw [List.flatMap_def, List.flatMap_def]
  congr 1
  refine List.map_congr_left fun x hx => ?_
  have := h x hx
  simp only [UInt8.toNat_ofNat']
  congr 1
  omega
def okTx (t : List Nat) : Prop := (∀ x ∈ t, x < 256) ∧ t.length < 18446744073709551616
theorem flat8_len (t : List Nat) : (t.flatMap (lowB · 8)).length = 8 * t.length := by
  induction t with
  | nil => rfl
  | cons x t ih => rw [List.flatMap_cons, List.length_append, lowB_len, ih, List.length_cons]; omega
theorem textP_eq (l : List Bool) : textP l = match natP l with
  | .error e => .error e
  | .ok (u, c) => if (l.length - c) / 8 < u then .error 10 else .ok (chunk (l.drop c) u, c + 8 * u) := by
  unfold textP chunk
  cases natP l with
  | error e => rfl
  | ok x => simp only [List.drop_drop]
theorem inv_text : Inv textP (fun t => textB (strOf t)) okTx where
  to t r h := by
    rw [textB_of h.1, List.append_assoc, textP_eq, inv_nat.to _ _ h.2]
    simp only [List.drop_left]
    rw [if_neg (by rw [List.length_append, List.length_append, flat8_len]; omega), chunk_of t r h.1, List.length_append, flat8_len]
  back l t c h := by
    rw [textP_eq] at h
    cases hN : natP l with
    | error e => rw [hN] at h; cases h
    | ok x =>
      obtain ⟨u, c'⟩ := x
      obtain ⟨k1, k2, r, k3⟩ := inv_nat.back _ _ _ hN
      have hT := textP_eq l
      rw [hN] at h hT
      simp only [] at h hT
      split at h
      · cases h
      rename_i hu
      rw [if_neg hu] at hT
      obtain ⟨_, _, hlt⟩ := textP_ok hT
      injection h with h; injection h with h1 h2
      have hcl : (chunk (l.drop c') u).length = u := by simp [chunk]
      have hlen : l.length - c' = (l.drop c').length := List.length_drop.symm
      have hge : 8 * u ≤ (l.drop c').length := by rw [← hlen]; omega
      have hlow := chunk_low u (l.drop c') hge
      have hB := textB_of hlt
      rw [hcl, hlow] at hB
      subst h1
      refine ⟨⟨hlt, by rw [hcl]; exact k1⟩, ?_, (l.drop c').drop (8 * u), ?_⟩
      · show c = (textB (strOf _)).length
        rw [hB, List.length_append, List.length_take, ← k2]; omega
      · show l = textB (strOf _) ++ _
        rw [hB, List.append_assoc, List.take_append_drop, k3, k2, List.drop_left]
def okVl (v : Val) : Prop := (v.kind = 1 ∧ v.s = ⟨#[]⟩ ∧ inI64 v.n) ∨ (v.kind = 2 ∧ v.n = 0 ∧ v.s.size < 18446744073709551616)
theorem okTx_of {s : ByteArray} (h : s.size < 18446744073709551616) : okTx (bytesOf s) := ⟨bytes_lt s, by rw [bytes_len]; exact h⟩
theorem inv_val : Inv valP vbB okVl := by
  have h1 : Inv (Prs.bind numP fun n => Prs.ret (⟨1, n, ⟨#[]⟩⟩ : Val)) (fun x => numB x.n ++ []) (fun x => inI64 x.n ∧ x = ⟨1, x.n, ⟨#[]⟩⟩) :=
    Inv.bind inv_num (g := fun x : Val => x.n) (fun n _ => Inv.ret _) (fun n x _ hx => by rw [hx])
  have h2 : Inv (Prs.bind textP fun t => Prs.ret (⟨2, 0, strOf t⟩ : Val)) (fun x => textB (strOf (bytesOf x.s)) ++ []) (fun x => okTx (bytesOf x.s) ∧ x = ⟨2, 0, strOf (bytesOf x.s)⟩) :=
    Inv.bind inv_text (g := fun x : Val => bytesOf x.s) (fun t _ => Inv.ret _) (fun t x ht hx => by rw [hx]; exact bytes_strOf ht.1)
  have hk : ∀ k, Inv (if k = 1 then Prs.bind numP fun n => Prs.ret (⟨1, n, ⟨#[]⟩⟩ : Val) else if k = 2 then Prs.bind textP fun t => Prs.ret ⟨2, 0, strOf t⟩ else Prs.err 40)
      (fun x => if k = 1 then numB x.n ++ [] else textB (strOf (bytesOf x.s)) ++ []) (fun x => (k = 1 ∧ inI64 x.n ∧ x = ⟨1, x.n, ⟨#[]⟩⟩) ∨ (k = 2 ∧ okTx (bytesOf x.s) ∧ x = ⟨2, 0, strOf (bytesOf x.s)⟩)) := fun k => by
    by_cases e1 : k = 1
    · subst e1
      simp only [if_true]
      exact h1.eq (fun x => by simp) (fun _ _ => rfl)
    · by_cases e2 : k = 2
      · subst e2
        simp only [if_neg e1, if_true]
        exact h2.eq (fun x => by simp) (fun _ _ => rfl)
      · rw [if_neg e1, if_neg e2]
        exact (Inv.err 40 (fun _ => [])).eq (fun x => by simp [e1, e2]) (fun _ h => h.elim)
  have h3 := Inv.bind (inv_bits 2) (g := fun x : Val => x.kind.toNat) (fun k _ => hk k) (fun k x _ hx => by
    rcases hx with ⟨rfl, _, hx⟩ | ⟨rfl, _, hx⟩ <;> rw [hx] <;> rfl)
  refine Inv.eq (p := valP) h3 (fun x => ⟨fun h => ?_, fun h => ?_⟩) (fun x hx => ?_)
  · rcases h with ⟨a, b, c⟩ | ⟨a, b, c⟩
    · refine ⟨by rw [a]; decide, .inl ⟨by rw [a]; rfl, c, ?_⟩⟩
      cases x; simp_all
    · refine ⟨by rw [a]; decide, .inr ⟨by rw [a]; rfl, okTx_of c, ?_⟩⟩
      rw [strOf_bytes]
      cases x; simp_all
  · obtain ⟨_, ⟨_, b, c⟩ | ⟨_, b, c⟩⟩ := h
    · exact .inl ⟨by rw [c], by rw [c], b⟩
    · exact .inr ⟨by rw [c], by rw [c], by have := b.2; rwa [bytes_len] at this⟩
  · obtain ⟨_, ⟨a, b, c⟩ | ⟨a, b, c⟩⟩ := hx
    · unfold vbB
      have k1 : x.kind = 1 := by rw [c]
      rw [if_pos k1, if_pos a, List.append_nil]
    · unfold vbB
      have k2 : x.kind = 2 := by rw [c]
      rw [if_neg (by omega), if_neg (by omega), strOf_bytes, List.append_nil]
def okAt (a : Attr) : Prop := a.name.size < 18446744073709551616 ∧ okVl a.v
theorem inv_attr : Inv attrP attrB okAt := by
  have h1 : ∀ t, Inv (Prs.bind valP fun v => Prs.ret (⟨strOf t, v⟩ : Attr)) (fun x => vbB x.v ++ []) (fun x => okVl x.v ∧ x = ⟨strOf t, x.v⟩) := fun t =>
    Inv.bind inv_val (g := fun x : Attr => x.v) (fun v _ => Inv.ret _) (fun v x _ hx => by rw [hx])
  have h2 := Inv.bind inv_text (g := fun x : Attr => bytesOf x.name) (fun t _ => h1 t) (fun t x ht hx => by rw [hx.2]; exact bytes_strOf ht.1)
  refine Inv.eq (p := attrP) h2 (fun x => ⟨fun h => ?_, fun h => ?_⟩) (fun x hx => ?_)
  · refine ⟨okTx_of h.1, h.2, ?_⟩
    rw [strOf_bytes]
  · exact ⟨by have := h.1.2; rwa [bytes_len] at this, h.2.1⟩
  · rw [strOf_bytes, List.append_nil]; rfl
theorem inv_chk (y : Ev) : Inv (chkE y) (fun _ => []) (fun x => x = y ∧ evErr y = 0) := by
  unfold chkE
  by_cases h : evErr y = 0
  · rw [if_pos h]; exact (Inv.ret y).eq (fun x => by simp [h]) (fun _ _ => rfl)
  · rw [if_neg h]; exact (Inv.err _ (fun _ => [])).eq (fun x => by simp [h]) (fun _ h => h.elim)
def okEv (e : Ev) : Prop := evErr e = 0 ∧ ∀ a ∈ e.attrs, inI64 a.v.n
theorem ev_in {e : Ev} (h : evErr e = 0) : 0 ≤ e.src ∧ e.src < 16 ∧ (0 ≤ e.seq ∧ e.seq ≤ 1099511627776) ∧ (0 ≤ e.time ∧ e.time ≤ 1099511627776) ∧ e.type.size ≤ 32 ∧ e.attrs.length ≤ 8 := by
  unfold evErr at h
  split at h
  · cases h
  rename_i h1
  simp only [not_or, Bool.not_eq_false] at h1
  obtain ⟨k1, k2, k3, k4, k5⟩ := h1
  simp only [timeOk, decide_eq_true_eq] at k3 k4
  simp only [isName, Bool.and_eq_true, decide_eq_true_eq] at k5
  unfold attrsErr at h
  split at h
  · cases h
  exact ⟨by omega, by omega, k3, k4, k5.2, by omega⟩
theorem natV_in {q : Nat} (h : 0 ≤ natV q ∧ natV q ≤ 1099511627776) : (natV q).toNat = q ∧ q < 18446744073709551616 := by
  unfold natV at h ⊢
  split at h
  · omega
  · rename_i h2; rw [if_neg h2]; omega
theorem attrs_val : ∀ {l : List Attr} {p : Option ByteArray}, attrsFrom p l = 0 → ∀ a ∈ l, valOk a.v = true ∧ a.name.size ≤ 32
  | a :: l, p, h, b, hb => by
    simp only [attrsFrom] at h
    split at h
    · cases h
    rename_i h0
    split at h
    · rename_i h1; exact absurd h h1
    rename_i h1
    split at h
    · cases h
    rcases List.mem_cons.1 hb with rfl | hb
    · have hv : valErr b.v = 0 := by simpa using h1
      have hn : isName b.name = true := by simpa using h0
      simp only [isName, Bool.and_eq_true, decide_eq_true_eq] at hn
      unfold valErr at hv
      split at hv
      · exact ⟨by assumption, hn.2⟩
      · cases hv
    · exact attrs_val h b hb
theorem ev_attrs {e : Ev} (h : okEv e) : ∀ a ∈ e.attrs, okAt a := fun a ha => by
  obtain ⟨h1, h2⟩ := h
  unfold evErr at h1
  split at h1
  · cases h1
  unfold attrsErr at h1
  split at h1
  · cases h1
  obtain ⟨k1, k2⟩ := attrs_val h1 a ha
  simp only [valOk, decide_eq_true_eq] at k1
  refine ⟨by omega, ?_⟩
  rcases k1 with ⟨a1, a2⟩ | ⟨a1, a2, a3⟩
  · refine .inl ⟨a1, ?_, h2 a ha⟩
    have : a.v.s.data = #[] := Array.eq_empty_of_size_eq_zero a2
    cases hs : a.v.s with
    | mk d => rw [hs] at this; exact congrArg _ this
  · exact .inr ⟨a1, a2, by omega⟩
theorem inv_ev : Inv evQ evB okEv := by
  have h5 : ∀ s q t ty n, Inv (if 8 < n then Prs.err 40 else Prs.bind (Prs.rep attrP n) fun l => chkE (mkE s q t ty l)) (fun x : Ev => x.attrs.flatMap attrB ++ [])
      (fun x => n ≤ 8 ∧ (x.attrs.length = n ∧ ∀ a ∈ x.attrs, okAt a) ∧ x = mkE s q t ty x.attrs ∧ evErr (mkE s q t ty x.attrs) = 0) := fun s q t ty n => by
    by_cases h : 8 < n
    · rw [if_pos h]; exact (Inv.err _ (fun _ => [])).eq (fun x => by simp; omega) (fun _ h => h.elim)
    · rw [if_neg h]
      refine Inv.eq (Inv.bind (Inv.rep inv_attr n) (g := fun x : Ev => x.attrs) (fun l _ => inv_chk _) (fun l x _ hx => by rw [hx.1]; rfl)) (fun x => ?_) (fun _ _ => rfl)
      exact ⟨fun hx => hx.2, fun hx => ⟨by omega, hx⟩⟩
  have h4 := fun s q t ty => Inv.bind (inv_bits 4) (g := fun x : Ev => x.attrs.length) (fun n _ => h5 s q t ty n) (fun n x _ hx => hx.2.1.1)
  have h3 := fun s q t => Inv.bind inv_text (g := fun x : Ev => bytesOf x.type) (fun ty _ => h4 s q t ty) (fun ty x ht hx => by rw [hx.2.2.2.1]; exact bytes_strOf ht.1)
  have h2 := fun s q => Inv.bind inv_nat (g := fun x : Ev => x.time.toNat) (fun t _ => h3 s q t) (fun t x ht hx => by
    have hx := hx.2.2.2.2
    have h := ev_in hx.2
    rw [hx.1]
    exact (natV_in h.2.2.2.1).1)
  have h1 := fun s => Inv.bind inv_nat (g := fun x : Ev => x.seq.toNat) (fun q _ => h2 s q) (fun q x ht hx => by
    have hx := hx.2.2.2.2.2
    have h := ev_in hx.2
    rw [hx.1]
    exact (natV_in h.2.2.1).1)
  have h0 := Inv.bind (inv_bits 4) (g := fun x : Ev => x.src.toNat) (fun s _ => h1 s) (fun s x ht hx => by
    have hx := hx.2.2.2.2.2.2
    rw [hx.1]; rfl)
  refine Inv.eq (p := evQ) h0 (fun e => ⟨fun h => ?_, fun h => ?_⟩) (fun e he => ?_)
  · obtain ⟨a1, a2, a3, a4, a5, a6⟩ := ev_in h.1
    have hmk : mkE e.src.toNat e.seq.toNat e.time.toNat (bytesOf e.type) e.attrs = e := by
      have n1 : natV e.seq.toNat = e.seq := by unfold natV; rw [if_neg (by omega)]; omega
      have n2 : natV e.time.toNat = e.time := by unfold natV; rw [if_neg (by omega)]; omega
      unfold mkE
      rw [n1, n2, strOf_bytes, Int.toNat_of_nonneg a1]
    refine ⟨show e.src.toNat < 2 ^ 4 by omega, show e.seq.toNat < 18446744073709551616 by omega, show e.time.toNat < 18446744073709551616 by omega, okTx_of (by omega), show e.attrs.length < 2 ^ 4 by omega, a6, ⟨rfl, ev_attrs h⟩, hmk.symm, by rw [hmk]; exact h.1⟩
  · have hx := h.2.2.2.2.2.2
    refine ⟨by rw [hx.2.1]; exact hx.2.2, fun a ha => ?_⟩
    rcases (hx.1.2 a ha).2 with ⟨_, _, h⟩ | ⟨_, h, _⟩
    · exact h
    · rw [h]; unfold inI64; omega
  · rw [strOf_bytes, List.append_nil]; rfl
def okBn (b : Bd) : Prop := b.var.size < 18446744073709551616 ∧ okEv b.ev
theorem inv_bd : Inv bdQ bdB okBn := by
  have h1 : ∀ t, Inv (Prs.bind evQ fun v => Prs.ret (⟨strOf t, v⟩ : Bd)) (fun x => evB x.ev ++ []) (fun x => okEv x.ev ∧ x = ⟨strOf t, x.ev⟩) := fun t =>
    Inv.bind inv_ev (g := fun x : Bd => x.ev) (fun v _ => Inv.ret _) (fun v x _ hx => by rw [hx])
  have h2 := Inv.bind inv_text (g := fun x : Bd => bytesOf x.var) (fun t _ => h1 t) (fun t x ht hx => by rw [hx.2]; exact bytes_strOf ht.1)
  refine Inv.eq (p := bdQ) h2 (fun x => ⟨fun h => ?_, fun h => ?_⟩) (fun x hx => ?_)
  · refine ⟨okTx_of h.1, h.2, ?_⟩
    rw [strOf_bytes]
  · exact ⟨by have := h.1.2; rwa [bytes_len] at this, h.2.1⟩
  · rw [strOf_bytes, List.append_nil]; rfl
def okPr (l : List Bd) : Prop := partErr l = 0 ∧ inA l
theorem inv_part : Inv partQ partB okPr := by
  have hc : ∀ y : List Bd, Inv (chkP y) (fun _ => []) (fun x => x = y ∧ partErr y = 0) := fun y => by
    unfold chkP
    by_cases h : partErr y = 0
    · rw [if_pos h]; exact (Inv.ret y).eq (fun x => by simp [h]) (fun _ _ => rfl)
    · rw [if_neg h]; exact (Inv.err _ (fun _ => [])).eq (fun x => by simp [h]) (fun _ h => h.elim)
  have h5 : ∀ n, Inv (if 12 < n then Prs.err 100 else Prs.bind (Prs.rep bdQ n) chkP) (fun x : List Bd => x.flatMap bdB ++ []) (fun x => n ≤ 12 ∧ (x.length = n ∧ ∀ b ∈ x, okBn b) ∧ x = x ∧ partErr x = 0) := fun n => by
    by_cases h : 12 < n
    · rw [if_pos h]; exact (Inv.err _ (fun _ => [])).eq (fun x => by simp; omega) (fun _ h => h.elim)
    · rw [if_neg h]
      refine Inv.eq (Inv.bind (Inv.rep inv_bd n) (g := fun x : List Bd => x) (fun l _ => hc l) (fun l x _ hx => hx.1)) (fun x => ?_) (fun _ _ => rfl)
      exact ⟨fun hx => hx.2, fun hx => ⟨by omega, hx⟩⟩
  have h0 := Inv.bind (inv_bits 4) (g := fun x : List Bd => x.length) (fun n _ => h5 n) (fun n x _ hx => hx.2.1.1)
  refine Inv.eq (p := partQ) h0 (fun l => ⟨fun h => ?_, fun h => ?_⟩) (fun l hl => ?_)
  · have h1 := h.1
    unfold partErr at h1
    split at h1
    · cases h1
    rename_i h12
    have hg := part_good0 h1
    exact ⟨show l.length < 2 ^ 4 by omega, by omega, ⟨rfl, fun b hb => ⟨by have := (hg b hb).1; omega, (hg b hb).2, h.2 b hb⟩⟩, rfl, h.1⟩
  · exact ⟨h.2.2.2.2, fun b hb => (h.2.2.1.2 b hb).2.2⟩
  · rw [List.append_nil]; rfl
end Go.Abs.M
namespace Go.Abs.M
open Go Go.Abs Go.Proofs
set_option linter.unusedSimpArgs false
set_option linter.unusedVariables false
set_option maxRecDepth 20000
theorem low_put : ∀ r : Nat, r < 8 → ∀ x : Nat, x < 256 → x % 2 ^ (8 - r) = 0 → lowB (x + 128 / 2 ^ r) 8 = (lowB x 8).set r true := by decide +kernel
theorem unB_cons (x : Nat) (l : List Nat) : unB (x :: l) = lowB x 8 ++ unB l := by unfold unB; rw [List.flatMap_cons]
theorem unB_app (a b : List Nat) : unB (a ++ b) = unB a ++ unB b := by unfold unB; rw [List.flatMap_append]
theorem unB_at : ∀ (l : List Nat) (j x y : Nat), l[j]? = some x → unB l = (unB l).take (8 * j) ++ lowB x 8 ++ (unB l).drop (8 * j + 8) ∧ unB (l.set j y) = (unB l).take (8 * j) ++ lowB y 8 ++ (unB l).drop (8 * j + 8)
  | z :: l, 0, x, y, h => by
    simp at h
    subst h
    rw [List.set_cons_zero, unB_cons, unB_cons]
    have h1 : (lowB z 8 ++ unB l).drop (8 * 0 + 8) = unB l := List.drop_left' (lowB_len z 8)
    rw [h1]
    simp
  | z :: l, j + 1, x, y, h => by
    obtain ⟨h1, h2⟩ := unB_at l j x y (by simpa using h)
    rw [List.set_cons_succ, unB_cons, unB_cons, h2]
    have k1 : (lowB z 8 ++ unB l).take (8 * (j + 1)) = lowB z 8 ++ (unB l).take (8 * j) := by
      rw [show 8 * (j + 1) = (lowB z 8).length + 8 * j by rw [lowB_len]; omega, List.take_length_add_append]
    have k2 : (lowB z 8 ++ unB l).drop (8 * (j + 1) + 8) = (unB l).drop (8 * j + 8) := by
      rw [show 8 * (j + 1) + 8 = (lowB z 8).length + (8 * j + 8) by rw [lowB_len]; omega, List.drop_length_add_append]
    rw [k1, k2]
    refine ⟨?_, by simp⟩
    conv => lhs; rw [h1]
    simp
theorem unB_room (bs : List Bool) (h : unB (packB bs) = bs ++ List.replicate ((8 - bs.length % 8) % 8) false) : unB (roomB bs) = bs ++ List.replicate (8 - bs.length % 8) false := by
  unfold roomB
  split
  · rename_i h0
    rw [unB_app, h, h0, unB_cons, low_zero]
    simp [unB]
  · rename_i h0
    rw [h]
    congr 2
    omega
theorem unB_pack (bs : List Bool) : unB (packB bs) = bs ++ List.replicate ((8 - bs.length % 8) % 8) false := by
  rw [← List.reverse_reverse bs]
  induction bs.reverse with
  | nil => rfl
  | cons b r ih =>
    rw [List.reverse_cons]
    generalize r.reverse = l at *
    have hr := unB_room l ih
    have hlen : (l ++ [b]).length = l.length + 1 := by simp
    have hm : l.length % 8 < 8 := Nat.mod_lt _ (by omega)
    have hpad : List.replicate (8 - l.length % 8) false = false :: List.replicate ((8 - (l.length + 1) % 8) % 8) false := by
      rw [← List.replicate_succ]
      congr 1
      omega
    rw [hlen]
    cases b with
    | false => rw [packB_no, hr, hpad]; simp
    | true =>
      obtain ⟨x, hx, hx1, hx2, _, _⟩ := roomB_put l
      obtain ⟨_, hz, _⟩ := roomB_inv l _ _ hx
      have hz := hz rfl
      rw [hx2]
      obtain ⟨u1, u2⟩ := unB_at (roomB l) (l.length / 8) x (x + 128 / 2 ^ (l.length % 8)) hx
      rw [u2, low_put (l.length % 8) hm x hx1 hz]
      have hd : 8 * (l.length / 8) + l.length % 8 = l.length := Nat.div_add_mod l.length 8
      have e1 : (unB (roomB l)).length = 8 * (l.length / 8) + 8 := by rw [hr, List.length_append, List.length_replicate]; omega
      have e2 : (unB (roomB l)).drop (8 * (l.length / 8) + 8) = [] := List.drop_eq_nil_of_le (by omega)
      rw [e2, List.append_nil] at u1 ⊢
      have e3 : ((unB (roomB l)).take (8 * (l.length / 8))).length = 8 * (l.length / 8) := by rw [List.length_take]; omega
      have e4 : (unB (roomB l)).set l.length true = (unB (roomB l)).take (8 * (l.length / 8)) ++ (lowB x 8).set (l.length % 8) true := by
        conv => lhs; rw [u1]
        rw [List.set_append, if_neg (by rw [e3]; omega), e3]
        congr 2
        omega
      rw [← e4, hr, hpad, List.set_append, if_neg (by omega), Nat.sub_self]
      simp
theorem low_inj {x y : Nat} (hx : x < 256) (hy : y < 256) (h : lowB x 8 = lowB y 8) : x = y := by
  have := congrArg valN h
  rw [valN_low, valN_low] at this
  omega
theorem unB_inj : ∀ (a b : List Nat), (∀ x ∈ a, x < 256) → (∀ x ∈ b, x < 256) → unB a = unB b → a = b
  | [], [], _, _, _ => rfl
  | [], y :: b, _, _, h => by have := congrArg List.length h; rw [unB_len, unB_len] at this; simp at this
  | x :: a, [], _, _, h => by have := congrArg List.length h; rw [unB_len, unB_len] at this; simp at this
  | x :: a, y :: b, h1, h2, h => by
    rw [unB_cons, unB_cons] at h
    obtain ⟨h3, h4⟩ := List.append_inj h (by rw [lowB_len, lowB_len])
    rw [low_inj (h1 x List.mem_cons_self) (h2 y List.mem_cons_self) h3, unB_inj a b (fun z hz => h1 z (List.mem_cons_of_mem _ hz)) (fun z hz => h2 z (List.mem_cons_of_mem _ hz)) h4]
theorem endP_zeros (n : Nat) (h : n < 8) : endP (List.replicate n false) = 0 := by
  unfold endP
  rw [if_neg (by rw [List.length_replicate]; omega), if_neg (fun hm => by have := List.eq_of_mem_replicate hm; cases this)]
theorem endP_back {l : List Bool} (h : endP l = 0) : l.length < 8 ∧ l = List.replicate l.length false := by
  unfold endP at h
  split at h
  · cases h
  split at h
  · cases h
  rename_i h1 h2
  refine ⟨by omega, List.eq_replicate_iff.2 ⟨rfl, fun b hb => ?_⟩⟩
  cases b with
  | false => rfl
  | true => exact absurd hb h2
/-- What is written is read as it was. -/
theorem parse_to {l : List Bd} (h : okPr l) : parseP (packB (partB l)) = .ok l := by
  unfold parseP At
  rw [if_pos rfl, List.drop_zero, unB_pack]
  rw [inv_part.to l _ h]
  simp only [Nat.zero_add, List.drop_left]
  rw [endP_zeros _ (Nat.mod_lt _ (by omega))]
  rfl
/-- What is read is written in just these bytes. -/
theorem parse_back {b : List Nat} (hb : ∀ x ∈ b, x < 256) {l : List Bd} (h : parseP b = .ok l) : okPr l ∧ packB (partB l) = b := by
  unfold parseP At at h
  rw [if_pos rfl, List.drop_zero] at h
  cases hp : partQ (unB b) with
  | error e => rw [hp] at h; cases h
  | ok x =>
    obtain ⟨a, c⟩ := x
    rw [hp] at h
    simp only [Nat.zero_add] at h
    obtain ⟨k1, k2, r, k3⟩ := inv_part.back _ _ _ hp
    split at h
    · rename_i he
      injection h with h
      subst h
      rw [k3, k2, List.drop_left] at he
      obtain ⟨m1, m2⟩ := endP_back he
      refine ⟨k1, unB_inj _ _ (packB_lt _) hb ?_⟩
      rw [unB_pack, k3]
      congr 1
      rw [m2]
      congr 1
      have h8 := unB_len b
      rw [k3, List.length_append] at h8
      omega
    · cases h
end Go.Abs.M
namespace Go.Abs.M
open Go Go.Abs Go.Proofs
set_option maxRecDepth 20000
set_option linter.unusedSimpArgs false
set_option linter.unusedVariables false
theorem okR_part {l : List Bd} (h : partErr l = 0) (hok : okP l) : l.length < 4611686018427387904 ∧ ∀ b ∈ l, b.ev.attrs.length < 4611686018427387904 := by
  refine ⟨?_, fun b hb => (hok b hb).ev.len⟩
  unfold partErr at h
  split at h
  · cases h
  · omega
def NZ {α : Type} (p : Prs α) : Prop := ∀ l e, p l = .error e → e ≠ 0
theorem NZ.bind {α β : Type} {p : Prs α} {f : α → Prs β} (hp : NZ p) (hf : ∀ a, NZ (f a)) : NZ (Prs.bind p f) := fun l e h => by
  unfold Prs.bind at h
  cases h1 : p l with
  | error d => rw [h1] at h; injection h with h; subst h; exact hp l d h1
  | ok x =>
    obtain ⟨a, c⟩ := x
    rw [h1] at h
    simp only [] at h
    cases h2 : f a (l.drop c) with
    | error d => rw [h2] at h; injection h with h; subst h; exact hf a _ d h2
    | ok y => rw [h2] at h; cases h
theorem NZ.ret {α : Type} (a : α) : NZ (Prs.ret a) := fun l e h => by cases h
theorem NZ.err {α : Type} {e : Int} (h : e ≠ 0) : NZ (Prs.err e : Prs α) := fun l d hd => by injection hd with hd; rw [← hd]; exact h
theorem NZ.rep {α : Type} {p : Prs α} (hp : NZ p) : ∀ n, NZ (Prs.rep p n)
  | 0 => NZ.ret []
  | n + 1 => NZ.bind hp fun a => NZ.bind (NZ.rep hp n) fun r => NZ.ret _
theorem NZ.bits (n : Nat) : NZ (bitsP n) := fun l e h => by
  unfold bitsP at h
  split at h
  · cases h
  · injection h with h; omega
theorem nz_nat : NZ natP := fun l e h => natP_err h
theorem nz_text : NZ textP := fun l e h => textP_err h
theorem nz_num : NZ numP := fun l e h => numP_err h
theorem nz_attr : NZ attrP := NZ.bind nz_text fun t => NZ.bind (NZ.bind (NZ.bits 2) fun k => by
  split
  · exact NZ.bind nz_num fun n => NZ.ret _
  · split
    · exact NZ.bind nz_text fun n => NZ.ret _
    · exact NZ.err (by decide)) fun v => NZ.ret _
theorem nz_ev : NZ evQ := NZ.bind (NZ.bits 4) fun s => NZ.bind nz_nat fun q => NZ.bind nz_nat fun t => NZ.bind nz_text fun ty => NZ.bind (NZ.bits 4) fun n => by
  split
  · exact NZ.err (by decide)
  · refine NZ.bind (NZ.rep nz_attr n) fun l => ?_
    unfold chkE
    split
    · exact NZ.ret _
    · exact NZ.err (by assumption)
theorem nz_part : NZ partQ := NZ.bind (NZ.bits 4) fun n => by
  split
  · exact NZ.err (by decide)
  · refine NZ.bind (NZ.rep (NZ.bind nz_text fun t => NZ.bind nz_ev fun e => NZ.ret _) n) fun l => ?_
    unfold chkP
    split
    · exact NZ.ret _
    · exact NZ.err (by assumption)
theorem At_ne0 {b : List Nat} (h : At b 0 0 partQ = .error 0) : False := by
  unfold At at h
  rw [if_pos rfl] at h
  cases hp : partQ ((unB b).drop 0) with
  | error d => rw [hp] at h; injection h with h; exact nz_part _ _ hp h
  | ok x => rw [hp] at h; cases h
theorem law_back (l : List Bd) (b : List Nat) (hok : okP l) (hn : inA l) (hb : b.length < 140737488355329) (hb256 : ∀ x ∈ b, x < 256) : PCalls Try.prog 10 [.agg [.sl (l.map encBd)], .sl (b.map encB)] (fun v => v = .c (.bool true)) := by
  refine PCalls.intro Try.call10 Try.func10 rfl Try.ntmps10 Try.results10 (by simp) ?_
  have hne : ((partErr l == 0) != (partErr l == 0)) = false := by simp
  have hee : (partErr l == 0) = decide (partErr l = 0) := by rw [Bool.eq_iff_iff]; simp
  refine AW.seq_k fun K1 h1 => ?_
  all_goals refine AW.reg0 ?_
  all_goals iterate 2 (refine S.g rfl rfl fun K' k' => ?_; simp only [zz, reduceIte, Nat.reduceEqDiff, Nat.reduceLT, Nat.reduceLeDiff, Nat.reduceAdd, reduceCtorEq, Nat.reduceMul, ok24, sz24, ag24]; refine k' _ _ ?_; clear k' K')
  all_goals refine S.nil ?_
  all_goals simp only [ze, reduceIte, Nat.reduceEqDiff, Nat.reduceLT, Nat.reduceLeDiff, Nat.reduceAdd, reduceCtorEq, Nat.reduceMul]
  all_goals apply_assumption
  refine AW.seq_k fun K2 h2 => ?_
  all_goals refine AW.reg0 ?_
  all_goals (refine S.g rfl rfl fun K' k' => ?_; simp only [zz, reduceIte, Nat.reduceEqDiff, Nat.reduceLT, Nat.reduceLeDiff, Nat.reduceAdd, reduceCtorEq, Nat.reduceMul, ok24, sz24, ag24]; refine k' _ _ ?_; clear k' K')
  all_goals (refine S.g rfl rfl fun K' k' => ?_; simp only [zz, reduceIte, Nat.reduceEqDiff, Nat.reduceLT, Nat.reduceLeDiff, Nat.reduceAdd, reduceCtorEq, Nat.reduceMul]; refine PCalls.eqto (Bytes_spec l hok hn) ?_ <;> (refine k' _ _ ?_; clear k' K'))
  all_goals iterate 5 (refine S.g rfl rfl fun K' k' => ?_; simp only [zz, reduceIte, Nat.reduceEqDiff, Nat.reduceLT, Nat.reduceLeDiff, Nat.reduceAdd, reduceCtorEq, Nat.reduceMul]; refine k' _ _ ?_; clear k' K')
  all_goals refine S.nil ?_
  all_goals simp only [ze, reduceIte, Nat.reduceEqDiff, Nat.reduceLT, Nat.reduceLeDiff, Nat.reduceAdd, reduceCtorEq, Nat.reduceMul]
  all_goals apply_assumption
  refine AW.seq_k fun K3 h3 => ?_
  refine AW.seq_k fun K4 h4 => ?_
  all_goals refine AW.reg0 ?_
  all_goals (refine S.g rfl rfl fun K' k' => ?_; simp only [zz, reduceIte, Nat.reduceEqDiff, Nat.reduceLT, Nat.reduceLeDiff, Nat.reduceAdd, reduceCtorEq, Nat.reduceMul, un4, hne]; refine PCalls.eqto begun_spec ?_; refine S.bool fun b a17 => ?_; cases b <;> (try (exfalso; first | exact Bool.noConfusion a17 | (have h := of_decide_eq_true a17; omega) | (have h := of_decide_eq_false a17; omega))) <;> (refine k' _ _ ?_; clear k' K'))
  all_goals iterate 2 (refine S.g rfl rfl fun K' k' => ?_; simp only [zz, reduceIte, Nat.reduceEqDiff, Nat.reduceAdd, un4, hne]; refine k' _ _ ?_; clear k' K')
  all_goals iterate 3 (first | (refine S.y rfl rfl rfl rfl fun K' k' => ?_; simp only [zz, reduceIte, Nat.reduceEqDiff, Nat.reduceLT, Nat.reduceLeDiff, Nat.reduceAdd, reduceCtorEq, Nat.reduceMul, ok24, sz24, ag24, un4, hne]; refine k' _ _ ?_; clear k' K') | ((first | refine S.x rfl rfl rfl rfl fun K' k' => ?_ | refine S.u rfl rfl rfl rfl fun K' k' => ?_); simp only [ze, reduceIte, Nat.reduceEqDiff]; refine k' _ _ ?_; clear k' K'))
  all_goals (first | (refine S.y rfl rfl rfl rfl fun K' k' => ?_; simp only [zz, reduceIte, Nat.reduceEqDiff, Nat.reduceLT, Nat.reduceLeDiff, Nat.reduceAdd, reduceCtorEq, Nat.reduceMul, un4, hne]; refine PCalls.eqto (check_part l hok) ?_ <;> (refine k' _ _ ?_; clear k' K')) | ((first | refine S.x rfl rfl rfl rfl fun K' k' => ?_ | refine S.u rfl rfl rfl rfl fun K' k' => ?_); simp only [ze, reduceIte, Nat.reduceEqDiff]; refine k' _ _ ?_; clear k' K'))
  all_goals iterate 2 (first | (refine S.y rfl rfl rfl rfl fun K' k' => ?_; simp only [zz, reduceIte, Nat.reduceEqDiff, Nat.reduceAdd, un4, un4, hne]; refine k' _ _ ?_; clear k' K') | ((first | refine S.x rfl rfl rfl rfl fun K' k' => ?_ | refine S.u rfl rfl rfl rfl fun K' k' => ?_); simp only [ze, reduceIte, Nat.reduceEqDiff]; refine k' _ _ ?_; clear k' K'))
  all_goals (refine S.g rfl rfl fun K' k' => ?_; simp only [zz, reduceIte, Nat.reduceEqDiff, Nat.reduceAdd, un4, hne]; refine k' _ _ ?_; clear k' K')
  all_goals refine S.nil ?_
  all_goals simp only [ze, reduceIte, Nat.reduceEqDiff, Nat.reduceLT, Nat.reduceLeDiff, Nat.reduceAdd, reduceCtorEq, Nat.reduceMul, un4, hne]
  all_goals apply_assumption
  refine AW.cond (b := false) (by simp [ev]) (fun hc => by cases hc) (fun hc => ?_)
  refine AW.skip ?_
  all_goals simp only [zs, reduceIte, Nat.reduceEqDiff, Nat.reduceLT, Nat.reduceLeDiff, Nat.reduceAdd, reduceCtorEq, Nat.reduceMul]
  all_goals apply_assumption
  refine AW.seq_j (fun s σ => s.t 1 = .sl (b.map encB)) ?_ ?_
  · refine AW.seq_k fun K5 h5 => ?_
    all_goals refine AW.reg0 ?_
    all_goals iterate 2 (refine S.g rfl rfl fun K' k' => ?_; simp only [zz, reduceIte, Nat.reduceEqDiff, Nat.reduceAdd, hee]; refine k' _ _ ?_; clear k' K')
    all_goals refine S.nil ?_
    all_goals simp only [ze, reduceIte, Nat.reduceEqDiff, Nat.reduceLT, Nat.reduceLeDiff, Nat.reduceAdd, reduceCtorEq, Nat.reduceMul, hee]
    all_goals apply_assumption
    refine AW.cond (b := decide (partErr l = 0)) (by simp [ev]) (fun hc => ?_) (fun hc => ?_)
    · have hpe := of_decide_eq_true hc
      have hbl : bytesP l = packB (partB l) := if_pos hpe
      have hto := parse_to (l := l) ⟨hpe, hn⟩
      have hpl : (packB (partB l)).length < 140737488355329 := by rw [packB_len]; have := part_bits (part_good hpe hok hn); omega
      have hrs := okR_part hpe hok
      have hsp : PCalls Try.prog 14 [.agg [.sl (l.map encBd)], .agg [.sl (l.map encBd)]] (fun v => v = .c (.bool true)) := (rsame_part l l hrs.1 hrs.2).mono fun v hv => by rw [hv, allEq_refl eqBd_refl]
      refine AW.seq_k fun K6 h6 => ?_
      all_goals refine AW.reg0 ?_
      all_goals (refine S.g rfl rfl fun K' k' => ?_; simp only [zz, reduceIte, Nat.reduceEqDiff, Nat.reduceAdd, hbl, parV]; refine k' _ _ ?_; clear k' K')
      all_goals (refine S.g rfl rfl fun K' k' => ?_; simp only [zz, reduceIte, Nat.reduceEqDiff, Nat.reduceLT, Nat.reduceLeDiff, Nat.reduceAdd, reduceCtorEq, Nat.reduceMul, hbl, parV]; refine PCalls.to (Parse_spec (packB (partB l)) hpl (packB_lt _)) fun v hv => ?_; obtain rfl := hv.1.trans (congrArg parV hto) <;> (refine k' _ _ ?_; clear k' K'))
      all_goals iterate 6 (refine S.g rfl rfl fun K' k' => ?_; simp only [zz, reduceIte, Nat.reduceEqDiff, Nat.reduceLT, Nat.reduceLeDiff, Nat.reduceAdd, reduceCtorEq, Nat.reduceMul, zt24, ok24, sz24, ag24, hbl, parV]; refine k' _ _ ?_; clear k' K')
      all_goals refine S.nil ?_
      all_goals simp only [ze, reduceIte, Nat.reduceEqDiff, Nat.reduceLT, Nat.reduceLeDiff, Nat.reduceAdd, reduceCtorEq, Nat.reduceMul, hbl, parV]
      all_goals apply_assumption
      refine AW.seq_k fun K7 h7 => ?_
      all_goals refine AW.reg0 ?_
      all_goals (refine S.g rfl rfl fun K' k' => ?_; simp only [zz, reduceIte, Nat.reduceEqDiff, Nat.reduceAdd, un4]; refine k' _ _ ?_; clear k' K')
      all_goals (refine S.g rfl rfl fun K' k' => ?_; simp only [zz, reduceIte, Nat.reduceEqDiff, Nat.reduceLT, Nat.reduceLeDiff, Nat.reduceAdd, reduceCtorEq, Nat.reduceMul, un4]; refine S.bool fun b a35 => ?_; cases b <;> (try (exfalso; first | exact Bool.noConfusion a35 | (have h := of_decide_eq_true a35; omega) | (have h := of_decide_eq_false a35; omega))) <;> (refine k' _ _ ?_; clear k' K'))
      all_goals (refine S.g rfl rfl fun K' k' => ?_; simp only [zz, reduceIte, Nat.reduceEqDiff, Nat.reduceAdd, un4]; refine k' _ _ ?_; clear k' K')
      all_goals iterate 2 (first | (refine S.y rfl rfl rfl rfl fun K' k' => ?_; simp only [zz, reduceIte, Nat.reduceEqDiff, Nat.reduceLT, Nat.reduceLeDiff, Nat.reduceAdd, reduceCtorEq, Nat.reduceMul, ok24, sz24, ag24, un4]; refine k' _ _ ?_; clear k' K') | ((first | refine S.x rfl rfl rfl rfl fun K' k' => ?_ | refine S.u rfl rfl rfl rfl fun K' k' => ?_); simp only [ze, reduceIte, Nat.reduceEqDiff]; refine k' _ _ ?_; clear k' K'))
      all_goals (first | (refine S.y rfl rfl rfl rfl fun K' k' => ?_; simp only [zz, reduceIte, Nat.reduceEqDiff, Nat.reduceLT, Nat.reduceLeDiff, Nat.reduceAdd, reduceCtorEq, Nat.reduceMul, un4]; refine PCalls.eqto hsp ?_ <;> (refine k' _ _ ?_; clear k' K')) | ((first | refine S.x rfl rfl rfl rfl fun K' k' => ?_ | refine S.u rfl rfl rfl rfl fun K' k' => ?_); simp only [ze, reduceIte, Nat.reduceEqDiff]; refine k' _ _ ?_; clear k' K'))
      all_goals (first | (refine S.y rfl rfl rfl rfl fun K' k' => ?_; simp only [zz, reduceIte, Nat.reduceEqDiff, Nat.reduceAdd, un4]; refine k' _ _ ?_; clear k' K') | ((first | refine S.x rfl rfl rfl rfl fun K' k' => ?_ | refine S.u rfl rfl rfl rfl fun K' k' => ?_); simp only [ze, reduceIte, Nat.reduceEqDiff]; refine k' _ _ ?_; clear k' K'))
      all_goals (refine S.g rfl rfl fun K' k' => ?_; simp only [zz, reduceIte, Nat.reduceEqDiff, Nat.reduceAdd, un4]; refine k' _ _ ?_; clear k' K')
      all_goals refine S.nil ?_
      all_goals simp only [ze, reduceIte, Nat.reduceEqDiff, Nat.reduceLT, Nat.reduceLeDiff, Nat.reduceAdd, reduceCtorEq, Nat.reduceMul, un4]
      all_goals apply_assumption
      refine AW.cond (b := false) (by simp [ev]) (fun hc => by cases hc) (fun hc => ?_)
      refine AW.skip ?_
      all_goals simp only [zs, reduceIte, Nat.reduceEqDiff, Nat.reduceLT, Nat.reduceLeDiff, Nat.reduceAdd, reduceCtorEq, Nat.reduceMul]
    · refine AW.skip ?_
      all_goals simp only [zs, reduceIte, Nat.reduceEqDiff, Nat.reduceLT, Nat.reduceLeDiff, Nat.reduceAdd, reduceCtorEq, Nat.reduceMul]
  rintro s σ e1
  rcases hP : parseP b with e | q
  · have he : e ≠ 0 := fun h0 => by
      subst h0
      unfold parseP at hP
      cases hA : At b 0 0 partQ with
      | error d =>
        rw [hA] at hP
        injection hP with hP
        subst hP
        exact At_ne0 hA
      | ok x =>
        obtain ⟨a, q⟩ := x
        rw [hA] at hP
        simp only [] at hP
        split at hP
        · cases hP
        · rename_i h2; injection hP with hP; exact h2 hP
    refine AW.seq_k fun K8 h8 => ?_
    all_goals refine AW.reg0 ?_
    all_goals (refine S.g rfl rfl fun K' k' => ?_; simp only [zz, reduceIte, Nat.reduceEqDiff, Nat.reduceAdd, e1, parV]; refine k' _ _ ?_; clear k' K')
    all_goals (refine S.g rfl rfl fun K' k' => ?_; simp only [zz, reduceIte, Nat.reduceEqDiff, Nat.reduceLT, Nat.reduceLeDiff, Nat.reduceAdd, reduceCtorEq, Nat.reduceMul, e1, parV]; refine PCalls.to (Parse_spec b hb hb256) fun v hv => ?_; have hokq := hv.2; obtain rfl := hv.1.trans (congrArg parV hP) <;> (refine k' _ _ ?_; clear k' K'))
    all_goals iterate 6 (refine S.g rfl rfl fun K' k' => ?_; simp only [zz, reduceIte, Nat.reduceEqDiff, Nat.reduceLT, Nat.reduceLeDiff, Nat.reduceAdd, reduceCtorEq, Nat.reduceMul, zt24, ok24, sz24, ag24, e1, parV]; refine k' _ _ ?_; clear k' K')
    all_goals refine S.nil ?_
    all_goals simp only [ze, reduceIte, Nat.reduceEqDiff, Nat.reduceLT, Nat.reduceLeDiff, Nat.reduceAdd, reduceCtorEq, Nat.reduceMul, e1, parV]
    all_goals apply_assumption
    refine AW.seq_k fun K9 h9 => ?_
    refine AW.seq_k fun K10 h10 => ?_
    all_goals refine AW.reg0 ?_
    all_goals iterate 2 (refine S.g rfl rfl fun K' k' => ?_; simp only [zz, reduceIte, Nat.reduceEqDiff, Nat.reduceAdd]; refine k' _ _ ?_; clear k' K')
    all_goals refine S.nil ?_
    all_goals simp only [ze, reduceIte, Nat.reduceEqDiff, Nat.reduceLT, Nat.reduceLeDiff, Nat.reduceAdd, reduceCtorEq, Nat.reduceMul]
    all_goals apply_assumption
    refine AW.cond (b := true) (by simp [ev, he]) (fun hc => ?_) (fun hc => by cases hc)
    refine AW.seq_k fun K11 h11 => ?_
    all_goals refine AW.reg0 ?_
    all_goals (refine S.g rfl rfl fun K' k' => ?_; simp only [zz, reduceIte, Nat.reduceEqDiff, Nat.reduceAdd]; refine k' _ _ ?_; clear k' K')
    all_goals refine S.nil ?_
    all_goals simp only [ze, reduceIte, Nat.reduceEqDiff, Nat.reduceLT, Nat.reduceLeDiff, Nat.reduceAdd, reduceCtorEq, Nat.reduceMul]
    all_goals apply_assumption
    refine AW.bare (AW.ret ?_)
    all_goals simp only [zs, reduceIte, Nat.reduceEqDiff, Nat.reduceLT, Nat.reduceLeDiff, Nat.reduceAdd, reduceCtorEq, Nat.reduceMul]
  · obtain ⟨⟨hqe, hnq⟩, hqb⟩ := parse_back hb256 hP
    refine AW.seq_k fun K12 h12 => ?_
    all_goals refine AW.reg0 ?_
    all_goals (refine S.g rfl rfl fun K' k' => ?_; simp only [zz, reduceIte, Nat.reduceEqDiff, Nat.reduceAdd, e1, parV]; refine k' _ _ ?_; clear k' K')
    all_goals (refine S.g rfl rfl fun K' k' => ?_; simp only [zz, reduceIte, Nat.reduceEqDiff, Nat.reduceLT, Nat.reduceLeDiff, Nat.reduceAdd, reduceCtorEq, Nat.reduceMul, e1, parV]; refine PCalls.to (Parse_spec b hb hb256) fun v hv => ?_; have hokq := hv.2; obtain rfl := hv.1.trans (congrArg parV hP) <;> (refine k' _ _ ?_; clear k' K'))
    all_goals iterate 6 (refine S.g rfl rfl fun K' k' => ?_; simp only [zz, reduceIte, Nat.reduceEqDiff, Nat.reduceLT, Nat.reduceLeDiff, Nat.reduceAdd, reduceCtorEq, Nat.reduceMul, zt24, ok24, sz24, ag24, e1, parV]; refine k' _ _ ?_; clear k' K')
    all_goals refine S.nil ?_
    all_goals simp only [ze, reduceIte, Nat.reduceEqDiff, Nat.reduceLT, Nat.reduceLeDiff, Nat.reduceAdd, reduceCtorEq, Nat.reduceMul, e1, parV]
    all_goals apply_assumption
    have hq := hokq q hP
    have hbq : bytesP q = b := by rw [bytesP, if_pos hqe, hqb]
    refine AW.seq_k fun K13 h13 => ?_
    refine AW.seq_k fun K14 h14 => ?_
    all_goals refine AW.reg0 ?_
    all_goals iterate 2 (refine S.g rfl rfl fun K' k' => ?_; simp only [zz, reduceIte, Nat.reduceEqDiff, Nat.reduceAdd]; refine k' _ _ ?_; clear k' K')
    all_goals refine S.nil ?_
    all_goals simp only [ze, reduceIte, Nat.reduceEqDiff, Nat.reduceLT, Nat.reduceLeDiff, Nat.reduceAdd, reduceCtorEq, Nat.reduceMul]
    all_goals apply_assumption
    refine AW.cond (b := false) (by simp [ev]) (fun hc => by cases hc) (fun hc => ?_)
    refine AW.skip ?_
    all_goals simp only [zs, reduceIte, Nat.reduceEqDiff, Nat.reduceLT, Nat.reduceLeDiff, Nat.reduceAdd, reduceCtorEq, Nat.reduceMul]
    all_goals apply_assumption
    refine AW.seq_k fun K15 h15 => ?_
    all_goals refine AW.reg0 ?_
    all_goals (refine S.g rfl rfl fun K' k' => ?_; simp only [zz, reduceIte, Nat.reduceEqDiff, Nat.reduceLT, Nat.reduceLeDiff, Nat.reduceAdd, reduceCtorEq, Nat.reduceMul, ok24, sz24, ag24, hbq, hqe]; refine k' _ _ ?_; clear k' K')
    all_goals (refine S.g rfl rfl fun K' k' => ?_; simp only [zz, reduceIte, Nat.reduceEqDiff, Nat.reduceLT, Nat.reduceLeDiff, Nat.reduceAdd, reduceCtorEq, Nat.reduceMul, hbq, hqe]; refine PCalls.eqto (Bytes_spec q hq hnq) ?_ <;> (refine k' _ _ ?_; clear k' K'))
    all_goals iterate 5 (refine S.g rfl rfl fun K' k' => ?_; simp only [zz, reduceIte, Nat.reduceEqDiff, Nat.reduceLT, Nat.reduceLeDiff, Nat.reduceAdd, reduceCtorEq, Nat.reduceMul, hbq, hqe]; refine k' _ _ ?_; clear k' K')
    all_goals refine S.nil ?_
    all_goals simp only [ze, reduceIte, Nat.reduceEqDiff, Nat.reduceLT, Nat.reduceLeDiff, Nat.reduceAdd, reduceCtorEq, Nat.reduceMul, hbq, hqe]
    all_goals apply_assumption
    refine AW.seq_k fun K16 h16 => ?_
    all_goals refine AW.reg0 ?_
    all_goals (refine S.g rfl rfl fun K' k' => ?_; simp only [zz, reduceIte, Nat.reduceEqDiff, Nat.reduceAdd, e1]; refine k' _ _ ?_; clear k' K')
    all_goals (refine S.g rfl rfl fun K' k' => ?_; simp only [zz, reduceIte, Nat.reduceEqDiff, Nat.reduceLT, Nat.reduceLeDiff, Nat.reduceAdd, reduceCtorEq, Nat.reduceMul, e1]; refine S.bool fun b a55 => ?_; cases b <;> (try (exfalso; first | exact Bool.noConfusion a55 | (have h := of_decide_eq_true a55; omega) | (have h := of_decide_eq_false a55; omega))) <;> (refine k' _ _ ?_; clear k' K'))
    all_goals (refine S.g rfl rfl fun K' k' => ?_; simp only [zz, reduceIte, Nat.reduceEqDiff, Nat.reduceAdd, e1]; refine k' _ _ ?_; clear k' K')
    all_goals iterate 2 (first | (refine S.y rfl rfl rfl rfl fun K' k' => ?_; simp only [zz, reduceIte, Nat.reduceEqDiff, Nat.reduceAdd, e1]; refine k' _ _ ?_; clear k' K') | ((first | refine S.x rfl rfl rfl rfl fun K' k' => ?_ | refine S.u rfl rfl rfl rfl fun K' k' => ?_); simp only [ze, reduceIte, Nat.reduceEqDiff]; refine k' _ _ ?_; clear k' K'))
    all_goals (first | (refine S.y rfl rfl rfl rfl fun K' k' => ?_; simp only [zz, reduceIte, Nat.reduceEqDiff, Nat.reduceLT, Nat.reduceLeDiff, Nat.reduceAdd, reduceCtorEq, Nat.reduceMul, e1]; refine PCalls.eqto (equal_b b hb256) ?_ <;> (refine k' _ _ ?_; clear k' K')) | ((first | refine S.x rfl rfl rfl rfl fun K' k' => ?_ | refine S.u rfl rfl rfl rfl fun K' k' => ?_); simp only [ze, reduceIte, Nat.reduceEqDiff]; refine k' _ _ ?_; clear k' K'))
    all_goals iterate 2 (refine S.g rfl rfl fun K' k' => ?_; simp only [zz, reduceIte, Nat.reduceEqDiff, Nat.reduceAdd, e1]; refine k' _ _ ?_; clear k' K')
    all_goals refine S.nil ?_
    all_goals simp only [ze, reduceIte, Nat.reduceEqDiff, Nat.reduceLT, Nat.reduceLeDiff, Nat.reduceAdd, reduceCtorEq, Nat.reduceMul, e1]
    all_goals apply_assumption
    refine AW.bare (AW.ret ?_)
    all_goals simp only [zs, reduceIte, Nat.reduceEqDiff, Nat.reduceLT, Nat.reduceLeDiff, Nat.reduceAdd, reduceCtorEq, Nat.reduceMul]
end Go.Abs.M
namespace Go.Abs.M
open Go Go.Abs Go.Proofs
set_option linter.unusedSimpArgs false
set_option maxRecDepth 20000
theorem attr_num {n : Nat} {a : Attr} (h : Fit Try.prog n 143 (encAttr a)) : inI64 a.v.n := by
  obtain ⟨_, m, _, hf⟩ := h.st Try.underlying143
  have h1 : Fit Try.prog m 141 (((encAttr a).drop 1).take (Try.prog.cellsOf 141)) := hf 1 _ rfl
  rw [co141] at h1
  obtain ⟨_, m', _, hg⟩ := h1.st Try.underlying141
  have h2 : Fit Try.prog m' 2 (((((encAttr a).drop 1).take 3).drop 1).take (Try.prog.cellsOf 2)) := hg 1 _ rfl
  rw [co2] at h2
  obtain ⟨x, hx, hw⟩ := h2.int Try.underlying2
  simp [encAttr] at hx
  rw [hx]; exact inI64_of hw
theorem bd_num {n : Nat} {b : Bd} (h : Fit Try.prog n 42 (encBd b)) : ∀ a ∈ b.ev.attrs, inI64 a.v.n := by
  obtain ⟨_, m, _, hf⟩ := h.st Try.underlying42
  have h1 : Fit Try.prog m 36 (((encBd b).drop 1).take (Try.prog.cellsOf 36)) := hf 1 _ rfl
  have h2 : ((encBd b).drop 1).take (Try.prog.cellsOf 36) = encEv b.ev := by rw [co36]; rfl
  rw [h2] at h1
  obtain ⟨_, m', _, hg⟩ := h1.st Try.underlying36
  have h3 : Fit Try.prog m' 34 (((encEv b.ev).drop 4).take (Try.prog.cellsOf 34)) := hg 3 _ rfl
  have h4 : ((encEv b.ev).drop 4).take (Try.prog.cellsOf 34) = [.sl (b.ev.attrs.map encAttr)] := by rw [co34]; rfl
  rw [h4] at h3
  obtain ⟨es, e4, hes, k, _, hk⟩ := h3.sl Try.underlying34
  simp only [List.cons.injEq, V.sl.injEq, and_true] at e4
  subst e4
  exact fun a ha => attr_num (hk _ (List.mem_map.2 ⟨a, ha, rfl⟩)).2
theorem part_num {n : Nat} {l : List Bd} (h : Fit Try.prog n 24 [.sl (l.map encBd)]) : inA l := by
  obtain ⟨_, m, _, hf⟩ := h.st Try.underlying24
  have h0 : Fit Try.prog m 22 (([V.sl (l.map encBd)].drop 0).take (Try.prog.cellsOf 22)) := hf 0 _ rfl
  simp only [co22, List.drop_zero, List.take_succ_cons, List.take_zero, List.drop_succ_cons] at h0
  obtain ⟨es, e4, hes, k, _, hk⟩ := h0.sl Try.underlying22
  simp only [List.cons.injEq, V.sl.injEq, and_true] at e4
  subst e4
  exact fun b hb => bd_num (hk _ (List.mem_map.2 ⟨b, hb, rfl⟩)).2
structure okN (l : List Bd) : Prop where
  i : okI l
  n : inA l
theorem arg_partN {H : Type} {enc : TypeId × Value → H} {W : World} {base : Nat} {v : Value} {d : DataW H} {ps : List MemPlace} (hval : Value.okWide Try.prog W .any base 24 v)
    (h : DataW.Trod enc Try.prog W 0 (fun _ => true) true 24 v d ps) (hw : ∀ n ∈ d.weights Try.prog 24, n ≤ reachBytes) : ∃ l : List Bd, VR W (cx0 W) (.agg [.sl (l.map encBd)]) v ∧ okN l := by
  have hm : (24 : TypeId) ∈ plainTs := by unfold plainTs; exact List.mem_cons_self
  obtain ⟨n, us, h1, h2⟩ := open_arg (P := Try.prog) (t := 24) plainTs plain_ok hm h hw
  have hsh : ∃ cs, v = .agg cs ∧ cs.size = 1 := by
    obtain ⟨cs, h3, h4⟩ := okWide_agg Try.underlying24 hval
    exact ⟨cs, h3, by rw [h4]; exact co24⟩
  obtain ⟨cs, rfl, hcs⟩ := hsh
  have hl : us.length = 1 := by rw [h1.1]; simpa [Value.cells] using hcs
  obtain ⟨l, rfl, hok⟩ := open_part hl h2
  exact ⟨l, VR.of_row h1, hok, part_num h2⟩
end Go.Abs.M
namespace Go.Abs.M
open Go Go.Abs Go.Proofs
set_option linter.unusedSimpArgs false
theorem law_backN (l : List Bd) (b : List Nat) (hl : okN l) (hb : (∀ x ∈ b, x < 256) ∧ b.length ≤ reachBytes) : PCalls Try.prog 10 [.agg [.sl (l.map encBd)], .sl (b.map encB)] (fun v => v = .c (.bool true)) :=
  law_back l b hl.i.ok hl.n (Nat.lt_of_le_of_lt hb.2 (by decide)) hb.1
end Go.Abs.M
