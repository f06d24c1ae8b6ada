import Derived.Test.YtmhamgllanihoaaRde
namespace Go.Abs.M
open Go Go.Abs Go.Proofs
set_option maxRecDepth 20000
set_option linter.unusedSimpArgs false
set_option linter.unusedVariables false
/-- What a reading leaves: the thing, or what is wrong and anything. -/
def Rd {α : Type} (g : Nat) (l : List Bool) (σ : Hp) (enc : α → V) (p : Except Int (α × Nat)) (v : V) (σ' : Hp) : Prop :=
  match p with
  | .ok (a, c) => v = .tup [enc a, .c (.int .i64 0)] ∧ σ'.obj g = some (rsC (l.drop c)) ∧ Fr g σ σ'
  | .error e => ∃ a l', v = .tup [enc a, .c (.int .i64 e)] ∧ e ≠ 0 ∧ σ'.obj g = some (rsC l') ∧ Fr g σ σ'
theorem Rd.err {α : Type} {g : Nat} {l l' : List Bool} {σ σ' : Hp} {enc : α → V} {p : Except Int (α × Nat)} {v : V} {e : Int} (a : α) (hp : p = .error e) (hv : v = .tup [enc a, .c (.int .i64 e)]) (he : e ≠ 0) (ho : σ'.obj g = some (rsC l')) (hf : Fr g σ σ') : Rd g l σ enc p v σ' := by
  subst hp; exact ⟨a, l', hv, he, ho, hf⟩
theorem Rd.okk {α : Type} {g : Nat} {l : List Bool} {σ σ' : Hp} {enc : α → V} {p : Except Int (α × Nat)} {v : V} (a : α) (c : Nat) (hp : p = .ok (a, c)) (hv : v = .tup [enc a, .c (.int .i64 0)]) (ho : σ'.obj g = some (rsC (l.drop c))) (hf : Fr g σ σ') : Rd g l σ enc p v σ' := by
  subst hp; exact ⟨hv, ho, hf⟩
theorem textP_err {l : List Bool} {e : Int} (h : textP l = .error e) : e ≠ 0 := by
  unfold textP at h
  cases hN : natP l with
  | error d => rw [hN] at h; injection h with h; subst h; exact natP_err hN
  | ok x =>
    obtain ⟨u, c⟩ := x
    rw [hN] at h
    simp only [] at h
    split at h
    · injection h with h; omega
    · cases h
theorem numP_err {l : List Bool} {e : Int} (h : numP l = .error e) : e ≠ 0 := by
  unfold numP at h
  cases hN : natP l with
  | error d => rw [hN] at h; injection h with h; subst h; exact natP_err hN
  | ok x => obtain ⟨u, c⟩ := x; rw [hN] at h; cases h
theorem bind_ok {α β : Type} {p : Prs α} {f : α → Prs β} {l : List Bool} {a : α} {c : Nat} (h : p l = .ok (a, c)) : Prs.bind p f l = (match f a (l.drop c) with | .error e => .error e | .ok (b, c2) => .ok (b, c + c2)) := by unfold Prs.bind; rw [h]; rfl
theorem bind_err {α β : Type} {p : Prs α} {f : α → Prs β} {l : List Bool} {e : Int} (h : p l = .error e) : Prs.bind p f l = .error e := by unfold Prs.bind; rw [h]
theorem bitsP_ok {n : Nat} {l : List Bool} (h : n ≤ l.length) : bitsP n l = .ok (valN (l.take n), n) := if_pos h
theorem bitsP_err {n : Nat} {l : List Bool} (h : ¬ n ≤ l.length) : bitsP n l = .error 10 := if_neg h
theorem eqI (u : Nat) (k : Nat) : ((u : Int) == (k : Int)) = decide (u = k) := by rw [Bool.eq_iff_iff]; simp; omega
theorem tk2 (l : List Bool) (n : Nat) : valN (l.take n) < 2 ^ n := Nat.lt_of_lt_of_le (valN_lt _) (Nat.pow_le_pow_right (by omega) (by rw [List.length_take]; omega))
theorem rvalue_spec (g : Nat) (l : List Bool) (σ : Hp) (ho : σ.obj g = some (rsC l)) (hl : l.length < 1099511627776) :
    ACalls Try.prog 158 [ptrV g] σ (Rd g l σ (fun v => .agg (encVal v)) (valP l)) := by
  refine ACalls.intro Try.call158 Try.func158 rfl Try.ntmps158 Try.results158 (by simp) ?_
  by_cases htwo : 2 ≤ l.length
  · have hP : valP l = _ := bind_ok (bitsP_ok htwo)
    have hk := tk2 l 2
    have hk1 : (((valN (l.take 2) : Nat) : Int) == 1) = _ := eqI (valN (l.take 2)) 1
    have hk2 : (((valN (l.take 2) : Nat) : Int) == 2) = _ := eqI (valN (l.take 2)) 2
    refine AW.seq_k fun K1 h1 => ?_
    all_goals refine AW.reg0 ?_
    all_goals iterate 2 (refine S.g rfl rfl fun K' k' => ?_; simp only [zz, reduceIte, Nat.reduceEqDiff, Nat.reduceLT, Nat.reduceLeDiff, Nat.reduceAdd, reduceCtorEq, Nat.reduceMul, zt141]; refine k' _ _ ?_; clear k' K')
    all_goals refine S.nil ?_
    all_goals simp only [ze, reduceIte, Nat.reduceEqDiff, Nat.reduceLT, Nat.reduceLeDiff, Nat.reduceAdd, reduceCtorEq, Nat.reduceMul]
    all_goals apply_assumption
    refine AW.seq_k fun K2 h2 => ?_
    all_goals refine AW.reg0 ?_
    all_goals (refine S.g rfl rfl fun K' k' => ?_; simp only [zz, reduceIte, Nat.reduceEqDiff, Nat.reduceAdd, pw, Nat.reduceLT, Nat.reduceLeDiff]; refine k' _ _ ?_; clear k' K')
    all_goals (refine S.g rfl rfl fun K' k' => ?_; simp only [zz, reduceIte, Nat.reduceEqDiff, Nat.reduceLT, Nat.reduceLeDiff, Nat.reduceAdd, reduceCtorEq, Nat.reduceMul, pw, Nat.reduceLT, Nat.reduceLeDiff]; refine (rBits_spec g l 2 _ ho hl (by omega)).to fun v σ2 hv => ?_; (first | rw [if_pos htwo] at hv | rw [if_neg htwo] at hv); obtain ⟨rfl, hσ⟩ := hv <;> (refine k' _ _ ?_; clear k' K'))
    all_goals iterate 5 (refine S.g rfl rfl fun K' k' => ?_; simp only [zz, reduceIte, Nat.reduceEqDiff, Nat.reduceLT, Nat.reduceLeDiff, Nat.reduceAdd, reduceCtorEq, Nat.reduceMul, pw, Nat.reduceLT, Nat.reduceLeDiff]; refine k' _ _ ?_; clear k' K')
    all_goals refine S.nil ?_
    all_goals simp only [ze, reduceIte, Nat.reduceEqDiff, Nat.reduceLT, Nat.reduceLeDiff, Nat.reduceAdd, reduceCtorEq, Nat.reduceMul, pw, Nat.reduceLT, Nat.reduceLeDiff]
    all_goals apply_assumption
    generalize valN (l.take 2) = k at *
    have ho2 : σ2.obj g = some (rsC (l.drop 2)) := by rw [hσ]; simp
    have hl2 : (l.drop 2).length < 1099511627776 := by rw [List.length_drop]; omega
    have hf2 : Fr g σ σ2 := by rw [hσ]; exact Fr.rs ho
    refine AW.seq_k fun K3 h3 => ?_
    refine AW.seq_k fun K4 h4 => ?_
    all_goals refine AW.reg0 ?_
    all_goals iterate 2 (refine S.g rfl rfl fun K' k' => ?_; simp only [zz, reduceIte, Nat.reduceEqDiff, Nat.reduceAdd]; refine k' _ _ ?_; clear k' K')
    all_goals refine S.nil ?_
    all_goals simp only [ze, reduceIte, Nat.reduceEqDiff, Nat.reduceLT, Nat.reduceLeDiff, Nat.reduceAdd, reduceCtorEq, Nat.reduceMul]
    all_goals apply_assumption
    refine AW.cond (b := false) (by simp [ev]) (fun hc => by cases hc) (fun hc => ?_)
    refine AW.skip ?_
    all_goals simp only [zs, reduceIte, Nat.reduceEqDiff, Nat.reduceLT, Nat.reduceLeDiff, Nat.reduceAdd, reduceCtorEq, Nat.reduceMul]
    all_goals apply_assumption
    refine AW.seq_k fun K5 h5 => ?_
    refine AW.seq_k fun K6 h6 => ?_
    all_goals refine AW.reg0 ?_
    all_goals (refine S.g rfl rfl fun K' k' => ?_; simp only [zz, reduceIte, Nat.reduceEqDiff, Nat.reduceAdd]; refine k' _ _ ?_; clear k' K')
    all_goals refine S.nil ?_
    all_goals simp only [ze, reduceIte, Nat.reduceEqDiff, Nat.reduceLT, Nat.reduceLeDiff, Nat.reduceAdd, reduceCtorEq, Nat.reduceMul]
    all_goals apply_assumption
    refine AW.block ?_   -- 0
    refine AW.seq_k fun K7 h7 => ?_
    all_goals refine AW.reg0 ?_
    all_goals iterate 2 (refine S.g rfl rfl fun K' k' => ?_; simp only [zz, reduceIte, Nat.reduceEqDiff, Nat.reduceAdd, hk1]; refine k' _ _ ?_; clear k' K')
    all_goals refine S.nil ?_
    all_goals simp only [ze, reduceIte, Nat.reduceEqDiff, Nat.reduceLT, Nat.reduceLeDiff, Nat.reduceAdd, reduceCtorEq, Nat.reduceMul, hk1]
    all_goals apply_assumption
    refine AW.cond (b := decide (k = 1)) (by simp [ev]) (fun hc => ?_) (fun hc => ?_)
    · have hc := of_decide_eq_true hc
      rw [if_pos hc] at hP
      rcases hN : numP (l.drop 2) with e | ⟨n, c⟩
      · have he := numP_err hN
        rw [bind_err hN] at hP
        refine AW.seq_k fun K8 h8 => ?_
        all_goals refine AW.reg0 ?_
        all_goals (refine S.g rfl rfl fun K' k' => ?_; simp only [zz, reduceIte, Nat.reduceEqDiff, Nat.reduceAdd, pw, Nat.reduceLT, Nat.reduceLeDiff]; refine k' _ _ ?_; clear k' K')
        all_goals (refine S.g rfl rfl fun K' k' => ?_; simp only [zz, reduceIte, Nat.reduceEqDiff, Nat.reduceLT, Nat.reduceLeDiff, Nat.reduceAdd, reduceCtorEq, Nat.reduceMul, pw, Nat.reduceLT, Nat.reduceLeDiff]; refine (rNum_spec g (l.drop 2) _ ho2 hl2).to fun v σ3 hv => ?_; simp only [hN] at hv; obtain ⟨rfl, hσ3⟩ := hv <;> (refine k' _ _ ?_; clear k' K'))
        all_goals iterate 5 (refine S.g rfl rfl fun K' k' => ?_; simp only [zz, reduceIte, Nat.reduceEqDiff, Nat.reduceLT, Nat.reduceLeDiff, Nat.reduceAdd, reduceCtorEq, Nat.reduceMul, pw, Nat.reduceLT, Nat.reduceLeDiff]; refine k' _ _ ?_; clear k' K')
        all_goals refine S.nil ?_
        all_goals simp only [ze, reduceIte, Nat.reduceEqDiff, Nat.reduceLT, Nat.reduceLeDiff, Nat.reduceAdd, reduceCtorEq, Nat.reduceMul, pw, Nat.reduceLT, Nat.reduceLeDiff]
        all_goals apply_assumption
        refine AW.seq_k fun K9 h9 => ?_
        all_goals refine AW.reg0 ?_
        all_goals (refine S.g rfl rfl fun K' k' => ?_; simp only [zz, reduceIte, Nat.reduceEqDiff, Nat.reduceAdd]; refine k' _ _ ?_; clear k' K')
        all_goals (refine S.g rfl rfl fun K' k' => ?_; simp only [zz, reduceIte, Nat.reduceEqDiff, Nat.reduceLT, Nat.reduceLeDiff, Nat.reduceAdd, reduceCtorEq, Nat.reduceMul, zt141, pl141]; refine k' _ _ ?_; clear k' K')
        all_goals iterate 3 (refine S.g rfl rfl fun K' k' => ?_; simp only [zz, reduceIte, Nat.reduceEqDiff, Nat.reduceLT, Nat.reduceLeDiff, Nat.reduceAdd, reduceCtorEq, Nat.reduceMul, ok141, sz141, ag141]; refine k' _ _ ?_; clear k' K')
        all_goals refine S.nil ?_
        all_goals simp only [ze, reduceIte, Nat.reduceEqDiff, Nat.reduceLT, Nat.reduceLeDiff, Nat.reduceAdd, reduceCtorEq, Nat.reduceMul]
        all_goals apply_assumption
        refine AW.ret ?_
        all_goals simp only [zs, reduceIte, Nat.reduceEqDiff, Nat.reduceLT, Nat.reduceLeDiff, Nat.reduceAdd, reduceCtorEq, Nat.reduceMul, ok141, sz141, ag141, cut, List.drop_zero, List.take_succ_cons, List.take_zero]
        all_goals simp only [zz, Bool.false_eq_true, if_true, reduceIte, not_false_eq_true, true_and]
        exact Rd.err ⟨1, 0, ⟨#[]⟩⟩ hP (by simp [wk, wk1, encVal]) he (by rw [hσ3]; exact ho2) (by rw [hσ3]; exact hf2)
      · rw [bind_ok hN] at hP
        refine AW.seq_k fun K10 h10 => ?_
        all_goals refine AW.reg0 ?_
        all_goals (refine S.g rfl rfl fun K' k' => ?_; simp only [zz, reduceIte, Nat.reduceEqDiff, Nat.reduceAdd, pw, Nat.reduceLT, Nat.reduceLeDiff]; refine k' _ _ ?_; clear k' K')
        all_goals (refine S.g rfl rfl fun K' k' => ?_; simp only [zz, reduceIte, Nat.reduceEqDiff, Nat.reduceLT, Nat.reduceLeDiff, Nat.reduceAdd, reduceCtorEq, Nat.reduceMul, pw, Nat.reduceLT, Nat.reduceLeDiff]; refine (rNum_spec g (l.drop 2) _ ho2 hl2).to fun v σ3 hv => ?_; simp only [hN] at hv; obtain ⟨rfl, hσ3⟩ := hv <;> (refine k' _ _ ?_; clear k' K'))
        all_goals iterate 5 (refine S.g rfl rfl fun K' k' => ?_; simp only [zz, reduceIte, Nat.reduceEqDiff, Nat.reduceLT, Nat.reduceLeDiff, Nat.reduceAdd, reduceCtorEq, Nat.reduceMul, pw, Nat.reduceLT, Nat.reduceLeDiff]; refine k' _ _ ?_; clear k' K')
        all_goals refine S.nil ?_
        all_goals simp only [ze, reduceIte, Nat.reduceEqDiff, Nat.reduceLT, Nat.reduceLeDiff, Nat.reduceAdd, reduceCtorEq, Nat.reduceMul, pw, Nat.reduceLT, Nat.reduceLeDiff]
        all_goals apply_assumption
        refine AW.seq_k fun K11 h11 => ?_
        all_goals refine AW.reg0 ?_
        all_goals (refine S.g rfl rfl fun K' k' => ?_; simp only [zz, reduceIte, Nat.reduceEqDiff, Nat.reduceAdd]; refine k' _ _ ?_; clear k' K')
        all_goals (refine S.g rfl rfl fun K' k' => ?_; simp only [zz, reduceIte, Nat.reduceEqDiff, Nat.reduceLT, Nat.reduceLeDiff, Nat.reduceAdd, reduceCtorEq, Nat.reduceMul, zt141, pl141]; refine k' _ _ ?_; clear k' K')
        all_goals iterate 3 (refine S.g rfl rfl fun K' k' => ?_; simp only [zz, reduceIte, Nat.reduceEqDiff, Nat.reduceLT, Nat.reduceLeDiff, Nat.reduceAdd, reduceCtorEq, Nat.reduceMul, ok141, sz141, ag141]; refine k' _ _ ?_; clear k' K')
        all_goals refine S.nil ?_
        all_goals simp only [ze, reduceIte, Nat.reduceEqDiff, Nat.reduceLT, Nat.reduceLeDiff, Nat.reduceAdd, reduceCtorEq, Nat.reduceMul]
        all_goals apply_assumption
        refine AW.ret ?_
        all_goals simp only [zs, reduceIte, Nat.reduceEqDiff, Nat.reduceLT, Nat.reduceLeDiff, Nat.reduceAdd, reduceCtorEq, Nat.reduceMul, ok141, sz141, ag141, cut, List.drop_zero, List.take_succ_cons, List.take_zero]
        all_goals simp only [zz, Bool.false_eq_true, if_true, reduceIte, not_false_eq_true, true_and]
        exact Rd.okk ⟨1, n, ⟨#[]⟩⟩ _ hP (by simp [wk, wk1, encVal]) (by rw [hσ3]; simp [List.drop_drop]) (by rw [hσ3]; exact hf2.trans (Fr.rs ho2))
    · have hc := of_decide_eq_false hc
      rw [if_neg hc] at hP
      refine AW.seq_k fun K12 h12 => ?_
      all_goals refine AW.reg0 ?_
      all_goals iterate 2 (refine S.g rfl rfl fun K' k' => ?_; simp only [zz, reduceIte, Nat.reduceEqDiff, Nat.reduceAdd, hk2]; refine k' _ _ ?_; clear k' K')
      all_goals refine S.nil ?_
      all_goals simp only [ze, reduceIte, Nat.reduceEqDiff, Nat.reduceLT, Nat.reduceLeDiff, Nat.reduceAdd, reduceCtorEq, Nat.reduceMul, hk2]
      all_goals apply_assumption
      refine AW.cond (b := decide (k = 2)) (by simp [ev]) (fun hd => ?_) (fun hd => ?_)
      · have hd := of_decide_eq_true hd
        rw [if_pos hd] at hP
        rcases hN : textP (l.drop 2) with e | ⟨t, c⟩
        · have he := textP_err hN
          rw [bind_err hN] at hP
          refine AW.seq_k fun K13 h13 => ?_
          all_goals refine AW.reg0 ?_
          all_goals (refine S.g rfl rfl fun K' k' => ?_; simp only [zz, reduceIte, Nat.reduceEqDiff, Nat.reduceAdd, pw, Nat.reduceLT, Nat.reduceLeDiff]; refine k' _ _ ?_; clear k' K')
          all_goals (refine S.g rfl rfl fun K' k' => ?_; simp only [zz, reduceIte, Nat.reduceEqDiff, Nat.reduceLT, Nat.reduceLeDiff, Nat.reduceAdd, reduceCtorEq, Nat.reduceMul, pw, Nat.reduceLT, Nat.reduceLeDiff]; refine (rText_spec g (l.drop 2) _ ho2 hl2).to fun v σ3 hv => ?_; simp only [hN] at hv; obtain ⟨rfl, ho3, hf3⟩ := hv <;> (refine k' _ _ ?_; clear k' K'))
          all_goals iterate 5 (refine S.g rfl rfl fun K' k' => ?_; simp only [zz, reduceIte, Nat.reduceEqDiff, Nat.reduceLT, Nat.reduceLeDiff, Nat.reduceAdd, reduceCtorEq, Nat.reduceMul, pw, Nat.reduceLT, Nat.reduceLeDiff]; refine k' _ _ ?_; clear k' K')
          all_goals refine S.nil ?_
          all_goals simp only [ze, reduceIte, Nat.reduceEqDiff, Nat.reduceLT, Nat.reduceLeDiff, Nat.reduceAdd, reduceCtorEq, Nat.reduceMul, pw, Nat.reduceLT, Nat.reduceLeDiff]
          all_goals apply_assumption
          refine AW.seq_k fun K14 h14 => ?_
          all_goals refine AW.reg0 ?_
          all_goals (refine S.g rfl rfl fun K' k' => ?_; simp only [zz, reduceIte, Nat.reduceEqDiff, Nat.reduceAdd]; refine k' _ _ ?_; clear k' K')
          all_goals (refine S.g rfl rfl fun K' k' => ?_; simp only [zz, reduceIte, Nat.reduceEqDiff, Nat.reduceLT, Nat.reduceLeDiff, Nat.reduceAdd, reduceCtorEq, Nat.reduceMul, zt141, pl141]; refine k' _ _ ?_; clear k' K')
          all_goals iterate 3 (refine S.g rfl rfl fun K' k' => ?_; simp only [zz, reduceIte, Nat.reduceEqDiff, Nat.reduceLT, Nat.reduceLeDiff, Nat.reduceAdd, reduceCtorEq, Nat.reduceMul, ok141, sz141, ag141]; refine k' _ _ ?_; clear k' K')
          all_goals refine S.nil ?_
          all_goals simp only [ze, reduceIte, Nat.reduceEqDiff, Nat.reduceLT, Nat.reduceLeDiff, Nat.reduceAdd, reduceCtorEq, Nat.reduceMul]
          all_goals apply_assumption
          refine AW.ret ?_
          all_goals simp only [zs, reduceIte, Nat.reduceEqDiff, Nat.reduceLT, Nat.reduceLeDiff, Nat.reduceAdd, reduceCtorEq, Nat.reduceMul, ok141, sz141, ag141, cut, List.drop_zero, List.take_succ_cons, List.take_zero]
          all_goals simp only [zz, Bool.false_eq_true, if_true, reduceIte, not_false_eq_true, true_and]
          exact Rd.err ⟨2, 0, ⟨#[]⟩⟩ hP (by simp [wk, wk1, encVal]) he ho3 (hf2.trans hf3)
        · rw [bind_ok hN] at hP
          refine AW.seq_k fun K15 h15 => ?_
          all_goals refine AW.reg0 ?_
          all_goals (refine S.g rfl rfl fun K' k' => ?_; simp only [zz, reduceIte, Nat.reduceEqDiff, Nat.reduceAdd, pw, Nat.reduceLT, Nat.reduceLeDiff]; refine k' _ _ ?_; clear k' K')
          all_goals (refine S.g rfl rfl fun K' k' => ?_; simp only [zz, reduceIte, Nat.reduceEqDiff, Nat.reduceLT, Nat.reduceLeDiff, Nat.reduceAdd, reduceCtorEq, Nat.reduceMul, pw, Nat.reduceLT, Nat.reduceLeDiff]; refine (rText_spec g (l.drop 2) _ ho2 hl2).to fun v σ3 hv => ?_; simp only [hN] at hv; obtain ⟨rfl, ho3, hf3⟩ := hv <;> (refine k' _ _ ?_; clear k' K'))
          all_goals iterate 5 (refine S.g rfl rfl fun K' k' => ?_; simp only [zz, reduceIte, Nat.reduceEqDiff, Nat.reduceLT, Nat.reduceLeDiff, Nat.reduceAdd, reduceCtorEq, Nat.reduceMul, pw, Nat.reduceLT, Nat.reduceLeDiff]; refine k' _ _ ?_; clear k' K')
          all_goals refine S.nil ?_
          all_goals simp only [ze, reduceIte, Nat.reduceEqDiff, Nat.reduceLT, Nat.reduceLeDiff, Nat.reduceAdd, reduceCtorEq, Nat.reduceMul, pw, Nat.reduceLT, Nat.reduceLeDiff]
          all_goals apply_assumption
          refine AW.seq_k fun K16 h16 => ?_
          all_goals refine AW.reg0 ?_
          all_goals (refine S.g rfl rfl fun K' k' => ?_; simp only [zz, reduceIte, Nat.reduceEqDiff, Nat.reduceAdd]; refine k' _ _ ?_; clear k' K')
          all_goals (refine S.g rfl rfl fun K' k' => ?_; simp only [zz, reduceIte, Nat.reduceEqDiff, Nat.reduceLT, Nat.reduceLeDiff, Nat.reduceAdd, reduceCtorEq, Nat.reduceMul, zt141, pl141]; refine k' _ _ ?_; clear k' K')
          all_goals iterate 3 (refine S.g rfl rfl fun K' k' => ?_; simp only [zz, reduceIte, Nat.reduceEqDiff, Nat.reduceLT, Nat.reduceLeDiff, Nat.reduceAdd, reduceCtorEq, Nat.reduceMul, ok141, sz141, ag141]; refine k' _ _ ?_; clear k' K')
          all_goals refine S.nil ?_
          all_goals simp only [ze, reduceIte, Nat.reduceEqDiff, Nat.reduceLT, Nat.reduceLeDiff, Nat.reduceAdd, reduceCtorEq, Nat.reduceMul]
          all_goals apply_assumption
          refine AW.ret ?_
          all_goals simp only [zs, reduceIte, Nat.reduceEqDiff, Nat.reduceLT, Nat.reduceLeDiff, Nat.reduceAdd, reduceCtorEq, Nat.reduceMul, ok141, sz141, ag141, cut, List.drop_zero, List.take_succ_cons, List.take_zero]
          all_goals simp only [zz, Bool.false_eq_true, if_true, reduceIte, not_false_eq_true, true_and]
          exact Rd.okk ⟨2, 0, strOf t⟩ _ hP (by simp [wk, wk1, encVal]) (by rw [ho3]; simp [List.drop_drop]) (hf2.trans hf3)
      · have hd := of_decide_eq_false hd
        rw [if_neg hd] at hP
        refine AW.skip ?_
        all_goals simp only [zs, reduceIte, Nat.reduceEqDiff, Nat.reduceLT, Nat.reduceLeDiff, Nat.reduceAdd, reduceCtorEq, Nat.reduceMul]
        all_goals apply_assumption
        refine AW.seq_k fun K17 h17 => ?_
        all_goals refine AW.reg0 ?_
        all_goals (refine S.g rfl rfl fun K' k' => ?_; simp only [zz, reduceIte, Nat.reduceEqDiff, Nat.reduceLT, Nat.reduceLeDiff, Nat.reduceAdd, reduceCtorEq, Nat.reduceMul, zt141, pl141]; refine k' _ _ ?_; clear k' K')
        all_goals iterate 2 (refine S.g rfl rfl fun K' k' => ?_; simp only [zz, reduceIte, Nat.reduceEqDiff, Nat.reduceLT, Nat.reduceLeDiff, Nat.reduceAdd, reduceCtorEq, Nat.reduceMul, ok141, sz141, ag141]; refine k' _ _ ?_; clear k' K')
        all_goals refine S.nil ?_
        all_goals simp only [ze, reduceIte, Nat.reduceEqDiff, Nat.reduceLT, Nat.reduceLeDiff, Nat.reduceAdd, reduceCtorEq, Nat.reduceMul]
        all_goals apply_assumption
        refine AW.ret ?_
        all_goals simp only [zs, reduceIte, Nat.reduceEqDiff, Nat.reduceLT, Nat.reduceLeDiff, Nat.reduceAdd, reduceCtorEq, Nat.reduceMul, ok141, sz141, ag141, cut, List.drop_zero, List.take_succ_cons, List.take_zero]
        all_goals simp only [zz, Bool.false_eq_true, if_true, reduceIte, not_false_eq_true, true_and]
        exact Rd.err ⟨0, 0, ⟨#[]⟩⟩ hP (by simp [wk, wk1, encVal]) (by decide) ho2 hf2
  · have hP : valP l = .error 10 := bind_err (bitsP_err htwo)
    refine AW.seq_k fun K18 h18 => ?_
    all_goals refine AW.reg0 ?_
    all_goals iterate 2 (refine S.g rfl rfl fun K' k' => ?_; simp only [zz, reduceIte, Nat.reduceEqDiff, Nat.reduceLT, Nat.reduceLeDiff, Nat.reduceAdd, reduceCtorEq, Nat.reduceMul, zt141]; refine k' _ _ ?_; clear k' K')
    all_goals refine S.nil ?_
    all_goals simp only [ze, reduceIte, Nat.reduceEqDiff, Nat.reduceLT, Nat.reduceLeDiff, Nat.reduceAdd, reduceCtorEq, Nat.reduceMul]
    all_goals apply_assumption
    refine AW.seq_k fun K19 h19 => ?_
    all_goals refine AW.reg0 ?_
    all_goals (refine S.g rfl rfl fun K' k' => ?_; simp only [zz, reduceIte, Nat.reduceEqDiff, Nat.reduceAdd, pw, Nat.reduceLT, Nat.reduceLeDiff]; refine k' _ _ ?_; clear k' K')
    all_goals (refine S.g rfl rfl fun K' k' => ?_; simp only [zz, reduceIte, Nat.reduceEqDiff, Nat.reduceLT, Nat.reduceLeDiff, Nat.reduceAdd, reduceCtorEq, Nat.reduceMul, pw, Nat.reduceLT, Nat.reduceLeDiff]; refine (rBits_spec g l 2 _ ho hl (by omega)).to fun v σ2 hv => ?_; (first | rw [if_pos htwo] at hv | rw [if_neg htwo] at hv); obtain ⟨rfl, hσ⟩ := hv <;> (refine k' _ _ ?_; clear k' K'))
    all_goals iterate 5 (refine S.g rfl rfl fun K' k' => ?_; simp only [zz, reduceIte, Nat.reduceEqDiff, Nat.reduceLT, Nat.reduceLeDiff, Nat.reduceAdd, reduceCtorEq, Nat.reduceMul, pw, Nat.reduceLT, Nat.reduceLeDiff]; refine k' _ _ ?_; clear k' K')
    all_goals refine S.nil ?_
    all_goals simp only [ze, reduceIte, Nat.reduceEqDiff, Nat.reduceLT, Nat.reduceLeDiff, Nat.reduceAdd, reduceCtorEq, Nat.reduceMul, pw, Nat.reduceLT, Nat.reduceLeDiff]
    all_goals apply_assumption
    subst hσ
    refine AW.seq_k fun K20 h20 => ?_
    refine AW.seq_k fun K21 h21 => ?_
    all_goals refine AW.reg0 ?_
    all_goals iterate 2 (refine S.g rfl rfl fun K' k' => ?_; simp only [zz, reduceIte, Nat.reduceEqDiff, Nat.reduceAdd]; refine k' _ _ ?_; clear k' K')
    all_goals refine S.nil ?_
    all_goals simp only [ze, reduceIte, Nat.reduceEqDiff, Nat.reduceLT, Nat.reduceLeDiff, Nat.reduceAdd, reduceCtorEq, Nat.reduceMul]
    all_goals apply_assumption
    refine AW.cond (b := true) (by simp [ev]) (fun hc => ?_) (fun hc => by cases hc)
    refine AW.seq_k fun K22 h22 => ?_
    all_goals refine AW.reg0 ?_
    all_goals (refine S.g rfl rfl fun K' k' => ?_; simp only [zz, reduceIte, Nat.reduceEqDiff, Nat.reduceLT, Nat.reduceLeDiff, Nat.reduceAdd, reduceCtorEq, Nat.reduceMul, zt141, pl141]; refine k' _ _ ?_; clear k' K')
    all_goals iterate 3 (refine S.g rfl rfl fun K' k' => ?_; simp only [zz, reduceIte, Nat.reduceEqDiff, Nat.reduceLT, Nat.reduceLeDiff, Nat.reduceAdd, reduceCtorEq, Nat.reduceMul, ok141, sz141, ag141]; refine k' _ _ ?_; clear k' K')
    all_goals refine S.nil ?_
    all_goals simp only [ze, reduceIte, Nat.reduceEqDiff, Nat.reduceLT, Nat.reduceLeDiff, Nat.reduceAdd, reduceCtorEq, Nat.reduceMul]
    all_goals apply_assumption
    refine AW.ret ?_
    all_goals simp only [zs, reduceIte, Nat.reduceEqDiff, Nat.reduceLT, Nat.reduceLeDiff, Nat.reduceAdd, reduceCtorEq, Nat.reduceMul, ok141, sz141, ag141, cut, List.drop_zero, List.take_succ_cons, List.take_zero]
    all_goals simp only [zz, Bool.false_eq_true, if_true, reduceIte, not_false_eq_true, true_and]
    exact Rd.err ⟨0, 0, ⟨#[]⟩⟩ hP (by simp [wk, wk1, encVal]) (by decide) ho (Fr.refl _ _)
end Go.Abs.M
namespace Go.Abs.M
open Go Go.Abs Go.Proofs
set_option maxRecDepth 20000
set_option linter.unusedSimpArgs false
set_option linter.unusedVariables false
def At {β : Type} (b : List Nat) (q : Nat) (e : Int) (p : Prs β) : Except Int (β × Nat) :=
  if e = 0 then (match p ((unB b).drop q) with | .ok (x, c) => .ok (x, q + c) | .error d => .error d) else .error e
def Lnk {α : Type} (b : List Nat) (q : Nat) (e : Int) (p : Prs α) (a : α) (q' : Nat) (e' : Int) : Prop := (e' = 0 ∧ At b q e p = .ok (a, q')) ∨ (e' ≠ 0 ∧ At b q e p = .error e')
theorem At_err {β : Type} {b : List Nat} {q : Nat} {e : Int} {p : Prs β} (h : e ≠ 0) : At b q e p = .error e := if_neg h
theorem At_bind {α β : Type} {b : List Nat} {q : Nat} {e : Int} {p : Prs α} {f : α → Prs β} : At b q e (Prs.bind p f) = match At b q e p with | .ok (a, q') => At b q' 0 (f a) | .error d => .error d := by
  unfold At
  by_cases he : e = 0
  · rw [if_pos he, if_pos he]
    unfold Prs.bind
    cases p ((unB b).drop q) with
    | error d => rfl
    | ok x =>
      obtain ⟨a, c⟩ := x
      simp only [if_true, List.drop_drop]
      cases f a ((unB b).drop (q + c)) with
      | error d => rfl
      | ok y => simp only [Nat.add_assoc]
  · rw [if_neg he, if_neg he]
theorem Lnk.next {α β : Type} {b : List Nat} {q q' : Nat} {e e' : Int} {p : Prs α} {a : α} (h : Lnk b q e p a q' e') (f : α → Prs β) : At b q e (Prs.bind p f) = At b q' e' (f a) := by
  rw [At_bind]
  rcases h with ⟨h1, h2⟩ | ⟨h1, h2⟩
  · rw [h2, h1]
  · rw [h2, At_err h1]
theorem At_ret {α : Type} {b : List Nat} {q : Nat} {e : Int} {a : α} : At b q e (Prs.ret a) = if e = 0 then .ok (a, q) else .error e := rfl
theorem Lnk.of {α : Type} {b : List Nat} {q q' : Nat} {e e' : Int} {p : Prs α} {a : α} (h : At b q e p = At b q' e' (Prs.ret a)) : Lnk b q e p a q' e' := by
  unfold Lnk
  rw [h, At_ret]
  by_cases he : e' = 0
  · exact .inl ⟨he, if_pos he⟩
  · exact .inr ⟨he, if_neg he⟩
theorem Lnk.no {α : Type} {b : List Nat} {q q' : Nat} {e e' : Int} {p : Prs α} (a : α) (he : e' ≠ 0) (h : At b q e p = .error e') : Lnk b q e p a q' e' := .inr ⟨he, h⟩
theorem bind_assoc {α β γ : Type} (p : Prs α) (f : α → Prs β) (h : β → Prs γ) : Prs.bind (Prs.bind p f) h = Prs.bind p fun a => Prs.bind (f a) h := by
  funext l
  unfold Prs.bind
  cases p l with
  | error d => rfl
  | ok x =>
    obtain ⟨a, c⟩ := x
    simp only []
    cases f a (l.drop c) with
    | error d => rfl
    | ok y =>
      obtain ⟨y, c2⟩ := y
      simp only [List.drop_drop]
      cases h y (l.drop (c + c2)) with
      | error d => rfl
      | ok z => simp only [Nat.add_assoc]
theorem ret_bind {α β : Type} (a : α) (f : α → Prs β) : Prs.bind (Prs.ret a) f = f a := by
  funext l
  unfold Prs.bind Prs.ret
  simp only [List.drop_zero, Nat.zero_add]
  cases f a l with
  | error d => rfl
  | ok z => rfl
theorem err_bind {α β : Type} (e : Int) (f : α → Prs β) : Prs.bind (Prs.err e) f = Prs.err e := by
  funext l; rfl
/-- Where the reader stands. -/
structure RS (g r : Nat) (b : List Nat) (q : Nat) (e : Int) (σ : Hp) : Prop where
  ne : g ≠ r
  src : σ.obj g = some (srcC b q)
  rd : σ.obj r = some [ptrV g, .c (.int .i64 e)]
  le : q ≤ 8 * b.length
/-- What else there is stays. -/
structure Fr2 (g r : Nat) (σ σ' : Hp) : Prop where
  obj : ∀ x c, x ≠ g → x ≠ r → σ.obj x = some c → σ'.obj x = some c
  gr : ∀ k x, σ.gr k = some x → σ'.gr k = some x
theorem Fr2.refl (g r : Nat) (σ : Hp) : Fr2 g r σ σ := ⟨fun _ _ _ _ h => h, fun _ _ h => h⟩
theorem Fr2.trans {g r : Nat} {a b c : Hp} (h : Fr2 g r a b) (k : Fr2 g r b c) : Fr2 g r a c :=
  ⟨fun x d hx hy hd => k.obj x d hx hy (h.obj x d hx hy hd), fun n x hx => k.gr n x (h.gr n x hx)⟩
theorem skN_src {g q : Nat} {b : List Nat} {σ : Hp} (h : σ.obj g = some (srcC b q)) : skN g σ = none := by unfold skN; rw [h]; rfl
theorem Fr.two {g r q : Nat} {b : List Nat} {σ σ' : Hp} (h : Fr g σ σ') (hs : σ.obj g = some (srcC b q)) : Fr2 g r σ σ' :=
  ⟨fun x c hx _ hc => h.obj x c hx hc, fun k x hk => (h.gr k x hk (by rw [skN_src hs]; simp)).1⟩
theorem Fr2.set {g r : Nat} {σ : Hp} {x : Option (List V)} : Fr2 g r σ (σ.setObj r x) :=
  ⟨fun y c hx hy hc => by simp [hy, hc], fun k x hk => by simp [hk]⟩
theorem Fr2.setg {g r : Nat} {σ : Hp} {x : Option (List V)} : Fr2 g r σ (σ.setObj g x) :=
  ⟨fun y c hx hy hc => by simp [hx, hc], fun k x hk => by simp [hk]⟩
theorem RS.set {g r q : Nat} {b : List Nat} {e : Int} {σ : Hp} (h : RS g r b q e σ) (e' : Int) : RS g r b q e' (σ.setObj r (some [ptrV g, .c (.int .i64 e')])) :=
  ⟨h.ne, by simp [h.ne, h.src], by simp, h.le⟩
theorem RS.setg {g r q q' : Nat} {b : List Nat} {e : Int} {σ : Hp} (h : RS g r b q e σ) (hq : q' ≤ 8 * b.length) : RS g r b q' e (σ.setObj g (some (srcC b q'))) :=
  ⟨h.ne, by simp, by simp [h.ne.symm, h.rd], hq⟩
/-- What a reading does. -/
def Stp {α : Type} (g r : Nat) (b : List Nat) (q : Nat) (e : Int) (p : Prs α) (enc : α → V) (good : α → Prop) (σ : Hp) (v : V) (σ' : Hp) : Prop :=
  ∃ a q' e', v = enc a ∧ good a ∧ RS g r b q' e' σ' ∧ Fr2 g r σ σ' ∧ Lnk b q e p a q' e'
theorem map2 (a b : V) : isMap [a, b] = false := by cases a <;> rfl
theorem keep_spec (g r : Nat) (b : List Nat) (q : Nat) (e e2 : Int) (σ : Hp) (hs : RS g r b q e σ) :
    ACalls Try.prog 156 [ptrV r, .c (.int .i64 e2)] σ (fun v σ' => v = .tup [] ∧ RS g r b q (if e = 0 then e2 else e) σ' ∧ Fr2 g r σ σ') := by
  refine ACalls.intro Try.call156 Try.func156 rfl Try.ntmps156 Try.results156 (by simp) ?_
  have hr := hs.rd
  have he : (e == 0) = decide (e = 0) := by rw [Bool.eq_iff_iff]; simp
  refine AW.seq_k fun K1 h1 => ?_
  all_goals refine AW.reg0 ?_
  all_goals iterate 5 (refine S.g rfl rfl fun K' k' => ?_; simp only [zz, reduceIte, Nat.reduceEqDiff, Nat.reduceLT, Nat.reduceLeDiff, Nat.reduceAdd, reduceCtorEq, Nat.reduceMul, of170_1, ok29, sz29, ag29, ptrV, hr, map2, he, List.getD_cons_succ, List.getD_cons_zero]; refine k' _ _ ?_; clear k' K')
  all_goals refine S.nil ?_
  all_goals simp only [ze, reduceIte, Nat.reduceEqDiff, Nat.reduceLT, Nat.reduceLeDiff, Nat.reduceAdd, reduceCtorEq, Nat.reduceMul, ptrV, hr, map2, he, List.getD_cons_succ, List.getD_cons_zero]
  all_goals apply_assumption
  refine AW.cond (b := decide (e = 0)) (by simp [ev]) (fun hc => ?_) (fun hc => ?_)
  · have hc := of_decide_eq_true hc
    all_goals refine AW.reg0 ?_
    all_goals iterate 5 (refine S.g rfl rfl fun K' k' => ?_; simp only [zz, reduceIte, Nat.reduceEqDiff, Nat.reduceLT, Nat.reduceLeDiff, Nat.reduceAdd, reduceCtorEq, Nat.reduceMul, of170_1, ok29, sz29, ag29, ptrV, hr, map2, List.getD_cons_succ, List.getD_cons_zero]; refine k' _ _ ?_; clear k' K')
    all_goals refine S.nil ?_
    all_goals simp only [ze, reduceIte, Nat.reduceEqDiff, Nat.reduceLT, Nat.reduceLeDiff, Nat.reduceAdd, reduceCtorEq, Nat.reduceMul, ptrV, hr, map2, List.getD_cons_succ, List.getD_cons_zero]
    rw [if_pos hc]
    exact ⟨rfl, hs.set e2, Fr2.set⟩
  · have hc := of_decide_eq_false hc
    refine AW.skip ?_
    all_goals simp only [zs, reduceIte, Nat.reduceEqDiff, Nat.reduceLT, Nat.reduceLeDiff, Nat.reduceAdd, reduceCtorEq, Nat.reduceMul]
    rw [if_neg hc]
    exact ⟨rfl, hs, Fr2.refl _ _ _⟩
theorem At_bits {b : List Nat} {q n : Nat} (hq : q ≤ 8 * b.length) : At b q 0 (bitsP n) = if q + n ≤ 8 * b.length then .ok (bitsV b q n, q + n) else .error 10 := by
  unfold At bitsP
  rw [if_pos rfl, List.length_drop, unB_len]
  by_cases h : q + n ≤ 8 * b.length
  · rw [if_pos h, if_pos (by omega)]; rfl
  · rw [if_neg h, if_neg (by omega)]
theorem rdBits_spec (g r : Nat) (b : List Nat) (q n : Nat) (e : Int) (σ : Hp) (hs : RS g r b q e σ) (hb : b.length < 140737488355329) (hb256 : ∀ x ∈ b, x < 256) (hn : n ≤ 8) :
    ACalls Try.prog 153 [ptrV r, .c (.int .i64 n)] σ (Stp g r b q e (bitsP n) (fun a => .c (.int .i64 (a : Nat))) (· < 2 ^ n) σ) := by
  refine ACalls.intro Try.call153 Try.func153 rfl Try.ntmps153 Try.results153 (by simp) ?_
  have hr := hs.rd
  refine AW.seq_k fun K1 h1 => ?_
  all_goals refine AW.reg0 ?_
  all_goals (refine S.g rfl rfl fun K' k' => ?_; simp only [zz, reduceIte, Nat.reduceEqDiff, Nat.reduceAdd]; refine k' _ _ ?_; clear k' K')
  all_goals refine S.nil ?_
  all_goals simp only [ze, reduceIte, Nat.reduceEqDiff, Nat.reduceLT, Nat.reduceLeDiff, Nat.reduceAdd, reduceCtorEq, Nat.reduceMul]
  all_goals apply_assumption
  refine AW.seq_k fun K2 h2 => ?_
  refine AW.seq_k fun K3 h3 => ?_
  all_goals refine AW.reg0 ?_
  all_goals iterate 5 (refine S.g rfl rfl fun K' k' => ?_; simp only [zz, reduceIte, Nat.reduceEqDiff, Nat.reduceLT, Nat.reduceLeDiff, Nat.reduceAdd, reduceCtorEq, Nat.reduceMul, of170_1, ok29, sz29, ag29, ptrV, hr, map2, List.getD_cons_succ, List.getD_cons_zero]; refine k' _ _ ?_; clear k' K')
  all_goals refine S.nil ?_
  all_goals simp only [ze, reduceIte, Nat.reduceEqDiff, Nat.reduceLT, Nat.reduceLeDiff, Nat.reduceAdd, reduceCtorEq, Nat.reduceMul, ptrV, hr, map2, List.getD_cons_succ, List.getD_cons_zero]
  all_goals apply_assumption
  refine AW.cond (b := decide (e ≠ 0)) (by simp [ev]; try rfl) (fun hc => ?_) (fun hc => ?_)
  · have hc := of_decide_eq_true hc
    refine AW.seq_k fun K4 h4 => ?_
    all_goals refine AW.reg0 ?_
    all_goals (refine S.g rfl rfl fun K' k' => ?_; simp only [zz, reduceIte, Nat.reduceEqDiff, Nat.reduceAdd]; refine k' _ _ ?_; clear k' K')
    all_goals refine S.nil ?_
    all_goals simp only [ze, reduceIte, Nat.reduceEqDiff, Nat.reduceLT, Nat.reduceLeDiff, Nat.reduceAdd, reduceCtorEq, Nat.reduceMul]
    all_goals apply_assumption
    refine AW.ret ?_
    all_goals simp only [zs, reduceIte, Nat.reduceEqDiff, Nat.reduceLT, Nat.reduceLeDiff, Nat.reduceAdd, reduceCtorEq, Nat.reduceMul]
    exact ⟨0, q, e, rfl, Nat.two_pow_pos n, hs, Fr2.refl _ _ _, .inr ⟨hc, At_err hc⟩⟩
  · have hc : e = 0 := by simpa using of_decide_eq_false hc
    subst hc
    have hA := At_bits (n := n) hs.le
    refine AW.skip ?_
    all_goals simp only [zs, reduceIte, Nat.reduceEqDiff, Nat.reduceLT, Nat.reduceLeDiff, Nat.reduceAdd, reduceCtorEq, Nat.reduceMul]
    all_goals apply_assumption
    by_cases hin : q + n ≤ 8 * b.length
    · rw [if_pos hin] at hA
      have hlt := bitsV_lt b q n
      have h28 : (2 : Nat) ^ n ≤ 256 := by rw [show 256 = 2 ^ 8 from rfl]; exact Nat.pow_le_pow_right (by omega) hn
      have hw : IntKind.i64.wrap (bitsV b q n : Int) = (bitsV b q n : Int) := wrapI _ (by omega) (by omega)
      refine AW.seq_k fun K5 h5 => ?_
      all_goals refine AW.reg0 ?_
      all_goals iterate 5 (refine S.g rfl rfl fun K' k' => ?_; simp only [zz, reduceIte, Nat.reduceEqDiff, Nat.reduceLT, Nat.reduceLeDiff, Nat.reduceAdd, reduceCtorEq, Nat.reduceMul, of170_0, ok82, sz82, ag82, ptrV, hr, map2, List.getD_cons_succ, List.getD_cons_zero]; refine k' _ _ ?_; clear k' K')
      all_goals (refine S.g rfl rfl fun K' k' => ?_; simp only [zz, reduceIte, Nat.reduceEqDiff, Nat.reduceLT, Nat.reduceLeDiff, Nat.reduceAdd, reduceCtorEq, Nat.reduceMul, ptrV, hr, map2, List.getD_cons_succ, List.getD_cons_zero]; refine (sBits_spec g b q n _ hs.src hb hb256 hs.le (by omega)).to fun v σ2 hv => ?_; (first | rw [if_pos hin] at hv | rw [if_neg hin] at hv); obtain ⟨rfl, hσ⟩ := hv <;> (refine k' _ _ ?_; clear k' K'))
      all_goals iterate 5 (refine S.g rfl rfl fun K' k' => ?_; simp only [zz, reduceIte, Nat.reduceEqDiff, Nat.reduceLT, Nat.reduceLeDiff, Nat.reduceAdd, reduceCtorEq, Nat.reduceMul, ptrV, hr, map2, List.getD_cons_succ, List.getD_cons_zero]; refine k' _ _ ?_; clear k' K')
      all_goals refine S.nil ?_
      all_goals simp only [ze, reduceIte, Nat.reduceEqDiff, Nat.reduceLT, Nat.reduceLeDiff, Nat.reduceAdd, reduceCtorEq, Nat.reduceMul, ptrV, hr, map2, List.getD_cons_succ, List.getD_cons_zero]
      all_goals apply_assumption
      have hs2 : RS g r b (q + n) 0 σ2 := by rw [hσ]; exact hs.setg hin
      have hf2 : Fr2 g r σ σ2 := by rw [hσ]; exact Fr2.setg
      refine AW.seq_k fun K6 h6 => ?_
      all_goals refine AW.reg0 ?_
      all_goals iterate 2 (refine S.g rfl rfl fun K' k' => ?_; simp only [zz, reduceIte, Nat.reduceEqDiff, Nat.reduceAdd, pw]; refine k' _ _ ?_; clear k' K')
      all_goals (refine S.g rfl rfl fun K' k' => ?_; simp only [zz, reduceIte, Nat.reduceEqDiff, Nat.reduceLT, Nat.reduceLeDiff, Nat.reduceAdd, reduceCtorEq, Nat.reduceMul, pw]; refine (keep_spec g r b _ 0 _ _ hs2).to fun v σ3 hv => ?_; obtain ⟨rfl, hs3, hf3⟩ := hv <;> (refine k' _ _ ?_; clear k' K'))
      all_goals refine S.nil ?_
      all_goals simp only [ze, reduceIte, Nat.reduceEqDiff, Nat.reduceLT, Nat.reduceLeDiff, Nat.reduceAdd, reduceCtorEq, Nat.reduceMul, pw]
      all_goals apply_assumption
      refine AW.seq_k fun K7 h7 => ?_
      all_goals refine AW.reg0 ?_
      all_goals iterate 3 (refine S.g rfl rfl fun K' k' => ?_; simp only [zz, reduceIte, Nat.reduceEqDiff, Nat.reduceAdd, cv54_3, hw]; refine k' _ _ ?_; clear k' K')
      all_goals refine S.nil ?_
      all_goals simp only [ze, reduceIte, Nat.reduceEqDiff, Nat.reduceLT, Nat.reduceLeDiff, Nat.reduceAdd, reduceCtorEq, Nat.reduceMul, hw]
      all_goals apply_assumption
      refine AW.ret ?_
      all_goals simp only [zs, reduceIte, Nat.reduceEqDiff, Nat.reduceLT, Nat.reduceLeDiff, Nat.reduceAdd, reduceCtorEq, Nat.reduceMul]
      exact ⟨bitsV b q n, _, _, rfl, hlt, hs3, hf2.trans hf3, .inl ⟨rfl, hA⟩⟩
    · rw [if_neg hin] at hA
      refine AW.seq_k fun K8 h8 => ?_
      all_goals refine AW.reg0 ?_
      all_goals iterate 5 (refine S.g rfl rfl fun K' k' => ?_; simp only [zz, reduceIte, Nat.reduceEqDiff, Nat.reduceLT, Nat.reduceLeDiff, Nat.reduceAdd, reduceCtorEq, Nat.reduceMul, of170_0, ok82, sz82, ag82, ptrV, hr, map2, List.getD_cons_succ, List.getD_cons_zero]; refine k' _ _ ?_; clear k' K')
      all_goals (refine S.g rfl rfl fun K' k' => ?_; simp only [zz, reduceIte, Nat.reduceEqDiff, Nat.reduceLT, Nat.reduceLeDiff, Nat.reduceAdd, reduceCtorEq, Nat.reduceMul, ptrV, hr, map2, List.getD_cons_succ, List.getD_cons_zero]; refine (sBits_spec g b q n _ hs.src hb hb256 hs.le (by omega)).to fun v σ2 hv => ?_; (first | rw [if_pos hin] at hv | rw [if_neg hin] at hv); obtain ⟨rfl, hσ⟩ := hv <;> (refine k' _ _ ?_; clear k' K'))
      all_goals iterate 5 (refine S.g rfl rfl fun K' k' => ?_; simp only [zz, reduceIte, Nat.reduceEqDiff, Nat.reduceLT, Nat.reduceLeDiff, Nat.reduceAdd, reduceCtorEq, Nat.reduceMul, ptrV, hr, map2, List.getD_cons_succ, List.getD_cons_zero]; refine k' _ _ ?_; clear k' K')
      all_goals refine S.nil ?_
      all_goals simp only [ze, reduceIte, Nat.reduceEqDiff, Nat.reduceLT, Nat.reduceLeDiff, Nat.reduceAdd, reduceCtorEq, Nat.reduceMul, ptrV, hr, map2, List.getD_cons_succ, List.getD_cons_zero]
      all_goals apply_assumption
      have hs2 : RS g r b q 0 σ2 := by rw [hσ]; exact hs
      have hf2 : Fr2 g r σ σ2 := by rw [hσ]; exact Fr2.refl _ _ _
      have hw : IntKind.i64.wrap 0 = 0 := rfl
      refine AW.seq_k fun K9 h9 => ?_
      all_goals refine AW.reg0 ?_
      all_goals iterate 2 (refine S.g rfl rfl fun K' k' => ?_; simp only [zz, reduceIte, Nat.reduceEqDiff, Nat.reduceAdd, pw]; refine k' _ _ ?_; clear k' K')
      all_goals (refine S.g rfl rfl fun K' k' => ?_; simp only [zz, reduceIte, Nat.reduceEqDiff, Nat.reduceLT, Nat.reduceLeDiff, Nat.reduceAdd, reduceCtorEq, Nat.reduceMul, pw]; refine (keep_spec g r b _ 0 _ _ hs2).to fun v σ3 hv => ?_; obtain ⟨rfl, hs3, hf3⟩ := hv <;> (refine k' _ _ ?_; clear k' K'))
      all_goals refine S.nil ?_
      all_goals simp only [ze, reduceIte, Nat.reduceEqDiff, Nat.reduceLT, Nat.reduceLeDiff, Nat.reduceAdd, reduceCtorEq, Nat.reduceMul, pw]
      all_goals apply_assumption
      refine AW.seq_k fun K10 h10 => ?_
      all_goals refine AW.reg0 ?_
      all_goals iterate 3 (refine S.g rfl rfl fun K' k' => ?_; simp only [zz, reduceIte, Nat.reduceEqDiff, Nat.reduceAdd, cv54_3, hw]; refine k' _ _ ?_; clear k' K')
      all_goals refine S.nil ?_
      all_goals simp only [ze, reduceIte, Nat.reduceEqDiff, Nat.reduceLT, Nat.reduceLeDiff, Nat.reduceAdd, reduceCtorEq, Nat.reduceMul, hw]
      all_goals apply_assumption
      refine AW.ret ?_
      all_goals simp only [zs, reduceIte, Nat.reduceEqDiff, Nat.reduceLT, Nat.reduceLeDiff, Nat.reduceAdd, reduceCtorEq, Nat.reduceMul]
      exact ⟨0, _, _, rfl, Nat.two_pow_pos n, hs3, hf2.trans hf3, .inr ⟨by decide, hA⟩⟩
end Go.Abs.M
namespace Go.Abs.M
open Go Go.Abs Go.Proofs
set_option maxRecDepth 20000
set_option linter.unusedSimpArgs false
set_option linter.unusedVariables false
def natV (u : Nat) : Int := if 1099511627776 < u then -1 else u
theorem numP_ok {l : List Bool} {n : Int} {c : Nat} (h : numP l = .ok (n, c)) : c ≤ l.length := by
  unfold numP at h
  cases hN : natP l with
  | error d => rw [hN] at h; cases h
  | ok x => obtain ⟨u, c2⟩ := x; rw [hN] at h; injection h with h; injection h with h1 h2; have := natP_ok hN; omega
theorem textP_ok {l : List Bool} {t : List Nat} {c : Nat} (h : textP l = .ok (t, c)) : c ≤ l.length ∧ t.length ≤ l.length ∧ (∀ x ∈ t, x < 256) := by
  unfold textP at h
  cases hN : natP l with
  | error d => rw [hN] at h; cases h
  | ok x =>
    obtain ⟨u, c2⟩ := x
    rw [hN] at h
    simp only [] at h
    obtain ⟨h1, h2⟩ := natP_ok hN
    split at h
    · cases h
    · injection h with h; injection h with h3 h4
      have hd := Nat.div_mul_le_self (l.length - c2) 8
      refine ⟨by omega, by rw [← h3]; simp; omega, fun x hx => ?_⟩
      rw [← h3] at hx
      obtain ⟨i, _, rfl⟩ := List.mem_map.1 hx
      exact Nat.lt_of_lt_of_le (valN_lt _) (by rw [show 256 = 2 ^ 8 from rfl]; exact Nat.pow_le_pow_right (by omega) (by rw [List.length_take]; omega))
theorem At_ok {α : Type} {b : List Nat} {q : Nat} {p : Prs α} {a : α} {c : Nat} (h : p ((unB b).drop q) = .ok (a, c)) : At b q 0 p = .ok (a, q + c) := by unfold At; rw [if_pos rfl, h]
theorem At_er {α : Type} {b : List Nat} {q : Nat} {p : Prs α} {e : Int} (h : p ((unB b).drop q) = .error e) : At b q 0 p = .error e := by unfold At; rw [if_pos rfl, h]
theorem rdNat_spec (g r : Nat) (b : List Nat) (q : Nat) (e : Int) (σ : Hp) (hs : RS g r b q e σ) (hb : b.length < 140737488355329) (hb256 : ∀ x ∈ b, x < 256) :
    ACalls Try.prog 154 [ptrV r] σ (Stp g r b q e natP (fun a => .c (.int .i64 (natV a))) (· < 18446744073709551616) σ) := by
  refine ACalls.intro Try.call154 Try.func154 rfl Try.ntmps154 Try.results154 (by simp) ?_
  have hr := hs.rd
  refine AW.seq_k fun K1 h1 => ?_
  all_goals refine AW.reg0 ?_
  all_goals (refine S.g rfl rfl fun K' k' => ?_; simp only [zz, reduceIte, Nat.reduceEqDiff, Nat.reduceAdd]; refine k' _ _ ?_; clear k' K')
  all_goals refine S.nil ?_
  all_goals simp only [ze, reduceIte, Nat.reduceEqDiff, Nat.reduceLT, Nat.reduceLeDiff, Nat.reduceAdd, reduceCtorEq, Nat.reduceMul]
  all_goals apply_assumption
  refine AW.seq_k fun K2 h2 => ?_
  refine AW.seq_k fun K3 h3 => ?_
  all_goals refine AW.reg0 ?_
  all_goals iterate 5 (refine S.g rfl rfl fun K' k' => ?_; simp only [zz, reduceIte, Nat.reduceEqDiff, Nat.reduceLT, Nat.reduceLeDiff, Nat.reduceAdd, reduceCtorEq, Nat.reduceMul, of170_1, ok29, sz29, ag29, ptrV, hr, map2, List.getD_cons_succ, List.getD_cons_zero]; refine k' _ _ ?_; clear k' K')
  all_goals refine S.nil ?_
  all_goals simp only [ze, reduceIte, Nat.reduceEqDiff, Nat.reduceLT, Nat.reduceLeDiff, Nat.reduceAdd, reduceCtorEq, Nat.reduceMul, ptrV, hr, map2, List.getD_cons_succ, List.getD_cons_zero]
  all_goals apply_assumption
  refine AW.cond (b := decide (e ≠ 0)) (by simp [ev]; try rfl) (fun hc => ?_) (fun hc => ?_)
  · have hc := of_decide_eq_true hc
    refine AW.seq_k fun K4 h4 => ?_
    all_goals refine AW.reg0 ?_
    all_goals (refine S.g rfl rfl fun K' k' => ?_; simp only [zz, reduceIte, Nat.reduceEqDiff, Nat.reduceAdd]; refine k' _ _ ?_; clear k' K')
    all_goals refine S.nil ?_
    all_goals simp only [ze, reduceIte, Nat.reduceEqDiff, Nat.reduceLT, Nat.reduceLeDiff, Nat.reduceAdd, reduceCtorEq, Nat.reduceMul]
    all_goals apply_assumption
    refine AW.ret ?_
    all_goals simp only [zs, reduceIte, Nat.reduceEqDiff, Nat.reduceLT, Nat.reduceLeDiff, Nat.reduceAdd, reduceCtorEq, Nat.reduceMul]
    exact ⟨0, q, e, rfl, by decide, hs, Fr2.refl _ _ _, .inr ⟨hc, At_err hc⟩⟩
  · have hc : e = 0 := by simpa using of_decide_eq_false hc
    subst hc
    have hlen : ((unB b).drop q).length = 8 * b.length - q := by rw [List.length_drop, unB_len]
    have hqle := hs.le
    refine AW.skip ?_
    all_goals simp only [zs, reduceIte, Nat.reduceEqDiff, Nat.reduceLT, Nat.reduceLeDiff, Nat.reduceAdd, reduceCtorEq, Nat.reduceMul]
    all_goals apply_assumption
    rcases hN : natP ((unB b).drop q) with d | ⟨u, c⟩
    · have hd := natP_err hN
      refine AW.seq_k fun K5 h5 => ?_
      all_goals refine AW.reg0 ?_
      all_goals iterate 4 (refine S.g rfl rfl fun K' k' => ?_; simp only [zz, reduceIte, Nat.reduceEqDiff, Nat.reduceLT, Nat.reduceLeDiff, Nat.reduceAdd, reduceCtorEq, Nat.reduceMul, of170_0, ok82, sz82, ag82, ptrV, hr, map2, List.getD_cons_succ, List.getD_cons_zero]; refine k' _ _ ?_; clear k' K')
      all_goals (refine S.g rfl rfl fun K' k' => ?_; simp only [zz, reduceIte, Nat.reduceEqDiff, Nat.reduceLT, Nat.reduceLeDiff, Nat.reduceAdd, reduceCtorEq, Nat.reduceMul, ptrV, hr, map2, List.getD_cons_succ, List.getD_cons_zero]; refine (sNat_spec g b q _ hs.src hb hb256 hs.le).to fun v σ2 hv => ?_; simp only [hN] at hv; obtain ⟨rfl, hσ⟩ := hv <;> (refine k' _ _ ?_; clear k' K'))
      all_goals iterate 5 (refine S.g rfl rfl fun K' k' => ?_; simp only [zz, reduceIte, Nat.reduceEqDiff, Nat.reduceLT, Nat.reduceLeDiff, Nat.reduceAdd, reduceCtorEq, Nat.reduceMul, ptrV, hr, map2, List.getD_cons_succ, List.getD_cons_zero]; refine k' _ _ ?_; clear k' K')
      all_goals refine S.nil ?_
      all_goals simp only [ze, reduceIte, Nat.reduceEqDiff, Nat.reduceLT, Nat.reduceLeDiff, Nat.reduceAdd, reduceCtorEq, Nat.reduceMul, ptrV, hr, map2, List.getD_cons_succ, List.getD_cons_zero]
      all_goals apply_assumption
      have hs2 : RS g r b q 0 σ2 := by rw [hσ]; exact hs
      have hf2 : Fr2 g r σ σ2 := by rw [hσ]; exact Fr2.refl _ _ _
      refine AW.seq_k fun K6 h6 => ?_
      all_goals refine AW.reg0 ?_
      all_goals iterate 2 (refine S.g rfl rfl fun K' k' => ?_; simp only [zz, reduceIte, Nat.reduceEqDiff, Nat.reduceAdd, pw]; refine k' _ _ ?_; clear k' K')
      all_goals (refine S.g rfl rfl fun K' k' => ?_; simp only [zz, reduceIte, Nat.reduceEqDiff, Nat.reduceLT, Nat.reduceLeDiff, Nat.reduceAdd, reduceCtorEq, Nat.reduceMul, pw]; refine (keep_spec g r b _ 0 _ _ hs2).to fun v σ3 hv => ?_; obtain ⟨rfl, hs3, hf3⟩ := hv <;> (refine k' _ _ ?_; clear k' K'))
      all_goals refine S.nil ?_
      all_goals simp only [ze, reduceIte, Nat.reduceEqDiff, Nat.reduceLT, Nat.reduceLeDiff, Nat.reduceAdd, reduceCtorEq, Nat.reduceMul, pw]
      all_goals apply_assumption
      refine AW.seq_k fun K7 h7 => ?_
      refine AW.seq_k fun K8 h8 => ?_
      all_goals refine AW.reg0 ?_
      all_goals iterate 2 (refine S.g rfl rfl fun K' k' => ?_; simp only [zz, reduceIte, Nat.reduceEqDiff, Nat.reduceAdd]; refine k' _ _ ?_; clear k' K')
      all_goals refine S.nil ?_
      all_goals simp only [ze, reduceIte, Nat.reduceEqDiff, Nat.reduceLT, Nat.reduceLeDiff, Nat.reduceAdd, reduceCtorEq, Nat.reduceMul]
      all_goals apply_assumption
      refine AW.cond (b := false) (by simp [ev]) (fun hc => by cases hc) (fun hc => ?_)
      refine AW.skip ?_
      all_goals simp only [zs, reduceIte, Nat.reduceEqDiff, Nat.reduceLT, Nat.reduceLeDiff, Nat.reduceAdd, reduceCtorEq, Nat.reduceMul]
      all_goals apply_assumption
      have hw : IntKind.i64.wrap 0 = 0 := rfl
      refine AW.seq_k fun K9 h9 => ?_
      all_goals refine AW.reg0 ?_
      all_goals iterate 3 (refine S.g rfl rfl fun K' k' => ?_; simp only [zz, reduceIte, Nat.reduceEqDiff, Nat.reduceAdd, cv54_2, hw]; refine k' _ _ ?_; clear k' K')
      all_goals refine S.nil ?_
      all_goals simp only [ze, reduceIte, Nat.reduceEqDiff, Nat.reduceLT, Nat.reduceLeDiff, Nat.reduceAdd, reduceCtorEq, Nat.reduceMul, hw]
      all_goals apply_assumption
      refine AW.ret ?_
      all_goals simp only [zs, reduceIte, Nat.reduceEqDiff, Nat.reduceLT, Nat.reduceLeDiff, Nat.reduceAdd, reduceCtorEq, Nat.reduceMul]
      exact ⟨0, _, _, rfl, by decide, hs3, hf2.trans hf3, .inr ⟨hd, At_er hN⟩⟩
    · obtain ⟨hu, hcl⟩ := natP_ok hN
      refine AW.seq_k fun K10 h10 => ?_
      all_goals refine AW.reg0 ?_
      all_goals iterate 4 (refine S.g rfl rfl fun K' k' => ?_; simp only [zz, reduceIte, Nat.reduceEqDiff, Nat.reduceLT, Nat.reduceLeDiff, Nat.reduceAdd, reduceCtorEq, Nat.reduceMul, of170_0, ok82, sz82, ag82, ptrV, hr, map2, List.getD_cons_succ, List.getD_cons_zero]; refine k' _ _ ?_; clear k' K')
      all_goals (refine S.g rfl rfl fun K' k' => ?_; simp only [zz, reduceIte, Nat.reduceEqDiff, Nat.reduceLT, Nat.reduceLeDiff, Nat.reduceAdd, reduceCtorEq, Nat.reduceMul, ptrV, hr, map2, List.getD_cons_succ, List.getD_cons_zero]; refine (sNat_spec g b q _ hs.src hb hb256 hs.le).to fun v σ2 hv => ?_; simp only [hN] at hv; obtain ⟨rfl, hσ⟩ := hv <;> (refine k' _ _ ?_; clear k' K'))
      all_goals iterate 5 (refine S.g rfl rfl fun K' k' => ?_; simp only [zz, reduceIte, Nat.reduceEqDiff, Nat.reduceLT, Nat.reduceLeDiff, Nat.reduceAdd, reduceCtorEq, Nat.reduceMul, ptrV, hr, map2, List.getD_cons_succ, List.getD_cons_zero]; refine k' _ _ ?_; clear k' K')
      all_goals refine S.nil ?_
      all_goals simp only [ze, reduceIte, Nat.reduceEqDiff, Nat.reduceLT, Nat.reduceLeDiff, Nat.reduceAdd, reduceCtorEq, Nat.reduceMul, ptrV, hr, map2, List.getD_cons_succ, List.getD_cons_zero]
      all_goals apply_assumption
      have hs2 : RS g r b (q + c) 0 σ2 := by rw [hσ]; exact hs.setg (by omega)
      have hf2 : Fr2 g r σ σ2 := by rw [hσ]; exact Fr2.setg
      refine AW.seq_k fun K11 h11 => ?_
      all_goals refine AW.reg0 ?_
      all_goals iterate 2 (refine S.g rfl rfl fun K' k' => ?_; simp only [zz, reduceIte, Nat.reduceEqDiff, Nat.reduceAdd, pw]; refine k' _ _ ?_; clear k' K')
      all_goals (refine S.g rfl rfl fun K' k' => ?_; simp only [zz, reduceIte, Nat.reduceEqDiff, Nat.reduceLT, Nat.reduceLeDiff, Nat.reduceAdd, reduceCtorEq, Nat.reduceMul, pw]; refine (keep_spec g r b _ 0 _ _ hs2).to fun v σ3 hv => ?_; obtain ⟨rfl, hs3, hf3⟩ := hv <;> (refine k' _ _ ?_; clear k' K'))
      all_goals refine S.nil ?_
      all_goals simp only [ze, reduceIte, Nat.reduceEqDiff, Nat.reduceLT, Nat.reduceLeDiff, Nat.reduceAdd, reduceCtorEq, Nat.reduceMul, pw]
      all_goals apply_assumption
      refine AW.seq_k fun K12 h12 => ?_
      refine AW.seq_k fun K13 h13 => ?_
      all_goals refine AW.reg0 ?_
      all_goals iterate 2 (refine S.g rfl rfl fun K' k' => ?_; simp only [zz, reduceIte, Nat.reduceEqDiff, Nat.reduceAdd, gt_iff_lt]; refine k' _ _ ?_; clear k' K')
      all_goals refine S.nil ?_
      all_goals simp only [ze, reduceIte, Nat.reduceEqDiff, Nat.reduceLT, Nat.reduceLeDiff, Nat.reduceAdd, reduceCtorEq, Nat.reduceMul, gt_iff_lt]
      all_goals apply_assumption
      refine AW.cond (b := decide (1099511627776 < u)) (by simp [ev]; try omega) (fun hc => ?_) (fun hc => ?_)
      · have hc := of_decide_eq_true hc
        refine AW.seq_k fun K14 h14 => ?_
        all_goals refine AW.reg0 ?_
        all_goals (refine S.g rfl rfl fun K' k' => ?_; simp only [zz, reduceIte, Nat.reduceEqDiff, Nat.reduceAdd]; refine k' _ _ ?_; clear k' K')
        all_goals refine S.nil ?_
        all_goals simp only [ze, reduceIte, Nat.reduceEqDiff, Nat.reduceLT, Nat.reduceLeDiff, Nat.reduceAdd, reduceCtorEq, Nat.reduceMul]
        all_goals apply_assumption
        refine AW.ret ?_
        all_goals simp only [zs, reduceIte, Nat.reduceEqDiff, Nat.reduceLT, Nat.reduceLeDiff, Nat.reduceAdd, reduceCtorEq, Nat.reduceMul]
        exact ⟨u, _, _, by simp [natV, hc], hu, hs3, hf2.trans hf3, .inl ⟨rfl, At_ok hN⟩⟩
      · have hc := of_decide_eq_false hc
        have hw : IntKind.i64.wrap (u : Int) = (u : Int) := wrapI _ (by omega) (by omega)
        refine AW.skip ?_
        all_goals simp only [zs, reduceIte, Nat.reduceEqDiff, Nat.reduceLT, Nat.reduceLeDiff, Nat.reduceAdd, reduceCtorEq, Nat.reduceMul]
        all_goals apply_assumption
        refine AW.seq_k fun K15 h15 => ?_
        all_goals refine AW.reg0 ?_
        all_goals iterate 3 (refine S.g rfl rfl fun K' k' => ?_; simp only [zz, reduceIte, Nat.reduceEqDiff, Nat.reduceAdd, cv54_2, hw]; refine k' _ _ ?_; clear k' K')
        all_goals refine S.nil ?_
        all_goals simp only [ze, reduceIte, Nat.reduceEqDiff, Nat.reduceLT, Nat.reduceLeDiff, Nat.reduceAdd, reduceCtorEq, Nat.reduceMul, hw]
        all_goals apply_assumption
        refine AW.ret ?_
        all_goals simp only [zs, reduceIte, Nat.reduceEqDiff, Nat.reduceLT, Nat.reduceLeDiff, Nat.reduceAdd, reduceCtorEq, Nat.reduceMul]
        exact ⟨u, _, _, by simp [natV, hc], hu, hs3, hf2.trans hf3, .inl ⟨rfl, At_ok hN⟩⟩
theorem rdText_spec (g r : Nat) (b : List Nat) (q : Nat) (e : Int) (σ : Hp) (hs : RS g r b q e σ) (hb : b.length < 140737488355329) (hb256 : ∀ x ∈ b, x < 256) :
    ACalls Try.prog 155 [ptrV r] σ (Stp g r b q e textP (fun a => .c (.string (strOf a))) (fun a => a.length ≤ 2251799813685248) σ) := by
  refine ACalls.intro Try.call155 Try.func155 rfl Try.ntmps155 Try.results155 (by simp) ?_
  have hr := hs.rd
  refine AW.seq_k fun K1 h1 => ?_
  all_goals refine AW.reg0 ?_
  all_goals (refine S.g rfl rfl fun K' k' => ?_; simp only [zz, reduceIte, Nat.reduceEqDiff, Nat.reduceAdd]; refine k' _ _ ?_; clear k' K')
  all_goals refine S.nil ?_
  all_goals simp only [ze, reduceIte, Nat.reduceEqDiff, Nat.reduceLT, Nat.reduceLeDiff, Nat.reduceAdd, reduceCtorEq, Nat.reduceMul]
  all_goals apply_assumption
  refine AW.seq_k fun K2 h2 => ?_
  refine AW.seq_k fun K3 h3 => ?_
  all_goals refine AW.reg0 ?_
  all_goals iterate 5 (refine S.g rfl rfl fun K' k' => ?_; simp only [zz, reduceIte, Nat.reduceEqDiff, Nat.reduceLT, Nat.reduceLeDiff, Nat.reduceAdd, reduceCtorEq, Nat.reduceMul, of170_1, ok29, sz29, ag29, ptrV, hr, map2, List.getD_cons_succ, List.getD_cons_zero]; refine k' _ _ ?_; clear k' K')
  all_goals refine S.nil ?_
  all_goals simp only [ze, reduceIte, Nat.reduceEqDiff, Nat.reduceLT, Nat.reduceLeDiff, Nat.reduceAdd, reduceCtorEq, Nat.reduceMul, ptrV, hr, map2, List.getD_cons_succ, List.getD_cons_zero]
  all_goals apply_assumption
  refine AW.cond (b := decide (e ≠ 0)) (by simp [ev]; try rfl) (fun hc => ?_) (fun hc => ?_)
  · have hc := of_decide_eq_true hc
    refine AW.seq_k fun K4 h4 => ?_
    all_goals refine AW.reg0 ?_
    all_goals (refine S.g rfl rfl fun K' k' => ?_; simp only [zz, reduceIte, Nat.reduceEqDiff, Nat.reduceAdd]; refine k' _ _ ?_; clear k' K')
    all_goals refine S.nil ?_
    all_goals simp only [ze, reduceIte, Nat.reduceEqDiff, Nat.reduceLT, Nat.reduceLeDiff, Nat.reduceAdd, reduceCtorEq, Nat.reduceMul]
    all_goals apply_assumption
    refine AW.ret ?_
    all_goals simp only [zs, reduceIte, Nat.reduceEqDiff, Nat.reduceLT, Nat.reduceLeDiff, Nat.reduceAdd, reduceCtorEq, Nat.reduceMul]
    exact ⟨[], q, e, rfl, by simp, hs, Fr2.refl _ _ _, .inr ⟨hc, At_err hc⟩⟩
  · have hc : e = 0 := by simpa using of_decide_eq_false hc
    subst hc
    have hlen : ((unB b).drop q).length = 8 * b.length - q := by rw [List.length_drop, unB_len]
    have hqle := hs.le
    refine AW.skip ?_
    all_goals simp only [zs, reduceIte, Nat.reduceEqDiff, Nat.reduceLT, Nat.reduceLeDiff, Nat.reduceAdd, reduceCtorEq, Nat.reduceMul]
    all_goals apply_assumption
    rcases hN : textP ((unB b).drop q) with d | ⟨u, c⟩
    · have hd := textP_err hN
      refine AW.seq_k fun K5 h5 => ?_
      all_goals refine AW.reg0 ?_
      all_goals iterate 4 (refine S.g rfl rfl fun K' k' => ?_; simp only [zz, reduceIte, Nat.reduceEqDiff, Nat.reduceLT, Nat.reduceLeDiff, Nat.reduceAdd, reduceCtorEq, Nat.reduceMul, of170_0, ok82, sz82, ag82, ptrV, hr, map2, List.getD_cons_succ, List.getD_cons_zero]; refine k' _ _ ?_; clear k' K')
      all_goals (refine S.g rfl rfl fun K' k' => ?_; simp only [zz, reduceIte, Nat.reduceEqDiff, Nat.reduceLT, Nat.reduceLeDiff, Nat.reduceAdd, reduceCtorEq, Nat.reduceMul, ptrV, hr, map2, List.getD_cons_succ, List.getD_cons_zero]; refine (sText_spec g b q _ hs.src hb hb256 hs.le).to fun v σ2 hv => ?_; simp only [hN] at hv; obtain ⟨rfl, hσ⟩ := hv <;> (refine k' _ _ ?_; clear k' K'))
      all_goals iterate 5 (refine S.g rfl rfl fun K' k' => ?_; simp only [zz, reduceIte, Nat.reduceEqDiff, Nat.reduceLT, Nat.reduceLeDiff, Nat.reduceAdd, reduceCtorEq, Nat.reduceMul, ptrV, hr, map2, List.getD_cons_succ, List.getD_cons_zero]; refine k' _ _ ?_; clear k' K')
      all_goals refine S.nil ?_
      all_goals simp only [ze, reduceIte, Nat.reduceEqDiff, Nat.reduceLT, Nat.reduceLeDiff, Nat.reduceAdd, reduceCtorEq, Nat.reduceMul, ptrV, hr, map2, List.getD_cons_succ, List.getD_cons_zero]
      all_goals apply_assumption
      have hs2 : RS g r b q 0 σ2 := ⟨hs.ne, hσ.1, hσ.2.obj _ _ hs.ne.symm hs.rd, hs.le⟩
      have hf2 : Fr2 g r σ σ2 := hσ.2.two hs.src
      refine AW.seq_k fun K6 h6 => ?_
      all_goals refine AW.reg0 ?_
      all_goals iterate 2 (refine S.g rfl rfl fun K' k' => ?_; simp only [zz, reduceIte, Nat.reduceEqDiff, Nat.reduceAdd, pw]; refine k' _ _ ?_; clear k' K')
      all_goals (refine S.g rfl rfl fun K' k' => ?_; simp only [zz, reduceIte, Nat.reduceEqDiff, Nat.reduceLT, Nat.reduceLeDiff, Nat.reduceAdd, reduceCtorEq, Nat.reduceMul, pw]; refine (keep_spec g r b _ 0 _ _ hs2).to fun v σ3 hv => ?_; obtain ⟨rfl, hs3, hf3⟩ := hv <;> (refine k' _ _ ?_; clear k' K'))
      all_goals refine S.nil ?_
      all_goals simp only [ze, reduceIte, Nat.reduceEqDiff, Nat.reduceLT, Nat.reduceLeDiff, Nat.reduceAdd, reduceCtorEq, Nat.reduceMul, pw]
      all_goals apply_assumption
      refine AW.seq_k fun K7 h7 => ?_
      all_goals refine AW.reg0 ?_
      all_goals iterate 2 (refine S.g rfl rfl fun K' k' => ?_; simp only [zz, reduceIte, Nat.reduceEqDiff, Nat.reduceAdd]; refine k' _ _ ?_; clear k' K')
      all_goals refine S.nil ?_
      all_goals simp only [ze, reduceIte, Nat.reduceEqDiff, Nat.reduceLT, Nat.reduceLeDiff, Nat.reduceAdd, reduceCtorEq, Nat.reduceMul]
      all_goals apply_assumption
      refine AW.ret ?_
      all_goals simp only [zs, reduceIte, Nat.reduceEqDiff, Nat.reduceLT, Nat.reduceLeDiff, Nat.reduceAdd, reduceCtorEq, Nat.reduceMul]
      exact ⟨[], _, _, rfl, by simp, hs3, hf2.trans hf3, .inr ⟨hd, At_er hN⟩⟩
    · obtain ⟨hcl, hul, _⟩ := textP_ok hN
      refine AW.seq_k fun K8 h8 => ?_
      all_goals refine AW.reg0 ?_
      all_goals iterate 4 (refine S.g rfl rfl fun K' k' => ?_; simp only [zz, reduceIte, Nat.reduceEqDiff, Nat.reduceLT, Nat.reduceLeDiff, Nat.reduceAdd, reduceCtorEq, Nat.reduceMul, of170_0, ok82, sz82, ag82, ptrV, hr, map2, List.getD_cons_succ, List.getD_cons_zero]; refine k' _ _ ?_; clear k' K')
      all_goals (refine S.g rfl rfl fun K' k' => ?_; simp only [zz, reduceIte, Nat.reduceEqDiff, Nat.reduceLT, Nat.reduceLeDiff, Nat.reduceAdd, reduceCtorEq, Nat.reduceMul, ptrV, hr, map2, List.getD_cons_succ, List.getD_cons_zero]; refine (sText_spec g b q _ hs.src hb hb256 hs.le).to fun v σ2 hv => ?_; simp only [hN] at hv; obtain ⟨rfl, hσ⟩ := hv <;> (refine k' _ _ ?_; clear k' K'))
      all_goals iterate 5 (refine S.g rfl rfl fun K' k' => ?_; simp only [zz, reduceIte, Nat.reduceEqDiff, Nat.reduceLT, Nat.reduceLeDiff, Nat.reduceAdd, reduceCtorEq, Nat.reduceMul, ptrV, hr, map2, List.getD_cons_succ, List.getD_cons_zero]; refine k' _ _ ?_; clear k' K')
      all_goals refine S.nil ?_
      all_goals simp only [ze, reduceIte, Nat.reduceEqDiff, Nat.reduceLT, Nat.reduceLeDiff, Nat.reduceAdd, reduceCtorEq, Nat.reduceMul, ptrV, hr, map2, List.getD_cons_succ, List.getD_cons_zero]
      all_goals apply_assumption
      have hs2 : RS g r b (q + c) 0 σ2 := ⟨hs.ne, hσ.1, hσ.2.obj _ _ hs.ne.symm hs.rd, by omega⟩
      have hf2 : Fr2 g r σ σ2 := hσ.2.two hs.src
      refine AW.seq_k fun K9 h9 => ?_
      all_goals refine AW.reg0 ?_
      all_goals iterate 2 (refine S.g rfl rfl fun K' k' => ?_; simp only [zz, reduceIte, Nat.reduceEqDiff, Nat.reduceAdd, pw]; refine k' _ _ ?_; clear k' K')
      all_goals (refine S.g rfl rfl fun K' k' => ?_; simp only [zz, reduceIte, Nat.reduceEqDiff, Nat.reduceLT, Nat.reduceLeDiff, Nat.reduceAdd, reduceCtorEq, Nat.reduceMul, pw]; refine (keep_spec g r b _ 0 _ _ hs2).to fun v σ3 hv => ?_; obtain ⟨rfl, hs3, hf3⟩ := hv <;> (refine k' _ _ ?_; clear k' K'))
      all_goals refine S.nil ?_
      all_goals simp only [ze, reduceIte, Nat.reduceEqDiff, Nat.reduceLT, Nat.reduceLeDiff, Nat.reduceAdd, reduceCtorEq, Nat.reduceMul, pw]
      all_goals apply_assumption
      refine AW.seq_k fun K10 h10 => ?_
      all_goals refine AW.reg0 ?_
      all_goals iterate 2 (refine S.g rfl rfl fun K' k' => ?_; simp only [zz, reduceIte, Nat.reduceEqDiff, Nat.reduceAdd]; refine k' _ _ ?_; clear k' K')
      all_goals refine S.nil ?_
      all_goals simp only [ze, reduceIte, Nat.reduceEqDiff, Nat.reduceLT, Nat.reduceLeDiff, Nat.reduceAdd, reduceCtorEq, Nat.reduceMul]
      all_goals apply_assumption
      refine AW.ret ?_
      all_goals simp only [zs, reduceIte, Nat.reduceEqDiff, Nat.reduceLT, Nat.reduceLeDiff, Nat.reduceAdd, reduceCtorEq, Nat.reduceMul]
      exact ⟨u, _, _, rfl, by omega, hs3, hf2.trans hf3, .inl ⟨rfl, At_ok hN⟩⟩
theorem rdNum_spec (g r : Nat) (b : List Nat) (q : Nat) (e : Int) (σ : Hp) (hs : RS g r b q e σ) (hb : b.length < 140737488355329) (hb256 : ∀ x ∈ b, x < 256) :
    ACalls Try.prog 160 [ptrV r] σ (Stp g r b q e numP (fun a => .c (.int .i64 a)) (fun _ => True) σ) := by
  refine ACalls.intro Try.call160 Try.func160 rfl Try.ntmps160 Try.results160 (by simp) ?_
  have hr := hs.rd
  refine AW.seq_k fun K1 h1 => ?_
  all_goals refine AW.reg0 ?_
  all_goals (refine S.g rfl rfl fun K' k' => ?_; simp only [zz, reduceIte, Nat.reduceEqDiff, Nat.reduceAdd]; refine k' _ _ ?_; clear k' K')
  all_goals refine S.nil ?_
  all_goals simp only [ze, reduceIte, Nat.reduceEqDiff, Nat.reduceLT, Nat.reduceLeDiff, Nat.reduceAdd, reduceCtorEq, Nat.reduceMul]
  all_goals apply_assumption
  refine AW.seq_k fun K2 h2 => ?_
  refine AW.seq_k fun K3 h3 => ?_
  all_goals refine AW.reg0 ?_
  all_goals iterate 5 (refine S.g rfl rfl fun K' k' => ?_; simp only [zz, reduceIte, Nat.reduceEqDiff, Nat.reduceLT, Nat.reduceLeDiff, Nat.reduceAdd, reduceCtorEq, Nat.reduceMul, of170_1, ok29, sz29, ag29, ptrV, hr, map2, List.getD_cons_succ, List.getD_cons_zero]; refine k' _ _ ?_; clear k' K')
  all_goals refine S.nil ?_
  all_goals simp only [ze, reduceIte, Nat.reduceEqDiff, Nat.reduceLT, Nat.reduceLeDiff, Nat.reduceAdd, reduceCtorEq, Nat.reduceMul, ptrV, hr, map2, List.getD_cons_succ, List.getD_cons_zero]
  all_goals apply_assumption
  refine AW.cond (b := decide (e ≠ 0)) (by simp [ev]; try rfl) (fun hc => ?_) (fun hc => ?_)
  · have hc := of_decide_eq_true hc
    refine AW.seq_k fun K4 h4 => ?_
    all_goals refine AW.reg0 ?_
    all_goals (refine S.g rfl rfl fun K' k' => ?_; simp only [zz, reduceIte, Nat.reduceEqDiff, Nat.reduceAdd]; refine k' _ _ ?_; clear k' K')
    all_goals refine S.nil ?_
    all_goals simp only [ze, reduceIte, Nat.reduceEqDiff, Nat.reduceLT, Nat.reduceLeDiff, Nat.reduceAdd, reduceCtorEq, Nat.reduceMul]
    all_goals apply_assumption
    refine AW.ret ?_
    all_goals simp only [zs, reduceIte, Nat.reduceEqDiff, Nat.reduceLT, Nat.reduceLeDiff, Nat.reduceAdd, reduceCtorEq, Nat.reduceMul]
    exact ⟨0, q, e, rfl, trivial, hs, Fr2.refl _ _ _, .inr ⟨hc, At_err hc⟩⟩
  · have hc : e = 0 := by simpa using of_decide_eq_false hc
    subst hc
    have hlen : ((unB b).drop q).length = 8 * b.length - q := by rw [List.length_drop, unB_len]
    have hqle := hs.le
    refine AW.skip ?_
    all_goals simp only [zs, reduceIte, Nat.reduceEqDiff, Nat.reduceLT, Nat.reduceLeDiff, Nat.reduceAdd, reduceCtorEq, Nat.reduceMul]
    all_goals apply_assumption
    rcases hN : numP ((unB b).drop q) with d | ⟨u, c⟩
    · have hd := numP_err hN
      refine AW.seq_k fun K5 h5 => ?_
      all_goals refine AW.reg0 ?_
      all_goals iterate 4 (refine S.g rfl rfl fun K' k' => ?_; simp only [zz, reduceIte, Nat.reduceEqDiff, Nat.reduceLT, Nat.reduceLeDiff, Nat.reduceAdd, reduceCtorEq, Nat.reduceMul, of170_0, ok82, sz82, ag82, ptrV, hr, map2, List.getD_cons_succ, List.getD_cons_zero]; refine k' _ _ ?_; clear k' K')
      all_goals (refine S.g rfl rfl fun K' k' => ?_; simp only [zz, reduceIte, Nat.reduceEqDiff, Nat.reduceLT, Nat.reduceLeDiff, Nat.reduceAdd, reduceCtorEq, Nat.reduceMul, ptrV, hr, map2, List.getD_cons_succ, List.getD_cons_zero]; refine (sNum_spec g b q _ hs.src hb hb256 hs.le).to fun v σ2 hv => ?_; simp only [hN] at hv; obtain ⟨rfl, hσ⟩ := hv <;> (refine k' _ _ ?_; clear k' K'))
      all_goals iterate 5 (refine S.g rfl rfl fun K' k' => ?_; simp only [zz, reduceIte, Nat.reduceEqDiff, Nat.reduceLT, Nat.reduceLeDiff, Nat.reduceAdd, reduceCtorEq, Nat.reduceMul, ptrV, hr, map2, List.getD_cons_succ, List.getD_cons_zero]; refine k' _ _ ?_; clear k' K')
      all_goals refine S.nil ?_
      all_goals simp only [ze, reduceIte, Nat.reduceEqDiff, Nat.reduceLT, Nat.reduceLeDiff, Nat.reduceAdd, reduceCtorEq, Nat.reduceMul, ptrV, hr, map2, List.getD_cons_succ, List.getD_cons_zero]
      all_goals apply_assumption
      have hs2 : RS g r b q 0 σ2 := by rw [hσ]; exact hs
      have hf2 : Fr2 g r σ σ2 := by rw [hσ]; exact Fr2.refl _ _ _
      refine AW.seq_k fun K6 h6 => ?_
      all_goals refine AW.reg0 ?_
      all_goals iterate 2 (refine S.g rfl rfl fun K' k' => ?_; simp only [zz, reduceIte, Nat.reduceEqDiff, Nat.reduceAdd, pw]; refine k' _ _ ?_; clear k' K')
      all_goals (refine S.g rfl rfl fun K' k' => ?_; simp only [zz, reduceIte, Nat.reduceEqDiff, Nat.reduceLT, Nat.reduceLeDiff, Nat.reduceAdd, reduceCtorEq, Nat.reduceMul, pw]; refine (keep_spec g r b _ 0 _ _ hs2).to fun v σ3 hv => ?_; obtain ⟨rfl, hs3, hf3⟩ := hv <;> (refine k' _ _ ?_; clear k' K'))
      all_goals refine S.nil ?_
      all_goals simp only [ze, reduceIte, Nat.reduceEqDiff, Nat.reduceLT, Nat.reduceLeDiff, Nat.reduceAdd, reduceCtorEq, Nat.reduceMul, pw]
      all_goals apply_assumption
      refine AW.seq_k fun K7 h7 => ?_
      all_goals refine AW.reg0 ?_
      all_goals iterate 2 (refine S.g rfl rfl fun K' k' => ?_; simp only [zz, reduceIte, Nat.reduceEqDiff, Nat.reduceAdd]; refine k' _ _ ?_; clear k' K')
      all_goals refine S.nil ?_
      all_goals simp only [ze, reduceIte, Nat.reduceEqDiff, Nat.reduceLT, Nat.reduceLeDiff, Nat.reduceAdd, reduceCtorEq, Nat.reduceMul]
      all_goals apply_assumption
      refine AW.ret ?_
      all_goals simp only [zs, reduceIte, Nat.reduceEqDiff, Nat.reduceLT, Nat.reduceLeDiff, Nat.reduceAdd, reduceCtorEq, Nat.reduceMul]
      exact ⟨0, _, _, rfl, trivial, hs3, hf2.trans hf3, .inr ⟨hd, At_er hN⟩⟩
    · have hcl := numP_ok hN
      refine AW.seq_k fun K8 h8 => ?_
      all_goals refine AW.reg0 ?_
      all_goals iterate 4 (refine S.g rfl rfl fun K' k' => ?_; simp only [zz, reduceIte, Nat.reduceEqDiff, Nat.reduceLT, Nat.reduceLeDiff, Nat.reduceAdd, reduceCtorEq, Nat.reduceMul, of170_0, ok82, sz82, ag82, ptrV, hr, map2, List.getD_cons_succ, List.getD_cons_zero]; refine k' _ _ ?_; clear k' K')
      all_goals (refine S.g rfl rfl fun K' k' => ?_; simp only [zz, reduceIte, Nat.reduceEqDiff, Nat.reduceLT, Nat.reduceLeDiff, Nat.reduceAdd, reduceCtorEq, Nat.reduceMul, ptrV, hr, map2, List.getD_cons_succ, List.getD_cons_zero]; refine (sNum_spec g b q _ hs.src hb hb256 hs.le).to fun v σ2 hv => ?_; simp only [hN] at hv; obtain ⟨rfl, hσ⟩ := hv <;> (refine k' _ _ ?_; clear k' K'))
      all_goals iterate 5 (refine S.g rfl rfl fun K' k' => ?_; simp only [zz, reduceIte, Nat.reduceEqDiff, Nat.reduceLT, Nat.reduceLeDiff, Nat.reduceAdd, reduceCtorEq, Nat.reduceMul, ptrV, hr, map2, List.getD_cons_succ, List.getD_cons_zero]; refine k' _ _ ?_; clear k' K')
      all_goals refine S.nil ?_
      all_goals simp only [ze, reduceIte, Nat.reduceEqDiff, Nat.reduceLT, Nat.reduceLeDiff, Nat.reduceAdd, reduceCtorEq, Nat.reduceMul, ptrV, hr, map2, List.getD_cons_succ, List.getD_cons_zero]
      all_goals apply_assumption
      have hs2 : RS g r b (q + c) 0 σ2 := by rw [hσ]; exact hs.setg (by omega)
      have hf2 : Fr2 g r σ σ2 := by rw [hσ]; exact Fr2.setg
      refine AW.seq_k fun K9 h9 => ?_
      all_goals refine AW.reg0 ?_
      all_goals iterate 2 (refine S.g rfl rfl fun K' k' => ?_; simp only [zz, reduceIte, Nat.reduceEqDiff, Nat.reduceAdd, pw]; refine k' _ _ ?_; clear k' K')
      all_goals (refine S.g rfl rfl fun K' k' => ?_; simp only [zz, reduceIte, Nat.reduceEqDiff, Nat.reduceLT, Nat.reduceLeDiff, Nat.reduceAdd, reduceCtorEq, Nat.reduceMul, pw]; refine (keep_spec g r b _ 0 _ _ hs2).to fun v σ3 hv => ?_; obtain ⟨rfl, hs3, hf3⟩ := hv <;> (refine k' _ _ ?_; clear k' K'))
      all_goals refine S.nil ?_
      all_goals simp only [ze, reduceIte, Nat.reduceEqDiff, Nat.reduceLT, Nat.reduceLeDiff, Nat.reduceAdd, reduceCtorEq, Nat.reduceMul, pw]
      all_goals apply_assumption
      refine AW.seq_k fun K10 h10 => ?_
      all_goals refine AW.reg0 ?_
      all_goals iterate 2 (refine S.g rfl rfl fun K' k' => ?_; simp only [zz, reduceIte, Nat.reduceEqDiff, Nat.reduceAdd]; refine k' _ _ ?_; clear k' K')
      all_goals refine S.nil ?_
      all_goals simp only [ze, reduceIte, Nat.reduceEqDiff, Nat.reduceLT, Nat.reduceLeDiff, Nat.reduceAdd, reduceCtorEq, Nat.reduceMul]
      all_goals apply_assumption
      refine AW.ret ?_
      all_goals simp only [zs, reduceIte, Nat.reduceEqDiff, Nat.reduceLT, Nat.reduceLeDiff, Nat.reduceAdd, reduceCtorEq, Nat.reduceMul]
      exact ⟨u, _, _, rfl, trivial, hs3, hf2.trans hf3, .inl ⟨rfl, At_ok hN⟩⟩
end Go.Abs.M
namespace Go.Abs.M
open Go Go.Abs Go.Proofs
set_option maxRecDepth 20000
set_option linter.unusedSimpArgs false
set_option linter.unusedVariables false
theorem strOf_size (t : List Nat) : (strOf t).size = t.length := by simp [strOf, ByteArray.size]
def goodA (a : Attr) : Prop := a.name.size < 4611686018427387904 ∧ a.v.s.size < 4611686018427387904
theorem attrP_at {b : List Nat} {q q2 : Nat} {e e2 : Int} {t : List Nat} (h : Lnk b q e textP t q2 e2) {q3 : Nat} {e3 : Int} {k : Nat} (h2 : Lnk b q2 e2 (bitsP 2) k q3 e3) :
    At b q e attrP = At b q3 e3 (Prs.bind (if k = 1 then Prs.bind numP fun n => Prs.ret ⟨1, n, ⟨#[]⟩⟩ else if k = 2 then Prs.bind textP fun t => Prs.ret ⟨2, 0, strOf t⟩ else Prs.err 40) fun v => Prs.ret ⟨strOf t, v⟩) := by
  unfold attrP
  rw [h.next]
  unfold valP
  rw [bind_assoc, h2.next]
theorem rdAttr_spec (g r : Nat) (b : List Nat) (q : Nat) (e : Int) (σ : Hp) (hs : RS g r b q e σ) (hb : b.length < 140737488355329) (hb256 : ∀ x ∈ b, x < 256) :
    ACalls Try.prog 157 [ptrV r] σ (Stp g r b q e attrP (fun a => .agg (encAttr a)) goodA σ) := by
  refine ACalls.intro Try.call157 Try.func157 rfl Try.ntmps157 Try.results157 (by simp) ?_
  refine AW.seq_k fun K1 h1 => ?_
  all_goals refine AW.reg0 ?_
  all_goals (refine S.g rfl rfl fun K' k' => ?_; simp only [zz, reduceIte, Nat.reduceEqDiff, Nat.reduceLT, Nat.reduceLeDiff, Nat.reduceAdd, reduceCtorEq, Nat.reduceMul, zt143]; refine k' _ _ ?_; clear k' K')
  all_goals refine S.nil ?_
  all_goals simp only [ze, reduceIte, Nat.reduceEqDiff, Nat.reduceLT, Nat.reduceLeDiff, Nat.reduceAdd, reduceCtorEq, Nat.reduceMul]
  all_goals apply_assumption
  refine AW.seq_k fun K2 h2 => ?_
  all_goals refine AW.reg0 ?_
  all_goals (refine S.g rfl rfl fun K' k' => ?_; simp only [zz, reduceIte, Nat.reduceEqDiff, Nat.reduceAdd, pw]; refine k' _ _ ?_; clear k' K')
  all_goals (refine S.g rfl rfl fun K' k' => ?_; simp only [zz, reduceIte, Nat.reduceEqDiff, Nat.reduceLT, Nat.reduceLeDiff, Nat.reduceAdd, reduceCtorEq, Nat.reduceMul, pw]; refine (rdText_spec g r b q e _ hs hb hb256).to fun v σ2 hv => ?_; obtain ⟨t, q2, e2, rfl, ht, hs2, hf2, hL1⟩ := hv <;> (refine k' _ _ ?_; clear k' K'))
  all_goals (refine S.g rfl rfl fun K' k' => ?_; simp only [zz, reduceIte, Nat.reduceEqDiff, Nat.reduceLT, Nat.reduceLeDiff, Nat.reduceAdd, reduceCtorEq, Nat.reduceMul, zt143, pl143, pw]; refine k' _ _ ?_; clear k' K')
  all_goals iterate 2 (refine S.g rfl rfl fun K' k' => ?_; simp only [zz, reduceIte, Nat.reduceEqDiff, Nat.reduceLT, Nat.reduceLeDiff, Nat.reduceAdd, reduceCtorEq, Nat.reduceMul, zt143, ok143, sz143, ag143, pw]; refine k' _ _ ?_; clear k' K')
  all_goals refine S.nil ?_
  all_goals simp only [ze, reduceIte, Nat.reduceEqDiff, Nat.reduceLT, Nat.reduceLeDiff, Nat.reduceAdd, reduceCtorEq, Nat.reduceMul, pw]
  all_goals apply_assumption
  refine AW.seq_k fun K3 h3 => ?_
  refine AW.seq_k fun K4 h4 => ?_
  all_goals refine AW.reg0 ?_
  all_goals (refine S.g rfl rfl fun K' k' => ?_; simp only [zz, reduceIte, Nat.reduceEqDiff, Nat.reduceAdd, pw, Nat.reduceLT, Nat.reduceLeDiff]; refine k' _ _ ?_; clear k' K')
  all_goals (refine S.g rfl rfl fun K' k' => ?_; simp only [zz, reduceIte, Nat.reduceEqDiff, Nat.reduceLT, Nat.reduceLeDiff, Nat.reduceAdd, reduceCtorEq, Nat.reduceMul, pw, Nat.reduceLT, Nat.reduceLeDiff]; refine (rdBits_spec g r b q2 2 e2 _ hs2 hb hb256 (by omega)).to fun v σ3 hv => ?_; obtain ⟨k, q3, e3, rfl, hk, hs3, hf3, hL2⟩ := hv <;> (refine k' _ _ ?_; clear k' K'))
  all_goals iterate 3 (refine S.g rfl rfl fun K' k' => ?_; simp only [zz, reduceIte, Nat.reduceEqDiff, Nat.reduceLT, Nat.reduceLeDiff, Nat.reduceAdd, reduceCtorEq, Nat.reduceMul, of143_1, of141_0, ok3, sz3, ag3, pw, Nat.reduceLT, Nat.reduceLeDiff]; refine k' _ _ ?_; clear k' K')
  all_goals refine S.nil ?_
  all_goals simp only [ze, reduceIte, Nat.reduceEqDiff, Nat.reduceLT, Nat.reduceLeDiff, Nat.reduceAdd, reduceCtorEq, Nat.reduceMul, pw, Nat.reduceLT, Nat.reduceLeDiff]
  all_goals apply_assumption
  have hA := attrP_at hL1 hL2
  have hk1 : ((k : Int) == 1) = _ := eqI k 1
  have hk2 : ((k : Int) == 2) = _ := eqI k 2
  refine AW.seq_k fun K5 h5 => ?_
  all_goals refine AW.reg0 ?_
  all_goals iterate 3 (refine S.g rfl rfl fun K' k' => ?_; simp only [zz, reduceIte, Nat.reduceEqDiff, Nat.reduceLT, Nat.reduceLeDiff, Nat.reduceAdd, reduceCtorEq, Nat.reduceMul, of143_1, of141_0, ok3, sz3, ag3]; refine k' _ _ ?_; clear k' K')
  all_goals refine S.nil ?_
  all_goals simp only [ze, reduceIte, Nat.reduceEqDiff, Nat.reduceLT, Nat.reduceLeDiff, Nat.reduceAdd, reduceCtorEq, Nat.reduceMul]
  all_goals apply_assumption
  refine AW.block ?_   -- 0
  refine AW.seq_k fun K6 h6 => ?_
  all_goals refine AW.reg0 ?_
  all_goals iterate 2 (refine S.g rfl rfl fun K' k' => ?_; simp only [zz, reduceIte, Nat.reduceEqDiff, Nat.reduceAdd, hk1]; refine k' _ _ ?_; clear k' K')
  all_goals refine S.nil ?_
  all_goals simp only [ze, reduceIte, Nat.reduceEqDiff, Nat.reduceLT, Nat.reduceLeDiff, Nat.reduceAdd, reduceCtorEq, Nat.reduceMul, hk1]
  all_goals apply_assumption
  have hg : ∀ x : ByteArray, x.size ≤ 2251799813685248 → ∀ m n : Int, goodA ⟨strOf t, ⟨m, n, x⟩⟩ := fun x hx m n => ⟨by show (strOf t).size < _; rw [strOf_size]; omega, by show x.size < _; omega⟩
  refine AW.cond (b := decide (k = 1)) (by simp [ev]) (fun hc => ?_) (fun hc => ?_)
  · have hc := of_decide_eq_true hc
    rw [if_pos hc, bind_assoc] at hA
    all_goals refine AW.reg0 ?_
    all_goals (refine S.g rfl rfl fun K' k' => ?_; simp only [zz, reduceIte, Nat.reduceEqDiff, Nat.reduceAdd, pw]; refine k' _ _ ?_; clear k' K')
    all_goals (refine S.g rfl rfl fun K' k' => ?_; simp only [zz, reduceIte, Nat.reduceEqDiff, Nat.reduceLT, Nat.reduceLeDiff, Nat.reduceAdd, reduceCtorEq, Nat.reduceMul, pw]; refine (rdNum_spec g r b q3 e3 _ hs3 hb hb256).to fun v σ4 hv => ?_; obtain ⟨n, q4, e4, rfl, _, hs4, hf4, hL3⟩ := hv <;> (refine k' _ _ ?_; clear k' K'))
    all_goals iterate 3 (refine S.g rfl rfl fun K' k' => ?_; simp only [zz, reduceIte, Nat.reduceEqDiff, Nat.reduceLT, Nat.reduceLeDiff, Nat.reduceAdd, reduceCtorEq, Nat.reduceMul, of143_1, of141_1, ok2, sz2, ag2, pw]; refine k' _ _ ?_; clear k' K')
    all_goals refine S.nil ?_
    all_goals simp only [ze, reduceIte, Nat.reduceEqDiff, Nat.reduceLT, Nat.reduceLeDiff, Nat.reduceAdd, reduceCtorEq, Nat.reduceMul, pw]
    all_goals apply_assumption
    rw [hL3.next, ret_bind] at hA
    refine AW.seq_k fun K7 h7 => ?_
    all_goals refine AW.reg0 ?_
    all_goals iterate 2 (refine S.g rfl rfl fun K' k' => ?_; simp only [zz, reduceIte, Nat.reduceEqDiff, Nat.reduceLT, Nat.reduceLeDiff, Nat.reduceAdd, reduceCtorEq, Nat.reduceMul, ok143, sz143, ag143]; refine k' _ _ ?_; clear k' K')
    all_goals refine S.nil ?_
    all_goals simp only [ze, reduceIte, Nat.reduceEqDiff, Nat.reduceLT, Nat.reduceLeDiff, Nat.reduceAdd, reduceCtorEq, Nat.reduceMul]
    all_goals apply_assumption
    refine AW.ret ?_
    all_goals simp only [zs, reduceIte, Nat.reduceEqDiff, Nat.reduceLT, Nat.reduceLeDiff, Nat.reduceAdd, reduceCtorEq, Nat.reduceMul, ok143, sz143, ag143, cut, List.drop_zero, List.take_succ_cons, List.take_zero]
    all_goals simp only [zz, Bool.false_eq_true, if_true, reduceIte, not_false_eq_true, true_and]
    exact ⟨⟨strOf t, ⟨1, n, ⟨#[]⟩⟩⟩, q4, e4, by simp [encAttr, hc], hg _ (by decide) _ _, hs4, hf2.trans (hf3.trans hf4), Lnk.of hA⟩
  · have hc := of_decide_eq_false hc
    rw [if_neg hc] at hA
    refine AW.seq_k fun K8 h8 => ?_
    all_goals refine AW.reg0 ?_
    all_goals iterate 2 (refine S.g rfl rfl fun K' k' => ?_; simp only [zz, reduceIte, Nat.reduceEqDiff, Nat.reduceAdd, hk2]; refine k' _ _ ?_; clear k' K')
    all_goals refine S.nil ?_
    all_goals simp only [ze, reduceIte, Nat.reduceEqDiff, Nat.reduceLT, Nat.reduceLeDiff, Nat.reduceAdd, reduceCtorEq, Nat.reduceMul, hk2]
    all_goals apply_assumption
    refine AW.cond (b := decide (k = 2)) (by simp [ev]) (fun hd => ?_) (fun hd => ?_)
    · have hd := of_decide_eq_true hd
      rw [if_pos hd, bind_assoc] at hA
      all_goals refine AW.reg0 ?_
      all_goals (refine S.g rfl rfl fun K' k' => ?_; simp only [zz, reduceIte, Nat.reduceEqDiff, Nat.reduceAdd, pw]; refine k' _ _ ?_; clear k' K')
      all_goals (refine S.g rfl rfl fun K' k' => ?_; simp only [zz, reduceIte, Nat.reduceEqDiff, Nat.reduceLT, Nat.reduceLeDiff, Nat.reduceAdd, reduceCtorEq, Nat.reduceMul, pw]; refine (rdText_spec g r b q3 e3 _ hs3 hb hb256).to fun v σ4 hv => ?_; obtain ⟨u, q4, e4, rfl, hu, hs4, hf4, hL3⟩ := hv <;> (refine k' _ _ ?_; clear k' K'))
      all_goals iterate 3 (refine S.g rfl rfl fun K' k' => ?_; simp only [zz, reduceIte, Nat.reduceEqDiff, Nat.reduceLT, Nat.reduceLeDiff, Nat.reduceAdd, reduceCtorEq, Nat.reduceMul, of143_1, of141_2, ok9, sz9, ag9, pw]; refine k' _ _ ?_; clear k' K')
      all_goals refine S.nil ?_
      all_goals simp only [ze, reduceIte, Nat.reduceEqDiff, Nat.reduceLT, Nat.reduceLeDiff, Nat.reduceAdd, reduceCtorEq, Nat.reduceMul, pw]
      all_goals apply_assumption
      rw [hL3.next, ret_bind] at hA
      refine AW.seq_k fun K9 h9 => ?_
      all_goals refine AW.reg0 ?_
      all_goals iterate 2 (refine S.g rfl rfl fun K' k' => ?_; simp only [zz, reduceIte, Nat.reduceEqDiff, Nat.reduceLT, Nat.reduceLeDiff, Nat.reduceAdd, reduceCtorEq, Nat.reduceMul, ok143, sz143, ag143]; refine k' _ _ ?_; clear k' K')
      all_goals refine S.nil ?_
      all_goals simp only [ze, reduceIte, Nat.reduceEqDiff, Nat.reduceLT, Nat.reduceLeDiff, Nat.reduceAdd, reduceCtorEq, Nat.reduceMul]
      all_goals apply_assumption
      refine AW.ret ?_
      all_goals simp only [zs, reduceIte, Nat.reduceEqDiff, Nat.reduceLT, Nat.reduceLeDiff, Nat.reduceAdd, reduceCtorEq, Nat.reduceMul, ok143, sz143, ag143, cut, List.drop_zero, List.take_succ_cons, List.take_zero]
      all_goals simp only [zz, Bool.false_eq_true, if_true, reduceIte, not_false_eq_true, true_and]
      exact ⟨⟨strOf t, ⟨2, 0, strOf u⟩⟩, q4, e4, by simp [encAttr, hd], hg _ (by rw [strOf_size]; exact hu) _ _, hs4, hf2.trans (hf3.trans hf4), Lnk.of hA⟩
    · have hd := of_decide_eq_false hd
      rw [if_neg hd, err_bind] at hA
      all_goals refine AW.reg0 ?_
      all_goals (refine S.g rfl rfl fun K' k' => ?_; simp only [zz, reduceIte, Nat.reduceEqDiff, Nat.reduceAdd, pw]; refine k' _ _ ?_; clear k' K')
      all_goals (refine S.g rfl rfl fun K' k' => ?_; simp only [zz, reduceIte, Nat.reduceEqDiff, Nat.reduceLT, Nat.reduceLeDiff, Nat.reduceAdd, reduceCtorEq, Nat.reduceMul, pw]; refine (keep_spec g r b q3 e3 40 _ hs3).to fun v σ4 hv => ?_; obtain ⟨rfl, hs4, hf4⟩ := hv <;> (refine k' _ _ ?_; clear k' K'))
      all_goals refine S.nil ?_
      all_goals simp only [ze, reduceIte, Nat.reduceEqDiff, Nat.reduceLT, Nat.reduceLeDiff, Nat.reduceAdd, reduceCtorEq, Nat.reduceMul, pw]
      all_goals apply_assumption
      refine AW.seq_k fun K10 h10 => ?_
      all_goals refine AW.reg0 ?_
      all_goals iterate 2 (refine S.g rfl rfl fun K' k' => ?_; simp only [zz, reduceIte, Nat.reduceEqDiff, Nat.reduceLT, Nat.reduceLeDiff, Nat.reduceAdd, reduceCtorEq, Nat.reduceMul, ok143, sz143, ag143]; refine k' _ _ ?_; clear k' K')
      all_goals refine S.nil ?_
      all_goals simp only [ze, reduceIte, Nat.reduceEqDiff, Nat.reduceLT, Nat.reduceLeDiff, Nat.reduceAdd, reduceCtorEq, Nat.reduceMul]
      all_goals apply_assumption
      refine AW.ret ?_
      all_goals simp only [zs, reduceIte, Nat.reduceEqDiff, Nat.reduceLT, Nat.reduceLeDiff, Nat.reduceAdd, reduceCtorEq, Nat.reduceMul, ok143, sz143, ag143, cut, List.drop_zero, List.take_succ_cons, List.take_zero]
      all_goals simp only [zz, Bool.false_eq_true, if_true, reduceIte, not_false_eq_true, true_and]
      refine ⟨⟨strOf t, ⟨k, 0, ⟨#[]⟩⟩⟩, q3, _, by simp [encAttr], hg _ (by decide) _ _, hs4, hf2.trans (hf3.trans hf4), Lnk.no _ (by split <;> simp_all) ?_⟩
      rw [hA]
      by_cases h3 : e3 = 0
      · rw [if_pos h3, h3]; rfl
      · rw [if_neg h3, At_err h3]
end Go.Abs.M
namespace Go.Abs.M
open Go Go.Abs Go.Proofs
set_option maxRecDepth 20000
set_option linter.unusedSimpArgs false
set_option linter.unusedVariables false
def chkE (e : Ev) : Prs Ev := if evErr e = 0 then Prs.ret e else Prs.err (evErr e)
def mkE (s q t : Nat) (ty : List Nat) (l : List Attr) : Ev := ⟨s, natV q, natV t, strOf ty, l⟩
/-- An event, as the program reads it. -/
def evQ : Prs Ev := Prs.bind (bitsP 4) fun s => Prs.bind natP fun q => Prs.bind natP fun t => Prs.bind textP fun ty => Prs.bind (bitsP 4) fun n =>
  if 8 < n then Prs.err 40 else Prs.bind (Prs.rep attrP n) fun l => chkE (mkE s q t ty l)
theorem rep_bind {α β : Type} (p : Prs α) (n : Nat) (f : List α → Prs β) : Prs.bind (Prs.rep p (n + 1)) f = Prs.bind p fun a => Prs.bind (Prs.rep p n) fun r => f (a :: r) := by
  rw [Prs.rep, bind_assoc]
  congr 1
  funext a
  rw [bind_assoc]
  congr 1
  funext r
  rw [ret_bind]
theorem Fr2.app {g r k k2 : Nat} {σ σ2 : Hp} {y : Option ((TypeId × Nat) × List (List V))} (hf : Fr2 g r σ σ2) (hk : σ.gr k = none) (hk2 : k2 ≠ k → σ2.gr k2 = none) : Fr2 g r σ ((σ2.setGr k none).setGr k2 y) ∧ σ.gr k2 = none := by
  have h2 : σ.gr k2 = none := by
    by_cases e : k2 = k
    · rw [e]; exact hk
    · cases h : σ.gr k2 with
      | none => rfl
      | some x => have := hf.gr _ _ h; rw [hk2 e] at this; cases this
  refine ⟨⟨fun x c hx hy hc => by simpa using hf.obj x c hx hy hc, fun j x hj => ?_⟩, h2⟩
  have h1 : j ≠ k := fun e => by rw [e, hk] at hj; cases hj
  have h3 : j ≠ k2 := fun e => by rw [e, h2] at hj; cases hj
  simp [h1, h3, hf.gr j x hj]
theorem Fr2.new {g r k2 : Nat} {σ σ2 : Hp} {y : Option ((TypeId × Nat) × List (List V))} (hf : Fr2 g r σ σ2) (hk2 : σ2.gr k2 = none) : Fr2 g r σ (σ2.setGr k2 y) ∧ σ.gr k2 = none := by
  have h2 : σ.gr k2 = none := by
    cases h : σ.gr k2 with
    | none => rfl
    | some x => have := hf.gr _ _ h; rw [hk2] at this; cases this
  refine ⟨⟨fun x c hx hy hc => by simpa using hf.obj x c hx hy hc, fun j x hj => ?_⟩, h2⟩
  have h3 : j ≠ k2 := fun e => by rw [e, h2] at hj; cases hj
  simp [h3, hf.gr j x hj]
theorem Fr2.drop {g r k : Nat} {σ σ2 : Hp} (hf : Fr2 g r σ σ2) (hk : σ.gr k = none) : Fr2 g r σ (σ2.setGr k none) :=
  ⟨fun x c hx hy hc => by simpa using hf.obj x c hx hy hc, fun j x hj => by
    have h1 : j ≠ k := fun e => by rw [e, hk] at hj; cases hj
    simp [h1, hf.gr j x hj]⟩
theorem RS.gr {g r q k : Nat} {b : List Nat} {e : Int} {σ : Hp} {y : Option ((TypeId × Nat) × List (List V))} (h : RS g r b q e σ) : RS g r b q e (σ.setGr k y) := ⟨h.ne, by simp [h.src], by simp [h.rd], h.le⟩
theorem okE_mk {s q t : Nat} {ty : List Nat} {l : List Attr} (ht : ty.length ≤ 2251799813685248) (hl : l.length ≤ 15) (hg : ∀ a ∈ l, goodA a) : okE (mkE s q t ty l) :=
  ⟨by show (strOf ty).size < _; rw [strOf_size]; omega, by show l.length < _; omega, hg⟩
theorem rdEvent_spec (g r : Nat) (b : List Nat) (q : Nat) (e : Int) (σ : Hp) (hs : RS g r b q e σ) (hb : b.length < 140737488355329) (hb256 : ∀ x ∈ b, x < 256) :
    ACalls Try.prog 143 [ptrV r] σ (Stp g r b q e evQ (fun a => .agg (encEv a)) okE σ) := by
  refine ACalls.intro Try.call143 Try.func143 rfl Try.ntmps143 Try.results143 (by simp) ?_
  refine AW.seq_k fun K1 h1 => ?_
  all_goals refine AW.reg0 ?_
  all_goals (refine S.g rfl rfl fun K' k' => ?_; simp only [zz, reduceIte, Nat.reduceEqDiff, Nat.reduceLT, Nat.reduceLeDiff, Nat.reduceAdd, reduceCtorEq, Nat.reduceMul, zt36]; refine k' _ _ ?_; clear k' K')
  all_goals refine S.nil ?_
  all_goals simp only [ze, reduceIte, Nat.reduceEqDiff, Nat.reduceLT, Nat.reduceLeDiff, Nat.reduceAdd, reduceCtorEq, Nat.reduceMul]
  all_goals apply_assumption
  refine AW.seq_k fun K2 h2 => ?_
  all_goals refine AW.reg0 ?_
  all_goals (refine S.g rfl rfl fun K' k' => ?_; simp only [zz, reduceIte, Nat.reduceEqDiff, Nat.reduceAdd, pw]; refine k' _ _ ?_; clear k' K')
  all_goals (refine S.g rfl rfl fun K' k' => ?_; simp only [zz, reduceIte, Nat.reduceEqDiff, Nat.reduceLT, Nat.reduceLeDiff, Nat.reduceAdd, reduceCtorEq, Nat.reduceMul, pw]; refine (rdBits_spec g r b q 4 e _ hs hb hb256 (by omega)).to fun v σ1 hv => ?_; obtain ⟨sN, q1, e1, rfl, hsN, hs1, hf1, hL1⟩ := hv <;> (refine k' _ _ ?_; clear k' K'))
  all_goals (refine S.g rfl rfl fun K' k' => ?_; simp only [zz, reduceIte, Nat.reduceEqDiff, Nat.reduceAdd, pw]; refine k' _ _ ?_; clear k' K')
  all_goals (refine S.g rfl rfl fun K' k' => ?_; simp only [zz, reduceIte, Nat.reduceEqDiff, Nat.reduceLT, Nat.reduceLeDiff, Nat.reduceAdd, reduceCtorEq, Nat.reduceMul, pw]; refine (rdNat_spec g r b q1 e1 _ hs1 hb hb256).to fun v σ2 hv => ?_; obtain ⟨qN, q2, e2, rfl, hqN, hs2, hf2, hL2⟩ := hv <;> (refine k' _ _ ?_; clear k' K'))
  all_goals (refine S.g rfl rfl fun K' k' => ?_; simp only [zz, reduceIte, Nat.reduceEqDiff, Nat.reduceLT, Nat.reduceLeDiff, Nat.reduceAdd, reduceCtorEq, Nat.reduceMul, zt33, pl33, pw]; refine k' _ _ ?_; clear k' K')
  all_goals (refine S.g rfl rfl fun K' k' => ?_; simp only [zz, reduceIte, Nat.reduceEqDiff, Nat.reduceLT, Nat.reduceLeDiff, Nat.reduceAdd, reduceCtorEq, Nat.reduceMul, zt36, pl36, pw]; refine k' _ _ ?_; clear k' K')
  all_goals iterate 2 (refine S.g rfl rfl fun K' k' => ?_; simp only [zz, reduceIte, Nat.reduceEqDiff, Nat.reduceLT, Nat.reduceLeDiff, Nat.reduceAdd, reduceCtorEq, Nat.reduceMul, zt36, ok36, sz36, ag36, pw]; refine k' _ _ ?_; clear k' K')
  all_goals refine S.nil ?_
  all_goals simp only [ze, reduceIte, Nat.reduceEqDiff, Nat.reduceLT, Nat.reduceLeDiff, Nat.reduceAdd, reduceCtorEq, Nat.reduceMul, pw]
  all_goals apply_assumption
  refine AW.seq_k fun K3 h3 => ?_
  all_goals refine AW.reg0 ?_
  all_goals (refine S.g rfl rfl fun K' k' => ?_; simp only [zz, reduceIte, Nat.reduceEqDiff, Nat.reduceAdd, pw]; refine k' _ _ ?_; clear k' K')
  all_goals (refine S.g rfl rfl fun K' k' => ?_; simp only [zz, reduceIte, Nat.reduceEqDiff, Nat.reduceLT, Nat.reduceLeDiff, Nat.reduceAdd, reduceCtorEq, Nat.reduceMul, pw]; refine (rdNat_spec g r b q2 e2 _ hs2 hb hb256).to fun v σ3 hv => ?_; obtain ⟨tN, q3, e3, rfl, htN, hs3, hf3, hL3⟩ := hv <;> (refine k' _ _ ?_; clear k' K'))
  all_goals iterate 2 (refine S.g rfl rfl fun K' k' => ?_; simp only [zz, reduceIte, Nat.reduceEqDiff, Nat.reduceLT, Nat.reduceLeDiff, Nat.reduceAdd, reduceCtorEq, Nat.reduceMul, of36_1, ok2, sz2, ag2, pw]; refine k' _ _ ?_; clear k' K')
  all_goals refine S.nil ?_
  all_goals simp only [ze, reduceIte, Nat.reduceEqDiff, Nat.reduceLT, Nat.reduceLeDiff, Nat.reduceAdd, reduceCtorEq, Nat.reduceMul, pw]
  all_goals apply_assumption
  refine AW.seq_k fun K4 h4 => ?_
  all_goals refine AW.reg0 ?_
  all_goals (refine S.g rfl rfl fun K' k' => ?_; simp only [zz, reduceIte, Nat.reduceEqDiff, Nat.reduceAdd, pw]; refine k' _ _ ?_; clear k' K')
  all_goals (refine S.g rfl rfl fun K' k' => ?_; simp only [zz, reduceIte, Nat.reduceEqDiff, Nat.reduceLT, Nat.reduceLeDiff, Nat.reduceAdd, reduceCtorEq, Nat.reduceMul, pw]; refine (rdText_spec g r b q3 e3 _ hs3 hb hb256).to fun v σ4 hv => ?_; obtain ⟨ty, q4, e4, rfl, hty, hs4, hf4, hL4⟩ := hv <;> (refine k' _ _ ?_; clear k' K'))
  all_goals iterate 2 (refine S.g rfl rfl fun K' k' => ?_; simp only [zz, reduceIte, Nat.reduceEqDiff, Nat.reduceLT, Nat.reduceLeDiff, Nat.reduceAdd, reduceCtorEq, Nat.reduceMul, of36_2, ok9, sz9, ag9, pw]; refine k' _ _ ?_; clear k' K')
  all_goals refine S.nil ?_
  all_goals simp only [ze, reduceIte, Nat.reduceEqDiff, Nat.reduceLT, Nat.reduceLeDiff, Nat.reduceAdd, reduceCtorEq, Nat.reduceMul, pw]
  all_goals apply_assumption
  refine AW.seq_k fun K5 h5 => ?_
  all_goals refine AW.reg0 ?_
  all_goals (refine S.g rfl rfl fun K' k' => ?_; simp only [zz, reduceIte, Nat.reduceEqDiff, Nat.reduceAdd, pw]; refine k' _ _ ?_; clear k' K')
  all_goals (refine S.g rfl rfl fun K' k' => ?_; simp only [zz, reduceIte, Nat.reduceEqDiff, Nat.reduceLT, Nat.reduceLeDiff, Nat.reduceAdd, reduceCtorEq, Nat.reduceMul, pw]; refine (rdBits_spec g r b q4 4 e4 _ hs4 hb hb256 (by omega)).to fun v σ5 hv => ?_; obtain ⟨n, q5, e5, rfl, hn, hs5, hf5, hL5⟩ := hv <;> (refine k' _ _ ?_; clear k' K'))
  all_goals (refine S.g rfl rfl fun K' k' => ?_; simp only [zz, reduceIte, Nat.reduceEqDiff, Nat.reduceAdd, pw]; refine k' _ _ ?_; clear k' K')
  all_goals refine S.nil ?_
  all_goals simp only [ze, reduceIte, Nat.reduceEqDiff, Nat.reduceLT, Nat.reduceLeDiff, Nat.reduceAdd, reduceCtorEq, Nat.reduceMul, pw]
  all_goals apply_assumption
  have hA : At b q e evQ = At b q5 e5 (if 8 < n then Prs.err 40 else Prs.bind (Prs.rep attrP n) fun l => chkE (mkE sN qN tN ty l)) := by
    unfold evQ
    rw [hL1.next, hL2.next, hL3.next, hL4.next, hL5.next]
  have hfa : Fr2 g r σ σ5 := hf1.trans (hf2.trans (hf3.trans (hf4.trans hf5)))
  refine AW.seq_j (fun s σ' => s.t 0 = ptrV r ∧ s.t 2 = .lp 2 0 ∧ s.l 2 = some [.c (.int .i64 0), .c (.int .i64 0), .c (.int .i64 0), .c (.string ⟨#[]⟩), .c (.slice none 0 0)] ∧ s.t 3 = .lp 3 0 ∧
    s.l 3 = some [.c (.int .i64 (sN : Nat)), .c (.int .i64 (natV qN)), .c (.int .i64 (natV tN)), .c (.string (strOf ty)), .c (.slice none 0 0)] ∧ s.t 4 = .c (.int .i64 (n : Nat)) ∧
    ∃ e6, RS g r b q5 e6 σ' ∧ Fr2 g r σ σ' ∧ At b q e evQ = At b q5 e6 (Prs.bind (Prs.rep attrP n) fun l => chkE (mkE sN qN tN ty l))) ?_ ?_
  · refine AW.seq_k fun K6 h6 => ?_
    all_goals refine AW.reg0 ?_
    all_goals iterate 2 (refine S.g rfl rfl fun K' k' => ?_; simp only [zz, reduceIte, Nat.reduceEqDiff, Nat.reduceAdd, gt_iff_lt]; refine k' _ _ ?_; clear k' K')
    all_goals refine S.nil ?_
    all_goals simp only [ze, reduceIte, Nat.reduceEqDiff, Nat.reduceLT, Nat.reduceLeDiff, Nat.reduceAdd, reduceCtorEq, Nat.reduceMul, gt_iff_lt]
    all_goals apply_assumption
    refine AW.cond (b := decide (8 < n)) (by simp [ev]; try omega) (fun hc => ?_) (fun hc => ?_)
    · have hc := of_decide_eq_true hc
      all_goals refine AW.reg0 ?_
      all_goals (refine S.g rfl rfl fun K' k' => ?_; simp only [zz, reduceIte, Nat.reduceEqDiff, Nat.reduceAdd, pw]; refine k' _ _ ?_; clear k' K')
      all_goals (refine S.g rfl rfl fun K' k' => ?_; simp only [zz, reduceIte, Nat.reduceEqDiff, Nat.reduceLT, Nat.reduceLeDiff, Nat.reduceAdd, reduceCtorEq, Nat.reduceMul, pw]; refine (keep_spec g r b q5 e5 40 _ hs5).to fun v σ6 hv => ?_; obtain ⟨rfl, hs6, hf6⟩ := hv <;> (refine k' _ _ ?_; clear k' K'))
      all_goals refine S.nil ?_
      all_goals simp only [ze, reduceIte, Nat.reduceEqDiff, Nat.reduceLT, Nat.reduceLeDiff, Nat.reduceAdd, reduceCtorEq, Nat.reduceMul, pw]
      refine ⟨_, hs6, hfa.trans hf6, ?_⟩
      rw [hA, if_pos hc]
      by_cases h5 : e5 = 0
      · rw [h5, if_pos rfl, At_err (e := 40) (by decide)]; rfl
      · rw [if_neg h5, At_err h5, At_err h5]
    · have hc := of_decide_eq_false hc
      refine AW.skip ?_
      all_goals simp only [zs, reduceIte, Nat.reduceEqDiff, Nat.reduceLT, Nat.reduceLeDiff, Nat.reduceAdd, reduceCtorEq, Nat.reduceMul]
      refine ⟨by simp [pw], e5, hs5, hfa, ?_⟩
      rw [hA, if_neg hc]
  rintro s σ' ⟨e0, e2', l2, e3', l3, e4', e6, hs6, hf6, hA6⟩
  clear hA hfa hf1 hf2 hf3 hf4 hf5 hs1 hs2 hs3 hs4 hs5 hL1 hL2 hL3 hL4 hL5
  refine AW.seq_j (fun s σ' => s.t 0 = ptrV r ∧ s.t 2 = .lp 2 0 ∧ s.l 2 = some [.c (.int .i64 0), .c (.int .i64 0), .c (.int .i64 0), .c (.string ⟨#[]⟩), .c (.slice none 0 0)] ∧ s.t 3 = .lp 3 0 ∧
    ∃ acc x q7 e7, s.l 3 = some [.c (.int .i64 (sN : Nat)), .c (.int .i64 (natV qN)), .c (.int .i64 (natV tN)), .c (.string (strOf ty)), x] ∧ (x = .sl (acc.map encAttr) ∨ (acc = [] ∧ x = .c (.slice none 0 0))) ∧
      RS g r b q7 e7 σ' ∧ Fr2 g r σ σ' ∧ acc.length ≤ 15 ∧ (∀ a ∈ acc, goodA a) ∧ At b q e evQ = At b q7 e7 (chkE (mkE sN qN tN ty acc))) ?_ ?_
  · refine AW.seq_k fun K7 h7 => ?_
    all_goals refine AW.reg0 ?_
    all_goals iterate 2 (refine S.g rfl rfl fun K' k' => ?_; simp only [zz, reduceIte, Nat.reduceEqDiff, Nat.reduceAdd, e4']; refine k' _ _ ?_; clear k' K')
    all_goals refine S.nil ?_
    all_goals simp only [ze, reduceIte, Nat.reduceEqDiff, Nat.reduceLT, Nat.reduceLeDiff, Nat.reduceAdd, reduceCtorEq, Nat.reduceMul, e4']
    all_goals apply_assumption
    refine AW.block ?_   -- 0
    refine AW.loop (fun m s σ' => s.t 0 = ptrV r ∧ s.t 2 = .lp 2 0 ∧ s.l 2 = some [.c (.int .i64 0), .c (.int .i64 0), .c (.int .i64 0), .c (.string ⟨#[]⟩), .c (.slice none 0 0)] ∧ s.t 3 = .lp 3 0 ∧ s.t 23 = .c (.int .i64 (n : Nat)) ∧
      ∃ acc x q7 e7, m = n - acc.length ∧ acc.length ≤ n ∧ s.t 24 = .c (.int .i64 (acc.length : Nat)) ∧ s.l 3 = some [.c (.int .i64 (sN : Nat)), .c (.int .i64 (natV qN)), .c (.int .i64 (natV tN)), .c (.string (strOf ty)), x] ∧
      RS g r b q7 e7 σ' ∧ Fr2 g r σ σ' ∧ (∀ a ∈ acc, goodA a) ∧ At b q e evQ = At b q7 e7 (Prs.bind (Prs.rep attrP (n - acc.length)) fun l => chkE (mkE sN qN tN ty (acc ++ l))) ∧
      ((acc = [] ∧ x = .c (.slice none 0 0)) ∨ (∃ k, x = .gl k ∧ σ.gr k = none ∧ σ'.gr k = some ((143, 4), acc.map encAttr)))) n ?_ ?_
    · all_goals simp only [zs, reduceIte, Nat.reduceEqDiff, Nat.reduceLT, Nat.reduceLeDiff, Nat.reduceAdd, reduceCtorEq, Nat.reduceMul, e0, e2', l2, e3', l3, e4']
      exact ⟨[], _, q5, e6, rfl, Nat.zero_le _, rfl, rfl, hs6, hf6, by simp, hA6, .inl ⟨rfl, rfl⟩⟩
    clear e0 e2' l2 e3' l3 e4' hs6 hf6 hA6
    rintro m s σ' ⟨e0, e2', l2, e3', e23, acc, x, q7, e7, hm, hal, e24, l3, hs7, hf7, hga, hA7, hx⟩
    have hout : ∀ (hA : At b q e evQ = At b q7 e7 (chkE (mkE sN qN tN ty acc))), AW Try.prog 50 (.exit 0) (fun z s σ => z = z) s σ' := fun _ => AW.exit rfl
    clear hout
    have hr := hs7.rd
    unfold ptrV at e0
    refine AW.seq_k fun K8 h8 => ?_
    all_goals refine AW.reg0 ?_
    all_goals (refine S.g rfl rfl fun K' k' => ?_; simp only [zz, reduceIte, Nat.reduceEqDiff, Nat.reduceAdd, e23, e24]; refine k' _ _ ?_; clear k' K')
    all_goals refine S.nil ?_
    all_goals simp only [ze, reduceIte, Nat.reduceEqDiff, Nat.reduceLT, Nat.reduceLeDiff, Nat.reduceAdd, reduceCtorEq, Nat.reduceMul, e23, e24]
    all_goals apply_assumption
    refine AW.seq_k fun K9 h9 => ?_
    refine AW.cond (b := decide (acc.length < n)) (by simp [ev]) (fun hc => ?_) (fun hc => ?_)
    · have hin := of_decide_eq_true hc
      refine AW.skip ?_
      all_goals simp only [zs, reduceIte, Nat.reduceEqDiff, Nat.reduceLT, Nat.reduceLeDiff, Nat.reduceAdd, reduceCtorEq, Nat.reduceMul]
      all_goals apply_assumption
      refine AW.seq_k fun K10 h10 => ?_
      refine AW.block ?_   -- 1
      refine AW.seq_k fun K11 h11 => ?_
      refine AW.seq_k fun K12 h12 => ?_
      all_goals refine AW.reg0 ?_
      all_goals iterate 5 (refine S.g rfl rfl fun K' k' => ?_; simp only [zz, reduceIte, Nat.reduceEqDiff, Nat.reduceLT, Nat.reduceLeDiff, Nat.reduceAdd, reduceCtorEq, Nat.reduceMul, of170_1, ok29, sz29, ag29, e0, hr, map2, List.getD_cons_succ, List.getD_cons_zero]; refine k' _ _ ?_; clear k' K')
      all_goals refine S.nil ?_
      all_goals simp only [ze, reduceIte, Nat.reduceEqDiff, Nat.reduceLT, Nat.reduceLeDiff, Nat.reduceAdd, reduceCtorEq, Nat.reduceMul, e0, hr, map2, List.getD_cons_succ, List.getD_cons_zero]
      all_goals apply_assumption
      refine AW.cond (b := decide (e7 ≠ 0)) (by simp [ev]; try rfl) (fun hd => ?_) (fun hd => ?_)
      · have hd := of_decide_eq_true hd
        rw [At_err hd] at hA7
        have hA8 : At b q e evQ = At b q7 e7 (chkE (mkE sN qN tN ty acc)) := by rw [hA7, At_err hd]
        rcases hx with ⟨rfl, rfl⟩ | ⟨k, rfl, hk, hgk⟩
        · refine AW.exit ?_
          all_goals simp only [zs, reduceIte, Nat.reduceEqDiff, Nat.reduceLT, Nat.reduceLeDiff, Nat.reduceAdd, reduceCtorEq, Nat.reduceMul, e0, e2', l2, e3', l3]
          exact ⟨rfl, [], _, q7, e7, rfl, .inr ⟨rfl, rfl⟩, hs7, hf7, Nat.zero_le _, hga, hA8⟩
        · refine AW.freeze (k := k) (T := (143, 4)) (es := acc.map encAttr) (by simpa using hgk) ?_
          refine AW.exit ?_
          all_goals simp only [zs, reduceIte, Nat.reduceEqDiff, Nat.reduceLT, Nat.reduceLeDiff, Nat.reduceAdd, reduceCtorEq, Nat.reduceMul, e0, e2', l2, e3', l3, fzV, fz1, St.fz_t, St.fz_l, Option.map_some, List.map]
          exact ⟨rfl, acc, _, q7, e7, rfl, .inl rfl, hs7.gr, hf7.drop hk, by omega, hga, hA8⟩
      have hd : e7 = 0 := by simpa using of_decide_eq_false hd
      subst hd
      refine AW.skip ?_
      all_goals simp only [zs, reduceIte, Nat.reduceEqDiff, Nat.reduceLT, Nat.reduceLeDiff, Nat.reduceAdd, reduceCtorEq, Nat.reduceMul]
      all_goals apply_assumption
      rw [show n - acc.length = (n - (acc.length + 1)) + 1 by omega, rep_bind] at hA7
      have hw : IntKind.i64.wrap ((acc.length : Int) + 1) = ((acc.length + 1 : Nat) : Int) := by rw [wrap_small _ (by omega) (by omega)]; rfl
      rcases hx with ⟨rfl, rfl⟩ | ⟨k, rfl, hk, hgk⟩
      · have hn0 : 0 < n := hin
        have hw : IntKind.i64.wrap (((([] : List Attr).length : Nat) : Int) + 1) = ((0 + 1 : Nat) : Int) := hw
        all_goals refine AW.drawF (T := { sd := fun _ => false }) (fun _ _ h => by cases h) mixedO (.st 0 0 (.st 2 0 (.fork 1 (.st 3 2 (.st 4 2 (.st 5 2 (.st 6 0 (.st 7 2 .nil))))) 3 (.fork 1 (.st 4 2 (.st 5 2 (.st 6 0 (.st 7 2 .nil)))) 4 (.st 1 2 (.st 5 2 (.st 6 0 (.st 7 2 .nil)))))))) rfl (by kernel_rfl) (by kernel_rfl) ?_
        all_goals iterate 2 (refine F.g rfl trivial rfl rfl fun K' k' => ?_; simp only [zz, reduceIte, Nat.reduceEqDiff, Nat.reduceLT, Nat.reduceLeDiff, Nat.reduceAdd, reduceCtorEq, Nat.reduceMul, of36_3, e0, e2', l2, e3', l3, encAttr]; refine k' _ _ ?_; clear k' K')
        all_goals (try first | refine F.fork ?_ ?_ | refine F.fork3 ?_ ?_ ?_)
        all_goals first | (refine F.g rfl trivial rfl rfl fun K' k' => ?_; simp only [zz, reduceIte, Nat.reduceEqDiff, Nat.reduceLT, Nat.reduceLeDiff, Nat.reduceAdd, reduceCtorEq, Nat.reduceMul, e0, e2', l2, e3', l3, encAttr]; refine (rdAttr_spec g r b q7 0 _ hs7 hb hb256).to fun v σ8 hv => ?_; obtain ⟨a, q8, e8, rfl, ha, hs8, hf8, hL8⟩ := hv <;> (refine k' _ _ ?_; clear k' K')) | (refine F.g rfl trivial rfl rfl fun K' k' => ?_; simp only [zz, reduceIte, Nat.reduceEqDiff, Nat.reduceLT, Nat.reduceLeDiff, Nat.reduceAdd, reduceCtorEq, Nat.reduceMul, ok34, sz34, ag34, e0, e2', l2, e3', l3, encAttr]; refine k' _ _ ?_; clear k' K')
        all_goals (try first | refine F.fork ?_ ?_ | refine F.fork3 ?_ ?_ ?_)
        all_goals first | (refine F.g rfl trivial rfl rfl fun K' k' => ?_; simp only [zz, reduceIte, Nat.reduceEqDiff, Nat.reduceLT, Nat.reduceLeDiff, Nat.reduceAdd, reduceCtorEq, Nat.reduceMul, e0, e2', l2, e3', l3, encAttr]; refine (rdAttr_spec g r b q7 0 _ hs7 hb hb256).to fun v σ8 hv => ?_; obtain ⟨a, q8, e8, rfl, ha, hs8, hf8, hL8⟩ := hv <;> (refine k' _ _ ?_; clear k' K')) | (refine F.g rfl trivial rfl rfl fun K' k' => ?_; simp only [zz, reduceIte, Nat.reduceEqDiff, Nat.reduceLT, Nat.reduceLeDiff, Nat.reduceAdd, reduceCtorEq, Nat.reduceMul, ok34, sz34, ag34, e0, e2', l2, e3', l3, encAttr]; refine k' _ _ ?_; clear k' K') | (refine F.g rfl trivial rfl rfl fun K' k' => ?_; simp only [zb, reduceIte, Nat.reduceEqDiff, Nat.reduceLT, Nat.reduceLeDiff, Nat.reduceAdd, reduceCtorEq, Nat.reduceMul, sl34, el34, ok143, sz143, ag143, zt143, by143, e0, e2', l2, e3', l3, encAttr]; refine k' _ _ ?_; clear k' K')
        all_goals first | (refine F.g rfl trivial rfl rfl fun K' k' => ?_; simp only [zb, reduceIte, Nat.reduceEqDiff, Nat.reduceLT, Nat.reduceLeDiff, Nat.reduceAdd, reduceCtorEq, Nat.reduceMul, sl34, el34, ok143, sz143, ag143, zt143, by143, e0, e2', l2, e3', l3, encAttr]; refine k' _ _ ?_; clear k' K') | (refine F.g rfl trivial rfl rfl fun K' k' => ?_; simp only [zz, reduceIte, Nat.reduceEqDiff, Nat.reduceLT, Nat.reduceLeDiff, Nat.reduceAdd, reduceCtorEq, Nat.reduceMul, ok34, sz34, ag34, e0, e2', l2, e3', l3, encAttr]; refine k' _ _ ?_; clear k' K')
        all_goals (refine F.g rfl trivial rfl rfl fun K' k' => ?_; simp only [zz, reduceIte, Nat.reduceEqDiff, Nat.reduceLT, Nat.reduceLeDiff, Nat.reduceAdd, reduceCtorEq, Nat.reduceMul, sl34, el34, ok143, sz143, ag143, zt143, by143, e0, e2', l2, e3', l3, encAttr]; refine ⟨by simp, by unfold maxLen; (try simp only [List.length_map, List.length_cons, List.length_nil]); omega, by unfold reach; (try simp only [List.length_map, List.length_cons, List.length_nil]); omega, fun k2 hk2 => ?_⟩ <;> (refine k' _ _ ?_; clear k' K'))
        all_goals iterate 2 (refine F.g rfl trivial rfl rfl fun K' k' => ?_; simp only [zz, reduceIte, Nat.reduceEqDiff, Nat.reduceLT, Nat.reduceLeDiff, Nat.reduceAdd, reduceCtorEq, Nat.reduceMul, of36_3, ok34, sz34, ag34, e0, e2', l2, e3', l3, encAttr]; refine k' _ _ ?_; clear k' K')
        all_goals refine F.nil ?_
        all_goals simp only [ze, reduceIte, Nat.reduceEqDiff, Nat.reduceLT, Nat.reduceLeDiff, Nat.reduceAdd, reduceCtorEq, Nat.reduceMul, e0, e2', l2, e3', l3, encAttr]
        all_goals apply_assumption
        all_goals refine AW.reg0 ?_
        all_goals iterate 2 (refine S.g rfl rfl fun K' k' => ?_; simp only [zz, reduceIte, Nat.reduceEqDiff, Nat.reduceAdd, e24, hw, e0, e2', l2, e3', l3, e23]; refine k' _ _ ?_; clear k' K')
        all_goals refine S.nil ?_
        all_goals simp only [ze, reduceIte, Nat.reduceEqDiff, Nat.reduceLT, Nat.reduceLeDiff, Nat.reduceAdd, reduceCtorEq, Nat.reduceMul, e24, hw, e0, e2', l2, e3', l3, e23]
        all_goals
          rw [hL8.next] at hA7
          obtain ⟨hfn, hkn⟩ := (hf7.trans hf8).new (k2 := k2) (y := some ((143, 4), [encAttr a])) hk2
          exact ⟨n - 1, by rw [hm]; exact Nat.sub_lt hn0 Nat.one_pos, rfl, [a], .gl k2, q8, e8, rfl, hn0, rfl, rfl, hs8.gr, hfn, by simpa using ha, by simpa using hA7, .inr ⟨k2, rfl, hkn, by simp [encAttr]⟩⟩
      · skip
        all_goals refine AW.drawF (T := { sd := fun _ => false }) (fun _ _ h => by cases h) mixedO (.st 0 0 (.st 2 0 (.fork 1 (.st 3 2 (.st 4 2 (.st 5 2 (.st 6 0 (.st 7 2 .nil))))) 3 (.fork 1 (.st 4 2 (.st 5 2 (.st 6 0 (.st 7 2 .nil)))) 4 (.st 1 2 (.st 5 2 (.st 6 0 (.st 7 2 .nil)))))))) rfl (by kernel_rfl) (by kernel_rfl) ?_
        all_goals iterate 2 (refine F.g rfl trivial rfl rfl fun K' k' => ?_; simp only [zz, reduceIte, Nat.reduceEqDiff, Nat.reduceLT, Nat.reduceLeDiff, Nat.reduceAdd, reduceCtorEq, Nat.reduceMul, of36_3, e0, e2', l2, e3', l3, encAttr]; refine k' _ _ ?_; clear k' K')
        all_goals (try first | refine F.fork ?_ ?_ | refine F.fork3 ?_ ?_ ?_)
        all_goals first | (refine F.g rfl trivial rfl rfl fun K' k' => ?_; simp only [zz, reduceIte, Nat.reduceEqDiff, Nat.reduceLT, Nat.reduceLeDiff, Nat.reduceAdd, reduceCtorEq, Nat.reduceMul, e0, e2', l2, e3', l3, encAttr]; refine (rdAttr_spec g r b q7 0 _ hs7 hb hb256).to fun v σ8 hv => ?_; obtain ⟨a, q8, e8, rfl, ha, hs8, hf8, hL8⟩ := hv; have hg8 := hf8.gr _ _ hgk <;> (refine k' _ _ ?_; clear k' K')) | (refine F.g rfl trivial rfl rfl fun K' k' => ?_; simp only [zz, reduceIte, Nat.reduceEqDiff, Nat.reduceLT, Nat.reduceLeDiff, Nat.reduceAdd, reduceCtorEq, Nat.reduceMul, ok34, sz34, ag34, e0, e2', l2, e3', l3, encAttr]; refine k' _ _ ?_; clear k' K')
        all_goals (try first | refine F.fork ?_ ?_ | refine F.fork3 ?_ ?_ ?_)
        all_goals first | (refine F.g rfl trivial rfl rfl fun K' k' => ?_; simp only [zz, reduceIte, Nat.reduceEqDiff, Nat.reduceLT, Nat.reduceLeDiff, Nat.reduceAdd, reduceCtorEq, Nat.reduceMul, e0, e2', l2, e3', l3, encAttr]; refine (rdAttr_spec g r b q7 0 _ hs7 hb hb256).to fun v σ8 hv => ?_; obtain ⟨a, q8, e8, rfl, ha, hs8, hf8, hL8⟩ := hv; have hg8 := hf8.gr _ _ hgk <;> (refine k' _ _ ?_; clear k' K')) | (refine F.g rfl trivial rfl rfl fun K' k' => ?_; simp only [zz, reduceIte, Nat.reduceEqDiff, Nat.reduceLT, Nat.reduceLeDiff, Nat.reduceAdd, reduceCtorEq, Nat.reduceMul, ok34, sz34, ag34, e0, e2', l2, e3', l3, encAttr]; refine k' _ _ ?_; clear k' K') | (refine F.g rfl trivial rfl rfl fun K' k' => ?_; simp only [zb, reduceIte, Nat.reduceEqDiff, Nat.reduceLT, Nat.reduceLeDiff, Nat.reduceAdd, reduceCtorEq, Nat.reduceMul, sl34, el34, ok143, sz143, ag143, zt143, by143, e0, e2', l2, e3', l3, encAttr]; refine k' _ _ ?_; clear k' K')
        all_goals first | (refine F.g rfl trivial rfl rfl fun K' k' => ?_; simp only [zb, reduceIte, Nat.reduceEqDiff, Nat.reduceLT, Nat.reduceLeDiff, Nat.reduceAdd, reduceCtorEq, Nat.reduceMul, sl34, el34, ok143, sz143, ag143, zt143, by143, e0, e2', l2, e3', l3, encAttr]; refine k' _ _ ?_; clear k' K') | (refine F.g rfl trivial rfl rfl fun K' k' => ?_; simp only [zz, reduceIte, Nat.reduceEqDiff, Nat.reduceLT, Nat.reduceLeDiff, Nat.reduceAdd, reduceCtorEq, Nat.reduceMul, ok34, sz34, ag34, e0, e2', l2, e3', l3, encAttr]; refine k' _ _ ?_; clear k' K')
        all_goals (refine F.g rfl trivial rfl rfl fun K' k' => ?_; simp only [zz, reduceIte, Nat.reduceEqDiff, Nat.reduceLT, Nat.reduceLeDiff, Nat.reduceAdd, reduceCtorEq, Nat.reduceMul, sl34, el34, ok143, sz143, ag143, zt143, by143, e0, e2', l2, e3', l3, encAttr, hg8]; refine ⟨by simp, by unfold maxLen; (try simp only [List.length_map, List.length_cons, List.length_nil]); omega, by unfold reach; (try simp only [List.length_map, List.length_cons, List.length_nil]); omega, fun k2 hk2 => ?_⟩ <;> (refine k' _ _ ?_; clear k' K'))
        all_goals iterate 2 (refine F.g rfl trivial rfl rfl fun K' k' => ?_; simp only [zz, reduceIte, Nat.reduceEqDiff, Nat.reduceLT, Nat.reduceLeDiff, Nat.reduceAdd, reduceCtorEq, Nat.reduceMul, of36_3, ok34, sz34, ag34, e0, e2', l2, e3', l3, encAttr]; refine k' _ _ ?_; clear k' K')
        all_goals refine F.nil ?_
        all_goals simp only [ze, reduceIte, Nat.reduceEqDiff, Nat.reduceLT, Nat.reduceLeDiff, Nat.reduceAdd, reduceCtorEq, Nat.reduceMul, e0, e2', l2, e3', l3, encAttr]
        all_goals apply_assumption
        all_goals refine AW.reg0 ?_
        all_goals iterate 2 (refine S.g rfl rfl fun K' k' => ?_; simp only [zz, reduceIte, Nat.reduceEqDiff, Nat.reduceAdd, e24, hw, e0, e2', l2, e3', l3, e23]; refine k' _ _ ?_; clear k' K')
        all_goals refine S.nil ?_
        all_goals simp only [ze, reduceIte, Nat.reduceEqDiff, Nat.reduceLT, Nat.reduceLeDiff, Nat.reduceAdd, reduceCtorEq, Nat.reduceMul, e24, hw, e0, e2', l2, e3', l3, e23]
        all_goals
          rw [hL8.next] at hA7
          obtain ⟨hfn, hkn⟩ := (hf7.trans hf8).app (k2 := k2) (y := some ((143, 4), acc.map encAttr ++ [encAttr a])) hk (fun e => by simpa [e] using hk2)
          exact ⟨n - (acc.length + 1), by omega, rfl, acc ++ [a], .gl k2, q8, e8, by simp, by simp; omega, by simp, rfl, hs8.gr.gr, hfn, fun y hy => by
            rcases List.mem_append.1 hy with h | h
            · exact hga y h
            · rw [List.mem_singleton.1 h]; exact ha, by simpa using hA7, .inr ⟨k2, rfl, hkn, by simp [encAttr]⟩⟩
    · have hin : acc.length = n := by have := of_decide_eq_false hc; omega
      rw [hin, Nat.sub_self] at hA7
      have hA8 : At b q e evQ = At b q7 e7 (chkE (mkE sN qN tN ty acc)) := by rw [hA7, Prs.rep, ret_bind, List.append_nil]
      rcases hx with ⟨rfl, rfl⟩ | ⟨k, rfl, hk, hgk⟩
      · refine AW.exit ?_
        all_goals simp only [zs, reduceIte, Nat.reduceEqDiff, Nat.reduceLT, Nat.reduceLeDiff, Nat.reduceAdd, reduceCtorEq, Nat.reduceMul, e0, e2', l2, e3', l3]
        exact ⟨rfl, [], _, q7, e7, rfl, .inr ⟨rfl, rfl⟩, hs7, hf7, Nat.zero_le _, hga, hA8⟩
      · refine AW.freeze (k := k) (T := (143, 4)) (es := acc.map encAttr) (by simpa using hgk) ?_
        refine AW.exit ?_
        all_goals simp only [zs, reduceIte, Nat.reduceEqDiff, Nat.reduceLT, Nat.reduceLeDiff, Nat.reduceAdd, reduceCtorEq, Nat.reduceMul, e0, e2', l2, e3', l3, fzV, fz1, St.fz_t, St.fz_l, Option.map_some, List.map]
        exact ⟨rfl, acc, _, q7, e7, rfl, .inl rfl, hs7.gr, hf7.drop hk, by omega, hga, hA8⟩
  clear e0 e2' l2 e3' l3 e4' hs6 hf6 hA6
  rintro s σ' ⟨e0, e2', l2, e3', acc, x, q7, e7, l3, hx, hs7, hf7, hal, hga, hA7⟩
  have hr := hs7.rd
  have hE := okE_mk (s := sN) (q := qN) (t := tN) hty hal hga
  have he7 : (e7 == 0) = decide (e7 = 0) := by rw [Bool.eq_iff_iff]; simp
  unfold ptrV at e0
  rcases hx with rfl | ⟨rfl, rfl⟩
  · refine AW.seq_k fun K13 h13 => ?_
    refine AW.seq_k fun K14 h14 => ?_
    all_goals refine AW.reg0 ?_
    all_goals iterate 5 (refine S.g rfl rfl fun K' k' => ?_; simp only [zz, reduceIte, Nat.reduceEqDiff, Nat.reduceLT, Nat.reduceLeDiff, Nat.reduceAdd, reduceCtorEq, Nat.reduceMul, of170_1, ok29, sz29, ag29, e0, hr, map2, he7, List.getD_cons_succ, List.getD_cons_zero]; refine k' _ _ ?_; clear k' K')
    all_goals refine S.nil ?_
    all_goals simp only [ze, reduceIte, Nat.reduceEqDiff, Nat.reduceLT, Nat.reduceLeDiff, Nat.reduceAdd, reduceCtorEq, Nat.reduceMul, e0, hr, map2, he7, List.getD_cons_succ, List.getD_cons_zero]
    all_goals apply_assumption
    refine AW.cond (b := decide (e7 = 0)) (by simp [ev]) (fun hd => ?_) (fun hd => ?_)
    · have hd := of_decide_eq_true hd
      subst hd
      all_goals refine AW.reg0 ?_
      all_goals iterate 2 (refine S.g rfl rfl fun K' k' => ?_; simp only [zz, reduceIte, Nat.reduceEqDiff, Nat.reduceLT, Nat.reduceLeDiff, Nat.reduceAdd, reduceCtorEq, Nat.reduceMul, ok36, sz36, ag36, e0, e3', l3, hr, map2, List.getD_cons_succ, List.getD_cons_zero]; refine k' _ _ ?_; clear k' K')
      all_goals (refine S.g rfl rfl fun K' k' => ?_; simp only [zz, reduceIte, Nat.reduceEqDiff, Nat.reduceLT, Nat.reduceLeDiff, Nat.reduceAdd, reduceCtorEq, Nat.reduceMul, e0, e3', l3, hr, map2, List.getD_cons_succ, List.getD_cons_zero]; refine PCalls.eqto (check_ev _ hE) ?_ <;> (refine k' _ _ ?_; clear k' K'))
      all_goals iterate 3 (refine S.g rfl rfl fun K' k' => ?_; simp only [zz, reduceIte, Nat.reduceEqDiff, Nat.reduceLT, Nat.reduceLeDiff, Nat.reduceAdd, reduceCtorEq, Nat.reduceMul, of170_1, ok29, sz29, ag29, e0, e3', l3, hr, map2, List.getD_cons_succ, List.getD_cons_zero]; refine k' _ _ ?_; clear k' K')
      all_goals refine S.nil ?_
      all_goals simp only [ze, reduceIte, Nat.reduceEqDiff, Nat.reduceLT, Nat.reduceLeDiff, Nat.reduceAdd, reduceCtorEq, Nat.reduceMul, e0, e3', l3, hr, map2, List.getD_cons_succ, List.getD_cons_zero]
      all_goals apply_assumption
      have hs8 := hs7.set (evErr (mkE sN qN tN ty acc))
      have hf8 : Fr2 g r σ _ := hf7.trans (Fr2.set (x := some [ptrV g, .c (.int .i64 (evErr (mkE sN qN tN ty acc)))]))
      refine AW.seq_k fun K15 h15 => ?_
      all_goals refine AW.reg0 ?_
      all_goals iterate 2 (refine S.g rfl rfl fun K' k' => ?_; simp only [zz, reduceIte, Nat.reduceEqDiff, Nat.reduceLT, Nat.reduceLeDiff, Nat.reduceAdd, reduceCtorEq, Nat.reduceMul, ok36, sz36, ag36, e2', l2, e3', l3]; refine k' _ _ ?_; clear k' K')
      all_goals refine S.nil ?_
      all_goals simp only [ze, reduceIte, Nat.reduceEqDiff, Nat.reduceLT, Nat.reduceLeDiff, Nat.reduceAdd, reduceCtorEq, Nat.reduceMul, e2', l2, e3', l3]
      all_goals apply_assumption
      refine AW.ret ?_
      all_goals simp only [zs, reduceIte, Nat.reduceEqDiff, Nat.reduceLT, Nat.reduceLeDiff, Nat.reduceAdd, reduceCtorEq, Nat.reduceMul, ok36, sz36, ag36, cut, List.drop_zero, List.take_succ_cons, List.take_zero, e2']
      all_goals simp only [zz, Bool.false_eq_true, if_true, reduceIte, not_false_eq_true, true_and, e2']
      refine ⟨mkE sN qN tN ty acc, q7, _, by simp [wk, wk1, encEv, mkE], hE, hs8, hf8, Lnk.of ?_⟩
      rw [hA7, chkE]
      by_cases hz : evErr (mkE sN qN tN ty acc) = 0
      · rw [if_pos hz, hz]
      · rw [if_neg hz, At_err hz]; rfl
    · have hd := of_decide_eq_false hd
      refine AW.skip ?_
      all_goals simp only [zs, reduceIte, Nat.reduceEqDiff, Nat.reduceLT, Nat.reduceLeDiff, Nat.reduceAdd, reduceCtorEq, Nat.reduceMul]
      all_goals apply_assumption
      refine AW.seq_k fun K16 h16 => ?_
      all_goals refine AW.reg0 ?_
      all_goals iterate 2 (refine S.g rfl rfl fun K' k' => ?_; simp only [zz, reduceIte, Nat.reduceEqDiff, Nat.reduceLT, Nat.reduceLeDiff, Nat.reduceAdd, reduceCtorEq, Nat.reduceMul, ok36, sz36, ag36, e2', l2, e3', l3]; refine k' _ _ ?_; clear k' K')
      all_goals refine S.nil ?_
      all_goals simp only [ze, reduceIte, Nat.reduceEqDiff, Nat.reduceLT, Nat.reduceLeDiff, Nat.reduceAdd, reduceCtorEq, Nat.reduceMul, e2', l2, e3', l3]
      all_goals apply_assumption
      refine AW.ret ?_
      all_goals simp only [zs, reduceIte, Nat.reduceEqDiff, Nat.reduceLT, Nat.reduceLeDiff, Nat.reduceAdd, reduceCtorEq, Nat.reduceMul, ok36, sz36, ag36, cut, List.drop_zero, List.take_succ_cons, List.take_zero, e2']
      all_goals simp only [zz, Bool.false_eq_true, if_true, reduceIte, not_false_eq_true, true_and, e2']
      refine ⟨mkE sN qN tN ty acc, q7, e7, by simp [wk, wk1, encEv, mkE], hE, hs7, hf7, Lnk.no _ hd ?_⟩
      rw [hA7, At_err hd]
  · refine AW.seq_k fun K17 h17 => ?_
    refine AW.seq_k fun K18 h18 => ?_
    all_goals refine AW.reg0 ?_
    all_goals iterate 5 (refine S.g rfl rfl fun K' k' => ?_; simp only [zz, reduceIte, Nat.reduceEqDiff, Nat.reduceLT, Nat.reduceLeDiff, Nat.reduceAdd, reduceCtorEq, Nat.reduceMul, of170_1, ok29, sz29, ag29, e0, hr, map2, he7, List.getD_cons_succ, List.getD_cons_zero]; refine k' _ _ ?_; clear k' K')
    all_goals refine S.nil ?_
    all_goals simp only [ze, reduceIte, Nat.reduceEqDiff, Nat.reduceLT, Nat.reduceLeDiff, Nat.reduceAdd, reduceCtorEq, Nat.reduceMul, e0, hr, map2, he7, List.getD_cons_succ, List.getD_cons_zero]
    all_goals apply_assumption
    refine AW.cond (b := decide (e7 = 0)) (by simp [ev]) (fun hd => ?_) (fun hd => ?_)
    · have hd := of_decide_eq_true hd
      subst hd
      all_goals refine AW.reg0 ?_
      all_goals iterate 2 (refine S.g rfl rfl fun K' k' => ?_; simp only [zz, reduceIte, Nat.reduceEqDiff, Nat.reduceLT, Nat.reduceLeDiff, Nat.reduceAdd, reduceCtorEq, Nat.reduceMul, ok36, sz36, ag36, e0, e3', l3, hr, map2, List.getD_cons_succ, List.getD_cons_zero]; refine k' _ _ ?_; clear k' K')
      all_goals (refine S.g rfl rfl fun K' k' => ?_; simp only [zz, reduceIte, Nat.reduceEqDiff, Nat.reduceLT, Nat.reduceLeDiff, Nat.reduceAdd, reduceCtorEq, Nat.reduceMul, e0, e3', l3, hr, map2, List.getD_cons_succ, List.getD_cons_zero]; refine PCalls.eqto (check_ev _ hE) ?_ <;> (refine k' _ _ ?_; clear k' K'))
      all_goals iterate 3 (refine S.g rfl rfl fun K' k' => ?_; simp only [zz, reduceIte, Nat.reduceEqDiff, Nat.reduceLT, Nat.reduceLeDiff, Nat.reduceAdd, reduceCtorEq, Nat.reduceMul, of170_1, ok29, sz29, ag29, e0, e3', l3, hr, map2, List.getD_cons_succ, List.getD_cons_zero]; refine k' _ _ ?_; clear k' K')
      all_goals refine S.nil ?_
      all_goals simp only [ze, reduceIte, Nat.reduceEqDiff, Nat.reduceLT, Nat.reduceLeDiff, Nat.reduceAdd, reduceCtorEq, Nat.reduceMul, e0, e3', l3, hr, map2, List.getD_cons_succ, List.getD_cons_zero]
      all_goals apply_assumption
      have hs8 := hs7.set (evErr (mkE sN qN tN ty []))
      have hf8 : Fr2 g r σ _ := hf7.trans (Fr2.set (x := some [ptrV g, .c (.int .i64 (evErr (mkE sN qN tN ty [])))]))
      refine AW.seq_k fun K19 h19 => ?_
      all_goals refine AW.reg0 ?_
      all_goals iterate 2 (refine S.g rfl rfl fun K' k' => ?_; simp only [zz, reduceIte, Nat.reduceEqDiff, Nat.reduceLT, Nat.reduceLeDiff, Nat.reduceAdd, reduceCtorEq, Nat.reduceMul, ok36, sz36, ag36, e2', l2, e3', l3]; refine k' _ _ ?_; clear k' K')
      all_goals refine S.nil ?_
      all_goals simp only [ze, reduceIte, Nat.reduceEqDiff, Nat.reduceLT, Nat.reduceLeDiff, Nat.reduceAdd, reduceCtorEq, Nat.reduceMul, e2', l2, e3', l3]
      all_goals apply_assumption
      refine AW.ret ?_
      all_goals simp only [zs, reduceIte, Nat.reduceEqDiff, Nat.reduceLT, Nat.reduceLeDiff, Nat.reduceAdd, reduceCtorEq, Nat.reduceMul, ok36, sz36, ag36, cut, List.drop_zero, List.take_succ_cons, List.take_zero, e2']
      all_goals simp only [zz, Bool.false_eq_true, if_true, reduceIte, not_false_eq_true, true_and, e2']
      refine ⟨mkE sN qN tN ty [], q7, _, by simp [wk, wk1, encEv, mkE], hE, hs8, hf8, Lnk.of ?_⟩
      rw [hA7, chkE]
      by_cases hz : evErr (mkE sN qN tN ty []) = 0
      · rw [if_pos hz, hz]
      · rw [if_neg hz, At_err hz]; rfl
    · have hd := of_decide_eq_false hd
      refine AW.skip ?_
      all_goals simp only [zs, reduceIte, Nat.reduceEqDiff, Nat.reduceLT, Nat.reduceLeDiff, Nat.reduceAdd, reduceCtorEq, Nat.reduceMul]
      all_goals apply_assumption
      refine AW.seq_k fun K20 h20 => ?_
      all_goals refine AW.reg0 ?_
      all_goals iterate 2 (refine S.g rfl rfl fun K' k' => ?_; simp only [zz, reduceIte, Nat.reduceEqDiff, Nat.reduceLT, Nat.reduceLeDiff, Nat.reduceAdd, reduceCtorEq, Nat.reduceMul, ok36, sz36, ag36, e2', l2, e3', l3]; refine k' _ _ ?_; clear k' K')
      all_goals refine S.nil ?_
      all_goals simp only [ze, reduceIte, Nat.reduceEqDiff, Nat.reduceLT, Nat.reduceLeDiff, Nat.reduceAdd, reduceCtorEq, Nat.reduceMul, e2', l2, e3', l3]
      all_goals apply_assumption
      refine AW.ret ?_
      all_goals simp only [zs, reduceIte, Nat.reduceEqDiff, Nat.reduceLT, Nat.reduceLeDiff, Nat.reduceAdd, reduceCtorEq, Nat.reduceMul, ok36, sz36, ag36, cut, List.drop_zero, List.take_succ_cons, List.take_zero, e2']
      all_goals simp only [zz, Bool.false_eq_true, if_true, reduceIte, not_false_eq_true, true_and, e2']
      refine ⟨mkE sN qN tN ty [], q7, e7, by simp [wk, wk1, encEv, mkE], hE, hs7, hf7, Lnk.no _ hd ?_⟩
      rw [hA7, At_err hd]
end Go.Abs.M
namespace Go.Abs.M
open Go Go.Abs Go.Proofs
set_option maxRecDepth 20000
set_option linter.unusedSimpArgs false
set_option linter.unusedVariables false
theorem Lnk.zero {α : Type} {b : List Nat} {q q' : Nat} {e' : Int} {p : Prs α} {a : α} (h : Lnk b q 0 p a q' e') : (e' = 0 ∧ ∃ c, p ((unB b).drop q) = .ok (a, c) ∧ q' = q + c) ∨ (e' ≠ 0 ∧ p ((unB b).drop q) = .error e') := by
  unfold Lnk At at h
  rw [if_pos rfl] at h
  cases hp : p ((unB b).drop q) with
  | error d =>
    rw [hp] at h
    rcases h with ⟨_, h⟩ | ⟨h1, h⟩
    · cases h
    · injection h with h; subst h; exact .inr ⟨h1, rfl⟩
  | ok x =>
    obtain ⟨x, c⟩ := x
    rw [hp] at h
    rcases h with ⟨h1, h⟩ | ⟨_, h⟩
    · injection h with h; injection h with h2 h3; subst h2; exact .inl ⟨h1, c, rfl, h3.symm⟩
    · cases h
/-- What a taking leaves: the thing, or what is wrong and where it stood. -/
def Tk {α : Type} (g : Nat) (b : List Nat) (q : Nat) (enc : α → V) (zero : V) (good : α → Prop) (p : Prs α) (σ : Hp) (v : V) (σ' : Hp) : Prop :=
  match p ((unB b).drop q) with
  | .ok (a, c) => v = .tup [enc a, .c (.int .i64 0)] ∧ σ'.obj g = some (srcC b (q + c)) ∧ q + c ≤ 8 * b.length ∧ good a ∧ Fr2 g g σ σ'
  | .error e => v = .tup [zero, .c (.int .i64 e)] ∧ e ≠ 0 ∧ σ'.obj g = some (srcC b q) ∧ Fr2 g g σ σ'
def zeroE : V := .agg [.c (.int .i64 0), .c (.int .i64 0), .c (.int .i64 0), .c (.string ⟨#[]⟩), .sl []]
theorem Fr2.one {g r : Nat} {σ σ' : Hp} {x : Option (List V)} (h : Fr2 g r (σ.setObj r x) σ') (hr : σ.obj r = none) : Fr2 g g σ σ' :=
  ⟨fun y c hy _ hc => h.obj y c hy (fun e => by rw [e, hr] at hc; cases hc) (by rw [Hp.setObj_obj, if_neg (fun e => by rw [e, hr] at hc; cases hc)]; exact hc), fun k x hk => h.gr k x hk⟩
theorem Fr2.setb {g : Nat} {σ σ' : Hp} {x : Option (List V)} (h : Fr2 g g σ σ') : Fr2 g g σ (σ'.setObj g x) :=
  ⟨fun y c hy hz hc => by rw [Hp.setObj_obj, if_neg hy]; exact h.obj y c hy hz hc, fun k x hk => h.gr k x hk⟩
theorem evTake_spec (g : Nat) (b : List Nat) (q : Nat) (σ : Hp) (ho : σ.obj g = some (srcC b q)) (hb : b.length < 140737488355329) (hb256 : ∀ x ∈ b, x < 256) (hq : q ≤ 8 * b.length) :
    ACalls Try.prog 124 [ptrV g] σ (Tk g b q (fun a => .agg (encEv a)) zeroE okE evQ σ) := by
  refine ACalls.intro Try.call124 Try.func124 rfl Try.ntmps124 Try.results124 (by simp) ?_
  have hz : σ.setObj g (some (srcC b (q + 0))) = σ := setObj_id ho
  have ho' : σ.obj g = some [.c (.bool true), .sl (b.map encB), .c (.int .i64 (q : Nat))] := ho
  refine AW.seq_k fun K1 h1 => ?_
  all_goals refine AW.reg0 ?_
  all_goals iterate 2 (refine S.g rfl rfl fun K' k' => ?_; simp only [zz, reduceIte, Nat.reduceEqDiff, Nat.reduceLT, Nat.reduceLeDiff, Nat.reduceAdd, reduceCtorEq, Nat.reduceMul, zt36]; refine k' _ _ ?_; clear k' K')
  all_goals refine S.nil ?_
  all_goals simp only [ze, reduceIte, Nat.reduceEqDiff, Nat.reduceLT, Nat.reduceLeDiff, Nat.reduceAdd, reduceCtorEq, Nat.reduceMul]
  all_goals apply_assumption
  refine AW.seq_k fun K2 h2 => ?_
  refine AW.seq_k fun K3 h3 => ?_
  all_goals refine AW.reg0 ?_
  all_goals (refine S.g rfl rfl fun K' k' => ?_; simp only [zz, reduceIte, Nat.reduceEqDiff, Nat.reduceAdd, pw]; refine k' _ _ ?_; clear k' K')
  all_goals (refine S.g rfl rfl fun K' k' => ?_; simp only [zz, reduceIte, Nat.reduceEqDiff, Nat.reduceLT, Nat.reduceLeDiff, Nat.reduceAdd, reduceCtorEq, Nat.reduceMul, pw]; refine (sBits_spec g b q 0 _ ho hb hb256 hq (by omega)).to fun v σ2 hv => ?_; rw [if_pos (by omega)] at hv; obtain ⟨rfl, hσ⟩ := hv <;> (refine k' _ _ ?_; clear k' K'))
  all_goals iterate 5 (refine S.g rfl rfl fun K' k' => ?_; simp only [zz, reduceIte, Nat.reduceEqDiff, Nat.reduceLT, Nat.reduceLeDiff, Nat.reduceAdd, reduceCtorEq, Nat.reduceMul, pw]; refine k' _ _ ?_; clear k' K')
  all_goals refine S.nil ?_
  all_goals simp only [ze, reduceIte, Nat.reduceEqDiff, Nat.reduceLT, Nat.reduceLeDiff, Nat.reduceAdd, reduceCtorEq, Nat.reduceMul, pw]
  all_goals apply_assumption
  rw [hz] at hσ
  subst hσ
  refine AW.seq_k fun K4 h4 => ?_
  all_goals refine AW.reg0 ?_
  all_goals iterate 2 (refine S.g rfl rfl fun K' k' => ?_; simp only [zz, reduceIte, Nat.reduceEqDiff, Nat.reduceAdd]; refine k' _ _ ?_; clear k' K')
  all_goals refine S.nil ?_
  all_goals simp only [ze, reduceIte, Nat.reduceEqDiff, Nat.reduceLT, Nat.reduceLeDiff, Nat.reduceAdd, reduceCtorEq, Nat.reduceMul]
  all_goals apply_assumption
  refine AW.cond (b := false) (by simp [ev]) (fun hc => by cases hc) (fun hc => ?_)
  refine AW.skip ?_
  all_goals simp only [zs, reduceIte, Nat.reduceEqDiff, Nat.reduceLT, Nat.reduceLeDiff, Nat.reduceAdd, reduceCtorEq, Nat.reduceMul]
  all_goals apply_assumption
  refine AW.seq_k fun K5 h5 => ?_
  all_goals refine AW.reg0 ?_
  all_goals iterate 5 (refine S.g rfl rfl fun K' k' => ?_; simp only [zz, reduceIte, Nat.reduceEqDiff, Nat.reduceLT, Nat.reduceLeDiff, Nat.reduceAdd, reduceCtorEq, Nat.reduceMul, ok129, sz129, ag129, zt129, pw, ptrV, ho', map3]; refine k' _ _ ?_; clear k' K')
  all_goals refine S.nil ?_
  all_goals simp only [ze, reduceIte, Nat.reduceEqDiff, Nat.reduceLT, Nat.reduceLeDiff, Nat.reduceAdd, reduceCtorEq, Nat.reduceMul, pw, ptrV, ho', map3]
  all_goals apply_assumption
  refine AW.seq_k fun K6 h6 => ?_
  all_goals refine AW.region (T := { hp := fun d => d == 22 }) (fun _ _ h => by cases h) rfl ?_
  all_goals (refine S.g rfl rfl fun K' k' => ?_; simp only [zz, reduceIte, Nat.reduceEqDiff, Nat.reduceAdd, pw]; refine k' _ _ ?_; clear k' K')
  all_goals (refine S.g rfl rfl fun K' k' => ?_; simp only [zz, reduceIte, Nat.reduceEqDiff, Nat.reduceLT, Nat.reduceLeDiff, Nat.reduceAdd, reduceCtorEq, Nat.reduceMul, zt170, pl170, pw]; refine k' _ _ ?_; clear k' K')
  all_goals (refine S.g rfl rfl fun K' k' => ?_; simp only [zz, reduceIte, Nat.reduceEqDiff, Nat.reduceLT, Nat.reduceLeDiff, Nat.reduceAdd, reduceCtorEq, Nat.reduceMul, ok170, sz170, ag170, pw]; intro r hr <;> (refine k' _ _ ?_; clear k' K'))
  all_goals (refine S.g rfl rfl fun K' k' => ?_; simp only [zz, reduceIte, Nat.reduceEqDiff, Nat.reduceAdd, pw]; refine k' _ _ ?_; clear k' K')
  all_goals refine S.nil ?_
  all_goals simp only [ze, reduceIte, Nat.reduceEqDiff, Nat.reduceLT, Nat.reduceLeDiff, Nat.reduceAdd, reduceCtorEq, Nat.reduceMul, pw]
  all_goals apply_assumption
  have hgr : g ≠ r := fun e => by rw [e, hr] at ho; cases ho
  have hs3 : RS g r b q 0 (σ2.setObj r (some [ptrV g, .c (.int .i64 0)])) := ⟨hgr, by simp [hgr, ho], by simp, hq⟩
  refine AW.seq_k fun K7 h7 => ?_
  all_goals refine AW.reg0 ?_
  all_goals (refine S.g rfl rfl fun K' k' => ?_; simp only [zz, reduceIte, Nat.reduceEqDiff, Nat.reduceAdd, pw, encEv]; refine k' _ _ ?_; clear k' K')
  all_goals (refine S.g rfl rfl fun K' k' => ?_; simp only [zz, reduceIte, Nat.reduceEqDiff, Nat.reduceLT, Nat.reduceLeDiff, Nat.reduceAdd, reduceCtorEq, Nat.reduceMul, pw, encEv]; refine (rdEvent_spec g r b q 0 _ hs3 hb hb256).to fun v σ4 hv => ?_; obtain ⟨x, q4, e4, rfl, hx, hs4, hf4, hL4⟩ := hv <;> (refine k' _ _ ?_; clear k' K'))
  all_goals iterate 2 (refine S.g rfl rfl fun K' k' => ?_; simp only [zz, reduceIte, Nat.reduceEqDiff, Nat.reduceLT, Nat.reduceLeDiff, Nat.reduceAdd, reduceCtorEq, Nat.reduceMul, zt36, ok36, sz36, ag36, pw, encEv]; refine k' _ _ ?_; clear k' K')
  all_goals refine S.nil ?_
  all_goals simp only [ze, reduceIte, Nat.reduceEqDiff, Nat.reduceLT, Nat.reduceLeDiff, Nat.reduceAdd, reduceCtorEq, Nat.reduceMul, pw, encEv]
  all_goals apply_assumption
  have hr4 := hs4.rd
  have hf5 : Fr2 g g σ2 σ4 := hf4.one hr
  refine AW.seq_k fun K8 h8 => ?_
  refine AW.seq_k fun K9 h9 => ?_
  all_goals refine AW.reg0 ?_
  all_goals iterate 5 (refine S.g rfl rfl fun K' k' => ?_; simp only [zz, reduceIte, Nat.reduceEqDiff, Nat.reduceLT, Nat.reduceLeDiff, Nat.reduceAdd, reduceCtorEq, Nat.reduceMul, of170_1, ok29, sz29, ag29, hr4, map2, List.getD_cons_succ, List.getD_cons_zero]; refine k' _ _ ?_; clear k' K')
  all_goals refine S.nil ?_
  all_goals simp only [ze, reduceIte, Nat.reduceEqDiff, Nat.reduceLT, Nat.reduceLeDiff, Nat.reduceAdd, reduceCtorEq, Nat.reduceMul, hr4, map2, List.getD_cons_succ, List.getD_cons_zero]
  all_goals apply_assumption
  have hrg := hgr.symm
  rcases hL4.zero with ⟨h0, c, hP, hq4⟩ | ⟨h0, hP⟩
  · subst h0
    refine AW.cond (b := false) (by simp [ev]) (fun hc => by cases hc) (fun hc => ?_)
    refine AW.skip ?_
    all_goals simp only [zs, reduceIte, Nat.reduceEqDiff, Nat.reduceLT, Nat.reduceLeDiff, Nat.reduceAdd, reduceCtorEq, Nat.reduceMul]
    all_goals apply_assumption
    refine AW.seq_k fun K10 h10 => ?_
    all_goals refine AW.reg0 ?_
    all_goals iterate 3 (refine S.g rfl rfl fun K' k' => ?_; simp only [zz, reduceIte, Nat.reduceEqDiff, Nat.reduceLT, Nat.reduceLeDiff, Nat.reduceAdd, reduceCtorEq, Nat.reduceMul, ok36, sz36, ag36]; refine k' _ _ ?_; clear k' K')
    all_goals refine S.nil ?_
    all_goals simp only [ze, reduceIte, Nat.reduceEqDiff, Nat.reduceLT, Nat.reduceLeDiff, Nat.reduceAdd, reduceCtorEq, Nat.reduceMul]
    all_goals apply_assumption
    refine AW.ret ?_
    all_goals simp only [zs, reduceIte, Nat.reduceEqDiff, Nat.reduceLT, Nat.reduceLeDiff, Nat.reduceAdd, reduceCtorEq, Nat.reduceMul, ok36, sz36, ag36, cut, List.drop_zero, List.take_succ_cons, List.take_zero]
    all_goals simp only [zz, Bool.false_eq_true, if_true, reduceIte, not_false_eq_true, true_and]
    unfold Tk
    rw [hP]
    exact ⟨by simp [wk, wk1, encEv], by rw [← hq4]; exact hs4.src, by rw [← hq4]; exact hs4.le, hx, hf5⟩
  · refine AW.cond (b := true) (by simp [ev, h0]) (fun hc => ?_) (fun hc => by cases hc)
    have hg4 : σ4.obj g = some [.c (.bool true), .sl (b.map encB), .c (.int .i64 (q4 : Nat))] := hs4.src
    refine AW.seq_k fun K11 h11 => ?_
    all_goals refine AW.reg0 ?_
    all_goals iterate 4 (refine S.g rfl rfl fun K' k' => ?_; simp only [zz, reduceIte, Nat.reduceEqDiff, Nat.reduceLT, Nat.reduceLeDiff, Nat.reduceAdd, reduceCtorEq, Nat.reduceMul, ok129, sz129, ag129, hg4, map3]; refine k' _ _ ?_; clear k' K')
    all_goals refine S.nil ?_
    all_goals simp only [ze, reduceIte, Nat.reduceEqDiff, Nat.reduceLT, Nat.reduceLeDiff, Nat.reduceAdd, reduceCtorEq, Nat.reduceMul, hg4, map3]
    all_goals apply_assumption
    have hr5 : (σ4.setObj g (some [.c (.bool true), .sl (b.map encB), .c (.int .i64 (q : Nat))])).obj r = some [ptrV g, .c (.int .i64 e4)] := by simp [hgr.symm, hr4]
    refine AW.seq_k fun K12 h12 => ?_
    all_goals refine AW.drawF (T := { sd := fun _ => false }) (fun _ _ h => by cases h) mixedO (.st 0 0 (.st 1 0 (.st 2 0 (.st 3 0 (.fork 4 (.st 5 2 (.st 6 0 .nil)) 5 (.st 4 2 (.st 6 0 .nil))))))) rfl (by kernel_rfl) (by kernel_rfl) ?_
    all_goals (refine F.g rfl trivial rfl rfl fun K' k' => ?_; simp only [zz, reduceIte, Nat.reduceEqDiff, Nat.reduceLT, Nat.reduceLeDiff, Nat.reduceAdd, reduceCtorEq, Nat.reduceMul, zt36, pl36, hrg, hr4, map2, List.getD_cons_succ, List.getD_cons_zero]; refine k' _ _ ?_; clear k' K')
    all_goals iterate 3 (refine F.g rfl trivial rfl rfl fun K' k' => ?_; simp only [zz, reduceIte, Nat.reduceEqDiff, Nat.reduceLT, Nat.reduceLeDiff, Nat.reduceAdd, reduceCtorEq, Nat.reduceMul, of170_1, hrg, hr4, map2, List.getD_cons_succ, List.getD_cons_zero]; refine k' _ _ ?_; clear k' K')
    all_goals (try first | refine F.fork ?_ ?_ | refine F.fork3 ?_ ?_ ?_)
    all_goals first | (refine F.g rfl trivial rfl rfl fun K' k' => ?_; simp only [zz, reduceIte, Nat.reduceEqDiff, Nat.reduceLT, Nat.reduceLeDiff, Nat.reduceAdd, reduceCtorEq, Nat.reduceMul, ok29, sz29, ag29, hrg, hr4, map2, List.getD_cons_succ, List.getD_cons_zero]; refine k' _ _ ?_; clear k' K') | (refine F.g rfl trivial rfl rfl fun K' k' => ?_; simp only [zz, reduceIte, Nat.reduceEqDiff, Nat.reduceLT, Nat.reduceLeDiff, Nat.reduceAdd, reduceCtorEq, Nat.reduceMul, ok36, sz36, ag36, hrg, hr4, map2, List.getD_cons_succ, List.getD_cons_zero]; refine k' _ _ ?_; clear k' K')
    all_goals first | (refine F.g rfl trivial rfl rfl fun K' k' => ?_; simp only [zz, reduceIte, Nat.reduceEqDiff, Nat.reduceLT, Nat.reduceLeDiff, Nat.reduceAdd, reduceCtorEq, Nat.reduceMul, ok36, sz36, ag36, hrg, hr4, map2, List.getD_cons_succ, List.getD_cons_zero]; refine k' _ _ ?_; clear k' K') | (refine F.g rfl trivial rfl rfl fun K' k' => ?_; simp only [zz, reduceIte, Nat.reduceEqDiff, Nat.reduceLT, Nat.reduceLeDiff, Nat.reduceAdd, reduceCtorEq, Nat.reduceMul, ok29, sz29, ag29, hrg, hr4, map2, List.getD_cons_succ, List.getD_cons_zero]; refine k' _ _ ?_; clear k' K')
    all_goals (refine F.g rfl trivial rfl rfl fun K' k' => ?_; simp only [zz, reduceIte, Nat.reduceEqDiff, Nat.reduceAdd, hrg, hr4, map2, List.getD_cons_succ, List.getD_cons_zero]; refine k' _ _ ?_; clear k' K')
    all_goals refine F.nil ?_
    all_goals simp only [ze, reduceIte, Nat.reduceEqDiff, Nat.reduceLT, Nat.reduceLeDiff, Nat.reduceAdd, reduceCtorEq, Nat.reduceMul, hrg, hr4, map2, List.getD_cons_succ, List.getD_cons_zero]
    all_goals apply_assumption
    all_goals (refine AW.ret ?_)
    all_goals simp only [zs, reduceIte, Nat.reduceEqDiff, Nat.reduceLT, Nat.reduceLeDiff, Nat.reduceAdd, reduceCtorEq, Nat.reduceMul, ok36, sz36, ag36, cut, List.drop_zero, List.take_succ_cons, List.take_zero]
    all_goals simp only [zz, Bool.false_eq_true, if_true, reduceIte, not_false_eq_true, true_and]
    all_goals
      unfold Tk
      rw [hP]
      exact ⟨by simp [wk, wk1, zeroE], h0, by simp [srcC], hf5.setb⟩
end Go.Abs.M
namespace Go.Abs.M
open Go Go.Abs Go.Proofs
set_option maxRecDepth 20000
set_option linter.unusedSimpArgs false
set_option linter.unusedVariables false
def bdQ : Prs Bd := Prs.bind textP fun t => Prs.bind evQ fun e => Prs.ret ⟨strOf t, e⟩
def chkP (l : List Bd) : Prs (List Bd) := if partErr l = 0 then Prs.ret l else Prs.err (partErr l)
/-- A partial match, as the program reads it. -/
def partQ : Prs (List Bd) := Prs.bind (bitsP 4) fun n => if 12 < n then Prs.err 100 else Prs.bind (Prs.rep bdQ n) chkP
theorem bdQ_bind {β : Type} (f : Bd → Prs β) : Prs.bind bdQ f = Prs.bind textP fun t => Prs.bind evQ fun e => f ⟨strOf t, e⟩ := by
  rw [bdQ, bind_assoc]
  congr 1
  funext t
  rw [bind_assoc]
  congr 1
  funext e
  rw [ret_bind]
/-- What 'bounds' leaves. -/
def BdR (g : Nat) (b : List Nat) (q : Nat) (σ : Hp) (v : V) (σ' : Hp) : Prop :=
  match At b q 0 partQ with
  | .ok (l, q') => v = .tup [.agg [.sl (l.map encBd)], .c (.int .i64 0)] ∧ σ'.obj g = some (srcC b q') ∧ q' ≤ 8 * b.length ∧ okP l ∧ Fr2 g g σ σ'
  | .error e => ∃ (l : List Bd) (q' : Nat), v = .tup [.agg [.sl (l.map encBd)], .c (.int .i64 e)] ∧ e ≠ 0 ∧ σ'.obj g = some (srcC b q') ∧ q' ≤ 8 * b.length ∧ Fr2 g g σ σ'
theorem BdR.err {g q q' : Nat} {b : List Nat} {σ σ' : Hp} {v : V} {e : Int} (l : List Bd) (h : At b q 0 partQ = .error e) (hv : v = .tup [.agg [.sl (l.map encBd)], .c (.int .i64 e)]) (he : e ≠ 0) (ho : σ'.obj g = some (srcC b q')) (hq : q' ≤ 8 * b.length) (hf : Fr2 g g σ σ') : BdR g b q σ v σ' := by
  unfold BdR; rw [h]; exact ⟨l, q', hv, he, ho, hq, hf⟩
theorem BdR.okk {g q q' : Nat} {b : List Nat} {σ σ' : Hp} {v : V} {l : List Bd} (h : At b q 0 partQ = .ok (l, q')) (hv : v = .tup [.agg [.sl (l.map encBd)], .c (.int .i64 0)]) (ho : σ'.obj g = some (srcC b q')) (hq : q' ≤ 8 * b.length) (hl : okP l) (hf : Fr2 g g σ σ') : BdR g b q σ v σ' := by
  unfold BdR; rw [h]; exact ⟨hv, ho, hq, hl, hf⟩
theorem bounds_spec (g : Nat) (b : List Nat) (q : Nat) (σ : Hp) (ho : σ.obj g = some (srcC b q)) (hb : b.length < 140737488355329) (hb256 : ∀ x ∈ b, x < 256) (hq : q ≤ 8 * b.length) :
    ACalls Try.prog 101 [ptrV g] σ (BdR g b q σ) := by
  refine ACalls.intro Try.call101 Try.func101 rfl Try.ntmps101 Try.results101 (by simp) ?_
  by_cases hin : q + 4 ≤ 8 * b.length
  · have hA : At b q 0 partQ = _ := At_bind
    rw [At_bits hq, if_pos hin] at hA
    simp only [] at hA
    have hn := bitsV_lt b q 4
    refine AW.seq_k fun K1 h1 => ?_
    all_goals refine AW.reg0 ?_
    all_goals iterate 2 (refine S.g rfl rfl fun K' k' => ?_; simp only [zz, reduceIte, Nat.reduceEqDiff, Nat.reduceLT, Nat.reduceLeDiff, Nat.reduceAdd, reduceCtorEq, Nat.reduceMul, zt24]; refine k' _ _ ?_; clear k' K')
    all_goals refine S.nil ?_
    all_goals simp only [ze, reduceIte, Nat.reduceEqDiff, Nat.reduceLT, Nat.reduceLeDiff, Nat.reduceAdd, reduceCtorEq, Nat.reduceMul]
    all_goals apply_assumption
    refine AW.seq_k fun K2 h2 => ?_
    all_goals refine AW.reg0 ?_
    all_goals (refine S.g rfl rfl fun K' k' => ?_; simp only [zz, reduceIte, Nat.reduceEqDiff, Nat.reduceLT, Nat.reduceLeDiff, Nat.reduceAdd, reduceCtorEq, Nat.reduceMul, zt24, pw]; refine k' _ _ ?_; clear k' K')
    all_goals refine S.nil ?_
    all_goals simp only [ze, reduceIte, Nat.reduceEqDiff, Nat.reduceLT, Nat.reduceLeDiff, Nat.reduceAdd, reduceCtorEq, Nat.reduceMul, pw]
    all_goals apply_assumption
    refine AW.seq_k fun K3 h3 => ?_
    all_goals refine AW.reg0 ?_
    all_goals (refine S.g rfl rfl fun K' k' => ?_; simp only [zz, reduceIte, Nat.reduceEqDiff, Nat.reduceAdd, pw]; refine k' _ _ ?_; clear k' K')
    all_goals (refine S.g rfl rfl fun K' k' => ?_; simp only [zz, reduceIte, Nat.reduceEqDiff, Nat.reduceLT, Nat.reduceLeDiff, Nat.reduceAdd, reduceCtorEq, Nat.reduceMul, pw]; refine (sBits_spec g b q 4 _ ho hb hb256 hq (by omega)).to fun v σ2 hv => ?_; (first | rw [if_pos hin] at hv | rw [if_neg hin] at hv); obtain ⟨rfl, hσ⟩ := hv <;> (refine k' _ _ ?_; clear k' K'))
    all_goals iterate 5 (refine S.g rfl rfl fun K' k' => ?_; simp only [zz, reduceIte, Nat.reduceEqDiff, Nat.reduceLT, Nat.reduceLeDiff, Nat.reduceAdd, reduceCtorEq, Nat.reduceMul, pw]; refine k' _ _ ?_; clear k' K')
    all_goals refine S.nil ?_
    all_goals simp only [ze, reduceIte, Nat.reduceEqDiff, Nat.reduceLT, Nat.reduceLeDiff, Nat.reduceAdd, reduceCtorEq, Nat.reduceMul, pw]
    all_goals apply_assumption
    generalize bitsV b q 4 = n at *
    have ho2 : σ2.obj g = some (srcC b (q + 4)) := by rw [hσ]; simp
    have hf2 : Fr2 g g σ σ2 := by rw [hσ]; exact Fr2.setg
    clear hσ
    refine AW.seq_k fun K4 h4 => ?_
    refine AW.seq_k fun K5 h5 => ?_
    all_goals refine AW.reg0 ?_
    all_goals iterate 2 (refine S.g rfl rfl fun K' k' => ?_; simp only [zz, reduceIte, Nat.reduceEqDiff, Nat.reduceAdd]; refine k' _ _ ?_; clear k' K')
    all_goals refine S.nil ?_
    all_goals simp only [ze, reduceIte, Nat.reduceEqDiff, Nat.reduceLT, Nat.reduceLeDiff, Nat.reduceAdd, reduceCtorEq, Nat.reduceMul]
    all_goals apply_assumption
    refine AW.cond (b := false) (by simp [ev]) (fun hc => by cases hc) (fun hc => ?_)
    refine AW.skip ?_
    all_goals simp only [zs, reduceIte, Nat.reduceEqDiff, Nat.reduceLT, Nat.reduceLeDiff, Nat.reduceAdd, reduceCtorEq, Nat.reduceMul]
    all_goals apply_assumption
    refine AW.seq_k fun K6 h6 => ?_
    refine AW.seq_k fun K7 h7 => ?_
    all_goals refine AW.reg0 ?_
    all_goals iterate 2 (refine S.g rfl rfl fun K' k' => ?_; simp only [zz, reduceIte, Nat.reduceEqDiff, Nat.reduceAdd, gt_iff_lt]; refine k' _ _ ?_; clear k' K')
    all_goals refine S.nil ?_
    all_goals simp only [ze, reduceIte, Nat.reduceEqDiff, Nat.reduceLT, Nat.reduceLeDiff, Nat.reduceAdd, reduceCtorEq, Nat.reduceMul, gt_iff_lt]
    all_goals apply_assumption
    refine AW.cond (b := decide (12 < n)) (by simp [ev]; try omega) (fun hc => ?_) (fun hc => ?_)
    · have hc := of_decide_eq_true hc
      rw [if_pos hc] at hA
      refine AW.seq_k fun K8 h8 => ?_
      all_goals refine AW.reg0 ?_
      all_goals iterate 3 (refine S.g rfl rfl fun K' k' => ?_; simp only [zz, reduceIte, Nat.reduceEqDiff, Nat.reduceLT, Nat.reduceLeDiff, Nat.reduceAdd, reduceCtorEq, Nat.reduceMul, ok24, sz24, ag24]; refine k' _ _ ?_; clear k' K')
      all_goals refine S.nil ?_
      all_goals simp only [ze, reduceIte, Nat.reduceEqDiff, Nat.reduceLT, Nat.reduceLeDiff, Nat.reduceAdd, reduceCtorEq, Nat.reduceMul]
      all_goals apply_assumption
      refine AW.ret ?_
      all_goals simp only [zs, reduceIte, Nat.reduceEqDiff, Nat.reduceLT, Nat.reduceLeDiff, Nat.reduceAdd, reduceCtorEq, Nat.reduceMul, ok24, sz24, ag24, cut, List.drop_zero, List.take_succ_cons, List.take_zero]
      all_goals simp only [zz, Bool.false_eq_true, if_true, reduceIte, not_false_eq_true, true_and]
      exact BdR.err [] hA (by simp [wk, wk1]) (by decide) ho2 hin hf2
    have hc := of_decide_eq_false hc
    rw [if_neg hc] at hA
    refine AW.skip ?_
    all_goals simp only [zs, reduceIte, Nat.reduceEqDiff, Nat.reduceLT, Nat.reduceLeDiff, Nat.reduceAdd, reduceCtorEq, Nat.reduceMul]
    all_goals apply_assumption
    refine AW.seq_j (fun s σ' => s.t 0 = ptrV g ∧ s.t 2 = .lp 2 0 ∧ s.l 2 = some [.c (.slice none 0 0)] ∧ s.t 4 = .lp 4 0 ∧
      ∃ acc x q7, s.l 4 = some [x] ∧ (x = .sl (acc.map encBd) ∨ (acc = [] ∧ x = .c (.slice none 0 0))) ∧
      σ'.obj g = some (srcC b q7) ∧ q7 ≤ 8 * b.length ∧ Fr2 g g σ σ' ∧ okP acc ∧ At b q 0 partQ = At b q7 0 (chkP acc)) ?_ ?_
    · refine AW.seq_k fun K9 h9 => ?_
      all_goals refine AW.reg0 ?_
      all_goals iterate 2 (refine S.g rfl rfl fun K' k' => ?_; simp only [zz, reduceIte, Nat.reduceEqDiff, Nat.reduceAdd]; refine k' _ _ ?_; clear k' K')
      all_goals refine S.nil ?_
      all_goals simp only [ze, reduceIte, Nat.reduceEqDiff, Nat.reduceLT, Nat.reduceLeDiff, Nat.reduceAdd, reduceCtorEq, Nat.reduceMul]
      all_goals apply_assumption
      refine AW.block ?_   -- 0
      refine AW.loop (fun m s σ' => s.t 0 = ptrV g ∧ s.t 2 = .lp 2 0 ∧ s.l 2 = some [.c (.slice none 0 0)] ∧ s.t 4 = .lp 4 0 ∧ s.t 22 = .c (.int .u64 (n : Nat)) ∧
        ∃ acc x q7, m = n - acc.length ∧ acc.length ≤ n ∧ s.t 23 = .c (.int .u64 (acc.length : Nat)) ∧ s.l 4 = some [x] ∧
        σ'.obj g = some (srcC b q7) ∧ q7 ≤ 8 * b.length ∧ Fr2 g g σ σ' ∧ okP acc ∧ At b q 0 partQ = At b q7 0 (Prs.bind (Prs.rep bdQ (n - acc.length)) fun l => chkP (acc ++ l)) ∧
        ((acc = [] ∧ x = .c (.slice none 0 0)) ∨ (∃ k, x = .gl k ∧ σ.gr k = none ∧ σ'.gr k = some ((42, 6), acc.map encBd)))) n ?_ ?_
      · all_goals simp only [zs, reduceIte, Nat.reduceEqDiff, Nat.reduceLT, Nat.reduceLeDiff, Nat.reduceAdd, reduceCtorEq, Nat.reduceMul, pw]
        exact ⟨[], _, q + 4, rfl, Nat.zero_le _, rfl, rfl, ho2, hin, hf2, (fun x h => absurd h List.not_mem_nil), hA, .inl ⟨rfl, rfl⟩⟩
      clear ho2 hf2 hA
      rintro m s σ' ⟨e0, e2', l2, e4', e22, acc, x, q7, hm, hal, e23, l4, ho7, hq7, hf7, hga, hA7, hx⟩
      refine AW.seq_k fun K10 h10 => ?_
      all_goals refine AW.reg0 ?_
      all_goals (refine S.g rfl rfl fun K' k' => ?_; simp only [zz, reduceIte, Nat.reduceEqDiff, Nat.reduceAdd, e22, e23]; refine k' _ _ ?_; clear k' K')
      all_goals refine S.nil ?_
      all_goals simp only [ze, reduceIte, Nat.reduceEqDiff, Nat.reduceLT, Nat.reduceLeDiff, Nat.reduceAdd, reduceCtorEq, Nat.reduceMul, e22, e23]
      all_goals apply_assumption
      refine AW.seq_k fun K11 h11 => ?_
      refine AW.cond (b := decide (acc.length < n)) (by simp [ev]) (fun hc => ?_) (fun hc => ?_)
      · have hin := of_decide_eq_true hc
        refine AW.skip ?_
        all_goals simp only [zs, reduceIte, Nat.reduceEqDiff, Nat.reduceLT, Nat.reduceLeDiff, Nat.reduceAdd, reduceCtorEq, Nat.reduceMul]
        all_goals apply_assumption
        rw [show n - acc.length = (n - (acc.length + 1)) + 1 by omega, rep_bind, bdQ_bind, At_bind] at hA7
        have hw : IntKind.u64.wrap ((acc.length : Int) + 1) = ((acc.length + 1 : Nat) : Int) := by rw [← wrap_u64 (n := acc.length + 1) (by omega)]; rfl
        have hlen : ((unB b).drop q7).length = 8 * b.length - q7 := by rw [List.length_drop, unB_len]
        refine AW.seq_k fun K12 h12 => ?_
        refine AW.block ?_   -- 1
        rcases hN : textP ((unB b).drop q7) with d | ⟨t, c⟩
        · have hd := textP_err hN
          rw [At_er hN] at hA7
          simp only [] at hA7
          refine AW.seq_k fun K13 h13 => ?_
          all_goals refine AW.reg0 ?_
          all_goals (refine S.g rfl rfl fun K' k' => ?_; simp only [zz, reduceIte, Nat.reduceEqDiff, Nat.reduceAdd, e0, pw]; refine k' _ _ ?_; clear k' K')
          all_goals (refine S.g rfl rfl fun K' k' => ?_; simp only [zz, reduceIte, Nat.reduceEqDiff, Nat.reduceLT, Nat.reduceLeDiff, Nat.reduceAdd, reduceCtorEq, Nat.reduceMul, e0, pw]; refine (sText_spec g b q7 _ ho7 hb hb256 hq7).to fun v σ3 hv => ?_; simp only [hN] at hv; obtain ⟨rfl, ho3, hf3⟩ := hv <;> (refine k' _ _ ?_; clear k' K'))
          all_goals iterate 5 (refine S.g rfl rfl fun K' k' => ?_; simp only [zz, reduceIte, Nat.reduceEqDiff, Nat.reduceLT, Nat.reduceLeDiff, Nat.reduceAdd, reduceCtorEq, Nat.reduceMul, e0, pw]; refine k' _ _ ?_; clear k' K')
          all_goals refine S.nil ?_
          all_goals simp only [ze, reduceIte, Nat.reduceEqDiff, Nat.reduceLT, Nat.reduceLeDiff, Nat.reduceAdd, reduceCtorEq, Nat.reduceMul, e0, pw]
          all_goals apply_assumption
          refine AW.seq_k fun K14 h14 => ?_
          refine AW.seq_k fun K15 h15 => ?_
          all_goals refine AW.reg0 ?_
          all_goals iterate 2 (refine S.g rfl rfl fun K' k' => ?_; simp only [zz, reduceIte, Nat.reduceEqDiff, Nat.reduceAdd]; refine k' _ _ ?_; clear k' K')
          all_goals refine S.nil ?_
          all_goals simp only [ze, reduceIte, Nat.reduceEqDiff, Nat.reduceLT, Nat.reduceLeDiff, Nat.reduceAdd, reduceCtorEq, Nat.reduceMul]
          all_goals apply_assumption
          refine AW.cond (b := true) (by simp [ev, hd]) (fun hc => ?_) (fun hc => by cases hc)
          rcases hx with ⟨rfl, rfl⟩ | ⟨k, rfl, hk, hgk⟩
          · refine AW.seq_k fun K16 h16 => ?_
            all_goals refine AW.reg0 ?_
            all_goals iterate 4 (refine S.g rfl rfl fun K' k' => ?_; simp only [zz, reduceIte, Nat.reduceEqDiff, Nat.reduceLT, Nat.reduceLeDiff, Nat.reduceAdd, reduceCtorEq, Nat.reduceMul, ok24, sz24, ag24, e2', l2, e4', l4]; refine k' _ _ ?_; clear k' K')
            all_goals refine S.nil ?_
            all_goals simp only [ze, reduceIte, Nat.reduceEqDiff, Nat.reduceLT, Nat.reduceLeDiff, Nat.reduceAdd, reduceCtorEq, Nat.reduceMul, e2', l2, e4', l4]
            all_goals apply_assumption
            refine AW.ret ?_
            all_goals simp only [zs, reduceIte, Nat.reduceEqDiff, Nat.reduceLT, Nat.reduceLeDiff, Nat.reduceAdd, reduceCtorEq, Nat.reduceMul, ok24, sz24, ag24, cut, List.drop_zero, List.take_succ_cons, List.take_zero, e2']
            all_goals simp only [zz, Bool.false_eq_true, if_true, reduceIte, not_false_eq_true, true_and, e2']
            exact BdR.err [] hA7 (by simp [wk, wk1]) hd ho3 hq7 (hf7.trans (hf3.two ho7))
          · have hg3 := (hf3.two (r := g) ho7).gr _ _ hgk
            refine AW.seq_k fun K17 h17 => ?_
            all_goals refine AW.reg0 ?_
            all_goals iterate 4 (refine S.g rfl rfl fun K' k' => ?_; simp only [zz, reduceIte, Nat.reduceEqDiff, Nat.reduceLT, Nat.reduceLeDiff, Nat.reduceAdd, reduceCtorEq, Nat.reduceMul, ok24, sz24, ag24, e2', l2, e4', l4]; refine k' _ _ ?_; clear k' K')
            all_goals refine S.nil ?_
            all_goals simp only [ze, reduceIte, Nat.reduceEqDiff, Nat.reduceLT, Nat.reduceLeDiff, Nat.reduceAdd, reduceCtorEq, Nat.reduceMul, e2', l2, e4', l4]
            all_goals apply_assumption
            refine AW.freeze (k := k) (T := (42, 6)) (es := acc.map encBd) hg3 ?_
            refine AW.ret ?_
            all_goals simp only [zs, reduceIte, Nat.reduceEqDiff, Nat.reduceLT, Nat.reduceLeDiff, Nat.reduceAdd, reduceCtorEq, Nat.reduceMul, ok24, sz24, ag24, cut, List.drop_zero, List.take_succ_cons, List.take_zero, e2', fzV, fz1, St.fz_t, St.fz_l, Option.map_some, List.map]
            all_goals simp only [zz, Bool.false_eq_true, if_true, reduceIte, not_false_eq_true, true_and, e2', fzV, fz1, St.fz_t, St.fz_l, Option.map_some, List.map]
            exact BdR.err acc hA7 (by simp [wk, wk1]) hd (by simpa using ho3) hq7 ((hf7.trans (hf3.two ho7)).drop hk)
        obtain ⟨hcl, htl, _⟩ := textP_ok hN
        have hq3 : q7 + c ≤ 8 * b.length := by omega
        rw [At_ok hN] at hA7
        simp only [] at hA7
        rw [At_bind] at hA7
        refine AW.seq_k fun K18 h18 => ?_
        all_goals refine AW.reg0 ?_
        all_goals (refine S.g rfl rfl fun K' k' => ?_; simp only [zz, reduceIte, Nat.reduceEqDiff, Nat.reduceAdd, e0, pw]; refine k' _ _ ?_; clear k' K')
        all_goals (refine S.g rfl rfl fun K' k' => ?_; simp only [zz, reduceIte, Nat.reduceEqDiff, Nat.reduceLT, Nat.reduceLeDiff, Nat.reduceAdd, reduceCtorEq, Nat.reduceMul, e0, pw]; refine (sText_spec g b q7 _ ho7 hb hb256 hq7).to fun v σ3 hv => ?_; simp only [hN] at hv; obtain ⟨rfl, ho3, hf3⟩ := hv <;> (refine k' _ _ ?_; clear k' K'))
        all_goals iterate 5 (refine S.g rfl rfl fun K' k' => ?_; simp only [zz, reduceIte, Nat.reduceEqDiff, Nat.reduceLT, Nat.reduceLeDiff, Nat.reduceAdd, reduceCtorEq, Nat.reduceMul, e0, pw]; refine k' _ _ ?_; clear k' K')
        all_goals refine S.nil ?_
        all_goals simp only [ze, reduceIte, Nat.reduceEqDiff, Nat.reduceLT, Nat.reduceLeDiff, Nat.reduceAdd, reduceCtorEq, Nat.reduceMul, e0, pw]
        all_goals apply_assumption
        refine AW.seq_k fun K19 h19 => ?_
        refine AW.seq_k fun K20 h20 => ?_
        all_goals refine AW.reg0 ?_
        all_goals iterate 2 (refine S.g rfl rfl fun K' k' => ?_; simp only [zz, reduceIte, Nat.reduceEqDiff, Nat.reduceAdd]; refine k' _ _ ?_; clear k' K')
        all_goals refine S.nil ?_
        all_goals simp only [ze, reduceIte, Nat.reduceEqDiff, Nat.reduceLT, Nat.reduceLeDiff, Nat.reduceAdd, reduceCtorEq, Nat.reduceMul]
        all_goals apply_assumption
        refine AW.cond (b := false) (by simp [ev]) (fun hc => by cases hc) (fun hc => ?_)
        refine AW.skip ?_
        all_goals simp only [zs, reduceIte, Nat.reduceEqDiff, Nat.reduceLT, Nat.reduceLeDiff, Nat.reduceAdd, reduceCtorEq, Nat.reduceMul]
        all_goals apply_assumption
        have hg3 := (hf3.two (r := g) ho7).gr
        have hf3 : Fr2 g g σ σ3 := hf7.trans (hf3.two ho7)
        rcases hM : evQ ((unB b).drop (q7 + c)) with d | ⟨a, c2⟩
        · rw [At_er hM] at hA7
          simp only [] at hA7
          refine AW.seq_k fun K21 h21 => ?_
          all_goals refine AW.reg0 ?_
          all_goals (refine S.g rfl rfl fun K' k' => ?_; simp only [zz, reduceIte, Nat.reduceEqDiff, Nat.reduceAdd, e0, pw, zeroE]; refine k' _ _ ?_; clear k' K')
          all_goals (refine S.g rfl rfl fun K' k' => ?_; simp only [zz, reduceIte, Nat.reduceEqDiff, Nat.reduceLT, Nat.reduceLeDiff, Nat.reduceAdd, reduceCtorEq, Nat.reduceMul, e0, pw, zeroE]; refine (evTake_spec g b (q7 + c) _ ho3 hb hb256 hq3).to fun v σ4 hv => ?_; unfold Tk at hv; simp only [hM] at hv; obtain ⟨rfl, hv⟩ := hv <;> (refine k' _ _ ?_; clear k' K'))
          all_goals iterate 6 (refine S.g rfl rfl fun K' k' => ?_; simp only [zz, reduceIte, Nat.reduceEqDiff, Nat.reduceLT, Nat.reduceLeDiff, Nat.reduceAdd, reduceCtorEq, Nat.reduceMul, zt36, ok36, sz36, ag36, e0, pw, zeroE]; refine k' _ _ ?_; clear k' K')
          all_goals refine S.nil ?_
          all_goals simp only [ze, reduceIte, Nat.reduceEqDiff, Nat.reduceLT, Nat.reduceLeDiff, Nat.reduceAdd, reduceCtorEq, Nat.reduceMul, e0, pw, zeroE]
          all_goals apply_assumption
          obtain ⟨hd, ho4, hf4⟩ := hv
          refine AW.seq_k fun K22 h22 => ?_
          refine AW.seq_k fun K23 h23 => ?_
          all_goals refine AW.reg0 ?_
          all_goals iterate 2 (refine S.g rfl rfl fun K' k' => ?_; simp only [zz, reduceIte, Nat.reduceEqDiff, Nat.reduceAdd]; refine k' _ _ ?_; clear k' K')
          all_goals refine S.nil ?_
          all_goals simp only [ze, reduceIte, Nat.reduceEqDiff, Nat.reduceLT, Nat.reduceLeDiff, Nat.reduceAdd, reduceCtorEq, Nat.reduceMul]
          all_goals apply_assumption
          refine AW.cond (b := true) (by simp [ev, hd]) (fun hc => ?_) (fun hc => by cases hc)
          rcases hx with ⟨rfl, rfl⟩ | ⟨k, rfl, hk, hgk⟩
          · refine AW.seq_k fun K24 h24 => ?_
            all_goals refine AW.reg0 ?_
            all_goals iterate 4 (refine S.g rfl rfl fun K' k' => ?_; simp only [zz, reduceIte, Nat.reduceEqDiff, Nat.reduceLT, Nat.reduceLeDiff, Nat.reduceAdd, reduceCtorEq, Nat.reduceMul, ok24, sz24, ag24, e2', l2, e4', l4]; refine k' _ _ ?_; clear k' K')
            all_goals refine S.nil ?_
            all_goals simp only [ze, reduceIte, Nat.reduceEqDiff, Nat.reduceLT, Nat.reduceLeDiff, Nat.reduceAdd, reduceCtorEq, Nat.reduceMul, e2', l2, e4', l4]
            all_goals apply_assumption
            refine AW.ret ?_
            all_goals simp only [zs, reduceIte, Nat.reduceEqDiff, Nat.reduceLT, Nat.reduceLeDiff, Nat.reduceAdd, reduceCtorEq, Nat.reduceMul, ok24, sz24, ag24, cut, List.drop_zero, List.take_succ_cons, List.take_zero, e2']
            all_goals simp only [zz, Bool.false_eq_true, if_true, reduceIte, not_false_eq_true, true_and, e2']
            exact BdR.err [] hA7 (by simp [wk, wk1]) hd ho4 hq3 (hf3.trans hf4)
          · have hg4 := hf4.gr _ _ (hg3 _ _ hgk)
            refine AW.seq_k fun K25 h25 => ?_
            all_goals refine AW.reg0 ?_
            all_goals iterate 4 (refine S.g rfl rfl fun K' k' => ?_; simp only [zz, reduceIte, Nat.reduceEqDiff, Nat.reduceLT, Nat.reduceLeDiff, Nat.reduceAdd, reduceCtorEq, Nat.reduceMul, ok24, sz24, ag24, e2', l2, e4', l4]; refine k' _ _ ?_; clear k' K')
            all_goals refine S.nil ?_
            all_goals simp only [ze, reduceIte, Nat.reduceEqDiff, Nat.reduceLT, Nat.reduceLeDiff, Nat.reduceAdd, reduceCtorEq, Nat.reduceMul, e2', l2, e4', l4]
            all_goals apply_assumption
            refine AW.freeze (k := k) (T := (42, 6)) (es := acc.map encBd) hg4 ?_
            refine AW.ret ?_
            all_goals simp only [zs, reduceIte, Nat.reduceEqDiff, Nat.reduceLT, Nat.reduceLeDiff, Nat.reduceAdd, reduceCtorEq, Nat.reduceMul, ok24, sz24, ag24, cut, List.drop_zero, List.take_succ_cons, List.take_zero, e2', fzV, fz1, St.fz_t, St.fz_l, Option.map_some, List.map]
            all_goals simp only [zz, Bool.false_eq_true, if_true, reduceIte, not_false_eq_true, true_and, e2', fzV, fz1, St.fz_t, St.fz_l, Option.map_some, List.map]
            exact BdR.err acc hA7 (by simp [wk, wk1]) hd (by simpa using ho4) hq3 ((hf3.trans hf4).drop hk)
        · rw [At_ok hM] at hA7
          simp only [] at hA7
          refine AW.seq_k fun K26 h26 => ?_
          all_goals refine AW.reg0 ?_
          all_goals (refine S.g rfl rfl fun K' k' => ?_; simp only [zz, reduceIte, Nat.reduceEqDiff, Nat.reduceAdd, e0, pw, encEv]; refine k' _ _ ?_; clear k' K')
          all_goals (refine S.g rfl rfl fun K' k' => ?_; simp only [zz, reduceIte, Nat.reduceEqDiff, Nat.reduceLT, Nat.reduceLeDiff, Nat.reduceAdd, reduceCtorEq, Nat.reduceMul, e0, pw, encEv]; refine (evTake_spec g b (q7 + c) _ ho3 hb hb256 hq3).to fun v σ4 hv => ?_; unfold Tk at hv; simp only [hM] at hv; obtain ⟨rfl, hv⟩ := hv <;> (refine k' _ _ ?_; clear k' K'))
          all_goals iterate 6 (refine S.g rfl rfl fun K' k' => ?_; simp only [zz, reduceIte, Nat.reduceEqDiff, Nat.reduceLT, Nat.reduceLeDiff, Nat.reduceAdd, reduceCtorEq, Nat.reduceMul, zt36, ok36, sz36, ag36, e0, pw, encEv]; refine k' _ _ ?_; clear k' K')
          all_goals refine S.nil ?_
          all_goals simp only [ze, reduceIte, Nat.reduceEqDiff, Nat.reduceLT, Nat.reduceLeDiff, Nat.reduceAdd, reduceCtorEq, Nat.reduceMul, e0, pw, encEv]
          all_goals apply_assumption
          obtain ⟨ho4, hq4, ha, hf4⟩ := hv
          refine AW.seq_k fun K27 h27 => ?_
          refine AW.seq_k fun K28 h28 => ?_
          all_goals refine AW.reg0 ?_
          all_goals iterate 2 (refine S.g rfl rfl fun K' k' => ?_; simp only [zz, reduceIte, Nat.reduceEqDiff, Nat.reduceAdd]; refine k' _ _ ?_; clear k' K')
          all_goals refine S.nil ?_
          all_goals simp only [ze, reduceIte, Nat.reduceEqDiff, Nat.reduceLT, Nat.reduceLeDiff, Nat.reduceAdd, reduceCtorEq, Nat.reduceMul]
          all_goals apply_assumption
          refine AW.cond (b := false) (by simp [ev]) (fun hc => by cases hc) (fun hc => ?_)
          refine AW.skip ?_
          all_goals simp only [zs, reduceIte, Nat.reduceEqDiff, Nat.reduceLT, Nat.reduceLeDiff, Nat.reduceAdd, reduceCtorEq, Nat.reduceMul]
          all_goals apply_assumption
          have hbd : okB ⟨strOf t, a⟩ := ⟨by show (strOf t).size < _; rw [strOf_size]; omega, ha⟩
          rcases hx with ⟨rfl, rfl⟩ | ⟨k, rfl, hk, hgk⟩
          · have hn0 : 0 < n := hin
            have hw : IntKind.u64.wrap (((([] : List Bd).length : Nat) : Int) + 1) = ((0 + 1 : Nat) : Int) := hw
            all_goals refine AW.reg0 ?_
            all_goals iterate 4 (refine S.g rfl rfl fun K' k' => ?_; simp only [zz, reduceIte, Nat.reduceEqDiff, Nat.reduceLT, Nat.reduceLeDiff, Nat.reduceAdd, reduceCtorEq, Nat.reduceMul, of24_0, ok22, sz22, ag22, ok36, sz36, ag36, e4', l4, encBd]; refine k' _ _ ?_; clear k' K')
            all_goals (refine S.g rfl rfl fun K' k' => ?_; simp only [zz, reduceIte, Nat.reduceEqDiff, Nat.reduceLT, Nat.reduceLeDiff, Nat.reduceAdd, reduceCtorEq, Nat.reduceMul, zt42, pl42, e4', l4, encBd]; refine k' _ _ ?_; clear k' K')
            all_goals (refine S.g rfl rfl fun K' k' => ?_; simp only [zb, reduceIte, Nat.reduceEqDiff, Nat.reduceLT, Nat.reduceLeDiff, Nat.reduceAdd, reduceCtorEq, Nat.reduceMul, sl22, el22, ok42, sz42, ag42, zt42, by42, e4', l4, encBd]; refine k' _ _ ?_; clear k' K')
            all_goals (refine S.g rfl rfl fun K' k' => ?_; simp only [zz, reduceIte, Nat.reduceEqDiff, Nat.reduceLT, Nat.reduceLeDiff, Nat.reduceAdd, reduceCtorEq, Nat.reduceMul, sl22, el22, ok42, sz42, ag42, zt42, by42, e4', l4, encBd]; refine ⟨by simp, by unfold maxLen; (try simp only [List.length_map, List.length_cons, List.length_nil]); omega, by unfold reach; (try simp only [List.length_map, List.length_cons, List.length_nil]); omega, fun k2 hk2 => ?_⟩ <;> (refine k' _ _ ?_; clear k' K'))
            all_goals iterate 2 (refine S.g rfl rfl fun K' k' => ?_; simp only [zz, reduceIte, Nat.reduceEqDiff, Nat.reduceLT, Nat.reduceLeDiff, Nat.reduceAdd, reduceCtorEq, Nat.reduceMul, of24_0, ok22, sz22, ag22, e4', l4, encBd]; refine k' _ _ ?_; clear k' K')
            all_goals refine S.nil ?_
            all_goals simp only [ze, reduceIte, Nat.reduceEqDiff, Nat.reduceLT, Nat.reduceLeDiff, Nat.reduceAdd, reduceCtorEq, Nat.reduceMul, e4', l4, encBd]
            all_goals apply_assumption
            all_goals refine AW.reg0 ?_
            all_goals iterate 2 (refine S.g rfl rfl fun K' k' => ?_; simp only [zz, reduceIte, Nat.reduceEqDiff, Nat.reduceAdd, e23, hw, e0, e2', l2, e4', l4, e22, pw]; refine k' _ _ ?_; clear k' K')
            all_goals refine S.nil ?_
            all_goals simp only [ze, reduceIte, Nat.reduceEqDiff, Nat.reduceLT, Nat.reduceLeDiff, Nat.reduceAdd, reduceCtorEq, Nat.reduceMul, e23, hw, e0, e2', l2, e4', l4, e22, pw]
            obtain ⟨hfn, hkn⟩ := (hf3.trans hf4).new (k2 := k2) (y := some ((42, 6), [encBd ⟨strOf t, a⟩])) hk2
            exact ⟨n - 1, by rw [hm]; exact Nat.sub_lt hn0 Nat.one_pos, [⟨strOf t, a⟩], .gl k2, q7 + c + c2, rfl, hn0, rfl, rfl, by simpa using ho4, hq4, hfn, fun y hy => by rw [List.mem_singleton.1 hy]; exact hbd, by simpa using hA7, .inr ⟨k2, rfl, hkn, by simp [encBd]⟩⟩
          · have hg4 := hf4.gr _ _ (hg3 _ _ hgk)
            all_goals refine AW.reg0 ?_
            all_goals iterate 4 (refine S.g rfl rfl fun K' k' => ?_; simp only [zz, reduceIte, Nat.reduceEqDiff, Nat.reduceLT, Nat.reduceLeDiff, Nat.reduceAdd, reduceCtorEq, Nat.reduceMul, of24_0, ok22, sz22, ag22, ok36, sz36, ag36, e4', l4, encBd, hg4]; refine k' _ _ ?_; clear k' K')
            all_goals (refine S.g rfl rfl fun K' k' => ?_; simp only [zz, reduceIte, Nat.reduceEqDiff, Nat.reduceLT, Nat.reduceLeDiff, Nat.reduceAdd, reduceCtorEq, Nat.reduceMul, zt42, pl42, e4', l4, encBd, hg4]; refine k' _ _ ?_; clear k' K')
            all_goals (refine S.g rfl rfl fun K' k' => ?_; simp only [zb, reduceIte, Nat.reduceEqDiff, Nat.reduceLT, Nat.reduceLeDiff, Nat.reduceAdd, reduceCtorEq, Nat.reduceMul, sl22, el22, ok42, sz42, ag42, zt42, by42, e4', l4, encBd, hg4]; refine k' _ _ ?_; clear k' K')
            all_goals (refine S.g rfl rfl fun K' k' => ?_; simp only [zz, reduceIte, Nat.reduceEqDiff, Nat.reduceLT, Nat.reduceLeDiff, Nat.reduceAdd, reduceCtorEq, Nat.reduceMul, sl22, el22, ok42, sz42, ag42, zt42, by42, e4', l4, encBd, hg4]; refine ⟨by simp, by unfold maxLen; (try simp only [List.length_map, List.length_cons, List.length_nil]); omega, by unfold reach; (try simp only [List.length_map, List.length_cons, List.length_nil]); omega, fun k2 hk2 => ?_⟩ <;> (refine k' _ _ ?_; clear k' K'))
            all_goals iterate 2 (refine S.g rfl rfl fun K' k' => ?_; simp only [zz, reduceIte, Nat.reduceEqDiff, Nat.reduceLT, Nat.reduceLeDiff, Nat.reduceAdd, reduceCtorEq, Nat.reduceMul, of24_0, ok22, sz22, ag22, e4', l4, encBd, hg4]; refine k' _ _ ?_; clear k' K')
            all_goals refine S.nil ?_
            all_goals simp only [ze, reduceIte, Nat.reduceEqDiff, Nat.reduceLT, Nat.reduceLeDiff, Nat.reduceAdd, reduceCtorEq, Nat.reduceMul, e4', l4, encBd, hg4]
            all_goals apply_assumption
            all_goals refine AW.reg0 ?_
            all_goals iterate 2 (refine S.g rfl rfl fun K' k' => ?_; simp only [zz, reduceIte, Nat.reduceEqDiff, Nat.reduceAdd, e23, hw, e0, e2', l2, e4', l4, e22, pw]; refine k' _ _ ?_; clear k' K')
            all_goals refine S.nil ?_
            all_goals simp only [ze, reduceIte, Nat.reduceEqDiff, Nat.reduceLT, Nat.reduceLeDiff, Nat.reduceAdd, reduceCtorEq, Nat.reduceMul, e23, hw, e0, e2', l2, e4', l4, e22, pw]
            obtain ⟨hfn, hkn⟩ := (hf3.trans hf4).app (k2 := k2) (y := some ((42, 6), acc.map encBd ++ [encBd ⟨strOf t, a⟩])) hk (fun e => by simpa [e] using hk2)
            exact ⟨n - (acc.length + 1), by omega, acc ++ [⟨strOf t, a⟩], .gl k2, q7 + c + c2, by simp, by simp; omega, by simp, rfl, by simpa using ho4, hq4, hfn, fun y hy => by
              rcases List.mem_append.1 hy with h | h
              · exact hga y h
              · rw [List.mem_singleton.1 h]; exact hbd, by simpa using hA7, .inr ⟨k2, rfl, hkn, by simp [encBd]⟩⟩
      · have hin : acc.length = n := by have := of_decide_eq_false hc; omega
        rw [hin, Nat.sub_self] at hA7
        have hA8 : At b q 0 partQ = At b q7 0 (chkP acc) := by rw [hA7, Prs.rep, ret_bind, List.append_nil]
        rcases hx with ⟨rfl, rfl⟩ | ⟨k, rfl, hk, hgk⟩
        · refine AW.exit ?_
          all_goals simp only [zs, reduceIte, Nat.reduceEqDiff, Nat.reduceLT, Nat.reduceLeDiff, Nat.reduceAdd, reduceCtorEq, Nat.reduceMul, e0, e2', l2, e4', l4]
          exact ⟨[], _, q7, rfl, .inr ⟨rfl, rfl⟩, ho7, hq7, hf7, hga, hA8⟩
        · refine AW.freeze (k := k) (T := (42, 6)) (es := acc.map encBd) (by simpa using hgk) ?_
          refine AW.exit ?_
          all_goals simp only [zs, reduceIte, Nat.reduceEqDiff, Nat.reduceLT, Nat.reduceLeDiff, Nat.reduceAdd, reduceCtorEq, Nat.reduceMul, e0, e2', l2, e4', l4, fzV, fz1, St.fz_t, St.fz_l, Option.map_some, List.map, ptrV]
          exact ⟨acc, _, q7, rfl, .inl rfl, by simpa using ho7, hq7, hf7.drop hk, hga, hA8⟩
    clear hA ho2 hf2
    rintro s σ' ⟨e0, e2', l2, e4', acc, x, q7, l4, hx, ho7, hq7, hf7, hE, hA7⟩
    rcases hx with rfl | ⟨rfl, rfl⟩
    · refine AW.seq_k fun K29 h29 => ?_
      all_goals refine AW.drawF (T := { sd := fun _ => false }) (fun _ _ h => by cases h) mixedO (.fork 0 (.st 1 2 (.st 2 2 (.st 3 2 (.st 4 0 .nil)))) 1 (.fork 0 (.st 2 2 (.st 3 2 (.st 4 0 .nil))) 2 (.st 0 2 (.st 3 2 (.st 4 0 .nil))))) rfl (by kernel_rfl) (by kernel_rfl) ?_
      all_goals (try first | refine F.fork ?_ ?_ | refine F.fork3 ?_ ?_ ?_)
      all_goals (refine F.g rfl trivial rfl rfl fun K' k' => ?_; simp only [zz, reduceIte, Nat.reduceEqDiff, Nat.reduceLT, Nat.reduceLeDiff, Nat.reduceAdd, reduceCtorEq, Nat.reduceMul, ok24, sz24, ag24, e2', l2, e4', l4]; refine k' _ _ ?_; clear k' K')
      all_goals (try first | refine F.fork ?_ ?_ | refine F.fork3 ?_ ?_ ?_)
      all_goals first | (refine F.g rfl trivial rfl rfl fun K' k' => ?_; simp only [zz, reduceIte, Nat.reduceEqDiff, Nat.reduceLT, Nat.reduceLeDiff, Nat.reduceAdd, reduceCtorEq, Nat.reduceMul, e2', l2, e4', l4]; refine PCalls.eqto (check_part _ hE) ?_ <;> (refine k' _ _ ?_; clear k' K')) | (refine F.g rfl trivial rfl rfl fun K' k' => ?_; simp only [zz, reduceIte, Nat.reduceEqDiff, Nat.reduceLT, Nat.reduceLeDiff, Nat.reduceAdd, reduceCtorEq, Nat.reduceMul, ok24, sz24, ag24, e2', l2, e4', l4]; refine k' _ _ ?_; clear k' K')
      all_goals first | (refine F.g rfl trivial rfl rfl fun K' k' => ?_; simp only [zz, reduceIte, Nat.reduceEqDiff, Nat.reduceLT, Nat.reduceLeDiff, Nat.reduceAdd, reduceCtorEq, Nat.reduceMul, e2', l2, e4', l4]; refine PCalls.eqto (check_part _ hE) ?_ <;> (refine k' _ _ ?_; clear k' K')) | (refine F.g rfl trivial rfl rfl fun K' k' => ?_; simp only [zz, reduceIte, Nat.reduceEqDiff, Nat.reduceLT, Nat.reduceLeDiff, Nat.reduceAdd, reduceCtorEq, Nat.reduceMul, ok24, sz24, ag24, e2', l2, e4', l4]; refine k' _ _ ?_; clear k' K')
      all_goals iterate 2 (refine F.g rfl trivial rfl rfl fun K' k' => ?_; simp only [zz, reduceIte, Nat.reduceEqDiff, Nat.reduceLT, Nat.reduceLeDiff, Nat.reduceAdd, reduceCtorEq, Nat.reduceMul, ok24, sz24, ag24, e2', l2, e4', l4]; refine k' _ _ ?_; clear k' K')
      all_goals refine F.nil ?_
      all_goals simp only [ze, reduceIte, Nat.reduceEqDiff, Nat.reduceLT, Nat.reduceLeDiff, Nat.reduceAdd, reduceCtorEq, Nat.reduceMul, e2', l2, e4', l4]
      all_goals apply_assumption
      all_goals (refine AW.ret ?_)
      all_goals simp only [zs, reduceIte, Nat.reduceEqDiff, Nat.reduceLT, Nat.reduceLeDiff, Nat.reduceAdd, reduceCtorEq, Nat.reduceMul, ok24, sz24, ag24, cut, List.drop_zero, List.take_succ_cons, List.take_zero, e2']
      all_goals simp only [zz, Bool.false_eq_true, if_true, reduceIte, not_false_eq_true, true_and, e2']
      all_goals
        by_cases hz : partErr acc = 0
        · exact BdR.okk (l := acc) (by rw [hA7, chkP, if_pos hz] <;> rfl) (by simp [hz, wk, wk1]) ho7 hq7 hE hf7
        · exact BdR.err acc (by rw [hA7, chkP, if_neg hz] <;> rfl) (by simp [wk, wk1]) hz ho7 hq7 hf7
    · refine AW.seq_k fun K30 h30 => ?_
      all_goals refine AW.drawF (T := { sd := fun _ => false }) (fun _ _ h => by cases h) mixedO (.fork 0 (.st 1 2 (.st 2 2 (.st 3 2 (.st 4 0 .nil)))) 1 (.fork 0 (.st 2 2 (.st 3 2 (.st 4 0 .nil))) 2 (.st 0 2 (.st 3 2 (.st 4 0 .nil))))) rfl (by kernel_rfl) (by kernel_rfl) ?_
      all_goals (try first | refine F.fork ?_ ?_ | refine F.fork3 ?_ ?_ ?_)
      all_goals (refine F.g rfl trivial rfl rfl fun K' k' => ?_; simp only [zz, reduceIte, Nat.reduceEqDiff, Nat.reduceLT, Nat.reduceLeDiff, Nat.reduceAdd, reduceCtorEq, Nat.reduceMul, ok24, sz24, ag24, e2', l2, e4', l4]; refine k' _ _ ?_; clear k' K')
      all_goals (try first | refine F.fork ?_ ?_ | refine F.fork3 ?_ ?_ ?_)
      all_goals first | (refine F.g rfl trivial rfl rfl fun K' k' => ?_; simp only [zz, reduceIte, Nat.reduceEqDiff, Nat.reduceLT, Nat.reduceLeDiff, Nat.reduceAdd, reduceCtorEq, Nat.reduceMul, e2', l2, e4', l4]; refine PCalls.eqto (check_part _ hE) ?_ <;> (refine k' _ _ ?_; clear k' K')) | (refine F.g rfl trivial rfl rfl fun K' k' => ?_; simp only [zz, reduceIte, Nat.reduceEqDiff, Nat.reduceLT, Nat.reduceLeDiff, Nat.reduceAdd, reduceCtorEq, Nat.reduceMul, ok24, sz24, ag24, e2', l2, e4', l4]; refine k' _ _ ?_; clear k' K')
      all_goals first | (refine F.g rfl trivial rfl rfl fun K' k' => ?_; simp only [zz, reduceIte, Nat.reduceEqDiff, Nat.reduceLT, Nat.reduceLeDiff, Nat.reduceAdd, reduceCtorEq, Nat.reduceMul, e2', l2, e4', l4]; refine PCalls.eqto (check_part _ hE) ?_ <;> (refine k' _ _ ?_; clear k' K')) | (refine F.g rfl trivial rfl rfl fun K' k' => ?_; simp only [zz, reduceIte, Nat.reduceEqDiff, Nat.reduceLT, Nat.reduceLeDiff, Nat.reduceAdd, reduceCtorEq, Nat.reduceMul, ok24, sz24, ag24, e2', l2, e4', l4]; refine k' _ _ ?_; clear k' K')
      all_goals iterate 2 (refine F.g rfl trivial rfl rfl fun K' k' => ?_; simp only [zz, reduceIte, Nat.reduceEqDiff, Nat.reduceLT, Nat.reduceLeDiff, Nat.reduceAdd, reduceCtorEq, Nat.reduceMul, ok24, sz24, ag24, e2', l2, e4', l4]; refine k' _ _ ?_; clear k' K')
      all_goals refine F.nil ?_
      all_goals simp only [ze, reduceIte, Nat.reduceEqDiff, Nat.reduceLT, Nat.reduceLeDiff, Nat.reduceAdd, reduceCtorEq, Nat.reduceMul, e2', l2, e4', l4]
      all_goals apply_assumption
      all_goals (refine AW.ret ?_)
      all_goals simp only [zs, reduceIte, Nat.reduceEqDiff, Nat.reduceLT, Nat.reduceLeDiff, Nat.reduceAdd, reduceCtorEq, Nat.reduceMul, ok24, sz24, ag24, cut, List.drop_zero, List.take_succ_cons, List.take_zero, e2']
      all_goals simp only [zz, Bool.false_eq_true, if_true, reduceIte, not_false_eq_true, true_and, e2']
      all_goals
        by_cases hz : partErr [] = 0
        · exact BdR.okk (l := []) (by rw [hA7, chkP, if_pos hz] <;> rfl) (by simp [hz, wk, wk1]) ho7 hq7 hE hf7
        · exact BdR.err [] (by rw [hA7, chkP, if_neg hz] <;> rfl) (by simp [wk, wk1]) hz ho7 hq7 hf7
  · have hA : At b q 0 partQ = .error 10 := by rw [partQ, At_bind, At_bits hq, if_neg hin]
    refine AW.seq_k fun K31 h31 => ?_
    all_goals refine AW.reg0 ?_
    all_goals iterate 2 (refine S.g rfl rfl fun K' k' => ?_; simp only [zz, reduceIte, Nat.reduceEqDiff, Nat.reduceLT, Nat.reduceLeDiff, Nat.reduceAdd, reduceCtorEq, Nat.reduceMul, zt24]; refine k' _ _ ?_; clear k' K')
    all_goals refine S.nil ?_
    all_goals simp only [ze, reduceIte, Nat.reduceEqDiff, Nat.reduceLT, Nat.reduceLeDiff, Nat.reduceAdd, reduceCtorEq, Nat.reduceMul]
    all_goals apply_assumption
    refine AW.seq_k fun K32 h32 => ?_
    all_goals refine AW.reg0 ?_
    all_goals (refine S.g rfl rfl fun K' k' => ?_; simp only [zz, reduceIte, Nat.reduceEqDiff, Nat.reduceLT, Nat.reduceLeDiff, Nat.reduceAdd, reduceCtorEq, Nat.reduceMul, zt24, pw]; refine k' _ _ ?_; clear k' K')
    all_goals refine S.nil ?_
    all_goals simp only [ze, reduceIte, Nat.reduceEqDiff, Nat.reduceLT, Nat.reduceLeDiff, Nat.reduceAdd, reduceCtorEq, Nat.reduceMul, pw]
    all_goals apply_assumption
    refine AW.seq_k fun K33 h33 => ?_
    all_goals refine AW.reg0 ?_
    all_goals (refine S.g rfl rfl fun K' k' => ?_; simp only [zz, reduceIte, Nat.reduceEqDiff, Nat.reduceAdd, pw]; refine k' _ _ ?_; clear k' K')
    all_goals (refine S.g rfl rfl fun K' k' => ?_; simp only [zz, reduceIte, Nat.reduceEqDiff, Nat.reduceLT, Nat.reduceLeDiff, Nat.reduceAdd, reduceCtorEq, Nat.reduceMul, pw]; refine (sBits_spec g b q 4 _ ho hb hb256 hq (by omega)).to fun v σ2 hv => ?_; (first | rw [if_pos hin] at hv | rw [if_neg hin] at hv); obtain ⟨rfl, hσ⟩ := hv <;> (refine k' _ _ ?_; clear k' K'))
    all_goals iterate 5 (refine S.g rfl rfl fun K' k' => ?_; simp only [zz, reduceIte, Nat.reduceEqDiff, Nat.reduceLT, Nat.reduceLeDiff, Nat.reduceAdd, reduceCtorEq, Nat.reduceMul, pw]; refine k' _ _ ?_; clear k' K')
    all_goals refine S.nil ?_
    all_goals simp only [ze, reduceIte, Nat.reduceEqDiff, Nat.reduceLT, Nat.reduceLeDiff, Nat.reduceAdd, reduceCtorEq, Nat.reduceMul, pw]
    all_goals apply_assumption
    subst hσ
    refine AW.seq_k fun K34 h34 => ?_
    refine AW.seq_k fun K35 h35 => ?_
    all_goals refine AW.reg0 ?_
    all_goals iterate 2 (refine S.g rfl rfl fun K' k' => ?_; simp only [zz, reduceIte, Nat.reduceEqDiff, Nat.reduceAdd]; refine k' _ _ ?_; clear k' K')
    all_goals refine S.nil ?_
    all_goals simp only [ze, reduceIte, Nat.reduceEqDiff, Nat.reduceLT, Nat.reduceLeDiff, Nat.reduceAdd, reduceCtorEq, Nat.reduceMul]
    all_goals apply_assumption
    refine AW.cond (b := true) (by simp [ev]) (fun hc => ?_) (fun hc => by cases hc)
    refine AW.seq_k fun K36 h36 => ?_
    all_goals refine AW.reg0 ?_
    all_goals iterate 4 (refine S.g rfl rfl fun K' k' => ?_; simp only [zz, reduceIte, Nat.reduceEqDiff, Nat.reduceLT, Nat.reduceLeDiff, Nat.reduceAdd, reduceCtorEq, Nat.reduceMul, ok24, sz24, ag24]; refine k' _ _ ?_; clear k' K')
    all_goals refine S.nil ?_
    all_goals simp only [ze, reduceIte, Nat.reduceEqDiff, Nat.reduceLT, Nat.reduceLeDiff, Nat.reduceAdd, reduceCtorEq, Nat.reduceMul]
    all_goals apply_assumption
    refine AW.ret ?_
    all_goals simp only [zs, reduceIte, Nat.reduceEqDiff, Nat.reduceLT, Nat.reduceLeDiff, Nat.reduceAdd, reduceCtorEq, Nat.reduceMul, ok24, sz24, ag24, cut, List.drop_zero, List.take_succ_cons, List.take_zero]
    all_goals simp only [zz, Bool.false_eq_true, if_true, reduceIte, not_false_eq_true, true_and]
    exact BdR.err [] hA (by simp [wk, wk1]) (by decide) ho hq (Fr2.refl _ _ _)
end Go.Abs.M
namespace Go.Abs.M
open Go Go.Abs Go.Proofs
set_option maxRecDepth 20000
set_option linter.unusedSimpArgs false
set_option linter.unusedVariables false
/-- What 'Take' leaves. -/
def TkP (g : Nat) (b : List Nat) (q : Nat) (σ : Hp) (v : V) (σ' : Hp) : Prop :=
  match At b q 0 partQ with
  | .ok (l, q') => v = .tup [.agg [.sl (l.map encBd)], .c (.int .i64 0)] ∧ σ'.obj g = some (srcC b q') ∧ q' ≤ 8 * b.length ∧ okP l ∧ Fr2 g g σ σ'
  | .error e => v = .tup [.agg [.sl []], .c (.int .i64 e)] ∧ e ≠ 0 ∧ σ'.obj g = some (srcC b q) ∧ Fr2 g g σ σ'
theorem Take_spec (g : Nat) (b : List Nat) (q : Nat) (σ : Hp) (ho : σ.obj g = some (srcC b q)) (hb : b.length < 140737488355329) (hb256 : ∀ x ∈ b, x < 256) (hq : q ≤ 8 * b.length) :
    ACalls Try.prog 59 [ptrV g] σ (TkP g b q σ) := by
  refine ACalls.intro Try.call59 Try.func59 rfl Try.ntmps59 Try.results59 (by simp) ?_
  have hz : σ.setObj g (some (srcC b (q + 0))) = σ := setObj_id ho
  have ho' : σ.obj g = some [.c (.bool true), .sl (b.map encB), .c (.int .i64 (q : Nat))] := ho
  refine AW.seq_k fun K1 h1 => ?_
  all_goals refine AW.reg0 ?_
  all_goals iterate 2 (refine S.g rfl rfl fun K' k' => ?_; simp only [zz, reduceIte, Nat.reduceEqDiff, Nat.reduceLT, Nat.reduceLeDiff, Nat.reduceAdd, reduceCtorEq, Nat.reduceMul, zt24]; refine k' _ _ ?_; clear k' K')
  all_goals refine S.nil ?_
  all_goals simp only [ze, reduceIte, Nat.reduceEqDiff, Nat.reduceLT, Nat.reduceLeDiff, Nat.reduceAdd, reduceCtorEq, Nat.reduceMul]
  all_goals apply_assumption
  refine AW.seq_k fun K2 h2 => ?_
  refine AW.seq_k fun K3 h3 => ?_
  all_goals refine AW.reg0 ?_
  all_goals (refine S.g rfl rfl fun K' k' => ?_; simp only [zz, reduceIte, Nat.reduceEqDiff, Nat.reduceAdd, pw]; refine k' _ _ ?_; clear k' K')
  all_goals (refine S.g rfl rfl fun K' k' => ?_; simp only [zz, reduceIte, Nat.reduceEqDiff, Nat.reduceLT, Nat.reduceLeDiff, Nat.reduceAdd, reduceCtorEq, Nat.reduceMul, pw]; refine (sBits_spec g b q 0 _ ho hb hb256 hq (by omega)).to fun v σ2 hv => ?_; rw [if_pos (by omega)] at hv; obtain ⟨rfl, hσ⟩ := hv <;> (refine k' _ _ ?_; clear k' K'))
  all_goals iterate 5 (refine S.g rfl rfl fun K' k' => ?_; simp only [zz, reduceIte, Nat.reduceEqDiff, Nat.reduceLT, Nat.reduceLeDiff, Nat.reduceAdd, reduceCtorEq, Nat.reduceMul, pw]; refine k' _ _ ?_; clear k' K')
  all_goals refine S.nil ?_
  all_goals simp only [ze, reduceIte, Nat.reduceEqDiff, Nat.reduceLT, Nat.reduceLeDiff, Nat.reduceAdd, reduceCtorEq, Nat.reduceMul, pw]
  all_goals apply_assumption
  rw [hz] at hσ
  subst hσ
  refine AW.seq_k fun K4 h4 => ?_
  all_goals refine AW.reg0 ?_
  all_goals iterate 2 (refine S.g rfl rfl fun K' k' => ?_; simp only [zz, reduceIte, Nat.reduceEqDiff, Nat.reduceAdd]; refine k' _ _ ?_; clear k' K')
  all_goals refine S.nil ?_
  all_goals simp only [ze, reduceIte, Nat.reduceEqDiff, Nat.reduceLT, Nat.reduceLeDiff, Nat.reduceAdd, reduceCtorEq, Nat.reduceMul]
  all_goals apply_assumption
  refine AW.cond (b := false) (by simp [ev]) (fun hc => by cases hc) (fun hc => ?_)
  refine AW.skip ?_
  all_goals simp only [zs, reduceIte, Nat.reduceEqDiff, Nat.reduceLT, Nat.reduceLeDiff, Nat.reduceAdd, reduceCtorEq, Nat.reduceMul]
  all_goals apply_assumption
  refine AW.seq_k fun K5 h5 => ?_
  all_goals refine AW.reg0 ?_
  all_goals iterate 5 (refine S.g rfl rfl fun K' k' => ?_; simp only [zz, reduceIte, Nat.reduceEqDiff, Nat.reduceLT, Nat.reduceLeDiff, Nat.reduceAdd, reduceCtorEq, Nat.reduceMul, ok129, sz129, ag129, zt129, pw, ptrV, ho', map3]; refine k' _ _ ?_; clear k' K')
  all_goals refine S.nil ?_
  all_goals simp only [ze, reduceIte, Nat.reduceEqDiff, Nat.reduceLT, Nat.reduceLeDiff, Nat.reduceAdd, reduceCtorEq, Nat.reduceMul, pw, ptrV, ho', map3]
  all_goals apply_assumption
  rcases hA : At b q 0 partQ with e | ⟨l, q4⟩
  · skip
    refine AW.seq_k fun K6 h6 => ?_
    all_goals refine AW.reg0 ?_
    all_goals (refine S.g rfl rfl fun K' k' => ?_; simp only [zz, reduceIte, Nat.reduceEqDiff, Nat.reduceAdd, pw]; refine k' _ _ ?_; clear k' K')
    all_goals (refine S.g rfl rfl fun K' k' => ?_; simp only [zz, reduceIte, Nat.reduceEqDiff, Nat.reduceLT, Nat.reduceLeDiff, Nat.reduceAdd, reduceCtorEq, Nat.reduceMul, pw]; refine (bounds_spec g b q _ ho hb hb256 hq).to fun v σ4 hv => ?_; unfold BdR at hv; rw [hA] at hv; obtain ⟨l, q4, rfl, he, ho4, hq4, hf4⟩ := hv <;> (refine k' _ _ ?_; clear k' K'))
    all_goals iterate 6 (refine S.g rfl rfl fun K' k' => ?_; simp only [zz, reduceIte, Nat.reduceEqDiff, Nat.reduceLT, Nat.reduceLeDiff, Nat.reduceAdd, reduceCtorEq, Nat.reduceMul, zt24, ok24, sz24, ag24, pw]; refine k' _ _ ?_; clear k' K')
    all_goals refine S.nil ?_
    all_goals simp only [ze, reduceIte, Nat.reduceEqDiff, Nat.reduceLT, Nat.reduceLeDiff, Nat.reduceAdd, reduceCtorEq, Nat.reduceMul, pw]
    all_goals apply_assumption
    have hg4 : σ4.obj g = some [.c (.bool true), .sl (b.map encB), .c (.int .i64 (q4 : Nat))] := ho4
    refine AW.seq_k fun K7 h7 => ?_
    refine AW.seq_k fun K8 h8 => ?_
    all_goals refine AW.reg0 ?_
    all_goals iterate 2 (refine S.g rfl rfl fun K' k' => ?_; simp only [zz, reduceIte, Nat.reduceEqDiff, Nat.reduceAdd]; refine k' _ _ ?_; clear k' K')
    all_goals refine S.nil ?_
    all_goals simp only [ze, reduceIte, Nat.reduceEqDiff, Nat.reduceLT, Nat.reduceLeDiff, Nat.reduceAdd, reduceCtorEq, Nat.reduceMul]
    all_goals apply_assumption
    refine AW.cond (b := true) (by simp [ev, he]) (fun hc => ?_) (fun hc => by cases hc)
    refine AW.seq_k fun K9 h9 => ?_
    all_goals refine AW.reg0 ?_
    all_goals iterate 4 (refine S.g rfl rfl fun K' k' => ?_; simp only [zz, reduceIte, Nat.reduceEqDiff, Nat.reduceLT, Nat.reduceLeDiff, Nat.reduceAdd, reduceCtorEq, Nat.reduceMul, ok129, sz129, ag129, hg4, map3]; refine k' _ _ ?_; clear k' K')
    all_goals refine S.nil ?_
    all_goals simp only [ze, reduceIte, Nat.reduceEqDiff, Nat.reduceLT, Nat.reduceLeDiff, Nat.reduceAdd, reduceCtorEq, Nat.reduceMul, hg4, map3]
    all_goals apply_assumption
    refine AW.seq_k fun K10 h10 => ?_
    all_goals refine AW.reg0 ?_
    all_goals (refine S.g rfl rfl fun K' k' => ?_; simp only [zz, reduceIte, Nat.reduceEqDiff, Nat.reduceLT, Nat.reduceLeDiff, Nat.reduceAdd, reduceCtorEq, Nat.reduceMul, zt24, pl24]; refine k' _ _ ?_; clear k' K')
    all_goals iterate 3 (refine S.g rfl rfl fun K' k' => ?_; simp only [zz, reduceIte, Nat.reduceEqDiff, Nat.reduceLT, Nat.reduceLeDiff, Nat.reduceAdd, reduceCtorEq, Nat.reduceMul, ok24, sz24, ag24]; refine k' _ _ ?_; clear k' K')
    all_goals refine S.nil ?_
    all_goals simp only [ze, reduceIte, Nat.reduceEqDiff, Nat.reduceLT, Nat.reduceLeDiff, Nat.reduceAdd, reduceCtorEq, Nat.reduceMul]
    all_goals apply_assumption
    refine AW.ret ?_
    all_goals simp only [zs, reduceIte, Nat.reduceEqDiff, Nat.reduceLT, Nat.reduceLeDiff, Nat.reduceAdd, reduceCtorEq, Nat.reduceMul, ok24, sz24, ag24, cut, List.drop_zero, List.take_succ_cons, List.take_zero]
    all_goals simp only [zz, Bool.false_eq_true, if_true, reduceIte, not_false_eq_true, true_and]
    unfold TkP
    rw [hA]
    exact ⟨by simp [wk, wk1], he, by simp [srcC], hf4.setb⟩
  · skip
    refine AW.seq_k fun K11 h11 => ?_
    all_goals refine AW.reg0 ?_
    all_goals (refine S.g rfl rfl fun K' k' => ?_; simp only [zz, reduceIte, Nat.reduceEqDiff, Nat.reduceAdd, pw]; refine k' _ _ ?_; clear k' K')
    all_goals (refine S.g rfl rfl fun K' k' => ?_; simp only [zz, reduceIte, Nat.reduceEqDiff, Nat.reduceLT, Nat.reduceLeDiff, Nat.reduceAdd, reduceCtorEq, Nat.reduceMul, pw]; refine (bounds_spec g b q _ ho hb hb256 hq).to fun v σ4 hv => ?_; unfold BdR at hv; rw [hA] at hv; obtain ⟨rfl, ho4, hq4, hl, hf4⟩ := hv <;> (refine k' _ _ ?_; clear k' K'))
    all_goals iterate 6 (refine S.g rfl rfl fun K' k' => ?_; simp only [zz, reduceIte, Nat.reduceEqDiff, Nat.reduceLT, Nat.reduceLeDiff, Nat.reduceAdd, reduceCtorEq, Nat.reduceMul, zt24, ok24, sz24, ag24, pw]; refine k' _ _ ?_; clear k' K')
    all_goals refine S.nil ?_
    all_goals simp only [ze, reduceIte, Nat.reduceEqDiff, Nat.reduceLT, Nat.reduceLeDiff, Nat.reduceAdd, reduceCtorEq, Nat.reduceMul, pw]
    all_goals apply_assumption
    refine AW.seq_k fun K12 h12 => ?_
    refine AW.seq_k fun K13 h13 => ?_
    all_goals refine AW.reg0 ?_
    all_goals iterate 2 (refine S.g rfl rfl fun K' k' => ?_; simp only [zz, reduceIte, Nat.reduceEqDiff, Nat.reduceAdd]; refine k' _ _ ?_; clear k' K')
    all_goals refine S.nil ?_
    all_goals simp only [ze, reduceIte, Nat.reduceEqDiff, Nat.reduceLT, Nat.reduceLeDiff, Nat.reduceAdd, reduceCtorEq, Nat.reduceMul]
    all_goals apply_assumption
    refine AW.cond (b := false) (by simp [ev]) (fun hc => by cases hc) (fun hc => ?_)
    refine AW.skip ?_
    all_goals simp only [zs, reduceIte, Nat.reduceEqDiff, Nat.reduceLT, Nat.reduceLeDiff, Nat.reduceAdd, reduceCtorEq, Nat.reduceMul]
    all_goals apply_assumption
    refine AW.seq_k fun K14 h14 => ?_
    all_goals refine AW.reg0 ?_
    all_goals iterate 3 (refine S.g rfl rfl fun K' k' => ?_; simp only [zz, reduceIte, Nat.reduceEqDiff, Nat.reduceLT, Nat.reduceLeDiff, Nat.reduceAdd, reduceCtorEq, Nat.reduceMul, ok24, sz24, ag24]; refine k' _ _ ?_; clear k' K')
    all_goals refine S.nil ?_
    all_goals simp only [ze, reduceIte, Nat.reduceEqDiff, Nat.reduceLT, Nat.reduceLeDiff, Nat.reduceAdd, reduceCtorEq, Nat.reduceMul]
    all_goals apply_assumption
    refine AW.ret ?_
    all_goals simp only [zs, reduceIte, Nat.reduceEqDiff, Nat.reduceLT, Nat.reduceLeDiff, Nat.reduceAdd, reduceCtorEq, Nat.reduceMul, ok24, sz24, ag24, cut, List.drop_zero, List.take_succ_cons, List.take_zero]
    all_goals simp only [zz, Bool.false_eq_true, if_true, reduceIte, not_false_eq_true, true_and]
    unfold TkP
    rw [hA]
    exact ⟨by simp [wk, wk1], ho4, hq4, hl, hf4⟩
/-- What bytes say, or what is wrong with them first. -/
def parseP (b : List Nat) : Except Int (List Bd) := match At b 0 0 partQ with
  | .error e => .error e
  | .ok (l, q) => if endP ((unB b).drop q) = 0 then .ok l else .error (endP ((unB b).drop q))
def parV (p : Except Int (List Bd)) : V := match p with
  | .ok l => .tup [.agg [.sl (l.map encBd)], .c (.int .i64 0)]
  | .error e => .tup [.agg [.sl []], .c (.int .i64 e)]
theorem Parse_spec (b : List Nat) (hb : b.length < 140737488355329) (hb256 : ∀ x ∈ b, x < 256) : PCalls Try.prog 54 [.sl (b.map encB)] (fun v => v = parV (parseP b) ∧ ∀ l, parseP b = .ok l → okP l) := by
  refine PCalls.intro Try.call54 Try.func54 rfl Try.ntmps54 Try.results54 (by simp) ?_
  refine AW.seq_k fun K1 h1 => ?_
  all_goals refine AW.reg0 ?_
  all_goals iterate 2 (refine S.g rfl rfl fun K' k' => ?_; simp only [zz, reduceIte, Nat.reduceEqDiff, Nat.reduceLT, Nat.reduceLeDiff, Nat.reduceAdd, reduceCtorEq, Nat.reduceMul, zt24]; refine k' _ _ ?_; clear k' K')
  all_goals refine S.nil ?_
  all_goals simp only [ze, reduceIte, Nat.reduceEqDiff, Nat.reduceLT, Nat.reduceLeDiff, Nat.reduceAdd, reduceCtorEq, Nat.reduceMul]
  all_goals apply_assumption
  refine AW.seq_k fun K2 h2 => ?_
  all_goals refine AW.reg0 ?_
  all_goals (refine S.g rfl rfl fun K' k' => ?_; simp only [zz, reduceIte, Nat.reduceEqDiff, Nat.reduceAdd]; refine k' _ _ ?_; clear k' K')
  all_goals (refine S.g rfl rfl fun K' k' => ?_; simp only [zz, reduceIte, Nat.reduceEqDiff, Nat.reduceLT, Nat.reduceLeDiff, Nat.reduceAdd, reduceCtorEq, Nat.reduceMul]; refine (NewSource_spec b hb _).to fun v σ2 hv => ?_; obtain ⟨g, rfl, hg, hσ⟩ := hv <;> (refine k' _ _ ?_; clear k' K'))
  all_goals (refine S.g rfl rfl fun K' k' => ?_; simp only [zz, reduceIte, Nat.reduceEqDiff, Nat.reduceAdd]; refine k' _ _ ?_; clear k' K')
  all_goals refine S.nil ?_
  all_goals simp only [ze, reduceIte, Nat.reduceEqDiff, Nat.reduceLT, Nat.reduceLeDiff, Nat.reduceAdd, reduceCtorEq, Nat.reduceMul]
  all_goals apply_assumption
  have ho2 : σ2.obj g = some (srcC b 0) := by rw [hσ]; simp
  unfold parseP
  rcases hA : At b 0 0 partQ with e | ⟨l, q4⟩
  · skip
    refine AW.seq_k fun K3 h3 => ?_
    all_goals refine AW.reg0 ?_
    all_goals (refine S.g rfl rfl fun K' k' => ?_; simp only [zz, reduceIte, Nat.reduceEqDiff, Nat.reduceAdd, pw]; refine k' _ _ ?_; clear k' K')
    all_goals (refine S.g rfl rfl fun K' k' => ?_; simp only [zz, reduceIte, Nat.reduceEqDiff, Nat.reduceLT, Nat.reduceLeDiff, Nat.reduceAdd, reduceCtorEq, Nat.reduceMul, pw]; refine (Take_spec g b 0 _ ho2 hb hb256 (by omega)).to fun v σ4 hv => ?_; unfold TkP at hv; rw [hA] at hv; obtain ⟨rfl, he, ho4, hf4⟩ := hv <;> (refine k' _ _ ?_; clear k' K'))
    all_goals iterate 6 (refine S.g rfl rfl fun K' k' => ?_; simp only [zz, reduceIte, Nat.reduceEqDiff, Nat.reduceLT, Nat.reduceLeDiff, Nat.reduceAdd, reduceCtorEq, Nat.reduceMul, zt24, ok24, sz24, ag24, pw]; refine k' _ _ ?_; clear k' K')
    all_goals refine S.nil ?_
    all_goals simp only [ze, reduceIte, Nat.reduceEqDiff, Nat.reduceLT, Nat.reduceLeDiff, Nat.reduceAdd, reduceCtorEq, Nat.reduceMul, pw]
    all_goals apply_assumption
    refine AW.seq_k fun K4 h4 => ?_
    refine AW.seq_k fun K5 h5 => ?_
    all_goals refine AW.reg0 ?_
    all_goals iterate 2 (refine S.g rfl rfl fun K' k' => ?_; simp only [zz, reduceIte, Nat.reduceEqDiff, Nat.reduceAdd]; refine k' _ _ ?_; clear k' K')
    all_goals refine S.nil ?_
    all_goals simp only [ze, reduceIte, Nat.reduceEqDiff, Nat.reduceLT, Nat.reduceLeDiff, Nat.reduceAdd, reduceCtorEq, Nat.reduceMul]
    all_goals apply_assumption
    refine AW.cond (b := false) (by simp [ev, he]) (fun hc => by cases hc) (fun hc => ?_)
    refine AW.skip ?_
    all_goals simp only [zs, reduceIte, Nat.reduceEqDiff, Nat.reduceLT, Nat.reduceLeDiff, Nat.reduceAdd, reduceCtorEq, Nat.reduceMul]
    all_goals apply_assumption
    refine AW.seq_k fun K6 h6 => ?_
    refine AW.seq_k fun K7 h7 => ?_
    all_goals refine AW.reg0 ?_
    all_goals iterate 2 (refine S.g rfl rfl fun K' k' => ?_; simp only [zz, reduceIte, Nat.reduceEqDiff, Nat.reduceAdd]; refine k' _ _ ?_; clear k' K')
    all_goals refine S.nil ?_
    all_goals simp only [ze, reduceIte, Nat.reduceEqDiff, Nat.reduceLT, Nat.reduceLeDiff, Nat.reduceAdd, reduceCtorEq, Nat.reduceMul]
    all_goals apply_assumption
    refine AW.cond (b := true) (by simp [ev, he]) (fun hc => ?_) (fun hc => by cases hc)
    refine AW.seq_k fun K8 h8 => ?_
    all_goals refine AW.reg0 ?_
    all_goals (refine S.g rfl rfl fun K' k' => ?_; simp only [zz, reduceIte, Nat.reduceEqDiff, Nat.reduceLT, Nat.reduceLeDiff, Nat.reduceAdd, reduceCtorEq, Nat.reduceMul, zt24, pl24]; refine k' _ _ ?_; clear k' K')
    all_goals iterate 3 (refine S.g rfl rfl fun K' k' => ?_; simp only [zz, reduceIte, Nat.reduceEqDiff, Nat.reduceLT, Nat.reduceLeDiff, Nat.reduceAdd, reduceCtorEq, Nat.reduceMul, ok24, sz24, ag24]; refine k' _ _ ?_; clear k' K')
    all_goals refine S.nil ?_
    all_goals simp only [ze, reduceIte, Nat.reduceEqDiff, Nat.reduceLT, Nat.reduceLeDiff, Nat.reduceAdd, reduceCtorEq, Nat.reduceMul]
    all_goals apply_assumption
    refine AW.bare ?_
    refine AW.ret ?_
    all_goals simp only [zs, reduceIte, Nat.reduceEqDiff, Nat.reduceLT, Nat.reduceLeDiff, Nat.reduceAdd, reduceCtorEq, Nat.reduceMul, ok24, sz24, ag24, cut, List.drop_zero, List.take_succ_cons, List.take_zero]
    all_goals simp only [zz, Bool.false_eq_true, if_true, reduceIte, not_false_eq_true, true_and]
    (first | exact ⟨by simp [wk, wk1, parV], fun l h => by cases h⟩ | simp [wk, wk1, parV])
  · skip
    refine AW.seq_k fun K9 h9 => ?_
    all_goals refine AW.reg0 ?_
    all_goals (refine S.g rfl rfl fun K' k' => ?_; simp only [zz, reduceIte, Nat.reduceEqDiff, Nat.reduceAdd, pw]; refine k' _ _ ?_; clear k' K')
    all_goals (refine S.g rfl rfl fun K' k' => ?_; simp only [zz, reduceIte, Nat.reduceEqDiff, Nat.reduceLT, Nat.reduceLeDiff, Nat.reduceAdd, reduceCtorEq, Nat.reduceMul, pw]; refine (Take_spec g b 0 _ ho2 hb hb256 (by omega)).to fun v σ4 hv => ?_; unfold TkP at hv; rw [hA] at hv; obtain ⟨rfl, ho4, hq4, hl, hf4⟩ := hv <;> (refine k' _ _ ?_; clear k' K'))
    all_goals iterate 6 (refine S.g rfl rfl fun K' k' => ?_; simp only [zz, reduceIte, Nat.reduceEqDiff, Nat.reduceLT, Nat.reduceLeDiff, Nat.reduceAdd, reduceCtorEq, Nat.reduceMul, zt24, ok24, sz24, ag24, pw]; refine k' _ _ ?_; clear k' K')
    all_goals refine S.nil ?_
    all_goals simp only [ze, reduceIte, Nat.reduceEqDiff, Nat.reduceLT, Nat.reduceLeDiff, Nat.reduceAdd, reduceCtorEq, Nat.reduceMul, pw]
    all_goals apply_assumption
    refine AW.seq_k fun K10 h10 => ?_
    refine AW.seq_k fun K11 h11 => ?_
    all_goals refine AW.reg0 ?_
    all_goals iterate 2 (refine S.g rfl rfl fun K' k' => ?_; simp only [zz, reduceIte, Nat.reduceEqDiff, Nat.reduceAdd]; refine k' _ _ ?_; clear k' K')
    all_goals refine S.nil ?_
    all_goals simp only [ze, reduceIte, Nat.reduceEqDiff, Nat.reduceLT, Nat.reduceLeDiff, Nat.reduceAdd, reduceCtorEq, Nat.reduceMul]
    all_goals apply_assumption
    refine AW.cond (b := true) (by simp [ev]) (fun hc => ?_) (fun hc => by cases hc)
    all_goals refine AW.reg0 ?_
    all_goals (refine S.g rfl rfl fun K' k' => ?_; simp only [zz, reduceIte, Nat.reduceEqDiff, Nat.reduceAdd, pw]; refine k' _ _ ?_; clear k' K')
    all_goals (refine S.g rfl rfl fun K' k' => ?_; simp only [zz, reduceIte, Nat.reduceEqDiff, Nat.reduceLT, Nat.reduceLeDiff, Nat.reduceAdd, reduceCtorEq, Nat.reduceMul, pw]; refine (sEnd_spec g b q4 _ ho4 hb hb256 hq4).to fun v σ5 hv => ?_; obtain ⟨rfl, hσ5⟩ := hv; subst hσ5 <;> (refine k' _ _ ?_; clear k' K'))
    all_goals (refine S.g rfl rfl fun K' k' => ?_; simp only [zz, reduceIte, Nat.reduceEqDiff, Nat.reduceAdd, pw]; refine k' _ _ ?_; clear k' K')
    all_goals refine S.nil ?_
    all_goals simp only [ze, reduceIte, Nat.reduceEqDiff, Nat.reduceLT, Nat.reduceLeDiff, Nat.reduceAdd, reduceCtorEq, Nat.reduceMul, pw]
    all_goals apply_assumption
    have hee : (endP ((unB b).drop q4) != 0) = decide (endP ((unB b).drop q4) ≠ 0) := by rw [Bool.eq_iff_iff]; simp
    refine AW.seq_k fun K12 h12 => ?_
    refine AW.seq_k fun K13 h13 => ?_
    all_goals refine AW.reg0 ?_
    all_goals iterate 2 (refine S.g rfl rfl fun K' k' => ?_; simp only [zz, reduceIte, Nat.reduceEqDiff, Nat.reduceAdd, hee]; refine k' _ _ ?_; clear k' K')
    all_goals refine S.nil ?_
    all_goals simp only [ze, reduceIte, Nat.reduceEqDiff, Nat.reduceLT, Nat.reduceLeDiff, Nat.reduceAdd, reduceCtorEq, Nat.reduceMul, hee]
    all_goals apply_assumption
    refine AW.cond (b := decide (endP ((unB b).drop q4) ≠ 0)) (by simp [ev]) (fun hc => ?_) (fun hc => ?_)
    · have hc := of_decide_eq_true hc
      refine AW.seq_k fun K14 h14 => ?_
      all_goals refine AW.reg0 ?_
      all_goals (refine S.g rfl rfl fun K' k' => ?_; simp only [zz, reduceIte, Nat.reduceEqDiff, Nat.reduceLT, Nat.reduceLeDiff, Nat.reduceAdd, reduceCtorEq, Nat.reduceMul, zt24, pl24]; refine k' _ _ ?_; clear k' K')
      all_goals iterate 3 (refine S.g rfl rfl fun K' k' => ?_; simp only [zz, reduceIte, Nat.reduceEqDiff, Nat.reduceLT, Nat.reduceLeDiff, Nat.reduceAdd, reduceCtorEq, Nat.reduceMul, ok24, sz24, ag24]; refine k' _ _ ?_; clear k' K')
      all_goals refine S.nil ?_
      all_goals simp only [ze, reduceIte, Nat.reduceEqDiff, Nat.reduceLT, Nat.reduceLeDiff, Nat.reduceAdd, reduceCtorEq, Nat.reduceMul]
      all_goals apply_assumption
      refine AW.bare ?_
      refine AW.ret ?_
      all_goals simp only [zs, reduceIte, Nat.reduceEqDiff, Nat.reduceLT, Nat.reduceLeDiff, Nat.reduceAdd, reduceCtorEq, Nat.reduceMul, ok24, sz24, ag24, cut, List.drop_zero, List.take_succ_cons, List.take_zero]
      all_goals simp only [zz, Bool.false_eq_true, if_true, reduceIte, not_false_eq_true, true_and]
      rw [if_neg hc]
      (first | exact ⟨by simp [wk, wk1, parV], fun l h => by cases h⟩ | simp [wk, wk1, parV])
    · have hc : endP ((unB b).drop q4) = 0 := by simpa using of_decide_eq_false hc
      refine AW.skip ?_
      all_goals simp only [zs, reduceIte, Nat.reduceEqDiff, Nat.reduceLT, Nat.reduceLeDiff, Nat.reduceAdd, reduceCtorEq, Nat.reduceMul]
      all_goals apply_assumption
      refine AW.seq_k fun K15 h15 => ?_
      all_goals refine AW.reg0 ?_
      all_goals iterate 3 (refine S.g rfl rfl fun K' k' => ?_; simp only [zz, reduceIte, Nat.reduceEqDiff, Nat.reduceLT, Nat.reduceLeDiff, Nat.reduceAdd, reduceCtorEq, Nat.reduceMul, ok24, sz24, ag24]; refine k' _ _ ?_; clear k' K')
      all_goals refine S.nil ?_
      all_goals simp only [ze, reduceIte, Nat.reduceEqDiff, Nat.reduceLT, Nat.reduceLeDiff, Nat.reduceAdd, reduceCtorEq, Nat.reduceMul]
      all_goals apply_assumption
      refine AW.bare ?_
      refine AW.ret ?_
      all_goals simp only [zs, reduceIte, Nat.reduceEqDiff, Nat.reduceLT, Nat.reduceLeDiff, Nat.reduceAdd, reduceCtorEq, Nat.reduceMul, ok24, sz24, ag24, cut, List.drop_zero, List.take_succ_cons, List.take_zero]
      all_goals simp only [zz, Bool.false_eq_true, if_true, reduceIte, not_false_eq_true, true_and]
      rw [if_pos hc]
      exact ⟨by simp [wk, wk1, parV], fun l h => by cases h; exact hl⟩
end Go.Abs.M
