import Derived.Test.YtmhamgllanihoaaRdf
import Derived.Deep.Slices
namespace Go.Abs.M
open Go Go.Abs Go.Proofs
set_option maxRecDepth 20000
set_option linter.unusedSimpArgs false
set_option linter.unusedVariables false
def AtL {β : Type} (l : List Bool) (q : Nat) (p : Prs β) : Except Int (β × Nat) := match p (l.drop q) with | .ok (x, c) => .ok (x, q + c) | .error d => .error d
theorem AtL_bind {α β : Type} {l : List Bool} {q : Nat} {p : Prs α} {f : α → Prs β} : AtL l q (Prs.bind p f) = match AtL l q p with | .ok (a, q') => AtL l q' (f a) | .error d => .error d := by
  unfold AtL Prs.bind
  cases p (l.drop q) with
  | error d => rfl
  | ok x =>
    obtain ⟨a, c⟩ := x
    simp only [List.drop_drop]
    cases f a (l.drop (q + c)) with
    | error d => rfl
    | ok y => simp only [Nat.add_assoc]
theorem AtL_ok {α : Type} {l : List Bool} {q : Nat} {p : Prs α} {a : α} {c : Nat} (h : p (l.drop q) = .ok (a, c)) : AtL l q p = .ok (a, q + c) := by unfold AtL; rw [h]
theorem AtL_er {α : Type} {l : List Bool} {q : Nat} {p : Prs α} {e : Int} (h : p (l.drop q) = .error e) : AtL l q p = .error e := by unfold AtL; rw [h]
theorem skN_rs {g : Nat} {l : List Bool} {σ : Hp} (h : σ.obj g = some (rsC l)) : skN g σ = none := by unfold skN; rw [h]; rfl
theorem Fr.twoR {g : Nat} {l : List Bool} {σ σ' : Hp} (h : Fr g σ σ') (hs : σ.obj g = some (rsC l)) : Fr2 g g σ σ' :=
  ⟨fun x c hx _ hc => h.obj x c hx hc, fun k x hk => (h.gr k x hk (by rw [skN_rs hs]; simp)).1⟩
/-- What a plain reading leaves. -/
def RdU {α : Type} (g : Nat) (l : List Bool) (q : Nat) (enc : α → V) (zero : V) (p : Prs α) (σ : Hp) (v : V) (σ' : Hp) : Prop :=
  match p (l.drop q) with
  | .ok (a, c) => v = .tup [enc a, .c (.int .i64 0)] ∧ σ'.obj g = some (rsC (l.drop (q + c))) ∧ Fr2 g g σ σ'
  | .error e => v = .tup [zero, .c (.int .i64 e)] ∧ e ≠ 0 ∧ σ'.obj g = some (rsC (l.drop q)) ∧ Fr2 g g σ σ'
theorem rBitsU {g q n : Nat} {l : List Bool} {σ : Hp} (ho : σ.obj g = some (rsC (l.drop q))) (hl : l.length < 1099511627776) (hn : n ≤ 64) :
    ACalls Try.prog 125 [ptrV g, .c (.int .i64 n)] σ (RdU g l q (fun a => .c (.int .u64 (a : Nat))) (.c (.int .u64 0)) (bitsP n) σ) :=
  (rBits_spec g _ n σ ho (by rw [List.length_drop]; omega) hn).to fun v σ' hv => by
    unfold RdU bitsP
    by_cases h : n ≤ (l.drop q).length
    · rw [if_pos h] at hv ⊢
      obtain ⟨rfl, rfl⟩ := hv
      exact ⟨rfl, by simp [List.drop_drop], (Fr.rs ho).twoR ho⟩
    · rw [if_neg h] at hv ⊢
      obtain ⟨rfl, rfl⟩ := hv
      exact ⟨rfl, by decide, ho, Fr2.refl _ _ _⟩
theorem rNatU {g q : Nat} {l : List Bool} {σ : Hp} (ho : σ.obj g = some (rsC (l.drop q))) (hl : l.length < 1099511627776) :
    ACalls Try.prog 145 [ptrV g] σ (RdU g l q (fun a => .c (.int .u64 (a : Nat))) (.c (.int .u64 0)) natP σ) :=
  (rNat_spec g _ σ ho (by rw [List.length_drop]; omega)).to fun v σ' hv => by
    unfold RdU
    cases h : natP (l.drop q) with
    | ok x =>
      obtain ⟨u, c⟩ := x
      rw [h] at hv
      obtain ⟨rfl, rfl⟩ := hv
      exact ⟨rfl, by simp [List.drop_drop], (Fr.rs ho).twoR ho⟩
    | error e =>
      rw [h] at hv
      obtain ⟨rfl, rfl⟩ := hv
      exact ⟨rfl, natP_err h, ho, Fr2.refl _ _ _⟩
theorem rTextU {g q : Nat} {l : List Bool} {σ : Hp} (ho : σ.obj g = some (rsC (l.drop q))) (hl : l.length < 1099511627776) :
    ACalls Try.prog 126 [ptrV g] σ (RdU g l q (fun a => .c (.string (strOf a))) (.c (.string ⟨#[]⟩)) textP σ) :=
  (rText_spec g _ σ ho (by rw [List.length_drop]; omega)).to fun v σ' hv => by
    unfold RdU
    cases h : textP (l.drop q) with
    | ok x =>
      obtain ⟨u, c⟩ := x
      rw [h] at hv
      obtain ⟨rfl, ho', hf⟩ := hv
      exact ⟨rfl, by rw [ho', List.drop_drop], hf.twoR ho⟩
    | error e =>
      rw [h] at hv
      obtain ⟨rfl, ho', hf⟩ := hv
      exact ⟨rfl, textP_err h, ho', hf.twoR ho⟩
theorem rvalueU {g q : Nat} {l : List Bool} {σ : Hp} (ho : σ.obj g = some (rsC (l.drop q))) (hl : l.length < 1099511627776) :
    ACalls Try.prog 158 [ptrV g] σ (fun v σ' => match valP (l.drop q) with
      | .ok (a, c) => v = .tup [.agg (encVal a), .c (.int .i64 0)] ∧ σ'.obj g = some (rsC (l.drop (q + c))) ∧ Fr2 g g σ σ'
      | .error e => ∃ a l', v = .tup [.agg (encVal a), .c (.int .i64 e)] ∧ e ≠ 0 ∧ σ'.obj g = some (rsC l') ∧ Fr2 g g σ σ') :=
  (rvalue_spec g _ σ ho (by rw [List.length_drop]; omega)).to fun v σ' hv => by
    unfold Rd at hv
    cases h : valP (l.drop q) with
    | ok x =>
      obtain ⟨u, c⟩ := x
      rw [h] at hv
      obtain ⟨rfl, ho', hf⟩ := hv
      exact ⟨rfl, by rw [ho', List.drop_drop], hf.twoR ho⟩
    | error e =>
      rw [h] at hv
      obtain ⟨a, l', rfl, he, ho', hf⟩ := hv
      exact ⟨a, l', rfl, he, ho', hf.twoR ho⟩
def mkR (s q t : Nat) (ty : List Nat) (l : List Attr) : Ev := ⟨s, IntKind.i64.wrap q, IntKind.i64.wrap t, strOf ty, l⟩
/-- An event, as the reference reads it: unchecked. -/
def evR0 : Prs Ev := Prs.bind (bitsP 4) fun s => Prs.bind natP fun q => Prs.bind natP fun t => Prs.bind textP fun ty => Prs.bind (bitsP 4) fun n =>
  if 8 < n then Prs.err 40 else Prs.bind (Prs.rep attrP n) fun l => Prs.ret (mkR s q t ty l)
/-- What a composed reading leaves. -/
def RdL {α : Type} (g : Nat) (l : List Bool) (q : Nat) (enc : α → V) (good : α → Prop) (p : Prs α) (σ : Hp) (v : V) (σ' : Hp) : Prop :=
  match AtL l q p with
  | .ok (a, q') => v = .tup [enc a, .c (.int .i64 0)] ∧ good a ∧ σ'.obj g = some (rsC (l.drop q')) ∧ Fr2 g g σ σ'
  | .error e => ∃ a l', v = .tup [enc a, .c (.int .i64 e)] ∧ e ≠ 0 ∧ σ'.obj g = some (rsC l') ∧ Fr2 g g σ σ'
section
variable {α : Type} {g : Nat} {l : List Bool} {q : Nat} {enc : α → V} {good : α → Prop} {p : Prs α} {σ σ' : Hp} {v : V}
theorem RdL.err {e : Int} {l' : List Bool} (a : α) (h : AtL l q p = .error e) (hv : v = .tup [enc a, .c (.int .i64 e)]) (he : e ≠ 0) (ho : σ'.obj g = some (rsC l')) (hf : Fr2 g g σ σ') : RdL g l q enc good p σ v σ' := by
  unfold RdL; rw [h]; exact ⟨a, l', hv, he, ho, hf⟩
theorem RdL.okk {q' : Nat} {a : α} (h : AtL l q p = .ok (a, q')) (hv : v = .tup [enc a, .c (.int .i64 0)]) (hg : good a) (ho : σ'.obj g = some (rsC (l.drop q'))) (hf : Fr2 g g σ σ') : RdL g l q enc good p σ v σ' := by
  unfold RdL; rw [h]; exact ⟨hv, hg, ho, hf⟩
end
theorem attrP_bind {β : Type} (f : Attr → Prs β) : Prs.bind attrP f = Prs.bind textP fun t => Prs.bind valP fun v => f ⟨strOf t, v⟩ := by
  rw [attrP, bind_assoc]
  congr 1
  funext t
  rw [bind_assoc]
  congr 1
  funext e
  rw [ret_bind]
theorem valP_good {l : List Bool} {a : Val} {c : Nat} (h : valP l = .ok (a, c)) (hl : l.length < 1099511627776) : a.s.size < 4611686018427387904 := by
  unfold valP Prs.bind at h
  cases hB : bitsP 2 l with
  | error e => rw [hB] at h; cases h
  | ok x =>
    obtain ⟨k, c1⟩ := x
    rw [hB] at h
    simp only [] at h
    by_cases h1 : k = 1
    · rw [if_pos h1] at h
      cases hN : numP (l.drop c1) with
      | error e => rw [hN] at h; cases h
      | ok y => rw [hN] at h; injection h with h; injection h with h2 h3; rw [← h2]; exact (show (⟨#[]⟩ : ByteArray).size < 4611686018427387904 by decide)
    · rw [if_neg h1] at h
      by_cases h2 : k = 2
      · rw [if_pos h2] at h
        cases hN : textP (l.drop c1) with
        | error e => rw [hN] at h; cases h
        | ok y =>
          obtain ⟨t, c2⟩ := y
          obtain ⟨_, h5, _⟩ := textP_ok hN
          rw [List.length_drop] at h5
          rw [hN] at h; injection h with h; injection h with h3 h4; rw [← h3]
          show (strOf t).size < _
          rw [strOf_size]; omega
      · rw [if_neg h2] at h; cases h
theorem rtake_spec (g : Nat) (l : List Bool) (q : Nat) (σ : Hp) (ho : σ.obj g = some (rsC (l.drop q))) (hl : l.length < 1099511627776) :
    ACalls Try.prog 146 [ptrV g] σ (RdL g l q (fun a => .agg (encEv a)) okE evR0 σ) := by
  refine ACalls.intro Try.call146 Try.func146 rfl Try.ntmps146 Try.results146 (by simp) ?_
  have hA : AtL l q evR0 = _ := AtL_bind
  refine AW.seq_k fun K1 h1 => ?_
  all_goals refine AW.reg0 ?_
  all_goals iterate 2 (refine S.g rfl rfl fun K' k' => ?_; simp only [zz, reduceIte, Nat.reduceEqDiff, Nat.reduceLT, Nat.reduceLeDiff, Nat.reduceAdd, reduceCtorEq, Nat.reduceMul, zt36]; refine k' _ _ ?_; clear k' K')
  all_goals refine S.nil ?_
  all_goals simp only [ze, reduceIte, Nat.reduceEqDiff, Nat.reduceLT, Nat.reduceLeDiff, Nat.reduceAdd, reduceCtorEq, Nat.reduceMul]
  all_goals apply_assumption
  refine AW.seq_k fun K2 h2 => ?_
  all_goals refine AW.reg0 ?_
  all_goals (refine S.g rfl rfl fun K' k' => ?_; simp only [zz, reduceIte, Nat.reduceEqDiff, Nat.reduceLT, Nat.reduceLeDiff, Nat.reduceAdd, reduceCtorEq, Nat.reduceMul, zt36, pw]; refine k' _ _ ?_; clear k' K')
  all_goals refine S.nil ?_
  all_goals simp only [ze, reduceIte, Nat.reduceEqDiff, Nat.reduceLT, Nat.reduceLeDiff, Nat.reduceAdd, reduceCtorEq, Nat.reduceMul, pw]
  all_goals apply_assumption
  rcases hN1 : bitsP 4 (l.drop q) with d | ⟨sN, c1⟩
  · rw [AtL_er hN1] at hA
    simp only [] at hA
    refine AW.seq_k fun K3 h3 => ?_
    all_goals refine AW.reg0 ?_
    all_goals (refine S.g rfl rfl fun K' k' => ?_; simp only [zz, reduceIte, Nat.reduceEqDiff, Nat.reduceAdd, pw]; refine k' _ _ ?_; clear k' K')
    all_goals (refine S.g rfl rfl fun K' k' => ?_; simp only [zz, reduceIte, Nat.reduceEqDiff, Nat.reduceLT, Nat.reduceLeDiff, Nat.reduceAdd, reduceCtorEq, Nat.reduceMul, pw]; refine (rBitsU (n := 4) ho hl (by omega)).to fun v σ2 hv => ?_; unfold RdU at hv; simp only [hN1] at hv; obtain ⟨rfl, hv⟩ := hv <;> (refine k' _ _ ?_; clear k' K'))
    all_goals iterate 5 (refine S.g rfl rfl fun K' k' => ?_; simp only [zz, reduceIte, Nat.reduceEqDiff, Nat.reduceLT, Nat.reduceLeDiff, Nat.reduceAdd, reduceCtorEq, Nat.reduceMul, pw]; refine k' _ _ ?_; clear k' K')
    all_goals refine S.nil ?_
    all_goals simp only [ze, reduceIte, Nat.reduceEqDiff, Nat.reduceLT, Nat.reduceLeDiff, Nat.reduceAdd, reduceCtorEq, Nat.reduceMul, pw]
    all_goals apply_assumption
    obtain ⟨hd, ho2, hf2'⟩ := hv
    refine AW.seq_k fun K4 h4 => ?_
    refine AW.seq_k fun K5 h5 => ?_
    all_goals refine AW.reg0 ?_
    all_goals iterate 2 (refine S.g rfl rfl fun K' k' => ?_; simp only [zz, reduceIte, Nat.reduceEqDiff, Nat.reduceAdd]; refine k' _ _ ?_; clear k' K')
    all_goals refine S.nil ?_
    all_goals simp only [ze, reduceIte, Nat.reduceEqDiff, Nat.reduceLT, Nat.reduceLeDiff, Nat.reduceAdd, reduceCtorEq, Nat.reduceMul]
    all_goals apply_assumption
    refine AW.cond (b := true) (by simp [ev, hd]) (fun hc => ?_) (fun hc => by cases hc)
    refine AW.seq_k fun K6 h6 => ?_
    all_goals refine AW.reg0 ?_
    all_goals iterate 4 (refine S.g rfl rfl fun K' k' => ?_; simp only [zz, reduceIte, Nat.reduceEqDiff, Nat.reduceLT, Nat.reduceLeDiff, Nat.reduceAdd, reduceCtorEq, Nat.reduceMul, ok36, sz36, ag36]; refine k' _ _ ?_; clear k' K')
    all_goals refine S.nil ?_
    all_goals simp only [ze, reduceIte, Nat.reduceEqDiff, Nat.reduceLT, Nat.reduceLeDiff, Nat.reduceAdd, reduceCtorEq, Nat.reduceMul]
    all_goals apply_assumption
    refine AW.ret ?_
    all_goals simp only [zs, reduceIte, Nat.reduceEqDiff, Nat.reduceLT, Nat.reduceLeDiff, Nat.reduceAdd, reduceCtorEq, Nat.reduceMul, ok36, sz36, ag36, cut, List.drop_zero, List.take_succ_cons, List.take_zero]
    all_goals simp only [zz, Bool.false_eq_true, if_true, reduceIte, not_false_eq_true, true_and]
    exact RdL.err ⟨0, 0, 0, ⟨#[]⟩, []⟩ hA (by simp [wk, wk1, encEv]) hd ho2 hf2'
  rw [AtL_ok hN1] at hA
  simp only [] at hA
  refine AW.seq_k fun K7 h7 => ?_
  all_goals refine AW.reg0 ?_
  all_goals (refine S.g rfl rfl fun K' k' => ?_; simp only [zz, reduceIte, Nat.reduceEqDiff, Nat.reduceAdd, pw]; refine k' _ _ ?_; clear k' K')
  all_goals (refine S.g rfl rfl fun K' k' => ?_; simp only [zz, reduceIte, Nat.reduceEqDiff, Nat.reduceLT, Nat.reduceLeDiff, Nat.reduceAdd, reduceCtorEq, Nat.reduceMul, pw]; refine (rBitsU (n := 4) ho hl (by omega)).to fun v σ2 hv => ?_; unfold RdU at hv; simp only [hN1] at hv; obtain ⟨rfl, hv⟩ := hv <;> (refine k' _ _ ?_; clear k' K'))
  all_goals iterate 5 (refine S.g rfl rfl fun K' k' => ?_; simp only [zz, reduceIte, Nat.reduceEqDiff, Nat.reduceLT, Nat.reduceLeDiff, Nat.reduceAdd, reduceCtorEq, Nat.reduceMul, pw]; refine k' _ _ ?_; clear k' K')
  all_goals refine S.nil ?_
  all_goals simp only [ze, reduceIte, Nat.reduceEqDiff, Nat.reduceLT, Nat.reduceLeDiff, Nat.reduceAdd, reduceCtorEq, Nat.reduceMul, pw]
  all_goals apply_assumption
  obtain ⟨ho2, hf2'⟩ := hv
  have hf2 : Fr2 g g σ _ := hf2'
  refine AW.seq_k fun K8 h8 => ?_
  refine AW.seq_k fun K9 h9 => ?_
  all_goals refine AW.reg0 ?_
  all_goals iterate 2 (refine S.g rfl rfl fun K' k' => ?_; simp only [zz, reduceIte, Nat.reduceEqDiff, Nat.reduceAdd]; refine k' _ _ ?_; clear k' K')
  all_goals refine S.nil ?_
  all_goals simp only [ze, reduceIte, Nat.reduceEqDiff, Nat.reduceLT, Nat.reduceLeDiff, Nat.reduceAdd, reduceCtorEq, Nat.reduceMul]
  all_goals apply_assumption
  refine AW.cond (b := false) (by simp [ev]) (fun hc => by cases hc) (fun hc => ?_)
  refine AW.skip ?_
  all_goals simp only [zs, reduceIte, Nat.reduceEqDiff, Nat.reduceLT, Nat.reduceLeDiff, Nat.reduceAdd, reduceCtorEq, Nat.reduceMul]
  all_goals apply_assumption
  have hsN : sN < 16 := by
    have h := hN1
    unfold bitsP at h
    split at h
    · injection h with h; injection h with h1 h2; rw [← h1]; exact tk2 _ 4
    · cases h
  generalize q + c1 = q1 at *
  rw [AtL_bind] at hA
  rcases hN2 : natP (l.drop q1) with d | ⟨qN, c2⟩
  · rw [AtL_er hN2] at hA
    simp only [] at hA
    refine AW.seq_k fun K10 h10 => ?_
    all_goals refine AW.reg0 ?_
    all_goals (refine S.g rfl rfl fun K' k' => ?_; simp only [zz, reduceIte, Nat.reduceEqDiff, Nat.reduceAdd, pw]; refine k' _ _ ?_; clear k' K')
    all_goals (refine S.g rfl rfl fun K' k' => ?_; simp only [zz, reduceIte, Nat.reduceEqDiff, Nat.reduceLT, Nat.reduceLeDiff, Nat.reduceAdd, reduceCtorEq, Nat.reduceMul, pw]; refine (rNatU ho2 hl).to fun v σ3 hv => ?_; unfold RdU at hv; simp only [hN2] at hv; obtain ⟨rfl, hv⟩ := hv <;> (refine k' _ _ ?_; clear k' K'))
    all_goals iterate 5 (refine S.g rfl rfl fun K' k' => ?_; simp only [zz, reduceIte, Nat.reduceEqDiff, Nat.reduceLT, Nat.reduceLeDiff, Nat.reduceAdd, reduceCtorEq, Nat.reduceMul, pw]; refine k' _ _ ?_; clear k' K')
    all_goals refine S.nil ?_
    all_goals simp only [ze, reduceIte, Nat.reduceEqDiff, Nat.reduceLT, Nat.reduceLeDiff, Nat.reduceAdd, reduceCtorEq, Nat.reduceMul, pw]
    all_goals apply_assumption
    obtain ⟨hd, ho3, hf3'⟩ := hv
    refine AW.seq_k fun K11 h11 => ?_
    refine AW.seq_k fun K12 h12 => ?_
    all_goals refine AW.reg0 ?_
    all_goals iterate 2 (refine S.g rfl rfl fun K' k' => ?_; simp only [zz, reduceIte, Nat.reduceEqDiff, Nat.reduceAdd]; refine k' _ _ ?_; clear k' K')
    all_goals refine S.nil ?_
    all_goals simp only [ze, reduceIte, Nat.reduceEqDiff, Nat.reduceLT, Nat.reduceLeDiff, Nat.reduceAdd, reduceCtorEq, Nat.reduceMul]
    all_goals apply_assumption
    refine AW.cond (b := true) (by simp [ev, hd]) (fun hc => ?_) (fun hc => by cases hc)
    refine AW.seq_k fun K13 h13 => ?_
    all_goals refine AW.reg0 ?_
    all_goals iterate 4 (refine S.g rfl rfl fun K' k' => ?_; simp only [zz, reduceIte, Nat.reduceEqDiff, Nat.reduceLT, Nat.reduceLeDiff, Nat.reduceAdd, reduceCtorEq, Nat.reduceMul, ok36, sz36, ag36]; refine k' _ _ ?_; clear k' K')
    all_goals refine S.nil ?_
    all_goals simp only [ze, reduceIte, Nat.reduceEqDiff, Nat.reduceLT, Nat.reduceLeDiff, Nat.reduceAdd, reduceCtorEq, Nat.reduceMul]
    all_goals apply_assumption
    refine AW.ret ?_
    all_goals simp only [zs, reduceIte, Nat.reduceEqDiff, Nat.reduceLT, Nat.reduceLeDiff, Nat.reduceAdd, reduceCtorEq, Nat.reduceMul, ok36, sz36, ag36, cut, List.drop_zero, List.take_succ_cons, List.take_zero]
    all_goals simp only [zz, Bool.false_eq_true, if_true, reduceIte, not_false_eq_true, true_and]
    exact RdL.err ⟨0, 0, 0, ⟨#[]⟩, []⟩ hA (by simp [wk, wk1, encEv]) hd ho3 (hf2.trans hf3')
  rw [AtL_ok hN2] at hA
  simp only [] at hA
  refine AW.seq_k fun K14 h14 => ?_
  all_goals refine AW.reg0 ?_
  all_goals (refine S.g rfl rfl fun K' k' => ?_; simp only [zz, reduceIte, Nat.reduceEqDiff, Nat.reduceAdd, pw]; refine k' _ _ ?_; clear k' K')
  all_goals (refine S.g rfl rfl fun K' k' => ?_; simp only [zz, reduceIte, Nat.reduceEqDiff, Nat.reduceLT, Nat.reduceLeDiff, Nat.reduceAdd, reduceCtorEq, Nat.reduceMul, pw]; refine (rNatU ho2 hl).to fun v σ3 hv => ?_; unfold RdU at hv; simp only [hN2] at hv; obtain ⟨rfl, hv⟩ := hv <;> (refine k' _ _ ?_; clear k' K'))
  all_goals iterate 5 (refine S.g rfl rfl fun K' k' => ?_; simp only [zz, reduceIte, Nat.reduceEqDiff, Nat.reduceLT, Nat.reduceLeDiff, Nat.reduceAdd, reduceCtorEq, Nat.reduceMul, pw]; refine k' _ _ ?_; clear k' K')
  all_goals refine S.nil ?_
  all_goals simp only [ze, reduceIte, Nat.reduceEqDiff, Nat.reduceLT, Nat.reduceLeDiff, Nat.reduceAdd, reduceCtorEq, Nat.reduceMul, pw]
  all_goals apply_assumption
  obtain ⟨ho3, hf3'⟩ := hv
  have hf3 : Fr2 g g σ _ := (hf2.trans hf3')
  refine AW.seq_k fun K15 h15 => ?_
  refine AW.seq_k fun K16 h16 => ?_
  all_goals refine AW.reg0 ?_
  all_goals iterate 2 (refine S.g rfl rfl fun K' k' => ?_; simp only [zz, reduceIte, Nat.reduceEqDiff, Nat.reduceAdd]; refine k' _ _ ?_; clear k' K')
  all_goals refine S.nil ?_
  all_goals simp only [ze, reduceIte, Nat.reduceEqDiff, Nat.reduceLT, Nat.reduceLeDiff, Nat.reduceAdd, reduceCtorEq, Nat.reduceMul]
  all_goals apply_assumption
  refine AW.cond (b := false) (by simp [ev]) (fun hc => by cases hc) (fun hc => ?_)
  refine AW.skip ?_
  all_goals simp only [zs, reduceIte, Nat.reduceEqDiff, Nat.reduceLT, Nat.reduceLeDiff, Nat.reduceAdd, reduceCtorEq, Nat.reduceMul]
  all_goals apply_assumption
  generalize q1 + c2 = q2 at *
  rw [AtL_bind] at hA
  rcases hN3 : natP (l.drop q2) with d | ⟨tN, c3⟩
  · rw [AtL_er hN3] at hA
    simp only [] at hA
    refine AW.seq_k fun K17 h17 => ?_
    all_goals refine AW.reg0 ?_
    all_goals (refine S.g rfl rfl fun K' k' => ?_; simp only [zz, reduceIte, Nat.reduceEqDiff, Nat.reduceAdd, pw]; refine k' _ _ ?_; clear k' K')
    all_goals (refine S.g rfl rfl fun K' k' => ?_; simp only [zz, reduceIte, Nat.reduceEqDiff, Nat.reduceLT, Nat.reduceLeDiff, Nat.reduceAdd, reduceCtorEq, Nat.reduceMul, pw]; refine (rNatU ho3 hl).to fun v σ4 hv => ?_; unfold RdU at hv; simp only [hN3] at hv; obtain ⟨rfl, hv⟩ := hv <;> (refine k' _ _ ?_; clear k' K'))
    all_goals iterate 5 (refine S.g rfl rfl fun K' k' => ?_; simp only [zz, reduceIte, Nat.reduceEqDiff, Nat.reduceLT, Nat.reduceLeDiff, Nat.reduceAdd, reduceCtorEq, Nat.reduceMul, pw]; refine k' _ _ ?_; clear k' K')
    all_goals refine S.nil ?_
    all_goals simp only [ze, reduceIte, Nat.reduceEqDiff, Nat.reduceLT, Nat.reduceLeDiff, Nat.reduceAdd, reduceCtorEq, Nat.reduceMul, pw]
    all_goals apply_assumption
    obtain ⟨hd, ho4, hf4'⟩ := hv
    refine AW.seq_k fun K18 h18 => ?_
    refine AW.seq_k fun K19 h19 => ?_
    all_goals refine AW.reg0 ?_
    all_goals iterate 2 (refine S.g rfl rfl fun K' k' => ?_; simp only [zz, reduceIte, Nat.reduceEqDiff, Nat.reduceAdd]; refine k' _ _ ?_; clear k' K')
    all_goals refine S.nil ?_
    all_goals simp only [ze, reduceIte, Nat.reduceEqDiff, Nat.reduceLT, Nat.reduceLeDiff, Nat.reduceAdd, reduceCtorEq, Nat.reduceMul]
    all_goals apply_assumption
    refine AW.cond (b := true) (by simp [ev, hd]) (fun hc => ?_) (fun hc => by cases hc)
    refine AW.seq_k fun K20 h20 => ?_
    all_goals refine AW.reg0 ?_
    all_goals iterate 4 (refine S.g rfl rfl fun K' k' => ?_; simp only [zz, reduceIte, Nat.reduceEqDiff, Nat.reduceLT, Nat.reduceLeDiff, Nat.reduceAdd, reduceCtorEq, Nat.reduceMul, ok36, sz36, ag36]; refine k' _ _ ?_; clear k' K')
    all_goals refine S.nil ?_
    all_goals simp only [ze, reduceIte, Nat.reduceEqDiff, Nat.reduceLT, Nat.reduceLeDiff, Nat.reduceAdd, reduceCtorEq, Nat.reduceMul]
    all_goals apply_assumption
    refine AW.ret ?_
    all_goals simp only [zs, reduceIte, Nat.reduceEqDiff, Nat.reduceLT, Nat.reduceLeDiff, Nat.reduceAdd, reduceCtorEq, Nat.reduceMul, ok36, sz36, ag36, cut, List.drop_zero, List.take_succ_cons, List.take_zero]
    all_goals simp only [zz, Bool.false_eq_true, if_true, reduceIte, not_false_eq_true, true_and]
    exact RdL.err ⟨0, 0, 0, ⟨#[]⟩, []⟩ hA (by simp [wk, wk1, encEv]) hd ho4 (hf3.trans hf4')
  rw [AtL_ok hN3] at hA
  simp only [] at hA
  refine AW.seq_k fun K21 h21 => ?_
  all_goals refine AW.reg0 ?_
  all_goals (refine S.g rfl rfl fun K' k' => ?_; simp only [zz, reduceIte, Nat.reduceEqDiff, Nat.reduceAdd, pw]; refine k' _ _ ?_; clear k' K')
  all_goals (refine S.g rfl rfl fun K' k' => ?_; simp only [zz, reduceIte, Nat.reduceEqDiff, Nat.reduceLT, Nat.reduceLeDiff, Nat.reduceAdd, reduceCtorEq, Nat.reduceMul, pw]; refine (rNatU ho3 hl).to fun v σ4 hv => ?_; unfold RdU at hv; simp only [hN3] at hv; obtain ⟨rfl, hv⟩ := hv <;> (refine k' _ _ ?_; clear k' K'))
  all_goals iterate 5 (refine S.g rfl rfl fun K' k' => ?_; simp only [zz, reduceIte, Nat.reduceEqDiff, Nat.reduceLT, Nat.reduceLeDiff, Nat.reduceAdd, reduceCtorEq, Nat.reduceMul, pw]; refine k' _ _ ?_; clear k' K')
  all_goals refine S.nil ?_
  all_goals simp only [ze, reduceIte, Nat.reduceEqDiff, Nat.reduceLT, Nat.reduceLeDiff, Nat.reduceAdd, reduceCtorEq, Nat.reduceMul, pw]
  all_goals apply_assumption
  obtain ⟨ho4, hf4'⟩ := hv
  have hf4 : Fr2 g g σ _ := (hf3.trans hf4')
  refine AW.seq_k fun K22 h22 => ?_
  refine AW.seq_k fun K23 h23 => ?_
  all_goals refine AW.reg0 ?_
  all_goals iterate 2 (refine S.g rfl rfl fun K' k' => ?_; simp only [zz, reduceIte, Nat.reduceEqDiff, Nat.reduceAdd]; refine k' _ _ ?_; clear k' K')
  all_goals refine S.nil ?_
  all_goals simp only [ze, reduceIte, Nat.reduceEqDiff, Nat.reduceLT, Nat.reduceLeDiff, Nat.reduceAdd, reduceCtorEq, Nat.reduceMul]
  all_goals apply_assumption
  refine AW.cond (b := false) (by simp [ev]) (fun hc => by cases hc) (fun hc => ?_)
  refine AW.skip ?_
  all_goals simp only [zs, reduceIte, Nat.reduceEqDiff, Nat.reduceLT, Nat.reduceLeDiff, Nat.reduceAdd, reduceCtorEq, Nat.reduceMul]
  all_goals apply_assumption
  generalize q2 + c3 = q3 at *
  rw [AtL_bind] at hA
  have hws : IntKind.i64.wrap (sN : Int) = (sN : Int) := wrapI _ (by omega) (by omega)
  refine AW.seq_k fun K24 h24 => ?_
  all_goals refine AW.reg0 ?_
  all_goals iterate 4 (refine S.g rfl rfl fun K' k' => ?_; simp only [zz, reduceIte, Nat.reduceEqDiff, Nat.reduceAdd, cv54_3, cv54_2, hws]; refine k' _ _ ?_; clear k' K')
  all_goals (refine S.g rfl rfl fun K' k' => ?_; simp only [zz, reduceIte, Nat.reduceEqDiff, Nat.reduceLT, Nat.reduceLeDiff, Nat.reduceAdd, reduceCtorEq, Nat.reduceMul, zt33, pl33, hws]; refine k' _ _ ?_; clear k' K')
  all_goals iterate 2 (refine S.g rfl rfl fun K' k' => ?_; simp only [zz, reduceIte, Nat.reduceEqDiff, Nat.reduceLT, Nat.reduceLeDiff, Nat.reduceAdd, reduceCtorEq, Nat.reduceMul, of36_0, ok33, sz33, ag33, hws]; refine k' _ _ ?_; clear k' K')
  all_goals refine S.nil ?_
  all_goals simp only [ze, reduceIte, Nat.reduceEqDiff, Nat.reduceLT, Nat.reduceLeDiff, Nat.reduceAdd, reduceCtorEq, Nat.reduceMul, hws]
  all_goals apply_assumption
  refine AW.seq_k fun K25 h25 => ?_
  all_goals refine AW.reg0 ?_
  all_goals iterate 4 (refine S.g rfl rfl fun K' k' => ?_; simp only [zz, reduceIte, Nat.reduceEqDiff, Nat.reduceLT, Nat.reduceLeDiff, Nat.reduceAdd, reduceCtorEq, Nat.reduceMul, cv54_2, of36_1, ok2, sz2, ag2]; refine k' _ _ ?_; clear k' K')
  all_goals refine S.nil ?_
  all_goals simp only [ze, reduceIte, Nat.reduceEqDiff, Nat.reduceLT, Nat.reduceLeDiff, Nat.reduceAdd, reduceCtorEq, Nat.reduceMul]
  all_goals apply_assumption
  rcases hN4 : textP (l.drop q3) with d | ⟨ty, c4⟩
  · rw [AtL_er hN4] at hA
    simp only [] at hA
    refine AW.seq_k fun K26 h26 => ?_
    all_goals refine AW.reg0 ?_
    all_goals (refine S.g rfl rfl fun K' k' => ?_; simp only [zz, reduceIte, Nat.reduceEqDiff, Nat.reduceAdd, pw]; refine k' _ _ ?_; clear k' K')
    all_goals (refine S.g rfl rfl fun K' k' => ?_; simp only [zz, reduceIte, Nat.reduceEqDiff, Nat.reduceLT, Nat.reduceLeDiff, Nat.reduceAdd, reduceCtorEq, Nat.reduceMul, pw]; refine (rTextU ho4 hl).to fun v σ5 hv => ?_; unfold RdU at hv; simp only [hN4] at hv; obtain ⟨rfl, hv⟩ := hv <;> (refine k' _ _ ?_; clear k' K'))
    all_goals iterate 6 (refine S.g rfl rfl fun K' k' => ?_; simp only [zz, reduceIte, Nat.reduceEqDiff, Nat.reduceLT, Nat.reduceLeDiff, Nat.reduceAdd, reduceCtorEq, Nat.reduceMul, of36_2, ok9, sz9, ag9, pw]; refine k' _ _ ?_; clear k' K')
    all_goals refine S.nil ?_
    all_goals simp only [ze, reduceIte, Nat.reduceEqDiff, Nat.reduceLT, Nat.reduceLeDiff, Nat.reduceAdd, reduceCtorEq, Nat.reduceMul, pw]
    all_goals apply_assumption
    obtain ⟨hd, ho5, hf5'⟩ := hv
    refine AW.seq_k fun K27 h27 => ?_
    refine AW.seq_k fun K28 h28 => ?_
    all_goals refine AW.reg0 ?_
    all_goals iterate 2 (refine S.g rfl rfl fun K' k' => ?_; simp only [zz, reduceIte, Nat.reduceEqDiff, Nat.reduceAdd]; refine k' _ _ ?_; clear k' K')
    all_goals refine S.nil ?_
    all_goals simp only [ze, reduceIte, Nat.reduceEqDiff, Nat.reduceLT, Nat.reduceLeDiff, Nat.reduceAdd, reduceCtorEq, Nat.reduceMul]
    all_goals apply_assumption
    refine AW.cond (b := true) (by simp [ev, hd]) (fun hc => ?_) (fun hc => by cases hc)
    refine AW.seq_k fun K29 h29 => ?_
    all_goals refine AW.reg0 ?_
    all_goals iterate 4 (refine S.g rfl rfl fun K' k' => ?_; simp only [zz, reduceIte, Nat.reduceEqDiff, Nat.reduceLT, Nat.reduceLeDiff, Nat.reduceAdd, reduceCtorEq, Nat.reduceMul, ok36, sz36, ag36]; refine k' _ _ ?_; clear k' K')
    all_goals refine S.nil ?_
    all_goals simp only [ze, reduceIte, Nat.reduceEqDiff, Nat.reduceLT, Nat.reduceLeDiff, Nat.reduceAdd, reduceCtorEq, Nat.reduceMul]
    all_goals apply_assumption
    refine AW.ret ?_
    all_goals simp only [zs, reduceIte, Nat.reduceEqDiff, Nat.reduceLT, Nat.reduceLeDiff, Nat.reduceAdd, reduceCtorEq, Nat.reduceMul, ok36, sz36, ag36, cut, List.drop_zero, List.take_succ_cons, List.take_zero]
    all_goals simp only [zz, Bool.false_eq_true, if_true, reduceIte, not_false_eq_true, true_and]
    exact RdL.err ⟨sN, IntKind.i64.wrap qN, IntKind.i64.wrap tN, ⟨#[]⟩, []⟩ hA (by simp [wk, wk1, encEv]) hd ho5 (hf4.trans hf5')
  rw [AtL_ok hN4] at hA
  simp only [] at hA
  refine AW.seq_k fun K30 h30 => ?_
  all_goals refine AW.reg0 ?_
  all_goals (refine S.g rfl rfl fun K' k' => ?_; simp only [zz, reduceIte, Nat.reduceEqDiff, Nat.reduceAdd, pw]; refine k' _ _ ?_; clear k' K')
  all_goals (refine S.g rfl rfl fun K' k' => ?_; simp only [zz, reduceIte, Nat.reduceEqDiff, Nat.reduceLT, Nat.reduceLeDiff, Nat.reduceAdd, reduceCtorEq, Nat.reduceMul, pw]; refine (rTextU ho4 hl).to fun v σ5 hv => ?_; unfold RdU at hv; simp only [hN4] at hv; obtain ⟨rfl, hv⟩ := hv <;> (refine k' _ _ ?_; clear k' K'))
  all_goals iterate 6 (refine S.g rfl rfl fun K' k' => ?_; simp only [zz, reduceIte, Nat.reduceEqDiff, Nat.reduceLT, Nat.reduceLeDiff, Nat.reduceAdd, reduceCtorEq, Nat.reduceMul, of36_2, ok9, sz9, ag9, pw]; refine k' _ _ ?_; clear k' K')
  all_goals refine S.nil ?_
  all_goals simp only [ze, reduceIte, Nat.reduceEqDiff, Nat.reduceLT, Nat.reduceLeDiff, Nat.reduceAdd, reduceCtorEq, Nat.reduceMul, pw]
  all_goals apply_assumption
  obtain ⟨ho5, hf5'⟩ := hv
  have hf5 : Fr2 g g σ _ := (hf4.trans hf5')
  refine AW.seq_k fun K31 h31 => ?_
  refine AW.seq_k fun K32 h32 => ?_
  all_goals refine AW.reg0 ?_
  all_goals iterate 2 (refine S.g rfl rfl fun K' k' => ?_; simp only [zz, reduceIte, Nat.reduceEqDiff, Nat.reduceAdd]; refine k' _ _ ?_; clear k' K')
  all_goals refine S.nil ?_
  all_goals simp only [ze, reduceIte, Nat.reduceEqDiff, Nat.reduceLT, Nat.reduceLeDiff, Nat.reduceAdd, reduceCtorEq, Nat.reduceMul]
  all_goals apply_assumption
  refine AW.cond (b := false) (by simp [ev]) (fun hc => by cases hc) (fun hc => ?_)
  refine AW.skip ?_
  all_goals simp only [zs, reduceIte, Nat.reduceEqDiff, Nat.reduceLT, Nat.reduceLeDiff, Nat.reduceAdd, reduceCtorEq, Nat.reduceMul]
  all_goals apply_assumption
  obtain ⟨_, hty, _⟩ := textP_ok hN4
  rw [List.length_drop] at hty
  generalize q3 + c4 = q4 at *
  rw [AtL_bind] at hA
  rcases hN5 : bitsP 4 (l.drop q4) with d | ⟨n, c5⟩
  · rw [AtL_er hN5] at hA
    simp only [] at hA
    refine AW.seq_k fun K33 h33 => ?_
    all_goals refine AW.reg0 ?_
    all_goals (refine S.g rfl rfl fun K' k' => ?_; simp only [zz, reduceIte, Nat.reduceEqDiff, Nat.reduceAdd, pw]; refine k' _ _ ?_; clear k' K')
    all_goals (refine S.g rfl rfl fun K' k' => ?_; simp only [zz, reduceIte, Nat.reduceEqDiff, Nat.reduceLT, Nat.reduceLeDiff, Nat.reduceAdd, reduceCtorEq, Nat.reduceMul, pw]; refine (rBitsU (n := 4) ho5 hl (by omega)).to fun v σ6 hv => ?_; unfold RdU at hv; simp only [hN5] at hv; obtain ⟨rfl, hv⟩ := hv <;> (refine k' _ _ ?_; clear k' K'))
    all_goals iterate 5 (refine S.g rfl rfl fun K' k' => ?_; simp only [zz, reduceIte, Nat.reduceEqDiff, Nat.reduceLT, Nat.reduceLeDiff, Nat.reduceAdd, reduceCtorEq, Nat.reduceMul, pw]; refine k' _ _ ?_; clear k' K')
    all_goals refine S.nil ?_
    all_goals simp only [ze, reduceIte, Nat.reduceEqDiff, Nat.reduceLT, Nat.reduceLeDiff, Nat.reduceAdd, reduceCtorEq, Nat.reduceMul, pw]
    all_goals apply_assumption
    obtain ⟨hd, ho6, hf6'⟩ := hv
    refine AW.seq_k fun K34 h34 => ?_
    refine AW.seq_k fun K35 h35 => ?_
    all_goals refine AW.reg0 ?_
    all_goals iterate 2 (refine S.g rfl rfl fun K' k' => ?_; simp only [zz, reduceIte, Nat.reduceEqDiff, Nat.reduceAdd]; refine k' _ _ ?_; clear k' K')
    all_goals refine S.nil ?_
    all_goals simp only [ze, reduceIte, Nat.reduceEqDiff, Nat.reduceLT, Nat.reduceLeDiff, Nat.reduceAdd, reduceCtorEq, Nat.reduceMul]
    all_goals apply_assumption
    refine AW.cond (b := true) (by simp [ev, hd]) (fun hc => ?_) (fun hc => by cases hc)
    refine AW.seq_k fun K36 h36 => ?_
    all_goals refine AW.reg0 ?_
    all_goals iterate 4 (refine S.g rfl rfl fun K' k' => ?_; simp only [zz, reduceIte, Nat.reduceEqDiff, Nat.reduceLT, Nat.reduceLeDiff, Nat.reduceAdd, reduceCtorEq, Nat.reduceMul, ok36, sz36, ag36]; refine k' _ _ ?_; clear k' K')
    all_goals refine S.nil ?_
    all_goals simp only [ze, reduceIte, Nat.reduceEqDiff, Nat.reduceLT, Nat.reduceLeDiff, Nat.reduceAdd, reduceCtorEq, Nat.reduceMul]
    all_goals apply_assumption
    refine AW.ret ?_
    all_goals simp only [zs, reduceIte, Nat.reduceEqDiff, Nat.reduceLT, Nat.reduceLeDiff, Nat.reduceAdd, reduceCtorEq, Nat.reduceMul, ok36, sz36, ag36, cut, List.drop_zero, List.take_succ_cons, List.take_zero]
    all_goals simp only [zz, Bool.false_eq_true, if_true, reduceIte, not_false_eq_true, true_and]
    exact RdL.err ⟨sN, IntKind.i64.wrap qN, IntKind.i64.wrap tN, strOf ty, []⟩ hA (by simp [wk, wk1, encEv]) hd ho6 (hf5.trans hf6')
  rw [AtL_ok hN5] at hA
  simp only [] at hA
  refine AW.seq_k fun K37 h37 => ?_
  all_goals refine AW.reg0 ?_
  all_goals (refine S.g rfl rfl fun K' k' => ?_; simp only [zz, reduceIte, Nat.reduceEqDiff, Nat.reduceAdd, pw]; refine k' _ _ ?_; clear k' K')
  all_goals (refine S.g rfl rfl fun K' k' => ?_; simp only [zz, reduceIte, Nat.reduceEqDiff, Nat.reduceLT, Nat.reduceLeDiff, Nat.reduceAdd, reduceCtorEq, Nat.reduceMul, pw]; refine (rBitsU (n := 4) ho5 hl (by omega)).to fun v σ6 hv => ?_; unfold RdU at hv; simp only [hN5] at hv; obtain ⟨rfl, hv⟩ := hv <;> (refine k' _ _ ?_; clear k' K'))
  all_goals iterate 5 (refine S.g rfl rfl fun K' k' => ?_; simp only [zz, reduceIte, Nat.reduceEqDiff, Nat.reduceLT, Nat.reduceLeDiff, Nat.reduceAdd, reduceCtorEq, Nat.reduceMul, pw]; refine k' _ _ ?_; clear k' K')
  all_goals refine S.nil ?_
  all_goals simp only [ze, reduceIte, Nat.reduceEqDiff, Nat.reduceLT, Nat.reduceLeDiff, Nat.reduceAdd, reduceCtorEq, Nat.reduceMul, pw]
  all_goals apply_assumption
  obtain ⟨ho6, hf6'⟩ := hv
  have hf6 : Fr2 g g σ _ := (hf5.trans hf6')
  refine AW.seq_k fun K38 h38 => ?_
  refine AW.seq_k fun K39 h39 => ?_
  all_goals refine AW.reg0 ?_
  all_goals iterate 2 (refine S.g rfl rfl fun K' k' => ?_; simp only [zz, reduceIte, Nat.reduceEqDiff, Nat.reduceAdd]; refine k' _ _ ?_; clear k' K')
  all_goals refine S.nil ?_
  all_goals simp only [ze, reduceIte, Nat.reduceEqDiff, Nat.reduceLT, Nat.reduceLeDiff, Nat.reduceAdd, reduceCtorEq, Nat.reduceMul]
  all_goals apply_assumption
  refine AW.cond (b := false) (by simp [ev]) (fun hc => by cases hc) (fun hc => ?_)
  refine AW.skip ?_
  all_goals simp only [zs, reduceIte, Nat.reduceEqDiff, Nat.reduceLT, Nat.reduceLeDiff, Nat.reduceAdd, reduceCtorEq, Nat.reduceMul]
  all_goals apply_assumption
  have hn : n < 16 := by
    have h := hN5
    unfold bitsP at h
    split at h
    · injection h with h; injection h with h1 h2; rw [← h1]; exact tk2 _ 4
    · cases h
  generalize q4 + c5 = q5 at *
  refine AW.seq_k fun K40 h40 => ?_
  refine AW.seq_k fun K41 h41 => ?_
  all_goals refine AW.reg0 ?_
  all_goals iterate 2 (refine S.g rfl rfl fun K' k' => ?_; simp only [zz, reduceIte, Nat.reduceEqDiff, Nat.reduceAdd, gt_iff_lt]; refine k' _ _ ?_; clear k' K')
  all_goals refine S.nil ?_
  all_goals simp only [ze, reduceIte, Nat.reduceEqDiff, Nat.reduceLT, Nat.reduceLeDiff, Nat.reduceAdd, reduceCtorEq, Nat.reduceMul, gt_iff_lt]
  all_goals apply_assumption
  refine AW.cond (b := decide (8 < n)) (by simp [ev]; try omega) (fun hc => ?_) (fun hc => ?_)
  · have hc := of_decide_eq_true hc
    rw [if_pos hc] at hA
    refine AW.seq_k fun K42 h42 => ?_
    all_goals refine AW.reg0 ?_
    all_goals iterate 3 (refine S.g rfl rfl fun K' k' => ?_; simp only [zz, reduceIte, Nat.reduceEqDiff, Nat.reduceLT, Nat.reduceLeDiff, Nat.reduceAdd, reduceCtorEq, Nat.reduceMul, ok36, sz36, ag36]; refine k' _ _ ?_; clear k' K')
    all_goals refine S.nil ?_
    all_goals simp only [ze, reduceIte, Nat.reduceEqDiff, Nat.reduceLT, Nat.reduceLeDiff, Nat.reduceAdd, reduceCtorEq, Nat.reduceMul]
    all_goals apply_assumption
    refine AW.ret ?_
    all_goals simp only [zs, reduceIte, Nat.reduceEqDiff, Nat.reduceLT, Nat.reduceLeDiff, Nat.reduceAdd, reduceCtorEq, Nat.reduceMul, ok36, sz36, ag36, cut, List.drop_zero, List.take_succ_cons, List.take_zero]
    all_goals simp only [zz, Bool.false_eq_true, if_true, reduceIte, not_false_eq_true, true_and]
    exact RdL.err ⟨sN, IntKind.i64.wrap qN, IntKind.i64.wrap tN, strOf ty, []⟩ hA (by simp [wk, wk1, encEv]) (by decide) ho6 hf6
  have hc := of_decide_eq_false hc
  rw [if_neg hc] at hA
  refine AW.skip ?_
  all_goals simp only [zs, reduceIte, Nat.reduceEqDiff, Nat.reduceLT, Nat.reduceLeDiff, Nat.reduceAdd, reduceCtorEq, Nat.reduceMul]
  all_goals apply_assumption
  refine AW.seq_j (fun s σ' => s.t 0 = ptrV g ∧ s.t 2 = .lp 2 0 ∧ s.l 2 = some [.c (.int .i64 0), .c (.int .i64 0), .c (.int .i64 0), .c (.string ⟨#[]⟩), .c (.slice none 0 0)] ∧ s.t 4 = .lp 4 0 ∧
    ∃ acc x q7, s.l 4 = some [.c (.int .i64 (sN : Nat)), .c (.int .i64 (IntKind.i64.wrap qN)), .c (.int .i64 (IntKind.i64.wrap tN)), .c (.string (strOf ty)), x] ∧ (x = .sl (acc.map encAttr) ∨ (acc = [] ∧ x = .c (.slice none 0 0))) ∧
      σ'.obj g = some (rsC (l.drop q7)) ∧ Fr2 g g σ σ' ∧ acc.length ≤ 15 ∧ (∀ a ∈ acc, goodA a) ∧ AtL l q evR0 = AtL l q7 (Prs.ret (mkR sN qN tN ty acc))) ?_ ?_
  · refine AW.seq_k fun K43 h43 => ?_
    all_goals refine AW.reg0 ?_
    all_goals (refine S.g rfl rfl fun K' k' => ?_; simp only [zz, reduceIte, Nat.reduceEqDiff, Nat.reduceAdd]; refine k' _ _ ?_; clear k' K')
    all_goals refine S.nil ?_
    all_goals simp only [ze, reduceIte, Nat.reduceEqDiff, Nat.reduceLT, Nat.reduceLeDiff, Nat.reduceAdd, reduceCtorEq, Nat.reduceMul]
    all_goals apply_assumption
    refine AW.block ?_   -- 0
    refine AW.loop (fun m s σ' => s.t 0 = ptrV g ∧ s.t 2 = .lp 2 0 ∧ s.l 2 = some [.c (.int .i64 0), .c (.int .i64 0), .c (.int .i64 0), .c (.string ⟨#[]⟩), .c (.slice none 0 0)] ∧ s.t 4 = .lp 4 0 ∧ s.t 9 = .c (.int .u64 (n : Nat)) ∧
      ∃ acc x q7, m = n - acc.length ∧ acc.length ≤ n ∧ s.t 10 = .c (.int .u64 (acc.length : Nat)) ∧ s.l 4 = some [.c (.int .i64 (sN : Nat)), .c (.int .i64 (IntKind.i64.wrap qN)), .c (.int .i64 (IntKind.i64.wrap tN)), .c (.string (strOf ty)), x] ∧
      σ'.obj g = some (rsC (l.drop q7)) ∧ Fr2 g g σ σ' ∧ (∀ a ∈ acc, goodA a) ∧ AtL l q evR0 = AtL l q7 (Prs.bind (Prs.rep attrP (n - acc.length)) fun l => Prs.ret (mkR sN qN tN ty (acc ++ l))) ∧
      ((acc = [] ∧ x = .c (.slice none 0 0)) ∨ (∃ k, x = .gl k ∧ σ.gr k = none ∧ σ'.gr k = some ((143, 4), acc.map encAttr)))) n ?_ ?_
    · all_goals simp only [zs, reduceIte, Nat.reduceEqDiff, Nat.reduceLT, Nat.reduceLeDiff, Nat.reduceAdd, reduceCtorEq, Nat.reduceMul, pw]
      exact ⟨[], _, q5, rfl, Nat.zero_le _, rfl, rfl, ho6, hf6, (fun x h => absurd h List.not_mem_nil), hA, .inl ⟨rfl, rfl⟩⟩
    clear ho ho2 ho3 ho4 ho5 ho6 hf2 hf3 hf4 hf5 hf6 hA hf2' hf3' hf4' hf5' hf6' hN1 hN2 hN3 hN4 hN5
    rintro m s σ' ⟨e0, e2', l2, e4', e9, acc, x, q7, hm, hal, e10, l4, ho7, hf7, hga, hA7, hx⟩
    refine AW.seq_k fun K44 h44 => ?_
    refine AW.seq_k fun K45 h45 => ?_
    all_goals refine AW.reg0 ?_
    all_goals iterate 3 (refine S.g rfl rfl fun K' k' => ?_; simp only [zz, reduceIte, Nat.reduceEqDiff, Nat.reduceAdd, e9, e10]; refine k' _ _ ?_; clear k' K')
    all_goals refine S.nil ?_
    all_goals simp only [ze, reduceIte, Nat.reduceEqDiff, Nat.reduceLT, Nat.reduceLeDiff, Nat.reduceAdd, reduceCtorEq, Nat.reduceMul, e9, e10]
    all_goals apply_assumption
    refine AW.cond (b := decide (acc.length < n)) (by simp [ev]) (fun hc => ?_) (fun hc => ?_)
    · have hin := of_decide_eq_true hc
      refine AW.skip ?_
      all_goals simp only [zs, reduceIte, Nat.reduceEqDiff, Nat.reduceLT, Nat.reduceLeDiff, Nat.reduceAdd, reduceCtorEq, Nat.reduceMul]
      all_goals apply_assumption
      rw [show n - acc.length = (n - (acc.length + 1)) + 1 by omega, rep_bind, attrP_bind, AtL_bind] at hA7
      have hw : IntKind.u64.wrap ((acc.length : Int) + 1) = ((acc.length + 1 : Nat) : Int) := by rw [← wrap_u64 (n := acc.length + 1) (by omega)]; rfl
      refine AW.seq_k fun K46 h46 => ?_
      refine AW.block ?_   -- 1
      refine AW.seq_k fun K47 h47 => ?_
      all_goals refine AW.reg0 ?_
      all_goals (refine S.g rfl rfl fun K' k' => ?_; simp only [zz, reduceIte, Nat.reduceEqDiff, Nat.reduceLT, Nat.reduceLeDiff, Nat.reduceAdd, reduceCtorEq, Nat.reduceMul, zt143, pw]; refine k' _ _ ?_; clear k' K')
      all_goals refine S.nil ?_
      all_goals simp only [ze, reduceIte, Nat.reduceEqDiff, Nat.reduceLT, Nat.reduceLeDiff, Nat.reduceAdd, reduceCtorEq, Nat.reduceMul, pw]
      all_goals apply_assumption
      rcases hN : textP (l.drop q7) with d | ⟨t, c⟩
      · rw [AtL_er hN] at hA7
        simp only [] at hA7
        refine AW.seq_k fun K48 h48 => ?_
        all_goals refine AW.reg0 ?_
        all_goals (refine S.g rfl rfl fun K' k' => ?_; simp only [zz, reduceIte, Nat.reduceEqDiff, Nat.reduceAdd, e0, pw]; refine k' _ _ ?_; clear k' K')
        all_goals (refine S.g rfl rfl fun K' k' => ?_; simp only [zz, reduceIte, Nat.reduceEqDiff, Nat.reduceLT, Nat.reduceLeDiff, Nat.reduceAdd, reduceCtorEq, Nat.reduceMul, e0, pw]; refine (rTextU ho7 hl).to fun v σ8 hv => ?_; unfold RdU at hv; simp only [hN] at hv; obtain ⟨rfl, hv⟩ := hv <;> (refine k' _ _ ?_; clear k' K'))
        all_goals iterate 6 (refine S.g rfl rfl fun K' k' => ?_; simp only [zz, reduceIte, Nat.reduceEqDiff, Nat.reduceLT, Nat.reduceLeDiff, Nat.reduceAdd, reduceCtorEq, Nat.reduceMul, of143_0, ok9, sz9, ag9, e0, pw]; refine k' _ _ ?_; clear k' K')
        all_goals refine S.nil ?_
        all_goals simp only [ze, reduceIte, Nat.reduceEqDiff, Nat.reduceLT, Nat.reduceLeDiff, Nat.reduceAdd, reduceCtorEq, Nat.reduceMul, e0, pw]
        all_goals apply_assumption
        obtain ⟨hd, ho8, hf8⟩ := hv
        refine AW.seq_k fun K49 h49 => ?_
        refine AW.seq_k fun K50 h50 => ?_
        all_goals refine AW.reg0 ?_
        all_goals iterate 2 (refine S.g rfl rfl fun K' k' => ?_; simp only [zz, reduceIte, Nat.reduceEqDiff, Nat.reduceAdd]; refine k' _ _ ?_; clear k' K')
        all_goals refine S.nil ?_
        all_goals simp only [ze, reduceIte, Nat.reduceEqDiff, Nat.reduceLT, Nat.reduceLeDiff, Nat.reduceAdd, reduceCtorEq, Nat.reduceMul]
        all_goals apply_assumption
        refine AW.cond (b := true) (by simp [ev, hd]) (fun hc => ?_) (fun hc => by cases hc)
        rcases hx with ⟨rfl, rfl⟩ | ⟨k, rfl, hk, hgk⟩
        · refine AW.seq_k fun K51 h51 => ?_
          all_goals refine AW.reg0 ?_
          all_goals iterate 4 (refine S.g rfl rfl fun K' k' => ?_; simp only [zz, reduceIte, Nat.reduceEqDiff, Nat.reduceLT, Nat.reduceLeDiff, Nat.reduceAdd, reduceCtorEq, Nat.reduceMul, ok36, sz36, ag36, e2', l2, e4', l4]; refine k' _ _ ?_; clear k' K')
          all_goals refine S.nil ?_
          all_goals simp only [ze, reduceIte, Nat.reduceEqDiff, Nat.reduceLT, Nat.reduceLeDiff, Nat.reduceAdd, reduceCtorEq, Nat.reduceMul, e2', l2, e4', l4]
          all_goals apply_assumption
          refine AW.ret ?_
          all_goals simp only [zs, reduceIte, Nat.reduceEqDiff, Nat.reduceLT, Nat.reduceLeDiff, Nat.reduceAdd, reduceCtorEq, Nat.reduceMul, ok36, sz36, ag36, cut, List.drop_zero, List.take_succ_cons, List.take_zero, e2']
          all_goals simp only [zz, Bool.false_eq_true, if_true, reduceIte, not_false_eq_true, true_and, e2']
          exact RdL.err (mkR sN qN tN ty []) hA7 (by simp [wk, wk1, encEv, mkR]) hd ho8 (hf7.trans hf8)
        · have hgE := hf8.gr _ _ hgk
          refine AW.seq_k fun K52 h52 => ?_
          all_goals refine AW.reg0 ?_
          all_goals iterate 4 (refine S.g rfl rfl fun K' k' => ?_; simp only [zz, reduceIte, Nat.reduceEqDiff, Nat.reduceLT, Nat.reduceLeDiff, Nat.reduceAdd, reduceCtorEq, Nat.reduceMul, ok36, sz36, ag36, e2', l2, e4', l4]; refine k' _ _ ?_; clear k' K')
          all_goals refine S.nil ?_
          all_goals simp only [ze, reduceIte, Nat.reduceEqDiff, Nat.reduceLT, Nat.reduceLeDiff, Nat.reduceAdd, reduceCtorEq, Nat.reduceMul, e2', l2, e4', l4]
          all_goals apply_assumption
          refine AW.freeze (k := k) (T := (143, 4)) (es := acc.map encAttr) hgE ?_
          refine AW.ret ?_
          all_goals simp only [zs, reduceIte, Nat.reduceEqDiff, Nat.reduceLT, Nat.reduceLeDiff, Nat.reduceAdd, reduceCtorEq, Nat.reduceMul, ok36, sz36, ag36, cut, List.drop_zero, List.take_succ_cons, List.take_zero, e2', fzV, fz1, St.fz_t, St.fz_l, Option.map_some, List.map]
          all_goals simp only [zz, Bool.false_eq_true, if_true, reduceIte, not_false_eq_true, true_and, e2', fzV, fz1, St.fz_t, St.fz_l, Option.map_some, List.map]
          exact RdL.err (mkR sN qN tN ty acc) hA7 (by simp [wk, wk1, encEv, mkR]) hd (by simpa using ho8) ((hf7.trans hf8).drop hk)
      obtain ⟨_, htl, _⟩ := textP_ok hN
      rw [List.length_drop] at htl
      rw [AtL_ok hN] at hA7
      simp only [] at hA7
      rw [AtL_bind] at hA7
      refine AW.seq_k fun K53 h53 => ?_
      all_goals refine AW.reg0 ?_
      all_goals (refine S.g rfl rfl fun K' k' => ?_; simp only [zz, reduceIte, Nat.reduceEqDiff, Nat.reduceAdd, e0, pw]; refine k' _ _ ?_; clear k' K')
      all_goals (refine S.g rfl rfl fun K' k' => ?_; simp only [zz, reduceIte, Nat.reduceEqDiff, Nat.reduceLT, Nat.reduceLeDiff, Nat.reduceAdd, reduceCtorEq, Nat.reduceMul, e0, pw]; refine (rTextU ho7 hl).to fun v σ8 hv => ?_; unfold RdU at hv; simp only [hN] at hv; obtain ⟨rfl, hv⟩ := hv <;> (refine k' _ _ ?_; clear k' K'))
      all_goals iterate 6 (refine S.g rfl rfl fun K' k' => ?_; simp only [zz, reduceIte, Nat.reduceEqDiff, Nat.reduceLT, Nat.reduceLeDiff, Nat.reduceAdd, reduceCtorEq, Nat.reduceMul, of143_0, ok9, sz9, ag9, e0, pw]; refine k' _ _ ?_; clear k' K')
      all_goals refine S.nil ?_
      all_goals simp only [ze, reduceIte, Nat.reduceEqDiff, Nat.reduceLT, Nat.reduceLeDiff, Nat.reduceAdd, reduceCtorEq, Nat.reduceMul, e0, pw]
      all_goals apply_assumption
      obtain ⟨ho8, hf8'⟩ := hv
      have hf8 : Fr2 g g σ _ := hf7.trans hf8'
      refine AW.seq_k fun K54 h54 => ?_
      refine AW.seq_k fun K55 h55 => ?_
      all_goals refine AW.reg0 ?_
      all_goals iterate 2 (refine S.g rfl rfl fun K' k' => ?_; simp only [zz, reduceIte, Nat.reduceEqDiff, Nat.reduceAdd]; refine k' _ _ ?_; clear k' K')
      all_goals refine S.nil ?_
      all_goals simp only [ze, reduceIte, Nat.reduceEqDiff, Nat.reduceLT, Nat.reduceLeDiff, Nat.reduceAdd, reduceCtorEq, Nat.reduceMul]
      all_goals apply_assumption
      refine AW.cond (b := false) (by simp [ev]) (fun hc => by cases hc) (fun hc => ?_)
      refine AW.skip ?_
      all_goals simp only [zs, reduceIte, Nat.reduceEqDiff, Nat.reduceLT, Nat.reduceLeDiff, Nat.reduceAdd, reduceCtorEq, Nat.reduceMul]
      all_goals apply_assumption
      generalize q7 + c = q8 at *
      rcases hM : valP (l.drop q8) with d | ⟨a, c2⟩
      · rw [AtL_er hM] at hA7
        simp only [] at hA7
        refine AW.seq_k fun K56 h56 => ?_
        all_goals refine AW.reg0 ?_
        all_goals (refine S.g rfl rfl fun K' k' => ?_; simp only [zz, reduceIte, Nat.reduceEqDiff, Nat.reduceAdd, e0, pw, encVal]; refine k' _ _ ?_; clear k' K')
        all_goals (refine S.g rfl rfl fun K' k' => ?_; simp only [zz, reduceIte, Nat.reduceEqDiff, Nat.reduceLT, Nat.reduceLeDiff, Nat.reduceAdd, reduceCtorEq, Nat.reduceMul, e0, pw, encVal]; refine (rvalueU ho8 hl).to fun v σ9 hv => ?_; simp only [hM] at hv; obtain ⟨a, l', rfl, hd, ho9, hf9⟩ := hv <;> (refine k' _ _ ?_; clear k' K'))
        all_goals iterate 6 (refine S.g rfl rfl fun K' k' => ?_; simp only [zz, reduceIte, Nat.reduceEqDiff, Nat.reduceLT, Nat.reduceLeDiff, Nat.reduceAdd, reduceCtorEq, Nat.reduceMul, of143_1, ok141, sz141, ag141, e0, pw, encVal]; refine k' _ _ ?_; clear k' K')
        all_goals refine S.nil ?_
        all_goals simp only [ze, reduceIte, Nat.reduceEqDiff, Nat.reduceLT, Nat.reduceLeDiff, Nat.reduceAdd, reduceCtorEq, Nat.reduceMul, e0, pw, encVal]
        all_goals apply_assumption
        refine AW.seq_k fun K57 h57 => ?_
        refine AW.seq_k fun K58 h58 => ?_
        all_goals refine AW.reg0 ?_
        all_goals iterate 2 (refine S.g rfl rfl fun K' k' => ?_; simp only [zz, reduceIte, Nat.reduceEqDiff, Nat.reduceAdd]; refine k' _ _ ?_; clear k' K')
        all_goals refine S.nil ?_
        all_goals simp only [ze, reduceIte, Nat.reduceEqDiff, Nat.reduceLT, Nat.reduceLeDiff, Nat.reduceAdd, reduceCtorEq, Nat.reduceMul]
        all_goals apply_assumption
        refine AW.cond (b := true) (by simp [ev, hd]) (fun hc => ?_) (fun hc => by cases hc)
        rcases hx with ⟨rfl, rfl⟩ | ⟨k, rfl, hk, hgk⟩
        · refine AW.seq_k fun K59 h59 => ?_
          all_goals refine AW.reg0 ?_
          all_goals iterate 4 (refine S.g rfl rfl fun K' k' => ?_; simp only [zz, reduceIte, Nat.reduceEqDiff, Nat.reduceLT, Nat.reduceLeDiff, Nat.reduceAdd, reduceCtorEq, Nat.reduceMul, ok36, sz36, ag36, e2', l2, e4', l4]; refine k' _ _ ?_; clear k' K')
          all_goals refine S.nil ?_
          all_goals simp only [ze, reduceIte, Nat.reduceEqDiff, Nat.reduceLT, Nat.reduceLeDiff, Nat.reduceAdd, reduceCtorEq, Nat.reduceMul, e2', l2, e4', l4]
          all_goals apply_assumption
          refine AW.ret ?_
          all_goals simp only [zs, reduceIte, Nat.reduceEqDiff, Nat.reduceLT, Nat.reduceLeDiff, Nat.reduceAdd, reduceCtorEq, Nat.reduceMul, ok36, sz36, ag36, cut, List.drop_zero, List.take_succ_cons, List.take_zero, e2']
          all_goals simp only [zz, Bool.false_eq_true, if_true, reduceIte, not_false_eq_true, true_and, e2']
          exact RdL.err (mkR sN qN tN ty []) hA7 (by simp [wk, wk1, encEv, mkR]) hd ho9 (hf8.trans hf9)
        · have hgE := hf9.gr _ _ (hf8'.gr _ _ hgk)
          refine AW.seq_k fun K60 h60 => ?_
          all_goals refine AW.reg0 ?_
          all_goals iterate 4 (refine S.g rfl rfl fun K' k' => ?_; simp only [zz, reduceIte, Nat.reduceEqDiff, Nat.reduceLT, Nat.reduceLeDiff, Nat.reduceAdd, reduceCtorEq, Nat.reduceMul, ok36, sz36, ag36, e2', l2, e4', l4]; refine k' _ _ ?_; clear k' K')
          all_goals refine S.nil ?_
          all_goals simp only [ze, reduceIte, Nat.reduceEqDiff, Nat.reduceLT, Nat.reduceLeDiff, Nat.reduceAdd, reduceCtorEq, Nat.reduceMul, e2', l2, e4', l4]
          all_goals apply_assumption
          refine AW.freeze (k := k) (T := (143, 4)) (es := acc.map encAttr) hgE ?_
          refine AW.ret ?_
          all_goals simp only [zs, reduceIte, Nat.reduceEqDiff, Nat.reduceLT, Nat.reduceLeDiff, Nat.reduceAdd, reduceCtorEq, Nat.reduceMul, ok36, sz36, ag36, cut, List.drop_zero, List.take_succ_cons, List.take_zero, e2', fzV, fz1, St.fz_t, St.fz_l, Option.map_some, List.map]
          all_goals simp only [zz, Bool.false_eq_true, if_true, reduceIte, not_false_eq_true, true_and, e2', fzV, fz1, St.fz_t, St.fz_l, Option.map_some, List.map]
          exact RdL.err (mkR sN qN tN ty acc) hA7 (by simp [wk, wk1, encEv, mkR]) hd (by simpa using ho9) ((hf8.trans hf9).drop hk)
      skip
      have hgd : goodA ⟨strOf t, a⟩ := ⟨by show (strOf t).size < _; rw [strOf_size]; omega, valP_good hM (by rw [List.length_drop]; omega)⟩
      rw [AtL_ok hM] at hA7
      simp only [] at hA7
      refine AW.seq_k fun K61 h61 => ?_
      all_goals refine AW.reg0 ?_
      all_goals (refine S.g rfl rfl fun K' k' => ?_; simp only [zz, reduceIte, Nat.reduceEqDiff, Nat.reduceAdd, e0, pw, encVal]; refine k' _ _ ?_; clear k' K')
      all_goals (refine S.g rfl rfl fun K' k' => ?_; simp only [zz, reduceIte, Nat.reduceEqDiff, Nat.reduceLT, Nat.reduceLeDiff, Nat.reduceAdd, reduceCtorEq, Nat.reduceMul, e0, pw, encVal]; refine (rvalueU ho8 hl).to fun v σ9 hv => ?_; simp only [hM] at hv; obtain ⟨rfl, ho9, hf9⟩ := hv <;> (refine k' _ _ ?_; clear k' K'))
      all_goals iterate 6 (refine S.g rfl rfl fun K' k' => ?_; simp only [zz, reduceIte, Nat.reduceEqDiff, Nat.reduceLT, Nat.reduceLeDiff, Nat.reduceAdd, reduceCtorEq, Nat.reduceMul, of143_1, ok141, sz141, ag141, e0, pw, encVal]; refine k' _ _ ?_; clear k' K')
      all_goals refine S.nil ?_
      all_goals simp only [ze, reduceIte, Nat.reduceEqDiff, Nat.reduceLT, Nat.reduceLeDiff, Nat.reduceAdd, reduceCtorEq, Nat.reduceMul, e0, pw, encVal]
      all_goals apply_assumption
      refine AW.seq_k fun K62 h62 => ?_
      refine AW.seq_k fun K63 h63 => ?_
      all_goals refine AW.reg0 ?_
      all_goals iterate 2 (refine S.g rfl rfl fun K' k' => ?_; simp only [zz, reduceIte, Nat.reduceEqDiff, Nat.reduceAdd]; refine k' _ _ ?_; clear k' K')
      all_goals refine S.nil ?_
      all_goals simp only [ze, reduceIte, Nat.reduceEqDiff, Nat.reduceLT, Nat.reduceLeDiff, Nat.reduceAdd, reduceCtorEq, Nat.reduceMul]
      all_goals apply_assumption
      refine AW.cond (b := false) (by simp [ev]) (fun hc => by cases hc) (fun hc => ?_)
      refine AW.skip ?_
      all_goals simp only [zs, reduceIte, Nat.reduceEqDiff, Nat.reduceLT, Nat.reduceLeDiff, Nat.reduceAdd, reduceCtorEq, Nat.reduceMul]
      all_goals apply_assumption
      rcases hx with ⟨rfl, rfl⟩ | ⟨k, rfl, hk, hgk⟩
      · have hn0 : 0 < n := hin
        have hw : IntKind.u64.wrap (((([] : List Attr).length : Nat) : Int) + 1) = ((0 + 1 : Nat) : Int) := hw
        all_goals refine AW.reg0 ?_
        all_goals iterate 3 (refine S.g rfl rfl fun K' k' => ?_; simp only [zz, reduceIte, Nat.reduceEqDiff, Nat.reduceLT, Nat.reduceLeDiff, Nat.reduceAdd, reduceCtorEq, Nat.reduceMul, of36_3, ok34, sz34, ag34, ok143, sz143, ag143, e4', l4]; refine k' _ _ ?_; clear k' K')
        all_goals (refine S.g rfl rfl fun K' k' => ?_; simp only [zb, reduceIte, Nat.reduceEqDiff, Nat.reduceLT, Nat.reduceLeDiff, Nat.reduceAdd, reduceCtorEq, Nat.reduceMul, sl34, el34, ok143, sz143, ag143, zt143, by143, e4', l4]; refine k' _ _ ?_; clear k' K')
        all_goals (refine S.g rfl rfl fun K' k' => ?_; simp only [zz, reduceIte, Nat.reduceEqDiff, Nat.reduceLT, Nat.reduceLeDiff, Nat.reduceAdd, reduceCtorEq, Nat.reduceMul, sl34, el34, ok143, sz143, ag143, zt143, by143, e4', l4]; refine ⟨by simp, by unfold maxLen; (try simp only [List.length_map, List.length_cons, List.length_nil]); omega, by unfold reach; (try simp only [List.length_map, List.length_cons, List.length_nil]); omega, fun k2 hk2 => ?_⟩ <;> (refine k' _ _ ?_; clear k' K'))
        all_goals iterate 2 (refine S.g rfl rfl fun K' k' => ?_; simp only [zz, reduceIte, Nat.reduceEqDiff, Nat.reduceLT, Nat.reduceLeDiff, Nat.reduceAdd, reduceCtorEq, Nat.reduceMul, of36_3, ok34, sz34, ag34, e4', l4]; refine k' _ _ ?_; clear k' K')
        all_goals refine S.nil ?_
        all_goals simp only [ze, reduceIte, Nat.reduceEqDiff, Nat.reduceLT, Nat.reduceLeDiff, Nat.reduceAdd, reduceCtorEq, Nat.reduceMul, e4', l4]
        all_goals apply_assumption
        all_goals refine AW.reg0 ?_
        all_goals iterate 3 (refine S.g rfl rfl fun K' k' => ?_; simp only [zz, reduceIte, Nat.reduceEqDiff, Nat.reduceAdd, e9, e10, hw, e0, e2', l2, e4', l4, pw]; refine k' _ _ ?_; clear k' K')
        all_goals refine S.nil ?_
        all_goals simp only [ze, reduceIte, Nat.reduceEqDiff, Nat.reduceLT, Nat.reduceLeDiff, Nat.reduceAdd, reduceCtorEq, Nat.reduceMul, e9, e10, hw, e0, e2', l2, e4', l4, pw]
        obtain ⟨hfn, hkn⟩ := (hf8.trans hf9).new (k2 := k2) (y := some ((143, 4), [encAttr ⟨strOf t, a⟩])) hk2
        exact ⟨n - 1, by rw [hm]; exact Nat.sub_lt hn0 Nat.one_pos, [⟨strOf t, a⟩], .gl k2, q8 + c2, rfl, hn0, rfl, rfl, by simpa using ho9, hfn, fun y hy => by rw [List.mem_singleton.1 hy]; exact hgd, by simpa using hA7, .inr ⟨k2, rfl, hkn, by simp [encAttr]⟩⟩
      · have hg4 := hf9.gr _ _ (hf8'.gr _ _ hgk)
        all_goals refine AW.reg0 ?_
        all_goals iterate 3 (refine S.g rfl rfl fun K' k' => ?_; simp only [zz, reduceIte, Nat.reduceEqDiff, Nat.reduceLT, Nat.reduceLeDiff, Nat.reduceAdd, reduceCtorEq, Nat.reduceMul, of36_3, ok34, sz34, ag34, ok143, sz143, ag143, e4', l4, hg4]; refine k' _ _ ?_; clear k' K')
        all_goals (refine S.g rfl rfl fun K' k' => ?_; simp only [zb, reduceIte, Nat.reduceEqDiff, Nat.reduceLT, Nat.reduceLeDiff, Nat.reduceAdd, reduceCtorEq, Nat.reduceMul, sl34, el34, ok143, sz143, ag143, zt143, by143, e4', l4, hg4]; refine k' _ _ ?_; clear k' K')
        all_goals (refine S.g rfl rfl fun K' k' => ?_; simp only [zz, reduceIte, Nat.reduceEqDiff, Nat.reduceLT, Nat.reduceLeDiff, Nat.reduceAdd, reduceCtorEq, Nat.reduceMul, sl34, el34, ok143, sz143, ag143, zt143, by143, e4', l4, hg4]; refine ⟨by simp, by unfold maxLen; (try simp only [List.length_map, List.length_cons, List.length_nil]); omega, by unfold reach; (try simp only [List.length_map, List.length_cons, List.length_nil]); omega, fun k2 hk2 => ?_⟩ <;> (refine k' _ _ ?_; clear k' K'))
        all_goals iterate 2 (refine S.g rfl rfl fun K' k' => ?_; simp only [zz, reduceIte, Nat.reduceEqDiff, Nat.reduceLT, Nat.reduceLeDiff, Nat.reduceAdd, reduceCtorEq, Nat.reduceMul, of36_3, ok34, sz34, ag34, e4', l4, hg4]; refine k' _ _ ?_; clear k' K')
        all_goals refine S.nil ?_
        all_goals simp only [ze, reduceIte, Nat.reduceEqDiff, Nat.reduceLT, Nat.reduceLeDiff, Nat.reduceAdd, reduceCtorEq, Nat.reduceMul, e4', l4, hg4]
        all_goals apply_assumption
        all_goals refine AW.reg0 ?_
        all_goals iterate 3 (refine S.g rfl rfl fun K' k' => ?_; simp only [zz, reduceIte, Nat.reduceEqDiff, Nat.reduceAdd, e9, e10, hw, e0, e2', l2, e4', l4, pw]; refine k' _ _ ?_; clear k' K')
        all_goals refine S.nil ?_
        all_goals simp only [ze, reduceIte, Nat.reduceEqDiff, Nat.reduceLT, Nat.reduceLeDiff, Nat.reduceAdd, reduceCtorEq, Nat.reduceMul, e9, e10, hw, e0, e2', l2, e4', l4, pw]
        obtain ⟨hfn, hkn⟩ := (hf8.trans hf9).app (k2 := k2) (y := some ((143, 4), acc.map encAttr ++ [encAttr ⟨strOf t, a⟩])) hk (fun e => by simpa [e] using hk2)
        exact ⟨n - (acc.length + 1), by omega, acc ++ [⟨strOf t, a⟩], .gl k2, q8 + c2, by simp, by simp; omega, by simp, rfl, by simpa using ho9, hfn, fun y hy => by
          rcases List.mem_append.1 hy with h | h
          · exact hga y h
          · rw [List.mem_singleton.1 h]; exact hgd, by simpa using hA7, .inr ⟨k2, rfl, hkn, by simp [encAttr]⟩⟩
    · have hin : acc.length = n := by have := of_decide_eq_false hc; omega
      rw [hin, Nat.sub_self] at hA7
      have hA8 : AtL l q evR0 = AtL l q7 (Prs.ret (mkR sN qN tN ty acc)) := by rw [hA7, Prs.rep, ret_bind, List.append_nil]
      rcases hx with ⟨rfl, rfl⟩ | ⟨k, rfl, hk, hgk⟩
      · refine AW.exit ?_
        all_goals simp only [zs, reduceIte, Nat.reduceEqDiff, Nat.reduceLT, Nat.reduceLeDiff, Nat.reduceAdd, reduceCtorEq, Nat.reduceMul, e0, e2', l2, e4', l4]
        exact ⟨[], _, q7, rfl, .inr ⟨rfl, rfl⟩, ho7, hf7, Nat.zero_le _, hga, hA8⟩
      · refine AW.freeze (k := k) (T := (143, 4)) (es := acc.map encAttr) (by simpa using hgk) ?_
        refine AW.exit ?_
        all_goals simp only [zs, reduceIte, Nat.reduceEqDiff, Nat.reduceLT, Nat.reduceLeDiff, Nat.reduceAdd, reduceCtorEq, Nat.reduceMul, e0, e2', l2, e4', l4, fzV, fz1, St.fz_t, St.fz_l, Option.map_some, List.map, ptrV]
        exact ⟨acc, _, q7, rfl, .inl rfl, by simpa using ho7, hf7.drop hk, by omega, hga, hA8⟩
  clear ho ho2 ho3 ho4 ho5 ho6 hf2 hf3 hf4 hf5 hf6 hA hf2' hf3' hf4' hf5' hf6' hN1 hN2 hN3 hN4 hN5
  rintro s σ' ⟨e0, e2', l2, e4', acc, x, q7, l4, hx, ho7, hf7, hal, hga, hA7⟩
  have hE : okE (mkR sN qN tN ty acc) := ⟨by show (strOf ty).size < _; rw [strOf_size]; omega, by show acc.length < _; omega, hga⟩
  rcases hx with rfl | ⟨rfl, rfl⟩
  · refine AW.seq_k fun K64 h64 => ?_
    all_goals refine AW.reg0 ?_
    all_goals iterate 3 (refine S.g rfl rfl fun K' k' => ?_; simp only [zz, reduceIte, Nat.reduceEqDiff, Nat.reduceLT, Nat.reduceLeDiff, Nat.reduceAdd, reduceCtorEq, Nat.reduceMul, ok36, sz36, ag36, e2', l2, e4', l4]; refine k' _ _ ?_; clear k' K')
    all_goals refine S.nil ?_
    all_goals simp only [ze, reduceIte, Nat.reduceEqDiff, Nat.reduceLT, Nat.reduceLeDiff, Nat.reduceAdd, reduceCtorEq, Nat.reduceMul, e2', l2, e4', l4]
    all_goals apply_assumption
    refine AW.ret ?_
    all_goals simp only [zs, reduceIte, Nat.reduceEqDiff, Nat.reduceLT, Nat.reduceLeDiff, Nat.reduceAdd, reduceCtorEq, Nat.reduceMul, ok36, sz36, ag36, cut, List.drop_zero, List.take_succ_cons, List.take_zero, e2']
    all_goals simp only [zz, Bool.false_eq_true, if_true, reduceIte, not_false_eq_true, true_and, e2']
    exact RdL.okk (a := mkR sN qN tN ty acc) hA7 (by simp [wk, wk1, encEv, mkR]) hE ho7 hf7
  · refine AW.seq_k fun K65 h65 => ?_
    all_goals refine AW.reg0 ?_
    all_goals iterate 3 (refine S.g rfl rfl fun K' k' => ?_; simp only [zz, reduceIte, Nat.reduceEqDiff, Nat.reduceLT, Nat.reduceLeDiff, Nat.reduceAdd, reduceCtorEq, Nat.reduceMul, ok36, sz36, ag36, e2', l2, e4', l4]; refine k' _ _ ?_; clear k' K')
    all_goals refine S.nil ?_
    all_goals simp only [ze, reduceIte, Nat.reduceEqDiff, Nat.reduceLT, Nat.reduceLeDiff, Nat.reduceAdd, reduceCtorEq, Nat.reduceMul, e2', l2, e4', l4]
    all_goals apply_assumption
    refine AW.ret ?_
    all_goals simp only [zs, reduceIte, Nat.reduceEqDiff, Nat.reduceLT, Nat.reduceLeDiff, Nat.reduceAdd, reduceCtorEq, Nat.reduceMul, ok36, sz36, ag36, cut, List.drop_zero, List.take_succ_cons, List.take_zero, e2']
    all_goals simp only [zz, Bool.false_eq_true, if_true, reduceIte, not_false_eq_true, true_and, e2']
    exact RdL.okk (a := mkR sN qN tN ty []) hA7 (by simp [wk, wk1, encEv, mkR]) hE ho7 hf7
end Go.Abs.M
namespace Go.Abs.M
open Go Go.Abs Go.Proofs
set_option maxRecDepth 20000
set_option linter.unusedSimpArgs false
set_option linter.unusedVariables false
theorem bind_on {α β : Type} {p : Prs α} {f h : α → Prs β} (H : ∀ l a c, p l = .ok (a, c) → f a = h a) : Prs.bind p f = Prs.bind p h := by
  funext l
  unfold Prs.bind
  cases hp : p l with
  | error d => rfl
  | ok x => obtain ⟨a, c⟩ := x; simp only []; rw [H l a c hp]
theorem wrap_out (u : Nat) (h : u < 18446744073709551616) (h2 : 1099511627776 < u) : timeOk (IntKind.i64.wrap (u : Int)) = false := by
  unfold timeOk IntKind.wrap
  simp [IntKind.signed, IntKind.bits]
  omega
theorem wrap_in (u : Nat) (h2 : ¬ 1099511627776 < u) : IntKind.i64.wrap (u : Int) = u := wrapI _ (by omega) (by omega)
theorem chk_eq (s q t : Nat) (ty : List Nat) (l : List Attr) (hq : q < 18446744073709551616) (ht : t < 18446744073709551616) : chkE (mkR s q t ty l) = chkE (mkE s q t ty l) := by
  have h40 : ∀ e : Ev, timeOk e.seq = false ∨ timeOk e.time = false → chkE e = Prs.err 40 := fun e he => by
    have : evErr e = 40 := by
      unfold evErr
      rw [if_pos]
      rcases he with h | h
      · exact .inr (.inr (.inl h))
      · exact .inr (.inr (.inr (.inl h)))
    unfold chkE
    rw [this]; rfl
  by_cases h1 : 1099511627776 < q
  · rw [h40 _ (.inl (wrap_out q hq h1)), h40 _ (.inl (by show timeOk (natV q) = false; unfold natV; rw [if_pos h1]; rfl))]
  · by_cases h2 : 1099511627776 < t
    · rw [h40 _ (.inr (wrap_out t ht h2)), h40 _ (.inr (by show timeOk (natV t) = false; unfold natV; rw [if_pos h2]; rfl))]
    · unfold mkR mkE natV
      rw [wrap_in q h1, wrap_in t h2, if_neg h1, if_neg h2]
/-- The reference reads events as the program does. -/
theorem evR_eq : Prs.bind evR0 chkE = evQ := by
  unfold evR0 evQ
  rw [bind_assoc]
  congr 1; funext s
  rw [bind_assoc]
  refine bind_on fun l1 q c1 h1 => ?_
  rw [bind_assoc]
  refine bind_on fun l2 t c2 h2 => ?_
  rw [bind_assoc]
  congr 1; funext ty
  rw [bind_assoc]
  congr 1; funext n
  by_cases h8 : 8 < n
  · rw [if_pos h8, if_pos h8, err_bind]
  · rw [if_neg h8, if_neg h8, bind_assoc]
    congr 1; funext l
    rw [ret_bind]
    exact chk_eq s q t ty l (natP_ok h1).1 (natP_ok h2).1
/-- What the reference's 'Take' leaves. -/
def RdT {α : Type} (g : Nat) (l : List Bool) (q : Nat) (enc : α → V) (zero : V) (good : α → Prop) (p : Prs α) (σ : Hp) (v : V) (σ' : Hp) : Prop :=
  match AtL l q p with
  | .ok (a, q') => v = .tup [enc a, .c (.int .i64 0)] ∧ good a ∧ σ'.obj g = some (rsC (l.drop q')) ∧ Fr2 g g σ σ'
  | .error e => v = .tup [zero, .c (.int .i64 e)] ∧ e ≠ 0 ∧ σ'.obj g = some (rsC (l.drop q)) ∧ Fr2 g g σ σ'
theorem rTakeE_spec (g : Nat) (l : List Bool) (q : Nat) (σ : Hp) (ho : σ.obj g = some (rsC (l.drop q))) (hl : l.length < 1099511627776) :
    ACalls Try.prog 127 [ptrV g] σ (RdT g l q (fun a => .agg (encEv a)) zeroE okE evQ σ) := by
  refine ACalls.intro Try.call127 Try.func127 rfl Try.ntmps127 Try.results127 (by simp) ?_
  have ho' : σ.obj g = some [.sl ((l.drop q).map encT)] := ho
  refine AW.seq_k fun K1 h1 => ?_
  all_goals refine AW.reg0 ?_
  all_goals iterate 2 (refine S.g rfl rfl fun K' k' => ?_; simp only [zz, reduceIte, Nat.reduceEqDiff, Nat.reduceLT, Nat.reduceLeDiff, Nat.reduceAdd, reduceCtorEq, Nat.reduceMul, zt36]; refine k' _ _ ?_; clear k' K')
  all_goals refine S.nil ?_
  all_goals simp only [ze, reduceIte, Nat.reduceEqDiff, Nat.reduceLT, Nat.reduceLeDiff, Nat.reduceAdd, reduceCtorEq, Nat.reduceMul]
  all_goals apply_assumption
  refine AW.seq_k fun K2 h2 => ?_
  all_goals refine AW.reg0 ?_
  all_goals iterate 5 (refine S.g rfl rfl fun K' k' => ?_; simp only [zz, reduceIte, Nat.reduceEqDiff, Nat.reduceLT, Nat.reduceLeDiff, Nat.reduceAdd, reduceCtorEq, Nat.reduceMul, ok89, sz89, ag89, zt89, pw, ptrV, ho', map1s, List.getD_cons_zero]; refine k' _ _ ?_; clear k' K')
  all_goals refine S.nil ?_
  all_goals simp only [ze, reduceIte, Nat.reduceEqDiff, Nat.reduceLT, Nat.reduceLeDiff, Nat.reduceAdd, reduceCtorEq, Nat.reduceMul, pw, ptrV, ho', map1s, List.getD_cons_zero]
  all_goals apply_assumption
  have hB : AtL l q evQ = _ := (congrArg (AtL l q) evR_eq.symm).trans AtL_bind
  rcases hA : AtL l q evR0 with e | ⟨a, q4⟩
  · rw [hA] at hB
    simp only [] at hB
    refine AW.seq_k fun K3 h3 => ?_
    all_goals refine AW.reg0 ?_
    all_goals (refine S.g rfl rfl fun K' k' => ?_; simp only [zz, reduceIte, Nat.reduceEqDiff, Nat.reduceAdd, pw, encEv]; refine k' _ _ ?_; clear k' K')
    all_goals (refine S.g rfl rfl fun K' k' => ?_; simp only [zz, reduceIte, Nat.reduceEqDiff, Nat.reduceLT, Nat.reduceLeDiff, Nat.reduceAdd, reduceCtorEq, Nat.reduceMul, pw, encEv]; refine (rtake_spec g l q _ ho hl).to fun v σ4 hv => ?_; unfold RdL at hv; rw [hA] at hv; obtain ⟨a, l', rfl, he, ho4, hf4⟩ := hv <;> (refine k' _ _ ?_; clear k' K'))
    all_goals iterate 6 (refine S.g rfl rfl fun K' k' => ?_; simp only [zz, reduceIte, Nat.reduceEqDiff, Nat.reduceLT, Nat.reduceLeDiff, Nat.reduceAdd, reduceCtorEq, Nat.reduceMul, zt36, ok36, sz36, ag36, pw, encEv]; refine k' _ _ ?_; clear k' K')
    all_goals refine S.nil ?_
    all_goals simp only [ze, reduceIte, Nat.reduceEqDiff, Nat.reduceLT, Nat.reduceLeDiff, Nat.reduceAdd, reduceCtorEq, Nat.reduceMul, pw, encEv]
    all_goals apply_assumption
    have hg4 : σ4.obj g = some [.sl (l'.map encT)] := ho4
    refine AW.seq_k fun K4 h4 => ?_
    refine AW.seq_k fun K5 h5 => ?_
    all_goals refine AW.reg0 ?_
    all_goals iterate 2 (refine S.g rfl rfl fun K' k' => ?_; simp only [zz, reduceIte, Nat.reduceEqDiff, Nat.reduceAdd]; refine k' _ _ ?_; clear k' K')
    all_goals refine S.nil ?_
    all_goals simp only [ze, reduceIte, Nat.reduceEqDiff, Nat.reduceLT, Nat.reduceLeDiff, Nat.reduceAdd, reduceCtorEq, Nat.reduceMul]
    all_goals apply_assumption
    refine AW.cond (b := false) (by simp [ev, he]) (fun hc => by cases hc) (fun hc => ?_)
    refine AW.skip ?_
    all_goals simp only [zs, reduceIte, Nat.reduceEqDiff, Nat.reduceLT, Nat.reduceLeDiff, Nat.reduceAdd, reduceCtorEq, Nat.reduceMul]
    all_goals apply_assumption
    refine AW.seq_k fun K6 h6 => ?_
    refine AW.seq_k fun K7 h7 => ?_
    all_goals refine AW.reg0 ?_
    all_goals iterate 2 (refine S.g rfl rfl fun K' k' => ?_; simp only [zz, reduceIte, Nat.reduceEqDiff, Nat.reduceAdd]; refine k' _ _ ?_; clear k' K')
    all_goals refine S.nil ?_
    all_goals simp only [ze, reduceIte, Nat.reduceEqDiff, Nat.reduceLT, Nat.reduceLeDiff, Nat.reduceAdd, reduceCtorEq, Nat.reduceMul]
    all_goals apply_assumption
    refine AW.cond (b := true) (by simp [ev, he]) (fun hc => ?_) (fun hc => by cases hc)
    refine AW.seq_k fun K8 h8 => ?_
    all_goals refine AW.reg0 ?_
    all_goals iterate 4 (refine S.g rfl rfl fun K' k' => ?_; simp only [zz, reduceIte, Nat.reduceEqDiff, Nat.reduceLT, Nat.reduceLeDiff, Nat.reduceAdd, reduceCtorEq, Nat.reduceMul, ok89, sz89, ag89, hg4, map1s]; refine k' _ _ ?_; clear k' K')
    all_goals refine S.nil ?_
    all_goals simp only [ze, reduceIte, Nat.reduceEqDiff, Nat.reduceLT, Nat.reduceLeDiff, Nat.reduceAdd, reduceCtorEq, Nat.reduceMul, hg4, map1s]
    all_goals apply_assumption
    refine AW.seq_k fun K9 h9 => ?_
    all_goals refine AW.reg0 ?_
    all_goals (refine S.g rfl rfl fun K' k' => ?_; simp only [zz, reduceIte, Nat.reduceEqDiff, Nat.reduceLT, Nat.reduceLeDiff, Nat.reduceAdd, reduceCtorEq, Nat.reduceMul, zt36, pl36]; refine k' _ _ ?_; clear k' K')
    all_goals iterate 3 (refine S.g rfl rfl fun K' k' => ?_; simp only [zz, reduceIte, Nat.reduceEqDiff, Nat.reduceLT, Nat.reduceLeDiff, Nat.reduceAdd, reduceCtorEq, Nat.reduceMul, ok36, sz36, ag36]; refine k' _ _ ?_; clear k' K')
    all_goals refine S.nil ?_
    all_goals simp only [ze, reduceIte, Nat.reduceEqDiff, Nat.reduceLT, Nat.reduceLeDiff, Nat.reduceAdd, reduceCtorEq, Nat.reduceMul]
    all_goals apply_assumption
    refine AW.ret ?_
    all_goals simp only [zs, reduceIte, Nat.reduceEqDiff, Nat.reduceLT, Nat.reduceLeDiff, Nat.reduceAdd, reduceCtorEq, Nat.reduceMul, ok36, sz36, ag36, cut, List.drop_zero, List.take_succ_cons, List.take_zero]
    all_goals simp only [zz, Bool.false_eq_true, if_true, reduceIte, not_false_eq_true, true_and]
    unfold RdT
    rw [hB]
    exact ⟨by simp [wk, wk1, zeroE], he, by simp [rsC], hf4.setb⟩
  · rw [hA] at hB
    simp only [] at hB
    refine AW.seq_k fun K10 h10 => ?_
    all_goals refine AW.reg0 ?_
    all_goals (refine S.g rfl rfl fun K' k' => ?_; simp only [zz, reduceIte, Nat.reduceEqDiff, Nat.reduceAdd, pw, encEv]; refine k' _ _ ?_; clear k' K')
    all_goals (refine S.g rfl rfl fun K' k' => ?_; simp only [zz, reduceIte, Nat.reduceEqDiff, Nat.reduceLT, Nat.reduceLeDiff, Nat.reduceAdd, reduceCtorEq, Nat.reduceMul, pw, encEv]; refine (rtake_spec g l q _ ho hl).to fun v σ4 hv => ?_; unfold RdL at hv; rw [hA] at hv; obtain ⟨rfl, hE, ho4, hf4⟩ := hv <;> (refine k' _ _ ?_; clear k' K'))
    all_goals iterate 6 (refine S.g rfl rfl fun K' k' => ?_; simp only [zz, reduceIte, Nat.reduceEqDiff, Nat.reduceLT, Nat.reduceLeDiff, Nat.reduceAdd, reduceCtorEq, Nat.reduceMul, zt36, ok36, sz36, ag36, pw, encEv]; refine k' _ _ ?_; clear k' K')
    all_goals refine S.nil ?_
    all_goals simp only [ze, reduceIte, Nat.reduceEqDiff, Nat.reduceLT, Nat.reduceLeDiff, Nat.reduceAdd, reduceCtorEq, Nat.reduceMul, pw, encEv]
    all_goals apply_assumption
    have hg4 : σ4.obj g = some [.sl ((l.drop q4).map encT)] := ho4
    refine AW.seq_k fun K11 h11 => ?_
    refine AW.seq_k fun K12 h12 => ?_
    all_goals refine AW.reg0 ?_
    all_goals iterate 2 (refine S.g rfl rfl fun K' k' => ?_; simp only [zz, reduceIte, Nat.reduceEqDiff, Nat.reduceAdd]; refine k' _ _ ?_; clear k' K')
    all_goals refine S.nil ?_
    all_goals simp only [ze, reduceIte, Nat.reduceEqDiff, Nat.reduceLT, Nat.reduceLeDiff, Nat.reduceAdd, reduceCtorEq, Nat.reduceMul]
    all_goals apply_assumption
    refine AW.cond (b := true) (by simp [ev]) (fun hc => ?_) (fun hc => by cases hc)
    all_goals refine AW.reg0 ?_
    all_goals (refine S.g rfl rfl fun K' k' => ?_; simp only [zz, reduceIte, Nat.reduceEqDiff, Nat.reduceLT, Nat.reduceLeDiff, Nat.reduceAdd, reduceCtorEq, Nat.reduceMul, ok36, sz36, ag36, pw]; refine k' _ _ ?_; clear k' K')
    all_goals (refine S.g rfl rfl fun K' k' => ?_; simp only [zz, reduceIte, Nat.reduceEqDiff, Nat.reduceLT, Nat.reduceLeDiff, Nat.reduceAdd, reduceCtorEq, Nat.reduceMul, pw]; refine PCalls.eqto (rcheck_ev _ hE) ?_ <;> (refine k' _ _ ?_; clear k' K'))
    all_goals (refine S.g rfl rfl fun K' k' => ?_; simp only [zz, reduceIte, Nat.reduceEqDiff, Nat.reduceAdd, pw]; refine k' _ _ ?_; clear k' K')
    all_goals refine S.nil ?_
    all_goals simp only [ze, reduceIte, Nat.reduceEqDiff, Nat.reduceLT, Nat.reduceLeDiff, Nat.reduceAdd, reduceCtorEq, Nat.reduceMul, pw]
    all_goals apply_assumption
    have hee : (evErr a != 0) = decide (evErr a ≠ 0) := by rw [Bool.eq_iff_iff]; simp
    refine AW.seq_k fun K13 h13 => ?_
    refine AW.seq_k fun K14 h14 => ?_
    all_goals refine AW.reg0 ?_
    all_goals iterate 2 (refine S.g rfl rfl fun K' k' => ?_; simp only [zz, reduceIte, Nat.reduceEqDiff, Nat.reduceAdd, hee]; refine k' _ _ ?_; clear k' K')
    all_goals refine S.nil ?_
    all_goals simp only [ze, reduceIte, Nat.reduceEqDiff, Nat.reduceLT, Nat.reduceLeDiff, Nat.reduceAdd, reduceCtorEq, Nat.reduceMul, hee]
    all_goals apply_assumption
    refine AW.cond (b := decide (evErr a ≠ 0)) (by simp [ev]) (fun hc => ?_) (fun hc => ?_)
    · have he := of_decide_eq_true hc
      refine AW.seq_k fun K15 h15 => ?_
      all_goals refine AW.reg0 ?_
      all_goals iterate 4 (refine S.g rfl rfl fun K' k' => ?_; simp only [zz, reduceIte, Nat.reduceEqDiff, Nat.reduceLT, Nat.reduceLeDiff, Nat.reduceAdd, reduceCtorEq, Nat.reduceMul, ok89, sz89, ag89, hg4, map1s]; refine k' _ _ ?_; clear k' K')
      all_goals refine S.nil ?_
      all_goals simp only [ze, reduceIte, Nat.reduceEqDiff, Nat.reduceLT, Nat.reduceLeDiff, Nat.reduceAdd, reduceCtorEq, Nat.reduceMul, hg4, map1s]
      all_goals apply_assumption
      refine AW.seq_k fun K16 h16 => ?_
      all_goals refine AW.reg0 ?_
      all_goals (refine S.g rfl rfl fun K' k' => ?_; simp only [zz, reduceIte, Nat.reduceEqDiff, Nat.reduceLT, Nat.reduceLeDiff, Nat.reduceAdd, reduceCtorEq, Nat.reduceMul, zt36, pl36]; refine k' _ _ ?_; clear k' K')
      all_goals iterate 3 (refine S.g rfl rfl fun K' k' => ?_; simp only [zz, reduceIte, Nat.reduceEqDiff, Nat.reduceLT, Nat.reduceLeDiff, Nat.reduceAdd, reduceCtorEq, Nat.reduceMul, ok36, sz36, ag36]; refine k' _ _ ?_; clear k' K')
      all_goals refine S.nil ?_
      all_goals simp only [ze, reduceIte, Nat.reduceEqDiff, Nat.reduceLT, Nat.reduceLeDiff, Nat.reduceAdd, reduceCtorEq, Nat.reduceMul]
      all_goals apply_assumption
      refine AW.ret ?_
      all_goals simp only [zs, reduceIte, Nat.reduceEqDiff, Nat.reduceLT, Nat.reduceLeDiff, Nat.reduceAdd, reduceCtorEq, Nat.reduceMul, ok36, sz36, ag36, cut, List.drop_zero, List.take_succ_cons, List.take_zero]
      all_goals simp only [zz, Bool.false_eq_true, if_true, reduceIte, not_false_eq_true, true_and]
      unfold RdT
      rw [hB, chkE, if_neg he]
      exact ⟨by simp [wk, wk1, zeroE], he, by simp [rsC], hf4.setb⟩
    · have he : evErr a = 0 := by simpa using of_decide_eq_false hc
      refine AW.skip ?_
      all_goals simp only [zs, reduceIte, Nat.reduceEqDiff, Nat.reduceLT, Nat.reduceLeDiff, Nat.reduceAdd, reduceCtorEq, Nat.reduceMul]
      all_goals apply_assumption
      refine AW.seq_k fun K17 h17 => ?_
      all_goals refine AW.reg0 ?_
      all_goals iterate 3 (refine S.g rfl rfl fun K' k' => ?_; simp only [zz, reduceIte, Nat.reduceEqDiff, Nat.reduceLT, Nat.reduceLeDiff, Nat.reduceAdd, reduceCtorEq, Nat.reduceMul, ok36, sz36, ag36]; refine k' _ _ ?_; clear k' K')
      all_goals refine S.nil ?_
      all_goals simp only [ze, reduceIte, Nat.reduceEqDiff, Nat.reduceLT, Nat.reduceLeDiff, Nat.reduceAdd, reduceCtorEq, Nat.reduceMul]
      all_goals apply_assumption
      refine AW.ret ?_
      all_goals simp only [zs, reduceIte, Nat.reduceEqDiff, Nat.reduceLT, Nat.reduceLeDiff, Nat.reduceAdd, reduceCtorEq, Nat.reduceMul, ok36, sz36, ag36, cut, List.drop_zero, List.take_succ_cons, List.take_zero]
      all_goals simp only [zz, Bool.false_eq_true, if_true, reduceIte, not_false_eq_true, true_and]
      unfold RdT
      rw [hB, chkE, if_pos he]
      exact ⟨by simp [wk, wk1, encEv], hE, ho4, hf4⟩
end Go.Abs.M
namespace Go.Abs.M
open Go Go.Abs Go.Proofs
set_option maxRecDepth 20000
set_option linter.unusedSimpArgs false
set_option linter.unusedVariables false
/-- A partial match, as the reference reads it: unchecked. -/
def partR0 : Prs (List Bd) := Prs.bind (bitsP 4) fun n => if 12 < n then Prs.err 100 else Prs.bind (Prs.rep bdQ n) Prs.ret
theorem partR_eq : Prs.bind partR0 chkP = partQ := by
  unfold partR0 partQ
  rw [bind_assoc]
  congr 1; funext n
  by_cases h : 12 < n
  · rw [if_pos h, if_pos h, err_bind]
  · rw [if_neg h, if_neg h, bind_assoc]
    congr 1; funext l
    rw [ret_bind]
theorem rtakeP_spec (g : Nat) (l : List Bool) (q : Nat) (σ : Hp) (ho : σ.obj g = some (rsC (l.drop q))) (hl : l.length < 1099511627776) :
    ACalls Try.prog 102 [ptrV g] σ (RdL g l q (fun a => .agg [.sl (a.map encBd)]) okP partR0 σ) := by
  refine ACalls.intro Try.call102 Try.func102 rfl Try.ntmps102 Try.results102 (by simp) ?_
  have hA : AtL l q partR0 = _ := AtL_bind
  refine AW.seq_k fun K1 h1 => ?_
  all_goals refine AW.reg0 ?_
  all_goals iterate 2 (refine S.g rfl rfl fun K' k' => ?_; simp only [zz, reduceIte, Nat.reduceEqDiff, Nat.reduceLT, Nat.reduceLeDiff, Nat.reduceAdd, reduceCtorEq, Nat.reduceMul, zt24]; refine k' _ _ ?_; clear k' K')
  all_goals refine S.nil ?_
  all_goals simp only [ze, reduceIte, Nat.reduceEqDiff, Nat.reduceLT, Nat.reduceLeDiff, Nat.reduceAdd, reduceCtorEq, Nat.reduceMul]
  all_goals apply_assumption
  refine AW.seq_k fun K2 h2 => ?_
  all_goals refine AW.reg0 ?_
  all_goals (refine S.g rfl rfl fun K' k' => ?_; simp only [zz, reduceIte, Nat.reduceEqDiff, Nat.reduceLT, Nat.reduceLeDiff, Nat.reduceAdd, reduceCtorEq, Nat.reduceMul, zt24, pw]; refine k' _ _ ?_; clear k' K')
  all_goals refine S.nil ?_
  all_goals simp only [ze, reduceIte, Nat.reduceEqDiff, Nat.reduceLT, Nat.reduceLeDiff, Nat.reduceAdd, reduceCtorEq, Nat.reduceMul, pw]
  all_goals apply_assumption
  rcases hN1 : bitsP 4 (l.drop q) with d | ⟨n, c1⟩
  · rw [AtL_er hN1] at hA
    simp only [] at hA
    refine AW.seq_k fun K3 h3 => ?_
    all_goals refine AW.reg0 ?_
    all_goals (refine S.g rfl rfl fun K' k' => ?_; simp only [zz, reduceIte, Nat.reduceEqDiff, Nat.reduceAdd, pw]; refine k' _ _ ?_; clear k' K')
    all_goals (refine S.g rfl rfl fun K' k' => ?_; simp only [zz, reduceIte, Nat.reduceEqDiff, Nat.reduceLT, Nat.reduceLeDiff, Nat.reduceAdd, reduceCtorEq, Nat.reduceMul, pw]; refine (rBitsU (n := 4) ho hl (by omega)).to fun v σ2 hv => ?_; unfold RdU at hv; simp only [hN1] at hv; obtain ⟨rfl, hv⟩ := hv <;> (refine k' _ _ ?_; clear k' K'))
    all_goals iterate 5 (refine S.g rfl rfl fun K' k' => ?_; simp only [zz, reduceIte, Nat.reduceEqDiff, Nat.reduceLT, Nat.reduceLeDiff, Nat.reduceAdd, reduceCtorEq, Nat.reduceMul, pw]; refine k' _ _ ?_; clear k' K')
    all_goals refine S.nil ?_
    all_goals simp only [ze, reduceIte, Nat.reduceEqDiff, Nat.reduceLT, Nat.reduceLeDiff, Nat.reduceAdd, reduceCtorEq, Nat.reduceMul, pw]
    all_goals apply_assumption
    obtain ⟨hd, ho2, hf2⟩ := hv
    refine AW.seq_k fun K4 h4 => ?_
    refine AW.seq_k fun K5 h5 => ?_
    all_goals refine AW.reg0 ?_
    all_goals iterate 2 (refine S.g rfl rfl fun K' k' => ?_; simp only [zz, reduceIte, Nat.reduceEqDiff, Nat.reduceAdd]; refine k' _ _ ?_; clear k' K')
    all_goals refine S.nil ?_
    all_goals simp only [ze, reduceIte, Nat.reduceEqDiff, Nat.reduceLT, Nat.reduceLeDiff, Nat.reduceAdd, reduceCtorEq, Nat.reduceMul]
    all_goals apply_assumption
    refine AW.cond (b := true) (by simp [ev, hd]) (fun hc => ?_) (fun hc => by cases hc)
    refine AW.seq_k fun K6 h6 => ?_
    all_goals refine AW.reg0 ?_
    all_goals iterate 4 (refine S.g rfl rfl fun K' k' => ?_; simp only [zz, reduceIte, Nat.reduceEqDiff, Nat.reduceLT, Nat.reduceLeDiff, Nat.reduceAdd, reduceCtorEq, Nat.reduceMul, ok24, sz24, ag24]; refine k' _ _ ?_; clear k' K')
    all_goals refine S.nil ?_
    all_goals simp only [ze, reduceIte, Nat.reduceEqDiff, Nat.reduceLT, Nat.reduceLeDiff, Nat.reduceAdd, reduceCtorEq, Nat.reduceMul]
    all_goals apply_assumption
    refine AW.ret ?_
    all_goals simp only [zs, reduceIte, Nat.reduceEqDiff, Nat.reduceLT, Nat.reduceLeDiff, Nat.reduceAdd, reduceCtorEq, Nat.reduceMul, ok24, sz24, ag24, cut, List.drop_zero, List.take_succ_cons, List.take_zero]
    all_goals simp only [zz, Bool.false_eq_true, if_true, reduceIte, not_false_eq_true, true_and]
    exact RdL.err [] hA (by simp [wk, wk1]) hd ho2 hf2
  have hn : n < 16 := by
    have h := hN1
    unfold bitsP at h
    split at h
    · injection h with h; injection h with h1 h2; rw [← h1]; exact tk2 _ 4
    · cases h
  rw [AtL_ok hN1] at hA
  simp only [] at hA
  refine AW.seq_k fun K7 h7 => ?_
  all_goals refine AW.reg0 ?_
  all_goals (refine S.g rfl rfl fun K' k' => ?_; simp only [zz, reduceIte, Nat.reduceEqDiff, Nat.reduceAdd, pw]; refine k' _ _ ?_; clear k' K')
  all_goals (refine S.g rfl rfl fun K' k' => ?_; simp only [zz, reduceIte, Nat.reduceEqDiff, Nat.reduceLT, Nat.reduceLeDiff, Nat.reduceAdd, reduceCtorEq, Nat.reduceMul, pw]; refine (rBitsU (n := 4) ho hl (by omega)).to fun v σ2 hv => ?_; unfold RdU at hv; simp only [hN1] at hv; obtain ⟨rfl, hv⟩ := hv <;> (refine k' _ _ ?_; clear k' K'))
  all_goals iterate 5 (refine S.g rfl rfl fun K' k' => ?_; simp only [zz, reduceIte, Nat.reduceEqDiff, Nat.reduceLT, Nat.reduceLeDiff, Nat.reduceAdd, reduceCtorEq, Nat.reduceMul, pw]; refine k' _ _ ?_; clear k' K')
  all_goals refine S.nil ?_
  all_goals simp only [ze, reduceIte, Nat.reduceEqDiff, Nat.reduceLT, Nat.reduceLeDiff, Nat.reduceAdd, reduceCtorEq, Nat.reduceMul, pw]
  all_goals apply_assumption
  obtain ⟨ho2, hf2⟩ := hv
  generalize q + c1 = q1 at *
  refine AW.seq_k fun K8 h8 => ?_
  refine AW.seq_k fun K9 h9 => ?_
  all_goals refine AW.reg0 ?_
  all_goals iterate 2 (refine S.g rfl rfl fun K' k' => ?_; simp only [zz, reduceIte, Nat.reduceEqDiff, Nat.reduceAdd]; refine k' _ _ ?_; clear k' K')
  all_goals refine S.nil ?_
  all_goals simp only [ze, reduceIte, Nat.reduceEqDiff, Nat.reduceLT, Nat.reduceLeDiff, Nat.reduceAdd, reduceCtorEq, Nat.reduceMul]
  all_goals apply_assumption
  refine AW.cond (b := false) (by simp [ev]) (fun hc => by cases hc) (fun hc => ?_)
  refine AW.skip ?_
  all_goals simp only [zs, reduceIte, Nat.reduceEqDiff, Nat.reduceLT, Nat.reduceLeDiff, Nat.reduceAdd, reduceCtorEq, Nat.reduceMul]
  all_goals apply_assumption
  refine AW.seq_k fun K10 h10 => ?_
  refine AW.seq_k fun K11 h11 => ?_
  all_goals refine AW.reg0 ?_
  all_goals iterate 2 (refine S.g rfl rfl fun K' k' => ?_; simp only [zz, reduceIte, Nat.reduceEqDiff, Nat.reduceAdd, gt_iff_lt]; refine k' _ _ ?_; clear k' K')
  all_goals refine S.nil ?_
  all_goals simp only [ze, reduceIte, Nat.reduceEqDiff, Nat.reduceLT, Nat.reduceLeDiff, Nat.reduceAdd, reduceCtorEq, Nat.reduceMul, gt_iff_lt]
  all_goals apply_assumption
  refine AW.cond (b := decide (12 < n)) (by simp [ev]; try omega) (fun hc => ?_) (fun hc => ?_)
  · have hc := of_decide_eq_true hc
    rw [if_pos hc] at hA
    refine AW.seq_k fun K12 h12 => ?_
    all_goals refine AW.reg0 ?_
    all_goals iterate 3 (refine S.g rfl rfl fun K' k' => ?_; simp only [zz, reduceIte, Nat.reduceEqDiff, Nat.reduceLT, Nat.reduceLeDiff, Nat.reduceAdd, reduceCtorEq, Nat.reduceMul, ok24, sz24, ag24]; refine k' _ _ ?_; clear k' K')
    all_goals refine S.nil ?_
    all_goals simp only [ze, reduceIte, Nat.reduceEqDiff, Nat.reduceLT, Nat.reduceLeDiff, Nat.reduceAdd, reduceCtorEq, Nat.reduceMul]
    all_goals apply_assumption
    refine AW.ret ?_
    all_goals simp only [zs, reduceIte, Nat.reduceEqDiff, Nat.reduceLT, Nat.reduceLeDiff, Nat.reduceAdd, reduceCtorEq, Nat.reduceMul, ok24, sz24, ag24, cut, List.drop_zero, List.take_succ_cons, List.take_zero]
    all_goals simp only [zz, Bool.false_eq_true, if_true, reduceIte, not_false_eq_true, true_and]
    exact RdL.err [] hA (by simp [wk, wk1]) (by decide) ho2 hf2
  have hc := of_decide_eq_false hc
  rw [if_neg hc] at hA
  refine AW.skip ?_
  all_goals simp only [zs, reduceIte, Nat.reduceEqDiff, Nat.reduceLT, Nat.reduceLeDiff, Nat.reduceAdd, reduceCtorEq, Nat.reduceMul]
  all_goals apply_assumption
  refine AW.seq_j (fun s σ' => s.t 0 = ptrV g ∧ s.t 2 = .lp 2 0 ∧ s.l 2 = some [.c (.slice none 0 0)] ∧ s.t 4 = .lp 4 0 ∧
    ∃ acc x q7, s.l 4 = some [x] ∧ (x = .sl (acc.map encBd) ∨ (acc = [] ∧ x = .c (.slice none 0 0))) ∧
    σ'.obj g = some (rsC (l.drop q7)) ∧ Fr2 g g σ σ' ∧ okP acc ∧ AtL l q partR0 = AtL l q7 (Prs.ret acc)) ?_ ?_
  · refine AW.seq_k fun K13 h13 => ?_
    all_goals refine AW.reg0 ?_
    all_goals (refine S.g rfl rfl fun K' k' => ?_; simp only [zz, reduceIte, Nat.reduceEqDiff, Nat.reduceAdd]; refine k' _ _ ?_; clear k' K')
    all_goals refine S.nil ?_
    all_goals simp only [ze, reduceIte, Nat.reduceEqDiff, Nat.reduceLT, Nat.reduceLeDiff, Nat.reduceAdd, reduceCtorEq, Nat.reduceMul]
    all_goals apply_assumption
    refine AW.block ?_   -- 0
    refine AW.loop (fun m s σ' => s.t 0 = ptrV g ∧ s.t 2 = .lp 2 0 ∧ s.l 2 = some [.c (.slice none 0 0)] ∧ s.t 4 = .lp 4 0 ∧ s.t 5 = .c (.int .u64 (n : Nat)) ∧
      ∃ acc x q7, m = n - acc.length ∧ acc.length ≤ n ∧ s.t 7 = .c (.int .u64 (acc.length : Nat)) ∧ s.l 4 = some [x] ∧
      σ'.obj g = some (rsC (l.drop q7)) ∧ Fr2 g g σ σ' ∧ okP acc ∧ AtL l q partR0 = AtL l q7 (Prs.bind (Prs.rep bdQ (n - acc.length)) fun l => Prs.ret (acc ++ l)) ∧
      ((acc = [] ∧ x = .c (.slice none 0 0)) ∨ (∃ k, x = .gl k ∧ σ.gr k = none ∧ σ'.gr k = some ((42, 6), acc.map encBd)))) n ?_ ?_
    · all_goals simp only [zs, reduceIte, Nat.reduceEqDiff, Nat.reduceLT, Nat.reduceLeDiff, Nat.reduceAdd, reduceCtorEq, Nat.reduceMul, pw]
      exact ⟨[], _, q1, rfl, Nat.zero_le _, rfl, rfl, ho2, hf2, (fun x h => absurd h List.not_mem_nil), hA, .inl ⟨rfl, rfl⟩⟩
    clear ho2 hf2 hA ho hN1
    rintro m s σ' ⟨e0, e2', l2, e4', e5, acc, x, q7, hm, hal, e7, l4, ho7, hf7, hga, hA7, hx⟩
    refine AW.seq_k fun K14 h14 => ?_
    refine AW.seq_k fun K15 h15 => ?_
    all_goals refine AW.reg0 ?_
    all_goals iterate 3 (refine S.g rfl rfl fun K' k' => ?_; simp only [zz, reduceIte, Nat.reduceEqDiff, Nat.reduceAdd, e5, e7]; refine k' _ _ ?_; clear k' K')
    all_goals refine S.nil ?_
    all_goals simp only [ze, reduceIte, Nat.reduceEqDiff, Nat.reduceLT, Nat.reduceLeDiff, Nat.reduceAdd, reduceCtorEq, Nat.reduceMul, e5, e7]
    all_goals apply_assumption
    refine AW.cond (b := decide (acc.length < n)) (by simp [ev]) (fun hc => ?_) (fun hc => ?_)
    · have hin := of_decide_eq_true hc
      refine AW.skip ?_
      all_goals simp only [zs, reduceIte, Nat.reduceEqDiff, Nat.reduceLT, Nat.reduceLeDiff, Nat.reduceAdd, reduceCtorEq, Nat.reduceMul]
      all_goals apply_assumption
      rw [show n - acc.length = (n - (acc.length + 1)) + 1 by omega, rep_bind, bdQ_bind, AtL_bind] at hA7
      have hw : IntKind.u64.wrap ((acc.length : Int) + 1) = ((acc.length + 1 : Nat) : Int) := by rw [← wrap_u64 (n := acc.length + 1) (by omega)]; rfl
      refine AW.seq_k fun K16 h16 => ?_
      refine AW.block ?_   -- 1
      rcases hN : textP (l.drop q7) with d | ⟨t, c⟩
      · rw [AtL_er hN] at hA7
        simp only [] at hA7
        refine AW.seq_k fun K17 h17 => ?_
        all_goals refine AW.reg0 ?_
        all_goals (refine S.g rfl rfl fun K' k' => ?_; simp only [zz, reduceIte, Nat.reduceEqDiff, Nat.reduceAdd, e0, pw]; refine k' _ _ ?_; clear k' K')
        all_goals (refine S.g rfl rfl fun K' k' => ?_; simp only [zz, reduceIte, Nat.reduceEqDiff, Nat.reduceLT, Nat.reduceLeDiff, Nat.reduceAdd, reduceCtorEq, Nat.reduceMul, e0, pw]; refine (rTextU ho7 hl).to fun v σ3 hv => ?_; unfold RdU at hv; simp only [hN] at hv; obtain ⟨rfl, hv⟩ := hv <;> (refine k' _ _ ?_; clear k' K'))
        all_goals iterate 5 (refine S.g rfl rfl fun K' k' => ?_; simp only [zz, reduceIte, Nat.reduceEqDiff, Nat.reduceLT, Nat.reduceLeDiff, Nat.reduceAdd, reduceCtorEq, Nat.reduceMul, e0, pw]; refine k' _ _ ?_; clear k' K')
        all_goals refine S.nil ?_
        all_goals simp only [ze, reduceIte, Nat.reduceEqDiff, Nat.reduceLT, Nat.reduceLeDiff, Nat.reduceAdd, reduceCtorEq, Nat.reduceMul, e0, pw]
        all_goals apply_assumption
        obtain ⟨hd, ho3, hf3⟩ := hv
        refine AW.seq_k fun K18 h18 => ?_
        refine AW.seq_k fun K19 h19 => ?_
        all_goals refine AW.reg0 ?_
        all_goals iterate 2 (refine S.g rfl rfl fun K' k' => ?_; simp only [zz, reduceIte, Nat.reduceEqDiff, Nat.reduceAdd]; refine k' _ _ ?_; clear k' K')
        all_goals refine S.nil ?_
        all_goals simp only [ze, reduceIte, Nat.reduceEqDiff, Nat.reduceLT, Nat.reduceLeDiff, Nat.reduceAdd, reduceCtorEq, Nat.reduceMul]
        all_goals apply_assumption
        refine AW.cond (b := true) (by simp [ev, hd]) (fun hc => ?_) (fun hc => by cases hc)
        rcases hx with ⟨rfl, rfl⟩ | ⟨k, rfl, hk, hgk⟩
        · refine AW.seq_k fun K20 h20 => ?_
          all_goals refine AW.reg0 ?_
          all_goals iterate 4 (refine S.g rfl rfl fun K' k' => ?_; simp only [zz, reduceIte, Nat.reduceEqDiff, Nat.reduceLT, Nat.reduceLeDiff, Nat.reduceAdd, reduceCtorEq, Nat.reduceMul, ok24, sz24, ag24, e2', l2, e4', l4]; refine k' _ _ ?_; clear k' K')
          all_goals refine S.nil ?_
          all_goals simp only [ze, reduceIte, Nat.reduceEqDiff, Nat.reduceLT, Nat.reduceLeDiff, Nat.reduceAdd, reduceCtorEq, Nat.reduceMul, e2', l2, e4', l4]
          all_goals apply_assumption
          refine AW.ret ?_
          all_goals simp only [zs, reduceIte, Nat.reduceEqDiff, Nat.reduceLT, Nat.reduceLeDiff, Nat.reduceAdd, reduceCtorEq, Nat.reduceMul, ok24, sz24, ag24, cut, List.drop_zero, List.take_succ_cons, List.take_zero, e2']
          all_goals simp only [zz, Bool.false_eq_true, if_true, reduceIte, not_false_eq_true, true_and, e2']
          exact RdL.err [] hA7 (by simp [wk, wk1]) hd ho3 (hf7.trans hf3)
        · have hg3 := hf3.gr _ _ hgk
          refine AW.seq_k fun K21 h21 => ?_
          all_goals refine AW.reg0 ?_
          all_goals iterate 4 (refine S.g rfl rfl fun K' k' => ?_; simp only [zz, reduceIte, Nat.reduceEqDiff, Nat.reduceLT, Nat.reduceLeDiff, Nat.reduceAdd, reduceCtorEq, Nat.reduceMul, ok24, sz24, ag24, e2', l2, e4', l4]; refine k' _ _ ?_; clear k' K')
          all_goals refine S.nil ?_
          all_goals simp only [ze, reduceIte, Nat.reduceEqDiff, Nat.reduceLT, Nat.reduceLeDiff, Nat.reduceAdd, reduceCtorEq, Nat.reduceMul, e2', l2, e4', l4]
          all_goals apply_assumption
          refine AW.freeze (k := k) (T := (42, 6)) (es := acc.map encBd) hg3 ?_
          refine AW.ret ?_
          all_goals simp only [zs, reduceIte, Nat.reduceEqDiff, Nat.reduceLT, Nat.reduceLeDiff, Nat.reduceAdd, reduceCtorEq, Nat.reduceMul, ok24, sz24, ag24, cut, List.drop_zero, List.take_succ_cons, List.take_zero, e2', fzV, fz1, St.fz_t, St.fz_l, Option.map_some, List.map]
          all_goals simp only [zz, Bool.false_eq_true, if_true, reduceIte, not_false_eq_true, true_and, e2', fzV, fz1, St.fz_t, St.fz_l, Option.map_some, List.map]
          exact RdL.err acc hA7 (by simp [wk, wk1]) hd (by simpa using ho3) ((hf7.trans hf3).drop hk)
      obtain ⟨_, htl, _⟩ := textP_ok hN
      rw [List.length_drop] at htl
      rw [AtL_ok hN] at hA7
      simp only [] at hA7
      rw [AtL_bind] at hA7
      refine AW.seq_k fun K22 h22 => ?_
      all_goals refine AW.reg0 ?_
      all_goals (refine S.g rfl rfl fun K' k' => ?_; simp only [zz, reduceIte, Nat.reduceEqDiff, Nat.reduceAdd, e0, pw]; refine k' _ _ ?_; clear k' K')
      all_goals (refine S.g rfl rfl fun K' k' => ?_; simp only [zz, reduceIte, Nat.reduceEqDiff, Nat.reduceLT, Nat.reduceLeDiff, Nat.reduceAdd, reduceCtorEq, Nat.reduceMul, e0, pw]; refine (rTextU ho7 hl).to fun v σ3 hv => ?_; unfold RdU at hv; simp only [hN] at hv; obtain ⟨rfl, hv⟩ := hv <;> (refine k' _ _ ?_; clear k' K'))
      all_goals iterate 5 (refine S.g rfl rfl fun K' k' => ?_; simp only [zz, reduceIte, Nat.reduceEqDiff, Nat.reduceLT, Nat.reduceLeDiff, Nat.reduceAdd, reduceCtorEq, Nat.reduceMul, e0, pw]; refine k' _ _ ?_; clear k' K')
      all_goals refine S.nil ?_
      all_goals simp only [ze, reduceIte, Nat.reduceEqDiff, Nat.reduceLT, Nat.reduceLeDiff, Nat.reduceAdd, reduceCtorEq, Nat.reduceMul, e0, pw]
      all_goals apply_assumption
      obtain ⟨ho3, hf3'⟩ := hv
      refine AW.seq_k fun K23 h23 => ?_
      refine AW.seq_k fun K24 h24 => ?_
      all_goals refine AW.reg0 ?_
      all_goals iterate 2 (refine S.g rfl rfl fun K' k' => ?_; simp only [zz, reduceIte, Nat.reduceEqDiff, Nat.reduceAdd]; refine k' _ _ ?_; clear k' K')
      all_goals refine S.nil ?_
      all_goals simp only [ze, reduceIte, Nat.reduceEqDiff, Nat.reduceLT, Nat.reduceLeDiff, Nat.reduceAdd, reduceCtorEq, Nat.reduceMul]
      all_goals apply_assumption
      refine AW.cond (b := false) (by simp [ev]) (fun hc => by cases hc) (fun hc => ?_)
      refine AW.skip ?_
      all_goals simp only [zs, reduceIte, Nat.reduceEqDiff, Nat.reduceLT, Nat.reduceLeDiff, Nat.reduceAdd, reduceCtorEq, Nat.reduceMul]
      all_goals apply_assumption
      have hg3 := hf3'.gr
      have hf3 : Fr2 g g σ σ3 := hf7.trans hf3'
      generalize q7 + c = q8 at *
      rcases hM : AtL l q8 evQ with d | ⟨a, q9⟩
      · rw [hM] at hA7
        simp only [] at hA7
        refine AW.seq_k fun K25 h25 => ?_
        all_goals refine AW.reg0 ?_
        all_goals (refine S.g rfl rfl fun K' k' => ?_; simp only [zz, reduceIte, Nat.reduceEqDiff, Nat.reduceAdd, e0, pw, zeroE]; refine k' _ _ ?_; clear k' K')
        all_goals (refine S.g rfl rfl fun K' k' => ?_; simp only [zz, reduceIte, Nat.reduceEqDiff, Nat.reduceLT, Nat.reduceLeDiff, Nat.reduceAdd, reduceCtorEq, Nat.reduceMul, e0, pw, zeroE]; refine (rTakeE_spec g l q8 _ ho3 hl).to fun v σ4 hv => ?_; unfold RdT at hv; simp only [hM] at hv; obtain ⟨rfl, hv⟩ := hv <;> (refine k' _ _ ?_; clear k' K'))
        all_goals iterate 6 (refine S.g rfl rfl fun K' k' => ?_; simp only [zz, reduceIte, Nat.reduceEqDiff, Nat.reduceLT, Nat.reduceLeDiff, Nat.reduceAdd, reduceCtorEq, Nat.reduceMul, zt36, ok36, sz36, ag36, e0, pw, zeroE]; refine k' _ _ ?_; clear k' K')
        all_goals refine S.nil ?_
        all_goals simp only [ze, reduceIte, Nat.reduceEqDiff, Nat.reduceLT, Nat.reduceLeDiff, Nat.reduceAdd, reduceCtorEq, Nat.reduceMul, e0, pw, zeroE]
        all_goals apply_assumption
        obtain ⟨hd, ho4, hf4⟩ := hv
        refine AW.seq_k fun K26 h26 => ?_
        refine AW.seq_k fun K27 h27 => ?_
        all_goals refine AW.reg0 ?_
        all_goals iterate 2 (refine S.g rfl rfl fun K' k' => ?_; simp only [zz, reduceIte, Nat.reduceEqDiff, Nat.reduceAdd]; refine k' _ _ ?_; clear k' K')
        all_goals refine S.nil ?_
        all_goals simp only [ze, reduceIte, Nat.reduceEqDiff, Nat.reduceLT, Nat.reduceLeDiff, Nat.reduceAdd, reduceCtorEq, Nat.reduceMul]
        all_goals apply_assumption
        refine AW.cond (b := true) (by simp [ev, hd]) (fun hc => ?_) (fun hc => by cases hc)
        rcases hx with ⟨rfl, rfl⟩ | ⟨k, rfl, hk, hgk⟩
        · refine AW.seq_k fun K28 h28 => ?_
          all_goals refine AW.reg0 ?_
          all_goals iterate 4 (refine S.g rfl rfl fun K' k' => ?_; simp only [zz, reduceIte, Nat.reduceEqDiff, Nat.reduceLT, Nat.reduceLeDiff, Nat.reduceAdd, reduceCtorEq, Nat.reduceMul, ok24, sz24, ag24, e2', l2, e4', l4]; refine k' _ _ ?_; clear k' K')
          all_goals refine S.nil ?_
          all_goals simp only [ze, reduceIte, Nat.reduceEqDiff, Nat.reduceLT, Nat.reduceLeDiff, Nat.reduceAdd, reduceCtorEq, Nat.reduceMul, e2', l2, e4', l4]
          all_goals apply_assumption
          refine AW.ret ?_
          all_goals simp only [zs, reduceIte, Nat.reduceEqDiff, Nat.reduceLT, Nat.reduceLeDiff, Nat.reduceAdd, reduceCtorEq, Nat.reduceMul, ok24, sz24, ag24, cut, List.drop_zero, List.take_succ_cons, List.take_zero, e2']
          all_goals simp only [zz, Bool.false_eq_true, if_true, reduceIte, not_false_eq_true, true_and, e2']
          exact RdL.err [] hA7 (by simp [wk, wk1]) hd ho4 (hf3.trans hf4)
        · have hg4 := hf4.gr _ _ (hg3 _ _ hgk)
          refine AW.seq_k fun K29 h29 => ?_
          all_goals refine AW.reg0 ?_
          all_goals iterate 4 (refine S.g rfl rfl fun K' k' => ?_; simp only [zz, reduceIte, Nat.reduceEqDiff, Nat.reduceLT, Nat.reduceLeDiff, Nat.reduceAdd, reduceCtorEq, Nat.reduceMul, ok24, sz24, ag24, e2', l2, e4', l4]; refine k' _ _ ?_; clear k' K')
          all_goals refine S.nil ?_
          all_goals simp only [ze, reduceIte, Nat.reduceEqDiff, Nat.reduceLT, Nat.reduceLeDiff, Nat.reduceAdd, reduceCtorEq, Nat.reduceMul, e2', l2, e4', l4]
          all_goals apply_assumption
          refine AW.freeze (k := k) (T := (42, 6)) (es := acc.map encBd) hg4 ?_
          refine AW.ret ?_
          all_goals simp only [zs, reduceIte, Nat.reduceEqDiff, Nat.reduceLT, Nat.reduceLeDiff, Nat.reduceAdd, reduceCtorEq, Nat.reduceMul, ok24, sz24, ag24, cut, List.drop_zero, List.take_succ_cons, List.take_zero, e2', fzV, fz1, St.fz_t, St.fz_l, Option.map_some, List.map]
          all_goals simp only [zz, Bool.false_eq_true, if_true, reduceIte, not_false_eq_true, true_and, e2', fzV, fz1, St.fz_t, St.fz_l, Option.map_some, List.map]
          exact RdL.err acc hA7 (by simp [wk, wk1]) hd (by simpa using ho4) ((hf3.trans hf4).drop hk)
      · rw [hM] at hA7
        simp only [] at hA7
        refine AW.seq_k fun K30 h30 => ?_
        all_goals refine AW.reg0 ?_
        all_goals (refine S.g rfl rfl fun K' k' => ?_; simp only [zz, reduceIte, Nat.reduceEqDiff, Nat.reduceAdd, e0, pw, encEv]; refine k' _ _ ?_; clear k' K')
        all_goals (refine S.g rfl rfl fun K' k' => ?_; simp only [zz, reduceIte, Nat.reduceEqDiff, Nat.reduceLT, Nat.reduceLeDiff, Nat.reduceAdd, reduceCtorEq, Nat.reduceMul, e0, pw, encEv]; refine (rTakeE_spec g l q8 _ ho3 hl).to fun v σ4 hv => ?_; unfold RdT at hv; simp only [hM] at hv; obtain ⟨rfl, hv⟩ := hv <;> (refine k' _ _ ?_; clear k' K'))
        all_goals iterate 6 (refine S.g rfl rfl fun K' k' => ?_; simp only [zz, reduceIte, Nat.reduceEqDiff, Nat.reduceLT, Nat.reduceLeDiff, Nat.reduceAdd, reduceCtorEq, Nat.reduceMul, zt36, ok36, sz36, ag36, e0, pw, encEv]; refine k' _ _ ?_; clear k' K')
        all_goals refine S.nil ?_
        all_goals simp only [ze, reduceIte, Nat.reduceEqDiff, Nat.reduceLT, Nat.reduceLeDiff, Nat.reduceAdd, reduceCtorEq, Nat.reduceMul, e0, pw, encEv]
        all_goals apply_assumption
        obtain ⟨ha, ho4, hf4⟩ := hv
        refine AW.seq_k fun K31 h31 => ?_
        refine AW.seq_k fun K32 h32 => ?_
        all_goals refine AW.reg0 ?_
        all_goals iterate 2 (refine S.g rfl rfl fun K' k' => ?_; simp only [zz, reduceIte, Nat.reduceEqDiff, Nat.reduceAdd]; refine k' _ _ ?_; clear k' K')
        all_goals refine S.nil ?_
        all_goals simp only [ze, reduceIte, Nat.reduceEqDiff, Nat.reduceLT, Nat.reduceLeDiff, Nat.reduceAdd, reduceCtorEq, Nat.reduceMul]
        all_goals apply_assumption
        refine AW.cond (b := false) (by simp [ev]) (fun hc => by cases hc) (fun hc => ?_)
        refine AW.skip ?_
        all_goals simp only [zs, reduceIte, Nat.reduceEqDiff, Nat.reduceLT, Nat.reduceLeDiff, Nat.reduceAdd, reduceCtorEq, Nat.reduceMul]
        all_goals apply_assumption
        have hbd : okB ⟨strOf t, a⟩ := ⟨by show (strOf t).size < _; rw [strOf_size]; omega, ha⟩
        rcases hx with ⟨rfl, rfl⟩ | ⟨k, rfl, hk, hgk⟩
        · have hn0 : 0 < n := hin
          have hw : IntKind.u64.wrap (((([] : List Bd).length : Nat) : Int) + 1) = ((0 + 1 : Nat) : Int) := hw
          all_goals refine AW.reg0 ?_
          all_goals iterate 4 (refine S.g rfl rfl fun K' k' => ?_; simp only [zz, reduceIte, Nat.reduceEqDiff, Nat.reduceLT, Nat.reduceLeDiff, Nat.reduceAdd, reduceCtorEq, Nat.reduceMul, of24_0, ok22, sz22, ag22, ok36, sz36, ag36, e4', l4, encBd]; refine k' _ _ ?_; clear k' K')
          all_goals (refine S.g rfl rfl fun K' k' => ?_; simp only [zz, reduceIte, Nat.reduceEqDiff, Nat.reduceLT, Nat.reduceLeDiff, Nat.reduceAdd, reduceCtorEq, Nat.reduceMul, zt42, pl42, e4', l4, encBd]; refine k' _ _ ?_; clear k' K')
          all_goals (refine S.g rfl rfl fun K' k' => ?_; simp only [zb, reduceIte, Nat.reduceEqDiff, Nat.reduceLT, Nat.reduceLeDiff, Nat.reduceAdd, reduceCtorEq, Nat.reduceMul, sl22, el22, ok42, sz42, ag42, zt42, by42, e4', l4, encBd]; refine k' _ _ ?_; clear k' K')
          all_goals (refine S.g rfl rfl fun K' k' => ?_; simp only [zz, reduceIte, Nat.reduceEqDiff, Nat.reduceLT, Nat.reduceLeDiff, Nat.reduceAdd, reduceCtorEq, Nat.reduceMul, sl22, el22, ok42, sz42, ag42, zt42, by42, e4', l4, encBd]; refine ⟨by simp, by unfold maxLen; (try simp only [List.length_map, List.length_cons, List.length_nil]); omega, by unfold reach; (try simp only [List.length_map, List.length_cons, List.length_nil]); omega, fun k2 hk2 => ?_⟩ <;> (refine k' _ _ ?_; clear k' K'))
          all_goals iterate 2 (refine S.g rfl rfl fun K' k' => ?_; simp only [zz, reduceIte, Nat.reduceEqDiff, Nat.reduceLT, Nat.reduceLeDiff, Nat.reduceAdd, reduceCtorEq, Nat.reduceMul, of24_0, ok22, sz22, ag22, e4', l4, encBd]; refine k' _ _ ?_; clear k' K')
          all_goals refine S.nil ?_
          all_goals simp only [ze, reduceIte, Nat.reduceEqDiff, Nat.reduceLT, Nat.reduceLeDiff, Nat.reduceAdd, reduceCtorEq, Nat.reduceMul, e4', l4, encBd]
          all_goals apply_assumption
          all_goals refine AW.reg0 ?_
          all_goals iterate 3 (refine S.g rfl rfl fun K' k' => ?_; simp only [zz, reduceIte, Nat.reduceEqDiff, Nat.reduceAdd, e7, hw, e0, e2', l2, e4', l4, e5, pw]; refine k' _ _ ?_; clear k' K')
          all_goals refine S.nil ?_
          all_goals simp only [ze, reduceIte, Nat.reduceEqDiff, Nat.reduceLT, Nat.reduceLeDiff, Nat.reduceAdd, reduceCtorEq, Nat.reduceMul, e7, hw, e0, e2', l2, e4', l4, e5, pw]
          obtain ⟨hfn, hkn⟩ := (hf3.trans hf4).new (k2 := k2) (y := some ((42, 6), [encBd ⟨strOf t, a⟩])) hk2
          exact ⟨n - 1, by rw [hm]; exact Nat.sub_lt hn0 Nat.one_pos, [⟨strOf t, a⟩], .gl k2, q9, rfl, hn0, rfl, rfl, by simpa using ho4, hfn, fun y hy => by rw [List.mem_singleton.1 hy]; exact hbd, by simpa using hA7, .inr ⟨k2, rfl, hkn, by simp [encBd]⟩⟩
        · have hg4 := hf4.gr _ _ (hg3 _ _ hgk)
          all_goals refine AW.reg0 ?_
          all_goals iterate 4 (refine S.g rfl rfl fun K' k' => ?_; simp only [zz, reduceIte, Nat.reduceEqDiff, Nat.reduceLT, Nat.reduceLeDiff, Nat.reduceAdd, reduceCtorEq, Nat.reduceMul, of24_0, ok22, sz22, ag22, ok36, sz36, ag36, e4', l4, encBd, hg4]; refine k' _ _ ?_; clear k' K')
          all_goals (refine S.g rfl rfl fun K' k' => ?_; simp only [zz, reduceIte, Nat.reduceEqDiff, Nat.reduceLT, Nat.reduceLeDiff, Nat.reduceAdd, reduceCtorEq, Nat.reduceMul, zt42, pl42, e4', l4, encBd, hg4]; refine k' _ _ ?_; clear k' K')
          all_goals (refine S.g rfl rfl fun K' k' => ?_; simp only [zb, reduceIte, Nat.reduceEqDiff, Nat.reduceLT, Nat.reduceLeDiff, Nat.reduceAdd, reduceCtorEq, Nat.reduceMul, sl22, el22, ok42, sz42, ag42, zt42, by42, e4', l4, encBd, hg4]; refine k' _ _ ?_; clear k' K')
          all_goals (refine S.g rfl rfl fun K' k' => ?_; simp only [zz, reduceIte, Nat.reduceEqDiff, Nat.reduceLT, Nat.reduceLeDiff, Nat.reduceAdd, reduceCtorEq, Nat.reduceMul, sl22, el22, ok42, sz42, ag42, zt42, by42, e4', l4, encBd, hg4]; refine ⟨by simp, by unfold maxLen; (try simp only [List.length_map, List.length_cons, List.length_nil]); omega, by unfold reach; (try simp only [List.length_map, List.length_cons, List.length_nil]); omega, fun k2 hk2 => ?_⟩ <;> (refine k' _ _ ?_; clear k' K'))
          all_goals iterate 2 (refine S.g rfl rfl fun K' k' => ?_; simp only [zz, reduceIte, Nat.reduceEqDiff, Nat.reduceLT, Nat.reduceLeDiff, Nat.reduceAdd, reduceCtorEq, Nat.reduceMul, of24_0, ok22, sz22, ag22, e4', l4, encBd, hg4]; refine k' _ _ ?_; clear k' K')
          all_goals refine S.nil ?_
          all_goals simp only [ze, reduceIte, Nat.reduceEqDiff, Nat.reduceLT, Nat.reduceLeDiff, Nat.reduceAdd, reduceCtorEq, Nat.reduceMul, e4', l4, encBd, hg4]
          all_goals apply_assumption
          all_goals refine AW.reg0 ?_
          all_goals iterate 3 (refine S.g rfl rfl fun K' k' => ?_; simp only [zz, reduceIte, Nat.reduceEqDiff, Nat.reduceAdd, e7, hw, e0, e2', l2, e4', l4, e5, pw]; refine k' _ _ ?_; clear k' K')
          all_goals refine S.nil ?_
          all_goals simp only [ze, reduceIte, Nat.reduceEqDiff, Nat.reduceLT, Nat.reduceLeDiff, Nat.reduceAdd, reduceCtorEq, Nat.reduceMul, e7, hw, e0, e2', l2, e4', l4, e5, pw]
          obtain ⟨hfn, hkn⟩ := (hf3.trans hf4).app (k2 := k2) (y := some ((42, 6), acc.map encBd ++ [encBd ⟨strOf t, a⟩])) hk (fun e => by simpa [e] using hk2)
          exact ⟨n - (acc.length + 1), by omega, acc ++ [⟨strOf t, a⟩], .gl k2, q9, by simp, by simp; omega, by simp, rfl, by simpa using ho4, hfn, fun y hy => by
            rcases List.mem_append.1 hy with h | h
            · exact hga y h
            · rw [List.mem_singleton.1 h]; exact hbd, by simpa using hA7, .inr ⟨k2, rfl, hkn, by simp [encBd]⟩⟩
    · have hin : acc.length = n := by have := of_decide_eq_false hc; omega
      rw [hin, Nat.sub_self] at hA7
      have hA8 : AtL l q partR0 = AtL l q7 (Prs.ret acc) := by rw [hA7, Prs.rep, ret_bind, List.append_nil]
      rcases hx with ⟨rfl, rfl⟩ | ⟨k, rfl, hk, hgk⟩
      · refine AW.exit ?_
        all_goals simp only [zs, reduceIte, Nat.reduceEqDiff, Nat.reduceLT, Nat.reduceLeDiff, Nat.reduceAdd, reduceCtorEq, Nat.reduceMul, e0, e2', l2, e4', l4]
        exact ⟨[], _, q7, rfl, .inr ⟨rfl, rfl⟩, ho7, hf7, hga, hA8⟩
      · refine AW.freeze (k := k) (T := (42, 6)) (es := acc.map encBd) (by simpa using hgk) ?_
        refine AW.exit ?_
        all_goals simp only [zs, reduceIte, Nat.reduceEqDiff, Nat.reduceLT, Nat.reduceLeDiff, Nat.reduceAdd, reduceCtorEq, Nat.reduceMul, e0, e2', l2, e4', l4, fzV, fz1, St.fz_t, St.fz_l, Option.map_some, List.map, ptrV]
        exact ⟨acc, _, q7, rfl, .inl rfl, by simpa using ho7, hf7.drop hk, hga, hA8⟩
  clear hA ho2 hf2
  rintro s σ' ⟨e0, e2', l2, e4', acc, x, q7, l4, hx, ho7, hf7, hE, hA7⟩
  rcases hx with rfl | ⟨rfl, rfl⟩
  · refine AW.seq_k fun K33 h33 => ?_
    all_goals refine AW.reg0 ?_
    all_goals iterate 3 (refine S.g rfl rfl fun K' k' => ?_; simp only [zz, reduceIte, Nat.reduceEqDiff, Nat.reduceLT, Nat.reduceLeDiff, Nat.reduceAdd, reduceCtorEq, Nat.reduceMul, ok24, sz24, ag24, e2', l2, e4', l4]; refine k' _ _ ?_; clear k' K')
    all_goals refine S.nil ?_
    all_goals simp only [ze, reduceIte, Nat.reduceEqDiff, Nat.reduceLT, Nat.reduceLeDiff, Nat.reduceAdd, reduceCtorEq, Nat.reduceMul, e2', l2, e4', l4]
    all_goals apply_assumption
    refine AW.ret ?_
    all_goals simp only [zs, reduceIte, Nat.reduceEqDiff, Nat.reduceLT, Nat.reduceLeDiff, Nat.reduceAdd, reduceCtorEq, Nat.reduceMul, ok24, sz24, ag24, cut, List.drop_zero, List.take_succ_cons, List.take_zero, e2']
    all_goals simp only [zz, Bool.false_eq_true, if_true, reduceIte, not_false_eq_true, true_and, e2']
    exact RdL.okk (a := acc) hA7 (by simp [wk, wk1]) hE ho7 hf7
  · refine AW.seq_k fun K34 h34 => ?_
    all_goals refine AW.reg0 ?_
    all_goals iterate 3 (refine S.g rfl rfl fun K' k' => ?_; simp only [zz, reduceIte, Nat.reduceEqDiff, Nat.reduceLT, Nat.reduceLeDiff, Nat.reduceAdd, reduceCtorEq, Nat.reduceMul, ok24, sz24, ag24, e2', l2, e4', l4]; refine k' _ _ ?_; clear k' K')
    all_goals refine S.nil ?_
    all_goals simp only [ze, reduceIte, Nat.reduceEqDiff, Nat.reduceLT, Nat.reduceLeDiff, Nat.reduceAdd, reduceCtorEq, Nat.reduceMul, e2', l2, e4', l4]
    all_goals apply_assumption
    refine AW.ret ?_
    all_goals simp only [zs, reduceIte, Nat.reduceEqDiff, Nat.reduceLT, Nat.reduceLeDiff, Nat.reduceAdd, reduceCtorEq, Nat.reduceMul, ok24, sz24, ag24, cut, List.drop_zero, List.take_succ_cons, List.take_zero, e2']
    all_goals simp only [zz, Bool.false_eq_true, if_true, reduceIte, not_false_eq_true, true_and, e2']
    exact RdL.okk (a := []) hA7 (by simp [wk, wk1]) hE ho7 hf7
/-- The reference's 'Take' and 'Parse'. -/
theorem AtL_part (l : List Bool) (q : Nat) : AtL l q partQ = match AtL l q partR0 with | .ok (a, q') => AtL l q' (chkP a) | .error d => .error d :=
  by
  rw [← partR_eq, AtL_bind]
  cases AtL l q partR0 with
  | error e => rfl
  | ok x => rfl
theorem rTakeP_spec (g : Nat) (l : List Bool) (q : Nat) (σ : Hp) (ho : σ.obj g = some (rsC (l.drop q))) (hl : l.length < 1099511627776) :
    ACalls Try.prog 60 [ptrV g] σ (RdT g l q (fun a => .agg [.sl (a.map encBd)]) (.agg [.sl []]) okP partQ σ) := by
  refine ACalls.intro Try.call60 Try.func60 rfl Try.ntmps60 Try.results60 (by simp) ?_
  have ho' : σ.obj g = some [.sl ((l.drop q).map encT)] := ho
  refine AW.seq_k fun K1 h1 => ?_
  all_goals refine AW.reg0 ?_
  all_goals iterate 2 (refine S.g rfl rfl fun K' k' => ?_; simp only [zz, reduceIte, Nat.reduceEqDiff, Nat.reduceLT, Nat.reduceLeDiff, Nat.reduceAdd, reduceCtorEq, Nat.reduceMul, zt24]; refine k' _ _ ?_; clear k' K')
  all_goals refine S.nil ?_
  all_goals simp only [ze, reduceIte, Nat.reduceEqDiff, Nat.reduceLT, Nat.reduceLeDiff, Nat.reduceAdd, reduceCtorEq, Nat.reduceMul]
  all_goals apply_assumption
  refine AW.seq_k fun K2 h2 => ?_
  all_goals refine AW.reg0 ?_
  all_goals iterate 5 (refine S.g rfl rfl fun K' k' => ?_; simp only [zz, reduceIte, Nat.reduceEqDiff, Nat.reduceLT, Nat.reduceLeDiff, Nat.reduceAdd, reduceCtorEq, Nat.reduceMul, ok89, sz89, ag89, zt89, pw, ptrV, ho', map1s, List.getD_cons_zero]; refine k' _ _ ?_; clear k' K')
  all_goals refine S.nil ?_
  all_goals simp only [ze, reduceIte, Nat.reduceEqDiff, Nat.reduceLT, Nat.reduceLeDiff, Nat.reduceAdd, reduceCtorEq, Nat.reduceMul, pw, ptrV, ho', map1s, List.getD_cons_zero]
  all_goals apply_assumption
  have hB := AtL_part l q
  rcases hA : AtL l q partR0 with e | ⟨a, q4⟩
  · rw [hA] at hB
    simp only [] at hB
    refine AW.seq_k fun K3 h3 => ?_
    all_goals refine AW.reg0 ?_
    all_goals (refine S.g rfl rfl fun K' k' => ?_; simp only [zz, reduceIte, Nat.reduceEqDiff, Nat.reduceAdd, pw]; refine k' _ _ ?_; clear k' K')
    all_goals (refine S.g rfl rfl fun K' k' => ?_; simp only [zz, reduceIte, Nat.reduceEqDiff, Nat.reduceLT, Nat.reduceLeDiff, Nat.reduceAdd, reduceCtorEq, Nat.reduceMul, pw]; refine (rtakeP_spec g l q _ ho hl).to fun v σ4 hv => ?_; unfold RdL at hv; rw [hA] at hv; obtain ⟨a, l', rfl, he, ho4, hf4⟩ := hv <;> (refine k' _ _ ?_; clear k' K'))
    all_goals iterate 6 (refine S.g rfl rfl fun K' k' => ?_; simp only [zz, reduceIte, Nat.reduceEqDiff, Nat.reduceLT, Nat.reduceLeDiff, Nat.reduceAdd, reduceCtorEq, Nat.reduceMul, zt24, ok24, sz24, ag24, pw]; refine k' _ _ ?_; clear k' K')
    all_goals refine S.nil ?_
    all_goals simp only [ze, reduceIte, Nat.reduceEqDiff, Nat.reduceLT, Nat.reduceLeDiff, Nat.reduceAdd, reduceCtorEq, Nat.reduceMul, pw]
    all_goals apply_assumption
    have hg4 : σ4.obj g = some [.sl (l'.map encT)] := ho4
    refine AW.seq_k fun K4 h4 => ?_
    refine AW.seq_k fun K5 h5 => ?_
    all_goals refine AW.reg0 ?_
    all_goals iterate 2 (refine S.g rfl rfl fun K' k' => ?_; simp only [zz, reduceIte, Nat.reduceEqDiff, Nat.reduceAdd]; refine k' _ _ ?_; clear k' K')
    all_goals refine S.nil ?_
    all_goals simp only [ze, reduceIte, Nat.reduceEqDiff, Nat.reduceLT, Nat.reduceLeDiff, Nat.reduceAdd, reduceCtorEq, Nat.reduceMul]
    all_goals apply_assumption
    refine AW.cond (b := false) (by simp [ev, he]) (fun hc => by cases hc) (fun hc => ?_)
    refine AW.skip ?_
    all_goals simp only [zs, reduceIte, Nat.reduceEqDiff, Nat.reduceLT, Nat.reduceLeDiff, Nat.reduceAdd, reduceCtorEq, Nat.reduceMul]
    all_goals apply_assumption
    refine AW.seq_k fun K6 h6 => ?_
    refine AW.seq_k fun K7 h7 => ?_
    all_goals refine AW.reg0 ?_
    all_goals iterate 2 (refine S.g rfl rfl fun K' k' => ?_; simp only [zz, reduceIte, Nat.reduceEqDiff, Nat.reduceAdd]; refine k' _ _ ?_; clear k' K')
    all_goals refine S.nil ?_
    all_goals simp only [ze, reduceIte, Nat.reduceEqDiff, Nat.reduceLT, Nat.reduceLeDiff, Nat.reduceAdd, reduceCtorEq, Nat.reduceMul]
    all_goals apply_assumption
    refine AW.cond (b := true) (by simp [ev, he]) (fun hc => ?_) (fun hc => by cases hc)
    refine AW.seq_k fun K8 h8 => ?_
    all_goals refine AW.reg0 ?_
    all_goals iterate 4 (refine S.g rfl rfl fun K' k' => ?_; simp only [zz, reduceIte, Nat.reduceEqDiff, Nat.reduceLT, Nat.reduceLeDiff, Nat.reduceAdd, reduceCtorEq, Nat.reduceMul, ok89, sz89, ag89, hg4, map1s]; refine k' _ _ ?_; clear k' K')
    all_goals refine S.nil ?_
    all_goals simp only [ze, reduceIte, Nat.reduceEqDiff, Nat.reduceLT, Nat.reduceLeDiff, Nat.reduceAdd, reduceCtorEq, Nat.reduceMul, hg4, map1s]
    all_goals apply_assumption
    refine AW.seq_k fun K9 h9 => ?_
    all_goals refine AW.reg0 ?_
    all_goals (refine S.g rfl rfl fun K' k' => ?_; simp only [zz, reduceIte, Nat.reduceEqDiff, Nat.reduceLT, Nat.reduceLeDiff, Nat.reduceAdd, reduceCtorEq, Nat.reduceMul, zt24, pl24]; refine k' _ _ ?_; clear k' K')
    all_goals iterate 3 (refine S.g rfl rfl fun K' k' => ?_; simp only [zz, reduceIte, Nat.reduceEqDiff, Nat.reduceLT, Nat.reduceLeDiff, Nat.reduceAdd, reduceCtorEq, Nat.reduceMul, ok24, sz24, ag24]; refine k' _ _ ?_; clear k' K')
    all_goals refine S.nil ?_
    all_goals simp only [ze, reduceIte, Nat.reduceEqDiff, Nat.reduceLT, Nat.reduceLeDiff, Nat.reduceAdd, reduceCtorEq, Nat.reduceMul]
    all_goals apply_assumption
    refine AW.ret ?_
    all_goals simp only [zs, reduceIte, Nat.reduceEqDiff, Nat.reduceLT, Nat.reduceLeDiff, Nat.reduceAdd, reduceCtorEq, Nat.reduceMul, ok24, sz24, ag24, cut, List.drop_zero, List.take_succ_cons, List.take_zero]
    all_goals simp only [zz, Bool.false_eq_true, if_true, reduceIte, not_false_eq_true, true_and]
    unfold RdT
    rw [hB]
    exact ⟨by simp [wk, wk1], he, by simp [rsC], hf4.setb⟩
  · rw [hA] at hB
    simp only [] at hB
    refine AW.seq_k fun K10 h10 => ?_
    all_goals refine AW.reg0 ?_
    all_goals (refine S.g rfl rfl fun K' k' => ?_; simp only [zz, reduceIte, Nat.reduceEqDiff, Nat.reduceAdd, pw]; refine k' _ _ ?_; clear k' K')
    all_goals (refine S.g rfl rfl fun K' k' => ?_; simp only [zz, reduceIte, Nat.reduceEqDiff, Nat.reduceLT, Nat.reduceLeDiff, Nat.reduceAdd, reduceCtorEq, Nat.reduceMul, pw]; refine (rtakeP_spec g l q _ ho hl).to fun v σ4 hv => ?_; unfold RdL at hv; rw [hA] at hv; obtain ⟨rfl, hE, ho4, hf4⟩ := hv <;> (refine k' _ _ ?_; clear k' K'))
    all_goals iterate 6 (refine S.g rfl rfl fun K' k' => ?_; simp only [zz, reduceIte, Nat.reduceEqDiff, Nat.reduceLT, Nat.reduceLeDiff, Nat.reduceAdd, reduceCtorEq, Nat.reduceMul, zt24, ok24, sz24, ag24, pw]; refine k' _ _ ?_; clear k' K')
    all_goals refine S.nil ?_
    all_goals simp only [ze, reduceIte, Nat.reduceEqDiff, Nat.reduceLT, Nat.reduceLeDiff, Nat.reduceAdd, reduceCtorEq, Nat.reduceMul, pw]
    all_goals apply_assumption
    have hg4 : σ4.obj g = some [.sl ((l.drop q4).map encT)] := ho4
    refine AW.seq_k fun K11 h11 => ?_
    refine AW.seq_k fun K12 h12 => ?_
    all_goals refine AW.reg0 ?_
    all_goals iterate 2 (refine S.g rfl rfl fun K' k' => ?_; simp only [zz, reduceIte, Nat.reduceEqDiff, Nat.reduceAdd]; refine k' _ _ ?_; clear k' K')
    all_goals refine S.nil ?_
    all_goals simp only [ze, reduceIte, Nat.reduceEqDiff, Nat.reduceLT, Nat.reduceLeDiff, Nat.reduceAdd, reduceCtorEq, Nat.reduceMul]
    all_goals apply_assumption
    refine AW.cond (b := true) (by simp [ev]) (fun hc => ?_) (fun hc => by cases hc)
    all_goals refine AW.reg0 ?_
    all_goals (refine S.g rfl rfl fun K' k' => ?_; simp only [zz, reduceIte, Nat.reduceEqDiff, Nat.reduceLT, Nat.reduceLeDiff, Nat.reduceAdd, reduceCtorEq, Nat.reduceMul, ok24, sz24, ag24, pw]; refine k' _ _ ?_; clear k' K')
    all_goals (refine S.g rfl rfl fun K' k' => ?_; simp only [zz, reduceIte, Nat.reduceEqDiff, Nat.reduceLT, Nat.reduceLeDiff, Nat.reduceAdd, reduceCtorEq, Nat.reduceMul, pw]; refine PCalls.eqto (rcheck_part _ hE) ?_ <;> (refine k' _ _ ?_; clear k' K'))
    all_goals (refine S.g rfl rfl fun K' k' => ?_; simp only [zz, reduceIte, Nat.reduceEqDiff, Nat.reduceAdd, pw]; refine k' _ _ ?_; clear k' K')
    all_goals refine S.nil ?_
    all_goals simp only [ze, reduceIte, Nat.reduceEqDiff, Nat.reduceLT, Nat.reduceLeDiff, Nat.reduceAdd, reduceCtorEq, Nat.reduceMul, pw]
    all_goals apply_assumption
    have hee : (partErr a != 0) = decide (partErr a ≠ 0) := by rw [Bool.eq_iff_iff]; simp
    refine AW.seq_k fun K13 h13 => ?_
    refine AW.seq_k fun K14 h14 => ?_
    all_goals refine AW.reg0 ?_
    all_goals iterate 2 (refine S.g rfl rfl fun K' k' => ?_; simp only [zz, reduceIte, Nat.reduceEqDiff, Nat.reduceAdd, hee]; refine k' _ _ ?_; clear k' K')
    all_goals refine S.nil ?_
    all_goals simp only [ze, reduceIte, Nat.reduceEqDiff, Nat.reduceLT, Nat.reduceLeDiff, Nat.reduceAdd, reduceCtorEq, Nat.reduceMul, hee]
    all_goals apply_assumption
    refine AW.cond (b := decide (partErr a ≠ 0)) (by simp [ev]) (fun hc => ?_) (fun hc => ?_)
    · have he := of_decide_eq_true hc
      refine AW.seq_k fun K15 h15 => ?_
      all_goals refine AW.reg0 ?_
      all_goals iterate 4 (refine S.g rfl rfl fun K' k' => ?_; simp only [zz, reduceIte, Nat.reduceEqDiff, Nat.reduceLT, Nat.reduceLeDiff, Nat.reduceAdd, reduceCtorEq, Nat.reduceMul, ok89, sz89, ag89, hg4, map1s]; refine k' _ _ ?_; clear k' K')
      all_goals refine S.nil ?_
      all_goals simp only [ze, reduceIte, Nat.reduceEqDiff, Nat.reduceLT, Nat.reduceLeDiff, Nat.reduceAdd, reduceCtorEq, Nat.reduceMul, hg4, map1s]
      all_goals apply_assumption
      refine AW.seq_k fun K16 h16 => ?_
      all_goals refine AW.reg0 ?_
      all_goals (refine S.g rfl rfl fun K' k' => ?_; simp only [zz, reduceIte, Nat.reduceEqDiff, Nat.reduceLT, Nat.reduceLeDiff, Nat.reduceAdd, reduceCtorEq, Nat.reduceMul, zt24, pl24]; refine k' _ _ ?_; clear k' K')
      all_goals iterate 3 (refine S.g rfl rfl fun K' k' => ?_; simp only [zz, reduceIte, Nat.reduceEqDiff, Nat.reduceLT, Nat.reduceLeDiff, Nat.reduceAdd, reduceCtorEq, Nat.reduceMul, ok24, sz24, ag24]; refine k' _ _ ?_; clear k' K')
      all_goals refine S.nil ?_
      all_goals simp only [ze, reduceIte, Nat.reduceEqDiff, Nat.reduceLT, Nat.reduceLeDiff, Nat.reduceAdd, reduceCtorEq, Nat.reduceMul]
      all_goals apply_assumption
      refine AW.ret ?_
      all_goals simp only [zs, reduceIte, Nat.reduceEqDiff, Nat.reduceLT, Nat.reduceLeDiff, Nat.reduceAdd, reduceCtorEq, Nat.reduceMul, ok24, sz24, ag24, cut, List.drop_zero, List.take_succ_cons, List.take_zero]
      all_goals simp only [zz, Bool.false_eq_true, if_true, reduceIte, not_false_eq_true, true_and]
      unfold RdT
      rw [hB, chkP, if_neg he]
      exact ⟨by simp [wk, wk1], he, by simp [rsC], hf4.setb⟩
    · have he : partErr a = 0 := by simpa using of_decide_eq_false hc
      refine AW.skip ?_
      all_goals simp only [zs, reduceIte, Nat.reduceEqDiff, Nat.reduceLT, Nat.reduceLeDiff, Nat.reduceAdd, reduceCtorEq, Nat.reduceMul]
      all_goals apply_assumption
      refine AW.seq_k fun K17 h17 => ?_
      all_goals refine AW.reg0 ?_
      all_goals iterate 3 (refine S.g rfl rfl fun K' k' => ?_; simp only [zz, reduceIte, Nat.reduceEqDiff, Nat.reduceLT, Nat.reduceLeDiff, Nat.reduceAdd, reduceCtorEq, Nat.reduceMul, ok24, sz24, ag24]; refine k' _ _ ?_; clear k' K')
      all_goals refine S.nil ?_
      all_goals simp only [ze, reduceIte, Nat.reduceEqDiff, Nat.reduceLT, Nat.reduceLeDiff, Nat.reduceAdd, reduceCtorEq, Nat.reduceMul]
      all_goals apply_assumption
      refine AW.ret ?_
      all_goals simp only [zs, reduceIte, Nat.reduceEqDiff, Nat.reduceLT, Nat.reduceLeDiff, Nat.reduceAdd, reduceCtorEq, Nat.reduceMul, ok24, sz24, ag24, cut, List.drop_zero, List.take_succ_cons, List.take_zero]
      all_goals simp only [zz, Bool.false_eq_true, if_true, reduceIte, not_false_eq_true, true_and]
      unfold RdT
      rw [hB, chkP, if_pos he]
      exact ⟨by simp [wk, wk1], hE, ho4, hf4⟩
theorem At_L {α : Type} (b : List Nat) (q : Nat) (p : Prs α) : At b q 0 p = AtL (unB b) q p := rfl
theorem rParse_spec (b : List Nat) (hb : b.length < 68719476736) (hb256 : ∀ x ∈ b, x < 256) : PCalls Try.prog 55 [.sl (b.map encB)] (fun v => v = parV (parseP b) ∧ ∀ l, parseP b = .ok l → okP l) := by
  refine PCalls.intro Try.call55 Try.func55 rfl Try.ntmps55 Try.results55 (by simp) ?_
  have hlen : (unB b).length < 1099511627776 := by rw [unB_len]; omega
  refine AW.seq_k fun K1 h1 => ?_
  all_goals refine AW.reg0 ?_
  all_goals iterate 2 (refine S.g rfl rfl fun K' k' => ?_; simp only [zz, reduceIte, Nat.reduceEqDiff, Nat.reduceLT, Nat.reduceLeDiff, Nat.reduceAdd, reduceCtorEq, Nat.reduceMul, zt24]; refine k' _ _ ?_; clear k' K')
  all_goals refine S.nil ?_
  all_goals simp only [ze, reduceIte, Nat.reduceEqDiff, Nat.reduceLT, Nat.reduceLeDiff, Nat.reduceAdd, reduceCtorEq, Nat.reduceMul]
  all_goals apply_assumption
  refine AW.seq_k fun K2 h2 => ?_
  all_goals refine AW.reg0 ?_
  all_goals (refine S.g rfl rfl fun K' k' => ?_; simp only [zz, reduceIte, Nat.reduceEqDiff, Nat.reduceAdd]; refine k' _ _ ?_; clear k' K')
  all_goals (refine S.g rfl rfl fun K' k' => ?_; simp only [zz, reduceIte, Nat.reduceEqDiff, Nat.reduceLT, Nat.reduceLeDiff, Nat.reduceAdd, reduceCtorEq, Nat.reduceMul]; refine (New_spec b hb hb256 _).to fun v σ2 hv => ?_; obtain ⟨g, rfl, hg, hσ⟩ := hv <;> (refine k' _ _ ?_; clear k' K'))
  all_goals (refine S.g rfl rfl fun K' k' => ?_; simp only [zz, reduceIte, Nat.reduceEqDiff, Nat.reduceAdd]; refine k' _ _ ?_; clear k' K')
  all_goals refine S.nil ?_
  all_goals simp only [ze, reduceIte, Nat.reduceEqDiff, Nat.reduceLT, Nat.reduceLeDiff, Nat.reduceAdd, reduceCtorEq, Nat.reduceMul]
  all_goals apply_assumption
  have ho2 : σ2.obj g = some (rsC ((unB b).drop 0)) := by rw [hσ]; simp [rsC]
  unfold parseP
  rw [At_L]
  rcases hA : AtL (unB b) 0 partQ with e | ⟨l, q4⟩
  · skip
    refine AW.seq_k fun K3 h3 => ?_
    all_goals refine AW.reg0 ?_
    all_goals (refine S.g rfl rfl fun K' k' => ?_; simp only [zz, reduceIte, Nat.reduceEqDiff, Nat.reduceAdd, pw]; refine k' _ _ ?_; clear k' K')
    all_goals (refine S.g rfl rfl fun K' k' => ?_; simp only [zz, reduceIte, Nat.reduceEqDiff, Nat.reduceLT, Nat.reduceLeDiff, Nat.reduceAdd, reduceCtorEq, Nat.reduceMul, pw]; refine (rTakeP_spec g (unB b) 0 _ ho2 hlen).to fun v σ4 hv => ?_; unfold RdT at hv; rw [hA] at hv; obtain ⟨rfl, he, ho4, hf4⟩ := hv <;> (refine k' _ _ ?_; clear k' K'))
    all_goals iterate 6 (refine S.g rfl rfl fun K' k' => ?_; simp only [zz, reduceIte, Nat.reduceEqDiff, Nat.reduceLT, Nat.reduceLeDiff, Nat.reduceAdd, reduceCtorEq, Nat.reduceMul, zt24, ok24, sz24, ag24, pw]; refine k' _ _ ?_; clear k' K')
    all_goals refine S.nil ?_
    all_goals simp only [ze, reduceIte, Nat.reduceEqDiff, Nat.reduceLT, Nat.reduceLeDiff, Nat.reduceAdd, reduceCtorEq, Nat.reduceMul, pw]
    all_goals apply_assumption
    refine AW.seq_k fun K4 h4 => ?_
    refine AW.seq_k fun K5 h5 => ?_
    all_goals refine AW.reg0 ?_
    all_goals iterate 2 (refine S.g rfl rfl fun K' k' => ?_; simp only [zz, reduceIte, Nat.reduceEqDiff, Nat.reduceAdd]; refine k' _ _ ?_; clear k' K')
    all_goals refine S.nil ?_
    all_goals simp only [ze, reduceIte, Nat.reduceEqDiff, Nat.reduceLT, Nat.reduceLeDiff, Nat.reduceAdd, reduceCtorEq, Nat.reduceMul]
    all_goals apply_assumption
    refine AW.cond (b := false) (by simp [ev, he]) (fun hc => by cases hc) (fun hc => ?_)
    refine AW.skip ?_
    all_goals simp only [zs, reduceIte, Nat.reduceEqDiff, Nat.reduceLT, Nat.reduceLeDiff, Nat.reduceAdd, reduceCtorEq, Nat.reduceMul]
    all_goals apply_assumption
    refine AW.seq_k fun K6 h6 => ?_
    refine AW.seq_k fun K7 h7 => ?_
    all_goals refine AW.reg0 ?_
    all_goals iterate 2 (refine S.g rfl rfl fun K' k' => ?_; simp only [zz, reduceIte, Nat.reduceEqDiff, Nat.reduceAdd]; refine k' _ _ ?_; clear k' K')
    all_goals refine S.nil ?_
    all_goals simp only [ze, reduceIte, Nat.reduceEqDiff, Nat.reduceLT, Nat.reduceLeDiff, Nat.reduceAdd, reduceCtorEq, Nat.reduceMul]
    all_goals apply_assumption
    refine AW.cond (b := true) (by simp [ev, he]) (fun hc => ?_) (fun hc => by cases hc)
    refine AW.seq_k fun K8 h8 => ?_
    all_goals refine AW.reg0 ?_
    all_goals (refine S.g rfl rfl fun K' k' => ?_; simp only [zz, reduceIte, Nat.reduceEqDiff, Nat.reduceLT, Nat.reduceLeDiff, Nat.reduceAdd, reduceCtorEq, Nat.reduceMul, zt24, pl24]; refine k' _ _ ?_; clear k' K')
    all_goals iterate 3 (refine S.g rfl rfl fun K' k' => ?_; simp only [zz, reduceIte, Nat.reduceEqDiff, Nat.reduceLT, Nat.reduceLeDiff, Nat.reduceAdd, reduceCtorEq, Nat.reduceMul, ok24, sz24, ag24]; refine k' _ _ ?_; clear k' K')
    all_goals refine S.nil ?_
    all_goals simp only [ze, reduceIte, Nat.reduceEqDiff, Nat.reduceLT, Nat.reduceLeDiff, Nat.reduceAdd, reduceCtorEq, Nat.reduceMul]
    all_goals apply_assumption
    refine AW.bare ?_
    refine AW.ret ?_
    all_goals simp only [zs, reduceIte, Nat.reduceEqDiff, Nat.reduceLT, Nat.reduceLeDiff, Nat.reduceAdd, reduceCtorEq, Nat.reduceMul, ok24, sz24, ag24, cut, List.drop_zero, List.take_succ_cons, List.take_zero]
    all_goals simp only [zz, Bool.false_eq_true, if_true, reduceIte, not_false_eq_true, true_and]
    (first | exact ⟨by simp [wk, wk1, parV], fun l h => by cases h⟩ | simp [wk, wk1, parV])
  · skip
    refine AW.seq_k fun K9 h9 => ?_
    all_goals refine AW.reg0 ?_
    all_goals (refine S.g rfl rfl fun K' k' => ?_; simp only [zz, reduceIte, Nat.reduceEqDiff, Nat.reduceAdd, pw]; refine k' _ _ ?_; clear k' K')
    all_goals (refine S.g rfl rfl fun K' k' => ?_; simp only [zz, reduceIte, Nat.reduceEqDiff, Nat.reduceLT, Nat.reduceLeDiff, Nat.reduceAdd, reduceCtorEq, Nat.reduceMul, pw]; refine (rTakeP_spec g (unB b) 0 _ ho2 hlen).to fun v σ4 hv => ?_; unfold RdT at hv; rw [hA] at hv; obtain ⟨rfl, hl, ho4, hf4⟩ := hv <;> (refine k' _ _ ?_; clear k' K'))
    all_goals iterate 6 (refine S.g rfl rfl fun K' k' => ?_; simp only [zz, reduceIte, Nat.reduceEqDiff, Nat.reduceLT, Nat.reduceLeDiff, Nat.reduceAdd, reduceCtorEq, Nat.reduceMul, zt24, ok24, sz24, ag24, pw]; refine k' _ _ ?_; clear k' K')
    all_goals refine S.nil ?_
    all_goals simp only [ze, reduceIte, Nat.reduceEqDiff, Nat.reduceLT, Nat.reduceLeDiff, Nat.reduceAdd, reduceCtorEq, Nat.reduceMul, pw]
    all_goals apply_assumption
    refine AW.seq_k fun K10 h10 => ?_
    refine AW.seq_k fun K11 h11 => ?_
    all_goals refine AW.reg0 ?_
    all_goals iterate 2 (refine S.g rfl rfl fun K' k' => ?_; simp only [zz, reduceIte, Nat.reduceEqDiff, Nat.reduceAdd]; refine k' _ _ ?_; clear k' K')
    all_goals refine S.nil ?_
    all_goals simp only [ze, reduceIte, Nat.reduceEqDiff, Nat.reduceLT, Nat.reduceLeDiff, Nat.reduceAdd, reduceCtorEq, Nat.reduceMul]
    all_goals apply_assumption
    refine AW.cond (b := true) (by simp [ev]) (fun hc => ?_) (fun hc => by cases hc)
    all_goals refine AW.reg0 ?_
    all_goals (refine S.g rfl rfl fun K' k' => ?_; simp only [zz, reduceIte, Nat.reduceEqDiff, Nat.reduceAdd, pw]; refine k' _ _ ?_; clear k' K')
    all_goals (refine S.g rfl rfl fun K' k' => ?_; simp only [zz, reduceIte, Nat.reduceEqDiff, Nat.reduceLT, Nat.reduceLeDiff, Nat.reduceAdd, reduceCtorEq, Nat.reduceMul, pw]; refine (rEnd_spec g _ _ ho4 (by rw [List.length_drop]; omega)).to fun v σ5 hv => ?_; obtain ⟨rfl, hσ5⟩ := hv; subst hσ5 <;> (refine k' _ _ ?_; clear k' K'))
    all_goals (refine S.g rfl rfl fun K' k' => ?_; simp only [zz, reduceIte, Nat.reduceEqDiff, Nat.reduceAdd, pw]; refine k' _ _ ?_; clear k' K')
    all_goals refine S.nil ?_
    all_goals simp only [ze, reduceIte, Nat.reduceEqDiff, Nat.reduceLT, Nat.reduceLeDiff, Nat.reduceAdd, reduceCtorEq, Nat.reduceMul, pw]
    all_goals apply_assumption
    have hee : (endP ((unB b).drop q4) != 0) = decide (endP ((unB b).drop q4) ≠ 0) := by rw [Bool.eq_iff_iff]; simp
    refine AW.seq_k fun K12 h12 => ?_
    refine AW.seq_k fun K13 h13 => ?_
    all_goals refine AW.reg0 ?_
    all_goals iterate 2 (refine S.g rfl rfl fun K' k' => ?_; simp only [zz, reduceIte, Nat.reduceEqDiff, Nat.reduceAdd, hee]; refine k' _ _ ?_; clear k' K')
    all_goals refine S.nil ?_
    all_goals simp only [ze, reduceIte, Nat.reduceEqDiff, Nat.reduceLT, Nat.reduceLeDiff, Nat.reduceAdd, reduceCtorEq, Nat.reduceMul, hee]
    all_goals apply_assumption
    refine AW.cond (b := decide (endP ((unB b).drop q4) ≠ 0)) (by simp [ev]) (fun hc => ?_) (fun hc => ?_)
    · have hc := of_decide_eq_true hc
      refine AW.seq_k fun K14 h14 => ?_
      all_goals refine AW.reg0 ?_
      all_goals (refine S.g rfl rfl fun K' k' => ?_; simp only [zz, reduceIte, Nat.reduceEqDiff, Nat.reduceLT, Nat.reduceLeDiff, Nat.reduceAdd, reduceCtorEq, Nat.reduceMul, zt24, pl24]; refine k' _ _ ?_; clear k' K')
      all_goals iterate 3 (refine S.g rfl rfl fun K' k' => ?_; simp only [zz, reduceIte, Nat.reduceEqDiff, Nat.reduceLT, Nat.reduceLeDiff, Nat.reduceAdd, reduceCtorEq, Nat.reduceMul, ok24, sz24, ag24]; refine k' _ _ ?_; clear k' K')
      all_goals refine S.nil ?_
      all_goals simp only [ze, reduceIte, Nat.reduceEqDiff, Nat.reduceLT, Nat.reduceLeDiff, Nat.reduceAdd, reduceCtorEq, Nat.reduceMul]
      all_goals apply_assumption
      refine AW.bare ?_
      refine AW.ret ?_
      all_goals simp only [zs, reduceIte, Nat.reduceEqDiff, Nat.reduceLT, Nat.reduceLeDiff, Nat.reduceAdd, reduceCtorEq, Nat.reduceMul, ok24, sz24, ag24, cut, List.drop_zero, List.take_succ_cons, List.take_zero]
      all_goals simp only [zz, Bool.false_eq_true, if_true, reduceIte, not_false_eq_true, true_and]
      rw [if_neg hc]
      (first | exact ⟨by simp [wk, wk1, parV], fun l h => by cases h⟩ | simp [wk, wk1, parV])
    · have hc : endP ((unB b).drop q4) = 0 := by simpa using of_decide_eq_false hc
      refine AW.skip ?_
      all_goals simp only [zs, reduceIte, Nat.reduceEqDiff, Nat.reduceLT, Nat.reduceLeDiff, Nat.reduceAdd, reduceCtorEq, Nat.reduceMul]
      all_goals apply_assumption
      refine AW.seq_k fun K15 h15 => ?_
      all_goals refine AW.reg0 ?_
      all_goals iterate 3 (refine S.g rfl rfl fun K' k' => ?_; simp only [zz, reduceIte, Nat.reduceEqDiff, Nat.reduceLT, Nat.reduceLeDiff, Nat.reduceAdd, reduceCtorEq, Nat.reduceMul, ok24, sz24, ag24]; refine k' _ _ ?_; clear k' K')
      all_goals refine S.nil ?_
      all_goals simp only [ze, reduceIte, Nat.reduceEqDiff, Nat.reduceLT, Nat.reduceLeDiff, Nat.reduceAdd, reduceCtorEq, Nat.reduceMul]
      all_goals apply_assumption
      refine AW.bare ?_
      refine AW.ret ?_
      all_goals simp only [zs, reduceIte, Nat.reduceEqDiff, Nat.reduceLT, Nat.reduceLeDiff, Nat.reduceAdd, reduceCtorEq, Nat.reduceMul, ok24, sz24, ag24, cut, List.drop_zero, List.take_succ_cons, List.take_zero]
      all_goals simp only [zz, Bool.false_eq_true, if_true, reduceIte, not_false_eq_true, true_and]
      rw [if_pos hc]
      exact ⟨by simp [wk, wk1, parV], fun l h => by cases h; exact hl⟩
end Go.Abs.M
namespace Go.Abs.M
open Go Go.Abs Go.Proofs
set_option maxRecDepth 20000
set_option linter.unusedSimpArgs false
set_option linter.unusedVariables false
theorem partQ_ok {b : List Nat} {q q' : Nat} {l : List Bd} (h : At b q 0 partQ = .ok (l, q')) : partErr l = 0 ∧ l.length ≤ 12 := by
  rw [At_L, AtL_part] at h
  cases hp : AtL (unB b) q partR0 with
  | error e => rw [hp] at h; cases h
  | ok x =>
    obtain ⟨a, c⟩ := x
    rw [hp] at h
    simp only [] at h
    unfold chkP at h
    by_cases hz : partErr a = 0
    · rw [if_pos hz] at h
      injection h with h
      injection h with h1 h2
      subst h1
      refine ⟨hz, ?_⟩
      unfold partErr at hz
      split at hz
      · cases hz
      · omega
    · rw [if_neg hz] at h; cases h
def okR (l : List Bd) : Prop := l.length < 4611686018427387904 ∧ ∀ b ∈ l, b.ev.attrs.length < 4611686018427387904
theorem okR_nil : okR [] := ⟨by simp, fun x h => absurd h List.not_mem_nil⟩
theorem okR_of {l : List Bd} (h1 : l.length ≤ 12) (h2 : okP l) : okR l := ⟨by omega, fun b hb => (h2 b hb).ev.len⟩
/-- What a taking comes to. -/
def Res (b : List Nat) (n : Nat) (l : List Bd) (e : Int) (q : Nat) : Prop := (At b n 0 partQ = .ok (l, q) ∧ e = 0) ∨ (At b n 0 partQ = .error e ∧ l = [] ∧ q = n)
theorem Res.ex (b : List Nat) (n : Nat) : ∃ l e q, Res b n l e q := by
  cases h : At b n 0 partQ with
  | ok x => exact ⟨x.1, 0, x.2, .inl ⟨h, rfl⟩⟩
  | error e => exact ⟨[], e, n, .inr ⟨h, rfl, rfl⟩⟩
theorem TkP.res {g n q : Nat} {b : List Nat} {σ σ' : Hp} {v : V} {l : List Bd} {e : Int} (h : TkP g b n σ v σ') (hr : Res b n l e q) (hn : n ≤ 8 * b.length) :
    v = .tup [.agg [.sl (l.map encBd)], .c (.int .i64 e)] ∧ σ'.obj g = some (srcC b q) ∧ q ≤ 8 * b.length ∧ okR l ∧ Fr2 g g σ σ' := by
  unfold TkP at h
  rcases hr with ⟨h1, rfl⟩ | ⟨h1, rfl, rfl⟩
  · rw [h1] at h
    obtain ⟨h2, h3, h4, h5, h6⟩ := h
    exact ⟨h2, h3, h4, okR_of (partQ_ok h1).2 h5, h6⟩
  · rw [h1] at h
    obtain ⟨h2, h3, h4, h5⟩ := h
    exact ⟨h2, h4, hn, okR_nil, h5⟩
theorem RdT.res {g n q : Nat} {b : List Nat} {σ σ' : Hp} {v : V} {l : List Bd} {e : Int} (h : RdT g (unB b) n (fun a => .agg [.sl (a.map encBd)]) (.agg [.sl []]) okP partQ σ v σ') (hr : Res b n l e q) :
    v = .tup [.agg [.sl (l.map encBd)], .c (.int .i64 e)] ∧ σ'.obj g = some (rsC ((unB b).drop q)) ∧ Fr2 g g σ σ' := by
  unfold RdT at h
  unfold Res at hr
  rw [At_L] at hr
  rcases hr with ⟨h1, rfl⟩ | ⟨h1, rfl, rfl⟩
  · rw [h1] at h
    obtain ⟨h2, h3, h4, h5⟩ := h
    exact ⟨h2, h4, h5⟩
  · rw [h1] at h
    obtain ⟨h2, h3, h4, h5⟩ := h
    exact ⟨h2, h4, h5⟩
theorem parseP_ok {b : List Nat} {l : List Bd} (h : parseP b = .ok l) : partErr l = 0 ∧ l.length ≤ 12 := by
  unfold parseP at h
  cases hA : At b 0 0 partQ with
  | error e => rw [hA] at h; cases h
  | ok x =>
    obtain ⟨a, q⟩ := x
    rw [hA] at h
    simp only [] at h
    split at h
    · injection h with h; subst h; exact partQ_ok hA
    · cases h
/-- What a parsing comes to. -/
theorem Parse_res {b : List Nat} {v : V} (h : v = parV (parseP b) ∧ ∀ l, parseP b = .ok l → okP l) {lp : List Bd} {ep : Int} (hp : parV (parseP b) = .tup [.agg [.sl (lp.map encBd)], .c (.int .i64 ep)]) : v = .tup [.agg [.sl (lp.map encBd)], .c (.int .i64 ep)] := by rw [h.1, hp]
theorem parV_ex (b : List Nat) : ∃ (lp : List Bd) (ep : Int), parV (parseP b) = .tup [.agg [.sl (lp.map encBd)], .c (.int .i64 ep)] ∧ ((lp = [] ∧ parseP b = .error ep) ∨ (ep = 0 ∧ parseP b = .ok lp)) := by
  cases h : parseP b with
  | ok l => exact ⟨l, 0, rfl, .inr ⟨rfl, rfl⟩⟩
  | error e => exact ⟨[], e, rfl, .inl ⟨rfl, rfl⟩⟩
theorem u8rem (c : Nat) : (c : Int).tmod 8 = ((c % 8 : Nat) : Int) := rfl
theorem law_reads (b : List Nat) (c : Nat) (hb : b.length < 68719476736) (hb256 : ∀ x ∈ b, x < 256) (hc : c < 256) : PCalls Try.prog 9 [.sl (b.map encB), .c (.int .u8 c)] (fun v => v = .c (.bool true)) := by
  obtain ⟨lp, ep, hp, hpp⟩ := parV_ex b
  obtain ⟨l, e, q, hres⟩ := Res.ex b (c % 8)
  have hlen : (unB b).length < 1099511627776 := by rw [unB_len]; omega
  refine PCalls.intro Try.call9 Try.func9 rfl Try.ntmps9 Try.results9 (by simp) ?_
  refine AW.seq_k fun K1 h1 => ?_
  all_goals refine AW.reg0 ?_
  all_goals (refine S.g rfl rfl fun K' k' => ?_; simp only [zz, reduceIte, Nat.reduceEqDiff, Nat.reduceAdd]; refine k' _ _ ?_; clear k' K')
  all_goals refine S.nil ?_
  all_goals simp only [ze, reduceIte, Nat.reduceEqDiff, Nat.reduceLT, Nat.reduceLeDiff, Nat.reduceAdd, reduceCtorEq, Nat.reduceMul]
  all_goals apply_assumption
  refine AW.seq_k fun K2 h2 => ?_
  all_goals refine AW.reg0 ?_
  all_goals (refine S.g rfl rfl fun K' k' => ?_; simp only [zz, reduceIte, Nat.reduceEqDiff, Nat.reduceAdd]; refine k' _ _ ?_; clear k' K')
  all_goals (refine S.g rfl rfl fun K' k' => ?_; simp only [zz, reduceIte, Nat.reduceEqDiff, Nat.reduceLT, Nat.reduceLeDiff, Nat.reduceAdd, reduceCtorEq, Nat.reduceMul]; refine PCalls.to (Parse_spec b (by omega) hb256) fun v hv => ?_; have hokp := hv.2; obtain rfl := Parse_res hv hp <;> (refine k' _ _ ?_; clear k' K'))
  all_goals iterate 6 (refine S.g rfl rfl fun K' k' => ?_; simp only [zz, reduceIte, Nat.reduceEqDiff, Nat.reduceLT, Nat.reduceLeDiff, Nat.reduceAdd, reduceCtorEq, Nat.reduceMul, zt24, ok24, sz24, ag24]; refine k' _ _ ?_; clear k' K')
  all_goals refine S.nil ?_
  all_goals simp only [ze, reduceIte, Nat.reduceEqDiff, Nat.reduceLT, Nat.reduceLeDiff, Nat.reduceAdd, reduceCtorEq, Nat.reduceMul]
  all_goals apply_assumption
  have hokl : okR lp := by
    rcases hpp with ⟨rfl, _⟩ | ⟨_, hpp⟩
    · exact okR_nil
    · exact okR_of (parseP_ok hpp).2 (hokp lp hpp)
  have hsp : PCalls Try.prog 14 [.agg [.sl (lp.map encBd)], .agg [.sl (lp.map encBd)]] (fun v => v = .c (.bool true)) := (rsame_part lp lp hokl.1 hokl.2).mono fun v hv => by rw [hv, allEq_refl eqBd_refl]
  refine AW.seq_k fun K3 h3 => ?_
  all_goals refine AW.reg0 ?_
  all_goals (refine S.g rfl rfl fun K' k' => ?_; simp only [zz, reduceIte, Nat.reduceEqDiff, Nat.reduceAdd]; refine k' _ _ ?_; clear k' K')
  all_goals (refine S.g rfl rfl fun K' k' => ?_; simp only [zz, reduceIte, Nat.reduceEqDiff, Nat.reduceLT, Nat.reduceLeDiff, Nat.reduceAdd, reduceCtorEq, Nat.reduceMul]; refine PCalls.to (rParse_spec b hb hb256) fun v hv => ?_; obtain rfl := Parse_res hv hp <;> (refine k' _ _ ?_; clear k' K'))
  all_goals iterate 6 (refine S.g rfl rfl fun K' k' => ?_; simp only [zz, reduceIte, Nat.reduceEqDiff, Nat.reduceLT, Nat.reduceLeDiff, Nat.reduceAdd, reduceCtorEq, Nat.reduceMul, zt24, ok24, sz24, ag24]; refine k' _ _ ?_; clear k' K')
  all_goals refine S.nil ?_
  all_goals simp only [ze, reduceIte, Nat.reduceEqDiff, Nat.reduceLT, Nat.reduceLeDiff, Nat.reduceAdd, reduceCtorEq, Nat.reduceMul]
  all_goals apply_assumption
  refine AW.seq_k fun K4 h4 => ?_
  all_goals refine AW.reg0 ?_
  all_goals (refine S.g rfl rfl fun K' k' => ?_; simp only [zz, reduceIte, Nat.reduceEqDiff, Nat.reduceAdd]; refine k' _ _ ?_; clear k' K')
  all_goals (refine S.g rfl rfl fun K' k' => ?_; simp only [zz, reduceIte, Nat.reduceEqDiff, Nat.reduceLT, Nat.reduceLeDiff, Nat.reduceAdd, reduceCtorEq, Nat.reduceMul]; refine (NewSource_spec b (by omega) _).to fun v σ1 hv => ?_; obtain ⟨g, rfl, hg, hσ1⟩ := hv <;> (refine k' _ _ ?_; clear k' K'))
  all_goals (refine S.g rfl rfl fun K' k' => ?_; simp only [zz, reduceIte, Nat.reduceEqDiff, Nat.reduceAdd]; refine k' _ _ ?_; clear k' K')
  all_goals (refine S.g rfl rfl fun K' k' => ?_; simp only [zz, reduceIte, Nat.reduceEqDiff, Nat.reduceLT, Nat.reduceLeDiff, Nat.reduceAdd, reduceCtorEq, Nat.reduceMul]; refine (New_spec b hb hb256 _).to fun v σ2 hv => ?_; obtain ⟨r, rfl, hr, hσ2⟩ := hv <;> (refine k' _ _ ?_; clear k' K'))
  all_goals iterate 2 (refine S.g rfl rfl fun K' k' => ?_; simp only [zz, reduceIte, Nat.reduceEqDiff, Nat.reduceAdd]; refine k' _ _ ?_; clear k' K')
  all_goals refine S.nil ?_
  all_goals simp only [ze, reduceIte, Nat.reduceEqDiff, Nat.reduceLT, Nat.reduceLeDiff, Nat.reduceAdd, reduceCtorEq, Nat.reduceMul]
  all_goals apply_assumption
  have hs1 : σ1.obj g = some (srcC b 0) := by rw [hσ1]; simp
  have hgr : g ≠ r := fun e => by rw [e, hr] at hs1; cases hs1
  have hs2 : σ2.obj g = some (srcC b 0) := by rw [hσ2]; simp [hgr, hs1]
  have hr2 : σ2.obj r = some (rsC (unB b)) := by rw [hσ2]; simp [rsC]
  clear hσ1 hσ2 hr hg hs1
  have hne : (ep != ep) = false := by simp
  refine AW.seq_k fun K5 h5 => ?_
  refine AW.seq_k fun K6 h6 => ?_
  all_goals refine AW.reg0 ?_
  all_goals (refine S.g rfl rfl fun K' k' => ?_; simp only [zz, reduceIte, Nat.reduceEqDiff, Nat.reduceLT, Nat.reduceLeDiff, Nat.reduceAdd, reduceCtorEq, Nat.reduceMul, pw, ptrV, un4, un82, TypeDesc.pointer.injEq, hne]; refine PCalls.eqto begun_spec ?_; refine S.bool fun b a28 => ?_; cases b <;> (try (exfalso; first | exact Bool.noConfusion a28 | (have h := of_decide_eq_true a28; omega) | (have h := of_decide_eq_false a28; omega))) <;> (refine k' _ _ ?_; clear k' K'))
  all_goals iterate 2 (refine S.g rfl rfl fun K' k' => ?_; simp only [zz, reduceIte, Nat.reduceEqDiff, Nat.reduceAdd, pw, ptrV, un4, un82, TypeDesc.pointer.injEq, hne]; refine k' _ _ ?_; clear k' K')
  all_goals (first | (refine S.y rfl rfl rfl rfl fun K' k' => ?_; simp only [zz, reduceIte, Nat.reduceEqDiff, Nat.reduceAdd, pw, ptrV, un4, un82, TypeDesc.pointer.injEq, hne]; refine k' _ _ ?_; clear k' K') | ((first | refine S.x rfl rfl rfl rfl fun K' k' => ?_ | refine S.u rfl rfl rfl rfl fun K' k' => ?_); simp only [ze, reduceIte, Nat.reduceEqDiff]; refine k' _ _ ?_; clear k' K'))
  all_goals (first | (refine S.y rfl rfl rfl rfl fun K' k' => ?_; simp only [zz, reduceIte, Nat.reduceEqDiff, Nat.reduceLT, Nat.reduceLeDiff, Nat.reduceAdd, reduceCtorEq, Nat.reduceMul, un82, pw, ptrV, un4, un82, TypeDesc.pointer.injEq, hne]; refine S.bool fun b a32 => ?_; cases b <;> (try (exfalso; first | exact Bool.noConfusion a32 | (have h := of_decide_eq_true a32; omega) | (have h := of_decide_eq_false a32; omega))) <;> (refine k' _ _ ?_; clear k' K')) | ((first | refine S.x rfl rfl rfl rfl fun K' k' => ?_ | refine S.u rfl rfl rfl rfl fun K' k' => ?_); simp only [ze, reduceIte, Nat.reduceEqDiff]; refine k' _ _ ?_; clear k' K'))
  all_goals iterate 2 (refine S.g rfl rfl fun K' k' => ?_; simp only [zz, reduceIte, Nat.reduceEqDiff, Nat.reduceAdd, pw, ptrV, un4, un82, TypeDesc.pointer.injEq, hne]; refine k' _ _ ?_; clear k' K')
  all_goals iterate 2 (first | (refine S.y rfl rfl rfl rfl fun K' k' => ?_; simp only [zz, reduceIte, Nat.reduceEqDiff, Nat.reduceLT, Nat.reduceLeDiff, Nat.reduceAdd, reduceCtorEq, Nat.reduceMul, ok24, sz24, ag24, pw, ptrV, un4, un82, TypeDesc.pointer.injEq, hne]; refine k' _ _ ?_; clear k' K') | ((first | refine S.x rfl rfl rfl rfl fun K' k' => ?_ | refine S.u rfl rfl rfl rfl fun K' k' => ?_); simp only [ze, reduceIte, Nat.reduceEqDiff]; refine k' _ _ ?_; clear k' K'))
  all_goals (first | (refine S.y rfl rfl rfl rfl fun K' k' => ?_; simp only [zz, reduceIte, Nat.reduceEqDiff, Nat.reduceLT, Nat.reduceLeDiff, Nat.reduceAdd, reduceCtorEq, Nat.reduceMul, pw, ptrV, un4, un82, TypeDesc.pointer.injEq, hne]; refine PCalls.eqto hsp ?_; refine S.bool fun b a37 => ?_; cases b <;> (try (exfalso; first | exact Bool.noConfusion a37 | (have h := of_decide_eq_true a37; omega) | (have h := of_decide_eq_false a37; omega))) <;> (refine k' _ _ ?_; clear k' K')) | ((first | refine S.x rfl rfl rfl rfl fun K' k' => ?_ | refine S.u rfl rfl rfl rfl fun K' k' => ?_); simp only [ze, reduceIte, Nat.reduceEqDiff]; refine k' _ _ ?_; clear k' K'))
  all_goals (first | (refine S.y rfl rfl rfl rfl fun K' k' => ?_; simp only [zz, reduceIte, Nat.reduceEqDiff, Nat.reduceAdd, pw, ptrV, un4, un82, TypeDesc.pointer.injEq, hne]; refine k' _ _ ?_; clear k' K') | ((first | refine S.x rfl rfl rfl rfl fun K' k' => ?_ | refine S.u rfl rfl rfl rfl fun K' k' => ?_); simp only [ze, reduceIte, Nat.reduceEqDiff]; refine k' _ _ ?_; clear k' K'))
  all_goals iterate 2 (refine S.g rfl rfl fun K' k' => ?_; simp only [zz, reduceIte, Nat.reduceEqDiff, Nat.reduceAdd, pw, ptrV, un4, un82, TypeDesc.pointer.injEq, hne]; refine k' _ _ ?_; clear k' K')
  all_goals iterate 3 (first | (refine S.y rfl rfl rfl rfl fun K' k' => ?_; simp only [zz, reduceIte, Nat.reduceEqDiff, Nat.reduceAdd, pw, ptrV, un4, un82, TypeDesc.pointer.injEq, hne]; refine k' _ _ ?_; clear k' K') | ((first | refine S.x rfl rfl rfl rfl fun K' k' => ?_ | refine S.u rfl rfl rfl rfl fun K' k' => ?_); simp only [ze, reduceIte, Nat.reduceEqDiff]; refine k' _ _ ?_; clear k' K'))
  all_goals (refine S.g rfl rfl fun K' k' => ?_; simp only [zz, reduceIte, Nat.reduceEqDiff, Nat.reduceAdd, pw, ptrV, un4, un82, TypeDesc.pointer.injEq, hne]; refine k' _ _ ?_; clear k' K')
  all_goals refine S.nil ?_
  all_goals simp only [ze, reduceIte, Nat.reduceEqDiff, Nat.reduceLT, Nat.reduceLeDiff, Nat.reduceAdd, reduceCtorEq, Nat.reduceMul, pw, ptrV, un4, un82, TypeDesc.pointer.injEq, hne]
  all_goals apply_assumption
  refine AW.cond (b := false) (by simp [ev]) (fun hc => by cases hc) (fun hc => ?_)
  refine AW.skip ?_
  all_goals simp only [zs, reduceIte, Nat.reduceEqDiff, Nat.reduceLT, Nat.reduceLeDiff, Nat.reduceAdd, reduceCtorEq, Nat.reduceMul]
  all_goals apply_assumption
  have hwc : IntKind.i64.wrap ((c % 8 : Nat) : Int) = ((c % 8 : Nat) : Int) := wrapI _ (by omega) (by omega)
  refine AW.seq_k fun K7 h7 => ?_
  all_goals refine AW.reg0 ?_
  all_goals iterate 4 (refine S.g rfl rfl fun K' k' => ?_; simp only [zz, reduceIte, Nat.reduceEqDiff, Nat.reduceAdd, cv5_3, u8rem, hwc, Int.reduceEq]; refine k' _ _ ?_; clear k' K')
  all_goals refine S.nil ?_
  all_goals simp only [ze, reduceIte, Nat.reduceEqDiff, Nat.reduceLT, Nat.reduceLeDiff, Nat.reduceAdd, reduceCtorEq, Nat.reduceMul, u8rem, hwc, Int.reduceEq]
  all_goals apply_assumption
  by_cases hin : 0 + c % 8 ≤ 8 * b.length
  · refine AW.seq_k fun K8 h8 => ?_
    refine AW.seq_k fun K9 h9 => ?_
    all_goals refine AW.reg0 ?_
    all_goals iterate 2 (refine S.g rfl rfl fun K' k' => ?_; simp only [zz, reduceIte, Nat.reduceEqDiff, Nat.reduceAdd, pw]; refine k' _ _ ?_; clear k' K')
    all_goals (refine S.g rfl rfl fun K' k' => ?_; simp only [zz, reduceIte, Nat.reduceEqDiff, Nat.reduceLT, Nat.reduceLeDiff, Nat.reduceAdd, reduceCtorEq, Nat.reduceMul, pw]; refine (sBits_spec g b 0 (c % 8) _ hs2 (by omega) hb256 (by omega) (by omega)).to fun v σ3 hv => ?_; (first | rw [if_pos hin] at hv | rw [if_neg hin] at hv); obtain ⟨rfl, hσ3⟩ := hv <;> (refine k' _ _ ?_; clear k' K'))
    all_goals iterate 5 (refine S.g rfl rfl fun K' k' => ?_; simp only [zz, reduceIte, Nat.reduceEqDiff, Nat.reduceLT, Nat.reduceLeDiff, Nat.reduceAdd, reduceCtorEq, Nat.reduceMul, pw]; refine k' _ _ ?_; clear k' K')
    all_goals refine S.nil ?_
    all_goals simp only [ze, reduceIte, Nat.reduceEqDiff, Nat.reduceLT, Nat.reduceLeDiff, Nat.reduceAdd, reduceCtorEq, Nat.reduceMul, pw]
    all_goals apply_assumption
    have hs3 : σ3.obj g = some (srcC b (c % 8)) := by rw [hσ3]; simp
    have hr3 : σ3.obj r = some (rsC (unB b)) := by rw [hσ3]; simp [hgr.symm, hr2]
    clear hσ3 hs2 hr2
    refine AW.seq_k fun K10 h10 => ?_
    all_goals refine AW.reg0 ?_
    all_goals iterate 2 (refine S.g rfl rfl fun K' k' => ?_; simp only [zz, reduceIte, Nat.reduceEqDiff, Nat.reduceAdd]; refine k' _ _ ?_; clear k' K')
    all_goals refine S.nil ?_
    all_goals simp only [ze, reduceIte, Nat.reduceEqDiff, Nat.reduceLT, Nat.reduceLeDiff, Nat.reduceAdd, reduceCtorEq, Nat.reduceMul]
    all_goals apply_assumption
    refine AW.cond (b := false) (by simp [ev]) (fun hc => by cases hc) (fun hc => ?_)
    refine AW.skip ?_
    all_goals simp only [zs, reduceIte, Nat.reduceEqDiff, Nat.reduceLT, Nat.reduceLeDiff, Nat.reduceAdd, reduceCtorEq, Nat.reduceMul]
    all_goals apply_assumption
    have hr3' : σ3.obj r = some [.sl ((unB b).map encT)] := hr3
    have hd8 : ((unB b).map encT).drop (c % 8) = ((unB b).drop (c % 8)).map encT := drop_map
    refine AW.seq_k fun K11 h11 => ?_
    all_goals refine AW.reg0 ?_
    all_goals iterate 6 (refine S.g rfl rfl fun K' k' => ?_; simp only [zz, reduceIte, Nat.reduceEqDiff, Nat.reduceLT, Nat.reduceLeDiff, Nat.reduceAdd, reduceCtorEq, Nat.reduceMul, of89_0, ok56, sz56, ag56, hr3', map1s, hd8, List.getD_cons_zero]; refine k' _ _ ?_; clear k' K')
    all_goals (refine S.g rfl rfl fun K' k' => ?_; simp only [zz, reduceIte, Nat.reduceEqDiff, Nat.reduceLT, Nat.reduceLeDiff, Nat.reduceAdd, reduceCtorEq, Nat.reduceMul, sl56, el56, ok4, sz4, ag4, hr3', map1s, hd8, List.getD_cons_zero]; refine ⟨by rw [unB_len]; omega, encT_len, ?_⟩; (try simp only [Int.toNat_natCast, ← List.map_drop, rest_map]) <;> (refine k' _ _ ?_; clear k' K'))
    all_goals iterate 3 (refine S.g rfl rfl fun K' k' => ?_; simp only [zz, reduceIte, Nat.reduceEqDiff, Nat.reduceLT, Nat.reduceLeDiff, Nat.reduceAdd, reduceCtorEq, Nat.reduceMul, of89_0, ok56, sz56, ag56, hr3', map1s, hd8, List.getD_cons_zero]; refine k' _ _ ?_; clear k' K')
    all_goals refine S.nil ?_
    all_goals simp only [ze, reduceIte, Nat.reduceEqDiff, Nat.reduceLT, Nat.reduceLeDiff, Nat.reduceAdd, reduceCtorEq, Nat.reduceMul, hr3', map1s, hd8, List.getD_cons_zero]
    all_goals apply_assumption
    have hr4 : (σ3.setObj r (some (rsC ((unB b).drop (c % 8))))).obj r = some (rsC ((unB b).drop (c % 8))) := by simp
    have hs4 : (σ3.setObj r (some (rsC ((unB b).drop (c % 8))))).obj g = some (srcC b (c % 8)) := by simp [hgr, hs3]
    clear hs3 hr3 hr3'
    refine AW.seq_k fun K12 h12 => ?_
    all_goals refine AW.reg0 ?_
    all_goals (refine S.g rfl rfl fun K' k' => ?_; simp only [zz, reduceIte, Nat.reduceEqDiff, Nat.reduceAdd, pw]; refine k' _ _ ?_; clear k' K')
    all_goals (refine S.g rfl rfl fun K' k' => ?_; simp only [zz, reduceIte, Nat.reduceEqDiff, Nat.reduceLT, Nat.reduceLeDiff, Nat.reduceAdd, reduceCtorEq, Nat.reduceMul, pw]; refine (Take_spec g b (c % 8) _ hs4 (by omega) hb256 (by omega)).to fun v σ5 hv => ?_; obtain ⟨rfl, hs5, hq5, hl5, hf5⟩ := hv.res hres (by omega) <;> (refine k' _ _ ?_; clear k' K'))
    all_goals iterate 5 (refine S.g rfl rfl fun K' k' => ?_; simp only [zz, reduceIte, Nat.reduceEqDiff, Nat.reduceLT, Nat.reduceLeDiff, Nat.reduceAdd, reduceCtorEq, Nat.reduceMul, ok24, sz24, ag24, pw]; refine k' _ _ ?_; clear k' K')
    all_goals refine S.nil ?_
    all_goals simp only [ze, reduceIte, Nat.reduceEqDiff, Nat.reduceLT, Nat.reduceLeDiff, Nat.reduceAdd, reduceCtorEq, Nat.reduceMul, pw]
    all_goals apply_assumption
    have hr5 : σ5.obj r = some (rsC ((unB b).drop (c % 8))) := hf5.obj _ _ hgr.symm hgr.symm hr4
    refine AW.seq_k fun K13 h13 => ?_
    all_goals refine AW.reg0 ?_
    all_goals (refine S.g rfl rfl fun K' k' => ?_; simp only [zz, reduceIte, Nat.reduceEqDiff, Nat.reduceAdd, pw]; refine k' _ _ ?_; clear k' K')
    all_goals (refine S.g rfl rfl fun K' k' => ?_; simp only [zz, reduceIte, Nat.reduceEqDiff, Nat.reduceLT, Nat.reduceLeDiff, Nat.reduceAdd, reduceCtorEq, Nat.reduceMul, pw]; refine (rTakeP_spec r (unB b) (c % 8) _ hr5 hlen).to fun v σ6 hv => ?_; obtain ⟨rfl, hr6, hf6⟩ := hv.res hres <;> (refine k' _ _ ?_; clear k' K'))
    all_goals iterate 5 (refine S.g rfl rfl fun K' k' => ?_; simp only [zz, reduceIte, Nat.reduceEqDiff, Nat.reduceLT, Nat.reduceLeDiff, Nat.reduceAdd, reduceCtorEq, Nat.reduceMul, ok24, sz24, ag24, pw]; refine k' _ _ ?_; clear k' K')
    all_goals refine S.nil ?_
    all_goals simp only [ze, reduceIte, Nat.reduceEqDiff, Nat.reduceLT, Nat.reduceLeDiff, Nat.reduceAdd, reduceCtorEq, Nat.reduceMul, pw]
    all_goals apply_assumption
    have hs6 : σ6.obj g = some (srcC b q) := hf6.obj _ _ hgr hgr hs5
    have hr6' : σ6.obj r = some [.sl (((unB b).drop q).map encT)] := hr6
    have hqq : ((8 * b.length - q : Nat) : Int) = (((unB b).drop q).length : Int) := by rw [List.length_drop, unB_len]
    have hsl : PCalls Try.prog 14 [.agg [.sl (l.map encBd)], .agg [.sl (l.map encBd)]] (fun v => v = .c (.bool true)) := (rsame_part l l hl5.1 hl5.2).mono fun v hv => by rw [hv, allEq_refl eqBd_refl]
    refine AW.seq_k fun K14 h14 => ?_
    all_goals refine AW.drawF (T := { sd := fun d => d == 5 || d == 7 }) (fun _ _ h => by cases h) mixedO (.st 0 1 (.st 1 1 (.st 2 2 (.st 3 0 (.st 4 0 (.st 5 0 (.st 6 0 (.st 7 0 (.st 8 0 (.st 9 0 (.st 11 0 (.st 12 0 (.st 13 0 (.fork 10 (.st 14 2 (.st 15 0 (.st 16 0 (.st 17 0 (.st 18 0 .nil))))) 14 (.st 15 0 (.st 10 2 (.st 16 0 (.st 17 0 (.st 18 0 .nil))))))))))))))))))) rfl (by kernel_rfl) (by kernel_rfl) ?_
    all_goals iterate 2 (refine F.g rfl (by first | rfl | (simp only [stC, ze, reduceIte, Nat.reduceEqDiff, pw, ptrV, hr6', map1s, hqq, beq_self_eq_true, List.getD_cons_zero]; done) | (simp only [stC, ze, reduceIte, Nat.reduceEqDiff, pw, ptrV, hr6', map1s, hqq, beq_self_eq_true, List.getD_cons_zero]; rfl)) rfl rfl fun K' k' => ?_; simp only [zz, reduceIte, Nat.reduceEqDiff, Nat.reduceLT, Nat.reduceLeDiff, Nat.reduceAdd, reduceCtorEq, Nat.reduceMul, ok24, sz24, ag24, pw, ptrV, hr6', map1s, hqq, beq_self_eq_true, List.getD_cons_zero]; refine k' _ _ ?_; clear k' K')
    all_goals (refine F.g rfl trivial rfl rfl fun K' k' => ?_; simp only [zz, reduceIte, Nat.reduceEqDiff, Nat.reduceLT, Nat.reduceLeDiff, Nat.reduceAdd, reduceCtorEq, Nat.reduceMul, pw, ptrV, hr6', map1s, hqq, beq_self_eq_true, List.getD_cons_zero]; refine PCalls.eqto hsl ?_; refine S.bool fun b a82 => ?_; cases b <;> (try (exfalso; first | exact Bool.noConfusion a82 | (have h := of_decide_eq_true a82; omega) | (have h := of_decide_eq_false a82; omega))) <;> (refine k' _ _ ?_; clear k' K'))
    all_goals (refine F.g rfl trivial rfl rfl fun K' k' => ?_; simp only [zz, reduceIte, Nat.reduceEqDiff, Nat.reduceAdd, pw, ptrV, hr6', map1s, hqq, beq_self_eq_true, List.getD_cons_zero]; refine k' _ _ ?_; clear k' K')
    all_goals iterate 2 (first | (refine F.y rfl trivial rfl rfl rfl rfl fun K' k' => ?_; simp only [zz, reduceIte, Nat.reduceEqDiff, Nat.reduceAdd, pw, ptrV, hr6', map1s, hqq, beq_self_eq_true, List.getD_cons_zero]; refine k' _ _ ?_; clear k' K') | ((first | refine F.x rfl (fun h => by cases h) rfl rfl rfl rfl fun K' k' => ?_ | refine F.u rfl (fun h => by cases h) rfl rfl rfl rfl fun K' k' => ?_); simp only [ze, reduceIte, Nat.reduceEqDiff]; refine k' _ _ ?_; clear k' K'))
    all_goals (first | (refine F.y rfl trivial rfl rfl rfl rfl fun K' k' => ?_; simp only [zz, reduceIte, Nat.reduceEqDiff, Nat.reduceLT, Nat.reduceLeDiff, Nat.reduceAdd, reduceCtorEq, Nat.reduceMul, pw, ptrV, hr6', map1s, hqq, beq_self_eq_true, List.getD_cons_zero]; refine S.bool fun b a86 => ?_; cases b <;> (try (exfalso; first | exact Bool.noConfusion a86 | (have h := of_decide_eq_true a86; omega) | (have h := of_decide_eq_false a86; omega))) <;> (refine k' _ _ ?_; clear k' K')) | ((first | refine F.x rfl (fun h => by cases h) rfl rfl rfl rfl fun K' k' => ?_ | refine F.u rfl (fun h => by cases h) rfl rfl rfl rfl fun K' k' => ?_); simp only [ze, reduceIte, Nat.reduceEqDiff]; refine k' _ _ ?_; clear k' K'))
    all_goals iterate 2 (refine F.g rfl trivial rfl rfl fun K' k' => ?_; simp only [zz, reduceIte, Nat.reduceEqDiff, Nat.reduceAdd, pw, ptrV, hr6', map1s, hqq, beq_self_eq_true, List.getD_cons_zero]; refine k' _ _ ?_; clear k' K')
    all_goals iterate 4 (first | (refine F.y rfl trivial rfl rfl rfl rfl fun K' k' => ?_; simp only [zz, reduceIte, Nat.reduceEqDiff, Nat.reduceLT, Nat.reduceLeDiff, Nat.reduceAdd, reduceCtorEq, Nat.reduceMul, of89_0, pw, ptrV, hr6', map1s, hqq, beq_self_eq_true, List.getD_cons_zero]; refine k' _ _ ?_; clear k' K') | ((first | refine F.x rfl (fun h => by cases h) rfl rfl rfl rfl fun K' k' => ?_ | refine F.u rfl (fun h => by cases h) rfl rfl rfl rfl fun K' k' => ?_); simp only [ze, reduceIte, Nat.reduceEqDiff]; refine k' _ _ ?_; clear k' K'))
    all_goals (try first | refine F.fork ?_ ?_ | refine F.fork3 ?_ ?_ ?_)
    all_goals first | (first | (refine F.y rfl trivial rfl rfl rfl rfl fun K' k' => ?_; simp only [zz, reduceIte, Nat.reduceEqDiff, Nat.reduceLT, Nat.reduceLeDiff, Nat.reduceAdd, reduceCtorEq, Nat.reduceMul, pw, ptrV, hr6', map1s, hqq, beq_self_eq_true, List.getD_cons_zero]; refine (left_spec g b q _ hs6 (by omega) hq5).to fun v σ7 hv => ?_; obtain ⟨rfl, hσ7⟩ := hv; subst hσ7 <;> (refine k' _ _ ?_; clear k' K')) | ((first | refine F.x rfl (fun h => by cases h) rfl rfl rfl rfl fun K' k' => ?_ | refine F.u rfl (fun h => by cases h) rfl rfl rfl rfl fun K' k' => ?_); simp only [ze, reduceIte, Nat.reduceEqDiff]; refine k' _ _ ?_; clear k' K')) | (first | (refine F.y rfl trivial rfl rfl rfl rfl fun K' k' => ?_; simp only [zz, reduceIte, Nat.reduceEqDiff, Nat.reduceLT, Nat.reduceLeDiff, Nat.reduceAdd, reduceCtorEq, Nat.reduceMul, ok56, sz56, ag56, pw, ptrV, hr6', map1s, hqq, beq_self_eq_true, List.getD_cons_zero]; refine k' _ _ ?_; clear k' K') | ((first | refine F.x rfl (fun h => by cases h) rfl rfl rfl rfl fun K' k' => ?_ | refine F.u rfl (fun h => by cases h) rfl rfl rfl rfl fun K' k' => ?_); simp only [ze, reduceIte, Nat.reduceEqDiff]; refine k' _ _ ?_; clear k' K'))
    all_goals first | (first | (refine F.y rfl trivial rfl rfl rfl rfl fun K' k' => ?_; simp only [zz, reduceIte, Nat.reduceEqDiff, Nat.reduceLT, Nat.reduceLeDiff, Nat.reduceAdd, reduceCtorEq, Nat.reduceMul, ok56, sz56, ag56, pw, ptrV, hr6', map1s, hqq, beq_self_eq_true, List.getD_cons_zero]; refine k' _ _ ?_; clear k' K') | ((first | refine F.x rfl (fun h => by cases h) rfl rfl rfl rfl fun K' k' => ?_ | refine F.u rfl (fun h => by cases h) rfl rfl rfl rfl fun K' k' => ?_); simp only [ze, reduceIte, Nat.reduceEqDiff]; refine k' _ _ ?_; clear k' K')) | (first | (refine F.y rfl trivial rfl rfl rfl rfl fun K' k' => ?_; simp only [zz, reduceIte, Nat.reduceEqDiff, Nat.reduceLT, Nat.reduceLeDiff, Nat.reduceAdd, reduceCtorEq, Nat.reduceMul, sl56, el56, ok4, sz4, ag4, pw, ptrV, hr6', map1s, hqq, beq_self_eq_true, List.getD_cons_zero]; refine k' _ _ ?_; clear k' K') | ((first | refine F.x rfl (fun h => by cases h) rfl rfl rfl rfl fun K' k' => ?_ | refine F.u rfl (fun h => by cases h) rfl rfl rfl rfl fun K' k' => ?_); simp only [ze, reduceIte, Nat.reduceEqDiff]; refine k' _ _ ?_; clear k' K'))
    all_goals first | (first | (refine F.y rfl trivial rfl rfl rfl rfl fun K' k' => ?_; simp only [zz, reduceIte, Nat.reduceEqDiff, Nat.reduceLT, Nat.reduceLeDiff, Nat.reduceAdd, reduceCtorEq, Nat.reduceMul, pw, ptrV, hr6', map1s, hqq, beq_self_eq_true, List.getD_cons_zero]; refine (left_spec g b q _ hs6 (by omega) hq5).to fun v σ7 hv => ?_; obtain ⟨rfl, hσ7⟩ := hv; subst hσ7 <;> (refine k' _ _ ?_; clear k' K')) | ((first | refine F.x rfl (fun h => by cases h) rfl rfl rfl rfl fun K' k' => ?_ | refine F.u rfl (fun h => by cases h) rfl rfl rfl rfl fun K' k' => ?_); simp only [ze, reduceIte, Nat.reduceEqDiff]; refine k' _ _ ?_; clear k' K')) | (first | (refine F.y rfl trivial rfl rfl rfl rfl fun K' k' => ?_; simp only [zz, reduceIte, Nat.reduceEqDiff, Nat.reduceLT, Nat.reduceLeDiff, Nat.reduceAdd, reduceCtorEq, Nat.reduceMul, sl56, el56, ok4, sz4, ag4, pw, ptrV, hr6', map1s, hqq, beq_self_eq_true, List.getD_cons_zero]; refine k' _ _ ?_; clear k' K') | ((first | refine F.x rfl (fun h => by cases h) rfl rfl rfl rfl fun K' k' => ?_ | refine F.u rfl (fun h => by cases h) rfl rfl rfl rfl fun K' k' => ?_); simp only [ze, reduceIte, Nat.reduceEqDiff]; refine k' _ _ ?_; clear k' K'))
    all_goals (first | (refine F.y rfl trivial rfl rfl rfl rfl fun K' k' => ?_; simp only [zz, reduceIte, Nat.reduceEqDiff, Nat.reduceAdd, pw, ptrV, hr6', map1s, hqq, beq_self_eq_true, List.getD_cons_zero]; refine k' _ _ ?_; clear k' K') | ((first | refine F.x rfl (fun h => by cases h) rfl rfl rfl rfl fun K' k' => ?_ | refine F.u rfl (fun h => by cases h) rfl rfl rfl rfl fun K' k' => ?_); simp only [ze, reduceIte, Nat.reduceEqDiff]; refine k' _ _ ?_; clear k' K'))
    all_goals iterate 2 (refine F.g rfl trivial rfl rfl fun K' k' => ?_; simp only [zz, reduceIte, Nat.reduceEqDiff, Nat.reduceAdd, pw, ptrV, hr6', map1s, hqq, beq_self_eq_true, List.getD_cons_zero]; refine k' _ _ ?_; clear k' K')
    all_goals refine F.nil ?_
    all_goals simp only [ze, reduceIte, Nat.reduceEqDiff, Nat.reduceLT, Nat.reduceLeDiff, Nat.reduceAdd, reduceCtorEq, Nat.reduceMul, pw, ptrV, hr6', map1s, hqq, beq_self_eq_true, List.getD_cons_zero]
    all_goals apply_assumption
    all_goals (refine AW.bare (AW.ret ?_))
    all_goals simp only [zs, reduceIte, Nat.reduceEqDiff, Nat.reduceLT, Nat.reduceLeDiff, Nat.reduceAdd, reduceCtorEq, Nat.reduceMul]
  · have hw8 : IntKind.i64.wrap (8 * (b.length : Int)) = ((8 * b.length : Nat) : Int) := by rw [wrap_small _ (by omega) (by omega)]; simp
    refine AW.seq_k fun K15 h15 => ?_
    refine AW.seq_k fun K16 h16 => ?_
    all_goals refine AW.reg0 ?_
    all_goals iterate 2 (refine S.g rfl rfl fun K' k' => ?_; simp only [zz, reduceIte, Nat.reduceEqDiff, Nat.reduceAdd, pw]; refine k' _ _ ?_; clear k' K')
    all_goals (refine S.g rfl rfl fun K' k' => ?_; simp only [zz, reduceIte, Nat.reduceEqDiff, Nat.reduceLT, Nat.reduceLeDiff, Nat.reduceAdd, reduceCtorEq, Nat.reduceMul, pw]; refine (sBits_spec g b 0 (c % 8) _ hs2 (by omega) hb256 (by omega) (by omega)).to fun v σ3 hv => ?_; (first | rw [if_pos hin] at hv | rw [if_neg hin] at hv); obtain ⟨rfl, hσ3⟩ := hv <;> (refine k' _ _ ?_; clear k' K'))
    all_goals iterate 5 (refine S.g rfl rfl fun K' k' => ?_; simp only [zz, reduceIte, Nat.reduceEqDiff, Nat.reduceLT, Nat.reduceLeDiff, Nat.reduceAdd, reduceCtorEq, Nat.reduceMul, pw]; refine k' _ _ ?_; clear k' K')
    all_goals refine S.nil ?_
    all_goals simp only [ze, reduceIte, Nat.reduceEqDiff, Nat.reduceLT, Nat.reduceLeDiff, Nat.reduceAdd, reduceCtorEq, Nat.reduceMul, pw]
    all_goals apply_assumption
    refine AW.seq_k fun K17 h17 => ?_
    all_goals refine AW.reg0 ?_
    all_goals iterate 2 (refine S.g rfl rfl fun K' k' => ?_; simp only [zz, reduceIte, Nat.reduceEqDiff, Nat.reduceAdd]; refine k' _ _ ?_; clear k' K')
    all_goals refine S.nil ?_
    all_goals simp only [ze, reduceIte, Nat.reduceEqDiff, Nat.reduceLT, Nat.reduceLeDiff, Nat.reduceAdd, reduceCtorEq, Nat.reduceMul]
    all_goals apply_assumption
    refine AW.cond (b := true) (by simp [ev]) (fun hc => ?_) (fun hc => by cases hc)
    refine AW.seq_k fun K18 h18 => ?_
    all_goals refine AW.reg0 ?_
    all_goals iterate 6 (refine S.g rfl rfl fun K' k' => ?_; simp only [zz, reduceIte, Nat.reduceEqDiff, Nat.reduceLT, Nat.reduceLeDiff, Nat.reduceAdd, reduceCtorEq, Nat.reduceMul, sl48, el48, ok5, sz5, ag5, hw8, gt_iff_lt]; refine k' _ _ ?_; clear k' K')
    all_goals refine S.nil ?_
    all_goals simp only [ze, reduceIte, Nat.reduceEqDiff, Nat.reduceLT, Nat.reduceLeDiff, Nat.reduceAdd, reduceCtorEq, Nat.reduceMul, hw8, gt_iff_lt]
    all_goals apply_assumption
    refine AW.bare (AW.ret ?_)
    all_goals simp only [zs, reduceIte, Nat.reduceEqDiff, Nat.reduceLT, Nat.reduceLeDiff, Nat.reduceAdd, reduceCtorEq, Nat.reduceMul]
    rw [show decide (8 * b.length < c % 8) = true by rw [decide_eq_true_eq]; omega]
end Go.Abs.M
namespace Go.Abs.M
open Go Go.Abs Go.Proofs
set_option linter.unusedSimpArgs false
set_option maxRecDepth 20000
theorem bulk_le {H : Type} : ∀ {d : DataW H} {l : List (DataW H)}, d ∈ l → Ytmhamgllanihoaa.Rows.uptoBulk d ≤ Ytmhamgllanihoaa.Rows.uptoBulkAll l
  | d, x :: r, h => by
    simp only [Ytmhamgllanihoaa.Rows.uptoBulkAll]
    rcases List.mem_cons.1 h with e | e
    · subst e; omega
    · have := bulk_le e; omega
theorem bulk_one {H : Type} (d : DataW H) : 1 ≤ Ytmhamgllanihoaa.Rows.uptoBulk d := by
  cases d with
  | lit l => cases l <;> simp [Ytmhamgllanihoaa.Rows.uptoBulk]
  | nil => simp [Ytmhamgllanihoaa.Rows.uptoBulk]
  | ptr d => simp [Ytmhamgllanihoaa.Rows.uptoBulk]
  | slice elems spare => simp [Ytmhamgllanihoaa.Rows.uptoBulk]
  | agg parts => simp [Ytmhamgllanihoaa.Rows.uptoBulk]
  | iface t d => simp [Ytmhamgllanihoaa.Rows.uptoBulk]
  | map entries => simp [Ytmhamgllanihoaa.Rows.uptoBulk]
  | held h => simp [Ytmhamgllanihoaa.Rows.uptoBulk]
theorem bulk_len {H : Type} : ∀ l : List (DataW H), l.length ≤ Ytmhamgllanihoaa.Rows.uptoBulkAll l
  | [] => by simp [Ytmhamgllanihoaa.Rows.uptoBulkAll]
  | d :: l => by
    have := bulk_one d
    have := bulk_len l
    simp only [Ytmhamgllanihoaa.Rows.uptoBulkAll, List.length_cons]; omega
/-- Bytes of a small argument. -/
theorem bytes_short {H : Type} {enc : TypeId × Value → H} {W : World} {base : Nat} {v : Value} {d : DataW H} {ps : List MemPlace} {l : List Nat} (hval : Value.okWide Try.prog W .any base 48 v)
    (h : DataW.Trod enc Try.prog W 0 (fun _ => true) true 48 v d ps) (hv : VR W (cx0 W) (.sl (l.map encB)) v) : l.length ≤ Ytmhamgllanihoaa.Rows.uptoBulk d := by
  obtain ⟨fuel, hf⟩ := h
  have hc : v.cells.toList = [v] := by
    have := flat_of (.inr (.inr ⟨_, Try.underlying48⟩)) hval
    cases v <;> first | rfl | exact absurd rfl (this _)
  rw [hc] at hf
  rcases Go.Deep.open_slice1 Try.underlying48 co5 hf with ⟨h1, h2⟩ | ⟨a, len, cap, m, n, V', D, Pl, h1, _, _, _, _, h2, _⟩
  · injection h1 with h1
    subst h1
    generalize he : l.map encB = es at hv
    have hlen : l.length = es.length := by rw [← he]; simp
    cases hv with
    | nils => simp [hlen]
  · injection h1 with h1
    subst h1
    have hl : l.length ≤ len := by
      generalize he : l.map encB = es at hv
      have hlen : l.length = es.length := by rw [← he]; simp
      cases hv with
      | nile => simp [hlen]
      | sl f => omega
    have h3 : d = .slice ((List.range len).map D) ((List.range (m - len)).map fun j => D (len + j)) := congrArg Prod.fst h2
    have h4 := bulk_len ((List.range len).map D)
    simp only [List.length_map, List.length_range] at h4
    rw [h3]
    simp only [Ytmhamgllanihoaa.Rows.uptoBulk]
    omega
end Go.Abs.M
