import Derived.Test.YtmhamgllanihoaaNd
import Derived.Test.YtmhamgllanihoaaNa
namespace Go.Abs.M
open Go Go.Abs Go.Proofs
set_option maxRecDepth 20000
set_option linter.unusedSimpArgs false
set_option linter.unusedVariables false

def encT (b : Bool) : List V := [.c (.bool b)]
/-- A list of flags of the call's own. -/
def Own (bs : List Bool) (σ : Hp) (v : V) (σ' : Hp) : Prop := ∃ k, v = .gl k ∧ σ.gr k = none ∧ σ' = σ.setGr k (some ((4, 1), bs.map encT))
def Frz (bs : List Bool) (σ : Hp) (v : V) (σ' : Hp) : Prop := v = .sl (bs.map encT) ∧ σ' = σ
theorem Own.frz {f : FuncId} {args : List V} {bs : List Bool} {σ : Hp} (h : ACalls Try.prog f args σ (Own bs σ)) : ACalls Try.prog f args σ (Frz bs σ) :=
  h.freeze fun v σ' ⟨k, h1, h2, h3⟩ => ⟨k, (4, 1), bs.map encT, h1, by rw [h3]; simp, rfl, by rw [h3, Hp.setGr_setGr, Hp.setGr_none h2]⟩
theorem gr_del {σ : Hp} {k k2 : Nat} (hk : σ.gr k = none) (h : (σ.setGr k none).gr k2 = none) : σ.gr k2 = none := by rwa [Hp.setGr_none hk] at h
theorem encT_len {l : List Bool} : ∀ e : List V, e ∈ l.map encT → e.length = 1 := fun e he => by obtain ⟨x, _, rfl⟩ := List.mem_map.1 he; rfl
theorem lowB_ne {u n : Nat} (h : 0 < n) : lowB u n ≠ [] := fun e => by have := lowB_len u n; rw [e] at this; simp at this; omega
theorem Low_grow (u n : Nat) (σ : Hp) (hn : 0 < n) (hn2 : n ≤ 64) : ACalls Try.prog 36 [.c (.int .u64 u), .c (.int .i64 n)] σ (Own (lowB u n) σ) := by
  refine ACalls.intro Try.call36 Try.func36 rfl Try.ntmps36 Try.results36 (by simp) ?_
  have hw1 : IntKind.i64.wrap ((n : Int) - 1) = (n : Int) - 1 := by rw [wrapI _ (by omega) (by omega)]
  refine AW.seq_k fun K1 h1 => ?_
  all_goals refine AW.reg0 ?_
  all_goals (refine S.g rfl rfl fun K' k' => ?_; simp only [zz, reduceIte, Nat.reduceEqDiff, Nat.reduceAdd]; refine k' _ _ ?_; clear k' K')
  all_goals refine S.nil ?_
  all_goals simp only [ze, reduceIte, Nat.reduceEqDiff, Nat.reduceLT, Nat.reduceLeDiff, Nat.reduceAdd, reduceCtorEq, Nat.reduceMul]
  all_goals first | refine h1 _ _ ?_
  refine AW.seq_k fun K2 h2 => ?_
  all_goals refine AW.reg0 ?_
  all_goals (refine S.g rfl rfl fun K' k' => ?_; simp only [zz, reduceIte, Nat.reduceEqDiff, Nat.reduceAdd]; refine k' _ _ ?_; clear k' K')
  all_goals refine S.nil ?_
  all_goals simp only [ze, reduceIte, Nat.reduceEqDiff, Nat.reduceLT, Nat.reduceLeDiff, Nat.reduceAdd, reduceCtorEq, Nat.reduceMul]
  all_goals first | refine h2 _ _ ?_ | refine h1 _ _ ?_
  refine AW.seq_k fun K3 h3 => ?_
  refine AW.seq_k fun K4 h4 => ?_
  all_goals refine AW.reg0 ?_
  all_goals iterate 3 (refine S.g rfl rfl fun K' k' => ?_; simp only [zz, reduceIte, Nat.reduceEqDiff, Nat.reduceAdd, hw1]; refine k' _ _ ?_; clear k' K')
  all_goals refine S.nil ?_
  all_goals simp only [ze, reduceIte, Nat.reduceEqDiff, Nat.reduceLT, Nat.reduceLeDiff, Nat.reduceAdd, reduceCtorEq, Nat.reduceMul, hw1]
  all_goals first | refine h4 _ _ ?_ | refine h3 _ _ ?_ | refine h2 _ _ ?_ | refine h1 _ _ ?_
  refine AW.block ?_   -- 0
  refine AW.loop (fun m s σ' => ∃ j, m = n - j ∧ j ≤ n ∧ s.t 0 = .c (.int .u64 u) ∧ s.t 6 = .c (.int .i64 ((n : Int) - 1 - (j : Nat))) ∧ ((j = 0 ∧ s.t 5 = .c (.slice none 0 0) ∧ σ' = σ) ∨ (0 < j ∧ Own ((lowB u n).take j) σ (s.t 5) σ'))) n ?_ ?_
  · refine ⟨0, rfl, Nat.zero_le _, ?_⟩
    all_goals simp only [zs, reduceIte, Nat.reduceEqDiff, Nat.reduceLT, Nat.reduceLeDiff, Nat.reduceAdd, reduceCtorEq, Nat.reduceMul]
    simp
  rintro m s σ' ⟨j, hm, hj, e0, e6, hown⟩
  refine AW.seq_k fun K5 h5 => ?_
  refine AW.seq_k fun K6 h6 => ?_
  all_goals refine AW.reg0 ?_
  all_goals iterate 2 (refine S.g rfl rfl fun K' k' => ?_; simp only [zz, reduceIte, Nat.reduceEqDiff, Nat.reduceAdd, e6]; refine k' _ _ ?_; clear k' K')
  all_goals refine S.nil ?_
  all_goals simp only [ze, reduceIte, Nat.reduceEqDiff, Nat.reduceLT, Nat.reduceLeDiff, Nat.reduceAdd, reduceCtorEq, Nat.reduceMul, e6]
  all_goals first | refine h6 _ _ ?_ | refine h5 _ _ ?_ | refine h4 _ _ ?_ | refine h3 _ _ ?_ | refine h2 _ _ ?_ | refine h1 _ _ ?_
  refine AW.cond (b := decide (j < n)) (by simp [ev]; omega) (fun hc => ?_) (fun hc => ?_)
  · have hjn := of_decide_eq_true hc
    have hi : (n : Int) - 1 - (j : Nat) = ((n - 1 - j : Nat) : Int) := by omega
    rw [hi] at e6
    refine AW.skip ?_
    all_goals simp only [zs, reduceIte, Nat.reduceEqDiff, Nat.reduceLT, Nat.reduceLeDiff, Nat.reduceAdd, reduceCtorEq, Nat.reduceMul]
    all_goals first | refine h6 _ _ ?_ | refine h5 _ _ ?_ | refine h4 _ _ ?_ | refine h3 _ _ ?_ | refine h2 _ _ ?_ | refine h1 _ _ ?_
    have hsh := shr64 u (n - 1 - j) (by omega)
    have hr2 : (((u / 2 ^ (n - 1 - j) : Nat)) : Int).tmod 2 = ((u / 2 ^ (n - 1 - j) % 2 : Nat) : Int) := rfl
    have he1 := eq1 (u / 2 ^ (n - 1 - j))
    have hl64 : decide (((n - 1 - j : Nat) : Int) < 64) = true := by simp; omega
    have hw2 : IntKind.i64.wrap (((n - 1 - j : Nat) : Int) - 1) = (n : Int) - 1 - ((j + 1 : Nat) : Int) := by rw [wrapI _ (by omega) (by omega)]; omega
    have htk := lowB_take u n j hjn
    rcases hown with ⟨rfl, e5, rfl⟩ | ⟨hj0, k, e5, hk, rfl⟩
    · refine AW.seq_k fun K7 h7 => ?_
      refine AW.block ?_   -- 1
      all_goals refine AW.reg0 ?_
      all_goals iterate 2 (refine S.g rfl rfl fun K' k' => ?_; simp only [zz, reduceIte, Nat.reduceEqDiff, Nat.reduceAdd, e0, e5, e6, Int.reduceEq, hsh, hr2, he1, hl64]; refine k' _ _ ?_; clear k' K')
      all_goals (refine S.g rfl rfl fun K' k' => ?_; simp only [zz, reduceIte, Nat.reduceEqDiff, Nat.reduceLT, Nat.reduceLeDiff, Nat.reduceAdd, reduceCtorEq, Nat.reduceMul, e0, e5, e6, Int.reduceEq, hsh, hr2, he1, hl64]; refine S.bool fun b a15 => ?_; cases b <;> (try (exfalso; first | exact Bool.noConfusion a15 | (have h := of_decide_eq_true a15; omega) | (have h := of_decide_eq_false a15; omega))) <;> (refine k' _ _ ?_; clear k' K'))
      all_goals (refine S.g rfl rfl fun K' k' => ?_; simp only [zz, reduceIte, Nat.reduceEqDiff, Nat.reduceAdd, e0, e5, e6, Int.reduceEq, hsh, hr2, he1, hl64]; refine k' _ _ ?_; clear k' K')
      all_goals iterate 5 (first | (refine S.y rfl rfl rfl rfl fun K' k' => ?_; simp only [zz, reduceIte, Nat.reduceEqDiff, Nat.reduceAdd, e0, e5, e6, Int.reduceEq, hsh, hr2, he1, hl64]; refine k' _ _ ?_; clear k' K') | ((first | refine S.x rfl rfl rfl rfl fun K' k' => ?_ | refine S.u rfl rfl rfl rfl fun K' k' => ?_); simp only [ze, reduceIte, Nat.reduceEqDiff]; refine k' _ _ ?_; clear k' K'))
      all_goals (refine S.g rfl rfl fun K' k' => ?_; simp only [zz, reduceIte, Nat.reduceEqDiff, Nat.reduceAdd, e0, e5, e6, Int.reduceEq, hsh, hr2, he1, hl64]; refine k' _ _ ?_; clear k' K')
      all_goals (refine S.g rfl rfl fun K' k' => ?_; simp only [zb, reduceIte, Nat.reduceEqDiff, Nat.reduceLT, Nat.reduceLeDiff, Nat.reduceAdd, reduceCtorEq, Nat.reduceMul, sl56, el56, ok4, sz4, ag4, zt4, by4, e0, e5, e6, Int.reduceEq, hsh, hr2, he1, hl64]; refine k' _ _ ?_; clear k' K')
      all_goals (refine S.g rfl rfl fun K' k' => ?_; simp only [zz, reduceIte, Nat.reduceEqDiff, Nat.reduceLT, Nat.reduceLeDiff, Nat.reduceAdd, reduceCtorEq, Nat.reduceMul, sl56, el56, ok4, sz4, ag4, zt4, by4, e0, e5, e6, Int.reduceEq, hsh, hr2, he1, hl64]; refine ⟨by simp, by unfold maxLen; (try simp only [List.length_map, List.length_take, lowB_len, List.length_cons, List.length_nil]); omega, by unfold reach; (try simp only [List.length_map, List.length_take, lowB_len, List.length_cons, List.length_nil]); omega, fun k2 hk2 => ?_⟩ <;> (refine k' _ _ ?_; clear k' K'))
      all_goals (refine S.g rfl rfl fun K' k' => ?_; simp only [zz, reduceIte, Nat.reduceEqDiff, Nat.reduceAdd, e0, e5, e6, Int.reduceEq, hsh, hr2, he1, hl64]; refine k' _ _ ?_; clear k' K')
      all_goals refine S.nil ?_
      all_goals simp only [ze, reduceIte, Nat.reduceEqDiff, Nat.reduceLT, Nat.reduceLeDiff, Nat.reduceAdd, reduceCtorEq, Nat.reduceMul, e0, e5, e6, Int.reduceEq, hsh, hr2, he1, hl64]
      all_goals first | refine h7 _ _ ?_ | refine h6 _ _ ?_ | refine h5 _ _ ?_ | refine h4 _ _ ?_ | refine h3 _ _ ?_ | refine h2 _ _ ?_ | refine h1 _ _ ?_
      all_goals refine AW.reg0 ?_
      all_goals iterate 3 (refine S.g rfl rfl fun K' k' => ?_; simp only [zz, reduceIte, Nat.reduceEqDiff, Nat.reduceAdd, e6, hw2]; refine k' _ _ ?_; clear k' K')
      all_goals refine S.nil ?_
      all_goals simp only [ze, reduceIte, Nat.reduceEqDiff, Nat.reduceLT, Nat.reduceLeDiff, Nat.reduceAdd, reduceCtorEq, Nat.reduceMul, e6, hw2]
      refine ⟨n - 1, by omega, 1, rfl, by omega, e0, rfl, .inr ⟨by omega, k2, rfl, hk2, ?_⟩⟩
      rw [htk]; rfl
    · refine AW.seq_k fun K8 h8 => ?_
      refine AW.block ?_   -- 1
      all_goals refine AW.reg0 ?_
      all_goals iterate 2 (refine S.g rfl rfl fun K' k' => ?_; simp only [zz, reduceIte, Nat.reduceEqDiff, Nat.reduceAdd, e0, e5, e6, Int.reduceEq, hsh, hr2, he1, hl64]; refine k' _ _ ?_; clear k' K')
      all_goals (refine S.g rfl rfl fun K' k' => ?_; simp only [zz, reduceIte, Nat.reduceEqDiff, Nat.reduceLT, Nat.reduceLeDiff, Nat.reduceAdd, reduceCtorEq, Nat.reduceMul, e0, e5, e6, Int.reduceEq, hsh, hr2, he1, hl64]; refine S.bool fun b a15 => ?_; cases b <;> (try (exfalso; first | exact Bool.noConfusion a15 | (have h := of_decide_eq_true a15; omega) | (have h := of_decide_eq_false a15; omega))) <;> (refine k' _ _ ?_; clear k' K'))
      all_goals (refine S.g rfl rfl fun K' k' => ?_; simp only [zz, reduceIte, Nat.reduceEqDiff, Nat.reduceAdd, e0, e5, e6, Int.reduceEq, hsh, hr2, he1, hl64]; refine k' _ _ ?_; clear k' K')
      all_goals iterate 5 (first | (refine S.y rfl rfl rfl rfl fun K' k' => ?_; simp only [zz, reduceIte, Nat.reduceEqDiff, Nat.reduceAdd, e0, e5, e6, Int.reduceEq, hsh, hr2, he1, hl64]; refine k' _ _ ?_; clear k' K') | ((first | refine S.x rfl rfl rfl rfl fun K' k' => ?_ | refine S.u rfl rfl rfl rfl fun K' k' => ?_); simp only [ze, reduceIte, Nat.reduceEqDiff]; refine k' _ _ ?_; clear k' K'))
      all_goals (refine S.g rfl rfl fun K' k' => ?_; simp only [zz, reduceIte, Nat.reduceEqDiff, Nat.reduceAdd, e0, e5, e6, Int.reduceEq, hsh, hr2, he1, hl64]; refine k' _ _ ?_; clear k' K')
      all_goals (refine S.g rfl rfl fun K' k' => ?_; simp only [zb, reduceIte, Nat.reduceEqDiff, Nat.reduceLT, Nat.reduceLeDiff, Nat.reduceAdd, reduceCtorEq, Nat.reduceMul, sl56, el56, ok4, sz4, ag4, zt4, by4, e0, e5, e6, Int.reduceEq, hsh, hr2, he1, hl64]; refine k' _ _ ?_; clear k' K')
      all_goals (refine S.g rfl rfl fun K' k' => ?_; simp only [zz, reduceIte, Nat.reduceEqDiff, Nat.reduceLT, Nat.reduceLeDiff, Nat.reduceAdd, reduceCtorEq, Nat.reduceMul, sl56, el56, ok4, sz4, ag4, zt4, by4, e0, e5, e6, Int.reduceEq, hsh, hr2, he1, hl64]; refine ⟨by simp, by unfold maxLen; (try simp only [List.length_map, List.length_take, lowB_len, List.length_cons, List.length_nil]); omega, by unfold reach; (try simp only [List.length_map, List.length_take, lowB_len, List.length_cons, List.length_nil]); omega, fun k2 hk2 => ?_⟩ <;> (refine k' _ _ ?_; clear k' K'))
      all_goals (refine S.g rfl rfl fun K' k' => ?_; simp only [zz, reduceIte, Nat.reduceEqDiff, Nat.reduceAdd, e0, e5, e6, Int.reduceEq, hsh, hr2, he1, hl64]; refine k' _ _ ?_; clear k' K')
      all_goals refine S.nil ?_
      all_goals simp only [ze, reduceIte, Nat.reduceEqDiff, Nat.reduceLT, Nat.reduceLeDiff, Nat.reduceAdd, reduceCtorEq, Nat.reduceMul, e0, e5, e6, Int.reduceEq, hsh, hr2, he1, hl64]
      all_goals first | refine h8 _ _ ?_ | refine h7 _ _ ?_ | refine h6 _ _ ?_ | refine h5 _ _ ?_ | refine h4 _ _ ?_ | refine h3 _ _ ?_ | refine h2 _ _ ?_ | refine h1 _ _ ?_
      all_goals refine AW.reg0 ?_
      all_goals iterate 3 (refine S.g rfl rfl fun K' k' => ?_; simp only [zz, reduceIte, Nat.reduceEqDiff, Nat.reduceAdd, e6, hw2]; refine k' _ _ ?_; clear k' K')
      all_goals refine S.nil ?_
      all_goals simp only [ze, reduceIte, Nat.reduceEqDiff, Nat.reduceLT, Nat.reduceLeDiff, Nat.reduceAdd, reduceCtorEq, Nat.reduceMul, e6, hw2]
      refine ⟨n - (j + 1), by omega, j + 1, rfl, by omega, e0, rfl, .inr ⟨by omega, k2, rfl, gr_del hk hk2, ?_⟩⟩
      rw [htk, Hp.setGr_none hk]; simp [encT]
  · have hjn := of_decide_eq_false hc
    have hj2 : j = n := by omega
    subst hj2
    refine AW.exit ?_
    all_goals simp only [zs, reduceIte, Nat.reduceEqDiff, Nat.reduceLT, Nat.reduceLeDiff, Nat.reduceAdd, reduceCtorEq, Nat.reduceMul]
    all_goals first | refine h8 _ _ ?_ | refine h7 _ _ ?_ | refine h6 _ _ ?_ | refine h5 _ _ ?_ | refine h4 _ _ ?_ | refine h3 _ _ ?_ | refine h2 _ _ ?_ | refine h1 _ _ ?_
    rcases hown with ⟨rfl, e5, rfl⟩ | ⟨hj0, k, e5, hk, rfl⟩
    · omega
    · refine AW.seq_k fun K9 h9 => ?_
      all_goals refine AW.reg0 ?_
      all_goals iterate 2 (refine S.g rfl rfl fun K' k' => ?_; simp only [zz, reduceIte, Nat.reduceEqDiff, Nat.reduceAdd, e5]; refine k' _ _ ?_; clear k' K')
      all_goals refine S.nil ?_
      all_goals simp only [ze, reduceIte, Nat.reduceEqDiff, Nat.reduceLT, Nat.reduceLeDiff, Nat.reduceAdd, reduceCtorEq, Nat.reduceMul, e5]
      all_goals first | refine h9 _ _ ?_ | refine h8 _ _ ?_ | refine h7 _ _ ?_ | refine h6 _ _ ?_ | refine h5 _ _ ?_ | refine h4 _ _ ?_ | refine h3 _ _ ?_ | refine h2 _ _ ?_ | refine h1 _ _ ?_
      refine AW.ret ?_
      all_goals simp only [zs, reduceIte, Nat.reduceEqDiff, Nat.reduceLT, Nat.reduceLeDiff, Nat.reduceAdd, reduceCtorEq, Nat.reduceMul]
      refine ⟨k, rfl, hk, ?_⟩
      rw [List.take_of_length_le (by rw [lowB_len]; omega)]
end Go.Abs.M
namespace Go.Abs.M
open Go Go.Abs Go.Proofs
set_option maxRecDepth 20000
set_option linter.unusedSimpArgs false
set_option linter.unusedVariables false

theorem blen_half (x : Nat) (h : x ≠ 0) : blen x = 1 + blen (x / 2) := by
  by_cases h1 : x = 1
  · subst h1; decide
  have := blen_div x 1 (by omega)
  rwa [Nat.pow_one] at this
theorem long_spec (u : Nat) (hu : u < 18446744073709551616) : PCalls Try.prog 138 [.c (.int .u64 u)] (fun v => v = .c (.int .i64 (blen u))) := by
  refine PCalls.intro Try.call138 Try.func138 rfl Try.ntmps138 Try.results138 (by simp) ?_
  have hb64 := blen_le64 hu
  refine AW.seq_k fun K1 h1 => ?_
  all_goals refine AW.reg0 ?_
  all_goals (refine S.g rfl rfl fun K' k' => ?_; simp only [zz, reduceIte, Nat.reduceEqDiff, Nat.reduceAdd]; refine k' _ _ ?_; clear k' K')
  all_goals refine S.nil ?_
  all_goals simp only [ze, reduceIte, Nat.reduceEqDiff, Nat.reduceLT, Nat.reduceLeDiff, Nat.reduceAdd, reduceCtorEq, Nat.reduceMul]
  all_goals first | refine h1 _ _ ?_
  refine AW.seq_k fun K2 h2 => ?_
  all_goals refine AW.reg0 ?_
  all_goals (refine S.g rfl rfl fun K' k' => ?_; simp only [zz, reduceIte, Nat.reduceEqDiff, Nat.reduceAdd]; refine k' _ _ ?_; clear k' K')
  all_goals refine S.nil ?_
  all_goals simp only [ze, reduceIte, Nat.reduceEqDiff, Nat.reduceLT, Nat.reduceLeDiff, Nat.reduceAdd, reduceCtorEq, Nat.reduceMul]
  all_goals first | refine h2 _ _ ?_ | refine h1 _ _ ?_
  refine AW.seq_k fun K3 h3 => ?_
  refine AW.block ?_   -- 0
  refine AW.loop (fun m s σ => σ = Hp.empty ∧ ∃ x c : Nat, m = x ∧ x ≤ u ∧ s.t 0 = .c (.int .u64 x) ∧ s.t 3 = .c (.int .i64 c) ∧ blen u = c + blen x) u ?_ ?_
  · refine ⟨rfl, u, 0, rfl, Nat.le_refl _, ?_⟩
    all_goals simp only [zs, reduceIte, Nat.reduceEqDiff, Nat.reduceLT, Nat.reduceLeDiff, Nat.reduceAdd, reduceCtorEq, Nat.reduceMul]
    simp
  rintro m s σ ⟨rfl, x, c, rfl, hx, e0, e3, hb⟩
  refine AW.seq_k fun K4 h4 => ?_
  refine AW.seq_k fun K5 h5 => ?_
  all_goals refine AW.reg0 ?_
  all_goals iterate 2 (refine S.g rfl rfl fun K' k' => ?_; simp only [zz, reduceIte, Nat.reduceEqDiff, Nat.reduceAdd, e0]; refine k' _ _ ?_; clear k' K')
  all_goals refine S.nil ?_
  all_goals simp only [ze, reduceIte, Nat.reduceEqDiff, Nat.reduceLT, Nat.reduceLeDiff, Nat.reduceAdd, reduceCtorEq, Nat.reduceMul, e0]
  all_goals first | refine h5 _ _ ?_ | refine h4 _ _ ?_ | refine h3 _ _ ?_ | refine h2 _ _ ?_ | refine h1 _ _ ?_
  refine AW.cond (b := decide (0 < m)) (by simp [ev]) (fun hc => ?_) (fun hc => ?_)
  · have hx0 := of_decide_eq_true hc
    refine AW.skip ?_
    all_goals simp only [zs, reduceIte, Nat.reduceEqDiff, Nat.reduceLT, Nat.reduceLeDiff, Nat.reduceAdd, reduceCtorEq, Nat.reduceMul]
    all_goals first | refine h5 _ _ ?_ | refine h4 _ _ ?_ | refine h3 _ _ ?_ | refine h2 _ _ ?_ | refine h1 _ _ ?_
    have hq : (m : Int).tdiv 2 = ((m / 2 : Nat) : Int) := rfl
    have hwq : IntKind.u64.wrap ((m / 2 : Nat) : Int) = ((m / 2 : Nat) : Int) := wrap_u64 (by omega)
    have hw1 : IntKind.i64.wrap ((c : Int) + 1) = ((c + 1 : Nat) : Int) := by rw [wrap_small _ (by omega) (by omega)]; rfl
    refine AW.block ?_   -- 1
    refine AW.seq_k fun K6 h6 => ?_
    all_goals refine AW.reg0 ?_
    all_goals iterate 3 (refine S.g rfl rfl fun K' k' => ?_; simp only [zz, reduceIte, Nat.reduceEqDiff, Nat.reduceAdd, e3, hw1]; refine k' _ _ ?_; clear k' K')
    all_goals refine S.nil ?_
    all_goals simp only [ze, reduceIte, Nat.reduceEqDiff, Nat.reduceLT, Nat.reduceLeDiff, Nat.reduceAdd, reduceCtorEq, Nat.reduceMul, e3, hw1]
    all_goals first | refine h6 _ _ ?_ | refine h5 _ _ ?_ | refine h4 _ _ ?_ | refine h3 _ _ ?_ | refine h2 _ _ ?_ | refine h1 _ _ ?_
    all_goals refine AW.reg0 ?_
    all_goals iterate 3 (refine S.g rfl rfl fun K' k' => ?_; simp only [zz, reduceIte, Nat.reduceEqDiff, Nat.reduceAdd, e0, Int.reduceEq, hq, hwq]; refine k' _ _ ?_; clear k' K')
    all_goals refine S.nil ?_
    all_goals simp only [ze, reduceIte, Nat.reduceEqDiff, Nat.reduceLT, Nat.reduceLeDiff, Nat.reduceAdd, reduceCtorEq, Nat.reduceMul, e0, Int.reduceEq, hq, hwq]
    refine ⟨m / 2, by omega, m / 2, c + 1, rfl, by omega, rfl, rfl, ?_⟩
    rw [hb, blen_half m (by omega)]; omega
  · have hx0 := of_decide_eq_false hc
    have h0 : m = 0 := by omega
    subst h0
    refine AW.exit ?_
    all_goals simp only [zs, reduceIte, Nat.reduceEqDiff, Nat.reduceLT, Nat.reduceLeDiff, Nat.reduceAdd, reduceCtorEq, Nat.reduceMul]
    all_goals first | refine h6 _ _ ?_ | refine h5 _ _ ?_ | refine h4 _ _ ?_ | refine h3 _ _ ?_ | refine h2 _ _ ?_ | refine h1 _ _ ?_
    refine AW.seq_k fun K7 h7 => ?_
    all_goals refine AW.reg0 ?_
    all_goals iterate 2 (refine S.g rfl rfl fun K' k' => ?_; simp only [zz, reduceIte, Nat.reduceEqDiff, Nat.reduceAdd, e3]; refine k' _ _ ?_; clear k' K')
    all_goals refine S.nil ?_
    all_goals simp only [ze, reduceIte, Nat.reduceEqDiff, Nat.reduceLT, Nat.reduceLeDiff, Nat.reduceAdd, reduceCtorEq, Nat.reduceMul, e3]
    all_goals first | refine h7 _ _ ?_ | refine h6 _ _ ?_ | refine h5 _ _ ?_ | refine h4 _ _ ?_ | refine h3 _ _ ?_ | refine h2 _ _ ?_ | refine h1 _ _ ?_
    refine AW.ret ?_
    all_goals simp only [zs, reduceIte, Nat.reduceEqDiff, Nat.reduceLT, Nat.reduceLeDiff, Nat.reduceAdd, reduceCtorEq, Nat.reduceMul]
    rw [hb]; rfl
theorem zig_spec (n : Int) (h : inI64 n) : PCalls Try.prog 139 [.c (.int .i64 n)] (fun v => v = .c (.int .u64 (zigB n))) := by
  refine PCalls.intro Try.call139 Try.func139 rfl Try.ntmps139 Try.results139 (by simp) ?_
  obtain ⟨h1, h2⟩ := h
  have wu : ∀ x : Int, 0 ≤ x → x < 18446744073709551616 → IntKind.u64.wrap x = x := fun x a b => by unfold IntKind.wrap; simp [IntKind.signed, IntKind.bits]; omega
  have wi : ∀ x : Int, -9223372036854775808 ≤ x → x ≤ 9223372036854775807 → IntKind.i64.wrap x = x := fun x a b => by unfold IntKind.wrap; simp [IntKind.signed, IntKind.bits]; omega
  refine AW.seq_k fun K1 h1 => ?_
  all_goals refine AW.reg0 ?_
  all_goals (refine S.g rfl rfl fun K' k' => ?_; simp only [zz, reduceIte, Nat.reduceEqDiff, Nat.reduceAdd]; refine k' _ _ ?_; clear k' K')
  all_goals refine S.nil ?_
  all_goals simp only [ze, reduceIte, Nat.reduceEqDiff, Nat.reduceLT, Nat.reduceLeDiff, Nat.reduceAdd, reduceCtorEq, Nat.reduceMul]
  all_goals first | refine h1 _ _ ?_
  refine AW.seq_k fun K2 h2 => ?_
  refine AW.seq_k fun K3 h3 => ?_
  all_goals refine AW.reg0 ?_
  all_goals iterate 2 (refine S.g rfl rfl fun K' k' => ?_; simp only [zz, reduceIte, Nat.reduceEqDiff, Nat.reduceAdd, ge_iff_le]; refine k' _ _ ?_; clear k' K')
  all_goals refine S.nil ?_
  all_goals simp only [ze, reduceIte, Nat.reduceEqDiff, Nat.reduceLT, Nat.reduceLeDiff, Nat.reduceAdd, reduceCtorEq, Nat.reduceMul, ge_iff_le]
  all_goals first | refine h3 _ _ ?_ | refine h2 _ _ ?_ | refine h1 _ _ ?_
  refine AW.cond (b := decide (0 ≤ n)) (by simp [ev]) (fun hc => ?_) (fun hc => ?_)
  · have hc := of_decide_eq_true hc
    have e1 := wu n hc (by omega)
    have e2 := wu (n * 2) (by omega) (by omega)
    refine AW.seq_k fun K4 h4 => ?_
    all_goals refine AW.reg0 ?_
    all_goals iterate 4 (refine S.g rfl rfl fun K' k' => ?_; simp only [zz, reduceIte, Nat.reduceEqDiff, Nat.reduceAdd, cv2_54, e1, e2]; refine k' _ _ ?_; clear k' K')
    all_goals refine S.nil ?_
    all_goals simp only [ze, reduceIte, Nat.reduceEqDiff, Nat.reduceLT, Nat.reduceLeDiff, Nat.reduceAdd, reduceCtorEq, Nat.reduceMul, e1, e2]
    all_goals first | refine h4 _ _ ?_ | refine h3 _ _ ?_ | refine h2 _ _ ?_ | refine h1 _ _ ?_
    refine AW.ret ?_
    all_goals simp only [zs, reduceIte, Nat.reduceEqDiff, Nat.reduceLT, Nat.reduceLeDiff, Nat.reduceAdd, reduceCtorEq, Nat.reduceMul]
    rw [zigB, if_pos hc, show n * 2 = ((2 * n.toNat : Nat) : Int) by omega]
  · have hc := of_decide_eq_false hc
    refine AW.skip ?_
    all_goals simp only [zs, reduceIte, Nat.reduceEqDiff, Nat.reduceLT, Nat.reduceLeDiff, Nat.reduceAdd, reduceCtorEq, Nat.reduceMul]
    all_goals first | refine h4 _ _ ?_ | refine h3 _ _ ?_ | refine h2 _ _ ?_ | refine h1 _ _ ?_
    have e1 := wi (n + 1) (by omega) (by omega)
    have e2 := wi (0 - (n + 1)) (by omega) (by omega)
    have e3 := wu (0 - (n + 1)) (by omega) (by omega)
    have e4 := wu ((0 - (n + 1)) * 2) (by omega) (by omega)
    have e5 := wu ((0 - (n + 1)) * 2 + 1) (by omega) (by omega)
    refine AW.seq_k fun K5 h5 => ?_
    all_goals refine AW.reg0 ?_
    all_goals iterate 7 (refine S.g rfl rfl fun K' k' => ?_; simp only [zz, reduceIte, Nat.reduceEqDiff, Nat.reduceAdd, cv2_54, e1, e2, e3, e4, e5]; refine k' _ _ ?_; clear k' K')
    all_goals refine S.nil ?_
    all_goals simp only [ze, reduceIte, Nat.reduceEqDiff, Nat.reduceLT, Nat.reduceLeDiff, Nat.reduceAdd, reduceCtorEq, Nat.reduceMul, e1, e2, e3, e4, e5]
    all_goals first | refine h5 _ _ ?_ | refine h4 _ _ ?_ | refine h3 _ _ ?_ | refine h2 _ _ ?_ | refine h1 _ _ ?_
    refine AW.ret ?_
    all_goals simp only [zs, reduceIte, Nat.reduceEqDiff, Nat.reduceLT, Nat.reduceLeDiff, Nat.reduceAdd, reduceCtorEq, Nat.reduceMul]
    rw [zigB, if_neg hc, show (0 - (n + 1)) * 2 + 1 = ((2 * (-(n + 1)).toNat + 1 : Nat) : Int) by omega]
theorem Nat_max (σ : Hp) : ACalls Try.prog 119 [.c (.int .u64 18446744073709551615)] σ (Own (natB 18446744073709551615) σ) := by
  refine ACalls.intro Try.call119 Try.func119 rfl Try.ntmps119 Try.results119 (by simp) ?_
  refine AW.seq_k fun K1 h1 => ?_
  all_goals refine AW.reg0 ?_
  all_goals (refine S.g rfl rfl fun K' k' => ?_; simp only [zz, reduceIte, Nat.reduceEqDiff, Nat.reduceAdd]; refine k' _ _ ?_; clear k' K')
  all_goals refine S.nil ?_
  all_goals simp only [ze, reduceIte, Nat.reduceEqDiff, Nat.reduceLT, Nat.reduceLeDiff, Nat.reduceAdd, reduceCtorEq, Nat.reduceMul]
  all_goals first | refine h1 _ _ ?_
  refine AW.seq_k fun K2 h2 => ?_
  refine AW.seq_k fun K3 h3 => ?_
  all_goals refine AW.reg0 ?_
  all_goals iterate 2 (refine S.g rfl rfl fun K' k' => ?_; simp only [zz, reduceIte, Nat.reduceEqDiff, Nat.reduceAdd, beq_self_eq_true]; refine k' _ _ ?_; clear k' K')
  all_goals refine S.nil ?_
  all_goals simp only [ze, reduceIte, Nat.reduceEqDiff, Nat.reduceLT, Nat.reduceLeDiff, Nat.reduceAdd, reduceCtorEq, Nat.reduceMul, beq_self_eq_true]
  all_goals first | refine h3 _ _ ?_ | refine h2 _ _ ?_ | refine h1 _ _ ?_
  refine AW.cond (b := true) (by simp [ev]) (fun hc => ?_) (fun hc => by cases hc)
  refine AW.seq_k fun K4 h4 => ?_
  all_goals refine AW.reg0 ?_
  all_goals (refine S.g rfl rfl fun K' k' => ?_; simp only [zz, reduceIte, Nat.reduceEqDiff, Nat.reduceLT, Nat.reduceLeDiff, Nat.reduceAdd, reduceCtorEq, Nat.reduceMul, sl56, el56, ok4, sz4, ag4, zt4, by4]; refine ⟨by omega, by omega, by omega, by omega, fun k1 hk1 => ?_⟩ <;> (refine k' _ _ ?_; clear k' K'))
  all_goals (refine S.g rfl rfl fun K' k' => ?_; simp only [zz, reduceIte, Nat.reduceEqDiff, Nat.reduceAdd]; refine k' _ _ ?_; clear k' K')
  all_goals refine S.nil ?_
  all_goals simp only [ze, reduceIte, Nat.reduceEqDiff, Nat.reduceLT, Nat.reduceLeDiff, Nat.reduceAdd, reduceCtorEq, Nat.reduceMul]
  all_goals first | refine h4 _ _ ?_ | refine h3 _ _ ?_ | refine h2 _ _ ?_ | refine h1 _ _ ?_
  refine AW.seq_k fun K5 h5 => ?_
  all_goals refine AW.reg0 ?_
  all_goals (refine S.g rfl rfl fun K' k' => ?_; simp only [zz, reduceIte, Nat.reduceEqDiff, Nat.reduceAdd]; refine k' _ _ ?_; clear k' K')
  all_goals (refine S.g rfl rfl fun K' k' => ?_; simp only [zb, reduceIte, Nat.reduceEqDiff, Nat.reduceLT, Nat.reduceLeDiff, Nat.reduceAdd, reduceCtorEq, Nat.reduceMul, sl56, el56, ok4, sz4, ag4, zt4, by4]; refine k' _ _ ?_; clear k' K')
  all_goals (refine S.g rfl rfl fun K' k' => ?_; simp only [zz, reduceIte, Nat.reduceEqDiff, Nat.reduceLT, Nat.reduceLeDiff, Nat.reduceAdd, reduceCtorEq, Nat.reduceMul, sl56, el56, ok4, sz4, ag4, zt4, by4]; refine ⟨by simp, by unfold maxLen; simp, by unfold reach; simp, fun k2 hk2 => ?_⟩; have hk2 := gr_del hk1 hk2; simp only [Hp.setGr_none hk1] <;> (refine k' _ _ ?_; clear k' K'))
  all_goals (refine S.g rfl rfl fun K' k' => ?_; simp only [zz, reduceIte, Nat.reduceEqDiff, Nat.reduceAdd]; refine k' _ _ ?_; clear k' K')
  all_goals refine S.nil ?_
  all_goals simp only [ze, reduceIte, Nat.reduceEqDiff, Nat.reduceLT, Nat.reduceLeDiff, Nat.reduceAdd, reduceCtorEq, Nat.reduceMul]
  all_goals first | refine h5 _ _ ?_ | refine h4 _ _ ?_ | refine h3 _ _ ?_ | refine h2 _ _ ?_ | refine h1 _ _ ?_
  refine AW.seq_k fun K6 h6 => ?_
  refine AW.regX ?_
  refine XS.g rfl rfl ?_
  simp only [zz, reduceIte, Nat.reduceEqDiff]
  refine XS.mk (ki := .i64) rfl rfl Try.underlying3 rfl ?_
  simp only [zz, semAppendG, dstE, reduceIte, Nat.reduceEqDiff, sl56, el56, ok4, sz4, ag4, zt4, by4, Hp.setGr_gr]
  refine ⟨by decide, by unfold maxLen; decide, by unfold reach; decide, fun k3 hk3 => ?_⟩
  have hk3 := gr_del hk2 hk3
  refine XS.g rfl rfl ?_
  simp only [zz, semLX, Hp.delO, Hp.setGr_setGr, Hp.setGr_none hk2, reduceIte, Nat.reduceEqDiff]
  all_goals first | refine h6 _ _ ?_ | refine h5 _ _ ?_ | refine h4 _ _ ?_ | refine h3 _ _ ?_ | refine h2 _ _ ?_ | refine h1 _ _ ?_
  refine AW.ret ?_
  all_goals simp only [zs, reduceIte, Nat.reduceEqDiff, Nat.reduceLT, Nat.reduceLeDiff, Nat.reduceAdd, reduceCtorEq, Nat.reduceMul]
  refine ⟨k3, rfl, hk3, ?_⟩
  rw [natB, if_pos rfl]
  simp [encT, List.replicate, Value.cells]
theorem Nat_grow (u : Nat) (σ : Hp) (hu : u < 18446744073709551616) : ACalls Try.prog 119 [.c (.int .u64 u)] σ (Own (natB u) σ) := by
  by_cases hm : u = 18446744073709551615
  · subst hm; exact Nat_max σ
  refine ACalls.intro Try.call119 Try.func119 rfl Try.ntmps119 Try.results119 (by simp) ?_
  have hq : ((u : Int) == 18446744073709551615) = false := by simp; omega
  have hu1 : u + 1 < 18446744073709551616 := by omega
  have hb := blen_le64 hu1
  have hb2 := blen_pos u
  have hw1 : IntKind.u64.wrap ((u : Int) + 1) = ((u + 1 : Nat) : Int) := by rw [show (u : Int) + 1 = ((u + 1 : Nat) : Int) by simp, wrap_u64 hu1]
  have hw2 : IntKind.i64.wrap ((blen (u + 1) : Int) - 1) = ((blen (u + 1) - 1 : Nat) : Int) := by rw [wrap_small _ (by omega) (by omega)]; omega
  have hw3 : IntKind.i64.wrap (((blen (u + 1) - 1 : Nat) : Int) + 1) = (blen (u + 1) : Int) := by rw [wrap_small _ (by omega) (by omega)]; omega
  refine AW.seq_k fun K1 h1 => ?_
  all_goals refine AW.reg0 ?_
  all_goals (refine S.g rfl rfl fun K' k' => ?_; simp only [zz, reduceIte, Nat.reduceEqDiff, Nat.reduceAdd]; refine k' _ _ ?_; clear k' K')
  all_goals refine S.nil ?_
  all_goals simp only [ze, reduceIte, Nat.reduceEqDiff, Nat.reduceLT, Nat.reduceLeDiff, Nat.reduceAdd, reduceCtorEq, Nat.reduceMul]
  all_goals first | refine h1 _ _ ?_
  refine AW.seq_k fun K2 h2 => ?_
  refine AW.seq_k fun K3 h3 => ?_
  all_goals refine AW.reg0 ?_
  all_goals iterate 2 (refine S.g rfl rfl fun K' k' => ?_; simp only [zz, reduceIte, Nat.reduceEqDiff, Nat.reduceAdd, hq]; refine k' _ _ ?_; clear k' K')
  all_goals refine S.nil ?_
  all_goals simp only [ze, reduceIte, Nat.reduceEqDiff, Nat.reduceLT, Nat.reduceLeDiff, Nat.reduceAdd, reduceCtorEq, Nat.reduceMul, hq]
  all_goals first | refine h3 _ _ ?_ | refine h2 _ _ ?_ | refine h1 _ _ ?_
  refine AW.cond (b := false) (by simp [ev]) (fun hc => by cases hc) (fun hc => ?_)
  refine AW.skip ?_
  all_goals simp only [zs, reduceIte, Nat.reduceEqDiff, Nat.reduceLT, Nat.reduceLeDiff, Nat.reduceAdd, reduceCtorEq, Nat.reduceMul]
  all_goals first | refine h3 _ _ ?_ | refine h2 _ _ ?_ | refine h1 _ _ ?_
  refine AW.seq_k fun K4 h4 => ?_
  all_goals refine AW.reg0 ?_
  all_goals iterate 2 (refine S.g rfl rfl fun K' k' => ?_; simp only [zz, reduceIte, Nat.reduceEqDiff, Nat.reduceAdd, hw1, hw2]; refine k' _ _ ?_; clear k' K')
  all_goals (refine S.g rfl rfl fun K' k' => ?_; simp only [zz, reduceIte, Nat.reduceEqDiff, Nat.reduceLT, Nat.reduceLeDiff, Nat.reduceAdd, reduceCtorEq, Nat.reduceMul, hw1, hw2]; refine PCalls.eqto (long_spec _ hu1) ?_ <;> (refine k' _ _ ?_; clear k' K'))
  all_goals iterate 2 (refine S.g rfl rfl fun K' k' => ?_; simp only [zz, reduceIte, Nat.reduceEqDiff, Nat.reduceAdd, hw1, hw2]; refine k' _ _ ?_; clear k' K')
  all_goals refine S.nil ?_
  all_goals simp only [ze, reduceIte, Nat.reduceEqDiff, Nat.reduceLT, Nat.reduceLeDiff, Nat.reduceAdd, reduceCtorEq, Nat.reduceMul, hw1, hw2]
  all_goals first | refine h4 _ _ ?_ | refine h3 _ _ ?_ | refine h2 _ _ ?_ | refine h1 _ _ ?_
  refine AW.seq_k fun K5 h5 => ?_
  all_goals refine AW.drawF (T := { sd := fun _ => false }) (fun _ _ h => by cases h) mixedO (.st 0 0 (.st 2 0 (.st 3 0 (.st 4 0 (.st 5 0 (.fork 1 (.st 6 2 (.st 7 2 (.st 8 0 .nil))) 6 (.st 1 2 (.st 7 2 (.st 8 0 .nil))))))))) rfl (by kernel_rfl) (by kernel_rfl) ?_
  all_goals iterate 5 (refine F.g rfl trivial rfl rfl fun K' k' => ?_; simp only [zz, reduceIte, Nat.reduceEqDiff, Nat.reduceAdd, hw1, hw3]; refine k' _ _ ?_; clear k' K')
  all_goals (try first | refine F.fork ?_ ?_ | refine F.fork3 ?_ ?_ ?_)
  all_goals first | (refine F.g rfl trivial rfl rfl fun K' k' => ?_; simp only [zz, reduceIte, Nat.reduceEqDiff, Nat.reduceLT, Nat.reduceLeDiff, Nat.reduceAdd, reduceCtorEq, Nat.reduceMul, sl56, el56, ok4, sz4, ag4, zt4, by4, hw1, hw3]; refine ⟨by omega, by omega, fun k1 hk1 => ?_⟩ <;> (refine k' _ _ ?_; clear k' K')) | (refine F.g rfl trivial rfl rfl fun K' k' => ?_; simp only [zz, reduceIte, Nat.reduceEqDiff, Nat.reduceLT, Nat.reduceLeDiff, Nat.reduceAdd, reduceCtorEq, Nat.reduceMul, hw1, hw3]; refine (Own.frz (Low_grow (u + 1) (blen (u + 1)) _ hb2 hb)).to fun v σ1 hv => ?_; obtain ⟨rfl, rfl⟩ := hv <;> (refine k' _ _ ?_; clear k' K'))
  all_goals first | (refine F.g rfl trivial rfl rfl fun K' k' => ?_; simp only [zz, reduceIte, Nat.reduceEqDiff, Nat.reduceLT, Nat.reduceLeDiff, Nat.reduceAdd, reduceCtorEq, Nat.reduceMul, hw1, hw3]; refine (Own.frz (Low_grow (u + 1) (blen (u + 1)) _ hb2 hb)).to fun v σ1 hv => ?_; obtain ⟨rfl, rfl⟩ := hv <;> (refine k' _ _ ?_; clear k' K')) | (refine F.g rfl trivial rfl rfl fun K' k' => ?_; simp only [zz, reduceIte, Nat.reduceEqDiff, Nat.reduceLT, Nat.reduceLeDiff, Nat.reduceAdd, reduceCtorEq, Nat.reduceMul, sl56, el56, ok4, sz4, ag4, zt4, by4, hw1, hw3]; refine ⟨by omega, by omega, fun k1 hk1 => ?_⟩ <;> (refine k' _ _ ?_; clear k' K'))
  all_goals (refine F.g rfl trivial rfl rfl fun K' k' => ?_; simp only [zz, reduceIte, Nat.reduceEqDiff, Nat.reduceLT, Nat.reduceLeDiff, Nat.reduceAdd, reduceCtorEq, Nat.reduceMul, sl56, el56, ok4, sz4, ag4, zt4, by4, hw1, hw3]; refine ⟨encT_len, by unfold maxLen; simp only [lowB_len]; omega, by unfold reach; simp only [lowB_len]; omega, fun k2 hk2 => ?_⟩ <;> (refine k' _ _ ?_; clear k' K'))
  all_goals (refine F.g rfl trivial rfl rfl fun K' k' => ?_; simp only [zz, reduceIte, Nat.reduceEqDiff, Nat.reduceAdd, hw1, hw3]; refine k' _ _ ?_; clear k' K')
  all_goals refine F.nil ?_
  all_goals simp only [ze, reduceIte, Nat.reduceEqDiff, Nat.reduceLT, Nat.reduceLeDiff, Nat.reduceAdd, reduceCtorEq, Nat.reduceMul, hw1, hw3]
  all_goals first | refine h5 _ _ ?_ | refine h4 _ _ ?_ | refine h3 _ _ ?_ | refine h2 _ _ ?_ | refine h1 _ _ ?_
  all_goals refine AW.ret ?_
  all_goals simp only [zs, reduceIte, Nat.reduceEqDiff, Nat.reduceLT, Nat.reduceLeDiff, Nat.reduceAdd, reduceCtorEq, Nat.reduceMul]
  all_goals
    refine ⟨k2, rfl, gr_del hk1 hk2, ?_⟩
    rw [Hp.setGr_none hk1, natB, if_neg hm]
    simp [encT]
end Go.Abs.M
namespace Go.Abs.M
open Go Go.Abs Go.Proofs
set_option maxRecDepth 20000
set_option linter.unusedSimpArgs false
set_option linter.unusedVariables false

theorem Num_grow (n : Int) (σ : Hp) (hn : inI64 n) : ACalls Try.prog 120 [.c (.int .i64 n)] σ (Own (numB n) σ) := by
  have hz := (zig_bits n hn).2
  refine ACalls.intro Try.call120 Try.func120 rfl Try.ntmps120 Try.results120 (by simp) ?_
  refine AW.seq_k fun K1 h1 => ?_
  all_goals refine AW.reg0 ?_
  all_goals (refine S.g rfl rfl fun K' k' => ?_; simp only [zz, reduceIte, Nat.reduceEqDiff, Nat.reduceAdd]; refine k' _ _ ?_; clear k' K')
  all_goals refine S.nil ?_
  all_goals simp only [ze, reduceIte, Nat.reduceEqDiff, Nat.reduceLT, Nat.reduceLeDiff, Nat.reduceAdd, reduceCtorEq, Nat.reduceMul]
  all_goals first | refine h1 _ _ ?_
  refine AW.seq_k fun K2 h2 => ?_
  all_goals refine AW.reg0 ?_
  all_goals (refine S.g rfl rfl fun K' k' => ?_; simp only [zz, reduceIte, Nat.reduceEqDiff, Nat.reduceAdd]; refine k' _ _ ?_; clear k' K')
  all_goals (refine S.g rfl rfl fun K' k' => ?_; simp only [zz, reduceIte, Nat.reduceEqDiff, Nat.reduceLT, Nat.reduceLeDiff, Nat.reduceAdd, reduceCtorEq, Nat.reduceMul]; refine PCalls.eqto (zig_spec _ hn) ?_ <;> (refine k' _ _ ?_; clear k' K'))
  all_goals (refine S.g rfl rfl fun K' k' => ?_; simp only [zz, reduceIte, Nat.reduceEqDiff, Nat.reduceLT, Nat.reduceLeDiff, Nat.reduceAdd, reduceCtorEq, Nat.reduceMul]; refine (Nat_grow (zigB n) _ hz).to fun v σ1 hv => ?_; obtain ⟨k, rfl, hk, rfl⟩ := hv <;> (refine k' _ _ ?_; clear k' K'))
  all_goals (refine S.g rfl rfl fun K' k' => ?_; simp only [zz, reduceIte, Nat.reduceEqDiff, Nat.reduceAdd]; refine k' _ _ ?_; clear k' K')
  all_goals refine S.nil ?_
  all_goals simp only [ze, reduceIte, Nat.reduceEqDiff, Nat.reduceLT, Nat.reduceLeDiff, Nat.reduceAdd, reduceCtorEq, Nat.reduceMul]
  all_goals first | refine h2 _ _ ?_ | refine h1 _ _ ?_
  refine AW.ret ?_
  all_goals simp only [zs, reduceIte, Nat.reduceEqDiff, Nat.reduceLT, Nat.reduceLeDiff, Nat.reduceAdd, reduceCtorEq, Nat.reduceMul]
  exact ⟨k, rfl, hk, rfl⟩
theorem Text_grow (t : ByteArray) (σ : Hp) (ht : t.size < 1099511627776) : ACalls Try.prog 91 [.c (.string t)] σ (Own (textB t) σ) := by
  refine ACalls.intro Try.call91 Try.func91 rfl Try.ntmps91 Try.results91 (by simp) ?_
  have hwu : IntKind.u64.wrap (t.size : Int) = (t.size : Int) := wrap_u64 (by omega)
  have hel : t.data.toList.length = t.size := rfl
  have hnl : (natB t.size).length ≤ 129 := by rw [natB_len]; exact sizeB_le (by omega)
  refine AW.seq_k fun K1 h1 => ?_
  all_goals refine AW.reg0 ?_
  all_goals (refine S.g rfl rfl fun K' k' => ?_; simp only [zz, reduceIte, Nat.reduceEqDiff, Nat.reduceAdd]; refine k' _ _ ?_; clear k' K')
  all_goals refine S.nil ?_
  all_goals simp only [ze, reduceIte, Nat.reduceEqDiff, Nat.reduceLT, Nat.reduceLeDiff, Nat.reduceAdd, reduceCtorEq, Nat.reduceMul]
  all_goals first | refine h1 _ _ ?_
  refine AW.seq_k fun K2 h2 => ?_
  all_goals refine AW.reg0 ?_
  all_goals iterate 3 (refine S.g rfl rfl fun K' k' => ?_; simp only [zz, reduceIte, Nat.reduceEqDiff, Nat.reduceLT, Nat.reduceLeDiff, Nat.reduceAdd, reduceCtorEq, Nat.reduceMul, st9, cv3_54, hwu]; refine k' _ _ ?_; clear k' K')
  all_goals (refine S.g rfl rfl fun K' k' => ?_; simp only [zz, reduceIte, Nat.reduceEqDiff, Nat.reduceLT, Nat.reduceLeDiff, Nat.reduceAdd, reduceCtorEq, Nat.reduceMul, hwu]; refine (Nat_grow t.size _ (by omega)).to fun v σ1 hv => ?_; obtain ⟨k, rfl, hk, rfl⟩ := hv <;> (refine k' _ _ ?_; clear k' K'))
  all_goals (refine S.g rfl rfl fun K' k' => ?_; simp only [zz, reduceIte, Nat.reduceEqDiff, Nat.reduceAdd, hwu]; refine k' _ _ ?_; clear k' K')
  all_goals refine S.nil ?_
  all_goals simp only [ze, reduceIte, Nat.reduceEqDiff, Nat.reduceLT, Nat.reduceLeDiff, Nat.reduceAdd, reduceCtorEq, Nat.reduceMul, hwu]
  all_goals first | refine h2 _ _ ?_ | refine h1 _ _ ?_
  refine AW.seq_k fun K3 h3 => ?_
  refine AW.seq_k fun K4 h4 => ?_
  all_goals refine AW.reg0 ?_
  all_goals (refine S.g rfl rfl fun K' k' => ?_; simp only [zz, reduceIte, Nat.reduceEqDiff, Nat.reduceAdd]; refine k' _ _ ?_; clear k' K')
  all_goals refine S.nil ?_
  all_goals simp only [ze, reduceIte, Nat.reduceEqDiff, Nat.reduceLT, Nat.reduceLeDiff, Nat.reduceAdd, reduceCtorEq, Nat.reduceMul]
  all_goals first | refine h4 _ _ ?_ | refine h3 _ _ ?_ | refine h2 _ _ ?_ | refine h1 _ _ ?_
  refine AW.block ?_   -- 0
  refine AW.loop (fun m s σ' => ∃ i, m = t.size - i ∧ i ≤ t.size ∧ s.t 0 = .c (.string t) ∧ s.t 4 = .c (.int .i64 (i : Nat)) ∧ Own (natB t.size ++ (t.data.toList.take i).flatMap fun b => lowB b.toNat 8) σ (s.t 3) σ') t.size ?_ ?_
  · refine ⟨0, rfl, Nat.zero_le _, ?_⟩
    all_goals simp only [zs, reduceIte, Nat.reduceEqDiff, Nat.reduceLT, Nat.reduceLeDiff, Nat.reduceAdd, reduceCtorEq, Nat.reduceMul]
    exact ⟨rfl, k, rfl, hk, by simp⟩
  clear hk
  rintro m s σ' ⟨i, hm, hi, e0, e4, k, e3, hk, rfl⟩
  refine AW.seq_k fun K5 h5 => ?_
  refine AW.seq_k fun K6 h6 => ?_
  all_goals refine AW.reg0 ?_
  all_goals iterate 4 (refine S.g rfl rfl fun K' k' => ?_; simp only [zz, reduceIte, Nat.reduceEqDiff, Nat.reduceLT, Nat.reduceLeDiff, Nat.reduceAdd, reduceCtorEq, Nat.reduceMul, st9, e0, e4]; refine k' _ _ ?_; clear k' K')
  all_goals refine S.nil ?_
  all_goals simp only [ze, reduceIte, Nat.reduceEqDiff, Nat.reduceLT, Nat.reduceLeDiff, Nat.reduceAdd, reduceCtorEq, Nat.reduceMul, e0, e4]
  all_goals first | refine h6 _ _ ?_ | refine h5 _ _ ?_ | refine h4 _ _ ?_ | refine h3 _ _ ?_ | refine h2 _ _ ?_ | refine h1 _ _ ?_
  refine AW.cond (b := decide (i < t.size)) (by simp [ev]) (fun hc => ?_) (fun hc => ?_)
  · have hin := of_decide_eq_true hc
    refine AW.skip ?_
    all_goals simp only [zs, reduceIte, Nat.reduceEqDiff, Nat.reduceLT, Nat.reduceLeDiff, Nat.reduceAdd, reduceCtorEq, Nat.reduceMul]
    all_goals first | refine h6 _ _ ?_ | refine h5 _ _ ?_ | refine h4 _ _ ?_ | refine h3 _ _ ?_ | refine h2 _ _ ?_ | refine h1 _ _ ?_
    obtain ⟨b, hb⟩ : ∃ b, t.data.toList[i]? = some b := ⟨_, List.getElem?_eq_getElem (by rw [hel]; exact hin)⟩
    have hbe : t.data.getD i 0 = b := by
      rw [Array.getD_eq_getD_getElem?, ← Array.getElem?_toList, hb]; rfl
    have hb256 : b.toNat < 256 := b.toNat_lt
    have hwb : IntKind.u64.wrap (b.toNat : Int) = (b.toNat : Int) := wrap_u64 (by omega)
    have hwi : IntKind.i64.wrap ((i : Int) + 1) = ((i + 1 : Nat) : Int) := by rw [wrap_small _ (by omega) (by omega)]; rfl
    have hel8 : (8 : Int) = ((8 : Nat) : Int) := rfl
    refine AW.seq_k fun K7 h7 => ?_
    refine AW.block ?_   -- 1
    all_goals refine AW.reg0 ?_
    all_goals iterate 5 (refine S.g rfl rfl fun K' k' => ?_; simp only [zz, reduceIte, Nat.reduceEqDiff, Nat.reduceLT, Nat.reduceLeDiff, Nat.reduceAdd, reduceCtorEq, Nat.reduceMul, st9, cv5_54, e0, e3, e4, hin, hbe, hwb]; refine k' _ _ ?_; clear k' K')
    all_goals (refine S.g rfl rfl fun K' k' => ?_; simp only [zz, reduceIte, Nat.reduceEqDiff, Nat.reduceLT, Nat.reduceLeDiff, Nat.reduceAdd, reduceCtorEq, Nat.reduceMul, e0, e3, e4, hin, hbe, hwb]; refine (Own.frz (Low_grow b.toNat 8 _ (by omega) (by omega))).to fun v σ1 hv => ?_; obtain ⟨rfl, rfl⟩ := hv <;> (refine k' _ _ ?_; clear k' K'))
    all_goals (refine S.g rfl rfl fun K' k' => ?_; simp only [zz, reduceIte, Nat.reduceEqDiff, Nat.reduceLT, Nat.reduceLeDiff, Nat.reduceAdd, reduceCtorEq, Nat.reduceMul, sl56, el56, ok4, sz4, ag4, zt4, by4, e0, e3, e4, hin, hbe, hwb]; refine ⟨encT_len, by unfold maxLen; simp only [lowB_len, List.length_append, flat_len, List.length_take]; omega, by unfold reach; simp only [lowB_len, List.length_append, flat_len, List.length_take]; omega, fun k2 hk2 => ?_⟩ <;> (refine k' _ _ ?_; clear k' K'))
    all_goals (refine S.g rfl rfl fun K' k' => ?_; simp only [zz, reduceIte, Nat.reduceEqDiff, Nat.reduceAdd, e0, e3, e4, hin, hbe, hwb]; refine k' _ _ ?_; clear k' K')
    all_goals refine S.nil ?_
    all_goals simp only [ze, reduceIte, Nat.reduceEqDiff, Nat.reduceLT, Nat.reduceLeDiff, Nat.reduceAdd, reduceCtorEq, Nat.reduceMul, e0, e3, e4, hin, hbe, hwb]
    all_goals first | refine h7 _ _ ?_ | refine h6 _ _ ?_ | refine h5 _ _ ?_ | refine h4 _ _ ?_ | refine h3 _ _ ?_ | refine h2 _ _ ?_ | refine h1 _ _ ?_
    all_goals refine AW.reg0 ?_
    all_goals iterate 3 (refine S.g rfl rfl fun K' k' => ?_; simp only [zz, reduceIte, Nat.reduceEqDiff, Nat.reduceAdd, e4, hwi]; refine k' _ _ ?_; clear k' K')
    all_goals refine S.nil ?_
    all_goals simp only [ze, reduceIte, Nat.reduceEqDiff, Nat.reduceLT, Nat.reduceLeDiff, Nat.reduceAdd, reduceCtorEq, Nat.reduceMul, e4, hwi]
    refine ⟨t.size - (i + 1), by omega, i + 1, rfl, by omega, e0, rfl, k2, rfl, gr_del hk hk2, ?_⟩
    rw [Hp.setGr_none hk, List.take_add_one, hb, List.flatMap_append]
    simp
  · have hin := of_decide_eq_false hc
    have hi2 : i = t.size := by omega
    subst hi2
    refine AW.exit ?_
    all_goals simp only [zs, reduceIte, Nat.reduceEqDiff, Nat.reduceLT, Nat.reduceLeDiff, Nat.reduceAdd, reduceCtorEq, Nat.reduceMul]
    all_goals first | refine h7 _ _ ?_ | refine h6 _ _ ?_ | refine h5 _ _ ?_ | refine h4 _ _ ?_ | refine h3 _ _ ?_ | refine h2 _ _ ?_ | refine h1 _ _ ?_
    refine AW.seq_k fun K8 h8 => ?_
    all_goals refine AW.reg0 ?_
    all_goals iterate 2 (refine S.g rfl rfl fun K' k' => ?_; simp only [zz, reduceIte, Nat.reduceEqDiff, Nat.reduceAdd, e3]; refine k' _ _ ?_; clear k' K')
    all_goals refine S.nil ?_
    all_goals simp only [ze, reduceIte, Nat.reduceEqDiff, Nat.reduceLT, Nat.reduceLeDiff, Nat.reduceAdd, reduceCtorEq, Nat.reduceMul, e3]
    all_goals first | refine h8 _ _ ?_ | refine h7 _ _ ?_ | refine h6 _ _ ?_ | refine h5 _ _ ?_ | refine h4 _ _ ?_ | refine h3 _ _ ?_ | refine h2 _ _ ?_ | refine h1 _ _ ?_
    refine AW.ret ?_
    all_goals simp only [zs, reduceIte, Nat.reduceEqDiff, Nat.reduceLT, Nat.reduceLeDiff, Nat.reduceAdd, reduceCtorEq, Nat.reduceMul]
    refine ⟨k, rfl, hk, ?_⟩
    rw [List.take_of_length_le (by rw [hel]; omega)]; rfl
end Go.Abs.M
namespace Go.Abs.M
open Go Go.Abs Go.Proofs
set_option maxRecDepth 20000
set_option linter.unusedSimpArgs false
set_option linter.unusedVariables false

theorem flatT {α : Type} {f : α → List Bool} {l : List α} {i : Nat} {a : α} (h : l[i]? = some a) : (l.take (i + 1)).flatMap f = (l.take i).flatMap f ++ f a := by
  rw [List.take_add_one, h, List.flatMap_append]; simp
theorem evForm_grow (e : Ev) (σ : Hp) (he : goodE e) : ACalls Try.prog 92 [.agg (encEv e)] σ (Own (evB e) σ) := by
  have hbits := ev_bits he
  obtain ⟨hsrc, hseq, htime, htype, hlen, hat⟩ := he
  refine ACalls.intro Try.call92 Try.func92 rfl Try.ntmps92 Try.results92 (by simp) ?_
  have hw1 : IntKind.u64.wrap e.src = ((e.src.toNat : Nat) : Int) := by rw [show e.src = ((e.src.toNat : Nat) : Int) by omega, wrap_u64 (by omega)]; simp
  have hw2 : IntKind.u64.wrap e.seq = ((e.seq.toNat : Nat) : Int) := by rw [show e.seq = ((e.seq.toNat : Nat) : Int) by omega, wrap_u64 (by omega)]; simp
  have hw3 : IntKind.u64.wrap e.time = ((e.time.toNat : Nat) : Int) := by rw [show e.time = ((e.time.toNat : Nat) : Int) by omega, wrap_u64 (by omega)]; simp
  have hw4 : IntKind.u64.wrap (e.attrs.length : Int) = (e.attrs.length : Int) := wrap_u64 (by omega)
  have hfl : (evB e).length = 4 + ((natB e.seq.toNat).length + ((natB e.time.toNat).length + ((textB e.type).length + (4 + (e.attrs.flatMap attrB).length)))) := by simp only [evB, List.length_append, lowB_len]
  refine AW.seq_k fun K1 h1 => ?_
  all_goals refine AW.reg0 ?_
  all_goals iterate 2 (refine S.g rfl rfl fun K' k' => ?_; simp only [zz, reduceIte, Nat.reduceEqDiff, Nat.reduceLT, Nat.reduceLeDiff, Nat.reduceAdd, reduceCtorEq, Nat.reduceMul, ok36, sz36, ag36, encEv]; refine k' _ _ ?_; clear k' K')
  all_goals refine S.nil ?_
  all_goals simp only [ze, reduceIte, Nat.reduceEqDiff, Nat.reduceLT, Nat.reduceLeDiff, Nat.reduceAdd, reduceCtorEq, Nat.reduceMul, encEv]
  all_goals first | refine h1 _ _ ?_
  refine AW.seq_k fun K2 h2 => ?_
  all_goals refine AW.drawF (T := { sd := fun d => d == 1 }) (fun _ _ h => by cases h) mixedO (.st 0 0 (.st 1 0 (.st 5 0 (.st 6 0 (.st 2 1 (.st 3 0 (.st 7 1 (.st 8 0 (.st 4 2 (.st 9 2 (.st 10 2 (.st 11 0 .nil)))))))))))) rfl (by kernel_rfl) (by kernel_rfl) ?_
  all_goals iterate 4 (refine F.g rfl trivial rfl rfl fun K' k' => ?_; simp only [zz, reduceIte, Nat.reduceEqDiff, Nat.reduceLT, Nat.reduceLeDiff, Nat.reduceAdd, reduceCtorEq, Nat.reduceMul, of36_0, of33_0, of33_1, hw1, hw2]; refine k' _ _ ?_; clear k' K')
  all_goals (refine F.g rfl (by first | rfl | (simp only [stC, ze, reduceIte, Nat.reduceEqDiff, hw1, hw2]; done) | (simp only [stC, ze, reduceIte, Nat.reduceEqDiff, hw1, hw2]; rfl)) rfl rfl fun K' k' => ?_; simp only [zz, reduceIte, Nat.reduceEqDiff, Nat.reduceLT, Nat.reduceLeDiff, Nat.reduceAdd, reduceCtorEq, Nat.reduceMul, ok3, sz3, ag3, hw1, hw2]; refine k' _ _ ?_; clear k' K')
  all_goals (refine F.g rfl trivial rfl rfl fun K' k' => ?_; simp only [zz, reduceIte, Nat.reduceEqDiff, Nat.reduceAdd, cv3_54, hw1, hw2]; refine k' _ _ ?_; clear k' K')
  all_goals (refine F.g rfl (by first | rfl | (simp only [stC, ze, reduceIte, Nat.reduceEqDiff, hw1, hw2]; done) | (simp only [stC, ze, reduceIte, Nat.reduceEqDiff, hw1, hw2]; rfl)) rfl rfl fun K' k' => ?_; simp only [zz, reduceIte, Nat.reduceEqDiff, Nat.reduceLT, Nat.reduceLeDiff, Nat.reduceAdd, reduceCtorEq, Nat.reduceMul, ok2, sz2, ag2, hw1, hw2]; refine k' _ _ ?_; clear k' K')
  all_goals (refine F.g rfl trivial rfl rfl fun K' k' => ?_; simp only [zz, reduceIte, Nat.reduceEqDiff, Nat.reduceAdd, cv2_54, hw1, hw2]; refine k' _ _ ?_; clear k' K')
  all_goals (refine F.g rfl trivial rfl rfl fun K' k' => ?_; simp only [zz, reduceIte, Nat.reduceEqDiff, Nat.reduceLT, Nat.reduceLeDiff, Nat.reduceAdd, reduceCtorEq, Nat.reduceMul, hw1, hw2]; refine (Low_grow e.src.toNat 4 _ (by omega) (by omega)).to fun v σ1 hv => ?_; obtain ⟨k0, rfl, hk0, rfl⟩ := hv <;> (refine k' _ _ ?_; clear k' K'))
  all_goals (refine F.g rfl trivial rfl rfl fun K' k' => ?_; simp only [zz, reduceIte, Nat.reduceEqDiff, Nat.reduceLT, Nat.reduceLeDiff, Nat.reduceAdd, reduceCtorEq, Nat.reduceMul, hw1, hw2]; refine (Own.frz (Nat_grow e.seq.toNat _ (by omega))).to fun v σ1 hv => ?_; obtain ⟨rfl, rfl⟩ := hv <;> (refine k' _ _ ?_; clear k' K'))
  all_goals (refine F.g rfl trivial rfl rfl fun K' k' => ?_; simp only [zz, reduceIte, Nat.reduceEqDiff, Nat.reduceLT, Nat.reduceLeDiff, Nat.reduceAdd, reduceCtorEq, Nat.reduceMul, sl56, el56, ok4, sz4, ag4, zt4, by4, hw1, hw2]; refine ⟨encT_len, by unfold maxLen; simp only [lowB_len]; omega, by unfold reach; simp only [lowB_len]; omega, fun k hk => ?_⟩; have hk := gr_del hk0 hk; simp only [Hp.setGr_none hk0] <;> (refine k' _ _ ?_; clear k' K'))
  all_goals (refine F.g rfl trivial rfl rfl fun K' k' => ?_; simp only [zz, reduceIte, Nat.reduceEqDiff, Nat.reduceAdd, hw1, hw2]; refine k' _ _ ?_; clear k' K')
  all_goals refine F.nil ?_
  all_goals simp only [ze, reduceIte, Nat.reduceEqDiff, Nat.reduceLT, Nat.reduceLeDiff, Nat.reduceAdd, reduceCtorEq, Nat.reduceMul, hw1, hw2]
  all_goals first | refine h2 _ _ ?_ | refine h1 _ _ ?_
  refine AW.seq_k fun K3 h3 => ?_
  all_goals refine AW.drawF (T := { sd := fun d => d == 1 }) (fun _ _ h => by cases h) mixedO (.st 0 0 (.st 1 0 (.st 6 0 (.st 2 1 (.st 3 0 (.st 7 1 (.st 4 2 (.st 5 2 (.st 8 2 (.st 9 2 (.st 10 0 .nil))))))))))) rfl (by kernel_rfl) (by kernel_rfl) ?_
  all_goals iterate 3 (refine F.g rfl trivial rfl rfl fun K' k' => ?_; simp only [zz, reduceIte, Nat.reduceEqDiff, Nat.reduceLT, Nat.reduceLeDiff, Nat.reduceAdd, reduceCtorEq, Nat.reduceMul, of36_1, of36_2, hw3]; refine k' _ _ ?_; clear k' K')
  all_goals (refine F.g rfl (by first | rfl | (simp only [stC, ze, reduceIte, Nat.reduceEqDiff, hw3]; done) | (simp only [stC, ze, reduceIte, Nat.reduceEqDiff, hw3]; rfl)) rfl rfl fun K' k' => ?_; simp only [zz, reduceIte, Nat.reduceEqDiff, Nat.reduceLT, Nat.reduceLeDiff, Nat.reduceAdd, reduceCtorEq, Nat.reduceMul, ok2, sz2, ag2, hw3]; refine k' _ _ ?_; clear k' K')
  all_goals (refine F.g rfl trivial rfl rfl fun K' k' => ?_; simp only [zz, reduceIte, Nat.reduceEqDiff, Nat.reduceAdd, cv2_54, hw3]; refine k' _ _ ?_; clear k' K')
  all_goals (refine F.g rfl (by first | rfl | (simp only [stC, ze, reduceIte, Nat.reduceEqDiff, hw3]; done) | (simp only [stC, ze, reduceIte, Nat.reduceEqDiff, hw3]; rfl)) rfl rfl fun K' k' => ?_; simp only [zz, reduceIte, Nat.reduceEqDiff, Nat.reduceLT, Nat.reduceLeDiff, Nat.reduceAdd, reduceCtorEq, Nat.reduceMul, ok9, sz9, ag9, hw3]; refine k' _ _ ?_; clear k' K')
  all_goals (refine F.g rfl trivial rfl rfl fun K' k' => ?_; simp only [zz, reduceIte, Nat.reduceEqDiff, Nat.reduceLT, Nat.reduceLeDiff, Nat.reduceAdd, reduceCtorEq, Nat.reduceMul, hw3]; refine (Own.frz (Nat_grow e.time.toNat _ (by omega))).to fun v σ1 hv => ?_; obtain ⟨rfl, rfl⟩ := hv <;> (refine k' _ _ ?_; clear k' K'))
  all_goals (refine F.g rfl trivial rfl rfl fun K' k' => ?_; simp only [zz, reduceIte, Nat.reduceEqDiff, Nat.reduceLT, Nat.reduceLeDiff, Nat.reduceAdd, reduceCtorEq, Nat.reduceMul, sl56, el56, ok4, sz4, ag4, zt4, by4, hw3]; refine ⟨encT_len, by unfold maxLen; simp only [lowB_len, List.length_append, List.length_map]; omega, by unfold reach; simp only [lowB_len, List.length_append, List.length_map]; omega, fun k2 hk2 => ?_⟩; have hk2 := gr_del hk hk2; simp only [Hp.setGr_none hk] <;> (refine k' _ _ ?_; clear k' K'))
  all_goals (refine F.g rfl trivial rfl rfl fun K' k' => ?_; simp only [zz, reduceIte, Nat.reduceEqDiff, Nat.reduceLT, Nat.reduceLeDiff, Nat.reduceAdd, reduceCtorEq, Nat.reduceMul, hw3]; refine (Own.frz (Text_grow e.type _ (by omega))).to fun v σ1 hv => ?_; obtain ⟨rfl, rfl⟩ := hv <;> (refine k' _ _ ?_; clear k' K'))
  all_goals (refine F.g rfl trivial rfl rfl fun K' k' => ?_; simp only [zz, reduceIte, Nat.reduceEqDiff, Nat.reduceLT, Nat.reduceLeDiff, Nat.reduceAdd, reduceCtorEq, Nat.reduceMul, sl56, el56, ok4, sz4, ag4, zt4, by4, hw3]; refine ⟨encT_len, by unfold maxLen; simp only [lowB_len, List.length_append, List.length_map]; omega, by unfold reach; simp only [lowB_len, List.length_append, List.length_map]; omega, fun k3 hk3 => ?_⟩; have hk3 := gr_del hk2 hk3; simp only [Hp.setGr_none hk2] <;> (refine k' _ _ ?_; clear k' K'))
  all_goals (refine F.g rfl trivial rfl rfl fun K' k' => ?_; simp only [zz, reduceIte, Nat.reduceEqDiff, Nat.reduceAdd, hw3]; refine k' _ _ ?_; clear k' K')
  all_goals refine F.nil ?_
  all_goals simp only [ze, reduceIte, Nat.reduceEqDiff, Nat.reduceLT, Nat.reduceLeDiff, Nat.reduceAdd, reduceCtorEq, Nat.reduceMul, hw3]
  all_goals first | refine h3 _ _ ?_ | refine h2 _ _ ?_ | refine h1 _ _ ?_
  refine AW.seq_k fun K4 h4 => ?_
  all_goals refine AW.reg0 ?_
  all_goals iterate 5 (refine S.g rfl rfl fun K' k' => ?_; simp only [zz, reduceIte, Nat.reduceEqDiff, Nat.reduceLT, Nat.reduceLeDiff, Nat.reduceAdd, reduceCtorEq, Nat.reduceMul, of36_3, ok34, sz34, ag34, sl34, el34, ok143, sz143, ag143, cv3_54, hw4]; refine k' _ _ ?_; clear k' K')
  all_goals (refine S.g rfl rfl fun K' k' => ?_; simp only [zz, reduceIte, Nat.reduceEqDiff, Nat.reduceLT, Nat.reduceLeDiff, Nat.reduceAdd, reduceCtorEq, Nat.reduceMul, hw4]; refine (Own.frz (Low_grow e.attrs.length 4 _ (by omega) (by omega))).to fun v σ1 hv => ?_; obtain ⟨rfl, rfl⟩ := hv <;> (refine k' _ _ ?_; clear k' K'))
  all_goals (refine S.g rfl rfl fun K' k' => ?_; simp only [zz, reduceIte, Nat.reduceEqDiff, Nat.reduceLT, Nat.reduceLeDiff, Nat.reduceAdd, reduceCtorEq, Nat.reduceMul, sl56, el56, ok4, sz4, ag4, zt4, by4, hw4]; refine ⟨encT_len, by unfold maxLen; simp only [lowB_len, List.length_append, List.length_map]; omega, by unfold reach; simp only [lowB_len, List.length_append, List.length_map]; omega, fun k4 hk4 => ?_⟩; have hk4 := gr_del hk3 hk4; simp only [Hp.setGr_none hk3] <;> (refine k' _ _ ?_; clear k' K'))
  all_goals (refine S.g rfl rfl fun K' k' => ?_; simp only [zz, reduceIte, Nat.reduceEqDiff, Nat.reduceAdd, hw4]; refine k' _ _ ?_; clear k' K')
  all_goals refine S.nil ?_
  all_goals simp only [ze, reduceIte, Nat.reduceEqDiff, Nat.reduceLT, Nat.reduceLeDiff, Nat.reduceAdd, reduceCtorEq, Nat.reduceMul, hw4]
  all_goals first | refine h4 _ _ ?_ | refine h3 _ _ ?_ | refine h2 _ _ ?_ | refine h1 _ _ ?_
  refine AW.seq_k fun K5 h5 => ?_
  refine AW.seq_k fun K6 h6 => ?_
  all_goals refine AW.reg0 ?_
  all_goals (refine S.g rfl rfl fun K' k' => ?_; simp only [zz, reduceIte, Nat.reduceEqDiff, Nat.reduceAdd]; refine k' _ _ ?_; clear k' K')
  all_goals refine S.nil ?_
  all_goals simp only [ze, reduceIte, Nat.reduceEqDiff, Nat.reduceLT, Nat.reduceLeDiff, Nat.reduceAdd, reduceCtorEq, Nat.reduceMul]
  all_goals first | refine h6 _ _ ?_ | refine h5 _ _ ?_ | refine h4 _ _ ?_ | refine h3 _ _ ?_ | refine h2 _ _ ?_ | refine h1 _ _ ?_
  refine AW.block ?_   -- 0
  refine AW.loop (fun m s σ' => ∃ i, m = e.attrs.length - i ∧ i ≤ e.attrs.length ∧ s.t 1 = .lp 1 0 ∧ s.l 1 = some (encEv e) ∧ s.t 4 = .c (.int .i64 (i : Nat)) ∧
    Own (lowB e.src.toNat 4 ++ (natB e.seq.toNat ++ (natB e.time.toNat ++ (textB e.type ++ (lowB e.attrs.length 4 ++ (e.attrs.take i).flatMap attrB))))) σ (s.t 3) σ') e.attrs.length ?_ ?_
  · refine ⟨0, rfl, Nat.zero_le _, ?_⟩
    all_goals simp only [zs, reduceIte, Nat.reduceEqDiff, Nat.reduceLT, Nat.reduceLeDiff, Nat.reduceAdd, reduceCtorEq, Nat.reduceMul]
    exact ⟨rfl, rfl, k4, rfl, hk4, by simp⟩
  clear hk0 hk hk2 hk3 hk4
  rintro m s σ' ⟨i, hm, hi, e1, l1, e4, k, e3, hk, rfl⟩
  unfold encEv at l1
  refine AW.seq_k fun K7 h7 => ?_
  refine AW.seq_k fun K8 h8 => ?_
  all_goals refine AW.reg0 ?_
  all_goals iterate 5 (refine S.g rfl rfl fun K' k' => ?_; simp only [zz, reduceIte, Nat.reduceEqDiff, Nat.reduceLT, Nat.reduceLeDiff, Nat.reduceAdd, reduceCtorEq, Nat.reduceMul, of36_3, ok34, sz34, ag34, sl34, el34, ok143, sz143, ag143, e1, l1, e4]; refine k' _ _ ?_; clear k' K')
  all_goals refine S.nil ?_
  all_goals simp only [ze, reduceIte, Nat.reduceEqDiff, Nat.reduceLT, Nat.reduceLeDiff, Nat.reduceAdd, reduceCtorEq, Nat.reduceMul, e1, l1, e4]
  all_goals first | refine h8 _ _ ?_ | refine h7 _ _ ?_ | refine h6 _ _ ?_ | refine h5 _ _ ?_ | refine h4 _ _ ?_ | refine h3 _ _ ?_ | refine h2 _ _ ?_ | refine h1 _ _ ?_
  refine AW.cond (b := decide (i < e.attrs.length)) (by simp [ev]) (fun hc => ?_) (fun hc => ?_)
  · have hin := of_decide_eq_true hc
    refine AW.skip ?_
    all_goals simp only [zs, reduceIte, Nat.reduceEqDiff, Nat.reduceLT, Nat.reduceLeDiff, Nat.reduceAdd, reduceCtorEq, Nat.reduceMul]
    all_goals first | refine h8 _ _ ?_ | refine h7 _ _ ?_ | refine h6 _ _ ?_ | refine h5 _ _ ?_ | refine h4 _ _ ?_ | refine h3 _ _ ?_ | refine h2 _ _ ?_ | refine h1 _ _ ?_
    obtain ⟨a, ha⟩ : ∃ a, e.attrs[i]? = some a := ⟨_, List.getElem?_eq_getElem hin⟩
    have hae : (e.attrs.map encAttr).getD i [] = encAttr a := by simp [List.getD, ha]
    have htk := flatT (f := attrB) ha
    have hle : ((e.attrs.take (i + 1)).flatMap attrB).length ≤ (e.attrs.flatMap attrB).length := by
      conv => rhs; rw [← List.take_append_drop (i + 1) e.attrs]
      rw [List.flatMap_append, List.length_append]; omega
    have hgoal : lowB e.src.toNat 4 ++ (natB e.seq.toNat ++ (natB e.time.toNat ++ (textB e.type ++ (lowB e.attrs.length 4 ++ (e.attrs.take (i + 1)).flatMap attrB)))) = (lowB e.src.toNat 4 ++ (natB e.seq.toNat ++ (natB e.time.toNat ++ (textB e.type ++ (lowB e.attrs.length 4 ++ (e.attrs.take i).flatMap attrB))))) ++ textB a.name ++ lowB a.v.kind.toNat 2 ++ (if a.v.kind = 1 then numB a.v.n else textB a.v.s) := by
      rw [htk]; simp [attrB, vbB]
    have hbl : (lowB e.src.toNat 4 ++ (natB e.seq.toNat ++ (natB e.time.toNat ++ (textB e.type ++ (lowB e.attrs.length 4 ++ (e.attrs.take i).flatMap attrB))))).length = 4 + ((natB e.seq.toNat).length + ((natB e.time.toNat).length + ((textB e.type).length + (4 + ((e.attrs.take i).flatMap attrB).length)))) := by simp only [List.length_append, lowB_len]
    generalize lowB e.src.toNat 4 ++ (natB e.seq.toNat ++ (natB e.time.toNat ++ (textB e.type ++ (lowB e.attrs.length 4 ++ (e.attrs.take i).flatMap attrB)))) = bs2 at *
    obtain ⟨ha1, ha2, ha3, ha4⟩ := hat a (List.mem_of_getElem? ha)
    have hnb := sz_bits (s := a.name) (by omega)
    have hsb := sz_bits (s := a.v.s) (by omega)
    have hvb : (numB a.v.n).length ≤ 129 := by rw [numB, natB_len]; exact sizeB_le (zig_bits a.v.n ha4).2
    have hle2 : ((e.attrs.take i).flatMap attrB).length ≤ (e.attrs.flatMap attrB).length := by rw [htk, List.length_append] at hle; omega
    clear htk hle
    have hwk : IntKind.u64.wrap a.v.kind = ((a.v.kind.toNat : Nat) : Int) := by rw [show a.v.kind = ((a.v.kind.toNat : Nat) : Int) by omega, wrap_u64 (by omega)]; simp
    have hwi : IntKind.i64.wrap ((i : Int) + 1) = ((i + 1 : Nat) : Int) := by rw [wrap_small _ (by omega) (by omega)]; rfl
    have hkd : (a.v.kind == 1) = decide (a.v.kind = 1) := by rw [Bool.eq_iff_iff]; simp
    refine AW.seq_k fun K9 h9 => ?_
    refine AW.block ?_   -- 1
    refine AW.seq_k fun K10 h10 => ?_
    all_goals refine AW.reg0 ?_
    all_goals iterate 7 (refine S.g rfl rfl fun K' k' => ?_; simp only [zz, reduceIte, Nat.reduceEqDiff, Nat.reduceLT, Nat.reduceLeDiff, Nat.reduceAdd, reduceCtorEq, Nat.reduceMul, of36_3, ok34, sz34, ag34, sl34, el34, ok143, sz143, ag143, zt143, e1, l1, e4, hin, hae, encAttr, List.length_singleton, List.getD_cons_zero]; refine k' _ _ ?_; clear k' K')
    all_goals refine S.nil ?_
    all_goals simp only [ze, reduceIte, Nat.reduceEqDiff, Nat.reduceLT, Nat.reduceLeDiff, Nat.reduceAdd, reduceCtorEq, Nat.reduceMul, e1, l1, e4, hin, hae, encAttr, List.length_singleton, List.getD_cons_zero]
    all_goals first | refine h10 _ _ ?_ | refine h9 _ _ ?_ | refine h8 _ _ ?_ | refine h7 _ _ ?_ | refine h6 _ _ ?_ | refine h5 _ _ ?_ | refine h4 _ _ ?_ | refine h3 _ _ ?_ | refine h2 _ _ ?_ | refine h1 _ _ ?_
    refine AW.seq_k fun K11 h11 => ?_
    all_goals refine AW.drawF (T := { sd := fun d => d == 5 }) (fun _ _ h => by cases h) mixedO (.st 0 0 (.st 1 0 (.st 5 0 (.st 6 0 (.st 2 1 (.st 7 1 (.st 8 0 (.st 3 2 (.st 4 2 (.st 9 2 (.st 10 2 (.st 11 0 .nil)))))))))))) rfl (by kernel_rfl) (by kernel_rfl) ?_
    all_goals iterate 4 (refine F.g rfl trivial rfl rfl fun K' k' => ?_; simp only [zz, reduceIte, Nat.reduceEqDiff, Nat.reduceLT, Nat.reduceLeDiff, Nat.reduceAdd, reduceCtorEq, Nat.reduceMul, of143_0, of143_1, of141_0, e3, hwk]; refine k' _ _ ?_; clear k' K')
    all_goals iterate 2 (refine F.g rfl (by first | rfl | (simp only [stC, ze, reduceIte, Nat.reduceEqDiff, e3, hwk]; done) | (simp only [stC, ze, reduceIte, Nat.reduceEqDiff, e3, hwk]; rfl)) rfl rfl fun K' k' => ?_; simp only [zz, reduceIte, Nat.reduceEqDiff, Nat.reduceLT, Nat.reduceLeDiff, Nat.reduceAdd, reduceCtorEq, Nat.reduceMul, ok9, sz9, ag9, ok3, sz3, ag3, e3, hwk]; refine k' _ _ ?_; clear k' K')
    all_goals (refine F.g rfl trivial rfl rfl fun K' k' => ?_; simp only [zz, reduceIte, Nat.reduceEqDiff, Nat.reduceAdd, cv3_54, e3, hwk]; refine k' _ _ ?_; clear k' K')
    all_goals (refine F.g rfl trivial rfl rfl fun K' k' => ?_; simp only [zz, reduceIte, Nat.reduceEqDiff, Nat.reduceLT, Nat.reduceLeDiff, Nat.reduceAdd, reduceCtorEq, Nat.reduceMul, e3, hwk]; refine (Own.frz (Text_grow a.name _ (by omega))).to fun v σ1 hv => ?_; obtain ⟨rfl, rfl⟩ := hv <;> (refine k' _ _ ?_; clear k' K'))
    all_goals (refine F.g rfl trivial rfl rfl fun K' k' => ?_; simp only [zz, reduceIte, Nat.reduceEqDiff, Nat.reduceLT, Nat.reduceLeDiff, Nat.reduceAdd, reduceCtorEq, Nat.reduceMul, sl56, el56, ok4, sz4, ag4, zt4, by4, e3, hwk]; refine ⟨encT_len, by unfold maxLen; omega, by unfold reach; omega, fun k2 hk2 => ?_⟩; have hk2 := gr_del hk hk2; simp only [Hp.setGr_none hk] <;> (refine k' _ _ ?_; clear k' K'))
    all_goals (refine F.g rfl trivial rfl rfl fun K' k' => ?_; simp only [zz, reduceIte, Nat.reduceEqDiff, Nat.reduceLT, Nat.reduceLeDiff, Nat.reduceAdd, reduceCtorEq, Nat.reduceMul, e3, hwk]; refine (Own.frz (Low_grow a.v.kind.toNat 2 _ (by omega) (by omega))).to fun v σ1 hv => ?_; obtain ⟨rfl, rfl⟩ := hv <;> (refine k' _ _ ?_; clear k' K'))
    all_goals (refine F.g rfl trivial rfl rfl fun K' k' => ?_; simp only [zz, reduceIte, Nat.reduceEqDiff, Nat.reduceLT, Nat.reduceLeDiff, Nat.reduceAdd, reduceCtorEq, Nat.reduceMul, sl56, el56, ok4, sz4, ag4, zt4, by4, e3, hwk]; refine ⟨encT_len, by unfold maxLen; simp only [lowB_len, List.length_append, List.length_map]; omega, by unfold reach; simp only [lowB_len, List.length_append, List.length_map]; omega, fun k3 hk3 => ?_⟩; have hk3 := gr_del hk2 hk3; simp only [Hp.setGr_none hk2] <;> (refine k' _ _ ?_; clear k' K'))
    all_goals (refine F.g rfl trivial rfl rfl fun K' k' => ?_; simp only [zz, reduceIte, Nat.reduceEqDiff, Nat.reduceAdd, e3, hwk]; refine k' _ _ ?_; clear k' K')
    all_goals refine F.nil ?_
    all_goals simp only [ze, reduceIte, Nat.reduceEqDiff, Nat.reduceLT, Nat.reduceLeDiff, Nat.reduceAdd, reduceCtorEq, Nat.reduceMul, e3, hwk]
    all_goals first | refine h11 _ _ ?_ | refine h10 _ _ ?_ | refine h9 _ _ ?_ | refine h8 _ _ ?_ | refine h7 _ _ ?_ | refine h6 _ _ ?_ | refine h5 _ _ ?_ | refine h4 _ _ ?_ | refine h3 _ _ ?_ | refine h2 _ _ ?_ | refine h1 _ _ ?_
    refine AW.seq_k fun K12 h12 => ?_
    all_goals refine AW.reg0 ?_
    all_goals iterate 4 (refine S.g rfl rfl fun K' k' => ?_; simp only [zz, reduceIte, Nat.reduceEqDiff, Nat.reduceLT, Nat.reduceLeDiff, Nat.reduceAdd, reduceCtorEq, Nat.reduceMul, of143_1, of141_0, ok3, sz3, ag3, hkd]; refine k' _ _ ?_; clear k' K')
    all_goals refine S.nil ?_
    all_goals simp only [ze, reduceIte, Nat.reduceEqDiff, Nat.reduceLT, Nat.reduceLeDiff, Nat.reduceAdd, reduceCtorEq, Nat.reduceMul, hkd]
    all_goals first | refine h12 _ _ ?_ | refine h11 _ _ ?_ | refine h10 _ _ ?_ | refine h9 _ _ ?_ | refine h8 _ _ ?_ | refine h7 _ _ ?_ | refine h6 _ _ ?_ | refine h5 _ _ ?_ | refine h4 _ _ ?_ | refine h3 _ _ ?_ | refine h2 _ _ ?_ | refine h1 _ _ ?_
    refine AW.cond (b := decide (a.v.kind = 1)) (by simp [ev]) (fun hc => ?_) (fun hc => ?_)
    · have hk1 := of_decide_eq_true hc
      rw [if_pos hk1] at hgoal
      all_goals refine AW.reg0 ?_
      all_goals iterate 4 (refine S.g rfl rfl fun K' k' => ?_; simp only [zz, reduceIte, Nat.reduceEqDiff, Nat.reduceLT, Nat.reduceLeDiff, Nat.reduceAdd, reduceCtorEq, Nat.reduceMul, of143_1, of141_1, ok2, sz2, ag2]; refine k' _ _ ?_; clear k' K')
      all_goals (refine S.g rfl rfl fun K' k' => ?_; simp only [zz, reduceIte, Nat.reduceEqDiff, Nat.reduceLT, Nat.reduceLeDiff, Nat.reduceAdd, reduceCtorEq, Nat.reduceMul]; refine (Own.frz (Num_grow a.v.n _ ha4)).to fun v σ1 hv => ?_; obtain ⟨rfl, rfl⟩ := hv <;> (refine k' _ _ ?_; clear k' K'))
      all_goals (refine S.g rfl rfl fun K' k' => ?_; simp only [zz, reduceIte, Nat.reduceEqDiff, Nat.reduceLT, Nat.reduceLeDiff, Nat.reduceAdd, reduceCtorEq, Nat.reduceMul, sl56, el56, ok4, sz4, ag4, zt4, by4]; refine ⟨encT_len, by unfold maxLen; simp only [lowB_len, List.length_append, List.length_map]; omega, by unfold reach; simp only [lowB_len, List.length_append, List.length_map]; omega, fun k4 hk4 => ?_⟩; have hk4 := gr_del hk3 hk4; simp only [Hp.setGr_none hk3] <;> (refine k' _ _ ?_; clear k' K'))
      all_goals (refine S.g rfl rfl fun K' k' => ?_; simp only [zz, reduceIte, Nat.reduceEqDiff, Nat.reduceAdd]; refine k' _ _ ?_; clear k' K')
      all_goals refine S.nil ?_
      all_goals simp only [ze, reduceIte, Nat.reduceEqDiff, Nat.reduceLT, Nat.reduceLeDiff, Nat.reduceAdd, reduceCtorEq, Nat.reduceMul]
      all_goals first | refine h12 _ _ ?_ | refine h11 _ _ ?_ | refine h10 _ _ ?_ | refine h9 _ _ ?_ | refine h8 _ _ ?_ | refine h7 _ _ ?_ | refine h6 _ _ ?_ | refine h5 _ _ ?_ | refine h4 _ _ ?_ | refine h3 _ _ ?_ | refine h2 _ _ ?_ | refine h1 _ _ ?_
      all_goals refine AW.reg0 ?_
      all_goals iterate 3 (refine S.g rfl rfl fun K' k' => ?_; simp only [zz, reduceIte, Nat.reduceEqDiff, Nat.reduceAdd, e1, l1, e4, hwi]; refine k' _ _ ?_; clear k' K')
      all_goals refine S.nil ?_
      all_goals simp only [ze, reduceIte, Nat.reduceEqDiff, Nat.reduceLT, Nat.reduceLeDiff, Nat.reduceAdd, reduceCtorEq, Nat.reduceMul, e1, l1, e4, hwi]
      refine ⟨e.attrs.length - (i + 1), by omega, i + 1, rfl, by omega, rfl, rfl, k4, rfl, hk4, ?_⟩
      rw [hgoal]; simp
    · have hk1 := of_decide_eq_false hc
      rw [if_neg hk1] at hgoal
      all_goals refine AW.reg0 ?_
      all_goals iterate 4 (refine S.g rfl rfl fun K' k' => ?_; simp only [zz, reduceIte, Nat.reduceEqDiff, Nat.reduceLT, Nat.reduceLeDiff, Nat.reduceAdd, reduceCtorEq, Nat.reduceMul, of143_1, of141_2, ok9, sz9, ag9]; refine k' _ _ ?_; clear k' K')
      all_goals (refine S.g rfl rfl fun K' k' => ?_; simp only [zz, reduceIte, Nat.reduceEqDiff, Nat.reduceLT, Nat.reduceLeDiff, Nat.reduceAdd, reduceCtorEq, Nat.reduceMul]; refine (Own.frz (Text_grow a.v.s _ (by omega))).to fun v σ1 hv => ?_; obtain ⟨rfl, rfl⟩ := hv <;> (refine k' _ _ ?_; clear k' K'))
      all_goals (refine S.g rfl rfl fun K' k' => ?_; simp only [zz, reduceIte, Nat.reduceEqDiff, Nat.reduceLT, Nat.reduceLeDiff, Nat.reduceAdd, reduceCtorEq, Nat.reduceMul, sl56, el56, ok4, sz4, ag4, zt4, by4]; refine ⟨encT_len, by unfold maxLen; simp only [lowB_len, List.length_append, List.length_map]; omega, by unfold reach; simp only [lowB_len, List.length_append, List.length_map]; omega, fun k4 hk4 => ?_⟩; have hk4 := gr_del hk3 hk4; simp only [Hp.setGr_none hk3] <;> (refine k' _ _ ?_; clear k' K'))
      all_goals (refine S.g rfl rfl fun K' k' => ?_; simp only [zz, reduceIte, Nat.reduceEqDiff, Nat.reduceAdd]; refine k' _ _ ?_; clear k' K')
      all_goals refine S.nil ?_
      all_goals simp only [ze, reduceIte, Nat.reduceEqDiff, Nat.reduceLT, Nat.reduceLeDiff, Nat.reduceAdd, reduceCtorEq, Nat.reduceMul]
      all_goals first | refine h12 _ _ ?_ | refine h11 _ _ ?_ | refine h10 _ _ ?_ | refine h9 _ _ ?_ | refine h8 _ _ ?_ | refine h7 _ _ ?_ | refine h6 _ _ ?_ | refine h5 _ _ ?_ | refine h4 _ _ ?_ | refine h3 _ _ ?_ | refine h2 _ _ ?_ | refine h1 _ _ ?_
      all_goals refine AW.reg0 ?_
      all_goals iterate 3 (refine S.g rfl rfl fun K' k' => ?_; simp only [zz, reduceIte, Nat.reduceEqDiff, Nat.reduceAdd, e1, l1, e4, hwi]; refine k' _ _ ?_; clear k' K')
      all_goals refine S.nil ?_
      all_goals simp only [ze, reduceIte, Nat.reduceEqDiff, Nat.reduceLT, Nat.reduceLeDiff, Nat.reduceAdd, reduceCtorEq, Nat.reduceMul, e1, l1, e4, hwi]
      refine ⟨e.attrs.length - (i + 1), by omega, i + 1, rfl, by omega, rfl, rfl, k4, rfl, hk4, ?_⟩
      rw [hgoal]; simp
  · have hin := of_decide_eq_false hc
    have hi2 : i = e.attrs.length := by omega
    subst hi2
    refine AW.exit ?_
    all_goals simp only [zs, reduceIte, Nat.reduceEqDiff, Nat.reduceLT, Nat.reduceLeDiff, Nat.reduceAdd, reduceCtorEq, Nat.reduceMul]
    all_goals first | refine h12 _ _ ?_ | refine h11 _ _ ?_ | refine h10 _ _ ?_ | refine h9 _ _ ?_ | refine h8 _ _ ?_ | refine h7 _ _ ?_ | refine h6 _ _ ?_ | refine h5 _ _ ?_ | refine h4 _ _ ?_ | refine h3 _ _ ?_ | refine h2 _ _ ?_ | refine h1 _ _ ?_
    refine AW.seq_k fun K13 h13 => ?_
    all_goals refine AW.reg0 ?_
    all_goals iterate 2 (refine S.g rfl rfl fun K' k' => ?_; simp only [zz, reduceIte, Nat.reduceEqDiff, Nat.reduceAdd, e3]; refine k' _ _ ?_; clear k' K')
    all_goals refine S.nil ?_
    all_goals simp only [ze, reduceIte, Nat.reduceEqDiff, Nat.reduceLT, Nat.reduceLeDiff, Nat.reduceAdd, reduceCtorEq, Nat.reduceMul, e3]
    all_goals first | refine h13 _ _ ?_ | refine h12 _ _ ?_ | refine h11 _ _ ?_ | refine h10 _ _ ?_ | refine h9 _ _ ?_ | refine h8 _ _ ?_ | refine h7 _ _ ?_ | refine h6 _ _ ?_ | refine h5 _ _ ?_ | refine h4 _ _ ?_ | refine h3 _ _ ?_ | refine h2 _ _ ?_ | refine h1 _ _ ?_
    refine AW.ret ?_
    all_goals simp only [zs, reduceIte, Nat.reduceEqDiff, Nat.reduceLT, Nat.reduceLeDiff, Nat.reduceAdd, reduceCtorEq, Nat.reduceMul]
    refine ⟨k, rfl, hk, ?_⟩
    rw [List.take_of_length_le (by omega)]; rfl
end Go.Abs.M
namespace Go.Abs.M
open Go Go.Abs Go.Proofs
set_option maxRecDepth 20000
set_option linter.unusedSimpArgs false
set_option linter.unusedVariables false

theorem partForm_grow (l : List Bd) (σ : Hp) (hg : goodP l) : ACalls Try.prog 37 [.agg [.sl (l.map encBd)]] σ (Own (partB l) σ) := by
  have hbits := part_bits hg
  have hlen := hg.len
  refine ACalls.intro Try.call37 Try.func37 rfl Try.ntmps37 Try.results37 (by simp) ?_
  have hw4 : IntKind.u64.wrap (l.length : Int) = (l.length : Int) := wrap_u64 (by omega)
  have hfl : (partB l).length = 4 + (l.flatMap bdB).length := by simp only [partB, List.length_append, lowB_len]
  refine AW.seq_k fun K1 h1 => ?_
  all_goals refine AW.reg0 ?_
  all_goals iterate 2 (refine S.g rfl rfl fun K' k' => ?_; simp only [zz, reduceIte, Nat.reduceEqDiff, Nat.reduceLT, Nat.reduceLeDiff, Nat.reduceAdd, reduceCtorEq, Nat.reduceMul, ok24, sz24, ag24]; refine k' _ _ ?_; clear k' K')
  all_goals refine S.nil ?_
  all_goals simp only [ze, reduceIte, Nat.reduceEqDiff, Nat.reduceLT, Nat.reduceLeDiff, Nat.reduceAdd, reduceCtorEq, Nat.reduceMul]
  all_goals first | refine h1 _ _ ?_
  refine AW.seq_k fun K2 h2 => ?_
  all_goals refine AW.reg0 ?_
  all_goals iterate 4 (refine S.g rfl rfl fun K' k' => ?_; simp only [zz, reduceIte, Nat.reduceEqDiff, Nat.reduceLT, Nat.reduceLeDiff, Nat.reduceAdd, reduceCtorEq, Nat.reduceMul, of24_0, ok22, sz22, ag22, sl22, el22, ok42, sz42, ag42, cv3_54, hw4]; refine k' _ _ ?_; clear k' K')
  all_goals (refine S.g rfl rfl fun K' k' => ?_; simp only [zz, reduceIte, Nat.reduceEqDiff, Nat.reduceLT, Nat.reduceLeDiff, Nat.reduceAdd, reduceCtorEq, Nat.reduceMul, hw4]; refine (Low_grow l.length 4 _ (by omega) (by omega)).to fun v σ1 hv => ?_; obtain ⟨k, rfl, hk, rfl⟩ := hv <;> (refine k' _ _ ?_; clear k' K'))
  all_goals (refine S.g rfl rfl fun K' k' => ?_; simp only [zz, reduceIte, Nat.reduceEqDiff, Nat.reduceAdd, hw4]; refine k' _ _ ?_; clear k' K')
  all_goals refine S.nil ?_
  all_goals simp only [ze, reduceIte, Nat.reduceEqDiff, Nat.reduceLT, Nat.reduceLeDiff, Nat.reduceAdd, reduceCtorEq, Nat.reduceMul, hw4]
  all_goals first | refine h2 _ _ ?_ | refine h1 _ _ ?_
  refine AW.seq_k fun K3 h3 => ?_
  refine AW.seq_k fun K4 h4 => ?_
  all_goals refine AW.reg0 ?_
  all_goals (refine S.g rfl rfl fun K' k' => ?_; simp only [zz, reduceIte, Nat.reduceEqDiff, Nat.reduceAdd]; refine k' _ _ ?_; clear k' K')
  all_goals refine S.nil ?_
  all_goals simp only [ze, reduceIte, Nat.reduceEqDiff, Nat.reduceLT, Nat.reduceLeDiff, Nat.reduceAdd, reduceCtorEq, Nat.reduceMul]
  all_goals first | refine h4 _ _ ?_ | refine h3 _ _ ?_ | refine h2 _ _ ?_ | refine h1 _ _ ?_
  refine AW.block ?_   -- 0
  refine AW.loop (fun m s σ' => ∃ i, m = l.length - i ∧ i ≤ l.length ∧ s.t 1 = .lp 1 0 ∧ s.l 1 = some [.sl (l.map encBd)] ∧ s.t 4 = .c (.int .i64 (i : Nat)) ∧
    Own (lowB l.length 4 ++ (l.take i).flatMap bdB) σ (s.t 3) σ') l.length ?_ ?_
  · refine ⟨0, rfl, Nat.zero_le _, ?_⟩
    all_goals simp only [zs, reduceIte, Nat.reduceEqDiff, Nat.reduceLT, Nat.reduceLeDiff, Nat.reduceAdd, reduceCtorEq, Nat.reduceMul]
    exact ⟨rfl, k, rfl, hk, by simp⟩
  clear hk
  rintro m s σ' ⟨i, hm, hi, e1, l1, e4, k, e3, hk, rfl⟩
  refine AW.seq_k fun K5 h5 => ?_
  refine AW.seq_k fun K6 h6 => ?_
  all_goals refine AW.reg0 ?_
  all_goals iterate 5 (refine S.g rfl rfl fun K' k' => ?_; simp only [zz, reduceIte, Nat.reduceEqDiff, Nat.reduceLT, Nat.reduceLeDiff, Nat.reduceAdd, reduceCtorEq, Nat.reduceMul, of24_0, ok22, sz22, ag22, sl22, el22, ok42, sz42, ag42, e1, l1, e4]; refine k' _ _ ?_; clear k' K')
  all_goals refine S.nil ?_
  all_goals simp only [ze, reduceIte, Nat.reduceEqDiff, Nat.reduceLT, Nat.reduceLeDiff, Nat.reduceAdd, reduceCtorEq, Nat.reduceMul, e1, l1, e4]
  all_goals first | refine h6 _ _ ?_ | refine h5 _ _ ?_ | refine h4 _ _ ?_ | refine h3 _ _ ?_ | refine h2 _ _ ?_ | refine h1 _ _ ?_
  refine AW.cond (b := decide (i < l.length)) (by simp [ev]) (fun hc => ?_) (fun hc => ?_)
  · have hin := of_decide_eq_true hc
    refine AW.skip ?_
    all_goals simp only [zs, reduceIte, Nat.reduceEqDiff, Nat.reduceLT, Nat.reduceLeDiff, Nat.reduceAdd, reduceCtorEq, Nat.reduceMul]
    all_goals first | refine h6 _ _ ?_ | refine h5 _ _ ?_ | refine h4 _ _ ?_ | refine h3 _ _ ?_ | refine h2 _ _ ?_ | refine h1 _ _ ?_
    obtain ⟨b, hb⟩ : ∃ b, l[i]? = some b := ⟨_, List.getElem?_eq_getElem hin⟩
    have hbe : (l.map encBd).getD i [] = encBd b := by simp [List.getD, hb]
    have htk := flatT (f := bdB) hb
    have hle : ((l.take (i + 1)).flatMap bdB).length ≤ (l.flatMap bdB).length := by
      conv => rhs; rw [← List.take_append_drop (i + 1) l]
      rw [List.flatMap_append, List.length_append]; omega
    have hgoal : lowB l.length 4 ++ (l.take (i + 1)).flatMap bdB = (lowB l.length 4 ++ (l.take i).flatMap bdB) ++ textB b.var ++ evB b.ev := by
      rw [htk]; simp [bdB]
    have hbl : (lowB l.length 4 ++ (l.take i).flatMap bdB).length = 4 + ((l.take i).flatMap bdB).length := by simp only [List.length_append, lowB_len]
    have hle2 : ((l.take i).flatMap bdB).length + (textB b.var).length + (evB b.ev).length ≤ (l.flatMap bdB).length := by rw [htk, List.length_append, bdB, List.length_append] at hle; omega
    generalize lowB l.length 4 ++ (l.take i).flatMap bdB = bs2 at *
    obtain ⟨hb1, hb2, hb3, hb4⟩ := hg.bds b (List.mem_of_getElem? hb)
    clear htk hle
    have hwi : IntKind.i64.wrap ((i : Int) + 1) = ((i + 1 : Nat) : Int) := by rw [wrap_small _ (by omega) (by omega)]; rfl
    refine AW.seq_k fun K7 h7 => ?_
    refine AW.block ?_   -- 1
    all_goals refine AW.drawF (T := { sd := fun d => d == 1 }) (fun _ _ h => by cases h) mixedO (.st 0 0 (.st 1 0 (.st 3 0 (.st 9 0 (.st 11 0 (.st 2 1 (.st 4 0 (.st 5 0 (.st 6 1 (.st 10 1 (.st 12 0 (.st 13 0 (.st 14 1 (.st 7 2 (.st 8 2 (.st 15 2 (.st 16 2 (.st 17 0 .nil)))))))))))))))))) rfl (by kernel_rfl) (by kernel_rfl) ?_
    all_goals iterate 5 (refine F.g rfl trivial rfl rfl fun K' k' => ?_; simp only [zz, reduceIte, Nat.reduceEqDiff, Nat.reduceLT, Nat.reduceLeDiff, Nat.reduceAdd, reduceCtorEq, Nat.reduceMul, of24_0, e1, l1, e3, e4, hin, hbe, encBd, encEv, List.length_singleton, List.getD_cons_zero]; refine k' _ _ ?_; clear k' K')
    all_goals (refine F.g rfl (by first | rfl | (simp only [stC, ze, reduceIte, Nat.reduceEqDiff, e1, l1, e3, e4, hin, hbe, encBd, encEv, List.length_singleton, List.getD_cons_zero]; done) | (simp only [stC, ze, reduceIte, Nat.reduceEqDiff, e1, l1, e3, e4, hin, hbe, encBd, encEv, List.length_singleton, List.getD_cons_zero]; rfl)) rfl rfl fun K' k' => ?_; simp only [zz, reduceIte, Nat.reduceEqDiff, Nat.reduceLT, Nat.reduceLeDiff, Nat.reduceAdd, reduceCtorEq, Nat.reduceMul, ok22, sz22, ag22, e1, l1, e3, e4, hin, hbe, encBd, encEv, List.length_singleton, List.getD_cons_zero]; refine k' _ _ ?_; clear k' K')
    all_goals iterate 2 (refine F.g rfl trivial rfl rfl fun K' k' => ?_; simp only [zz, reduceIte, Nat.reduceEqDiff, Nat.reduceLT, Nat.reduceLeDiff, Nat.reduceAdd, reduceCtorEq, Nat.reduceMul, sl22, el22, ok42, sz42, ag42, of42_0, e1, l1, e3, e4, hin, hbe, encBd, encEv, List.length_singleton, List.getD_cons_zero]; refine k' _ _ ?_; clear k' K')
    all_goals iterate 2 (refine F.g rfl (by first | rfl | (simp only [stC, ze, reduceIte, Nat.reduceEqDiff, e1, l1, e3, e4, hin, hbe, encBd, encEv, List.length_singleton, List.getD_cons_zero]; done) | (simp only [stC, ze, reduceIte, Nat.reduceEqDiff, e1, l1, e3, e4, hin, hbe, encBd, encEv, List.length_singleton, List.getD_cons_zero]; rfl)) rfl rfl fun K' k' => ?_; simp only [zz, reduceIte, Nat.reduceEqDiff, Nat.reduceLT, Nat.reduceLeDiff, Nat.reduceAdd, reduceCtorEq, Nat.reduceMul, ok9, sz9, ag9, ok22, sz22, ag22, e1, l1, e3, e4, hin, hbe, encBd, encEv, List.length_singleton, List.getD_cons_zero]; refine k' _ _ ?_; clear k' K')
    all_goals iterate 2 (refine F.g rfl trivial rfl rfl fun K' k' => ?_; simp only [zz, reduceIte, Nat.reduceEqDiff, Nat.reduceLT, Nat.reduceLeDiff, Nat.reduceAdd, reduceCtorEq, Nat.reduceMul, sl22, el22, ok42, sz42, ag42, of42_1, e1, l1, e3, e4, hin, hbe, encBd, encEv, List.length_singleton, List.getD_cons_zero]; refine k' _ _ ?_; clear k' K')
    all_goals (refine F.g rfl (by first | rfl | (simp only [stC, ze, reduceIte, Nat.reduceEqDiff, e1, l1, e3, e4, hin, hbe, encBd, encEv, List.length_singleton, List.getD_cons_zero]; done) | (simp only [stC, ze, reduceIte, Nat.reduceEqDiff, e1, l1, e3, e4, hin, hbe, encBd, encEv, List.length_singleton, List.getD_cons_zero]; rfl)) rfl rfl fun K' k' => ?_; simp only [zz, reduceIte, Nat.reduceEqDiff, Nat.reduceLT, Nat.reduceLeDiff, Nat.reduceAdd, reduceCtorEq, Nat.reduceMul, ok36, sz36, ag36, e1, l1, e3, e4, hin, hbe, encBd, encEv, List.length_singleton, List.getD_cons_zero]; refine k' _ _ ?_; clear k' K')
    all_goals (refine F.g rfl trivial rfl rfl fun K' k' => ?_; simp only [zz, reduceIte, Nat.reduceEqDiff, Nat.reduceLT, Nat.reduceLeDiff, Nat.reduceAdd, reduceCtorEq, Nat.reduceMul, e1, l1, e3, e4, hin, hbe, encBd, encEv, List.length_singleton, List.getD_cons_zero]; refine (Own.frz (Text_grow b.var _ (by omega))).to fun v σ1 hv => ?_; obtain ⟨rfl, rfl⟩ := hv <;> (refine k' _ _ ?_; clear k' K'))
    all_goals (refine F.g rfl trivial rfl rfl fun K' k' => ?_; simp only [zz, reduceIte, Nat.reduceEqDiff, Nat.reduceLT, Nat.reduceLeDiff, Nat.reduceAdd, reduceCtorEq, Nat.reduceMul, sl56, el56, ok4, sz4, ag4, zt4, by4, e1, l1, e3, e4, hin, hbe, encBd, encEv, List.length_singleton, List.getD_cons_zero]; refine ⟨encT_len, by unfold maxLen; omega, by unfold reach; omega, fun k2 hk2 => ?_⟩; have hk2 := gr_del hk hk2; simp only [Hp.setGr_none hk] <;> (refine k' _ _ ?_; clear k' K'))
    all_goals (refine F.g rfl trivial rfl rfl fun K' k' => ?_; simp only [zz, reduceIte, Nat.reduceEqDiff, Nat.reduceLT, Nat.reduceLeDiff, Nat.reduceAdd, reduceCtorEq, Nat.reduceMul, e1, l1, e3, e4, hin, hbe, encBd, encEv, List.length_singleton, List.getD_cons_zero]; refine (Own.frz (evForm_grow b.ev _ hb2)).to fun v σ1 hv => ?_; obtain ⟨rfl, rfl⟩ := hv <;> (refine k' _ _ ?_; clear k' K'))
    all_goals (refine F.g rfl trivial rfl rfl fun K' k' => ?_; simp only [zz, reduceIte, Nat.reduceEqDiff, Nat.reduceLT, Nat.reduceLeDiff, Nat.reduceAdd, reduceCtorEq, Nat.reduceMul, sl56, el56, ok4, sz4, ag4, zt4, by4, e1, l1, e3, e4, hin, hbe, encBd, encEv, List.length_singleton, List.getD_cons_zero]; refine ⟨encT_len, by unfold maxLen; simp only [List.length_append, List.length_map]; omega, by unfold reach; simp only [List.length_append, List.length_map]; omega, fun k3 hk3 => ?_⟩; have hk3 := gr_del hk2 hk3; simp only [Hp.setGr_none hk2] <;> (refine k' _ _ ?_; clear k' K'))
    all_goals (refine F.g rfl trivial rfl rfl fun K' k' => ?_; simp only [zz, reduceIte, Nat.reduceEqDiff, Nat.reduceAdd, e1, l1, e3, e4, hin, hbe, encBd, encEv, List.length_singleton, List.getD_cons_zero]; refine k' _ _ ?_; clear k' K')
    all_goals refine F.nil ?_
    all_goals simp only [ze, reduceIte, Nat.reduceEqDiff, Nat.reduceLT, Nat.reduceLeDiff, Nat.reduceAdd, reduceCtorEq, Nat.reduceMul, e1, l1, e3, e4, hin, hbe, encBd, encEv, List.length_singleton, List.getD_cons_zero]
    all_goals first | refine h7 _ _ ?_ | refine h6 _ _ ?_ | refine h5 _ _ ?_ | refine h4 _ _ ?_ | refine h3 _ _ ?_ | refine h2 _ _ ?_ | refine h1 _ _ ?_
    all_goals refine AW.reg0 ?_
    all_goals iterate 3 (refine S.g rfl rfl fun K' k' => ?_; simp only [zz, reduceIte, Nat.reduceEqDiff, Nat.reduceAdd, e1, l1, e4, hwi]; refine k' _ _ ?_; clear k' K')
    all_goals refine S.nil ?_
    all_goals simp only [ze, reduceIte, Nat.reduceEqDiff, Nat.reduceLT, Nat.reduceLeDiff, Nat.reduceAdd, reduceCtorEq, Nat.reduceMul, e1, l1, e4, hwi]
    refine ⟨l.length - (i + 1), by omega, i + 1, rfl, by omega, rfl, k3, rfl, hk3, ?_⟩
    rw [hgoal]; simp
  · have hin := of_decide_eq_false hc
    have hi2 : i = l.length := by omega
    subst hi2
    refine AW.exit ?_
    all_goals simp only [zs, reduceIte, Nat.reduceEqDiff, Nat.reduceLT, Nat.reduceLeDiff, Nat.reduceAdd, reduceCtorEq, Nat.reduceMul]
    all_goals first | refine h7 _ _ ?_ | refine h6 _ _ ?_ | refine h5 _ _ ?_ | refine h4 _ _ ?_ | refine h3 _ _ ?_ | refine h2 _ _ ?_ | refine h1 _ _ ?_
    refine AW.seq_k fun K8 h8 => ?_
    all_goals refine AW.reg0 ?_
    all_goals iterate 2 (refine S.g rfl rfl fun K' k' => ?_; simp only [zz, reduceIte, Nat.reduceEqDiff, Nat.reduceAdd, e3]; refine k' _ _ ?_; clear k' K')
    all_goals refine S.nil ?_
    all_goals simp only [ze, reduceIte, Nat.reduceEqDiff, Nat.reduceLT, Nat.reduceLeDiff, Nat.reduceAdd, reduceCtorEq, Nat.reduceMul, e3]
    all_goals first | refine h8 _ _ ?_ | refine h7 _ _ ?_ | refine h6 _ _ ?_ | refine h5 _ _ ?_ | refine h4 _ _ ?_ | refine h3 _ _ ?_ | refine h2 _ _ ?_ | refine h1 _ _ ?_
    refine AW.ret ?_
    all_goals simp only [zs, reduceIte, Nat.reduceEqDiff, Nat.reduceLT, Nat.reduceLeDiff, Nat.reduceAdd, reduceCtorEq, Nat.reduceMul]
    refine ⟨k, rfl, hk, ?_⟩
    rw [List.take_of_length_le (by omega)]; rfl
end Go.Abs.M
namespace Go.Abs.M
open Go Go.Abs Go.Proofs
set_option maxRecDepth 20000
set_option linter.unusedSimpArgs false
set_option linter.unusedVariables false

def stP (bs : List Bool) (i : Nat) : List Nat := putsB (zerosB ((bs.length + 7) / 8)) 0 (bs.take i)
theorem stP_len (bs : List Bool) (i : Nat) : (stP bs i).length = (bs.length + 7) / 8 := by rw [stP, putsB_len]; simp [zerosB]
theorem stP_inv (bs : List Bool) (i : Nat) (h : i ≤ bs.length) : InvB (stP bs i) i := by
  have := InvB.puts (bs.take i) (l := zerosB ((bs.length + 7) / 8)) (i := 0) (fun j x hx => by
    unfold zerosB at hx
    rw [List.getElem?_replicate] at hx
    split at hx
    · injection hx with hx; subst hx; exact ⟨by omega, fun _ => Nat.zero_mod _, fun _ => rfl⟩
    · cases hx)
  rw [Nat.zero_add, List.length_take, Nat.min_eq_left h] at this
  exact this
theorem stP_succ (bs : List Bool) (i : Nat) (b : Bool) (h : bs[i]? = some b) : stP bs (i + 1) = putB (stP bs i) i b := by
  have hi : i < bs.length := (List.getElem?_eq_some_iff.1 h).1
  unfold stP
  rw [List.take_add_one, h, putsB_append, Nat.zero_add, List.length_take, Nat.min_eq_left (by omega)]
  rfl
theorem stP_put (bs : List Bool) (i : Nat) (h : bs[i]? = some true) : ∃ x, (stP bs i)[i / 8]? = some x ∧ stP bs (i + 1) = (stP bs i).set (i / 8) (x + 128 / 2 ^ (i % 8)) ∧ x + 128 / 2 ^ (i % 8) < 256 := by
  have hi : i < bs.length := (List.getElem?_eq_some_iff.1 h).1
  have hl : i / 8 < (stP bs i).length := by rw [stP_len]; omega
  refine ⟨_, List.getElem?_eq_getElem hl, ?_⟩
  obtain ⟨h1, h2, _⟩ := stP_inv bs i (by omega) _ _ (List.getElem?_eq_getElem hl)
  obtain ⟨k1, k2, k3, k4⟩ := byte_put (i % 8) (Nat.mod_lt _ (by omega)) _ h1 (h2 rfl)
  refine ⟨?_, k1⟩
  rw [stP_succ bs i true h, putB, if_pos rfl]
  exact modify_set _ _ _ _ (List.getElem?_eq_getElem hl)
theorem pack_grow (bs : List Bool) (σ : Hp) (hb : bs.length < 1099511627776) : ACalls Try.prog 41 [.sl (bs.map encT)] σ (fun v σ' => ∃ k, v = .gl k ∧ σ.gr k = none ∧ σ' = σ.setGr k (some ((5, 1), (packB bs).map encB))) := by
  refine ACalls.intro Try.call41 Try.func41 rfl Try.ntmps41 Try.results41 (by simp) ?_
  have hw1 : IntKind.i64.wrap ((bs.length : Int) + 7) = ((bs.length + 7 : Nat) : Int) := by rw [wrap_small _ (by omega) (by omega)]; rfl
  have hq1 : ((bs.length + 7 : Nat) : Int).tdiv 8 = (((bs.length + 7) / 8 : Nat) : Int) := rfl
  have hw2 : IntKind.i64.wrap (((bs.length + 7) / 8 : Nat) : Int) = (((bs.length + 7) / 8 : Nat) : Int) := wrap_small _ (by omega) (by omega)
  refine AW.seq_k fun K1 h1 => ?_
  all_goals refine AW.reg0 ?_
  all_goals (refine S.g rfl rfl fun K' k' => ?_; simp only [zz, reduceIte, Nat.reduceEqDiff, Nat.reduceAdd]; refine k' _ _ ?_; clear k' K')
  all_goals refine S.nil ?_
  all_goals simp only [ze, reduceIte, Nat.reduceEqDiff, Nat.reduceLT, Nat.reduceLeDiff, Nat.reduceAdd, reduceCtorEq, Nat.reduceMul]
  all_goals first | refine h1 _ _ ?_
  refine AW.seq_k fun K2 h2 => ?_
  all_goals refine AW.reg0 ?_
  all_goals iterate 4 (refine S.g rfl rfl fun K' k' => ?_; simp only [zz, reduceIte, Nat.reduceEqDiff, Nat.reduceLT, Nat.reduceLeDiff, Nat.reduceAdd, reduceCtorEq, Nat.reduceMul, sl56, el56, ok4, sz4, ag4, hw1, Int.reduceEq, hq1, hw2]; refine k' _ _ ?_; clear k' K')
  all_goals (refine S.g rfl rfl fun K' k' => ?_; simp only [zz, reduceIte, Nat.reduceEqDiff, Nat.reduceLT, Nat.reduceLeDiff, Nat.reduceAdd, reduceCtorEq, Nat.reduceMul, sl48, el48, ok5, sz5, ag5, zt5, by5, hw1, Int.reduceEq, hq1, hw2]; refine ⟨by omega, by omega, fun k hk => ?_⟩ <;> (refine k' _ _ ?_; clear k' K'))
  all_goals (refine S.g rfl rfl fun K' k' => ?_; simp only [zz, reduceIte, Nat.reduceEqDiff, Nat.reduceAdd, hw1, Int.reduceEq, hq1, hw2]; refine k' _ _ ?_; clear k' K')
  all_goals refine S.nil ?_
  all_goals simp only [ze, reduceIte, Nat.reduceEqDiff, Nat.reduceLT, Nat.reduceLeDiff, Nat.reduceAdd, reduceCtorEq, Nat.reduceMul, hw1, Int.reduceEq, hq1, hw2]
  all_goals first | refine h2 _ _ ?_ | refine h1 _ _ ?_
  refine AW.seq_k fun K3 h3 => ?_
  refine AW.seq_k fun K4 h4 => ?_
  all_goals refine AW.reg0 ?_
  all_goals (refine S.g rfl rfl fun K' k' => ?_; simp only [zz, reduceIte, Nat.reduceEqDiff, Nat.reduceAdd]; refine k' _ _ ?_; clear k' K')
  all_goals refine S.nil ?_
  all_goals simp only [ze, reduceIte, Nat.reduceEqDiff, Nat.reduceLT, Nat.reduceLeDiff, Nat.reduceAdd, reduceCtorEq, Nat.reduceMul]
  all_goals first | refine h4 _ _ ?_ | refine h3 _ _ ?_ | refine h2 _ _ ?_ | refine h1 _ _ ?_
  refine AW.block ?_   -- 0
  refine AW.loop (fun m s σ' => ∃ i, m = bs.length - i ∧ i ≤ bs.length ∧ s.t 0 = .sl (bs.map encT) ∧ s.t 4 = .c (.int .i64 (i : Nat)) ∧ s.t 3 = .gl k ∧ σ' = σ.setGr k (some ((5, 1), (stP bs i).map encB))) bs.length ?_ ?_
  · refine ⟨0, rfl, Nat.zero_le _, ?_⟩
    all_goals simp only [zs, reduceIte, Nat.reduceEqDiff, Nat.reduceLT, Nat.reduceLeDiff, Nat.reduceAdd, reduceCtorEq, Nat.reduceMul]
    simp [stP, putsB, zerosB, encB]
  rintro m s σ' ⟨i, hm, hi, e0, e4, e3, rfl⟩
  refine AW.seq_k fun K5 h5 => ?_
  refine AW.seq_k fun K6 h6 => ?_
  all_goals refine AW.reg0 ?_
  all_goals iterate 4 (refine S.g rfl rfl fun K' k' => ?_; simp only [zz, reduceIte, Nat.reduceEqDiff, Nat.reduceLT, Nat.reduceLeDiff, Nat.reduceAdd, reduceCtorEq, Nat.reduceMul, sl56, el56, ok4, sz4, ag4, e0, e4]; refine k' _ _ ?_; clear k' K')
  all_goals refine S.nil ?_
  all_goals simp only [ze, reduceIte, Nat.reduceEqDiff, Nat.reduceLT, Nat.reduceLeDiff, Nat.reduceAdd, reduceCtorEq, Nat.reduceMul, e0, e4]
  all_goals first | refine h6 _ _ ?_ | refine h5 _ _ ?_ | refine h4 _ _ ?_ | refine h3 _ _ ?_ | refine h2 _ _ ?_ | refine h1 _ _ ?_
  refine AW.cond (b := decide (i < bs.length)) (by simp [ev]) (fun hc => ?_) (fun hc => ?_)
  · have hin := of_decide_eq_true hc
    refine AW.skip ?_
    all_goals simp only [zs, reduceIte, Nat.reduceEqDiff, Nat.reduceLT, Nat.reduceLeDiff, Nat.reduceAdd, reduceCtorEq, Nat.reduceMul]
    all_goals first | refine h6 _ _ ?_ | refine h5 _ _ ?_ | refine h4 _ _ ?_ | refine h3 _ _ ?_ | refine h2 _ _ ?_ | refine h1 _ _ ?_
    obtain ⟨b, hb1⟩ : ∃ b, bs[i]? = some b := ⟨_, List.getElem?_eq_getElem hin⟩
    have hbe : (bs.map encT).getD i [] = encT b := by simp [List.getD, hb1]
    have hwi : IntKind.i64.wrap ((i : Int) + 1) = ((i + 1 : Nat) : Int) := by rw [wrap_small _ (by omega) (by omega)]; rfl
    have hq8 : (i : Int).tdiv 8 = ((i / 8 : Nat) : Int) := rfl
    have hr8 : (i : Int).tmod 8 = ((i % 8 : Nat) : Int) := rfl
    have hwq : IntKind.i64.wrap ((i / 8 : Nat) : Int) = ((i / 8 : Nat) : Int) := wrap_small _ (by omega) (by omega)
    have hgk : (σ.setGr k (some ((5, 1), (stP bs i).map encB))).gr k = some ((5, 1), (stP bs i).map encB) := by simp
    refine AW.seq_k fun K7 h7 => ?_
    refine AW.block ?_   -- 1
    refine AW.seq_k fun K8 h8 => ?_
    all_goals refine AW.reg0 ?_
    all_goals iterate 4 (refine S.g rfl rfl fun K' k' => ?_; simp only [zz, reduceIte, Nat.reduceEqDiff, Nat.reduceLT, Nat.reduceLeDiff, Nat.reduceAdd, reduceCtorEq, Nat.reduceMul, sl56, el56, ok4, sz4, ag4, e0, e4, hin, hbe, encT, List.length_singleton, List.getD_cons_zero]; refine k' _ _ ?_; clear k' K')
    all_goals refine S.nil ?_
    all_goals simp only [ze, reduceIte, Nat.reduceEqDiff, Nat.reduceLT, Nat.reduceLeDiff, Nat.reduceAdd, reduceCtorEq, Nat.reduceMul, e0, e4, hin, hbe, encT, List.length_singleton, List.getD_cons_zero]
    all_goals first | refine h8 _ _ ?_ | refine h7 _ _ ?_ | refine h6 _ _ ?_ | refine h5 _ _ ?_ | refine h4 _ _ ?_ | refine h3 _ _ ?_ | refine h2 _ _ ?_ | refine h1 _ _ ?_
    refine AW.cond (b := b) (by simp [ev]) (fun hc => ?_) (fun hc => ?_)
    · subst hc
      obtain ⟨x, hx1, hx2, hx3⟩ := stP_put bs i hb1
      have hxe := encB_at hx1
      have h128 : Int.fdiv 128 ((2 : Int) ^ min (i % 8) IntKind.u8.bits) = ((128 / 2 ^ (i % 8) : Nat) : Int) := sh128 (i % 8) (Nat.mod_lt _ (by omega))
      have hwo : IntKind.u8.wrap ((x : Int) + ((128 / 2 ^ (i % 8) : Nat) : Int)) = ((x + 128 / 2 ^ (i % 8) : Nat) : Int) := by rw [← wrap_u8 hx3]; rfl
      have hpos : (0 : Int) ≤ ((i % 8 : Nat) : Int) := Int.natCast_nonneg _
      have hlt : i / 8 < (stP bs i).length := by rw [stP_len]; omega
      all_goals refine AW.drawF (T := { sd := fun _ => false }) (fun _ _ h => by cases h) mixedO (.st 0 0 (.st 1 0 (.st 2 0 (.st 3 0 (.st 5 0 (.st 6 0 (.st 7 0 (.st 4 2 (.st 8 0 (.st 9 0 (.st 10 2 .nil))))))))))) rfl (by kernel_rfl) (by kernel_rfl) ?_
      all_goals iterate 11 (refine F.g rfl trivial rfl rfl fun K' k' => ?_; simp only [zz, reduceIte, Nat.reduceEqDiff, Nat.reduceLT, Nat.reduceLeDiff, Nat.reduceAdd, reduceCtorEq, Nat.reduceMul, sl48, el48, ok5, sz5, ag5, e3, e4, hgk, Int.reduceEq, hq8, hwq, hr8, hxe, h128, hwo, hpos, hlt, encB, List.length_singleton, List.getD_cons_zero]; refine k' _ _ ?_; clear k' K')
      all_goals refine F.nil ?_
      all_goals simp only [ze, reduceIte, Nat.reduceEqDiff, Nat.reduceLT, Nat.reduceLeDiff, Nat.reduceAdd, reduceCtorEq, Nat.reduceMul, e3, e4, hgk, Int.reduceEq, hq8, hwq, hr8, hxe, h128, hwo, hpos, hlt, encB, List.length_singleton, List.getD_cons_zero]
      all_goals first | refine h8 _ _ ?_ | refine h7 _ _ ?_ | refine h6 _ _ ?_ | refine h5 _ _ ?_ | refine h4 _ _ ?_ | refine h3 _ _ ?_ | refine h2 _ _ ?_ | refine h1 _ _ ?_
      all_goals refine AW.reg0 ?_
      all_goals iterate 3 (refine S.g rfl rfl fun K' k' => ?_; simp only [zz, reduceIte, Nat.reduceEqDiff, Nat.reduceAdd, e0, e3, e4, hwi]; refine k' _ _ ?_; clear k' K')
      all_goals refine S.nil ?_
      all_goals simp only [ze, reduceIte, Nat.reduceEqDiff, Nat.reduceLT, Nat.reduceLeDiff, Nat.reduceAdd, reduceCtorEq, Nat.reduceMul, e0, e3, e4, hwi]
      refine ⟨bs.length - (i + 1), by omega, i + 1, rfl, by omega, rfl, ?_⟩
      rw [hx2]; simp [List.map_set, encB]
    · refine AW.skip ?_
      all_goals simp only [zs, reduceIte, Nat.reduceEqDiff, Nat.reduceLT, Nat.reduceLeDiff, Nat.reduceAdd, reduceCtorEq, Nat.reduceMul]
      all_goals first | refine h8 _ _ ?_ | refine h7 _ _ ?_ | refine h6 _ _ ?_ | refine h5 _ _ ?_ | refine h4 _ _ ?_ | refine h3 _ _ ?_ | refine h2 _ _ ?_ | refine h1 _ _ ?_
      all_goals refine AW.reg0 ?_
      all_goals iterate 3 (refine S.g rfl rfl fun K' k' => ?_; simp only [zz, reduceIte, Nat.reduceEqDiff, Nat.reduceAdd, e0, e3, e4, hwi]; refine k' _ _ ?_; clear k' K')
      all_goals refine S.nil ?_
      all_goals simp only [ze, reduceIte, Nat.reduceEqDiff, Nat.reduceLT, Nat.reduceLeDiff, Nat.reduceAdd, reduceCtorEq, Nat.reduceMul, e0, e3, e4, hwi]
      refine ⟨bs.length - (i + 1), by omega, i + 1, rfl, by omega, rfl, ?_⟩
      subst hc
      rw [stP_succ bs i false hb1]; rfl
  · have hin := of_decide_eq_false hc
    have hi2 : i = bs.length := by omega
    subst hi2
    refine AW.exit ?_
    all_goals simp only [zs, reduceIte, Nat.reduceEqDiff, Nat.reduceLT, Nat.reduceLeDiff, Nat.reduceAdd, reduceCtorEq, Nat.reduceMul]
    all_goals first | refine h8 _ _ ?_ | refine h7 _ _ ?_ | refine h6 _ _ ?_ | refine h5 _ _ ?_ | refine h4 _ _ ?_ | refine h3 _ _ ?_ | refine h2 _ _ ?_ | refine h1 _ _ ?_
    refine AW.seq_k fun K9 h9 => ?_
    all_goals refine AW.reg0 ?_
    all_goals iterate 2 (refine S.g rfl rfl fun K' k' => ?_; simp only [zz, reduceIte, Nat.reduceEqDiff, Nat.reduceAdd, e3]; refine k' _ _ ?_; clear k' K')
    all_goals refine S.nil ?_
    all_goals simp only [ze, reduceIte, Nat.reduceEqDiff, Nat.reduceLT, Nat.reduceLeDiff, Nat.reduceAdd, reduceCtorEq, Nat.reduceMul, e3]
    all_goals first | refine h9 _ _ ?_ | refine h8 _ _ ?_ | refine h7 _ _ ?_ | refine h6 _ _ ?_ | refine h5 _ _ ?_ | refine h4 _ _ ?_ | refine h3 _ _ ?_ | refine h2 _ _ ?_ | refine h1 _ _ ?_
    refine AW.ret ?_
    all_goals simp only [zs, reduceIte, Nat.reduceEqDiff, Nat.reduceLT, Nat.reduceLeDiff, Nat.reduceAdd, reduceCtorEq, Nat.reduceMul]
    refine ⟨k, rfl, hk, ?_⟩
    rw [stP, List.take_of_length_le (by omega)]; rfl
def FrzB (bs : List Nat) (σ : Hp) (v : V) (σ' : Hp) : Prop := v = .sl (bs.map encB) ∧ σ' = σ
theorem pack_frz (bs : List Bool) (σ : Hp) (hb : bs.length < 1099511627776) : ACalls Try.prog 41 [.sl (bs.map encT)] σ (FrzB (packB bs) σ) :=
  (pack_grow bs σ hb).freeze fun v σ' ⟨k, h1, h2, h3⟩ => ⟨k, (5, 1), (packB bs).map encB, h1, by rw [h3]; simp, rfl, by rw [h3, Hp.setGr_setGr, Hp.setGr_none h2]⟩
theorem rBytes_spec (l : List Bd) (hok : okP l) (hn : inA l) : PCalls Try.prog 32 [.agg [.sl (l.map encBd)]] (fun v => v = .tup [.sl ((bytesP l).map encB), .c (.int .i64 (partErr l))]) := by
  refine PCalls.intro Try.call32 Try.func32 rfl Try.ntmps32 Try.results32 (by simp) ?_
  refine AW.seq_k fun K1 h1 => ?_
  all_goals refine AW.reg0 ?_
  all_goals iterate 3 (refine S.g rfl rfl fun K' k' => ?_; simp only [zz, reduceIte, Nat.reduceEqDiff, Nat.reduceLT, Nat.reduceLeDiff, Nat.reduceAdd, reduceCtorEq, Nat.reduceMul, ok24, sz24, ag24]; refine k' _ _ ?_; clear k' K')
  all_goals refine S.nil ?_
  all_goals simp only [ze, reduceIte, Nat.reduceEqDiff, Nat.reduceLT, Nat.reduceLeDiff, Nat.reduceAdd, reduceCtorEq, Nat.reduceMul]
  all_goals first | refine h1 _ _ ?_
  refine AW.seq_k fun K2 h2 => ?_
  refine AW.seq_k fun K3 h3 => ?_
  all_goals refine AW.reg0 ?_
  all_goals (refine S.g rfl rfl fun K' k' => ?_; simp only [zz, reduceIte, Nat.reduceEqDiff, Nat.reduceLT, Nat.reduceLeDiff, Nat.reduceAdd, reduceCtorEq, Nat.reduceMul, ok24, sz24, ag24]; refine k' _ _ ?_; clear k' K')
  all_goals (refine S.g rfl rfl fun K' k' => ?_; simp only [zz, reduceIte, Nat.reduceEqDiff, Nat.reduceLT, Nat.reduceLeDiff, Nat.reduceAdd, reduceCtorEq, Nat.reduceMul]; refine PCalls.eqto (rcheck_part l hok) ?_ <;> (refine k' _ _ ?_; clear k' K'))
  all_goals (refine S.g rfl rfl fun K' k' => ?_; simp only [zz, reduceIte, Nat.reduceEqDiff, Nat.reduceAdd]; refine k' _ _ ?_; clear k' K')
  all_goals refine S.nil ?_
  all_goals simp only [ze, reduceIte, Nat.reduceEqDiff, Nat.reduceLT, Nat.reduceLeDiff, Nat.reduceAdd, reduceCtorEq, Nat.reduceMul]
  all_goals first | refine h3 _ _ ?_ | refine h2 _ _ ?_ | refine h1 _ _ ?_
  refine AW.seq_k fun K4 h4 => ?_
  all_goals refine AW.reg0 ?_
  all_goals iterate 2 (refine S.g rfl rfl fun K' k' => ?_; simp only [zz, reduceIte, Nat.reduceEqDiff, Nat.reduceAdd]; refine k' _ _ ?_; clear k' K')
  all_goals refine S.nil ?_
  all_goals simp only [ze, reduceIte, Nat.reduceEqDiff, Nat.reduceLT, Nat.reduceLeDiff, Nat.reduceAdd, reduceCtorEq, Nat.reduceMul]
  all_goals first | refine h4 _ _ ?_ | refine h3 _ _ ?_ | refine h2 _ _ ?_ | refine h1 _ _ ?_
  refine AW.cond (b := decide (partErr l ≠ 0)) (by simp [ev]; try rfl) (fun hc => ?_) (fun hc => ?_)
  · have hc := of_decide_eq_true hc
    refine AW.seq_k fun K5 h5 => ?_
    all_goals refine AW.reg0 ?_
    all_goals iterate 3 (refine S.g rfl rfl fun K' k' => ?_; simp only [zz, reduceIte, Nat.reduceEqDiff, Nat.reduceAdd]; refine k' _ _ ?_; clear k' K')
    all_goals refine S.nil ?_
    all_goals simp only [ze, reduceIte, Nat.reduceEqDiff, Nat.reduceLT, Nat.reduceLeDiff, Nat.reduceAdd, reduceCtorEq, Nat.reduceMul]
    all_goals first | refine h5 _ _ ?_ | refine h4 _ _ ?_ | refine h3 _ _ ?_ | refine h2 _ _ ?_ | refine h1 _ _ ?_
    refine AW.bare (AW.ret ?_)
    all_goals simp only [zs, reduceIte, Nat.reduceEqDiff, Nat.reduceLT, Nat.reduceLeDiff, Nat.reduceAdd, reduceCtorEq, Nat.reduceMul]
    rw [bytesP, if_neg hc]; rfl
  have hpe : partErr l = 0 := by simpa using of_decide_eq_false hc
  have hpb := part_bits (part_good hpe hok hn)
  refine AW.skip ?_
  all_goals simp only [zs, reduceIte, Nat.reduceEqDiff, Nat.reduceLT, Nat.reduceLeDiff, Nat.reduceAdd, reduceCtorEq, Nat.reduceMul]
  all_goals first | refine h5 _ _ ?_ | refine h4 _ _ ?_ | refine h3 _ _ ?_ | refine h2 _ _ ?_ | refine h1 _ _ ?_
  refine AW.seq_k fun K6 h6 => ?_
  all_goals refine AW.reg0 ?_
  all_goals (refine S.g rfl rfl fun K' k' => ?_; simp only [zz, reduceIte, Nat.reduceEqDiff, Nat.reduceLT, Nat.reduceLeDiff, Nat.reduceAdd, reduceCtorEq, Nat.reduceMul, ok24, sz24, ag24]; refine k' _ _ ?_; clear k' K')
  all_goals (refine S.g rfl rfl fun K' k' => ?_; simp only [zz, reduceIte, Nat.reduceEqDiff, Nat.reduceLT, Nat.reduceLeDiff, Nat.reduceAdd, reduceCtorEq, Nat.reduceMul]; refine (Own.frz (partForm_grow l _ (part_good hpe hok hn))).to fun v σ1 hv => ?_; obtain ⟨rfl, rfl⟩ := hv <;> (refine k' _ _ ?_; clear k' K'))
  all_goals (refine S.g rfl rfl fun K' k' => ?_; simp only [zz, reduceIte, Nat.reduceEqDiff, Nat.reduceLT, Nat.reduceLeDiff, Nat.reduceAdd, reduceCtorEq, Nat.reduceMul]; refine (pack_frz (partB l) _ (by omega)).to fun v σ1 hv => ?_; obtain ⟨rfl, rfl⟩ := hv <;> (refine k' _ _ ?_; clear k' K'))
  all_goals iterate 2 (refine S.g rfl rfl fun K' k' => ?_; simp only [zz, reduceIte, Nat.reduceEqDiff, Nat.reduceAdd]; refine k' _ _ ?_; clear k' K')
  all_goals refine S.nil ?_
  all_goals simp only [ze, reduceIte, Nat.reduceEqDiff, Nat.reduceLT, Nat.reduceLeDiff, Nat.reduceAdd, reduceCtorEq, Nat.reduceMul]
  all_goals first | refine h6 _ _ ?_ | refine h5 _ _ ?_ | refine h4 _ _ ?_ | refine h3 _ _ ?_ | refine h2 _ _ ?_ | refine h1 _ _ ?_
  refine AW.bare (AW.ret ?_)
  all_goals simp only [zs, reduceIte, Nat.reduceEqDiff, Nat.reduceLT, Nat.reduceLeDiff, Nat.reduceAdd, reduceCtorEq, Nat.reduceMul]
  rw [bytesP, if_pos hpe, hpe]; rfl
end Go.Abs.M
