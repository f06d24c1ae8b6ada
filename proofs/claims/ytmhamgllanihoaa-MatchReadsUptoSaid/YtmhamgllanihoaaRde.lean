import Derived.Test.YtmhamgllanihoaaRdd
import Derived.Laws.Append
namespace Go.Abs.M
open Go Go.Abs Go.Proofs
set_option maxRecDepth 20000
set_option linter.unusedSimpArgs false
set_option linter.unusedVariables false
def encT (b : Bool) : List V := [.c (.bool b)]
/-- A list of flags of the call's own. -/
def Own (bs : List Bool) (σ : Hp) (v : V) (σ' : Hp) : Prop := ∃ k, v = .gl k ∧ σ.gr k = none ∧ σ' = σ.setGr k (some ((4, 1), bs.map encT))
def Frz (bs : List Bool) (σ : Hp) (v : V) (σ' : Hp) : Prop := v = .sl (bs.map encT) ∧ σ' = σ
theorem Own.frz {f : FuncId} {args : List V} {bs : List Bool} {σ : Hp} (h : ACalls Try.prog f args σ (Own bs σ)) : ACalls Try.prog f args σ (Frz bs σ) :=
  h.freeze fun v σ' ⟨k, h1, h2, h3⟩ => ⟨k, (4, 1), bs.map encT, h1, by rw [h3]; simp, rfl, by rw [h3, Hp.setGr_setGr, Hp.setGr_none h2]⟩
theorem gr_del {σ : Hp} {k k2 : Nat} (hk : σ.gr k = none) (h : (σ.setGr k none).gr k2 = none) : σ.gr k2 = none := by rwa [Hp.setGr_none hk] at h
theorem encT_len {l : List Bool} : ∀ e : List V, e ∈ l.map encT → e.length = 1 := fun e he => by obtain ⟨x, _, rfl⟩ := List.mem_map.1 he; rfl
theorem Low_grow (u n : Nat) (σ : Hp) (hn : 0 < n) (hn2 : n ≤ 64) : ACalls Try.prog 36 [.c (.int .u64 u), .c (.int .i64 n)] σ (Own (lowB u n) σ) := by
  refine ACalls.intro Try.call36 Try.func36 rfl Try.ntmps36 Try.results36 (by simp) ?_
  have hw1 : IntKind.i64.wrap ((n : Int) - 1) = (n : Int) - 1 := by rw [wrapI _ (by omega) (by omega)]
  refine AW.seq_k fun K1 h1 => ?_
  all_goals refine AW.reg0 ?_
  all_goals (refine S.g rfl rfl fun K' k' => ?_; simp only [zz, reduceIte, Nat.reduceEqDiff, Nat.reduceAdd]; refine k' _ _ ?_; clear k' K')
  all_goals refine S.nil ?_
  all_goals simp only [ze, reduceIte, Nat.reduceEqDiff, Nat.reduceLT, Nat.reduceLeDiff, Nat.reduceAdd, reduceCtorEq, Nat.reduceMul]
  all_goals apply_assumption
  refine AW.seq_k fun K2 h2 => ?_
  all_goals refine AW.reg0 ?_
  all_goals (refine S.g rfl rfl fun K' k' => ?_; simp only [zz, reduceIte, Nat.reduceEqDiff, Nat.reduceAdd]; refine k' _ _ ?_; clear k' K')
  all_goals refine S.nil ?_
  all_goals simp only [ze, reduceIte, Nat.reduceEqDiff, Nat.reduceLT, Nat.reduceLeDiff, Nat.reduceAdd, reduceCtorEq, Nat.reduceMul]
  all_goals apply_assumption
  refine AW.seq_k fun K3 h3 => ?_
  refine AW.seq_k fun K4 h4 => ?_
  all_goals refine AW.reg0 ?_
  all_goals iterate 3 (refine S.g rfl rfl fun K' k' => ?_; simp only [zz, reduceIte, Nat.reduceEqDiff, Nat.reduceAdd, hw1]; refine k' _ _ ?_; clear k' K')
  all_goals refine S.nil ?_
  all_goals simp only [ze, reduceIte, Nat.reduceEqDiff, Nat.reduceLT, Nat.reduceLeDiff, Nat.reduceAdd, reduceCtorEq, Nat.reduceMul, hw1]
  all_goals apply_assumption
  refine AW.block ?_   -- 0
  refine AW.loop (fun m s σ' => ∃ j, m = n - j ∧ j ≤ n ∧ s.t 0 = .c (.int .u64 u) ∧ s.t 6 = .c (.int .i64 ((n : Int) - 1 - (j : Nat))) ∧ ((j = 0 ∧ s.t 5 = .c (.slice none 0 0) ∧ σ' = σ) ∨ (0 < j ∧ Own ((lowB u n).take j) σ (s.t 5) σ'))) n ?_ ?_
  · refine ⟨0, rfl, Nat.zero_le _, ?_⟩
    all_goals simp only [zs, reduceIte, Nat.reduceEqDiff, Nat.reduceLT, Nat.reduceLeDiff, Nat.reduceAdd, reduceCtorEq, Nat.reduceMul]
    simp
  rintro m s σ' ⟨j, hm, hj, e0, e6, hown⟩
  refine AW.seq_k fun K5 h5 => ?_
  refine AW.seq_k fun K6 h6 => ?_
  all_goals refine AW.reg0 ?_
  all_goals iterate 2 (refine S.g rfl rfl fun K' k' => ?_; simp only [zz, reduceIte, Nat.reduceEqDiff, Nat.reduceAdd, e6]; refine k' _ _ ?_; clear k' K')
  all_goals refine S.nil ?_
  all_goals simp only [ze, reduceIte, Nat.reduceEqDiff, Nat.reduceLT, Nat.reduceLeDiff, Nat.reduceAdd, reduceCtorEq, Nat.reduceMul, e6]
  all_goals apply_assumption
  refine AW.cond (b := decide (j < n)) (by simp [ev]; omega) (fun hc => ?_) (fun hc => ?_)
  · have hjn := of_decide_eq_true hc
    have hi : (n : Int) - 1 - (j : Nat) = ((n - 1 - j : Nat) : Int) := by omega
    rw [hi] at e6
    refine AW.skip ?_
    all_goals simp only [zs, reduceIte, Nat.reduceEqDiff, Nat.reduceLT, Nat.reduceLeDiff, Nat.reduceAdd, reduceCtorEq, Nat.reduceMul]
    all_goals apply_assumption
    have hsh := shr64 u (n - 1 - j) (by omega)
    have hr2 : (((u / 2 ^ (n - 1 - j) : Nat)) : Int).tmod 2 = ((u / 2 ^ (n - 1 - j) % 2 : Nat) : Int) := rfl
    have he1 := eq1 (u / 2 ^ (n - 1 - j))
    have hl64 : decide (((n - 1 - j : Nat) : Int) < 64) = true := by simp; omega
    have hw2 : IntKind.i64.wrap (((n - 1 - j : Nat) : Int) - 1) = (n : Int) - 1 - ((j + 1 : Nat) : Int) := by rw [wrapI _ (by omega) (by omega)]; omega
    have htk := lowB_take u n j hjn
    rcases hown with ⟨rfl, e5, rfl⟩ | ⟨hj0, k, e5, hk, rfl⟩
    · refine AW.seq_k fun K7 h7 => ?_
      refine AW.block ?_   -- 1
      all_goals refine AW.reg0 ?_
      all_goals iterate 2 (refine S.g rfl rfl fun K' k' => ?_; simp only [zz, reduceIte, Nat.reduceEqDiff, Nat.reduceAdd, e0, e5, e6, Int.reduceEq, hsh, hr2, he1, hl64]; refine k' _ _ ?_; clear k' K')
      all_goals (refine S.g rfl rfl fun K' k' => ?_; simp only [zz, reduceIte, Nat.reduceEqDiff, Nat.reduceLT, Nat.reduceLeDiff, Nat.reduceAdd, reduceCtorEq, Nat.reduceMul, e0, e5, e6, Int.reduceEq, hsh, hr2, he1, hl64]; refine S.bool fun b a15 => ?_; cases b <;> (try (exfalso; first | exact Bool.noConfusion a15 | (have h := of_decide_eq_true a15; omega) | (have h := of_decide_eq_false a15; omega))) <;> (refine k' _ _ ?_; clear k' K'))
      all_goals (refine S.g rfl rfl fun K' k' => ?_; simp only [zz, reduceIte, Nat.reduceEqDiff, Nat.reduceAdd, e0, e5, e6, Int.reduceEq, hsh, hr2, he1, hl64]; refine k' _ _ ?_; clear k' K')
      all_goals iterate 5 (first | (refine S.y rfl rfl rfl rfl fun K' k' => ?_; simp only [zz, reduceIte, Nat.reduceEqDiff, Nat.reduceAdd, e0, e5, e6, Int.reduceEq, hsh, hr2, he1, hl64]; refine k' _ _ ?_; clear k' K') | ((first | refine S.x rfl rfl rfl rfl fun K' k' => ?_ | refine S.u rfl rfl rfl rfl fun K' k' => ?_); simp only [ze, reduceIte, Nat.reduceEqDiff]; refine k' _ _ ?_; clear k' K'))
      all_goals (refine S.g rfl rfl fun K' k' => ?_; simp only [zz, reduceIte, Nat.reduceEqDiff, Nat.reduceAdd, e0, e5, e6, Int.reduceEq, hsh, hr2, he1, hl64]; refine k' _ _ ?_; clear k' K')
      all_goals (refine S.g rfl rfl fun K' k' => ?_; simp only [zb, reduceIte, Nat.reduceEqDiff, Nat.reduceLT, Nat.reduceLeDiff, Nat.reduceAdd, reduceCtorEq, Nat.reduceMul, sl56, el56, ok4, sz4, ag4, zt4, by4, e0, e5, e6, Int.reduceEq, hsh, hr2, he1, hl64]; refine k' _ _ ?_; clear k' K')
      all_goals (refine S.g rfl rfl fun K' k' => ?_; simp only [zz, reduceIte, Nat.reduceEqDiff, Nat.reduceLT, Nat.reduceLeDiff, Nat.reduceAdd, reduceCtorEq, Nat.reduceMul, sl56, el56, ok4, sz4, ag4, zt4, by4, e0, e5, e6, Int.reduceEq, hsh, hr2, he1, hl64]; refine ⟨by simp, by unfold maxLen; (try simp only [List.length_map, List.length_take, lowB_len, List.length_cons, List.length_nil]); omega, by unfold reach; (try simp only [List.length_map, List.length_take, lowB_len, List.length_cons, List.length_nil]); omega, fun k2 hk2 => ?_⟩ <;> (refine k' _ _ ?_; clear k' K'))
      all_goals (refine S.g rfl rfl fun K' k' => ?_; simp only [zz, reduceIte, Nat.reduceEqDiff, Nat.reduceAdd, e0, e5, e6, Int.reduceEq, hsh, hr2, he1, hl64]; refine k' _ _ ?_; clear k' K')
      all_goals refine S.nil ?_
      all_goals simp only [ze, reduceIte, Nat.reduceEqDiff, Nat.reduceLT, Nat.reduceLeDiff, Nat.reduceAdd, reduceCtorEq, Nat.reduceMul, e0, e5, e6, Int.reduceEq, hsh, hr2, he1, hl64]
      all_goals apply_assumption
      all_goals refine AW.reg0 ?_
      all_goals iterate 3 (refine S.g rfl rfl fun K' k' => ?_; simp only [zz, reduceIte, Nat.reduceEqDiff, Nat.reduceAdd, e6, hw2]; refine k' _ _ ?_; clear k' K')
      all_goals refine S.nil ?_
      all_goals simp only [ze, reduceIte, Nat.reduceEqDiff, Nat.reduceLT, Nat.reduceLeDiff, Nat.reduceAdd, reduceCtorEq, Nat.reduceMul, e6, hw2]
      refine ⟨n - 1, by omega, 1, rfl, by omega, e0, rfl, .inr ⟨by omega, k2, rfl, hk2, ?_⟩⟩
      rw [htk]; rfl
    · refine AW.seq_k fun K8 h8 => ?_
      refine AW.block ?_   -- 1
      all_goals refine AW.reg0 ?_
      all_goals iterate 2 (refine S.g rfl rfl fun K' k' => ?_; simp only [zz, reduceIte, Nat.reduceEqDiff, Nat.reduceAdd, e0, e5, e6, Int.reduceEq, hsh, hr2, he1, hl64]; refine k' _ _ ?_; clear k' K')
      all_goals (refine S.g rfl rfl fun K' k' => ?_; simp only [zz, reduceIte, Nat.reduceEqDiff, Nat.reduceLT, Nat.reduceLeDiff, Nat.reduceAdd, reduceCtorEq, Nat.reduceMul, e0, e5, e6, Int.reduceEq, hsh, hr2, he1, hl64]; refine S.bool fun b a15 => ?_; cases b <;> (try (exfalso; first | exact Bool.noConfusion a15 | (have h := of_decide_eq_true a15; omega) | (have h := of_decide_eq_false a15; omega))) <;> (refine k' _ _ ?_; clear k' K'))
      all_goals (refine S.g rfl rfl fun K' k' => ?_; simp only [zz, reduceIte, Nat.reduceEqDiff, Nat.reduceAdd, e0, e5, e6, Int.reduceEq, hsh, hr2, he1, hl64]; refine k' _ _ ?_; clear k' K')
      all_goals iterate 5 (first | (refine S.y rfl rfl rfl rfl fun K' k' => ?_; simp only [zz, reduceIte, Nat.reduceEqDiff, Nat.reduceAdd, e0, e5, e6, Int.reduceEq, hsh, hr2, he1, hl64]; refine k' _ _ ?_; clear k' K') | ((first | refine S.x rfl rfl rfl rfl fun K' k' => ?_ | refine S.u rfl rfl rfl rfl fun K' k' => ?_); simp only [ze, reduceIte, Nat.reduceEqDiff]; refine k' _ _ ?_; clear k' K'))
      all_goals (refine S.g rfl rfl fun K' k' => ?_; simp only [zz, reduceIte, Nat.reduceEqDiff, Nat.reduceAdd, e0, e5, e6, Int.reduceEq, hsh, hr2, he1, hl64]; refine k' _ _ ?_; clear k' K')
      all_goals (refine S.g rfl rfl fun K' k' => ?_; simp only [zb, reduceIte, Nat.reduceEqDiff, Nat.reduceLT, Nat.reduceLeDiff, Nat.reduceAdd, reduceCtorEq, Nat.reduceMul, sl56, el56, ok4, sz4, ag4, zt4, by4, e0, e5, e6, Int.reduceEq, hsh, hr2, he1, hl64]; refine k' _ _ ?_; clear k' K')
      all_goals (refine S.g rfl rfl fun K' k' => ?_; simp only [zz, reduceIte, Nat.reduceEqDiff, Nat.reduceLT, Nat.reduceLeDiff, Nat.reduceAdd, reduceCtorEq, Nat.reduceMul, sl56, el56, ok4, sz4, ag4, zt4, by4, e0, e5, e6, Int.reduceEq, hsh, hr2, he1, hl64]; refine ⟨by simp, by unfold maxLen; (try simp only [List.length_map, List.length_take, lowB_len, List.length_cons, List.length_nil]); omega, by unfold reach; (try simp only [List.length_map, List.length_take, lowB_len, List.length_cons, List.length_nil]); omega, fun k2 hk2 => ?_⟩ <;> (refine k' _ _ ?_; clear k' K'))
      all_goals (refine S.g rfl rfl fun K' k' => ?_; simp only [zz, reduceIte, Nat.reduceEqDiff, Nat.reduceAdd, e0, e5, e6, Int.reduceEq, hsh, hr2, he1, hl64]; refine k' _ _ ?_; clear k' K')
      all_goals refine S.nil ?_
      all_goals simp only [ze, reduceIte, Nat.reduceEqDiff, Nat.reduceLT, Nat.reduceLeDiff, Nat.reduceAdd, reduceCtorEq, Nat.reduceMul, e0, e5, e6, Int.reduceEq, hsh, hr2, he1, hl64]
      all_goals apply_assumption
      all_goals refine AW.reg0 ?_
      all_goals iterate 3 (refine S.g rfl rfl fun K' k' => ?_; simp only [zz, reduceIte, Nat.reduceEqDiff, Nat.reduceAdd, e6, hw2]; refine k' _ _ ?_; clear k' K')
      all_goals refine S.nil ?_
      all_goals simp only [ze, reduceIte, Nat.reduceEqDiff, Nat.reduceLT, Nat.reduceLeDiff, Nat.reduceAdd, reduceCtorEq, Nat.reduceMul, e6, hw2]
      refine ⟨n - (j + 1), by omega, j + 1, rfl, by omega, e0, rfl, .inr ⟨by omega, k2, rfl, gr_del hk hk2, ?_⟩⟩
      rw [htk, Hp.setGr_none hk]; simp [encT]
  · have hjn := of_decide_eq_false hc
    have hj2 : j = n := by omega
    subst hj2
    refine AW.exit ?_
    all_goals simp only [zs, reduceIte, Nat.reduceEqDiff, Nat.reduceLT, Nat.reduceLeDiff, Nat.reduceAdd, reduceCtorEq, Nat.reduceMul]
    all_goals apply_assumption
    rcases hown with ⟨rfl, e5, rfl⟩ | ⟨hj0, k, e5, hk, rfl⟩
    · omega
    · refine AW.seq_k fun K9 h9 => ?_
      all_goals refine AW.reg0 ?_
      all_goals iterate 2 (refine S.g rfl rfl fun K' k' => ?_; simp only [zz, reduceIte, Nat.reduceEqDiff, Nat.reduceAdd, e5]; refine k' _ _ ?_; clear k' K')
      all_goals refine S.nil ?_
      all_goals simp only [ze, reduceIte, Nat.reduceEqDiff, Nat.reduceLT, Nat.reduceLeDiff, Nat.reduceAdd, reduceCtorEq, Nat.reduceMul, e5]
      all_goals apply_assumption
      refine AW.ret ?_
      all_goals simp only [zs, reduceIte, Nat.reduceEqDiff, Nat.reduceLT, Nat.reduceLeDiff, Nat.reduceAdd, reduceCtorEq, Nat.reduceMul]
      refine ⟨k, rfl, hk, ?_⟩
      rw [List.take_of_length_le (by rw [lowB_len]; omega)]
end Go.Abs.M
namespace Go.Abs
open Go
section
variable {P : Program}
end
section
variable {P : Program} {T : Tab} {B : Base} {n : Nat} {cx cx' : Cx} {s : St} {σ σ' : Hp} {a : Act} {w w' : World} {K : St → Hp → Prop}
/-- append of a make, to a list of the call's own. -/
def semAppendG (P : Program) (t : TypeId) (x y : V) (d : Option Nat) (K : St → Hp → Prop) (s : St) (σ : Hp) : Prop :=
  match dstE σ (P.elem t) (szT P (P.elem t)) x, y with
  | some (ok, es), .c (.int _ c) => ∃ z, zeroT P (P.elem t) = some z ∧ slT P t = true ∧ szT P (P.elem t) ≠ 0 ∧ z.cells.size = szT P (P.elem t) ∧ oneAll z.cells.toList = true ∧ 0 < c ∧ es.length + c.toNat ≤ maxLen ∧
      (es.length + c.toNat) * P.bytesOf (P.elem t) ≤ reach ∧
      ∀ k', (σ.delO ok).gr k' = none → K (s.putO d (.gl k')) ((σ.delO ok).setGr k' (some ((P.elem t, szT P (P.elem t)), es ++ List.replicate c.toNat (z.cells.toList.map .c))))
  | _, _ => False
/-- A region in order, where an append of a make may stand. -/
def semX (P : Program) (T : Tab) (o : Oper) (K : St → Hp → Prop) (s : St) (σ : Hp) : Prop :=
  semOp P T o K s σ ∨ ∃ t t' x y ki, P.underlying t' = some (.int ki) ∧ o.op = .call { callee := .builtin .append, args := #[x, y], argTypes := #[t, t'] } ∧ semAppendG P t (ev s x) (ev s y) o.dst K s σ
def semLX (P : Program) (T : Tab) (n : Nat) : List Oper → (St → Hp → Prop) → St → Hp → Prop
  | [], K, s, σ => K s σ
  | o :: r, K, s, σ => dOK n o.dst ∧ o.guard = none ∧ semX P T o (semLX P T n r K) s σ
theorem XS.g {o : Oper} {r : List Oper} (hd : okd n o.dst = true) (hg : o.guard = none) (h : semOp P T o (semLX P T n r K) s σ) : semLX P T n (o :: r) K s σ := ⟨okd_ok hd, hg, .inl h⟩
theorem XS.mk {o : Oper} {r : List Oper} {t t' : TypeId} {x y : Operand} {ki : IntKind} (hd : okd n o.dst = true) (hg : o.guard = none) (h1 : P.underlying t' = some (.int ki)) (h2 : o.op = .call { callee := .builtin .append, args := #[x, y], argTypes := #[t, t'] })
    (h : semAppendG P t (ev s x) (ev s y) o.dst (semLX P T n r K) s σ) : semLX P T n (o :: r) K s σ := ⟨okd_ok hd, hg, .inr ⟨t, t', x, y, ki, h1, h2, h⟩⟩
end
end Go.Abs
namespace Go.Abs.M
open Go Go.Abs Go.Proofs
set_option maxRecDepth 20000
set_option linter.unusedSimpArgs false
set_option linter.unusedVariables false
def unB (b : List Nat) : List Bool := b.flatMap fun x => lowB x 8
def srcC (b : List Nat) (at' : Nat) : List V := [.c (.bool true), .sl (b.map encB), .c (.int .i64 at')]
theorem unB_len (b : List Nat) : (unB b).length = 8 * b.length := by
  unfold unB
  induction b with
  | nil => rfl
  | cons x b ih => rw [List.flatMap_cons, List.length_append, ih, lowB_len, List.length_cons]; omega
theorem unB_get : ∀ (b : List Nat) (i x : Nat), b[i / 8]? = some x → (unB b)[i]? = some (x / 2 ^ (7 - i % 8) % 2 == 1)
  | [], i, x, h => by simp at h
  | y :: b, i, x, h => by
    unfold unB
    rw [List.flatMap_cons]
    by_cases hi : i < 8
    · rw [List.getElem?_append_left (by rw [lowB_len]; exact hi)]
      have h0 : i / 8 = 0 := by omega
      rw [h0] at h
      simp at h
      subst h
      rw [lowB_get y 8 i hi, show 8 - 1 - i = 7 - i % 8 by omega]
    · rw [List.getElem?_append_right (by rw [lowB_len]; omega), lowB_len]
      have h1 : i / 8 = (i - 8) / 8 + 1 := by omega
      rw [h1, List.getElem?_cons_succ] at h
      have := unB_get b (i - 8) x h
      unfold unB at this
      rw [this, show (i - 8) % 8 = i % 8 by omega]
def valN (l : List Bool) : Nat := l.foldl (fun u x => 2 * u + x.toNat) 0
theorem valN_snoc (l : List Bool) (x : Bool) : valN (l ++ [x]) = 2 * valN l + x.toNat := by simp [valN]
theorem valN_lt (l : List Bool) : valN l < 2 ^ l.length := by
  rw [← List.reverse_reverse l]
  induction l.reverse with
  | nil => simp [valN]
  | cons x r ih =>
    rw [List.reverse_cons, valN_snoc, List.length_append, List.length_singleton, Nat.pow_succ]
    have : x.toNat ≤ 1 := by cases x <;> simp
    omega
theorem and1u8 : ∀ y : Nat, y < 256 → IntKind.u8.wrap ((BitVec.ofInt IntKind.u8.bits (y : Int) &&& BitVec.ofInt IntKind.u8.bits 1).toNat : Int) = ((y % 2 : Nat) : Int) := by decide +kernel
theorem shr8 : ∀ k : Nat, k < 8 → ∀ x : Nat, x < 256 → Int.fdiv (x : Int) ((2 : Int) ^ min k IntKind.u8.bits) = ((x / 2 ^ k : Nat) : Int) := by decide +kernel
theorem left_spec (g : Nat) (b : List Nat) (q : Nat) (σ : Hp) (ho : σ.obj g = some (srcC b q)) (hb : b.length < 140737488355329) (hq : q ≤ 8 * b.length) :
    ACalls Try.prog 61 [ptrV g] σ (fun v σ' => v = .c (.int .i64 (8 * b.length - q : Nat)) ∧ σ' = σ) := by
  unfold srcC at ho
  refine ACalls.intro Try.call61 Try.func61 rfl Try.ntmps61 Try.results61 (by simp) ?_
  have hw1 : IntKind.i64.wrap (8 * (b.length : Int)) = ((8 * b.length : Nat) : Int) := by rw [wrap_small _ (by omega) (by omega)]; simp
  have hw2 : IntKind.i64.wrap (((8 * b.length : Nat) : Int) - (q : Int)) = ((8 * b.length - q : Nat) : Int) := by rw [wrap_small _ (by omega) (by omega)]; omega
  refine AW.seq_k fun K1 h1 => ?_
  all_goals refine AW.reg0 ?_
  all_goals (refine S.g rfl rfl fun K' k' => ?_; simp only [zz, reduceIte, Nat.reduceEqDiff, Nat.reduceAdd]; refine k' _ _ ?_; clear k' K')
  all_goals refine S.nil ?_
  all_goals simp only [ze, reduceIte, Nat.reduceEqDiff, Nat.reduceLT, Nat.reduceLeDiff, Nat.reduceAdd, reduceCtorEq, Nat.reduceMul]
  all_goals apply_assumption
  refine AW.seq_k fun K2 h2 => ?_
  refine AW.seq_k fun K3 h3 => ?_
  all_goals refine AW.reg0 ?_
  all_goals iterate 2 (refine S.g rfl rfl fun K' k' => ?_; simp only [zz, reduceIte, Nat.reduceEqDiff, Nat.reduceAdd, un82, ptrV, un82, TypeDesc.pointer.injEq]; refine k' _ _ ?_; clear k' K')
  all_goals refine S.nil ?_
  all_goals simp only [ze, reduceIte, Nat.reduceEqDiff, Nat.reduceLT, Nat.reduceLeDiff, Nat.reduceAdd, reduceCtorEq, Nat.reduceMul, ptrV, un82, TypeDesc.pointer.injEq]
  all_goals apply_assumption
  refine AW.cond (b := false) (by simp [ev]) (fun hc => by cases hc) (fun hc => ?_)
  refine AW.skip ?_
  all_goals simp only [zs, reduceIte, Nat.reduceEqDiff, Nat.reduceLT, Nat.reduceLeDiff, Nat.reduceAdd, reduceCtorEq, Nat.reduceMul]
  all_goals apply_assumption
  refine AW.seq_k fun K4 h4 => ?_
  all_goals refine AW.drawF (T := { sd := fun _ => false }) (fun _ _ h => by cases h) mixedO (.st 0 0 (.st 1 0 (.st 2 0 (.st 6 0 (.st 7 0 (.st 8 0 (.fork 3 (.st 4 0 (.st 5 0 (.st 9 2 (.st 10 0 (.st 11 0 .nil))))) 9 (.st 3 2 (.st 4 0 (.st 5 0 (.st 10 0 (.st 11 0 .nil)))))))))))) rfl (by kernel_rfl) (by kernel_rfl) ?_
  all_goals iterate 6 (refine F.g rfl trivial rfl rfl fun K' k' => ?_; simp only [zz, reduceIte, Nat.reduceEqDiff, Nat.reduceLT, Nat.reduceLeDiff, Nat.reduceAdd, reduceCtorEq, Nat.reduceMul, of129_1, of129_2, ho, map3, hw1, hw2, List.getD_cons_succ, List.getD_cons_zero]; refine k' _ _ ?_; clear k' K')
  all_goals (try first | refine F.fork ?_ ?_ | refine F.fork3 ?_ ?_ ?_)
  all_goals first | (refine F.g rfl trivial rfl rfl fun K' k' => ?_; simp only [zz, reduceIte, Nat.reduceEqDiff, Nat.reduceLT, Nat.reduceLeDiff, Nat.reduceAdd, reduceCtorEq, Nat.reduceMul, ok48, sz48, ag48, ho, map3, hw1, hw2, List.getD_cons_succ, List.getD_cons_zero]; refine k' _ _ ?_; clear k' K') | (refine F.g rfl trivial rfl rfl fun K' k' => ?_; simp only [zz, reduceIte, Nat.reduceEqDiff, Nat.reduceLT, Nat.reduceLeDiff, Nat.reduceAdd, reduceCtorEq, Nat.reduceMul, ok3, sz3, ag3, ho, map3, hw1, hw2, List.getD_cons_succ, List.getD_cons_zero]; refine k' _ _ ?_; clear k' K')
  all_goals first | (refine F.g rfl trivial rfl rfl fun K' k' => ?_; simp only [zz, reduceIte, Nat.reduceEqDiff, Nat.reduceLT, Nat.reduceLeDiff, Nat.reduceAdd, reduceCtorEq, Nat.reduceMul, sl48, el48, ok5, sz5, ag5, ho, map3, hw1, hw2, List.getD_cons_succ, List.getD_cons_zero]; refine k' _ _ ?_; clear k' K') | (refine F.g rfl trivial rfl rfl fun K' k' => ?_; simp only [zz, reduceIte, Nat.reduceEqDiff, Nat.reduceLT, Nat.reduceLeDiff, Nat.reduceAdd, reduceCtorEq, Nat.reduceMul, ok48, sz48, ag48, ho, map3, hw1, hw2, List.getD_cons_succ, List.getD_cons_zero]; refine k' _ _ ?_; clear k' K')
  all_goals first | (refine F.g rfl trivial rfl rfl fun K' k' => ?_; simp only [zz, reduceIte, Nat.reduceEqDiff, Nat.reduceLT, Nat.reduceLeDiff, Nat.reduceAdd, reduceCtorEq, Nat.reduceMul, ho, map3, hw1, hw2, List.getD_cons_succ, List.getD_cons_zero]; refine k' _ _ ?_; clear k' K') | (refine F.g rfl trivial rfl rfl fun K' k' => ?_; simp only [zz, reduceIte, Nat.reduceEqDiff, Nat.reduceLT, Nat.reduceLeDiff, Nat.reduceAdd, reduceCtorEq, Nat.reduceMul, sl48, el48, ok5, sz5, ag5, ho, map3, hw1, hw2, List.getD_cons_succ, List.getD_cons_zero]; refine k' _ _ ?_; clear k' K')
  all_goals first | (refine F.g rfl trivial rfl rfl fun K' k' => ?_; simp only [zz, reduceIte, Nat.reduceEqDiff, Nat.reduceLT, Nat.reduceLeDiff, Nat.reduceAdd, reduceCtorEq, Nat.reduceMul, ok3, sz3, ag3, ho, map3, hw1, hw2, List.getD_cons_succ, List.getD_cons_zero]; refine k' _ _ ?_; clear k' K') | (refine F.g rfl trivial rfl rfl fun K' k' => ?_; simp only [zz, reduceIte, Nat.reduceEqDiff, Nat.reduceLT, Nat.reduceLeDiff, Nat.reduceAdd, reduceCtorEq, Nat.reduceMul, ho, map3, hw1, hw2, List.getD_cons_succ, List.getD_cons_zero]; refine k' _ _ ?_; clear k' K')
  all_goals iterate 2 (refine F.g rfl trivial rfl rfl fun K' k' => ?_; simp only [zz, reduceIte, Nat.reduceEqDiff, Nat.reduceAdd, ho, map3, hw1, hw2, List.getD_cons_succ, List.getD_cons_zero]; refine k' _ _ ?_; clear k' K')
  all_goals refine F.nil ?_
  all_goals simp only [ze, reduceIte, Nat.reduceEqDiff, Nat.reduceLT, Nat.reduceLeDiff, Nat.reduceAdd, reduceCtorEq, Nat.reduceMul, ho, map3, hw1, hw2, List.getD_cons_succ, List.getD_cons_zero]
  all_goals apply_assumption
  all_goals refine AW.ret ?_
  all_goals simp only [zs, reduceIte, Nat.reduceEqDiff, Nat.reduceLT, Nat.reduceLeDiff, Nat.reduceAdd, reduceCtorEq, Nat.reduceMul]
theorem bit_spec (g : Nat) (b : List Nat) (q i : Nat) (σ : Hp) (ho : σ.obj g = some (srcC b q)) (x : Nat) (hx : b[i / 8]? = some x) (h256 : x < 256) (hi : i < 2251799813685248) :
    ACalls Try.prog 100 [ptrV g, .c (.int .i64 i)] σ (fun v σ' => v = .c (.int .u64 (x / 2 ^ (7 - i % 8) % 2 : Nat)) ∧ σ' = σ) := by
  unfold srcC at ho
  refine ACalls.intro Try.call100 Try.func100 rfl Try.ntmps100 Try.results100 (by simp) ?_
  have hq8 : (i : Int).tdiv 8 = ((i / 8 : Nat) : Int) := rfl
  have hr8 : (i : Int).tmod 8 = ((i % 8 : Nat) : Int) := rfl
  have hwq : IntKind.i64.wrap ((i / 8 : Nat) : Int) = ((i / 8 : Nat) : Int) := wrap_small _ (by omega) (by omega)
  have hw7 : IntKind.i64.wrap (7 - ((i % 8 : Nat) : Int)) = ((7 - i % 8 : Nat) : Int) := by rw [wrap_small _ (by omega) (by omega)]; omega
  have hlt : i / 8 < b.length := (List.getElem?_eq_some_iff.1 hx).1
  have hxe := encB_at hx
  have hsh := shr8 (7 - i % 8) (by omega) x h256
  have han := and1u8 (x / 2 ^ (7 - i % 8)) (Nat.lt_of_le_of_lt (Nat.div_le_self _ _) h256)
  have hwu : IntKind.u64.wrap ((x / 2 ^ (7 - i % 8) % 2 : Nat) : Int) = ((x / 2 ^ (7 - i % 8) % 2 : Nat) : Int) := wrap_u64 (by omega)
  refine AW.seq_k fun K1 h1 => ?_
  all_goals refine AW.reg0 ?_
  all_goals (refine S.g rfl rfl fun K' k' => ?_; simp only [zz, reduceIte, Nat.reduceEqDiff, Nat.reduceAdd]; refine k' _ _ ?_; clear k' K')
  all_goals refine S.nil ?_
  all_goals simp only [ze, reduceIte, Nat.reduceEqDiff, Nat.reduceLT, Nat.reduceLeDiff, Nat.reduceAdd, reduceCtorEq, Nat.reduceMul]
  all_goals apply_assumption
  refine AW.seq_k fun K2 h2 => ?_
  all_goals refine AW.reg0 ?_
  all_goals iterate 15 (refine S.g rfl rfl fun K' k' => ?_; simp only [zz, reduceIte, Nat.reduceEqDiff, Nat.reduceLT, Nat.reduceLeDiff, Nat.reduceAdd, reduceCtorEq, Nat.reduceMul, of129_1, ok48, sz48, ag48, sl48, el48, ok5, sz5, ag5, cv5_54, ptrV, ho, map3, Int.reduceEq, hq8, hwq, hr8, hw7, hlt, hxe, hsh, han, hwu, encB, List.length_singleton, List.getD_cons_succ, List.getD_cons_zero]; refine k' _ _ ?_; clear k' K')
  all_goals refine S.nil ?_
  all_goals simp only [ze, reduceIte, Nat.reduceEqDiff, Nat.reduceLT, Nat.reduceLeDiff, Nat.reduceAdd, reduceCtorEq, Nat.reduceMul, ptrV, ho, map3, Int.reduceEq, hq8, hwq, hr8, hw7, hlt, hxe, hsh, han, hwu, encB, List.length_singleton, List.getD_cons_succ, List.getD_cons_zero]
  all_goals apply_assumption
  refine AW.ret ?_
  all_goals simp only [zs, reduceIte, Nat.reduceEqDiff, Nat.reduceLT, Nat.reduceLeDiff, Nat.reduceAdd, reduceCtorEq, Nat.reduceMul]
end Go.Abs.M
namespace Go.Abs.M
open Go Go.Abs Go.Proofs
set_option maxRecDepth 20000
set_option linter.unusedSimpArgs false
set_option linter.unusedVariables false
theorem or_bit {u k : Nat} (hu : u < 9223372036854775808) (hk : k < 2) : IntKind.u64.wrap ((BitVec.ofInt IntKind.u64.bits ((u * 2 : Nat) : Int) ||| BitVec.ofInt IntKind.u64.bits (k : Int)).toNat : Int) = ((2 * u + k : Nat) : Int) := by
  have h : (BitVec.ofInt IntKind.u64.bits ((u * 2 : Nat) : Int) ||| BitVec.ofInt IntKind.u64.bits (k : Int)).toNat = 2 * u + k := by
    rw [BitVec.toNat_or]
    have h1 : (BitVec.ofInt IntKind.u64.bits ((u * 2 : Nat) : Int)).toNat = u * 2 := by
      rw [BitVec.ofInt_natCast, BitVec.toNat_ofNat]; exact Nat.mod_eq_of_lt (show u * 2 < 18446744073709551616 by omega)
    have h2 : (BitVec.ofInt IntKind.u64.bits (k : Int)).toNat = k := by
      rw [BitVec.ofInt_natCast, BitVec.toNat_ofNat]; exact Nat.mod_eq_of_lt (show k < 18446744073709551616 by omega)
    rw [h1, h2]
    have := Nat.two_pow_add_eq_or_of_lt (i := 1) (b := k) (by omega) u
    rw [Nat.pow_one] at this
    rw [Nat.mul_comm u 2]; exact this.symm
  rw [h, wrap_u64 (by omega)]
/-- The number of the next bits. -/
def bitsV (b : List Nat) (q n : Nat) : Nat := valN (((unB b).drop q).take n)
theorem bitsV_succ (b : List Nat) (q i x : Nat) (h : b[(q + i) / 8]? = some x) : bitsV b q (i + 1) = 2 * bitsV b q i + x / 2 ^ (7 - (q + i) % 8) % 2 := by
  unfold bitsV
  rw [List.take_add_one, List.getElem?_drop, unB_get b (q + i) x h]
  simp only [Option.toList_some]
  rw [valN_snoc]
  congr 1
  have : x / 2 ^ (7 - (q + i) % 8) % 2 < 2 := Nat.mod_lt _ (by omega)
  generalize x / 2 ^ (7 - (q + i) % 8) % 2 = y at *
  have hy : y = 0 ∨ y = 1 := by omega
  rcases hy with rfl | rfl <;> rfl
theorem bitsV_lt (b : List Nat) (q n : Nat) : bitsV b q n < 2 ^ n :=
  Nat.lt_of_lt_of_le (valN_lt _) (Nat.pow_le_pow_right (by omega) (by rw [List.length_take]; omega))
theorem sBits_spec (g : Nat) (b : List Nat) (q n : Nat) (σ : Hp) (ho : σ.obj g = some (srcC b q)) (hb : b.length < 140737488355329) (hb256 : ∀ x ∈ b, x < 256) (hq : q ≤ 8 * b.length) (hn : n ≤ 64) :
    ACalls Try.prog 58 [ptrV g, .c (.int .i64 n)] σ (fun v σ' => if q + n ≤ 8 * b.length then v = .tup [.c (.int .u64 (bitsV b q n : Nat)), .c (.int .i64 0)] ∧ σ' = σ.setObj g (some (srcC b (q + n)))
      else v = .tup [.c (.int .u64 0), .c (.int .i64 10)] ∧ σ' = σ) := by
  refine ACalls.intro Try.call58 Try.func58 rfl Try.ntmps58 Try.results58 (by simp) ?_
  have ho' : σ.obj g = some [.c (.bool true), .sl (b.map encB), .c (.int .i64 (q : Nat))] := ho
  have hl0 : decide ((n : Int) < 0) = false := by simp
  have hl1 : decide ((64 : Int) < n) = false := by simp; omega
  refine AW.seq_k fun K1 h1 => ?_
  all_goals refine AW.reg0 ?_
  all_goals iterate 2 (refine S.g rfl rfl fun K' k' => ?_; simp only [zz, reduceIte, Nat.reduceEqDiff, Nat.reduceAdd]; refine k' _ _ ?_; clear k' K')
  all_goals refine S.nil ?_
  all_goals simp only [ze, reduceIte, Nat.reduceEqDiff, Nat.reduceLT, Nat.reduceLeDiff, Nat.reduceAdd, reduceCtorEq, Nat.reduceMul]
  all_goals apply_assumption
  refine AW.seq_k fun K2 h2 => ?_
  refine AW.block ?_   -- 0
  refine AW.seq_k fun K3 h3 => ?_
  all_goals refine AW.reg0 ?_
  all_goals (refine S.g rfl rfl fun K' k' => ?_; simp only [zz, reduceIte, Nat.reduceEqDiff, Nat.reduceAdd, ptrV, ho', map3, un4, un82, TypeDesc.pointer.injEq, Bool.not_true, List.getD_cons_succ, List.getD_cons_zero]; refine k' _ _ ?_; clear k' K')
  all_goals (refine S.g rfl rfl fun K' k' => ?_; simp only [zz, reduceIte, Nat.reduceEqDiff, Nat.reduceLT, Nat.reduceLeDiff, Nat.reduceAdd, reduceCtorEq, Nat.reduceMul, un82, ptrV, ho', map3, un4, un82, TypeDesc.pointer.injEq, Bool.not_true, List.getD_cons_succ, List.getD_cons_zero]; refine S.bool fun b a9 => ?_; cases b <;> (try (exfalso; first | exact Bool.noConfusion a9 | (have h := of_decide_eq_true a9; omega) | (have h := of_decide_eq_false a9; omega))) <;> (refine k' _ _ ?_; clear k' K'))
  all_goals (refine S.g rfl rfl fun K' k' => ?_; simp only [zz, reduceIte, Nat.reduceEqDiff, Nat.reduceAdd, ptrV, ho', map3, un4, un82, TypeDesc.pointer.injEq, Bool.not_true, List.getD_cons_succ, List.getD_cons_zero]; refine k' _ _ ?_; clear k' K')
  all_goals iterate 5 (first | (refine S.y rfl rfl rfl rfl fun K' k' => ?_; simp only [zz, reduceIte, Nat.reduceEqDiff, Nat.reduceLT, Nat.reduceLeDiff, Nat.reduceAdd, reduceCtorEq, Nat.reduceMul, of129_0, ok4, sz4, ag4, ptrV, ho', map3, un4, un82, TypeDesc.pointer.injEq, Bool.not_true, List.getD_cons_succ, List.getD_cons_zero]; refine k' _ _ ?_; clear k' K') | ((first | refine S.x rfl rfl rfl rfl fun K' k' => ?_ | refine S.u rfl rfl rfl rfl fun K' k' => ?_); simp only [ze, reduceIte, Nat.reduceEqDiff]; refine k' _ _ ?_; clear k' K'))
  all_goals iterate 2 (refine S.g rfl rfl fun K' k' => ?_; simp only [zz, reduceIte, Nat.reduceEqDiff, Nat.reduceAdd, ptrV, ho', map3, un4, un82, TypeDesc.pointer.injEq, Bool.not_true, List.getD_cons_succ, List.getD_cons_zero]; refine k' _ _ ?_; clear k' K')
  all_goals refine S.nil ?_
  all_goals simp only [ze, reduceIte, Nat.reduceEqDiff, Nat.reduceLT, Nat.reduceLeDiff, Nat.reduceAdd, reduceCtorEq, Nat.reduceMul, ptrV, ho', map3, un4, un82, TypeDesc.pointer.injEq, Bool.not_true, List.getD_cons_succ, List.getD_cons_zero]
  all_goals apply_assumption
  refine AW.cond (b := false) (by simp [ev]) (fun hc => by cases hc) (fun hc => ?_)
  refine AW.seq_k fun K4 h4 => ?_
  all_goals refine AW.reg0 ?_
  all_goals (refine S.g rfl rfl fun K' k' => ?_; simp only [zz, reduceIte, Nat.reduceEqDiff, Nat.reduceAdd, hl0, hl1, gt_iff_lt]; refine k' _ _ ?_; clear k' K')
  all_goals (refine S.g rfl rfl fun K' k' => ?_; simp only [zz, reduceIte, Nat.reduceEqDiff, Nat.reduceLT, Nat.reduceLeDiff, Nat.reduceAdd, reduceCtorEq, Nat.reduceMul, hl0, hl1, gt_iff_lt]; refine S.bool fun b a19 => ?_; cases b <;> (try (exfalso; first | exact Bool.noConfusion a19 | (have h := of_decide_eq_true a19; omega) | (have h := of_decide_eq_false a19; omega))) <;> (refine k' _ _ ?_; clear k' K'))
  all_goals (refine S.g rfl rfl fun K' k' => ?_; simp only [zz, reduceIte, Nat.reduceEqDiff, Nat.reduceAdd, hl0, hl1, gt_iff_lt]; refine k' _ _ ?_; clear k' K')
  all_goals iterate 2 (first | (refine S.y rfl rfl rfl rfl fun K' k' => ?_; simp only [zz, reduceIte, Nat.reduceEqDiff, Nat.reduceAdd, hl0, hl1, gt_iff_lt]; refine k' _ _ ?_; clear k' K') | ((first | refine S.x rfl rfl rfl rfl fun K' k' => ?_ | refine S.u rfl rfl rfl rfl fun K' k' => ?_); simp only [ze, reduceIte, Nat.reduceEqDiff]; refine k' _ _ ?_; clear k' K'))
  all_goals iterate 2 (refine S.g rfl rfl fun K' k' => ?_; simp only [zz, reduceIte, Nat.reduceEqDiff, Nat.reduceAdd, hl0, hl1, gt_iff_lt]; refine k' _ _ ?_; clear k' K')
  all_goals refine S.nil ?_
  all_goals simp only [ze, reduceIte, Nat.reduceEqDiff, Nat.reduceLT, Nat.reduceLeDiff, Nat.reduceAdd, reduceCtorEq, Nat.reduceMul, hl0, hl1, gt_iff_lt]
  all_goals apply_assumption
  refine AW.cond (b := false) (by simp [ev]) (fun hc => by cases hc) (fun hc => ?_)
  refine AW.seq_k fun K5 h5 => ?_
  all_goals refine AW.reg0 ?_
  all_goals iterate 2 (refine S.g rfl rfl fun K' k' => ?_; simp only [zz, reduceIte, Nat.reduceEqDiff, Nat.reduceAdd, gt_iff_lt]; refine k' _ _ ?_; clear k' K')
  all_goals (refine S.g rfl rfl fun K' k' => ?_; simp only [zz, reduceIte, Nat.reduceEqDiff, Nat.reduceLT, Nat.reduceLeDiff, Nat.reduceAdd, reduceCtorEq, Nat.reduceMul, gt_iff_lt]; refine (left_spec g b q σ ho hb hq).to fun v σ1 hv => ?_; obtain ⟨rfl, rfl⟩ := hv <;> (refine k' _ _ ?_; clear k' K'))
  all_goals iterate 2 (refine S.g rfl rfl fun K' k' => ?_; simp only [zz, reduceIte, Nat.reduceEqDiff, Nat.reduceAdd, gt_iff_lt]; refine k' _ _ ?_; clear k' K')
  all_goals refine S.nil ?_
  all_goals simp only [ze, reduceIte, Nat.reduceEqDiff, Nat.reduceLT, Nat.reduceLeDiff, Nat.reduceAdd, reduceCtorEq, Nat.reduceMul, gt_iff_lt]
  all_goals apply_assumption
  refine AW.cond (b := decide (8 * b.length - q < n)) (by simp [ev]) (fun hc => ?_) (fun hc => ?_)
  · have hlt := of_decide_eq_true hc
    refine AW.seq_k fun K6 h6 => ?_
    all_goals refine AW.reg0 ?_
    all_goals iterate 2 (refine S.g rfl rfl fun K' k' => ?_; simp only [zz, reduceIte, Nat.reduceEqDiff, Nat.reduceAdd]; refine k' _ _ ?_; clear k' K')
    all_goals refine S.nil ?_
    all_goals simp only [ze, reduceIte, Nat.reduceEqDiff, Nat.reduceLT, Nat.reduceLeDiff, Nat.reduceAdd, reduceCtorEq, Nat.reduceMul]
    all_goals apply_assumption
    refine AW.ret ?_
    all_goals simp only [zs, reduceIte, Nat.reduceEqDiff, Nat.reduceLT, Nat.reduceLeDiff, Nat.reduceAdd, reduceCtorEq, Nat.reduceMul]
    rw [if_neg (by omega)]
    simp [wk, wk1]
  have hge := of_decide_eq_false hc
  refine AW.skip ?_
  all_goals simp only [zs, reduceIte, Nat.reduceEqDiff, Nat.reduceLT, Nat.reduceLeDiff, Nat.reduceAdd, reduceCtorEq, Nat.reduceMul]
  all_goals apply_assumption
  refine AW.seq_k fun K7 h7 => ?_
  all_goals refine AW.reg0 ?_
  all_goals (refine S.g rfl rfl fun K' k' => ?_; simp only [zz, reduceIte, Nat.reduceEqDiff, Nat.reduceAdd]; refine k' _ _ ?_; clear k' K')
  all_goals refine S.nil ?_
  all_goals simp only [ze, reduceIte, Nat.reduceEqDiff, Nat.reduceLT, Nat.reduceLeDiff, Nat.reduceAdd, reduceCtorEq, Nat.reduceMul]
  all_goals apply_assumption
  refine AW.seq_k fun K8 h8 => ?_
  refine AW.seq_k fun K9 h9 => ?_
  all_goals refine AW.reg0 ?_
  all_goals iterate 2 (refine S.g rfl rfl fun K' k' => ?_; simp only [zz, reduceIte, Nat.reduceEqDiff, Nat.reduceAdd]; refine k' _ _ ?_; clear k' K')
  all_goals refine S.nil ?_
  all_goals simp only [ze, reduceIte, Nat.reduceEqDiff, Nat.reduceLT, Nat.reduceLeDiff, Nat.reduceAdd, reduceCtorEq, Nat.reduceMul]
  all_goals apply_assumption
  clear ho'
  refine AW.block ?_   -- 1
  refine AW.loop (fun m s σ2 => ∃ i, m = n - i ∧ i ≤ n ∧ s.t 0 = ptrV g ∧ s.t 29 = .c (.int .i64 n) ∧ s.t 30 = .c (.int .i64 (i : Nat)) ∧ s.t 6 = .c (.int .u64 (bitsV b q i : Nat)) ∧ σ2 = σ1.setObj g (some (srcC b (q + i)))) n ?_ ?_
  · refine ⟨0, rfl, Nat.zero_le _, ?_⟩
    all_goals simp only [zs, reduceIte, Nat.reduceEqDiff, Nat.reduceLT, Nat.reduceLeDiff, Nat.reduceAdd, reduceCtorEq, Nat.reduceMul]
    refine ⟨rfl, rfl, ?_⟩
    exact ⟨rfl, (setObj_id ho).symm⟩
  rintro m s σ2 ⟨i, hm, hi, e0, e29, e30, e6, rfl⟩
  refine AW.seq_k fun K10 h10 => ?_
  all_goals refine AW.reg0 ?_
  all_goals (refine S.g rfl rfl fun K' k' => ?_; simp only [zz, reduceIte, Nat.reduceEqDiff, Nat.reduceAdd, e29, e30]; refine k' _ _ ?_; clear k' K')
  all_goals refine S.nil ?_
  all_goals simp only [ze, reduceIte, Nat.reduceEqDiff, Nat.reduceLT, Nat.reduceLeDiff, Nat.reduceAdd, reduceCtorEq, Nat.reduceMul, e29, e30]
  all_goals apply_assumption
  refine AW.seq_k fun K11 h11 => ?_
  refine AW.cond (b := decide (i < n)) (by simp [ev]) (fun hc => ?_) (fun hc => ?_)
  · refine AW.skip ?_
    all_goals simp only [zs, reduceIte, Nat.reduceEqDiff, Nat.reduceLT, Nat.reduceLeDiff, Nat.reduceAdd, reduceCtorEq, Nat.reduceMul]
    all_goals apply_assumption
    have hin := of_decide_eq_true hc
    have ho3 : (σ1.setObj g (some (srcC b (q + i)))).obj g = some (srcC b (q + i)) := by simp
    have ho4 : (σ1.setObj g (some (srcC b (q + i)))).obj g = some [.c (.bool true), .sl (b.map encB), .c (.int .i64 (q + i : Nat))] := ho3
    obtain ⟨x, hx⟩ : ∃ x, b[(q + i) / 8]? = some x := ⟨_, List.getElem?_eq_getElem (by omega)⟩
    have hx256 := hb256 x (List.mem_of_getElem? hx)
    have hv := bitsV_lt b q i
    have hv63 : bitsV b q i < 9223372036854775808 := Nat.lt_of_lt_of_le hv (by rw [show 9223372036854775808 = 2 ^ 63 from rfl]; exact Nat.pow_le_pow_right (by omega) (by omega))
    have hp1 : (2 : Int) ^ min 1 IntKind.u64.bits = 2 := rfl
    have hws : IntKind.u64.wrap ((bitsV b q i : Int) * 2) = ((bitsV b q i * 2 : Nat) : Int) := by rw [show (bitsV b q i : Int) * 2 = ((bitsV b q i * 2 : Nat) : Int) by simp, wrap_u64 (by omega)]
    have hor := or_bit (k := x / 2 ^ (7 - (q + i) % 8) % 2) hv63 (Nat.mod_lt _ (by omega))
    have hsucc := bitsV_succ b q i x hx
    have hw1 : IntKind.i64.wrap (((q + i : Nat) : Int) + 1) = ((q + (i + 1) : Nat) : Int) := by rw [wrap_small _ (by omega) (by omega)]; rfl
    have hwi : IntKind.i64.wrap ((i : Int) + 1) = ((i + 1 : Nat) : Int) := by rw [wrap_small _ (by omega) (by omega)]; rfl
    generalize hG : σ1.setObj g (some (srcC b (q + i))) = σ3 at *
    refine AW.seq_k fun K12 h12 => ?_
    refine AW.block ?_   -- 2
    refine AW.seq_k fun K13 h13 => ?_
    all_goals refine AW.reg0 ?_
    all_goals iterate 7 (refine S.g rfl rfl fun K' k' => ?_; simp only [zz, reduceIte, Nat.reduceEqDiff, Nat.reduceLT, Nat.reduceLeDiff, Nat.reduceAdd, reduceCtorEq, Nat.reduceMul, of129_2, ok3, sz3, ag3, e0, e6, ptrV, ho4, map3, Int.reduceLE, Int.reduceToNat, hp1, hws, hor, List.getD_cons_succ, List.getD_cons_zero]; refine k' _ _ ?_; clear k' K')
    all_goals (refine S.g rfl rfl fun K' k' => ?_; simp only [zz, reduceIte, Nat.reduceEqDiff, Nat.reduceLT, Nat.reduceLeDiff, Nat.reduceAdd, reduceCtorEq, Nat.reduceMul, e0, e6, ptrV, ho4, map3, Int.reduceLE, Int.reduceToNat, hp1, hws, hor, List.getD_cons_succ, List.getD_cons_zero]; refine (bit_spec g b (q + i) (q + i) _ ho3 x hx hx256 (by omega)).to fun v σ1 hv => ?_; obtain ⟨rfl, hσ⟩ := hv; subst hσ <;> (refine k' _ _ ?_; clear k' K'))
    all_goals iterate 2 (refine S.g rfl rfl fun K' k' => ?_; simp only [zz, reduceIte, Nat.reduceEqDiff, Nat.reduceAdd, e0, e6, ptrV, ho4, map3, Int.reduceLE, Int.reduceToNat, hp1, hws, hor, List.getD_cons_succ, List.getD_cons_zero]; refine k' _ _ ?_; clear k' K')
    all_goals refine S.nil ?_
    all_goals simp only [ze, reduceIte, Nat.reduceEqDiff, Nat.reduceLT, Nat.reduceLeDiff, Nat.reduceAdd, reduceCtorEq, Nat.reduceMul, e0, e6, ptrV, ho4, map3, Int.reduceLE, Int.reduceToNat, hp1, hws, hor, List.getD_cons_succ, List.getD_cons_zero]
    all_goals apply_assumption
    all_goals refine AW.reg0 ?_
    all_goals iterate 8 (refine S.g rfl rfl fun K' k' => ?_; simp only [zz, reduceIte, Nat.reduceEqDiff, Nat.reduceLT, Nat.reduceLeDiff, Nat.reduceAdd, reduceCtorEq, Nat.reduceMul, of129_2, ok3, sz3, ag3, e0, ptrV, ho4, map3, hw1, List.getD_cons_succ, List.getD_cons_zero]; refine k' _ _ ?_; clear k' K')
    all_goals refine S.nil ?_
    all_goals simp only [ze, reduceIte, Nat.reduceEqDiff, Nat.reduceLT, Nat.reduceLeDiff, Nat.reduceAdd, reduceCtorEq, Nat.reduceMul, e0, ptrV, ho4, map3, hw1, List.getD_cons_succ, List.getD_cons_zero]
    all_goals apply_assumption
    all_goals refine AW.reg0 ?_
    all_goals iterate 2 (refine S.g rfl rfl fun K' k' => ?_; simp only [zz, reduceIte, Nat.reduceEqDiff, Nat.reduceAdd, e0, e29, e30, hwi]; refine k' _ _ ?_; clear k' K')
    all_goals refine S.nil ?_
    all_goals simp only [ze, reduceIte, Nat.reduceEqDiff, Nat.reduceLT, Nat.reduceLeDiff, Nat.reduceAdd, reduceCtorEq, Nat.reduceMul, e0, e29, e30, hwi]
    refine ⟨n - (i + 1), by omega, i + 1, rfl, by omega, rfl, by rw [hsucc], ?_⟩
    rw [← hG, Hp.setObj_setObj]; rfl
  · refine AW.exit ?_
    all_goals simp only [zs, reduceIte, Nat.reduceEqDiff, Nat.reduceLT, Nat.reduceLeDiff, Nat.reduceAdd, reduceCtorEq, Nat.reduceMul]
    all_goals apply_assumption
    have hin := of_decide_eq_false hc
    have hi2 : i = n := by omega
    subst hi2
    refine AW.seq_k fun K14 h14 => ?_
    all_goals refine AW.reg0 ?_
    all_goals iterate 3 (refine S.g rfl rfl fun K' k' => ?_; simp only [zz, reduceIte, Nat.reduceEqDiff, Nat.reduceAdd, e6]; refine k' _ _ ?_; clear k' K')
    all_goals refine S.nil ?_
    all_goals simp only [ze, reduceIte, Nat.reduceEqDiff, Nat.reduceLT, Nat.reduceLeDiff, Nat.reduceAdd, reduceCtorEq, Nat.reduceMul, e6]
    all_goals apply_assumption
    refine AW.ret ?_
    all_goals simp only [zs, reduceIte, Nat.reduceEqDiff, Nat.reduceLT, Nat.reduceLeDiff, Nat.reduceAdd, reduceCtorEq, Nat.reduceMul]
    rw [if_pos (by omega)]
    simp [wk, wk1]
end Go.Abs.M
namespace Go.Abs.M
open Go Go.Abs Go.Proofs
set_option maxRecDepth 20000
set_option linter.unusedSimpArgs false
set_option linter.unusedVariables false
/-- How many flags at the head are down, at most m. -/
def zr : List Bool → Nat → Nat
  | _, 0 => 0
  | [], _ => 0
  | b :: l, m + 1 => if b then 0 else zr l m + 1
theorem zr_le : ∀ (l : List Bool) (m : Nat), zr l m ≤ m ∧ zr l m ≤ l.length
  | _, 0 => by simp [zr]
  | [], m + 1 => by simp [zr]
  | b :: l, m + 1 => by
    have := zr_le l m
    cases b <;> simp [zr] <;> omega
theorem zr_step {l : List Bool} {k m : Nat} (h : l[k]? = some false) (hm : 0 < m) : zr (l.drop k) m = 1 + zr (l.drop (k + 1)) (m - 1) := by
  obtain ⟨m, rfl⟩ : ∃ j, m = j + 1 := ⟨m - 1, by omega⟩
  have hlt := (List.getElem?_eq_some_iff.1 h).1
  rw [List.drop_eq_getElem_cons hlt]
  have : l[k] = false := (List.getElem?_eq_some_iff.1 h).2
  rw [this]
  simp [zr]; omega
theorem zr_stop {l : List Bool} {k m : Nat} (h : m = 0 ∨ l.length ≤ k ∨ l[k]? = some true) : zr (l.drop k) m = 0 := by
  rcases h with rfl | h | h
  · cases l.drop k <;> rfl
  · rw [List.drop_eq_nil_of_le h]; cases m <;> rfl
  · have hlt := (List.getElem?_eq_some_iff.1 h).1
    rw [List.drop_eq_getElem_cons hlt, (List.getElem?_eq_some_iff.1 h).2]
    cases m <;> rfl
/-- The next natural number: it and how many flags it has, or what is wrong. -/
def natP (l : List Bool) : Except Int (Nat × Nat) :=
  let k := zr l 65
  if k = 65 then .error 11 else if l.length < 2 * k + 1 then .error 10 else
    if k = 64 then (if valN ((l.drop (k + 1)).take k) = 0 then .ok (18446744073709551615, 2 * k + 1) else .error 11) else .ok (2 ^ k + valN ((l.drop (k + 1)).take k) - 1, 2 * k + 1)
theorem bitsV_at (b : List Nat) (q k n : Nat) : bitsV b (q + k) n = valN ((((unB b).drop q).drop k).take n) := by rw [bitsV, List.drop_drop]
theorem back_spec (g : Nat) (b : List Nat) (q q' : Nat) (e : Int) (σ : Hp) (ho : σ.obj g = some (srcC b q)) :
    ACalls Try.prog 142 [ptrV g, .c (.int .i64 q'), .c (.int .i64 e)] σ (fun v σ' => v = .c (.int .i64 e) ∧ σ' = if e = 0 then σ else σ.setObj g (some (srcC b q'))) := by
  unfold srcC at ho
  refine ACalls.intro Try.call142 Try.func142 rfl Try.ntmps142 Try.results142 (by simp) ?_
  refine AW.seq_k fun K1 h1 => ?_
  all_goals refine AW.reg0 ?_
  all_goals (refine S.g rfl rfl fun K' k' => ?_; simp only [zz, reduceIte, Nat.reduceEqDiff, Nat.reduceAdd]; refine k' _ _ ?_; clear k' K')
  all_goals refine S.nil ?_
  all_goals simp only [ze, reduceIte, Nat.reduceEqDiff, Nat.reduceLT, Nat.reduceLeDiff, Nat.reduceAdd, reduceCtorEq, Nat.reduceMul]
  all_goals apply_assumption
  refine AW.seq_k fun K2 h2 => ?_
  refine AW.seq_k fun K3 h3 => ?_
  all_goals refine AW.reg0 ?_
  all_goals iterate 2 (refine S.g rfl rfl fun K' k' => ?_; simp only [zz, reduceIte, Nat.reduceEqDiff, Nat.reduceAdd]; refine k' _ _ ?_; clear k' K')
  all_goals refine S.nil ?_
  all_goals simp only [ze, reduceIte, Nat.reduceEqDiff, Nat.reduceLT, Nat.reduceLeDiff, Nat.reduceAdd, reduceCtorEq, Nat.reduceMul]
  all_goals apply_assumption
  refine AW.cond (b := decide (e ≠ 0)) (by simp [ev]; try rfl) (fun hc => ?_) (fun hc => ?_)
  · have hc := of_decide_eq_true hc
    all_goals refine AW.reg0 ?_
    all_goals iterate 5 (refine S.g rfl rfl fun K' k' => ?_; simp only [zz, reduceIte, Nat.reduceEqDiff, Nat.reduceLT, Nat.reduceLeDiff, Nat.reduceAdd, reduceCtorEq, Nat.reduceMul, of129_2, ok3, sz3, ag3, ptrV, ho, map3]; refine k' _ _ ?_; clear k' K')
    all_goals refine S.nil ?_
    all_goals simp only [ze, reduceIte, Nat.reduceEqDiff, Nat.reduceLT, Nat.reduceLeDiff, Nat.reduceAdd, reduceCtorEq, Nat.reduceMul, ptrV, ho, map3]
    all_goals apply_assumption
    refine AW.seq_k fun K4 h4 => ?_
    all_goals refine AW.reg0 ?_
    all_goals iterate 2 (refine S.g rfl rfl fun K' k' => ?_; simp only [zz, reduceIte, Nat.reduceEqDiff, Nat.reduceAdd]; refine k' _ _ ?_; clear k' K')
    all_goals refine S.nil ?_
    all_goals simp only [ze, reduceIte, Nat.reduceEqDiff, Nat.reduceLT, Nat.reduceLeDiff, Nat.reduceAdd, reduceCtorEq, Nat.reduceMul]
    all_goals apply_assumption
    refine AW.ret ?_
    all_goals simp only [zs, reduceIte, Nat.reduceEqDiff, Nat.reduceLT, Nat.reduceLeDiff, Nat.reduceAdd, reduceCtorEq, Nat.reduceMul]
    rw [if_neg hc]; rfl
  · have hc : e = 0 := by simpa using of_decide_eq_false hc
    refine AW.skip ?_
    all_goals simp only [zs, reduceIte, Nat.reduceEqDiff, Nat.reduceLT, Nat.reduceLeDiff, Nat.reduceAdd, reduceCtorEq, Nat.reduceMul]
    all_goals apply_assumption
    refine AW.seq_k fun K5 h5 => ?_
    all_goals refine AW.reg0 ?_
    all_goals iterate 2 (refine S.g rfl rfl fun K' k' => ?_; simp only [zz, reduceIte, Nat.reduceEqDiff, Nat.reduceAdd]; refine k' _ _ ?_; clear k' K')
    all_goals refine S.nil ?_
    all_goals simp only [ze, reduceIte, Nat.reduceEqDiff, Nat.reduceLT, Nat.reduceLeDiff, Nat.reduceAdd, reduceCtorEq, Nat.reduceMul]
    all_goals apply_assumption
    refine AW.ret ?_
    all_goals simp only [zs, reduceIte, Nat.reduceEqDiff, Nat.reduceLT, Nat.reduceLeDiff, Nat.reduceAdd, reduceCtorEq, Nat.reduceMul]
    rw [if_pos hc]
theorem sNat_spec (g : Nat) (b : List Nat) (q : Nat) (σ : Hp) (ho : σ.obj g = some (srcC b q)) (hb : b.length < 140737488355329) (hb256 : ∀ x ∈ b, x < 256) (hq : q ≤ 8 * b.length) :
    ACalls Try.prog 141 [ptrV g] σ (fun v σ' => match natP ((unB b).drop q) with
      | .ok (u, c) => v = .tup [.c (.int .u64 u), .c (.int .i64 0)] ∧ σ' = σ.setObj g (some (srcC b (q + c)))
      | .error e => v = .tup [.c (.int .u64 0), .c (.int .i64 e)] ∧ σ' = σ) := by
  refine ACalls.intro Try.call141 Try.func141 rfl Try.ntmps141 Try.results141 (by simp) ?_
  have ho' : σ.obj g = some [.c (.bool true), .sl (b.map encB), .c (.int .i64 (q : Nat))] := ho
  have hlen : ((unB b).drop q).length = 8 * b.length - q := by rw [List.length_drop, unB_len]
  refine AW.seq_k fun K1 h1 => ?_
  all_goals refine AW.reg0 ?_
  all_goals iterate 2 (refine S.g rfl rfl fun K' k' => ?_; simp only [zz, reduceIte, Nat.reduceEqDiff, Nat.reduceAdd]; refine k' _ _ ?_; clear k' K')
  all_goals refine S.nil ?_
  all_goals simp only [ze, reduceIte, Nat.reduceEqDiff, Nat.reduceLT, Nat.reduceLeDiff, Nat.reduceAdd, reduceCtorEq, Nat.reduceMul]
  all_goals apply_assumption
  refine AW.seq_k fun K2 h2 => ?_
  refine AW.seq_k fun K3 h3 => ?_
  all_goals refine AW.reg0 ?_
  all_goals (refine S.g rfl rfl fun K' k' => ?_; simp only [zz, reduceIte, Nat.reduceEqDiff, Nat.reduceAdd, ptrV, ho', map3, un4, un82, TypeDesc.pointer.injEq, Bool.not_true, List.getD_cons_succ, List.getD_cons_zero]; refine k' _ _ ?_; clear k' K')
  all_goals (refine S.g rfl rfl fun K' k' => ?_; simp only [zz, reduceIte, Nat.reduceEqDiff, Nat.reduceLT, Nat.reduceLeDiff, Nat.reduceAdd, reduceCtorEq, Nat.reduceMul, un82, ptrV, ho', map3, un4, un82, TypeDesc.pointer.injEq, Bool.not_true, List.getD_cons_succ, List.getD_cons_zero]; refine S.bool fun b a9 => ?_; cases b <;> (try (exfalso; first | exact Bool.noConfusion a9 | (have h := of_decide_eq_true a9; omega) | (have h := of_decide_eq_false a9; omega))) <;> (refine k' _ _ ?_; clear k' K'))
  all_goals (refine S.g rfl rfl fun K' k' => ?_; simp only [zz, reduceIte, Nat.reduceEqDiff, Nat.reduceAdd, ptrV, ho', map3, un4, un82, TypeDesc.pointer.injEq, Bool.not_true, List.getD_cons_succ, List.getD_cons_zero]; refine k' _ _ ?_; clear k' K')
  all_goals iterate 5 (first | (refine S.y rfl rfl rfl rfl fun K' k' => ?_; simp only [zz, reduceIte, Nat.reduceEqDiff, Nat.reduceLT, Nat.reduceLeDiff, Nat.reduceAdd, reduceCtorEq, Nat.reduceMul, of129_0, ok4, sz4, ag4, ptrV, ho', map3, un4, un82, TypeDesc.pointer.injEq, Bool.not_true, List.getD_cons_succ, List.getD_cons_zero]; refine k' _ _ ?_; clear k' K') | ((first | refine S.x rfl rfl rfl rfl fun K' k' => ?_ | refine S.u rfl rfl rfl rfl fun K' k' => ?_); simp only [ze, reduceIte, Nat.reduceEqDiff]; refine k' _ _ ?_; clear k' K'))
  all_goals (refine S.g rfl rfl fun K' k' => ?_; simp only [zz, reduceIte, Nat.reduceEqDiff, Nat.reduceAdd, ptrV, ho', map3, un4, un82, TypeDesc.pointer.injEq, Bool.not_true, List.getD_cons_succ, List.getD_cons_zero]; refine k' _ _ ?_; clear k' K')
  all_goals refine S.nil ?_
  all_goals simp only [ze, reduceIte, Nat.reduceEqDiff, Nat.reduceLT, Nat.reduceLeDiff, Nat.reduceAdd, reduceCtorEq, Nat.reduceMul, ptrV, ho', map3, un4, un82, TypeDesc.pointer.injEq, Bool.not_true, List.getD_cons_succ, List.getD_cons_zero]
  all_goals apply_assumption
  refine AW.cond (b := false) (by simp [ev]) (fun hc => by cases hc) (fun hc => ?_)
  refine AW.skip ?_
  all_goals simp only [zs, reduceIte, Nat.reduceEqDiff, Nat.reduceLT, Nat.reduceLeDiff, Nat.reduceAdd, reduceCtorEq, Nat.reduceMul]
  all_goals apply_assumption
  refine AW.seq_k fun K4 h4 => ?_
  all_goals refine AW.reg0 ?_
  all_goals iterate 5 (refine S.g rfl rfl fun K' k' => ?_; simp only [zz, reduceIte, Nat.reduceEqDiff, Nat.reduceLT, Nat.reduceLeDiff, Nat.reduceAdd, reduceCtorEq, Nat.reduceMul, of129_2, ok3, sz3, ag3, ho', map3, List.getD_cons_succ, List.getD_cons_zero]; refine k' _ _ ?_; clear k' K')
  all_goals refine S.nil ?_
  all_goals simp only [ze, reduceIte, Nat.reduceEqDiff, Nat.reduceLT, Nat.reduceLeDiff, Nat.reduceAdd, reduceCtorEq, Nat.reduceMul, ho', map3, List.getD_cons_succ, List.getD_cons_zero]
  all_goals apply_assumption
  refine AW.seq_k fun K5 h5 => ?_
  all_goals refine AW.reg0 ?_
  all_goals (refine S.g rfl rfl fun K' k' => ?_; simp only [zz, reduceIte, Nat.reduceEqDiff, Nat.reduceAdd]; refine k' _ _ ?_; clear k' K')
  all_goals refine S.nil ?_
  all_goals simp only [ze, reduceIte, Nat.reduceEqDiff, Nat.reduceLT, Nat.reduceLeDiff, Nat.reduceAdd, reduceCtorEq, Nat.reduceMul]
  all_goals apply_assumption
  refine AW.seq_j (fun s σ' => σ' = σ ∧ s.t 0 = ptrV g ∧ s.t 4 = .c (.int .i64 q) ∧ s.t 5 = .c (.int .i64 (zr ((unB b).drop q) 65 : Nat))) ?_ ?_
  · refine AW.block ?_   -- 0
    refine AW.loop (fun m s σ' => ∃ k, m = 65 - k ∧ k ≤ 65 ∧ k ≤ 8 * b.length - q ∧ σ' = σ ∧ s.t 0 = ptrV g ∧ s.t 4 = .c (.int .i64 q) ∧ s.t 5 = .c (.int .i64 (k : Nat)) ∧ zr ((unB b).drop q) 65 = k + zr (((unB b).drop q).drop k) (65 - k)) 65 ?_ ?_
    · refine ⟨0, rfl, by omega, by omega, rfl, ?_⟩
      all_goals simp only [zs, reduceIte, Nat.reduceEqDiff, Nat.reduceLT, Nat.reduceLeDiff, Nat.reduceAdd, reduceCtorEq, Nat.reduceMul]
      simp [ptrV]
    rintro m s σ' ⟨k, hm, hk, hkl, rfl, e0, e4, e5, hz⟩
    have hw1 : IntKind.i64.wrap ((q : Int) + k) = ((q + k : Nat) : Int) := by rw [wrap_small _ (by omega) (by omega)]; rfl
    have hw2 : IntKind.i64.wrap ((k : Int) + 1) = ((k + 1 : Nat) : Int) := by rw [wrap_small _ (by omega) (by omega)]; rfl
    refine AW.seq_k fun K6 h6 => ?_
    refine AW.seq_j (fun s2 σ2 => σ2 = σ' ∧ s2.t 0 = ptrV g ∧ s2.t 4 = .c (.int .i64 q) ∧ s2.t 5 = .c (.int .i64 (k : Nat)) ∧ ∃ y, s2.t 36 = .c (.bool y) ∧ (y = true → k < 65 ∧ k < 8 * b.length - q ∧ ((unB b).drop q)[k]? = some false) ∧ (y = false → 65 - k = 0 ∨ ((unB b).drop q).length ≤ k ∨ ((unB b).drop q)[k]? = some true)) ?_ ?_
    · skip
      all_goals refine AW.reg0 ?_
      all_goals (refine S.g rfl rfl fun K' k' => ?_; simp only [zz, reduceIte, Nat.reduceEqDiff, Nat.reduceAdd, e0, e4, e5, hw1, pw]; refine k' _ _ ?_; clear k' K')
      all_goals (refine S.g rfl rfl fun K' k' => ?_; simp only [zz, reduceIte, Nat.reduceEqDiff, Nat.reduceLT, Nat.reduceLeDiff, Nat.reduceAdd, reduceCtorEq, Nat.reduceMul, e0, e4, e5, hw1, pw]; refine S.bool fun b a22 => ?_; cases b <;> (try (exfalso; first | exact Bool.noConfusion a22 | (have h := of_decide_eq_true a22; omega) | (have h := of_decide_eq_false a22; omega))) <;> (refine k' _ _ ?_; clear k' K'))
      all_goals (refine S.g rfl rfl fun K' k' => ?_; simp only [zz, reduceIte, Nat.reduceEqDiff, Nat.reduceAdd, e0, e4, e5, hw1, pw]; refine k' _ _ ?_; clear k' K')
      all_goals iterate 2 (first | (refine S.y rfl rfl rfl rfl fun K' k' => ?_; simp only [zz, reduceIte, Nat.reduceEqDiff, Nat.reduceAdd, e0, e4, e5, hw1, pw]; refine k' _ _ ?_; clear k' K') | ((first | refine S.x rfl rfl rfl rfl fun K' k' => ?_ | refine S.u rfl rfl rfl rfl fun K' k' => ?_); simp only [ze, reduceIte, Nat.reduceEqDiff]; refine k' _ _ ?_; clear k' K'))
      all_goals (first | (refine S.y rfl rfl rfl rfl fun K' k' => ?_; simp only [zz, reduceIte, Nat.reduceEqDiff, Nat.reduceLT, Nat.reduceLeDiff, Nat.reduceAdd, reduceCtorEq, Nat.reduceMul, e0, e4, e5, hw1, pw]; refine (left_spec g b q _ ho hb hq).to fun v σ2 hv => ?_; obtain ⟨rfl, hσ⟩ := hv; subst hσ <;> (refine k' _ _ ?_; clear k' K')) | ((first | refine S.x rfl rfl rfl rfl fun K' k' => ?_ | refine S.u rfl rfl rfl rfl fun K' k' => ?_); simp only [ze, reduceIte, Nat.reduceEqDiff]; refine k' _ _ ?_; clear k' K'))
      all_goals (first | (refine S.y rfl rfl rfl rfl fun K' k' => ?_; simp only [zz, reduceIte, Nat.reduceEqDiff, Nat.reduceLT, Nat.reduceLeDiff, Nat.reduceAdd, reduceCtorEq, Nat.reduceMul, e0, e4, e5, hw1, pw]; refine S.bool fun b a27 => ?_; cases b <;> (try (exfalso; first | exact Bool.noConfusion a27 | (have h := of_decide_eq_true a27; omega) | (have h := of_decide_eq_false a27; omega))) <;> (refine k' _ _ ?_; clear k' K')) | ((first | refine S.x rfl rfl rfl rfl fun K' k' => ?_ | refine S.u rfl rfl rfl rfl fun K' k' => ?_); simp only [ze, reduceIte, Nat.reduceEqDiff]; refine k' _ _ ?_; clear k' K'))
      all_goals iterate 2 (refine S.g rfl rfl fun K' k' => ?_; simp only [zz, reduceIte, Nat.reduceEqDiff, Nat.reduceAdd, e0, e4, e5, hw1, pw]; refine k' _ _ ?_; clear k' K')
      all_goals iterate 4 (first | (refine S.y rfl rfl rfl rfl fun K' k' => ?_; simp only [zz, reduceIte, Nat.reduceEqDiff, Nat.reduceAdd, e0, e4, e5, hw1, pw]; refine k' _ _ ?_; clear k' K') | ((first | refine S.x rfl rfl rfl rfl fun K' k' => ?_ | refine S.u rfl rfl rfl rfl fun K' k' => ?_); simp only [ze, reduceIte, Nat.reduceEqDiff]; refine k' _ _ ?_; clear k' K'))
      all_goals (first | (refine S.y rfl rfl rfl rfl fun K' k' => ?_; simp only [zz, reduceIte, Nat.reduceEqDiff, Nat.reduceLT, Nat.reduceLeDiff, Nat.reduceAdd, reduceCtorEq, Nat.reduceMul, e0, e4, e5, hw1, pw]; obtain ⟨x, hx⟩ : ∃ x, b[(q + k) / 8]? = some x := ⟨_, List.getElem?_eq_getElem (by have := of_decide_eq_true a27; omega)⟩; refine (bit_spec g b q (q + k) _ ho x hx (hb256 x (List.mem_of_getElem? hx)) (by omega)).to fun v σ2 hv => ?_; obtain ⟨rfl, hσ⟩ := hv; subst hσ <;> (refine k' _ _ ?_; clear k' K')) | ((first | refine S.x rfl rfl rfl rfl fun K' k' => ?_ | refine S.u rfl rfl rfl rfl fun K' k' => ?_); simp only [ze, reduceIte, Nat.reduceEqDiff]; refine k' _ _ ?_; clear k' K'))
      all_goals (first | (refine S.y rfl rfl rfl rfl fun K' k' => ?_; simp only [zz, reduceIte, Nat.reduceEqDiff, Nat.reduceAdd, e0, e4, e5, hw1, pw]; refine k' _ _ ?_; clear k' K') | ((first | refine S.x rfl rfl rfl rfl fun K' k' => ?_ | refine S.u rfl rfl rfl rfl fun K' k' => ?_); simp only [ze, reduceIte, Nat.reduceEqDiff]; refine k' _ _ ?_; clear k' K'))
      all_goals (refine S.g rfl rfl fun K' k' => ?_; simp only [zz, reduceIte, Nat.reduceEqDiff, Nat.reduceAdd, e0, e4, e5, hw1, pw]; refine k' _ _ ?_; clear k' K')
      all_goals refine S.nil ?_
      all_goals simp only [ze, reduceIte, Nat.reduceEqDiff, Nat.reduceLT, Nat.reduceLeDiff, Nat.reduceAdd, reduceCtorEq, Nat.reduceMul, e0, e4, e5, hw1, pw]
      · exact ⟨false, rfl, (fun h => by cases h), fun _ => .inl (by have := of_decide_eq_false a22; omega)⟩
      · exact ⟨false, rfl, (fun h => by cases h), fun _ => .inr (.inl (by have := of_decide_eq_false a27; rw [hlen]; omega))⟩
      · have hget : ((unB b).drop q)[k]? = some (x / 2 ^ (7 - (q + k) % 8) % 2 == 1) := by rw [List.getElem?_drop]; exact unB_get b (q + k) x hx
        have hy2 : x / 2 ^ (7 - (q + k) % 8) % 2 < 2 := Nat.mod_lt _ (by omega)
        generalize x / 2 ^ (7 - (q + k) % 8) % 2 = y at *
        refine ⟨_, rfl, fun h => ⟨by have := of_decide_eq_true a22; omega, by have := of_decide_eq_true a27; omega, ?_⟩, fun h => .inr (.inr ?_)⟩
        · have h0 : y = 0 := by simpa using h
          rw [hget, h0]; rfl
        · have h0 : y ≠ 0 := by simpa using h
          rw [hget, show y = 1 by omega]; rfl
    rintro s2 σ2 ⟨rfl, f0, f4, f5, y, f36, hy1, hy0⟩
    refine AW.cond (b := y) f36 (fun hc => ?_) (fun hc => ?_)
    · refine AW.skip ?_
      all_goals apply_assumption
      obtain ⟨k1, k2, k3⟩ := hy1 hc
      refine AW.block ?_   -- 1
      all_goals refine AW.reg0 ?_
      all_goals iterate 3 (refine S.g rfl rfl fun K' k' => ?_; simp only [zz, reduceIte, Nat.reduceEqDiff, Nat.reduceAdd, f5, hw2]; refine k' _ _ ?_; clear k' K')
      all_goals refine S.nil ?_
      all_goals simp only [ze, reduceIte, Nat.reduceEqDiff, Nat.reduceLT, Nat.reduceLeDiff, Nat.reduceAdd, reduceCtorEq, Nat.reduceMul, f5, hw2]
      refine ⟨65 - (k + 1), by omega, k + 1, rfl, by omega, by omega, f0, f4, rfl, ?_⟩
      rw [hz, zr_step k3 (by omega), show 65 - (k + 1) = 65 - k - 1 by omega]; omega
    · refine AW.exit ?_
      all_goals simp only [zs, reduceIte, Nat.reduceEqDiff, Nat.reduceLT, Nat.reduceLeDiff, Nat.reduceAdd, reduceCtorEq, Nat.reduceMul]
      refine ⟨f0, f4, ?_⟩
      rw [f5, hz, zr_stop (hy0 hc)]; rfl
  rintro s σ' ⟨rfl, e0, e4, e5⟩
  have hzl := zr_le ((unB b).drop q) 65
  rw [hlen] at hzl
  unfold natP
  simp only []
  generalize hk : zr ((unB b).drop q) 65 = k at *
  have hk65 : ((k : Int) == 65) = decide (k = 65) := by rw [Bool.eq_iff_iff]; simp; omega
  refine AW.seq_j (fun s σ2 => σ2 = σ' ∧ s.t 0 = ptrV g ∧ s.t 4 = .c (.int .i64 q) ∧ s.t 5 = .c (.int .i64 (k : Nat)) ∧ k < 65 ∧ 2 * k + 1 ≤ 8 * b.length - q) ?_ ?_
  · refine AW.block ?_   -- 2
    refine AW.seq_k fun K7 h7 => ?_
    all_goals refine AW.reg0 ?_
    all_goals iterate 3 (refine S.g rfl rfl fun K' k' => ?_; simp only [zz, reduceIte, Nat.reduceEqDiff, Nat.reduceAdd, e5, hk65]; refine k' _ _ ?_; clear k' K')
    all_goals refine S.nil ?_
    all_goals simp only [ze, reduceIte, Nat.reduceEqDiff, Nat.reduceLT, Nat.reduceLeDiff, Nat.reduceAdd, reduceCtorEq, Nat.reduceMul, e5, hk65]
    all_goals apply_assumption
    refine AW.cond (b := decide (k = 65)) (by simp [ev]) (fun hc => ?_) (fun hc => ?_)
    · have hc := of_decide_eq_true hc
      refine AW.seq_k fun K8 h8 => ?_
      all_goals refine AW.reg0 ?_
      all_goals iterate 2 (refine S.g rfl rfl fun K' k' => ?_; simp only [zz, reduceIte, Nat.reduceEqDiff, Nat.reduceAdd]; refine k' _ _ ?_; clear k' K')
      all_goals refine S.nil ?_
      all_goals simp only [ze, reduceIte, Nat.reduceEqDiff, Nat.reduceLT, Nat.reduceLeDiff, Nat.reduceAdd, reduceCtorEq, Nat.reduceMul]
      all_goals apply_assumption
      refine AW.ret ?_
      all_goals simp only [zs, reduceIte, Nat.reduceEqDiff, Nat.reduceLT, Nat.reduceLeDiff, Nat.reduceAdd, reduceCtorEq, Nat.reduceMul]
      rw [if_pos hc]
      simp [wk, wk1]
    have hc := of_decide_eq_false hc
    have hw1 : IntKind.i64.wrap (2 * (k : Int)) = ((2 * k : Nat) : Int) := by rw [wrap_small _ (by omega) (by omega)]; simp
    have hw2 : IntKind.i64.wrap (((2 * k : Nat) : Int) + 1) = ((2 * k + 1 : Nat) : Int) := by rw [wrap_small _ (by omega) (by omega)]; rfl
    refine AW.seq_k fun K9 h9 => ?_
    all_goals refine AW.reg0 ?_
    all_goals (refine S.g rfl rfl fun K' k' => ?_; simp only [zz, reduceIte, Nat.reduceEqDiff, Nat.reduceAdd, e0, e5, hw1, hw2, pw]; refine k' _ _ ?_; clear k' K')
    all_goals (refine S.g rfl rfl fun K' k' => ?_; simp only [zz, reduceIte, Nat.reduceEqDiff, Nat.reduceLT, Nat.reduceLeDiff, Nat.reduceAdd, reduceCtorEq, Nat.reduceMul, e0, e5, hw1, hw2, pw]; refine (left_spec g b q _ ho hb hq).to fun v σ3 hv => ?_; obtain ⟨rfl, hσ⟩ := hv; subst hσ <;> (refine k' _ _ ?_; clear k' K'))
    all_goals iterate 5 (refine S.g rfl rfl fun K' k' => ?_; simp only [zz, reduceIte, Nat.reduceEqDiff, Nat.reduceAdd, e0, e5, hw1, hw2, pw]; refine k' _ _ ?_; clear k' K')
    all_goals refine S.nil ?_
    all_goals simp only [ze, reduceIte, Nat.reduceEqDiff, Nat.reduceLT, Nat.reduceLeDiff, Nat.reduceAdd, reduceCtorEq, Nat.reduceMul, e0, e5, hw1, hw2, pw]
    all_goals apply_assumption
    refine AW.cond (b := decide (8 * b.length - q < 2 * k + 1)) (by simp [ev]) (fun hd => ?_) (fun hd => ?_)
    · have hd := of_decide_eq_true hd
      refine AW.seq_k fun K10 h10 => ?_
      all_goals refine AW.reg0 ?_
      all_goals iterate 2 (refine S.g rfl rfl fun K' k' => ?_; simp only [zz, reduceIte, Nat.reduceEqDiff, Nat.reduceAdd]; refine k' _ _ ?_; clear k' K')
      all_goals refine S.nil ?_
      all_goals simp only [ze, reduceIte, Nat.reduceEqDiff, Nat.reduceLT, Nat.reduceLeDiff, Nat.reduceAdd, reduceCtorEq, Nat.reduceMul]
      all_goals apply_assumption
      refine AW.ret ?_
      all_goals simp only [zs, reduceIte, Nat.reduceEqDiff, Nat.reduceLT, Nat.reduceLeDiff, Nat.reduceAdd, reduceCtorEq, Nat.reduceMul]
      rw [if_neg hc, if_pos (by rw [hlen]; omega)]
      simp [wk, wk1]
    · have hd := of_decide_eq_false hd
      refine AW.skip ?_
      all_goals simp only [zs, reduceIte, Nat.reduceEqDiff, Nat.reduceLT, Nat.reduceLeDiff, Nat.reduceAdd, reduceCtorEq, Nat.reduceMul]
      exact ⟨e0, e4, e5, by omega, by omega⟩
  clear e0 e4 e5
  rintro s σ2 ⟨rfl, e0, e4, e5, hk64, hk2⟩
  rw [if_neg (by omega), if_neg (by rw [hlen]; omega)]
  have hw1 : IntKind.i64.wrap ((k : Int) + 1) = ((k + 1 : Nat) : Int) := by rw [wrap_small _ (by omega) (by omega)]; rfl
  have hw2 : IntKind.i64.wrap ((q : Int) + ((k + 1 : Nat) : Int)) = ((q + (k + 1) : Nat) : Int) := by rw [wrap_small _ (by omega) (by omega)]; rfl
  have hval := bitsV_at b q (k + 1) k
  have hlt := bitsV_lt b (q + (k + 1)) k
  have h64 : ((k : Int) == 64) = decide (k = 64) := by rw [Bool.eq_iff_iff]; simp; omega
  unfold ptrV at e0
  refine AW.seq_k fun K11 h11 => ?_
  all_goals refine AW.reg0 ?_
  all_goals iterate 10 (refine S.g rfl rfl fun K' k' => ?_; simp only [zz, reduceIte, Nat.reduceEqDiff, Nat.reduceLT, Nat.reduceLeDiff, Nat.reduceAdd, reduceCtorEq, Nat.reduceMul, of129_2, ok3, sz3, ag3, e0, e5, ho', map3, hw1, hw2, List.getD_cons_succ, List.getD_cons_zero]; refine k' _ _ ?_; clear k' K')
  all_goals refine S.nil ?_
  all_goals simp only [ze, reduceIte, Nat.reduceEqDiff, Nat.reduceLT, Nat.reduceLeDiff, Nat.reduceAdd, reduceCtorEq, Nat.reduceMul, e0, e5, ho', map3, hw1, hw2, List.getD_cons_succ, List.getD_cons_zero]
  all_goals apply_assumption
  have hs3 : (σ2.setObj g (some (srcC b (q + (k + 1))))).obj g = some (srcC b (q + (k + 1))) := by simp
  refine AW.seq_k fun K12 h12 => ?_
  all_goals refine AW.reg0 ?_
  all_goals iterate 2 (refine S.g rfl rfl fun K' k' => ?_; simp only [zz, reduceIte, Nat.reduceEqDiff, Nat.reduceAdd, e0, e5, Nat.reduceLT, Nat.reduceLeDiff]; refine k' _ _ ?_; clear k' K')
  all_goals (refine S.g rfl rfl fun K' k' => ?_; simp only [zz, reduceIte, Nat.reduceEqDiff, Nat.reduceLT, Nat.reduceLeDiff, Nat.reduceAdd, reduceCtorEq, Nat.reduceMul, e0, e5, Nat.reduceLT, Nat.reduceLeDiff]; refine (sBits_spec g b (q + (k + 1)) k _ hs3 hb hb256 (by omega) (by omega)).to fun v σ3 hv => ?_; rw [if_pos (by omega)] at hv; obtain ⟨rfl, hσ3⟩ := hv <;> (refine k' _ _ ?_; clear k' K'))
  all_goals iterate 5 (refine S.g rfl rfl fun K' k' => ?_; simp only [zz, reduceIte, Nat.reduceEqDiff, Nat.reduceLT, Nat.reduceLeDiff, Nat.reduceAdd, reduceCtorEq, Nat.reduceMul, e0, e5, Nat.reduceLT, Nat.reduceLeDiff]; refine k' _ _ ?_; clear k' K')
  all_goals refine S.nil ?_
  all_goals simp only [ze, reduceIte, Nat.reduceEqDiff, Nat.reduceLT, Nat.reduceLeDiff, Nat.reduceAdd, reduceCtorEq, Nat.reduceMul, e0, e5, Nat.reduceLT, Nat.reduceLeDiff]
  all_goals apply_assumption
  have hs4 : σ3.obj g = some (srcC b (q + (k + 1) + k)) := by rw [hσ3]; simp
  have hend : ∀ r, σ3.setObj g (some (srcC b r)) = σ2.setObj g (some (srcC b r)) := fun r => by rw [hσ3, Hp.setObj_setObj, Hp.setObj_setObj]
  have hfin : σ3 = σ2.setObj g (some (srcC b (q + (2 * k + 1)))) := by rw [hσ3, Hp.setObj_setObj, show q + (k + 1) + k = q + (2 * k + 1) by omega]
  rw [← hval]
  generalize bitsV b (q + (k + 1)) k = u at *
  clear hσ3 hval ho'
  refine AW.seq_k fun K13 h13 => ?_
  refine AW.seq_k fun K14 h14 => ?_
  all_goals refine AW.reg0 ?_
  all_goals iterate 3 (refine S.g rfl rfl fun K' k' => ?_; simp only [zz, reduceIte, Nat.reduceEqDiff, Nat.reduceAdd, e0, e4]; refine k' _ _ ?_; clear k' K')
  all_goals (refine S.g rfl rfl fun K' k' => ?_; simp only [zz, reduceIte, Nat.reduceEqDiff, Nat.reduceLT, Nat.reduceLeDiff, Nat.reduceAdd, reduceCtorEq, Nat.reduceMul, e0, e4]; refine (back_spec g b _ q 0 _ hs4).to fun v σ4 hv => ?_; obtain ⟨rfl, hσ4⟩ := hv; rw [if_pos rfl] at hσ4; subst hσ4 <;> (refine k' _ _ ?_; clear k' K'))
  all_goals (refine S.g rfl rfl fun K' k' => ?_; simp only [zz, reduceIte, Nat.reduceEqDiff, Nat.reduceAdd, e0, e4]; refine k' _ _ ?_; clear k' K')
  all_goals refine S.nil ?_
  all_goals simp only [ze, reduceIte, Nat.reduceEqDiff, Nat.reduceLT, Nat.reduceLeDiff, Nat.reduceAdd, reduceCtorEq, Nat.reduceMul, e0, e4]
  all_goals apply_assumption
  refine AW.cond (b := false) (by simp [ev]) (fun hc => by cases hc) (fun hc => ?_)
  refine AW.skip ?_
  all_goals simp only [zs, reduceIte, Nat.reduceEqDiff, Nat.reduceLT, Nat.reduceLeDiff, Nat.reduceAdd, reduceCtorEq, Nat.reduceMul]
  all_goals apply_assumption
  refine AW.seq_j (fun s σ5 => σ5 = σ4 ∧ s.t 5 = .c (.int .i64 (k : Nat)) ∧ s.t 6 = .c (.int .u64 (u : Nat)) ∧ k ≠ 64) ?_ ?_
  · refine AW.seq_k fun K15 h15 => ?_
    all_goals refine AW.reg0 ?_
    all_goals iterate 2 (refine S.g rfl rfl fun K' k' => ?_; simp only [zz, reduceIte, Nat.reduceEqDiff, Nat.reduceAdd, e5, h64]; refine k' _ _ ?_; clear k' K')
    all_goals refine S.nil ?_
    all_goals simp only [ze, reduceIte, Nat.reduceEqDiff, Nat.reduceLT, Nat.reduceLeDiff, Nat.reduceAdd, reduceCtorEq, Nat.reduceMul, e5, h64]
    all_goals apply_assumption
    refine AW.cond (b := decide (k = 64)) (by simp [ev]) (fun hc => ?_) (fun hc => ?_)
    · have hc := of_decide_eq_true hc
      have hu0 : ((u : Int) != 0) = decide (u ≠ 0) := by rw [Bool.eq_iff_iff]; simp
      refine AW.seq_k fun K16 h16 => ?_
      refine AW.seq_k fun K17 h17 => ?_
      all_goals refine AW.reg0 ?_
      all_goals iterate 2 (refine S.g rfl rfl fun K' k' => ?_; simp only [zz, reduceIte, Nat.reduceEqDiff, Nat.reduceAdd, hu0]; refine k' _ _ ?_; clear k' K')
      all_goals refine S.nil ?_
      all_goals simp only [ze, reduceIte, Nat.reduceEqDiff, Nat.reduceLT, Nat.reduceLeDiff, Nat.reduceAdd, reduceCtorEq, Nat.reduceMul, hu0]
      all_goals apply_assumption
      refine AW.cond (b := decide (u ≠ 0)) (by simp [ev]) (fun hd => ?_) (fun hd => ?_)
      · have hd := of_decide_eq_true hd
        refine AW.seq_k fun K18 h18 => ?_
        all_goals refine AW.reg0 ?_
        all_goals iterate 2 (refine S.g rfl rfl fun K' k' => ?_; simp only [zz, reduceIte, Nat.reduceEqDiff, Nat.reduceAdd, e0, e4]; refine k' _ _ ?_; clear k' K')
        all_goals (refine S.g rfl rfl fun K' k' => ?_; simp only [zz, reduceIte, Nat.reduceEqDiff, Nat.reduceLT, Nat.reduceLeDiff, Nat.reduceAdd, reduceCtorEq, Nat.reduceMul, e0, e4]; refine (back_spec g b _ q 11 _ hs4).to fun v σ5 hv => ?_; obtain ⟨rfl, hσ5⟩ := hv; rw [if_neg (by decide)] at hσ5 <;> (refine k' _ _ ?_; clear k' K'))
        all_goals iterate 2 (refine S.g rfl rfl fun K' k' => ?_; simp only [zz, reduceIte, Nat.reduceEqDiff, Nat.reduceAdd, e0, e4]; refine k' _ _ ?_; clear k' K')
        all_goals refine S.nil ?_
        all_goals simp only [ze, reduceIte, Nat.reduceEqDiff, Nat.reduceLT, Nat.reduceLeDiff, Nat.reduceAdd, reduceCtorEq, Nat.reduceMul, e0, e4]
        all_goals apply_assumption
        refine AW.ret ?_
        all_goals simp only [zs, reduceIte, Nat.reduceEqDiff, Nat.reduceLT, Nat.reduceLeDiff, Nat.reduceAdd, reduceCtorEq, Nat.reduceMul]
        rw [if_pos hc, if_neg hd]
        refine ⟨by simp [wk, wk1], ?_⟩
        rw [hσ5, hend q, setObj_id ho]
      · have hd : u = 0 := by simpa using of_decide_eq_false hd
        refine AW.skip ?_
        all_goals simp only [zs, reduceIte, Nat.reduceEqDiff, Nat.reduceLT, Nat.reduceLeDiff, Nat.reduceAdd, reduceCtorEq, Nat.reduceMul]
        all_goals apply_assumption
        refine AW.seq_k fun K19 h19 => ?_
        all_goals refine AW.reg0 ?_
        all_goals iterate 2 (refine S.g rfl rfl fun K' k' => ?_; simp only [zz, reduceIte, Nat.reduceEqDiff, Nat.reduceAdd]; refine k' _ _ ?_; clear k' K')
        all_goals refine S.nil ?_
        all_goals simp only [ze, reduceIte, Nat.reduceEqDiff, Nat.reduceLT, Nat.reduceLeDiff, Nat.reduceAdd, reduceCtorEq, Nat.reduceMul]
        all_goals apply_assumption
        refine AW.ret ?_
        all_goals simp only [zs, reduceIte, Nat.reduceEqDiff, Nat.reduceLT, Nat.reduceLeDiff, Nat.reduceAdd, reduceCtorEq, Nat.reduceMul]
        rw [if_pos hc, if_pos hd]
        exact ⟨by simp [wk, wk1], hfin⟩
    · have hc := of_decide_eq_false hc
      refine AW.skip ?_
      all_goals simp only [zs, reduceIte, Nat.reduceEqDiff, Nat.reduceLT, Nat.reduceLeDiff, Nat.reduceAdd, reduceCtorEq, Nat.reduceMul]
      exact ⟨e5, hc⟩
  clear e0 e4 e5
  rintro s σ5 ⟨rfl, e5, e6, hk63⟩
  rw [if_neg hk63]
  have hk2 : (2 : Nat) ^ k ≤ 9223372036854775808 := by rw [show 9223372036854775808 = 2 ^ 63 from rfl]; exact Nat.pow_le_pow_right (by omega) (by omega)
  have hp0 : 0 < (2 : Nat) ^ k := Nat.two_pow_pos k
  have hm : min k IntKind.u64.bits = k := Nat.min_eq_left (show k ≤ 64 by omega)
  have hwa : IntKind.u64.wrap (1 * (2 : Int) ^ min k IntKind.u64.bits) = ((2 ^ k : Nat) : Int) := by rw [hm, show (1 : Int) * 2 ^ k = ((2 ^ k : Nat) : Int) by simp, wrap_u64 (by omega)]
  have hwb : IntKind.u64.wrap ((u : Int) + ((2 ^ k : Nat) : Int)) = ((2 ^ k + u : Nat) : Int) := by rw [show (u : Int) + ((2 ^ k : Nat) : Int) = ((2 ^ k + u : Nat) : Int) by rw [Int.natCast_add]; omega, wrap_u64 (by omega)]
  have hwc : IntKind.u64.wrap (((2 ^ k + u : Nat) : Int) - 1) = ((2 ^ k + u - 1 : Nat) : Int) := by rw [show ((2 ^ k + u : Nat) : Int) - 1 = ((2 ^ k + u - 1 : Nat) : Int) by omega, wrap_u64 (by omega)]
  refine AW.seq_k fun K20 h20 => ?_
  all_goals refine AW.reg0 ?_
  all_goals iterate 7 (refine S.g rfl rfl fun K' k' => ?_; simp only [zz, reduceIte, Nat.reduceEqDiff, Nat.reduceAdd, e5, e6, hwa, hwb, hwc]; refine k' _ _ ?_; clear k' K')
  all_goals refine S.nil ?_
  all_goals simp only [ze, reduceIte, Nat.reduceEqDiff, Nat.reduceLT, Nat.reduceLeDiff, Nat.reduceAdd, reduceCtorEq, Nat.reduceMul, e5, e6, hwa, hwb, hwc]
  all_goals apply_assumption
  refine AW.ret ?_
  all_goals simp only [zs, reduceIte, Nat.reduceEqDiff, Nat.reduceLT, Nat.reduceLeDiff, Nat.reduceAdd, reduceCtorEq, Nat.reduceMul]
  exact ⟨by simp [wk, wk1], hfin⟩
end Go.Abs.M
namespace Go.Abs.M
open Go Go.Abs Go.Proofs
set_option maxRecDepth 20000
set_option linter.unusedSimpArgs false
set_option linter.unusedVariables false
theorem natP_ok {l : List Bool} {u c : Nat} (h : natP l = .ok (u, c)) : u < 18446744073709551616 ∧ c ≤ l.length := by
  unfold natP at h
  simp only [] at h
  have hz := zr_le l 65
  generalize zr l 65 = k at *
  split at h
  · cases h
  split at h
  · cases h
  split at h
  · split at h
    · injection h with h; injection h with h1 h2; omega
    · cases h
  · injection h with h
    injection h with h1 h2
    have hv := valN_lt ((l.drop (k + 1)).take k)
    have h3 : 2 ^ ((l.drop (k + 1)).take k).length ≤ 2 ^ k := Nat.pow_le_pow_right (by omega) (by rw [List.length_take]; omega)
    have h4 : (2 : Nat) ^ k ≤ 9223372036854775808 := by rw [show 9223372036854775808 = 2 ^ 63 from rfl]; exact Nat.pow_le_pow_right (by omega) (by omega)
    omega
def zagB (u : Nat) : Int := if u % 2 = 0 then (u / 2 : Nat) else -((u / 2 : Nat) : Int) - 1
def numP (l : List Bool) : Except Int (Int × Nat) := match natP l with
  | .ok (u, c) => .ok (zagB u, c)
  | .error e => .error e
theorem zag_bits (u : Nat) (h : u < 18446744073709551616) : IntKind.i64.wrap ((BitVec.ofInt IntKind.i64.bits ((u / 2 : Nat) : Int) ^^^ BitVec.ofInt IntKind.i64.bits (IntKind.i64.wrap (0 - ((u % 2 : Nat) : Int)))).toNat : Int) = zagB u := by
  unfold zagB
  have hx : (BitVec.ofInt IntKind.i64.bits ((u / 2 : Nat) : Int)).toNat = u / 2 := by
    rw [BitVec.ofInt_natCast, BitVec.toNat_ofNat]; exact Nat.mod_eq_of_lt (show u / 2 < 18446744073709551616 by omega)
  by_cases h0 : u % 2 = 0
  · rw [if_pos h0, h0]
    have : BitVec.ofInt IntKind.i64.bits (IntKind.i64.wrap (0 - ((0 : Nat) : Int))) = 0#IntKind.i64.bits := by decide
    rw [this, BitVec.xor_zero, hx, wrapI _ (by omega) (by omega)]
  · rw [if_neg h0, show u % 2 = 1 by omega]
    have : BitVec.ofInt IntKind.i64.bits (IntKind.i64.wrap (0 - ((1 : Nat) : Int))) = BitVec.allOnes IntKind.i64.bits := by decide
    rw [this, BitVec.xor_allOnes, BitVec.toNat_not, hx]
    unfold IntKind.wrap
    simp [IntKind.signed, IntKind.bits]
    omega
theorem sNum_spec (g : Nat) (b : List Nat) (q : Nat) (σ : Hp) (ho : σ.obj g = some (srcC b q)) (hb : b.length < 140737488355329) (hb256 : ∀ x ∈ b, x < 256) (hq : q ≤ 8 * b.length) :
    ACalls Try.prog 162 [ptrV g] σ (fun v σ' => match numP ((unB b).drop q) with
      | .ok (n, c) => v = .tup [.c (.int .i64 n), .c (.int .i64 0)] ∧ σ' = σ.setObj g (some (srcC b (q + c)))
      | .error e => v = .tup [.c (.int .i64 0), .c (.int .i64 e)] ∧ σ' = σ) := by
  refine ACalls.intro Try.call162 Try.func162 rfl Try.ntmps162 Try.results162 (by simp) ?_
  have hp1 : (2 : Int) ^ min 1 IntKind.u64.bits = 2 := rfl
  unfold numP
  rcases hN : natP ((unB b).drop q) with e | ⟨u, c⟩
  · have hsh : Int.fdiv 0 2 = 0 := rfl
    have han : IntKind.u64.wrap ((BitVec.ofInt IntKind.u64.bits 0 &&& BitVec.ofInt IntKind.u64.bits 1).toNat : Int) = 0 := by decide
    have hw0 : IntKind.i64.wrap 0 = 0 := rfl
    have hw1 : IntKind.i64.wrap (0 - 0) = 0 := rfl
    have hxo : IntKind.i64.wrap ((BitVec.ofInt IntKind.i64.bits 0 ^^^ BitVec.ofInt IntKind.i64.bits 0).toNat : Int) = 0 := by decide
    refine AW.seq_k fun K1 h1 => ?_
    all_goals refine AW.reg0 ?_
    all_goals iterate 2 (refine S.g rfl rfl fun K' k' => ?_; simp only [zz, reduceIte, Nat.reduceEqDiff, Nat.reduceAdd]; refine k' _ _ ?_; clear k' K')
    all_goals refine S.nil ?_
    all_goals simp only [ze, reduceIte, Nat.reduceEqDiff, Nat.reduceLT, Nat.reduceLeDiff, Nat.reduceAdd, reduceCtorEq, Nat.reduceMul]
    all_goals apply_assumption
    refine AW.seq_k fun K2 h2 => ?_
    all_goals refine AW.reg0 ?_
    all_goals (refine S.g rfl rfl fun K' k' => ?_; simp only [zz, reduceIte, Nat.reduceEqDiff, Nat.reduceAdd, pw, Nat.reduceLT, Nat.reduceLeDiff]; refine k' _ _ ?_; clear k' K')
    all_goals (refine S.g rfl rfl fun K' k' => ?_; simp only [zz, reduceIte, Nat.reduceEqDiff, Nat.reduceLT, Nat.reduceLeDiff, Nat.reduceAdd, reduceCtorEq, Nat.reduceMul, pw, Nat.reduceLT, Nat.reduceLeDiff]; refine (sNat_spec g b q _ ho hb hb256 hq).to fun v σ2 hv => ?_; simp only [hN] at hv; obtain ⟨rfl, hσ⟩ := hv <;> (refine k' _ _ ?_; clear k' K'))
    all_goals iterate 5 (refine S.g rfl rfl fun K' k' => ?_; simp only [zz, reduceIte, Nat.reduceEqDiff, Nat.reduceLT, Nat.reduceLeDiff, Nat.reduceAdd, reduceCtorEq, Nat.reduceMul, pw, Nat.reduceLT, Nat.reduceLeDiff]; refine k' _ _ ?_; clear k' K')
    all_goals refine S.nil ?_
    all_goals simp only [ze, reduceIte, Nat.reduceEqDiff, Nat.reduceLT, Nat.reduceLeDiff, Nat.reduceAdd, reduceCtorEq, Nat.reduceMul, pw, Nat.reduceLT, Nat.reduceLeDiff]
    all_goals apply_assumption
    refine AW.seq_k fun K3 h3 => ?_
    all_goals refine AW.reg0 ?_
    all_goals iterate 11 (refine S.g rfl rfl fun K' k' => ?_; simp only [zz, reduceIte, Nat.reduceEqDiff, Nat.reduceAdd, cv54_2, Int.reduceLE, Int.reduceToNat, hp1, hsh, han, hw0, hw1, hxo]; refine k' _ _ ?_; clear k' K')
    all_goals refine S.nil ?_
    all_goals simp only [ze, reduceIte, Nat.reduceEqDiff, Nat.reduceLT, Nat.reduceLeDiff, Nat.reduceAdd, reduceCtorEq, Nat.reduceMul, Int.reduceLE, Int.reduceToNat, hp1, hsh, han, hw0, hw1, hxo]
    all_goals apply_assumption
    refine AW.ret ?_
    all_goals simp only [zs, reduceIte, Nat.reduceEqDiff, Nat.reduceLT, Nat.reduceLeDiff, Nat.reduceAdd, reduceCtorEq, Nat.reduceMul]
    exact ⟨by simp [wk, wk1], hσ⟩
  · obtain ⟨hu, _⟩ := natP_ok hN
    have hsh : Int.fdiv (u : Int) 2 = ((u / 2 : Nat) : Int) := (Int.ofNat_fdiv u 2).symm
    have han := and1 hu
    have hw0 : IntKind.i64.wrap ((u / 2 : Nat) : Int) = ((u / 2 : Nat) : Int) := wrapI _ (by omega) (by omega)
    have hw1 : IntKind.i64.wrap ((u % 2 : Nat) : Int) = ((u % 2 : Nat) : Int) := wrapI _ (by omega) (by omega)
    have hz := zag_bits u hu
    refine AW.seq_k fun K4 h4 => ?_
    all_goals refine AW.reg0 ?_
    all_goals iterate 2 (refine S.g rfl rfl fun K' k' => ?_; simp only [zz, reduceIte, Nat.reduceEqDiff, Nat.reduceAdd]; refine k' _ _ ?_; clear k' K')
    all_goals refine S.nil ?_
    all_goals simp only [ze, reduceIte, Nat.reduceEqDiff, Nat.reduceLT, Nat.reduceLeDiff, Nat.reduceAdd, reduceCtorEq, Nat.reduceMul]
    all_goals apply_assumption
    refine AW.seq_k fun K5 h5 => ?_
    all_goals refine AW.reg0 ?_
    all_goals (refine S.g rfl rfl fun K' k' => ?_; simp only [zz, reduceIte, Nat.reduceEqDiff, Nat.reduceAdd, pw, Nat.reduceLT, Nat.reduceLeDiff]; refine k' _ _ ?_; clear k' K')
    all_goals (refine S.g rfl rfl fun K' k' => ?_; simp only [zz, reduceIte, Nat.reduceEqDiff, Nat.reduceLT, Nat.reduceLeDiff, Nat.reduceAdd, reduceCtorEq, Nat.reduceMul, pw, Nat.reduceLT, Nat.reduceLeDiff]; refine (sNat_spec g b q _ ho hb hb256 hq).to fun v σ2 hv => ?_; simp only [hN] at hv; obtain ⟨rfl, hσ⟩ := hv <;> (refine k' _ _ ?_; clear k' K'))
    all_goals iterate 5 (refine S.g rfl rfl fun K' k' => ?_; simp only [zz, reduceIte, Nat.reduceEqDiff, Nat.reduceLT, Nat.reduceLeDiff, Nat.reduceAdd, reduceCtorEq, Nat.reduceMul, pw, Nat.reduceLT, Nat.reduceLeDiff]; refine k' _ _ ?_; clear k' K')
    all_goals refine S.nil ?_
    all_goals simp only [ze, reduceIte, Nat.reduceEqDiff, Nat.reduceLT, Nat.reduceLeDiff, Nat.reduceAdd, reduceCtorEq, Nat.reduceMul, pw, Nat.reduceLT, Nat.reduceLeDiff]
    all_goals apply_assumption
    refine AW.seq_k fun K6 h6 => ?_
    all_goals refine AW.reg0 ?_
    all_goals iterate 11 (refine S.g rfl rfl fun K' k' => ?_; simp only [zz, reduceIte, Nat.reduceEqDiff, Nat.reduceAdd, cv54_2, Int.reduceLE, Int.reduceToNat, hp1, hsh, han, hw0, hw1, hz]; refine k' _ _ ?_; clear k' K')
    all_goals refine S.nil ?_
    all_goals simp only [ze, reduceIte, Nat.reduceEqDiff, Nat.reduceLT, Nat.reduceLeDiff, Nat.reduceAdd, reduceCtorEq, Nat.reduceMul, Int.reduceLE, Int.reduceToNat, hp1, hsh, han, hw0, hw1, hz]
    all_goals apply_assumption
    refine AW.ret ?_
    all_goals simp only [zs, reduceIte, Nat.reduceEqDiff, Nat.reduceLT, Nat.reduceLeDiff, Nat.reduceAdd, reduceCtorEq, Nat.reduceMul]
    exact ⟨by simp [wk, wk1], hσ⟩
end Go.Abs.M
namespace Go.Abs.M
open Go Go.Abs Go.Proofs
set_option maxRecDepth 20000
set_option linter.unusedSimpArgs false
set_option linter.unusedVariables false
/-- The next text: its bytes and how many flags it has, or what is wrong. -/
def textP (l : List Bool) : Except Int (List Nat × Nat) := match natP l with
  | .error e => .error e
  | .ok (u, c) => if (l.length - c) / 8 < u then .error 10 else .ok ((List.range u).map fun i => valN ((l.drop (c + 8 * i)).take 8), c + 8 * u)
def strOf (l : List Nat) : ByteArray := ⟨(l.map UInt8.ofNat).toArray⟩
def fillP (f : Nat → Nat) (u i : Nat) : List Nat := (List.range u).map fun j => if j < i then f j else 0
theorem fillP_set (f : Nat → Nat) (u i : Nat) : (fillP f u i).set i (f i) = fillP f u (i + 1) := by
  unfold fillP
  refine List.ext_getElem (by simp) fun j h1 h2 => ?_
  simp only [List.getElem_set, List.getElem_map, List.getElem_range]
  by_cases h : i = j
  · subst h; simp
  · rw [if_neg h]
    by_cases hj : j < i
    · rw [if_pos hj, if_pos (by omega)]
    · rw [if_neg hj, if_neg (by omega)]
theorem fillP_len (f : Nat → Nat) (u i : Nat) : (fillP f u i).length = u := by simp [fillP]
theorem fillP_zero (f : Nat → Nat) (u : Nat) : fillP f u 0 = List.replicate u 0 := by
  unfold fillP
  refine List.ext_getElem (by simp) fun j h1 h2 => ?_
  simp
theorem fillP_all (f : Nat → Nat) (u : Nat) : fillP f u u = (List.range u).map f := by
  unfold fillP
  refine List.map_congr_left fun j hj => ?_
  rw [if_pos (List.mem_range.1 hj)]
theorem natP_err {l : List Bool} {e : Int} (h : natP l = .error e) : e ≠ 0 := by
  unfold natP at h
  simp only [] at h
  split at h
  · injection h with h; omega
  split at h
  · injection h with h; omega
  split at h
  · split at h
    · cases h
    · injection h with h; omega
  · cases h
theorem Fr.src {g q r : Nat} {b : List Nat} {σ : Hp} (ho : σ.obj g = some (srcC b q)) : Fr g σ (σ.setObj g (some (srcC b r))) :=
  ⟨fun x c hx hc => by simp [hx, hc], fun k x hk _ => ⟨by simp [hk], by simp [skN, srcC]⟩⟩
theorem sText_spec (g : Nat) (b : List Nat) (q : Nat) (σ : Hp) (ho : σ.obj g = some (srcC b q)) (hb : b.length < 140737488355329) (hb256 : ∀ x ∈ b, x < 256) (hq : q ≤ 8 * b.length) :
    ACalls Try.prog 123 [ptrV g] σ (fun v σ' => match textP ((unB b).drop q) with
      | .ok (t, c) => v = .tup [.c (.string (strOf t)), .c (.int .i64 0)] ∧ σ'.obj g = some (srcC b (q + c)) ∧ Fr g σ σ'
      | .error e => v = .tup [.c (.string ⟨#[]⟩), .c (.int .i64 e)] ∧ σ'.obj g = some (srcC b q) ∧ Fr g σ σ') := by
  refine ACalls.intro Try.call123 Try.func123 rfl Try.ntmps123 Try.results123 (by simp) ?_
  have ho' : σ.obj g = some [.c (.bool true), .sl (b.map encB), .c (.int .i64 (q : Nat))] := ho
  have hlen : ((unB b).drop q).length = 8 * b.length - q := by rw [List.length_drop, unB_len]
  refine AW.seq_k fun K1 h1 => ?_
  all_goals refine AW.reg0 ?_
  all_goals iterate 2 (refine S.g rfl rfl fun K' k' => ?_; simp only [zz, reduceIte, Nat.reduceEqDiff, Nat.reduceAdd]; refine k' _ _ ?_; clear k' K')
  all_goals refine S.nil ?_
  all_goals simp only [ze, reduceIte, Nat.reduceEqDiff, Nat.reduceLT, Nat.reduceLeDiff, Nat.reduceAdd, reduceCtorEq, Nat.reduceMul]
  all_goals apply_assumption
  refine AW.seq_k fun K2 h2 => ?_
  refine AW.seq_k fun K3 h3 => ?_
  all_goals refine AW.reg0 ?_
  all_goals (refine S.g rfl rfl fun K' k' => ?_; simp only [zz, reduceIte, Nat.reduceEqDiff, Nat.reduceAdd, ptrV, ho', map3, un4, un82, TypeDesc.pointer.injEq, Bool.not_true, List.getD_cons_succ, List.getD_cons_zero]; refine k' _ _ ?_; clear k' K')
  all_goals (refine S.g rfl rfl fun K' k' => ?_; simp only [zz, reduceIte, Nat.reduceEqDiff, Nat.reduceLT, Nat.reduceLeDiff, Nat.reduceAdd, reduceCtorEq, Nat.reduceMul, un82, ptrV, ho', map3, un4, un82, TypeDesc.pointer.injEq, Bool.not_true, List.getD_cons_succ, List.getD_cons_zero]; refine S.bool fun b a12 => ?_; cases b <;> (try (exfalso; first | exact Bool.noConfusion a12 | (have h := of_decide_eq_true a12; omega) | (have h := of_decide_eq_false a12; omega))) <;> (refine k' _ _ ?_; clear k' K'))
  all_goals (refine S.g rfl rfl fun K' k' => ?_; simp only [zz, reduceIte, Nat.reduceEqDiff, Nat.reduceAdd, ptrV, ho', map3, un4, un82, TypeDesc.pointer.injEq, Bool.not_true, List.getD_cons_succ, List.getD_cons_zero]; refine k' _ _ ?_; clear k' K')
  all_goals iterate 5 (first | (refine S.y rfl rfl rfl rfl fun K' k' => ?_; simp only [zz, reduceIte, Nat.reduceEqDiff, Nat.reduceLT, Nat.reduceLeDiff, Nat.reduceAdd, reduceCtorEq, Nat.reduceMul, of129_0, ok4, sz4, ag4, ptrV, ho', map3, un4, un82, TypeDesc.pointer.injEq, Bool.not_true, List.getD_cons_succ, List.getD_cons_zero]; refine k' _ _ ?_; clear k' K') | ((first | refine S.x rfl rfl rfl rfl fun K' k' => ?_ | refine S.u rfl rfl rfl rfl fun K' k' => ?_); simp only [ze, reduceIte, Nat.reduceEqDiff]; refine k' _ _ ?_; clear k' K'))
  all_goals (refine S.g rfl rfl fun K' k' => ?_; simp only [zz, reduceIte, Nat.reduceEqDiff, Nat.reduceAdd, ptrV, ho', map3, un4, un82, TypeDesc.pointer.injEq, Bool.not_true, List.getD_cons_succ, List.getD_cons_zero]; refine k' _ _ ?_; clear k' K')
  all_goals refine S.nil ?_
  all_goals simp only [ze, reduceIte, Nat.reduceEqDiff, Nat.reduceLT, Nat.reduceLeDiff, Nat.reduceAdd, reduceCtorEq, Nat.reduceMul, ptrV, ho', map3, un4, un82, TypeDesc.pointer.injEq, Bool.not_true, List.getD_cons_succ, List.getD_cons_zero]
  all_goals apply_assumption
  refine AW.cond (b := false) (by simp [ev]) (fun hc => by cases hc) (fun hc => ?_)
  refine AW.skip ?_
  all_goals simp only [zs, reduceIte, Nat.reduceEqDiff, Nat.reduceLT, Nat.reduceLeDiff, Nat.reduceAdd, reduceCtorEq, Nat.reduceMul]
  all_goals apply_assumption
  refine AW.seq_k fun K4 h4 => ?_
  all_goals refine AW.reg0 ?_
  all_goals iterate 5 (refine S.g rfl rfl fun K' k' => ?_; simp only [zz, reduceIte, Nat.reduceEqDiff, Nat.reduceLT, Nat.reduceLeDiff, Nat.reduceAdd, reduceCtorEq, Nat.reduceMul, of129_2, ok3, sz3, ag3, ho', map3, List.getD_cons_succ, List.getD_cons_zero]; refine k' _ _ ?_; clear k' K')
  all_goals refine S.nil ?_
  all_goals simp only [ze, reduceIte, Nat.reduceEqDiff, Nat.reduceLT, Nat.reduceLeDiff, Nat.reduceAdd, reduceCtorEq, Nat.reduceMul, ho', map3, List.getD_cons_succ, List.getD_cons_zero]
  all_goals apply_assumption
  unfold textP
  rcases hN : natP ((unB b).drop q) with e | ⟨u, c⟩
  · refine AW.seq_k fun K5 h5 => ?_
    all_goals refine AW.reg0 ?_
    all_goals (refine S.g rfl rfl fun K' k' => ?_; simp only [zz, reduceIte, Nat.reduceEqDiff, Nat.reduceAdd, Nat.reduceLT, Nat.reduceLeDiff]; refine k' _ _ ?_; clear k' K')
    all_goals (refine S.g rfl rfl fun K' k' => ?_; simp only [zz, reduceIte, Nat.reduceEqDiff, Nat.reduceLT, Nat.reduceLeDiff, Nat.reduceAdd, reduceCtorEq, Nat.reduceMul, Nat.reduceLT, Nat.reduceLeDiff]; refine (sNat_spec g b q _ ho hb hb256 hq).to fun v σ2 hv => ?_; simp only [hN] at hv; obtain ⟨rfl, hσ⟩ := hv <;> (refine k' _ _ ?_; clear k' K'))
    all_goals iterate 5 (refine S.g rfl rfl fun K' k' => ?_; simp only [zz, reduceIte, Nat.reduceEqDiff, Nat.reduceLT, Nat.reduceLeDiff, Nat.reduceAdd, reduceCtorEq, Nat.reduceMul, Nat.reduceLT, Nat.reduceLeDiff]; refine k' _ _ ?_; clear k' K')
    all_goals refine S.nil ?_
    all_goals simp only [ze, reduceIte, Nat.reduceEqDiff, Nat.reduceLT, Nat.reduceLeDiff, Nat.reduceAdd, reduceCtorEq, Nat.reduceMul, Nat.reduceLT, Nat.reduceLeDiff]
    all_goals apply_assumption
    have he := natP_err hN
    subst hσ
    refine AW.seq_k fun K6 h6 => ?_
    refine AW.seq_k fun K7 h7 => ?_
    all_goals refine AW.reg0 ?_
    all_goals iterate 2 (refine S.g rfl rfl fun K' k' => ?_; simp only [zz, reduceIte, Nat.reduceEqDiff, Nat.reduceAdd]; refine k' _ _ ?_; clear k' K')
    all_goals refine S.nil ?_
    all_goals simp only [ze, reduceIte, Nat.reduceEqDiff, Nat.reduceLT, Nat.reduceLeDiff, Nat.reduceAdd, reduceCtorEq, Nat.reduceMul]
    all_goals apply_assumption
    refine AW.cond (b := decide (e ≠ 0)) (by simp [ev]; try rfl) (fun hc => ?_) (fun hc => absurd he (by simpa using of_decide_eq_false hc))
    refine AW.seq_k fun K8 h8 => ?_
    all_goals refine AW.reg0 ?_
    all_goals iterate 3 (refine S.g rfl rfl fun K' k' => ?_; simp only [zz, reduceIte, Nat.reduceEqDiff, Nat.reduceAdd]; refine k' _ _ ?_; clear k' K')
    all_goals refine S.nil ?_
    all_goals simp only [ze, reduceIte, Nat.reduceEqDiff, Nat.reduceLT, Nat.reduceLeDiff, Nat.reduceAdd, reduceCtorEq, Nat.reduceMul]
    all_goals apply_assumption
    refine AW.ret ?_
    all_goals simp only [zs, reduceIte, Nat.reduceEqDiff, Nat.reduceLT, Nat.reduceLeDiff, Nat.reduceAdd, reduceCtorEq, Nat.reduceMul]
    exact ⟨by simp [wk, wk1], ho, Fr.refl _ _⟩
  · obtain ⟨hu, hcl⟩ := natP_ok hN
    rw [hlen] at hcl
    refine AW.seq_k fun K9 h9 => ?_
    all_goals refine AW.reg0 ?_
    all_goals (refine S.g rfl rfl fun K' k' => ?_; simp only [zz, reduceIte, Nat.reduceEqDiff, Nat.reduceAdd, Nat.reduceLT, Nat.reduceLeDiff]; refine k' _ _ ?_; clear k' K')
    all_goals (refine S.g rfl rfl fun K' k' => ?_; simp only [zz, reduceIte, Nat.reduceEqDiff, Nat.reduceLT, Nat.reduceLeDiff, Nat.reduceAdd, reduceCtorEq, Nat.reduceMul, Nat.reduceLT, Nat.reduceLeDiff]; refine (sNat_spec g b q _ ho hb hb256 hq).to fun v σ2 hv => ?_; simp only [hN] at hv; obtain ⟨rfl, hσ⟩ := hv <;> (refine k' _ _ ?_; clear k' K'))
    all_goals iterate 5 (refine S.g rfl rfl fun K' k' => ?_; simp only [zz, reduceIte, Nat.reduceEqDiff, Nat.reduceLT, Nat.reduceLeDiff, Nat.reduceAdd, reduceCtorEq, Nat.reduceMul, Nat.reduceLT, Nat.reduceLeDiff]; refine k' _ _ ?_; clear k' K')
    all_goals refine S.nil ?_
    all_goals simp only [ze, reduceIte, Nat.reduceEqDiff, Nat.reduceLT, Nat.reduceLeDiff, Nat.reduceAdd, reduceCtorEq, Nat.reduceMul, Nat.reduceLT, Nat.reduceLeDiff]
    all_goals apply_assumption
    have ho2 : σ2.obj g = some (srcC b (q + c)) := by rw [hσ]; simp
    have hfr : Fr g σ σ2 := by rw [hσ]; exact Fr.src ho
    have hq8 : ((8 * b.length - (q + c) : Nat) : Int).tdiv 8 = (((8 * b.length - (q + c)) / 8 : Nat) : Int) := rfl
    have hwq : IntKind.i64.wrap (((8 * b.length - (q + c)) / 8 : Nat) : Int) = (((8 * b.length - (q + c)) / 8 : Nat) : Int) := wrap_small _ (by omega) (by omega)
    have hwu : IntKind.u64.wrap (((8 * b.length - (q + c)) / 8 : Nat) : Int) = (((8 * b.length - (q + c)) / 8 : Nat) : Int) := wrap_u64 (by omega)
    refine AW.seq_k fun K10 h10 => ?_
    refine AW.seq_k fun K11 h11 => ?_
    all_goals refine AW.reg0 ?_
    all_goals iterate 2 (refine S.g rfl rfl fun K' k' => ?_; simp only [zz, reduceIte, Nat.reduceEqDiff, Nat.reduceAdd]; refine k' _ _ ?_; clear k' K')
    all_goals refine S.nil ?_
    all_goals simp only [ze, reduceIte, Nat.reduceEqDiff, Nat.reduceLT, Nat.reduceLeDiff, Nat.reduceAdd, reduceCtorEq, Nat.reduceMul]
    all_goals apply_assumption
    refine AW.cond (b := false) (by simp [ev]) (fun hc => by cases hc) (fun hc => ?_)
    refine AW.skip ?_
    all_goals simp only [zs, reduceIte, Nat.reduceEqDiff, Nat.reduceLT, Nat.reduceLeDiff, Nat.reduceAdd, reduceCtorEq, Nat.reduceMul]
    all_goals apply_assumption
    refine AW.seq_k fun K12 h12 => ?_
    refine AW.seq_k fun K13 h13 => ?_
    all_goals refine AW.reg0 ?_
    all_goals iterate 2 (refine S.g rfl rfl fun K' k' => ?_; simp only [zz, reduceIte, Nat.reduceEqDiff, Nat.reduceAdd, Int.reduceEq, hq8, hwq, hwu, gt_iff_lt]; refine k' _ _ ?_; clear k' K')
    all_goals (refine S.g rfl rfl fun K' k' => ?_; simp only [zz, reduceIte, Nat.reduceEqDiff, Nat.reduceLT, Nat.reduceLeDiff, Nat.reduceAdd, reduceCtorEq, Nat.reduceMul, Int.reduceEq, hq8, hwq, hwu, gt_iff_lt]; refine (left_spec g b (q + c) _ ho2 hb (by omega)).to fun v σ3 hv => ?_; obtain ⟨rfl, hσ3⟩ := hv; subst hσ3 <;> (refine k' _ _ ?_; clear k' K'))
    all_goals iterate 3 (refine S.g rfl rfl fun K' k' => ?_; simp only [zz, reduceIte, Nat.reduceEqDiff, Nat.reduceAdd, cv3_54, Int.reduceEq, hq8, hwq, hwu, gt_iff_lt]; refine k' _ _ ?_; clear k' K')
    all_goals refine S.nil ?_
    all_goals simp only [ze, reduceIte, Nat.reduceEqDiff, Nat.reduceLT, Nat.reduceLeDiff, Nat.reduceAdd, reduceCtorEq, Nat.reduceMul, Int.reduceEq, hq8, hwq, hwu, gt_iff_lt]
    all_goals apply_assumption
    refine AW.cond (b := decide ((8 * b.length - (q + c)) / 8 < u)) (by simp [ev]) (fun hd => ?_) (fun hd => ?_)
    · have hd := of_decide_eq_true hd
      refine AW.seq_k fun K14 h14 => ?_
      all_goals refine AW.reg0 ?_
      all_goals iterate 2 (refine S.g rfl rfl fun K' k' => ?_; simp only [zz, reduceIte, Nat.reduceEqDiff, Nat.reduceAdd]; refine k' _ _ ?_; clear k' K')
      all_goals (refine S.g rfl rfl fun K' k' => ?_; simp only [zz, reduceIte, Nat.reduceEqDiff, Nat.reduceLT, Nat.reduceLeDiff, Nat.reduceAdd, reduceCtorEq, Nat.reduceMul]; refine (back_spec g b (q + c) q 10 _ ho2).to fun v σ4 hv => ?_; obtain ⟨rfl, hσ4⟩ := hv; rw [if_neg (by decide)] at hσ4 <;> (refine k' _ _ ?_; clear k' K'))
      all_goals iterate 2 (refine S.g rfl rfl fun K' k' => ?_; simp only [zz, reduceIte, Nat.reduceEqDiff, Nat.reduceAdd]; refine k' _ _ ?_; clear k' K')
      all_goals refine S.nil ?_
      all_goals simp only [ze, reduceIte, Nat.reduceEqDiff, Nat.reduceLT, Nat.reduceLeDiff, Nat.reduceAdd, reduceCtorEq, Nat.reduceMul]
      all_goals apply_assumption
      refine AW.ret ?_
      all_goals simp only [zs, reduceIte, Nat.reduceEqDiff, Nat.reduceLT, Nat.reduceLeDiff, Nat.reduceAdd, reduceCtorEq, Nat.reduceMul]
      rw [if_pos (by rw [hlen]; omega)]
      refine ⟨by simp [wk, wk1], by rw [hσ4]; simp, hfr.trans (by rw [hσ4]; exact Fr.src ho2)⟩
    have hd := of_decide_eq_false hd
    refine AW.skip ?_
    all_goals simp only [zs, reduceIte, Nat.reduceEqDiff, Nat.reduceLT, Nat.reduceLeDiff, Nat.reduceAdd, reduceCtorEq, Nat.reduceMul]
    all_goals apply_assumption
    refine AW.seq_k fun K15 h15 => ?_
    all_goals refine AW.reg0 ?_
    all_goals (refine S.g rfl rfl fun K' k' => ?_; simp only [zz, reduceIte, Nat.reduceEqDiff, Nat.reduceAdd]; refine k' _ _ ?_; clear k' K')
    all_goals (refine S.g rfl rfl fun K' k' => ?_; simp only [zz, reduceIte, Nat.reduceEqDiff, Nat.reduceLT, Nat.reduceLeDiff, Nat.reduceAdd, reduceCtorEq, Nat.reduceMul, sl48, el48, ok5, sz5, ag5, zt5, by5]; refine ⟨by omega, by omega, fun k hk => ?_⟩ <;> (refine k' _ _ ?_; clear k' K'))
    all_goals (refine S.g rfl rfl fun K' k' => ?_; simp only [zz, reduceIte, Nat.reduceEqDiff, Nat.reduceAdd]; refine k' _ _ ?_; clear k' K')
    all_goals refine S.nil ?_
    all_goals simp only [ze, reduceIte, Nat.reduceEqDiff, Nat.reduceLT, Nat.reduceLeDiff, Nat.reduceAdd, reduceCtorEq, Nat.reduceMul]
    all_goals apply_assumption
    have hfe : ∀ i, valN ((((unB b).drop q).drop (c + 8 * i)).take 8) = bitsV b (q + c + 8 * i) 8 := fun i => by rw [← bitsV_at, show q + (c + 8 * i) = q + c + 8 * i by omega]
    simp only [hfe]
    rw [if_neg (by rw [hlen]; omega)]
    refine AW.seq_k fun K16 h16 => ?_
    refine AW.seq_k fun K17 h17 => ?_
    all_goals refine AW.reg0 ?_
    all_goals iterate 3 (refine S.g rfl rfl fun K' k' => ?_; simp only [zz, reduceIte, Nat.reduceEqDiff, Nat.reduceLT, Nat.reduceLeDiff, Nat.reduceAdd, reduceCtorEq, Nat.reduceMul, sl48, el48, ok5, sz5, ag5, Hp.setGr_gr, List.length_replicate]; refine k' _ _ ?_; clear k' K')
    all_goals refine S.nil ?_
    all_goals simp only [ze, reduceIte, Nat.reduceEqDiff, Nat.reduceLT, Nat.reduceLeDiff, Nat.reduceAdd, reduceCtorEq, Nat.reduceMul, Hp.setGr_gr, List.length_replicate]
    all_goals apply_assumption
    refine AW.block ?_   -- 0
    refine AW.loop (fun m s σ' => ∃ i, m = u - i ∧ i ≤ u ∧ s.t 0 = ptrV g ∧ s.t 7 = .gl k ∧ s.t 44 = .c (.int .i64 u) ∧ s.t 45 = .c (.int .i64 (i : Nat)) ∧
      σ' = (σ3.setObj g (some (srcC b (q + c + 8 * i)))).setGr k (some ((5, 1), (fillP (fun i => bitsV b (q + c + 8 * i) 8) u i).map encB))) u ?_ ?_
    · refine ⟨0, rfl, Nat.zero_le _, ?_⟩
      all_goals simp only [zs, reduceIte, Nat.reduceEqDiff, Nat.reduceLT, Nat.reduceLeDiff, Nat.reduceAdd, reduceCtorEq, Nat.reduceMul]
      refine ⟨rfl, rfl, ?_⟩
      rw [fillP_zero]
      have h0 : σ3.setObj g (some (srcC b (q + c))) = σ3 := setObj_id ho2
      rw [h0]
      simp [encB]
    rintro m s σ' ⟨i, hm, hi, e0, e7, e44, e45, rfl⟩
    refine AW.seq_k fun K18 h18 => ?_
    all_goals refine AW.reg0 ?_
    all_goals (refine S.g rfl rfl fun K' k' => ?_; simp only [zz, reduceIte, Nat.reduceEqDiff, Nat.reduceAdd, e44, e45]; refine k' _ _ ?_; clear k' K')
    all_goals refine S.nil ?_
    all_goals simp only [ze, reduceIte, Nat.reduceEqDiff, Nat.reduceLT, Nat.reduceLeDiff, Nat.reduceAdd, reduceCtorEq, Nat.reduceMul, e44, e45]
    all_goals apply_assumption
    refine AW.seq_k fun K19 h19 => ?_
    refine AW.cond (b := decide (i < u)) (by simp [ev]) (fun hc => ?_) (fun hc => ?_)
    · refine AW.skip ?_
      all_goals simp only [zs, reduceIte, Nat.reduceEqDiff, Nat.reduceLT, Nat.reduceLeDiff, Nat.reduceAdd, reduceCtorEq, Nat.reduceMul]
      all_goals apply_assumption
      have hin := of_decide_eq_true hc
      have hs4 : ((σ3.setObj g (some (srcC b (q + c + 8 * i)))).setGr k (some ((5, 1), (fillP (fun i => bitsV b (q + c + 8 * i) 8) u i).map encB))).obj g = some (srcC b (q + c + 8 * i)) := by simp
      have hwi : IntKind.i64.wrap ((i : Int) + 1) = ((i + 1 : Nat) : Int) := by rw [wrap_small _ (by omega) (by omega)]; rfl
      have hv8 : bitsV b (q + c + 8 * i) 8 < 256 := bitsV_lt b (q + c + 8 * i) 8
      have hw8 := wrap_u8 hv8
      have hset := fillP_set (fun i => bitsV b (q + c + 8 * i) 8) u i
      have hfl := fillP_len (fun i => bitsV b (q + c + 8 * i) 8) u i
      refine AW.seq_k fun K20 h20 => ?_
      refine AW.block ?_   -- 1
      refine AW.seq_k fun K21 h21 => ?_
      all_goals refine AW.reg0 ?_
      all_goals iterate 2 (refine S.g rfl rfl fun K' k' => ?_; simp only [zz, reduceIte, Nat.reduceEqDiff, Nat.reduceAdd, e45]; refine k' _ _ ?_; clear k' K')
      all_goals refine S.nil ?_
      all_goals simp only [ze, reduceIte, Nat.reduceEqDiff, Nat.reduceLT, Nat.reduceLeDiff, Nat.reduceAdd, reduceCtorEq, Nat.reduceMul, e45]
      all_goals apply_assumption
      refine AW.seq_k fun K22 h22 => ?_
      all_goals refine AW.reg0 ?_
      all_goals (refine S.g rfl rfl fun K' k' => ?_; simp only [zz, reduceIte, Nat.reduceEqDiff, Nat.reduceAdd, e0, pw, Nat.reduceLT, Nat.reduceLeDiff]; refine k' _ _ ?_; clear k' K')
      all_goals (refine S.g rfl rfl fun K' k' => ?_; simp only [zz, reduceIte, Nat.reduceEqDiff, Nat.reduceLT, Nat.reduceLeDiff, Nat.reduceAdd, reduceCtorEq, Nat.reduceMul, e0, pw, Nat.reduceLT, Nat.reduceLeDiff]; refine (sBits_spec g b (q + c + 8 * i) 8 _ hs4 hb hb256 (by omega) (by omega)).to fun v σ5 hv => ?_; rw [if_pos (by omega)] at hv; obtain ⟨rfl, hσ5⟩ := hv <;> (refine k' _ _ ?_; clear k' K'))
      all_goals iterate 5 (refine S.g rfl rfl fun K' k' => ?_; simp only [zz, reduceIte, Nat.reduceEqDiff, Nat.reduceLT, Nat.reduceLeDiff, Nat.reduceAdd, reduceCtorEq, Nat.reduceMul, e0, pw, Nat.reduceLT, Nat.reduceLeDiff]; refine k' _ _ ?_; clear k' K')
      all_goals refine S.nil ?_
      all_goals simp only [ze, reduceIte, Nat.reduceEqDiff, Nat.reduceLT, Nat.reduceLeDiff, Nat.reduceAdd, reduceCtorEq, Nat.reduceMul, e0, pw, Nat.reduceLT, Nat.reduceLeDiff]
      all_goals apply_assumption
      have hgk : σ5.gr k = some ((5, 1), (fillP (fun i => bitsV b (q + c + 8 * i) 8) u i).map encB) := by rw [hσ5]; simp
      have hel : ((fillP (fun i => bitsV b (q + c + 8 * i) 8) u i).map encB).getD i [] = encB 0 := encB_at (by simp [fillP, hin])
      have hend : ∀ X, σ5.setGr k X = (σ3.setObj g (some (srcC b (q + c + 8 * (i + 1))))).setGr k X := fun X => by
        rw [hσ5, show q + c + 8 * (i + 1) = q + c + 8 * i + 8 by omega]
        simp only [Hp.setGr, Hp.setObj, Hp.mk.injEq]
        refine ⟨?_, ?_⟩ <;> funext x
        · by_cases hx : x = g
          · simp only [hx, if_true]
          · simp only [hx, if_false]
        · by_cases hy : x = k
          · simp only [hy, if_true]
          · simp only [hy, if_false]
      all_goals refine AW.reg0 ?_
      all_goals iterate 6 (refine S.g rfl rfl fun K' k' => ?_; simp only [zz, reduceIte, Nat.reduceEqDiff, Nat.reduceLT, Nat.reduceLeDiff, Nat.reduceAdd, reduceCtorEq, Nat.reduceMul, cv54_5, sl48, el48, ok5, sz5, ag5, e7, hgk, hfl, hin, hel, hw8, encB, List.length_singleton]; refine k' _ _ ?_; clear k' K')
      all_goals refine S.nil ?_
      all_goals simp only [ze, reduceIte, Nat.reduceEqDiff, Nat.reduceLT, Nat.reduceLeDiff, Nat.reduceAdd, reduceCtorEq, Nat.reduceMul, e7, hgk, hfl, hin, hel, hw8, encB, List.length_singleton]
      all_goals apply_assumption
      all_goals refine AW.reg0 ?_
      all_goals iterate 2 (refine S.g rfl rfl fun K' k' => ?_; simp only [zz, reduceIte, Nat.reduceEqDiff, Nat.reduceAdd, e0, e7, e44, e45, hwi, pw]; refine k' _ _ ?_; clear k' K')
      all_goals refine S.nil ?_
      all_goals simp only [ze, reduceIte, Nat.reduceEqDiff, Nat.reduceLT, Nat.reduceLeDiff, Nat.reduceAdd, reduceCtorEq, Nat.reduceMul, e0, e7, e44, e45, hwi, pw]
      refine ⟨u - (i + 1), by omega, i + 1, rfl, by omega, rfl, ?_⟩
      rw [hend, ← hset]; simp [List.map_set, encB]
    · refine AW.exit ?_
      all_goals simp only [zs, reduceIte, Nat.reduceEqDiff, Nat.reduceLT, Nat.reduceLeDiff, Nat.reduceAdd, reduceCtorEq, Nat.reduceMul]
      all_goals apply_assumption
      have hin := of_decide_eq_false hc
      have hi2 : i = u := by omega
      subst hi2
      rw [fillP_all]
      have hall : ∀ x ∈ (List.range i).map (fun i => bitsV b (q + c + 8 * i) 8), x < 256 := fun x hx => by
        obtain ⟨j, _, rfl⟩ := List.mem_map.1 hx
        exact bitsV_lt b (q + c + 8 * j) 8
      refine AW.seq_k fun K23 h23 => ?_
      all_goals refine AW.reg0 ?_
      all_goals (refine S.g rfl rfl fun K' k' => ?_; simp only [zz, reduceIte, Nat.reduceEqDiff, Nat.reduceAdd, e7, Hp.setGr_gr]; refine k' _ _ ?_; clear k' K')
      all_goals (refine S.g rfl rfl fun K' k' => ?_; simp only [zz, reduceIte, Nat.reduceEqDiff, Nat.reduceLT, Nat.reduceLeDiff, Nat.reduceAdd, reduceCtorEq, Nat.reduceMul, cv48_9, e7, Hp.setGr_gr]; refine ⟨_, encB_u8 hall, ?_⟩ <;> (refine k' _ _ ?_; clear k' K'))
      all_goals iterate 2 (refine S.g rfl rfl fun K' k' => ?_; simp only [zz, reduceIte, Nat.reduceEqDiff, Nat.reduceAdd, e7, Hp.setGr_gr]; refine k' _ _ ?_; clear k' K')
      all_goals refine S.nil ?_
      all_goals simp only [ze, reduceIte, Nat.reduceEqDiff, Nat.reduceLT, Nat.reduceLeDiff, Nat.reduceAdd, reduceCtorEq, Nat.reduceMul, e7, Hp.setGr_gr]
      all_goals apply_assumption
      refine AW.ret ?_
      all_goals simp only [zs, reduceIte, Nat.reduceEqDiff, Nat.reduceLT, Nat.reduceLeDiff, Nat.reduceAdd, reduceCtorEq, Nat.reduceMul]
      refine ⟨?_, ?_, ?_⟩
      · simp only [wk, wk1, List.map]; rfl
      · simp [Nat.add_assoc]
      · refine hfr.trans ⟨fun x d hx hd => by simp [hx, hd], fun j x hj hn => ?_⟩
        have hjk : j ≠ k := fun e => by rw [e, hk] at hj; cases hj
        exact ⟨by simp [hjk, hj], by simp [skN, srcC]⟩
end Go.Abs.M
namespace Go.Abs.M
open Go Go.Abs Go.Proofs
set_option maxRecDepth 20000
set_option linter.unusedSimpArgs false
set_option linter.unusedVariables false
/-- What is wrong at the end. -/
def endP (l : List Bool) : Int := if 8 ≤ l.length then 12 else if true ∈ l then 12 else 0
theorem sEnd_spec (g : Nat) (b : List Nat) (q : Nat) (σ : Hp) (ho : σ.obj g = some (srcC b q)) (hb : b.length < 140737488355329) (hb256 : ∀ x ∈ b, x < 256) (hq : q ≤ 8 * b.length) :
    ACalls Try.prog 98 [ptrV g] σ (fun v σ' => v = .c (.int .i64 (endP ((unB b).drop q))) ∧ σ' = σ) := by
  refine ACalls.intro Try.call98 Try.func98 rfl Try.ntmps98 Try.results98 (by simp) ?_
  have ho' : σ.obj g = some [.c (.bool true), .sl (b.map encB), .c (.int .i64 (q : Nat))] := ho
  have hlen : ((unB b).drop q).length = 8 * b.length - q := by rw [List.length_drop, unB_len]
  have hw8 : IntKind.i64.wrap (8 * (b.length : Int)) = ((8 * b.length : Nat) : Int) := by rw [wrap_small _ (by omega) (by omega)]; simp
  refine AW.seq_k fun K1 h1 => ?_
  all_goals refine AW.reg0 ?_
  all_goals (refine S.g rfl rfl fun K' k' => ?_; simp only [zz, reduceIte, Nat.reduceEqDiff, Nat.reduceAdd]; refine k' _ _ ?_; clear k' K')
  all_goals refine S.nil ?_
  all_goals simp only [ze, reduceIte, Nat.reduceEqDiff, Nat.reduceLT, Nat.reduceLeDiff, Nat.reduceAdd, reduceCtorEq, Nat.reduceMul]
  all_goals apply_assumption
  refine AW.seq_k fun K2 h2 => ?_
  refine AW.seq_k fun K3 h3 => ?_
  all_goals refine AW.reg0 ?_
  all_goals (refine S.g rfl rfl fun K' k' => ?_; simp only [zz, reduceIte, Nat.reduceEqDiff, Nat.reduceAdd, ptrV, ho', map3, un4, un82, TypeDesc.pointer.injEq, Bool.not_true, List.getD_cons_succ, List.getD_cons_zero]; refine k' _ _ ?_; clear k' K')
  all_goals (refine S.g rfl rfl fun K' k' => ?_; simp only [zz, reduceIte, Nat.reduceEqDiff, Nat.reduceLT, Nat.reduceLeDiff, Nat.reduceAdd, reduceCtorEq, Nat.reduceMul, un82, ptrV, ho', map3, un4, un82, TypeDesc.pointer.injEq, Bool.not_true, List.getD_cons_succ, List.getD_cons_zero]; refine S.bool fun b a5 => ?_; cases b <;> (try (exfalso; first | exact Bool.noConfusion a5 | (have h := of_decide_eq_true a5; omega) | (have h := of_decide_eq_false a5; omega))) <;> (refine k' _ _ ?_; clear k' K'))
  all_goals (refine S.g rfl rfl fun K' k' => ?_; simp only [zz, reduceIte, Nat.reduceEqDiff, Nat.reduceAdd, ptrV, ho', map3, un4, un82, TypeDesc.pointer.injEq, Bool.not_true, List.getD_cons_succ, List.getD_cons_zero]; refine k' _ _ ?_; clear k' K')
  all_goals iterate 5 (first | (refine S.y rfl rfl rfl rfl fun K' k' => ?_; simp only [zz, reduceIte, Nat.reduceEqDiff, Nat.reduceLT, Nat.reduceLeDiff, Nat.reduceAdd, reduceCtorEq, Nat.reduceMul, of129_0, ok4, sz4, ag4, ptrV, ho', map3, un4, un82, TypeDesc.pointer.injEq, Bool.not_true, List.getD_cons_succ, List.getD_cons_zero]; refine k' _ _ ?_; clear k' K') | ((first | refine S.x rfl rfl rfl rfl fun K' k' => ?_ | refine S.u rfl rfl rfl rfl fun K' k' => ?_); simp only [ze, reduceIte, Nat.reduceEqDiff]; refine k' _ _ ?_; clear k' K'))
  all_goals (refine S.g rfl rfl fun K' k' => ?_; simp only [zz, reduceIte, Nat.reduceEqDiff, Nat.reduceAdd, ptrV, ho', map3, un4, un82, TypeDesc.pointer.injEq, Bool.not_true, List.getD_cons_succ, List.getD_cons_zero]; refine k' _ _ ?_; clear k' K')
  all_goals refine S.nil ?_
  all_goals simp only [ze, reduceIte, Nat.reduceEqDiff, Nat.reduceLT, Nat.reduceLeDiff, Nat.reduceAdd, reduceCtorEq, Nat.reduceMul, ptrV, ho', map3, un4, un82, TypeDesc.pointer.injEq, Bool.not_true, List.getD_cons_succ, List.getD_cons_zero]
  all_goals apply_assumption
  refine AW.cond (b := false) (by simp [ev]) (fun hc => by cases hc) (fun hc => ?_)
  refine AW.skip ?_
  all_goals simp only [zs, reduceIte, Nat.reduceEqDiff, Nat.reduceLT, Nat.reduceLeDiff, Nat.reduceAdd, reduceCtorEq, Nat.reduceMul]
  all_goals apply_assumption
  refine AW.seq_k fun K4 h4 => ?_
  refine AW.seq_k fun K5 h5 => ?_
  all_goals refine AW.reg0 ?_
  all_goals (refine S.g rfl rfl fun K' k' => ?_; simp only [zz, reduceIte, Nat.reduceEqDiff, Nat.reduceAdd, ge_iff_le]; refine k' _ _ ?_; clear k' K')
  all_goals (refine S.g rfl rfl fun K' k' => ?_; simp only [zz, reduceIte, Nat.reduceEqDiff, Nat.reduceLT, Nat.reduceLeDiff, Nat.reduceAdd, reduceCtorEq, Nat.reduceMul, ge_iff_le]; refine (left_spec g b q _ ho hb hq).to fun v σ1 hv => ?_; obtain ⟨rfl, hσ⟩ := hv; subst hσ <;> (refine k' _ _ ?_; clear k' K'))
  all_goals (refine S.g rfl rfl fun K' k' => ?_; simp only [zz, reduceIte, Nat.reduceEqDiff, Nat.reduceAdd, ge_iff_le]; refine k' _ _ ?_; clear k' K')
  all_goals refine S.nil ?_
  all_goals simp only [ze, reduceIte, Nat.reduceEqDiff, Nat.reduceLT, Nat.reduceLeDiff, Nat.reduceAdd, reduceCtorEq, Nat.reduceMul, ge_iff_le]
  all_goals apply_assumption
  refine AW.cond (b := decide (8 ≤ 8 * b.length - q)) (by simp [ev]; try omega) (fun hc => ?_) (fun hc => ?_)
  · have hc := of_decide_eq_true hc
    refine AW.seq_k fun K6 h6 => ?_
    all_goals refine AW.reg0 ?_
    all_goals (refine S.g rfl rfl fun K' k' => ?_; simp only [zz, reduceIte, Nat.reduceEqDiff, Nat.reduceAdd]; refine k' _ _ ?_; clear k' K')
    all_goals refine S.nil ?_
    all_goals simp only [ze, reduceIte, Nat.reduceEqDiff, Nat.reduceLT, Nat.reduceLeDiff, Nat.reduceAdd, reduceCtorEq, Nat.reduceMul]
    all_goals apply_assumption
    refine AW.ret ?_
    all_goals simp only [zs, reduceIte, Nat.reduceEqDiff, Nat.reduceLT, Nat.reduceLeDiff, Nat.reduceAdd, reduceCtorEq, Nat.reduceMul]
    rw [endP, if_pos (by rw [hlen]; exact hc)]
  have hc := of_decide_eq_false hc
  refine AW.skip ?_
  all_goals simp only [zs, reduceIte, Nat.reduceEqDiff, Nat.reduceLT, Nat.reduceLeDiff, Nat.reduceAdd, reduceCtorEq, Nat.reduceMul]
  all_goals apply_assumption
  refine AW.seq_k fun K7 h7 => ?_
  refine AW.seq_k fun K8 h8 => ?_
  all_goals refine AW.reg0 ?_
  all_goals iterate 5 (refine S.g rfl rfl fun K' k' => ?_; simp only [zz, reduceIte, Nat.reduceEqDiff, Nat.reduceLT, Nat.reduceLeDiff, Nat.reduceAdd, reduceCtorEq, Nat.reduceMul, of129_2, ok3, sz3, ag3, ho', map3, List.getD_cons_succ, List.getD_cons_zero]; refine k' _ _ ?_; clear k' K')
  all_goals refine S.nil ?_
  all_goals simp only [ze, reduceIte, Nat.reduceEqDiff, Nat.reduceLT, Nat.reduceLeDiff, Nat.reduceAdd, reduceCtorEq, Nat.reduceMul, ho', map3, List.getD_cons_succ, List.getD_cons_zero]
  all_goals apply_assumption
  refine AW.block ?_   -- 0
  refine AW.loop (fun m s σ2 => ∃ i, m = 8 * b.length - i ∧ q ≤ i ∧ i ≤ 8 * b.length ∧ σ2 = σ1 ∧ s.t 0 = ptrV g ∧ s.t 3 = .c (.int .i64 (i : Nat)) ∧ (true ∈ (unB b).drop q ↔ true ∈ (unB b).drop i)) (8 * b.length - q) ?_ ?_
  · refine ⟨q, rfl, Nat.le_refl _, hq, rfl, ?_⟩
    all_goals simp only [zs, reduceIte, Nat.reduceEqDiff, Nat.reduceLT, Nat.reduceLeDiff, Nat.reduceAdd, reduceCtorEq, Nat.reduceMul]
    simp [ptrV]
  rintro m s σ2 ⟨i, hm, hi, hi2, rfl, e0, e3, hmem⟩
  unfold ptrV at e0
  refine AW.seq_k fun K9 h9 => ?_
  refine AW.seq_k fun K10 h10 => ?_
  all_goals refine AW.reg0 ?_
  all_goals iterate 8 (refine S.g rfl rfl fun K' k' => ?_; simp only [zz, reduceIte, Nat.reduceEqDiff, Nat.reduceLT, Nat.reduceLeDiff, Nat.reduceAdd, reduceCtorEq, Nat.reduceMul, of129_1, ok48, sz48, ag48, sl48, el48, ok5, sz5, ag5, e0, e3, ho', map3, hw8, List.getD_cons_succ, List.getD_cons_zero]; refine k' _ _ ?_; clear k' K')
  all_goals refine S.nil ?_
  all_goals simp only [ze, reduceIte, Nat.reduceEqDiff, Nat.reduceLT, Nat.reduceLeDiff, Nat.reduceAdd, reduceCtorEq, Nat.reduceMul, e0, e3, ho', map3, hw8, List.getD_cons_succ, List.getD_cons_zero]
  all_goals apply_assumption
  refine AW.cond (b := decide (i < 8 * b.length)) (by simp [ev]; try omega) (fun hd => ?_) (fun hd => ?_)
  · have hd := of_decide_eq_true hd
    refine AW.skip ?_
    all_goals simp only [zs, reduceIte, Nat.reduceEqDiff, Nat.reduceLT, Nat.reduceLeDiff, Nat.reduceAdd, reduceCtorEq, Nat.reduceMul]
    all_goals apply_assumption
    obtain ⟨x, hx⟩ : ∃ x, b[i / 8]? = some x := ⟨_, List.getElem?_eq_getElem (by omega)⟩
    have hx256 := hb256 x (List.mem_of_getElem? hx)
    have hget := unB_get b i x hx
    have hy2 : x / 2 ^ (7 - i % 8) % 2 < 2 := Nat.mod_lt _ (by omega)
    have hlt : i < (unB b).length := by rw [unB_len]; exact hd
    have hcons : (unB b).drop i = (x / 2 ^ (7 - i % 8) % 2 == 1) :: (unB b).drop (i + 1) := by
      rw [List.drop_eq_getElem_cons hlt]
      rw [List.getElem?_eq_getElem hlt] at hget
      injection hget with hget
      rw [hget]
    have hwi : IntKind.i64.wrap ((i : Int) + 1) = ((i + 1 : Nat) : Int) := by rw [wrap_small _ (by omega) (by omega)]; rfl
    have he1 : (((x / 2 ^ (7 - i % 8) % 2 : Nat) : Int) == 1) = (x / 2 ^ (7 - i % 8) % 2 == 1) := by generalize x / 2 ^ (7 - i % 8) % 2 = y; rw [Bool.eq_iff_iff]; simp; try omega
    refine AW.seq_k fun K11 h11 => ?_
    refine AW.block ?_   -- 1
    refine AW.seq_k fun K12 h12 => ?_
    all_goals refine AW.reg0 ?_
    all_goals iterate 2 (refine S.g rfl rfl fun K' k' => ?_; simp only [zz, reduceIte, Nat.reduceEqDiff, Nat.reduceAdd, e0, e3, he1]; refine k' _ _ ?_; clear k' K')
    all_goals (refine S.g rfl rfl fun K' k' => ?_; simp only [zz, reduceIte, Nat.reduceEqDiff, Nat.reduceLT, Nat.reduceLeDiff, Nat.reduceAdd, reduceCtorEq, Nat.reduceMul, e0, e3, he1]; refine (bit_spec g b q i _ ho x hx hx256 (by omega)).to fun v σ2 hv => ?_; obtain ⟨rfl, hσ2⟩ := hv; subst hσ2 <;> (refine k' _ _ ?_; clear k' K'))
    all_goals (refine S.g rfl rfl fun K' k' => ?_; simp only [zz, reduceIte, Nat.reduceEqDiff, Nat.reduceAdd, e0, e3, he1]; refine k' _ _ ?_; clear k' K')
    all_goals refine S.nil ?_
    all_goals simp only [ze, reduceIte, Nat.reduceEqDiff, Nat.reduceLT, Nat.reduceLeDiff, Nat.reduceAdd, reduceCtorEq, Nat.reduceMul, e0, e3, he1]
    all_goals apply_assumption
    refine AW.cond (b := (x / 2 ^ (7 - i % 8) % 2 == 1)) (by simp [ev]) (fun hf => ?_) (fun hf => ?_)
    · refine AW.seq_k fun K13 h13 => ?_
      all_goals refine AW.reg0 ?_
      all_goals (refine S.g rfl rfl fun K' k' => ?_; simp only [zz, reduceIte, Nat.reduceEqDiff, Nat.reduceAdd]; refine k' _ _ ?_; clear k' K')
      all_goals refine S.nil ?_
      all_goals simp only [ze, reduceIte, Nat.reduceEqDiff, Nat.reduceLT, Nat.reduceLeDiff, Nat.reduceAdd, reduceCtorEq, Nat.reduceMul]
      all_goals apply_assumption
      refine AW.ret ?_
      all_goals simp only [zs, reduceIte, Nat.reduceEqDiff, Nat.reduceLT, Nat.reduceLeDiff, Nat.reduceAdd, reduceCtorEq, Nat.reduceMul]
      have : true ∈ (unB b).drop q := by rw [hmem, hcons, hf]; exact List.mem_cons_self
      rw [endP, if_neg (by rw [hlen]; exact hc), if_pos this]
    · refine AW.skip ?_
      all_goals simp only [zs, reduceIte, Nat.reduceEqDiff, Nat.reduceLT, Nat.reduceLeDiff, Nat.reduceAdd, reduceCtorEq, Nat.reduceMul]
      all_goals apply_assumption
      all_goals refine AW.reg0 ?_
      all_goals iterate 3 (refine S.g rfl rfl fun K' k' => ?_; simp only [zz, reduceIte, Nat.reduceEqDiff, Nat.reduceAdd, e0, e3, hwi]; refine k' _ _ ?_; clear k' K')
      all_goals refine S.nil ?_
      all_goals simp only [ze, reduceIte, Nat.reduceEqDiff, Nat.reduceLT, Nat.reduceLeDiff, Nat.reduceAdd, reduceCtorEq, Nat.reduceMul, e0, e3, hwi]
      refine ⟨8 * b.length - (i + 1), by omega, i + 1, rfl, by omega, by omega, rfl, rfl, ?_⟩
      rw [hmem, hcons, hf]; simp
  · have hd := of_decide_eq_false hd
    refine AW.exit ?_
    all_goals simp only [zs, reduceIte, Nat.reduceEqDiff, Nat.reduceLT, Nat.reduceLeDiff, Nat.reduceAdd, reduceCtorEq, Nat.reduceMul]
    all_goals apply_assumption
    refine AW.seq_k fun K14 h14 => ?_
    all_goals refine AW.reg0 ?_
    all_goals (refine S.g rfl rfl fun K' k' => ?_; simp only [zz, reduceIte, Nat.reduceEqDiff, Nat.reduceAdd]; refine k' _ _ ?_; clear k' K')
    all_goals refine S.nil ?_
    all_goals simp only [ze, reduceIte, Nat.reduceEqDiff, Nat.reduceLT, Nat.reduceLeDiff, Nat.reduceAdd, reduceCtorEq, Nat.reduceMul]
    all_goals apply_assumption
    refine AW.ret ?_
    all_goals simp only [zs, reduceIte, Nat.reduceEqDiff, Nat.reduceLT, Nat.reduceLeDiff, Nat.reduceAdd, reduceCtorEq, Nat.reduceMul]
    have : ¬ true ∈ (unB b).drop q := by rw [hmem, List.drop_eq_nil_of_le (by rw [unB_len]; omega)]; simp
    rw [endP, if_neg (by rw [hlen]; exact hc), if_neg this]
end Go.Abs.M
namespace Go.Abs.M
open Go Go.Abs Go.Proofs
set_option maxRecDepth 20000
set_option linter.unusedSimpArgs false
set_option linter.unusedVariables false
theorem clone_sl (l : List Nat) (hm : l.length < 140737488355329) : PCalls Try.prog 93 [.sl (l.map encB)] (fun v => v = .sl (l.map encB)) := by
  refine PCalls.intro Try.call93 Try.func93 rfl Try.ntmps93 Try.results93 (by simp) ?_
  refine AW.seq_k fun K1 h1 => ?_
  all_goals refine AW.reg0 ?_
  all_goals (refine S.g rfl rfl fun K' k' => ?_; simp only [zz, reduceIte, Nat.reduceEqDiff, Nat.reduceAdd]; refine k' _ _ ?_; clear k' K')
  all_goals refine S.nil ?_
  all_goals simp only [ze, reduceIte, Nat.reduceEqDiff, Nat.reduceLT, Nat.reduceLeDiff, Nat.reduceAdd, reduceCtorEq, Nat.reduceMul]
  all_goals apply_assumption
  refine AW.seq_j (fun s' σ' => σ' = Hp.empty ∧ s'.t 0 = .sl (l.map encB)) ?_ ?_
  · refine AW.seq_j (fun s' σ' => σ' = Hp.empty ∧ s'.t 0 = .sl (l.map encB) ∧ ∃ b, s'.t 4 = .c (.bool b) ∧ (b = true → l = [])) ?_ ?_
    · skip
      all_goals refine AW.reg0 ?_
      all_goals (refine S.g rfl rfl fun K' k' => ?_; simp only [zz, reduceIte, Nat.reduceEqDiff, Nat.reduceAdd]; refine k' _ _ ?_; clear k' K')
      all_goals (refine S.g rfl rfl fun K' k' => ?_; simp only [zz, reduceIte, Nat.reduceEqDiff, Nat.reduceLT, Nat.reduceLeDiff, Nat.reduceAdd, reduceCtorEq, Nat.reduceMul, sl48]; refine ⟨fun _ => ?_, fun hz b => ?_⟩ <;> (refine k' _ _ ?_; clear k' K'))
      all_goals refine S.nil ?_
      all_goals simp only [ze, reduceIte, Nat.reduceEqDiff, Nat.reduceLT, Nat.reduceLeDiff, Nat.reduceAdd, reduceCtorEq, Nat.reduceMul]
      · exact ⟨_, rfl, fun h => by cases h⟩
      · exact ⟨_, rfl, fun _ => by simpa using hz⟩
    rintro s σ ⟨rfl, e0, b, e4, hb⟩
    refine AW.cond (b := b) e4 (fun hc => ?_) (fun hc => AW.skip ?_)
    · refine AW.seq_k fun K2 h2 => ?_
      all_goals refine AW.reg0 ?_
      all_goals (refine S.g rfl rfl fun K' k' => ?_; simp only [zz, reduceIte, Nat.reduceEqDiff, Nat.reduceAdd]; refine k' _ _ ?_; clear k' K')
      all_goals refine S.nil ?_
      all_goals simp only [ze, reduceIte, Nat.reduceEqDiff, Nat.reduceLT, Nat.reduceLeDiff, Nat.reduceAdd, reduceCtorEq, Nat.reduceMul]
      all_goals apply_assumption
      refine AW.ret ?_
      all_goals simp only [zs, reduceIte, Nat.reduceEqDiff, Nat.reduceLT, Nat.reduceLeDiff, Nat.reduceAdd, reduceCtorEq, Nat.reduceMul]
      rw [hb hc]; rfl
    · all_goals simp only [zs, reduceIte, Nat.reduceEqDiff, Nat.reduceLT, Nat.reduceLeDiff, Nat.reduceAdd, reduceCtorEq, Nat.reduceMul]
      exact e0
  rintro s σ ⟨rfl, e0⟩
  refine AW.seq_k fun K3 h3 => ?_
  all_goals refine AW.region (T := { own := fun d => d == 5 }) (fun _ _ h => by cases h) rfl ?_
  all_goals (refine S.g rfl rfl fun K' k' => ?_; simp only [zb, reduceIte, Nat.reduceEqDiff, Nat.reduceLT, Nat.reduceLeDiff, Nat.reduceAdd, reduceCtorEq, Nat.reduceMul, sl48, el48, ok5, sz5, ag5, zt5, by5, e0]; intro k0 hk0 <;> (refine k' _ _ ?_; clear k' K'))
  all_goals (refine S.g rfl rfl fun K' k' => ?_; simp only [zz, reduceIte, Nat.reduceEqDiff, Nat.reduceAdd, e0]; refine k' _ _ ?_; clear k' K')
  all_goals (refine S.g rfl rfl fun K' k' => ?_; simp only [zz, reduceIte, Nat.reduceEqDiff, Nat.reduceLT, Nat.reduceLeDiff, Nat.reduceAdd, reduceCtorEq, Nat.reduceMul, sl48, el48, ok5, sz5, ag5, zt5, by5, e0]; refine ⟨fun e he => by obtain ⟨x, _, rfl⟩ := List.mem_map.1 he; rfl, by unfold maxLen; omega, by unfold reach; omega, fun k2 hk2 => ?_⟩ <;> (refine k' _ _ ?_; clear k' K'))
  all_goals (refine S.g rfl rfl fun K' k' => ?_; simp only [zz, reduceIte, Nat.reduceEqDiff, Nat.reduceAdd, e0]; refine k' _ _ ?_; clear k' K')
  all_goals refine S.nil ?_
  all_goals simp only [ze, reduceIte, Nat.reduceEqDiff, Nat.reduceLT, Nat.reduceLeDiff, Nat.reduceAdd, reduceCtorEq, Nat.reduceMul, e0]
  all_goals apply_assumption
  refine AW.freeze (k := k2) (T := (5, 1)) (es := l.map encB) (by simp only [Hp.setGr_gr, if_true]) (AW.bare (AW.ret ?_))
  all_goals simp only [zs, reduceIte, Nat.reduceEqDiff, Nat.reduceLT, Nat.reduceLeDiff, Nat.reduceAdd, reduceCtorEq, Nat.reduceMul, fzV, fz1, St.fz_t, St.fz_l]
theorem NewSource_spec (b : List Nat) (hb : b.length < 140737488355329) (σ : Hp) : ACalls Try.prog 56 [.sl (b.map encB)] σ (fun v σ' => ∃ g, v = ptrV g ∧ σ.obj g = none ∧ σ' = σ.setObj g (some (srcC b 0))) := by
  refine ACalls.intro Try.call56 Try.func56 rfl Try.ntmps56 Try.results56 (by simp) ?_
  refine AW.seq_k fun K1 h1 => ?_
  all_goals refine AW.reg0 ?_
  all_goals (refine S.g rfl rfl fun K' k' => ?_; simp only [zz, reduceIte, Nat.reduceEqDiff, Nat.reduceAdd]; refine k' _ _ ?_; clear k' K')
  all_goals refine S.nil ?_
  all_goals simp only [ze, reduceIte, Nat.reduceEqDiff, Nat.reduceLT, Nat.reduceLeDiff, Nat.reduceAdd, reduceCtorEq, Nat.reduceMul]
  all_goals apply_assumption
  refine AW.seq_k fun K2 h2 => ?_
  all_goals refine AW.region (T := { hp := fun d => d == 6 }) (fun _ _ h => by cases h) rfl ?_
  all_goals (refine S.g rfl rfl fun K' k' => ?_; simp only [zz, reduceIte, Nat.reduceEqDiff, Nat.reduceAdd]; refine k' _ _ ?_; clear k' K')
  all_goals (refine S.g rfl rfl fun K' k' => ?_; simp only [zz, reduceIte, Nat.reduceEqDiff, Nat.reduceLT, Nat.reduceLeDiff, Nat.reduceAdd, reduceCtorEq, Nat.reduceMul]; refine PCalls.eqto (clone_sl b hb) ?_ <;> (refine k' _ _ ?_; clear k' K'))
  all_goals (refine S.g rfl rfl fun K' k' => ?_; simp only [zz, reduceIte, Nat.reduceEqDiff, Nat.reduceLT, Nat.reduceLeDiff, Nat.reduceAdd, reduceCtorEq, Nat.reduceMul, zt129, pl129]; refine k' _ _ ?_; clear k' K')
  all_goals (refine S.g rfl rfl fun K' k' => ?_; simp only [zz, reduceIte, Nat.reduceEqDiff, Nat.reduceLT, Nat.reduceLeDiff, Nat.reduceAdd, reduceCtorEq, Nat.reduceMul, ok129, sz129, ag129]; intro g hg <;> (refine k' _ _ ?_; clear k' K'))
  all_goals (refine S.g rfl rfl fun K' k' => ?_; simp only [zz, reduceIte, Nat.reduceEqDiff, Nat.reduceAdd]; refine k' _ _ ?_; clear k' K')
  all_goals refine S.nil ?_
  all_goals simp only [ze, reduceIte, Nat.reduceEqDiff, Nat.reduceLT, Nat.reduceLeDiff, Nat.reduceAdd, reduceCtorEq, Nat.reduceMul]
  all_goals apply_assumption
  refine AW.ret ?_
  all_goals simp only [zs, reduceIte, Nat.reduceEqDiff, Nat.reduceLT, Nat.reduceLeDiff, Nat.reduceAdd, reduceCtorEq, Nat.reduceMul]
  exact ⟨g, rfl, hg, rfl⟩
end Go.Abs.M
namespace Go.Abs
open Go
section
variable {P : Program} {B : Base} {n : Nat} {cx : Cx} {s : St} {σ : Hp} {a : Act} {w : World} {Q : Exit → St → Hp → Prop}
theorem SR.freezeX (h : SR B n cx s σ a w) {k : Nat} {T : TypeId × Nat} {es : List (List V)} (hk : σ.gr k = some (T, es)) : ∃ cx', SR B n cx' (s.fz k es) (σ.setGr k none) a w ∧ cx.le cx' ∧ VR w cx' (.sl es) (cx.M k) := by
  obtain ⟨cx', hle, hL, hI, hH, hv⟩ := h.heap.freeze hk
  have own' : ∀ g, (σ.setGr k none).own cx' g → σ.own cx g := fun g hg => by
    rcases hg with ⟨c, hc⟩ | ⟨j, x, hj, hb⟩
    · exact .inl ⟨c, hc⟩
    · by_cases e : j = k
      · simp [Hp.setGr, e] at hj
      · simp only [Hp.setGr, e, if_false] at hj
        exact .inr ⟨j, x, hj, by rw [← hle.M j (h.heap.gr j x.1 x.2 hj).1]; exact hb⟩
  have h1 : SR B n cx' s (σ.setGr k none) a w := h.heapstep hle hL (fun g hg => (hI g hg).imp id (fun e => .inl (.inr ⟨k, _, hk, e⟩))) (fun g hg => .inl (own' g hg)) rfl rfl rfl (Nat.le_refl _) (fun _ _ _ => rfl) hH
    (fun j x hj => by
      by_cases e : j = k
      · simp [Hp.setGr, e] at hj
      · simp only [Hp.setGr, e, if_false] at hj; exact .inl ⟨x, hj⟩) (fun g x hx => .inl ⟨x, hx⟩)
  refine ⟨cx', ⟨h1.size, h1.defers, fun t => ?_, h1.heap, ⟨fun d cells hd => ?_, fun d cells hd => ?_, fun d e c c' hd he => ?_⟩, ?_, h1.gnew, h1.onew, h1.stab, h1.stN, fun d c hd => ?_⟩, hle, hv⟩
  · have ht := h.tmp t
    show TR w cx' (fzV k es (s.t t)) _
    generalize s.t t = v at ht
    generalize a.tmps.getD t undef = x at ht
    cases ht with
    | v hv' => exact .v (fzV_VR hle hv hv')
    | lp d off => rw [← hL]; exact .lp d off
    | junk => exact .junk _
  · simp only [St.fz_l, Option.map_eq_some_iff] at hd
    obtain ⟨c, hc, rfl⟩ := hd
    obtain ⟨T', cs, h2, h3⟩ := h.box.box d c hc
    rw [hL]
    exact ⟨T', cs, h2, fzs_VRs hle hv h3⟩
  · simp only [St.fz_l, Option.map_eq_some_iff] at hd
    obtain ⟨c, hc, rfl⟩ := hd
    exact h1.box.apart d c hc
  · simp only [St.fz_l, Option.map_eq_some_iff] at hd he
    obtain ⟨c, hc, rfl⟩ := hd
    obtain ⟨c', hc', rfl⟩ := he
    exact h1.box.inj d e c c' hc hc'
  · have e : foot cx' (σ.setGr k none) (s.fz k es).l = foot cx' (σ.setGr k none) s.l := by
      funext g
      refine propext (or_congr Iff.rfl ⟨fun ⟨d, c, hd, e⟩ => ?_, fun ⟨d, c, hd, e⟩ => ⟨d, c.map (fz1 k es), by simp [hd], e⟩⟩)
      simp only [St.fz_l, Option.map_eq_some_iff] at hd
      obtain ⟨c, hc, rfl⟩ := hd
      exact ⟨d, c, hc, e⟩
    rw [e]; exact h1.ext
  · simp only [St.fz_l, Option.map_eq_some_iff] at hd
    obtain ⟨c, hc, rfl⟩ := hd
    exact h1.stS d c hc
/-- A growing list that an object holds, frozen there too. -/
theorem SR.freezeO (h : SR B n cx s σ a w) {k g : Nat} {T : TypeId × Nat} {es : List (List V)} {cells : List V} (hk : σ.gr k = some (T, es)) (hg : σ.obj g = some cells) (hm : isMap cells = false) :
    ∃ cx', SR B n cx' (s.fz k es) ((σ.setGr k none).setObj g (some (cells.map (fz1 k es)))) a w := by
  obtain ⟨cx', h1, hle, hv⟩ := h.freezeX hk
  obtain ⟨o, ho, hor⟩ := h.heap.obj g cells hg
  obtain ⟨T', cs, rfl, hvs⟩ := hor.row hm
  have hg' : (σ.setGr k none).obj g = some cells := hg
  have hH := h1.heap.setObj_same (w' := w) hg' ho (OR.cells (fzs_VRs hle hv hvs)) (Nat.le_refl _) (fun _ _ _ => rfl)
  refine ⟨cx', h1.heapstep (.refl _) rfl (fun _ hg => .inl hg) (fun g' hg' => ?_) rfl rfl rfl (Nat.le_refl _) (fun _ _ _ => rfl) hH (fun j x hj => .inl ⟨x, hj⟩) (fun g' x hx => ?_)⟩
  · rcases own_setObj hg' with h2 | h2
    · exact .inl h2
    · rw [h2]; exact .inl (.inl ⟨_, hg⟩)
  · by_cases e : g' = g
    · rw [e]; exact .inl ⟨_, hg⟩
    · simp only [Hp.setObj, e, if_false] at hx; exact .inl ⟨x, hx⟩
theorem AW.freezeO {c : Code} {k g : Nat} {T : TypeId × Nat} {es : List (List V)} {cells : List V} (hk : σ.gr k = some (T, es)) (hg : σ.obj g = some cells) (hm : isMap cells = false)
    (h : AW P n c Q (s.fz k es) ((σ.setGr k none).setObj g (some (cells.map (fz1 k es))))) : AW P n c Q s σ :=
  fun B cx a w h1 h2 h3 => by
    obtain ⟨cx', h4⟩ := h3.freezeO hk hg hm
    exact h B cx' a w h1 h2 h4
/-- A nil slice that an object holds is an empty one. -/
theorem AW.nilO {c : Code} {g : Nat} {cells : List V} (hg : σ.obj g = some cells) (hm : isMap cells = false) (h : AW P n c Q s (σ.setObj g (some (cells.map wk1)))) : AW P n c Q s σ :=
  fun B cx a w h1 h2 h3 => by
    obtain ⟨o, ho, hor⟩ := h3.heap.obj g cells hg
    obtain ⟨T', cs, rfl, hvs⟩ := hor.row hm
    have hv2 : VRs w cx (cells.map wk1) cs := ⟨by simpa using hvs.1, hvs.2.1, fun i v x hi hx => by
      simp only [List.getElem?_map, Option.map_eq_some_iff] at hi
      obtain ⟨u, hu, rfl⟩ := hi
      exact wk1_VR (hvs.2.2 i u x hu hx)⟩
    have hH := h3.heap.setObj_same (w' := w) hg ho (OR.cells hv2) (Nat.le_refl _) (fun _ _ _ => rfl)
    refine h B cx a w h1 h2 (h3.heapstep (.refl _) rfl (fun _ hg => .inl hg) (fun g' hg' => ?_) rfl rfl rfl (Nat.le_refl _) (fun _ _ _ => rfl) hH (fun j x hj => .inl ⟨x, hj⟩) (fun g' x hx => ?_))
    · rcases own_setObj hg' with h2 | h2
      · exact .inl h2
      · rw [h2]; exact .inl (.inl ⟨_, hg⟩)
    · by_cases e : g' = g
      · rw [e]; exact .inl ⟨_, hg⟩
      · simp only [Hp.setObj, e, if_false] at hx; exact .inl ⟨x, hx⟩
end
end Go.Abs
namespace Go.Abs.M
open Go Go.Abs Go.Proofs
set_option maxRecDepth 20000
set_option linter.unusedSimpArgs false
set_option linter.unusedVariables false
theorem unB_snoc (b : List Nat) (i x : Nat) (h : b[i]? = some x) : unB (b.take (i + 1)) = unB (b.take i) ++ lowB x 8 := by
  unfold unB; rw [List.take_add_one, h, List.flatMap_append]; simp
theorem setOG (σ : Hp) (g k : Nat) (x : Option (List V)) (y : Option ((TypeId × Nat) × List (List V))) : (σ.setGr k y).setObj g x = (σ.setObj g x).setGr k y := rfl
theorem New_spec (b : List Nat) (hb : b.length < 68719476736) (hb256 : ∀ x ∈ b, x < 256) (σ : Hp) : ACalls Try.prog 57 [.sl (b.map encB)] σ (fun v σ' => ∃ g, v = ptrV g ∧ σ.obj g = none ∧ σ' = σ.setObj g (some [.sl ((unB b).map encT)])) := by
  refine ACalls.intro Try.call57 Try.func57 rfl Try.ntmps57 Try.results57 (by simp) ?_
  refine AW.seq_k fun K1 h1 => ?_
  all_goals refine AW.reg0 ?_
  all_goals (refine S.g rfl rfl fun K' k' => ?_; simp only [zz, reduceIte, Nat.reduceEqDiff, Nat.reduceAdd]; refine k' _ _ ?_; clear k' K')
  all_goals refine S.nil ?_
  all_goals simp only [ze, reduceIte, Nat.reduceEqDiff, Nat.reduceLT, Nat.reduceLeDiff, Nat.reduceAdd, reduceCtorEq, Nat.reduceMul]
  all_goals apply_assumption
  refine AW.seq_k fun K2 h2 => ?_
  all_goals refine AW.region (T := { hp := fun d => d == 6 }) (fun _ _ h => by cases h) rfl ?_
  all_goals (refine S.g rfl rfl fun K' k' => ?_; simp only [zz, reduceIte, Nat.reduceEqDiff, Nat.reduceLT, Nat.reduceLeDiff, Nat.reduceAdd, reduceCtorEq, Nat.reduceMul, zt89, pl89]; refine k' _ _ ?_; clear k' K')
  all_goals (refine S.g rfl rfl fun K' k' => ?_; simp only [zz, reduceIte, Nat.reduceEqDiff, Nat.reduceLT, Nat.reduceLeDiff, Nat.reduceAdd, reduceCtorEq, Nat.reduceMul, ok89, sz89, ag89]; intro g hg <;> (refine k' _ _ ?_; clear k' K'))
  all_goals (refine S.g rfl rfl fun K' k' => ?_; simp only [zz, reduceIte, Nat.reduceEqDiff, Nat.reduceAdd]; refine k' _ _ ?_; clear k' K')
  all_goals refine S.nil ?_
  all_goals simp only [ze, reduceIte, Nat.reduceEqDiff, Nat.reduceLT, Nat.reduceLeDiff, Nat.reduceAdd, reduceCtorEq, Nat.reduceMul]
  all_goals apply_assumption
  refine AW.seq_k fun K3 h3 => ?_
  refine AW.seq_k fun K4 h4 => ?_
  all_goals refine AW.reg0 ?_
  all_goals (refine S.g rfl rfl fun K' k' => ?_; simp only [zz, reduceIte, Nat.reduceEqDiff, Nat.reduceAdd]; refine k' _ _ ?_; clear k' K')
  all_goals refine S.nil ?_
  all_goals simp only [ze, reduceIte, Nat.reduceEqDiff, Nat.reduceLT, Nat.reduceLeDiff, Nat.reduceAdd, reduceCtorEq, Nat.reduceMul]
  all_goals apply_assumption
  refine AW.block ?_   -- 0
  refine AW.loop (fun m s σ' => ∃ i, m = b.length - i ∧ i ≤ b.length ∧ s.t 0 = .sl (b.map encB) ∧ s.t 3 = ptrV g ∧ s.t 4 = .c (.int .i64 (i : Nat)) ∧
    ((i = 0 ∧ σ' = σ.setObj g (some [.c (.slice none 0 0)])) ∨ (0 < i ∧ ∃ k, σ.gr k = none ∧ σ' = (σ.setObj g (some [.gl k])).setGr k (some ((4, 1), (unB (b.take i)).map encT))))) b.length ?_ ?_
  · refine ⟨0, rfl, Nat.zero_le _, ?_⟩
    all_goals simp only [zs, reduceIte, Nat.reduceEqDiff, Nat.reduceLT, Nat.reduceLeDiff, Nat.reduceAdd, reduceCtorEq, Nat.reduceMul]
    exact ⟨rfl, rfl, .inl trivial⟩
  rintro m s σ' ⟨i, hm, hi, e0, e3, e4, hst⟩
  unfold ptrV at e3
  refine AW.seq_k fun K5 h5 => ?_
  refine AW.seq_k fun K6 h6 => ?_
  all_goals refine AW.reg0 ?_
  all_goals iterate 4 (refine S.g rfl rfl fun K' k' => ?_; simp only [zz, reduceIte, Nat.reduceEqDiff, Nat.reduceLT, Nat.reduceLeDiff, Nat.reduceAdd, reduceCtorEq, Nat.reduceMul, sl48, el48, ok5, sz5, ag5, e0, e4]; refine k' _ _ ?_; clear k' K')
  all_goals refine S.nil ?_
  all_goals simp only [ze, reduceIte, Nat.reduceEqDiff, Nat.reduceLT, Nat.reduceLeDiff, Nat.reduceAdd, reduceCtorEq, Nat.reduceMul, e0, e4]
  all_goals apply_assumption
  refine AW.cond (b := decide (i < b.length)) (by simp [ev]) (fun hc => ?_) (fun hc => ?_)
  · have hin := of_decide_eq_true hc
    refine AW.skip ?_
    all_goals simp only [zs, reduceIte, Nat.reduceEqDiff, Nat.reduceLT, Nat.reduceLeDiff, Nat.reduceAdd, reduceCtorEq, Nat.reduceMul]
    all_goals apply_assumption
    obtain ⟨x, hx⟩ : ∃ x, b[i]? = some x := ⟨_, List.getElem?_eq_getElem hin⟩
    have hxe := encB_at hx
    have hx256 := hb256 x (List.mem_of_getElem? hx)
    have hwx : IntKind.u64.wrap (x : Int) = (x : Int) := wrap_u64 (by omega)
    have hwi : IntKind.i64.wrap ((i : Int) + 1) = ((i + 1 : Nat) : Int) := by rw [wrap_small _ (by omega) (by omega)]; rfl
    have hsn := unB_snoc b i x hx
    rcases hst with ⟨rfl, hσ⟩ | ⟨hi0, k, hk, hσ⟩
    · have hob : σ'.obj g = some [.c (.slice none 0 0)] := by rw [hσ]; simp
      refine AW.seq_k fun K7 h7 => ?_
      refine AW.block ?_   -- 1
      all_goals refine AW.drawF (T := { sd := fun _ => false }) (fun _ _ h => by cases h) mixedO (.st 0 0 (.st 1 0 (.st 2 0 (.st 3 0 (.st 5 0 (.st 6 0 (.st 7 0 (.st 8 1 (.st 9 0 (.fork 4 (.st 10 2 (.st 11 2 (.st 12 0 (.st 13 0 (.st 14 2 .nil))))) 10 (.st 4 2 (.st 11 2 (.st 12 0 (.st 13 0 (.st 14 2 .nil))))))))))))))) rfl (by kernel_rfl) (by kernel_rfl) ?_
      all_goals iterate 7 (refine F.g rfl trivial rfl rfl fun K' k' => ?_; simp only [zz, reduceIte, Nat.reduceEqDiff, Nat.reduceLT, Nat.reduceLeDiff, Nat.reduceAdd, reduceCtorEq, Nat.reduceMul, of89_0, sl48, el48, ok5, sz5, ag5, e0, e3, e4, hob, map1, hin, hxe, hwx, encB, List.length_singleton, List.getD_cons_zero]; refine k' _ _ ?_; clear k' K')
      all_goals (refine F.g rfl (by first | rfl | (simp only [stC, ze, reduceIte, Nat.reduceEqDiff, e0, e3, e4, hob, map1, hin, hxe, hwx, encB, List.length_singleton, List.getD_cons_zero]; done) | (simp only [stC, ze, reduceIte, Nat.reduceEqDiff, e0, e3, e4, hob, map1, hin, hxe, hwx, encB, List.length_singleton, List.getD_cons_zero]; rfl)) rfl rfl fun K' k' => ?_; simp only [zz, reduceIte, Nat.reduceEqDiff, Nat.reduceLT, Nat.reduceLeDiff, Nat.reduceAdd, reduceCtorEq, Nat.reduceMul, ok5, sz5, ag5, e0, e3, e4, hob, map1, hin, hxe, hwx, encB, List.length_singleton, List.getD_cons_zero]; refine k' _ _ ?_; clear k' K')
      all_goals (refine F.g rfl trivial rfl rfl fun K' k' => ?_; simp only [zz, reduceIte, Nat.reduceEqDiff, Nat.reduceAdd, cv5_54, e0, e3, e4, hob, map1, hin, hxe, hwx, encB, List.length_singleton, List.getD_cons_zero]; refine k' _ _ ?_; clear k' K')
      all_goals (try first | refine F.fork ?_ ?_ | refine F.fork3 ?_ ?_ ?_)
      all_goals first | (refine F.g rfl trivial rfl rfl fun K' k' => ?_; simp only [zz, reduceIte, Nat.reduceEqDiff, Nat.reduceLT, Nat.reduceLeDiff, Nat.reduceAdd, reduceCtorEq, Nat.reduceMul, e0, e3, e4, hob, map1, hin, hxe, hwx, encB, List.length_singleton, List.getD_cons_zero]; refine (Own.frz (Low_grow x 8 _ (by omega) (by omega))).to fun v σ1 hv => ?_; obtain ⟨rfl, hσ1⟩ := hv; subst hσ1 <;> (refine k' _ _ ?_; clear k' K')) | (refine F.g rfl trivial rfl rfl fun K' k' => ?_; simp only [zz, reduceIte, Nat.reduceEqDiff, Nat.reduceLT, Nat.reduceLeDiff, Nat.reduceAdd, reduceCtorEq, Nat.reduceMul, ok56, sz56, ag56, e0, e3, e4, hob, map1, hin, hxe, hwx, encB, List.length_singleton, List.getD_cons_zero]; refine k' _ _ ?_; clear k' K')
      all_goals first | (refine F.g rfl trivial rfl rfl fun K' k' => ?_; simp only [zz, reduceIte, Nat.reduceEqDiff, Nat.reduceLT, Nat.reduceLeDiff, Nat.reduceAdd, reduceCtorEq, Nat.reduceMul, e0, e3, e4, hob, map1, hin, hxe, hwx, encB, List.length_singleton, List.getD_cons_zero]; refine (Own.frz (Low_grow x 8 _ (by omega) (by omega))).to fun v σ1 hv => ?_; obtain ⟨rfl, hσ1⟩ := hv; subst hσ1 <;> (refine k' _ _ ?_; clear k' K')) | (refine F.g rfl trivial rfl rfl fun K' k' => ?_; simp only [zz, reduceIte, Nat.reduceEqDiff, Nat.reduceLT, Nat.reduceLeDiff, Nat.reduceAdd, reduceCtorEq, Nat.reduceMul, ok56, sz56, ag56, e0, e3, e4, hob, map1, hin, hxe, hwx, encB, List.length_singleton, List.getD_cons_zero]; refine k' _ _ ?_; clear k' K')
      all_goals (refine F.g rfl trivial rfl rfl fun K' k' => ?_; simp only [zz, reduceIte, Nat.reduceEqDiff, Nat.reduceLT, Nat.reduceLeDiff, Nat.reduceAdd, reduceCtorEq, Nat.reduceMul, sl56, el56, ok4, sz4, ag4, zt4, by4, e0, e3, e4, hob, map1, hin, hxe, hwx, encB, List.length_singleton, List.getD_cons_zero]; refine ⟨encT_len, by unfold maxLen; simp only [lowB_len, List.length_nil, List.length_map, unB_len, List.length_take]; omega, by unfold reach; simp only [lowB_len, List.length_nil, List.length_map, unB_len, List.length_take]; omega, fun k2 hk2 => ?_⟩ <;> (refine k' _ _ ?_; clear k' K'))
      all_goals iterate 3 (refine F.g rfl trivial rfl rfl fun K' k' => ?_; simp only [zz, reduceIte, Nat.reduceEqDiff, Nat.reduceLT, Nat.reduceLeDiff, Nat.reduceAdd, reduceCtorEq, Nat.reduceMul, of89_0, ok56, sz56, ag56, e0, e3, e4, hob, map1, hin, hxe, hwx, encB, List.length_singleton, List.getD_cons_zero]; refine k' _ _ ?_; clear k' K')
      all_goals refine F.nil ?_
      all_goals simp only [ze, reduceIte, Nat.reduceEqDiff, Nat.reduceLT, Nat.reduceLeDiff, Nat.reduceAdd, reduceCtorEq, Nat.reduceMul, e0, e3, e4, hob, map1, hin, hxe, hwx, encB, List.length_singleton, List.getD_cons_zero]
      all_goals apply_assumption
      all_goals refine AW.reg0 ?_
      all_goals iterate 3 (refine S.g rfl rfl fun K' k' => ?_; simp only [zz, reduceIte, Nat.reduceEqDiff, Nat.reduceAdd, e0, e3, e4, hwi]; refine k' _ _ ?_; clear k' K')
      all_goals refine S.nil ?_
      all_goals simp only [ze, reduceIte, Nat.reduceEqDiff, Nat.reduceLT, Nat.reduceLeDiff, Nat.reduceAdd, reduceCtorEq, Nat.reduceMul, e0, e3, e4, hwi]
      all_goals
        refine ⟨b.length - 1, by omega, 1, rfl, by omega, rfl, rfl, .inr ⟨by omega, k2, by rw [hσ] at hk2; simpa using hk2, ?_⟩⟩
        have h1 : unB (b.take 1) = lowB x 8 := by simpa [unB] using hsn
        rw [hσ, setOG, Hp.setObj_setObj, h1]
    · have hob : σ'.obj g = some [.gl k] := by rw [hσ]; simp
      have hgk : σ'.gr k = some ((4, 1), (unB (b.take i)).map encT) := by rw [hσ]; simp
      have hm1 : isMap [.gl k] = false := rfl
      refine AW.seq_k fun K8 h8 => ?_
      refine AW.block ?_   -- 1
      all_goals refine AW.drawF (T := { sd := fun _ => false }) (fun _ _ h => by cases h) mixedO (.st 0 0 (.st 1 0 (.st 2 0 (.st 3 0 (.st 5 0 (.st 6 0 (.st 7 0 (.st 8 1 (.st 9 0 (.fork 4 (.st 10 2 (.st 11 2 (.st 12 0 (.st 13 0 (.st 14 2 .nil))))) 10 (.st 4 2 (.st 11 2 (.st 12 0 (.st 13 0 (.st 14 2 .nil))))))))))))))) rfl (by kernel_rfl) (by kernel_rfl) ?_
      all_goals iterate 7 (refine F.g rfl trivial rfl rfl fun K' k' => ?_; simp only [zz, reduceIte, Nat.reduceEqDiff, Nat.reduceLT, Nat.reduceLeDiff, Nat.reduceAdd, reduceCtorEq, Nat.reduceMul, of89_0, sl48, el48, ok5, sz5, ag5, e0, e3, e4, hob, hgk, hm1, hin, hxe, hwx, encB, List.length_singleton, List.getD_cons_zero]; refine k' _ _ ?_; clear k' K')
      all_goals (refine F.g rfl (by first | rfl | (simp only [stC, ze, reduceIte, Nat.reduceEqDiff, e0, e3, e4, hob, hgk, hm1, hin, hxe, hwx, encB, List.length_singleton, List.getD_cons_zero]; done) | (simp only [stC, ze, reduceIte, Nat.reduceEqDiff, e0, e3, e4, hob, hgk, hm1, hin, hxe, hwx, encB, List.length_singleton, List.getD_cons_zero]; rfl)) rfl rfl fun K' k' => ?_; simp only [zz, reduceIte, Nat.reduceEqDiff, Nat.reduceLT, Nat.reduceLeDiff, Nat.reduceAdd, reduceCtorEq, Nat.reduceMul, ok5, sz5, ag5, e0, e3, e4, hob, hgk, hm1, hin, hxe, hwx, encB, List.length_singleton, List.getD_cons_zero]; refine k' _ _ ?_; clear k' K')
      all_goals (refine F.g rfl trivial rfl rfl fun K' k' => ?_; simp only [zz, reduceIte, Nat.reduceEqDiff, Nat.reduceAdd, cv5_54, e0, e3, e4, hob, hgk, hm1, hin, hxe, hwx, encB, List.length_singleton, List.getD_cons_zero]; refine k' _ _ ?_; clear k' K')
      all_goals (try first | refine F.fork ?_ ?_ | refine F.fork3 ?_ ?_ ?_)
      all_goals first | (refine F.g rfl trivial rfl rfl fun K' k' => ?_; simp only [zz, reduceIte, Nat.reduceEqDiff, Nat.reduceLT, Nat.reduceLeDiff, Nat.reduceAdd, reduceCtorEq, Nat.reduceMul, e0, e3, e4, hob, hgk, hm1, hin, hxe, hwx, encB, List.length_singleton, List.getD_cons_zero]; refine (Own.frz (Low_grow x 8 _ (by omega) (by omega))).to fun v σ1 hv => ?_; obtain ⟨rfl, hσ1⟩ := hv; subst hσ1 <;> (refine k' _ _ ?_; clear k' K')) | (refine F.g rfl trivial rfl rfl fun K' k' => ?_; simp only [zz, reduceIte, Nat.reduceEqDiff, Nat.reduceLT, Nat.reduceLeDiff, Nat.reduceAdd, reduceCtorEq, Nat.reduceMul, ok56, sz56, ag56, e0, e3, e4, hob, hgk, hm1, hin, hxe, hwx, encB, List.length_singleton, List.getD_cons_zero]; refine k' _ _ ?_; clear k' K')
      all_goals first | (refine F.g rfl trivial rfl rfl fun K' k' => ?_; simp only [zz, reduceIte, Nat.reduceEqDiff, Nat.reduceLT, Nat.reduceLeDiff, Nat.reduceAdd, reduceCtorEq, Nat.reduceMul, e0, e3, e4, hob, hgk, hm1, hin, hxe, hwx, encB, List.length_singleton, List.getD_cons_zero]; refine (Own.frz (Low_grow x 8 _ (by omega) (by omega))).to fun v σ1 hv => ?_; obtain ⟨rfl, hσ1⟩ := hv; subst hσ1 <;> (refine k' _ _ ?_; clear k' K')) | (refine F.g rfl trivial rfl rfl fun K' k' => ?_; simp only [zz, reduceIte, Nat.reduceEqDiff, Nat.reduceLT, Nat.reduceLeDiff, Nat.reduceAdd, reduceCtorEq, Nat.reduceMul, ok56, sz56, ag56, e0, e3, e4, hob, hgk, hm1, hin, hxe, hwx, encB, List.length_singleton, List.getD_cons_zero]; refine k' _ _ ?_; clear k' K')
      all_goals (refine F.g rfl trivial rfl rfl fun K' k' => ?_; simp only [zz, reduceIte, Nat.reduceEqDiff, Nat.reduceLT, Nat.reduceLeDiff, Nat.reduceAdd, reduceCtorEq, Nat.reduceMul, sl56, el56, ok4, sz4, ag4, zt4, by4, e0, e3, e4, hob, hgk, hm1, hin, hxe, hwx, encB, List.length_singleton, List.getD_cons_zero]; refine ⟨encT_len, by unfold maxLen; simp only [lowB_len, List.length_nil, List.length_map, unB_len, List.length_take]; omega, by unfold reach; simp only [lowB_len, List.length_nil, List.length_map, unB_len, List.length_take]; omega, fun k2 hk2 => ?_⟩ <;> (refine k' _ _ ?_; clear k' K'))
      all_goals iterate 3 (refine F.g rfl trivial rfl rfl fun K' k' => ?_; simp only [zz, reduceIte, Nat.reduceEqDiff, Nat.reduceLT, Nat.reduceLeDiff, Nat.reduceAdd, reduceCtorEq, Nat.reduceMul, of89_0, ok56, sz56, ag56, e0, e3, e4, hob, hgk, hm1, hin, hxe, hwx, encB, List.length_singleton, List.getD_cons_zero]; refine k' _ _ ?_; clear k' K')
      all_goals refine F.nil ?_
      all_goals simp only [ze, reduceIte, Nat.reduceEqDiff, Nat.reduceLT, Nat.reduceLeDiff, Nat.reduceAdd, reduceCtorEq, Nat.reduceMul, e0, e3, e4, hob, hgk, hm1, hin, hxe, hwx, encB, List.length_singleton, List.getD_cons_zero]
      all_goals apply_assumption
      all_goals refine AW.reg0 ?_
      all_goals iterate 3 (refine S.g rfl rfl fun K' k' => ?_; simp only [zz, reduceIte, Nat.reduceEqDiff, Nat.reduceAdd, e0, e3, e4, hwi]; refine k' _ _ ?_; clear k' K')
      all_goals refine S.nil ?_
      all_goals simp only [ze, reduceIte, Nat.reduceEqDiff, Nat.reduceLT, Nat.reduceLeDiff, Nat.reduceAdd, reduceCtorEq, Nat.reduceMul, e0, e3, e4, hwi]
      all_goals
        have hk' : (σ.setObj g (some [.gl k])).gr k = none := by simpa using hk
        have hk3 : σ.gr k2 = none := by
          by_cases e : k2 = k
          · rw [e]; exact hk
          · rw [hσ] at hk2; simpa [e] using hk2
        refine ⟨b.length - (i + 1), by omega, i + 1, rfl, by omega, rfl, rfl, .inr ⟨by omega, k2, hk3, ?_⟩⟩
        rw [hσ, Hp.setGr_setGr, Hp.setGr_none hk', setOG, Hp.setObj_setObj, hsn, List.map_append]
  · refine AW.exit ?_
    all_goals simp only [zs, reduceIte, Nat.reduceEqDiff, Nat.reduceLT, Nat.reduceLeDiff, Nat.reduceAdd, reduceCtorEq, Nat.reduceMul]
    all_goals apply_assumption
    rcases hst with ⟨rfl, hσ⟩ | ⟨hi0, k, hk, hσ⟩
    · have hb0 : b = [] := List.eq_nil_of_length_eq_zero (by have := of_decide_eq_false hc; omega)
      refine AW.nilO (g := g) (cells := [.c (.slice none 0 0)]) (by rw [hσ]; simp) rfl ?_
      refine AW.seq_k fun K9 h9 => ?_
      all_goals refine AW.reg0 ?_
      all_goals iterate 2 (refine S.g rfl rfl fun K' k' => ?_; simp only [zz, reduceIte, Nat.reduceEqDiff, Nat.reduceAdd, e3]; refine k' _ _ ?_; clear k' K')
      all_goals refine S.nil ?_
      all_goals simp only [ze, reduceIte, Nat.reduceEqDiff, Nat.reduceLT, Nat.reduceLeDiff, Nat.reduceAdd, reduceCtorEq, Nat.reduceMul, e3]
      all_goals apply_assumption
      refine AW.ret ?_
      all_goals simp only [zs, reduceIte, Nat.reduceEqDiff, Nat.reduceLT, Nat.reduceLeDiff, Nat.reduceAdd, reduceCtorEq, Nat.reduceMul]
      refine ⟨g, rfl, hg, ?_⟩
      rw [hσ, Hp.setObj_setObj, hb0]; rfl
    · have hin := of_decide_eq_false hc
      have hi2 : i = b.length := by omega
      subst hi2
      have hk' : (σ.setObj g (some [.gl k])).gr k = none := by simpa using hk
      refine AW.freezeO (k := k) (g := g) (T := (4, 1)) (es := (unB (b.take b.length)).map encT) (cells := [.gl k]) (by rw [hσ]; simp) (by rw [hσ]; simp) rfl ?_
      refine AW.seq_k fun K10 h10 => ?_
      all_goals refine AW.reg0 ?_
      all_goals iterate 2 (refine S.g rfl rfl fun K' k' => ?_; simp only [zz, reduceIte, Nat.reduceEqDiff, Nat.reduceAdd, e3, fzV, fz1, St.fz_t, St.fz_l]; refine k' _ _ ?_; clear k' K')
      all_goals refine S.nil ?_
      all_goals simp only [ze, reduceIte, Nat.reduceEqDiff, Nat.reduceLT, Nat.reduceLeDiff, Nat.reduceAdd, reduceCtorEq, Nat.reduceMul, e3, fzV, fz1, St.fz_t, St.fz_l]
      all_goals apply_assumption
      refine AW.ret ?_
      all_goals simp only [zs, reduceIte, Nat.reduceEqDiff, Nat.reduceLT, Nat.reduceLeDiff, Nat.reduceAdd, reduceCtorEq, Nat.reduceMul]
      refine ⟨g, rfl, hg, ?_⟩
      rw [hσ, Hp.setGr_setGr, Hp.setGr_none hk', Hp.setObj_setObj, List.take_length]
end Go.Abs.M
namespace Go.Abs.M
open Go Go.Abs Go.Proofs
set_option maxRecDepth 20000
set_option linter.unusedSimpArgs false
set_option linter.unusedVariables false
theorem encT_at {l : List Bool} {i : Nat} {x : Bool} (h : l[i]? = some x) : (l.map encT).getD i [] = encT x := by simp [List.getD, h]
theorem value_spec (l : List Bool) (hl : l.length ≤ 64) : PCalls Try.prog 144 [.sl (l.map encT)] (fun v => v = .c (.int .u64 (valN l : Nat))) := by
  refine PCalls.intro Try.call144 Try.func144 rfl Try.ntmps144 Try.results144 (by simp) ?_
  refine AW.seq_k fun K1 h1 => ?_
  all_goals refine AW.reg0 ?_
  all_goals (refine S.g rfl rfl fun K' k' => ?_; simp only [zz, reduceIte, Nat.reduceEqDiff, Nat.reduceAdd]; refine k' _ _ ?_; clear k' K')
  all_goals refine S.nil ?_
  all_goals simp only [ze, reduceIte, Nat.reduceEqDiff, Nat.reduceLT, Nat.reduceLeDiff, Nat.reduceAdd, reduceCtorEq, Nat.reduceMul]
  all_goals apply_assumption
  refine AW.seq_k fun K2 h2 => ?_
  all_goals refine AW.reg0 ?_
  all_goals (refine S.g rfl rfl fun K' k' => ?_; simp only [zz, reduceIte, Nat.reduceEqDiff, Nat.reduceAdd]; refine k' _ _ ?_; clear k' K')
  all_goals refine S.nil ?_
  all_goals simp only [ze, reduceIte, Nat.reduceEqDiff, Nat.reduceLT, Nat.reduceLeDiff, Nat.reduceAdd, reduceCtorEq, Nat.reduceMul]
  all_goals apply_assumption
  refine AW.seq_k fun K3 h3 => ?_
  refine AW.seq_k fun K4 h4 => ?_
  all_goals refine AW.reg0 ?_
  all_goals (refine S.g rfl rfl fun K' k' => ?_; simp only [zz, reduceIte, Nat.reduceEqDiff, Nat.reduceAdd]; refine k' _ _ ?_; clear k' K')
  all_goals refine S.nil ?_
  all_goals simp only [ze, reduceIte, Nat.reduceEqDiff, Nat.reduceLT, Nat.reduceLeDiff, Nat.reduceAdd, reduceCtorEq, Nat.reduceMul]
  all_goals apply_assumption
  refine AW.block ?_   -- 0
  refine AW.loop (fun m s σ => σ = Hp.empty ∧ ∃ i, m = l.length - i ∧ i ≤ l.length ∧ s.t 0 = .sl (l.map encT) ∧ s.t 4 = .c (.int .i64 (i : Nat)) ∧ s.t 3 = .c (.int .u64 (valN (l.take i) : Nat))) l.length ?_ ?_
  · refine ⟨rfl, 0, rfl, Nat.zero_le _, ?_⟩
    all_goals simp only [zs, reduceIte, Nat.reduceEqDiff, Nat.reduceLT, Nat.reduceLeDiff, Nat.reduceAdd, reduceCtorEq, Nat.reduceMul]
    exact ⟨rfl, rfl⟩
  rintro m s σ ⟨rfl, i, hm, hi, e0, e4, e3⟩
  refine AW.seq_k fun K5 h5 => ?_
  refine AW.seq_k fun K6 h6 => ?_
  all_goals refine AW.reg0 ?_
  all_goals iterate 4 (refine S.g rfl rfl fun K' k' => ?_; simp only [zz, reduceIte, Nat.reduceEqDiff, Nat.reduceLT, Nat.reduceLeDiff, Nat.reduceAdd, reduceCtorEq, Nat.reduceMul, sl56, el56, ok4, sz4, ag4, e0, e4]; refine k' _ _ ?_; clear k' K')
  all_goals refine S.nil ?_
  all_goals simp only [ze, reduceIte, Nat.reduceEqDiff, Nat.reduceLT, Nat.reduceLeDiff, Nat.reduceAdd, reduceCtorEq, Nat.reduceMul, e0, e4]
  all_goals apply_assumption
  refine AW.cond (b := decide (i < l.length)) (by simp [ev]) (fun hc => ?_) (fun hc => ?_)
  · have hin := of_decide_eq_true hc
    refine AW.skip ?_
    all_goals simp only [zs, reduceIte, Nat.reduceEqDiff, Nat.reduceLT, Nat.reduceLeDiff, Nat.reduceAdd, reduceCtorEq, Nat.reduceMul]
    all_goals apply_assumption
    obtain ⟨x, hx⟩ : ∃ x, l[i]? = some x := ⟨_, List.getElem?_eq_getElem hin⟩
    have hxe := encT_at hx
    have hv := valN_lt (l.take i)
    have hv63 : valN (l.take i) < 9223372036854775808 := Nat.lt_of_lt_of_le hv (by rw [show 9223372036854775808 = 2 ^ 63 from rfl]; exact Nat.pow_le_pow_right (by omega) (by rw [List.length_take]; omega))
    have hsn : valN (l.take (i + 1)) = 2 * valN (l.take i) + x.toNat := by rw [List.take_add_one, hx]; exact valN_snoc _ _
    generalize valN (l.take i) = u at *
    have hw1 : IntKind.u64.wrap ((u : Int) * 2) = ((2 * u : Nat) : Int) := by rw [show (u : Int) * 2 = ((2 * u : Nat) : Int) by omega, wrap_u64 (by omega)]
    have hw2 : IntKind.u64.wrap (((2 * u : Nat) : Int) + 1) = ((2 * u + 1 : Nat) : Int) := by rw [show ((2 * u : Nat) : Int) + 1 = ((2 * u + 1 : Nat) : Int) by omega, wrap_u64 (by omega)]
    have hwi : IntKind.i64.wrap ((i : Int) + 1) = ((i + 1 : Nat) : Int) := by rw [wrap_small _ (by omega) (by omega)]; rfl
    refine AW.seq_k fun K7 h7 => ?_
    refine AW.block ?_   -- 1
    refine AW.seq_k fun K8 h8 => ?_
    all_goals refine AW.reg0 ?_
    all_goals iterate 3 (refine S.g rfl rfl fun K' k' => ?_; simp only [zz, reduceIte, Nat.reduceEqDiff, Nat.reduceAdd, e3, hw1]; refine k' _ _ ?_; clear k' K')
    all_goals refine S.nil ?_
    all_goals simp only [ze, reduceIte, Nat.reduceEqDiff, Nat.reduceLT, Nat.reduceLeDiff, Nat.reduceAdd, reduceCtorEq, Nat.reduceMul, e3, hw1]
    all_goals apply_assumption
    refine AW.seq_k fun K9 h9 => ?_
    all_goals refine AW.reg0 ?_
    all_goals iterate 4 (refine S.g rfl rfl fun K' k' => ?_; simp only [zz, reduceIte, Nat.reduceEqDiff, Nat.reduceLT, Nat.reduceLeDiff, Nat.reduceAdd, reduceCtorEq, Nat.reduceMul, sl56, el56, ok4, sz4, ag4, e0, e4, hin, hxe, encT, List.length_singleton, List.getD_cons_zero]; refine k' _ _ ?_; clear k' K')
    all_goals refine S.nil ?_
    all_goals simp only [ze, reduceIte, Nat.reduceEqDiff, Nat.reduceLT, Nat.reduceLeDiff, Nat.reduceAdd, reduceCtorEq, Nat.reduceMul, e0, e4, hin, hxe, encT, List.length_singleton, List.getD_cons_zero]
    all_goals apply_assumption
    refine AW.cond (b := x) (by simp [ev]) (fun hf => ?_) (fun hf => ?_)
    · subst hf
      all_goals refine AW.reg0 ?_
      all_goals iterate 3 (refine S.g rfl rfl fun K' k' => ?_; simp only [zz, reduceIte, Nat.reduceEqDiff, Nat.reduceAdd, hw2]; refine k' _ _ ?_; clear k' K')
      all_goals refine S.nil ?_
      all_goals simp only [ze, reduceIte, Nat.reduceEqDiff, Nat.reduceLT, Nat.reduceLeDiff, Nat.reduceAdd, reduceCtorEq, Nat.reduceMul, hw2]
      all_goals apply_assumption
      all_goals refine AW.reg0 ?_
      all_goals iterate 3 (refine S.g rfl rfl fun K' k' => ?_; simp only [zz, reduceIte, Nat.reduceEqDiff, Nat.reduceAdd, e0, e4, hwi]; refine k' _ _ ?_; clear k' K')
      all_goals refine S.nil ?_
      all_goals simp only [ze, reduceIte, Nat.reduceEqDiff, Nat.reduceLT, Nat.reduceLeDiff, Nat.reduceAdd, reduceCtorEq, Nat.reduceMul, e0, e4, hwi]
      exact ⟨l.length - (i + 1), by omega, i + 1, rfl, by omega, rfl, by rw [hsn]; rfl⟩
    · subst hf
      refine AW.skip ?_
      all_goals simp only [zs, reduceIte, Nat.reduceEqDiff, Nat.reduceLT, Nat.reduceLeDiff, Nat.reduceAdd, reduceCtorEq, Nat.reduceMul]
      all_goals apply_assumption
      all_goals refine AW.reg0 ?_
      all_goals iterate 3 (refine S.g rfl rfl fun K' k' => ?_; simp only [zz, reduceIte, Nat.reduceEqDiff, Nat.reduceAdd, e0, e4, hwi]; refine k' _ _ ?_; clear k' K')
      all_goals refine S.nil ?_
      all_goals simp only [ze, reduceIte, Nat.reduceEqDiff, Nat.reduceLT, Nat.reduceLeDiff, Nat.reduceAdd, reduceCtorEq, Nat.reduceMul, e0, e4, hwi]
      exact ⟨l.length - (i + 1), by omega, i + 1, rfl, by omega, rfl, by rw [hsn]; rfl⟩
  · have hin := of_decide_eq_false hc
    have hi2 : i = l.length := by omega
    subst hi2
    refine AW.exit ?_
    all_goals simp only [zs, reduceIte, Nat.reduceEqDiff, Nat.reduceLT, Nat.reduceLeDiff, Nat.reduceAdd, reduceCtorEq, Nat.reduceMul]
    all_goals apply_assumption
    refine AW.seq_k fun K10 h10 => ?_
    all_goals refine AW.reg0 ?_
    all_goals iterate 2 (refine S.g rfl rfl fun K' k' => ?_; simp only [zz, reduceIte, Nat.reduceEqDiff, Nat.reduceAdd, e3]; refine k' _ _ ?_; clear k' K')
    all_goals refine S.nil ?_
    all_goals simp only [ze, reduceIte, Nat.reduceEqDiff, Nat.reduceLT, Nat.reduceLeDiff, Nat.reduceAdd, reduceCtorEq, Nat.reduceMul, e3]
    all_goals apply_assumption
    refine AW.ret ?_
    all_goals simp only [zs, reduceIte, Nat.reduceEqDiff, Nat.reduceLT, Nat.reduceLeDiff, Nat.reduceAdd, reduceCtorEq, Nat.reduceMul]
    rw [List.take_length]
/-- The reference's source: the flags that are left. -/
def rsC (l : List Bool) : List V := [.sl (l.map encT)]
theorem map1s (es : List (List V)) : isMap [.sl es] = false := rfl
theorem drop_map {l : List Bool} {n : Nat} : (l.map encT).drop n = (l.drop n).map encT := by rw [List.map_drop]
theorem rest_map {l : List Bool} {n : Nat} : ((l.drop n).map encT).take (l.length - n) = (l.drop n).map encT := List.take_of_length_le (by simp)
theorem rBits_spec (g : Nat) (l : List Bool) (n : Nat) (σ : Hp) (ho : σ.obj g = some (rsC l)) (hl : l.length < 1099511627776) (hn : n ≤ 64) :
    ACalls Try.prog 125 [ptrV g, .c (.int .i64 n)] σ (fun v σ' => if n ≤ l.length then v = .tup [.c (.int .u64 (valN (l.take n) : Nat)), .c (.int .i64 0)] ∧ σ' = σ.setObj g (some (rsC (l.drop n)))
      else v = .tup [.c (.int .u64 0), .c (.int .i64 10)] ∧ σ' = σ) := by
  refine ACalls.intro Try.call125 Try.func125 rfl Try.ntmps125 Try.results125 (by simp) ?_
  have ho' : σ.obj g = some [.sl (l.map encT)] := ho
  have hl0 : decide ((n : Int) < 0) = false := by simp
  have hl1 : decide ((64 : Int) < n) = false := by simp; omega
  refine AW.seq_k fun K1 h1 => ?_
  all_goals refine AW.reg0 ?_
  all_goals iterate 2 (refine S.g rfl rfl fun K' k' => ?_; simp only [zz, reduceIte, Nat.reduceEqDiff, Nat.reduceAdd]; refine k' _ _ ?_; clear k' K')
  all_goals refine S.nil ?_
  all_goals simp only [ze, reduceIte, Nat.reduceEqDiff, Nat.reduceLT, Nat.reduceLeDiff, Nat.reduceAdd, reduceCtorEq, Nat.reduceMul]
  all_goals apply_assumption
  refine AW.seq_k fun K2 h2 => ?_
  refine AW.seq_k fun K3 h3 => ?_
  all_goals refine AW.reg0 ?_
  all_goals (refine S.g rfl rfl fun K' k' => ?_; simp only [zz, reduceIte, Nat.reduceEqDiff, Nat.reduceAdd, hl0, hl1, gt_iff_lt]; refine k' _ _ ?_; clear k' K')
  all_goals (refine S.g rfl rfl fun K' k' => ?_; simp only [zz, reduceIte, Nat.reduceEqDiff, Nat.reduceLT, Nat.reduceLeDiff, Nat.reduceAdd, reduceCtorEq, Nat.reduceMul, hl0, hl1, gt_iff_lt]; refine S.bool fun b a8 => ?_; cases b <;> (try (exfalso; first | exact Bool.noConfusion a8 | (have h := of_decide_eq_true a8; omega) | (have h := of_decide_eq_false a8; omega))) <;> (refine k' _ _ ?_; clear k' K'))
  all_goals (refine S.g rfl rfl fun K' k' => ?_; simp only [zz, reduceIte, Nat.reduceEqDiff, Nat.reduceAdd, hl0, hl1, gt_iff_lt]; refine k' _ _ ?_; clear k' K')
  all_goals iterate 2 (first | (refine S.y rfl rfl rfl rfl fun K' k' => ?_; simp only [zz, reduceIte, Nat.reduceEqDiff, Nat.reduceAdd, hl0, hl1, gt_iff_lt]; refine k' _ _ ?_; clear k' K') | ((first | refine S.x rfl rfl rfl rfl fun K' k' => ?_ | refine S.u rfl rfl rfl rfl fun K' k' => ?_); simp only [ze, reduceIte, Nat.reduceEqDiff]; refine k' _ _ ?_; clear k' K'))
  all_goals (refine S.g rfl rfl fun K' k' => ?_; simp only [zz, reduceIte, Nat.reduceEqDiff, Nat.reduceAdd, hl0, hl1, gt_iff_lt]; refine k' _ _ ?_; clear k' K')
  all_goals refine S.nil ?_
  all_goals simp only [ze, reduceIte, Nat.reduceEqDiff, Nat.reduceLT, Nat.reduceLeDiff, Nat.reduceAdd, reduceCtorEq, Nat.reduceMul, hl0, hl1, gt_iff_lt]
  all_goals apply_assumption
  refine AW.cond (b := false) (by simp [ev]) (fun hc => by cases hc) (fun hc => ?_)
  refine AW.skip ?_
  all_goals simp only [zs, reduceIte, Nat.reduceEqDiff, Nat.reduceLT, Nat.reduceLeDiff, Nat.reduceAdd, reduceCtorEq, Nat.reduceMul]
  all_goals apply_assumption
  refine AW.seq_k fun K4 h4 => ?_
  refine AW.seq_k fun K5 h5 => ?_
  all_goals refine AW.reg0 ?_
  all_goals iterate 7 (refine S.g rfl rfl fun K' k' => ?_; simp only [zz, reduceIte, Nat.reduceEqDiff, Nat.reduceLT, Nat.reduceLeDiff, Nat.reduceAdd, reduceCtorEq, Nat.reduceMul, of89_0, ok56, sz56, ag56, sl56, el56, ok4, sz4, ag4, ptrV, ho', map1s, gt_iff_lt, List.getD_cons_zero]; refine k' _ _ ?_; clear k' K')
  all_goals refine S.nil ?_
  all_goals simp only [ze, reduceIte, Nat.reduceEqDiff, Nat.reduceLT, Nat.reduceLeDiff, Nat.reduceAdd, reduceCtorEq, Nat.reduceMul, ptrV, ho', map1s, gt_iff_lt, List.getD_cons_zero]
  all_goals apply_assumption
  refine AW.cond (b := decide (l.length < n)) (by simp [ev]) (fun hc => ?_) (fun hc => ?_)
  · have hlt := of_decide_eq_true hc
    refine AW.seq_k fun K6 h6 => ?_
    all_goals refine AW.reg0 ?_
    all_goals iterate 2 (refine S.g rfl rfl fun K' k' => ?_; simp only [zz, reduceIte, Nat.reduceEqDiff, Nat.reduceAdd]; refine k' _ _ ?_; clear k' K')
    all_goals refine S.nil ?_
    all_goals simp only [ze, reduceIte, Nat.reduceEqDiff, Nat.reduceLT, Nat.reduceLeDiff, Nat.reduceAdd, reduceCtorEq, Nat.reduceMul]
    all_goals apply_assumption
    refine AW.ret ?_
    all_goals simp only [zs, reduceIte, Nat.reduceEqDiff, Nat.reduceLT, Nat.reduceLeDiff, Nat.reduceAdd, reduceCtorEq, Nat.reduceMul]
    rw [if_neg (by omega)]
    simp [wk, wk1]
  have hge := of_decide_eq_false hc
  refine AW.skip ?_
  all_goals simp only [zs, reduceIte, Nat.reduceEqDiff, Nat.reduceLT, Nat.reduceLeDiff, Nat.reduceAdd, reduceCtorEq, Nat.reduceMul]
  all_goals apply_assumption
  refine AW.seq_k fun K7 h7 => ?_
  all_goals refine AW.reg0 ?_
  all_goals iterate 5 (refine S.g rfl rfl fun K' k' => ?_; simp only [zz, reduceIte, Nat.reduceEqDiff, Nat.reduceLT, Nat.reduceLeDiff, Nat.reduceAdd, reduceCtorEq, Nat.reduceMul, of89_0, ok56, sz56, ag56, ho', map1s, List.getD_cons_zero]; refine k' _ _ ?_; clear k' K')
  all_goals (refine S.g rfl rfl fun K' k' => ?_; simp only [zz, reduceIte, Nat.reduceEqDiff, Nat.reduceLT, Nat.reduceLeDiff, Nat.reduceAdd, reduceCtorEq, Nat.reduceMul, sl56, el56, ok4, sz4, ag4, ho', map1s, List.getD_cons_zero]; refine ⟨Int.le_refl _, by omega, encT_len, ?_⟩; simp only [List.drop_zero, Nat.sub_zero, Int.toNat_natCast, Int.toNat_zero, ← List.map_take] <;> (refine k' _ _ ?_; clear k' K'))
  all_goals (refine S.g rfl rfl fun K' k' => ?_; simp only [zz, reduceIte, Nat.reduceEqDiff, Nat.reduceLT, Nat.reduceLeDiff, Nat.reduceAdd, reduceCtorEq, Nat.reduceMul, ho', map1s, List.getD_cons_zero]; refine PCalls.eqto (value_spec (l.take n) (by rw [List.length_take]; omega)) ?_ <;> (refine k' _ _ ?_; clear k' K'))
  all_goals (refine S.g rfl rfl fun K' k' => ?_; simp only [zz, reduceIte, Nat.reduceEqDiff, Nat.reduceAdd, ho', map1s, List.getD_cons_zero]; refine k' _ _ ?_; clear k' K')
  all_goals refine S.nil ?_
  all_goals simp only [ze, reduceIte, Nat.reduceEqDiff, Nat.reduceLT, Nat.reduceLeDiff, Nat.reduceAdd, reduceCtorEq, Nat.reduceMul, ho', map1s, List.getD_cons_zero]
  all_goals apply_assumption
  refine AW.seq_k fun K8 h8 => ?_
  all_goals refine AW.reg0 ?_
  all_goals iterate 6 (refine S.g rfl rfl fun K' k' => ?_; simp only [zz, reduceIte, Nat.reduceEqDiff, Nat.reduceLT, Nat.reduceLeDiff, Nat.reduceAdd, reduceCtorEq, Nat.reduceMul, of89_0, ok56, sz56, ag56, ho', map1s, List.getD_cons_zero]; refine k' _ _ ?_; clear k' K')
  all_goals (refine S.g rfl rfl fun K' k' => ?_; simp only [zz, reduceIte, Nat.reduceEqDiff, Nat.reduceLT, Nat.reduceLeDiff, Nat.reduceAdd, reduceCtorEq, Nat.reduceMul, sl56, el56, ok4, sz4, ag4, ho', map1s, List.getD_cons_zero]; refine ⟨by omega, encT_len, ?_⟩; simp only [Int.toNat_natCast, ← List.map_drop, rest_map] <;> (refine k' _ _ ?_; clear k' K'))
  all_goals iterate 3 (refine S.g rfl rfl fun K' k' => ?_; simp only [zz, reduceIte, Nat.reduceEqDiff, Nat.reduceLT, Nat.reduceLeDiff, Nat.reduceAdd, reduceCtorEq, Nat.reduceMul, of89_0, ok56, sz56, ag56, ho', map1s, List.getD_cons_zero]; refine k' _ _ ?_; clear k' K')
  all_goals refine S.nil ?_
  all_goals simp only [ze, reduceIte, Nat.reduceEqDiff, Nat.reduceLT, Nat.reduceLeDiff, Nat.reduceAdd, reduceCtorEq, Nat.reduceMul, ho', map1s, List.getD_cons_zero]
  all_goals apply_assumption
  refine AW.seq_k fun K9 h9 => ?_
  all_goals refine AW.reg0 ?_
  all_goals iterate 3 (refine S.g rfl rfl fun K' k' => ?_; simp only [zz, reduceIte, Nat.reduceEqDiff, Nat.reduceAdd]; refine k' _ _ ?_; clear k' K')
  all_goals refine S.nil ?_
  all_goals simp only [ze, reduceIte, Nat.reduceEqDiff, Nat.reduceLT, Nat.reduceLeDiff, Nat.reduceAdd, reduceCtorEq, Nat.reduceMul]
  all_goals apply_assumption
  refine AW.ret ?_
  all_goals simp only [zs, reduceIte, Nat.reduceEqDiff, Nat.reduceLT, Nat.reduceLeDiff, Nat.reduceAdd, reduceCtorEq, Nat.reduceMul]
  rw [if_pos (by omega)]
  exact ⟨by simp [wk, wk1], rfl⟩
end Go.Abs.M
namespace Go.Abs.M
open Go Go.Abs Go.Proofs
set_option maxRecDepth 20000
set_option linter.unusedSimpArgs false
set_option linter.unusedVariables false
theorem mid_map {l : List Bool} {k : Nat} : ((l.drop (k + 1)).map encT).take (2 * k + 1 - (k + 1)) = ((l.drop (k + 1)).take k).map encT := by rw [show 2 * k + 1 - (k + 1) = k by omega, List.map_take]
theorem rNat_spec (g : Nat) (l : List Bool) (σ : Hp) (ho : σ.obj g = some (rsC l)) (hl : l.length < 1099511627776) :
    ACalls Try.prog 145 [ptrV g] σ (fun v σ' => match natP l with
      | .ok (u, c) => v = .tup [.c (.int .u64 u), .c (.int .i64 0)] ∧ σ' = σ.setObj g (some (rsC (l.drop c)))
      | .error e => v = .tup [.c (.int .u64 0), .c (.int .i64 e)] ∧ σ' = σ) := by
  refine ACalls.intro Try.call145 Try.func145 rfl Try.ntmps145 Try.results145 (by simp) ?_
  have ho' : σ.obj g = some [.sl (l.map encT)] := ho
  refine AW.seq_k fun K1 h1 => ?_
  all_goals refine AW.reg0 ?_
  all_goals iterate 2 (refine S.g rfl rfl fun K' k' => ?_; simp only [zz, reduceIte, Nat.reduceEqDiff, Nat.reduceAdd]; refine k' _ _ ?_; clear k' K')
  all_goals refine S.nil ?_
  all_goals simp only [ze, reduceIte, Nat.reduceEqDiff, Nat.reduceLT, Nat.reduceLeDiff, Nat.reduceAdd, reduceCtorEq, Nat.reduceMul]
  all_goals apply_assumption
  refine AW.seq_k fun K2 h2 => ?_
  all_goals refine AW.reg0 ?_
  all_goals (refine S.g rfl rfl fun K' k' => ?_; simp only [zz, reduceIte, Nat.reduceEqDiff, Nat.reduceAdd]; refine k' _ _ ?_; clear k' K')
  all_goals refine S.nil ?_
  all_goals simp only [ze, reduceIte, Nat.reduceEqDiff, Nat.reduceLT, Nat.reduceLeDiff, Nat.reduceAdd, reduceCtorEq, Nat.reduceMul]
  all_goals apply_assumption
  refine AW.seq_j (fun s σ' => σ' = σ ∧ s.t 0 = ptrV g ∧ s.t 4 = .c (.int .i64 (zr l 65 : Nat))) ?_ ?_
  · refine AW.block ?_   -- 0
    refine AW.loop (fun m s σ' => ∃ k, m = 65 - k ∧ k ≤ 65 ∧ k ≤ l.length ∧ σ' = σ ∧ s.t 0 = ptrV g ∧ s.t 4 = .c (.int .i64 (k : Nat)) ∧ zr l 65 = k + zr (l.drop k) (65 - k)) 65 ?_ ?_
    · refine ⟨0, rfl, by omega, by omega, rfl, ?_⟩
      all_goals simp only [zs, reduceIte, Nat.reduceEqDiff, Nat.reduceLT, Nat.reduceLeDiff, Nat.reduceAdd, reduceCtorEq, Nat.reduceMul]
      simp [ptrV]
    rintro m s σ' ⟨k, hm, hk, hkl, rfl, e0, e4, hz⟩
    unfold ptrV at e0
    have hw2 : IntKind.i64.wrap ((k : Int) + 1) = ((k + 1 : Nat) : Int) := by rw [wrap_small _ (by omega) (by omega)]; rfl
    refine AW.seq_k fun K3 h3 => ?_
    refine AW.seq_j (fun s2 σ2 => σ2 = σ' ∧ s2.t 0 = ptrV g ∧ s2.t 4 = .c (.int .i64 (k : Nat)) ∧ ∃ y, s2.t 26 = .c (.bool y) ∧ (y = true → k < 65 ∧ l[k]? = some false) ∧ (y = false → 65 - k = 0 ∨ l.length ≤ k ∨ l[k]? = some true)) ?_ ?_
    · by_cases h1 : k < l.length
      · obtain ⟨x, hx⟩ : ∃ x, l[k]? = some x := ⟨_, List.getElem?_eq_getElem h1⟩
        have hxe := encT_at hx
        all_goals refine AW.reg0 ?_
        all_goals iterate 6 (refine S.g rfl rfl fun K' k' => ?_; simp only [zz, reduceIte, Nat.reduceEqDiff, Nat.reduceLT, Nat.reduceLeDiff, Nat.reduceAdd, reduceCtorEq, Nat.reduceMul, of89_0, ok56, sz56, ag56, sl56, el56, ok4, sz4, ag4, e0, e4, ho', map1s, h1, hxe, encT, List.length_singleton, List.getD_cons_zero]; refine k' _ _ ?_; clear k' K')
        all_goals (refine S.g rfl rfl fun K' k' => ?_; simp only [zz, reduceIte, Nat.reduceEqDiff, Nat.reduceLT, Nat.reduceLeDiff, Nat.reduceAdd, reduceCtorEq, Nat.reduceMul, e0, e4, ho', map1s, h1, hxe, encT, List.length_singleton, List.getD_cons_zero]; refine S.bool fun b a12 => ?_; cases b <;> (try (exfalso; first | exact Bool.noConfusion a12 | (have h := of_decide_eq_true a12; omega) | (have h := of_decide_eq_false a12; omega))) <;> (refine k' _ _ ?_; clear k' K'))
        all_goals (refine S.g rfl rfl fun K' k' => ?_; simp only [zz, reduceIte, Nat.reduceEqDiff, Nat.reduceAdd, e0, e4, ho', map1s, h1, hxe, encT, List.length_singleton, List.getD_cons_zero]; refine k' _ _ ?_; clear k' K')
        all_goals (first | (refine S.y rfl rfl rfl rfl fun K' k' => ?_; simp only [zz, reduceIte, Nat.reduceEqDiff, Nat.reduceAdd, e0, e4, ho', map1s, h1, hxe, encT, List.length_singleton, List.getD_cons_zero]; refine k' _ _ ?_; clear k' K') | ((first | refine S.x rfl rfl rfl rfl fun K' k' => ?_ | refine S.u rfl rfl rfl rfl fun K' k' => ?_); simp only [ze, reduceIte, Nat.reduceEqDiff]; refine k' _ _ ?_; clear k' K'))
        all_goals (first | (refine S.y rfl rfl rfl rfl fun K' k' => ?_; simp only [zz, reduceIte, Nat.reduceEqDiff, Nat.reduceLT, Nat.reduceLeDiff, Nat.reduceAdd, reduceCtorEq, Nat.reduceMul, e0, e4, ho', map1s, h1, hxe, encT, List.length_singleton, List.getD_cons_zero]; refine S.bool fun b a15 => ?_; cases b <;> (try (exfalso; first | exact Bool.noConfusion a15 | (have h := of_decide_eq_true a15; omega) | (have h := of_decide_eq_false a15; omega))) <;> (refine k' _ _ ?_; clear k' K')) | ((first | refine S.x rfl rfl rfl rfl fun K' k' => ?_ | refine S.u rfl rfl rfl rfl fun K' k' => ?_); simp only [ze, reduceIte, Nat.reduceEqDiff]; refine k' _ _ ?_; clear k' K'))
        all_goals iterate 2 (refine S.g rfl rfl fun K' k' => ?_; simp only [zz, reduceIte, Nat.reduceEqDiff, Nat.reduceAdd, e0, e4, ho', map1s, h1, hxe, encT, List.length_singleton, List.getD_cons_zero]; refine k' _ _ ?_; clear k' K')
        all_goals iterate 8 (first | (refine S.y rfl rfl rfl rfl fun K' k' => ?_; simp only [zz, reduceIte, Nat.reduceEqDiff, Nat.reduceLT, Nat.reduceLeDiff, Nat.reduceAdd, reduceCtorEq, Nat.reduceMul, of89_0, ok56, sz56, ag56, sl56, el56, ok4, sz4, ag4, e0, e4, ho', map1s, h1, hxe, encT, List.length_singleton, List.getD_cons_zero]; refine k' _ _ ?_; clear k' K') | ((first | refine S.x rfl rfl rfl rfl fun K' k' => ?_ | refine S.u rfl rfl rfl rfl fun K' k' => ?_); simp only [ze, reduceIte, Nat.reduceEqDiff]; refine k' _ _ ?_; clear k' K'))
        all_goals (refine S.g rfl rfl fun K' k' => ?_; simp only [zz, reduceIte, Nat.reduceEqDiff, Nat.reduceAdd, e0, e4, ho', map1s, h1, hxe, encT, List.length_singleton, List.getD_cons_zero]; refine k' _ _ ?_; clear k' K')
        all_goals refine S.nil ?_
        all_goals simp only [ze, reduceIte, Nat.reduceEqDiff, Nat.reduceLT, Nat.reduceLeDiff, Nat.reduceAdd, reduceCtorEq, Nat.reduceMul, e0, e4, ho', map1s, h1, hxe, encT, List.length_singleton, List.getD_cons_zero]
        · exact ⟨rfl, false, rfl, (fun h => by cases h), fun _ => .inl (by have := of_decide_eq_false a15; omega)⟩
        · refine ⟨rfl, !x, rfl, fun h => ⟨by have := of_decide_eq_true a15; omega, ?_⟩, fun h => .inr (.inr ?_)⟩
          · rw [hx]; cases x <;> simp_all
          · rw [hx]; cases x <;> simp_all
      · skip
        all_goals refine AW.reg0 ?_
        all_goals iterate 6 (refine S.g rfl rfl fun K' k' => ?_; simp only [zz, reduceIte, Nat.reduceEqDiff, Nat.reduceLT, Nat.reduceLeDiff, Nat.reduceAdd, reduceCtorEq, Nat.reduceMul, of89_0, ok56, sz56, ag56, sl56, el56, ok4, sz4, ag4, e0, e4, ho', map1s, List.getD_cons_zero]; refine k' _ _ ?_; clear k' K')
        all_goals (refine S.g rfl rfl fun K' k' => ?_; simp only [zz, reduceIte, Nat.reduceEqDiff, Nat.reduceLT, Nat.reduceLeDiff, Nat.reduceAdd, reduceCtorEq, Nat.reduceMul, e0, e4, ho', map1s, List.getD_cons_zero]; refine S.bool fun b a12 => ?_; cases b <;> (try (exfalso; first | exact Bool.noConfusion a12 | (have h := of_decide_eq_true a12; omega) | (have h := of_decide_eq_false a12; omega))) <;> (refine k' _ _ ?_; clear k' K'))
        all_goals (refine S.g rfl rfl fun K' k' => ?_; simp only [zz, reduceIte, Nat.reduceEqDiff, Nat.reduceAdd, e0, e4, ho', map1s, List.getD_cons_zero]; refine k' _ _ ?_; clear k' K')
        all_goals (first | (refine S.y rfl rfl rfl rfl fun K' k' => ?_; simp only [zz, reduceIte, Nat.reduceEqDiff, Nat.reduceAdd, e0, e4, ho', map1s, List.getD_cons_zero]; refine k' _ _ ?_; clear k' K') | ((first | refine S.x rfl rfl rfl rfl fun K' k' => ?_ | refine S.u rfl rfl rfl rfl fun K' k' => ?_); simp only [ze, reduceIte, Nat.reduceEqDiff]; refine k' _ _ ?_; clear k' K'))
        all_goals (first | (refine S.y rfl rfl rfl rfl fun K' k' => ?_; simp only [zz, reduceIte, Nat.reduceEqDiff, Nat.reduceLT, Nat.reduceLeDiff, Nat.reduceAdd, reduceCtorEq, Nat.reduceMul, e0, e4, ho', map1s, List.getD_cons_zero]; refine S.bool fun b a15 => ?_; cases b <;> (try (exfalso; first | exact Bool.noConfusion a15 | (have h := of_decide_eq_true a15; omega) | (have h := of_decide_eq_false a15; omega))) <;> (refine k' _ _ ?_; clear k' K')) | ((first | refine S.x rfl rfl rfl rfl fun K' k' => ?_ | refine S.u rfl rfl rfl rfl fun K' k' => ?_); simp only [ze, reduceIte, Nat.reduceEqDiff]; refine k' _ _ ?_; clear k' K'))
        all_goals iterate 2 (refine S.g rfl rfl fun K' k' => ?_; simp only [zz, reduceIte, Nat.reduceEqDiff, Nat.reduceAdd, e0, e4, ho', map1s, List.getD_cons_zero]; refine k' _ _ ?_; clear k' K')
        all_goals iterate 8 (first | (refine S.y rfl rfl rfl rfl fun K' k' => ?_; simp only [zz, reduceIte, Nat.reduceEqDiff, Nat.reduceLT, Nat.reduceLeDiff, Nat.reduceAdd, reduceCtorEq, Nat.reduceMul, of89_0, ok56, sz56, ag56, sl56, el56, ok4, sz4, ag4, e0, e4, ho', map1s, List.getD_cons_zero]; refine k' _ _ ?_; clear k' K') | ((first | refine S.x rfl rfl rfl rfl fun K' k' => ?_ | refine S.u rfl rfl rfl rfl fun K' k' => ?_); simp only [ze, reduceIte, Nat.reduceEqDiff]; refine k' _ _ ?_; clear k' K'))
        all_goals (refine S.g rfl rfl fun K' k' => ?_; simp only [zz, reduceIte, Nat.reduceEqDiff, Nat.reduceAdd, e0, e4, ho', map1s, List.getD_cons_zero]; refine k' _ _ ?_; clear k' K')
        all_goals refine S.nil ?_
        all_goals simp only [ze, reduceIte, Nat.reduceEqDiff, Nat.reduceLT, Nat.reduceLeDiff, Nat.reduceAdd, reduceCtorEq, Nat.reduceMul, e0, e4, ho', map1s, List.getD_cons_zero]
        exact ⟨rfl, false, rfl, (fun h => by cases h), fun _ => .inr (.inl (by omega))⟩
    rintro s2 σ2 ⟨rfl, f0, f4, y, f26, hy1, hy0⟩
    refine AW.cond (b := y) f26 (fun hc => ?_) (fun hc => ?_)
    · refine AW.skip ?_
      all_goals apply_assumption
      obtain ⟨k1, k3⟩ := hy1 hc
      have k2 := (List.getElem?_eq_some_iff.1 k3).1
      refine AW.block ?_   -- 1
      all_goals refine AW.reg0 ?_
      all_goals iterate 3 (refine S.g rfl rfl fun K' k' => ?_; simp only [zz, reduceIte, Nat.reduceEqDiff, Nat.reduceAdd, f4, hw2]; refine k' _ _ ?_; clear k' K')
      all_goals refine S.nil ?_
      all_goals simp only [ze, reduceIte, Nat.reduceEqDiff, Nat.reduceLT, Nat.reduceLeDiff, Nat.reduceAdd, reduceCtorEq, Nat.reduceMul, f4, hw2]
      refine ⟨65 - (k + 1), by omega, k + 1, rfl, by omega, by omega, f0, rfl, ?_⟩
      rw [hz, zr_step k3 (by omega), show 65 - (k + 1) = 65 - k - 1 by omega]; omega
    · refine AW.exit ?_
      all_goals simp only [zs, reduceIte, Nat.reduceEqDiff, Nat.reduceLT, Nat.reduceLeDiff, Nat.reduceAdd, reduceCtorEq, Nat.reduceMul]
      refine ⟨f0, ?_⟩
      rw [f4, hz, zr_stop (hy0 hc)]; rfl
  rintro s σ' ⟨rfl, e0, e4⟩
  have hzl := zr_le l 65
  unfold natP
  simp only []
  generalize hk : zr l 65 = k at *
  have hk65 : ((k : Int) == 65) = decide (k = 65) := by rw [Bool.eq_iff_iff]; simp; omega
  unfold ptrV at e0
  refine AW.seq_k fun K4 h4 => ?_
  refine AW.seq_k fun K5 h5 => ?_
  all_goals refine AW.reg0 ?_
  all_goals iterate 2 (refine S.g rfl rfl fun K' k' => ?_; simp only [zz, reduceIte, Nat.reduceEqDiff, Nat.reduceAdd, e4, hk65]; refine k' _ _ ?_; clear k' K')
  all_goals refine S.nil ?_
  all_goals simp only [ze, reduceIte, Nat.reduceEqDiff, Nat.reduceLT, Nat.reduceLeDiff, Nat.reduceAdd, reduceCtorEq, Nat.reduceMul, e4, hk65]
  all_goals apply_assumption
  refine AW.cond (b := decide (k = 65)) (by simp [ev]) (fun hc => ?_) (fun hc => ?_)
  · have hc := of_decide_eq_true hc
    refine AW.seq_k fun K6 h6 => ?_
    all_goals refine AW.reg0 ?_
    all_goals iterate 2 (refine S.g rfl rfl fun K' k' => ?_; simp only [zz, reduceIte, Nat.reduceEqDiff, Nat.reduceAdd]; refine k' _ _ ?_; clear k' K')
    all_goals refine S.nil ?_
    all_goals simp only [ze, reduceIte, Nat.reduceEqDiff, Nat.reduceLT, Nat.reduceLeDiff, Nat.reduceAdd, reduceCtorEq, Nat.reduceMul]
    all_goals apply_assumption
    refine AW.ret ?_
    all_goals simp only [zs, reduceIte, Nat.reduceEqDiff, Nat.reduceLT, Nat.reduceLeDiff, Nat.reduceAdd, reduceCtorEq, Nat.reduceMul]
    rw [if_pos hc]
    simp [wk, wk1]
  have hc := of_decide_eq_false hc
  have hw1 : IntKind.i64.wrap (2 * (k : Int)) = ((2 * k : Nat) : Int) := by rw [wrap_small _ (by omega) (by omega)]; simp
  have hw2 : IntKind.i64.wrap (((2 * k : Nat) : Int) + 1) = ((2 * k + 1 : Nat) : Int) := by rw [wrap_small _ (by omega) (by omega)]; rfl
  have hw3 : IntKind.i64.wrap ((k : Int) + 1) = ((k + 1 : Nat) : Int) := by rw [wrap_small _ (by omega) (by omega)]; rfl
  refine AW.skip ?_
  all_goals simp only [zs, reduceIte, Nat.reduceEqDiff, Nat.reduceLT, Nat.reduceLeDiff, Nat.reduceAdd, reduceCtorEq, Nat.reduceMul]
  all_goals apply_assumption
  refine AW.seq_k fun K7 h7 => ?_
  refine AW.seq_k fun K8 h8 => ?_
  all_goals refine AW.reg0 ?_
  all_goals iterate 9 (refine S.g rfl rfl fun K' k' => ?_; simp only [zz, reduceIte, Nat.reduceEqDiff, Nat.reduceLT, Nat.reduceLeDiff, Nat.reduceAdd, reduceCtorEq, Nat.reduceMul, of89_0, ok56, sz56, ag56, sl56, el56, ok4, sz4, ag4, e0, e4, ho', map1s, hw1, hw2, gt_iff_lt, List.getD_cons_zero]; refine k' _ _ ?_; clear k' K')
  all_goals refine S.nil ?_
  all_goals simp only [ze, reduceIte, Nat.reduceEqDiff, Nat.reduceLT, Nat.reduceLeDiff, Nat.reduceAdd, reduceCtorEq, Nat.reduceMul, e0, e4, ho', map1s, hw1, hw2, gt_iff_lt, List.getD_cons_zero]
  all_goals apply_assumption
  refine AW.cond (b := decide (l.length < 2 * k + 1)) (by simp [ev]; try omega) (fun hd => ?_) (fun hd => ?_)
  · have hd := of_decide_eq_true hd
    refine AW.seq_k fun K9 h9 => ?_
    all_goals refine AW.reg0 ?_
    all_goals iterate 2 (refine S.g rfl rfl fun K' k' => ?_; simp only [zz, reduceIte, Nat.reduceEqDiff, Nat.reduceAdd]; refine k' _ _ ?_; clear k' K')
    all_goals refine S.nil ?_
    all_goals simp only [ze, reduceIte, Nat.reduceEqDiff, Nat.reduceLT, Nat.reduceLeDiff, Nat.reduceAdd, reduceCtorEq, Nat.reduceMul]
    all_goals apply_assumption
    refine AW.ret ?_
    all_goals simp only [zs, reduceIte, Nat.reduceEqDiff, Nat.reduceLT, Nat.reduceLeDiff, Nat.reduceAdd, reduceCtorEq, Nat.reduceMul]
    rw [if_neg hc, if_pos hd]
    simp [wk, wk1]
  have hd := of_decide_eq_false hd
  refine AW.skip ?_
  all_goals simp only [zs, reduceIte, Nat.reduceEqDiff, Nat.reduceLT, Nat.reduceLeDiff, Nat.reduceAdd, reduceCtorEq, Nat.reduceMul]
  all_goals apply_assumption
  refine AW.seq_k fun K10 h10 => ?_
  all_goals refine AW.reg0 ?_
  all_goals iterate 9 (refine S.g rfl rfl fun K' k' => ?_; simp only [zz, reduceIte, Nat.reduceEqDiff, Nat.reduceLT, Nat.reduceLeDiff, Nat.reduceAdd, reduceCtorEq, Nat.reduceMul, of89_0, ok56, sz56, ag56, e0, e4, ho', map1s, hw1, hw2, hw3, List.getD_cons_zero]; refine k' _ _ ?_; clear k' K')
  all_goals (refine S.g rfl rfl fun K' k' => ?_; simp only [zz, reduceIte, Nat.reduceEqDiff, Nat.reduceLT, Nat.reduceLeDiff, Nat.reduceAdd, reduceCtorEq, Nat.reduceMul, sl56, el56, ok4, sz4, ag4, e0, e4, ho', map1s, hw1, hw2, hw3, List.getD_cons_zero]; refine ⟨by omega, by omega, encT_len, ?_⟩; simp only [Int.toNat_natCast, ← List.map_drop, mid_map] <;> (refine k' _ _ ?_; clear k' K'))
  all_goals (refine S.g rfl rfl fun K' k' => ?_; simp only [zz, reduceIte, Nat.reduceEqDiff, Nat.reduceLT, Nat.reduceLeDiff, Nat.reduceAdd, reduceCtorEq, Nat.reduceMul, e0, e4, ho', map1s, hw1, hw2, hw3, List.getD_cons_zero]; refine PCalls.eqto (value_spec ((l.drop (k + 1)).take k) (by rw [List.length_take]; omega)) ?_ <;> (refine k' _ _ ?_; clear k' K'))
  all_goals (refine S.g rfl rfl fun K' k' => ?_; simp only [zz, reduceIte, Nat.reduceEqDiff, Nat.reduceAdd, e0, e4, ho', map1s, hw1, hw2, hw3, List.getD_cons_zero]; refine k' _ _ ?_; clear k' K')
  all_goals refine S.nil ?_
  all_goals simp only [ze, reduceIte, Nat.reduceEqDiff, Nat.reduceLT, Nat.reduceLeDiff, Nat.reduceAdd, reduceCtorEq, Nat.reduceMul, e0, e4, ho', map1s, hw1, hw2, hw3, List.getD_cons_zero]
  all_goals apply_assumption
  have hlt := valN_lt ((l.drop (k + 1)).take k)
  have hlt : valN ((l.drop (k + 1)).take k) < 2 ^ k := Nat.lt_of_lt_of_le hlt (Nat.pow_le_pow_right (by omega) (by rw [List.length_take]; omega))
  generalize valN ((l.drop (k + 1)).take k) = u at *
  have h64 : ((k : Int) == 64) = decide (k = 64) := by rw [Bool.eq_iff_iff]; simp; omega
  have hu0 : decide ((0 : Int) < (u : Int)) = decide (0 < u) := by rw [Bool.eq_iff_iff]; simp
  refine AW.seq_k fun K11 h11 => ?_
  refine AW.seq_j (fun s2 σ2 => σ2 = σ' ∧ s2.t 0 = ptrV g ∧ s2.t 4 = .c (.int .i64 (k : Nat)) ∧ s2.t 5 = .c (.int .u64 (u : Nat)) ∧ s2.t 56 = .c (.bool (decide (k = 64 ∧ 0 < u)))) ?_ ?_
  · by_cases h6 : k = 64
    · skip
      all_goals refine AW.reg0 ?_
      all_goals (refine S.g rfl rfl fun K' k' => ?_; simp only [zz, reduceIte, Nat.reduceEqDiff, Nat.reduceAdd, e0, e4, h64, gt_iff_lt, hu0]; refine k' _ _ ?_; clear k' K')
      all_goals (refine S.g rfl rfl fun K' k' => ?_; simp only [zz, reduceIte, Nat.reduceEqDiff, Nat.reduceLT, Nat.reduceLeDiff, Nat.reduceAdd, reduceCtorEq, Nat.reduceMul, e0, e4, h64, gt_iff_lt, hu0]; refine S.bool fun b a52 => ?_; cases b <;> (try (exfalso; first | exact Bool.noConfusion a52 | (have h := of_decide_eq_true a52; omega) | (have h := of_decide_eq_false a52; omega))) <;> (refine k' _ _ ?_; clear k' K'))
      all_goals (refine S.g rfl rfl fun K' k' => ?_; simp only [zz, reduceIte, Nat.reduceEqDiff, Nat.reduceAdd, e0, e4, h64, gt_iff_lt, hu0]; refine k' _ _ ?_; clear k' K')
      all_goals iterate 2 (first | (refine S.y rfl rfl rfl rfl fun K' k' => ?_; simp only [zz, reduceIte, Nat.reduceEqDiff, Nat.reduceAdd, e0, e4, h64, gt_iff_lt, hu0]; refine k' _ _ ?_; clear k' K') | ((first | refine S.x rfl rfl rfl rfl fun K' k' => ?_ | refine S.u rfl rfl rfl rfl fun K' k' => ?_); simp only [ze, reduceIte, Nat.reduceEqDiff]; refine k' _ _ ?_; clear k' K'))
      all_goals (refine S.g rfl rfl fun K' k' => ?_; simp only [zz, reduceIte, Nat.reduceEqDiff, Nat.reduceAdd, e0, e4, h64, gt_iff_lt, hu0]; refine k' _ _ ?_; clear k' K')
      all_goals refine S.nil ?_
      all_goals simp only [ze, reduceIte, Nat.reduceEqDiff, Nat.reduceLT, Nat.reduceLeDiff, Nat.reduceAdd, reduceCtorEq, Nat.reduceMul, e0, e4, h64, gt_iff_lt, hu0]
      all_goals exact ⟨rfl, by simp [h6]⟩
    · skip
      all_goals refine AW.reg0 ?_
      all_goals (refine S.g rfl rfl fun K' k' => ?_; simp only [zz, reduceIte, Nat.reduceEqDiff, Nat.reduceAdd, e0, e4, h64, gt_iff_lt, hu0]; refine k' _ _ ?_; clear k' K')
      all_goals (refine S.g rfl rfl fun K' k' => ?_; simp only [zz, reduceIte, Nat.reduceEqDiff, Nat.reduceLT, Nat.reduceLeDiff, Nat.reduceAdd, reduceCtorEq, Nat.reduceMul, e0, e4, h64, gt_iff_lt, hu0]; refine S.bool fun b a52 => ?_; cases b <;> (try (exfalso; first | exact Bool.noConfusion a52 | (have h := of_decide_eq_true a52; omega) | (have h := of_decide_eq_false a52; omega))) <;> (refine k' _ _ ?_; clear k' K'))
      all_goals (refine S.g rfl rfl fun K' k' => ?_; simp only [zz, reduceIte, Nat.reduceEqDiff, Nat.reduceAdd, e0, e4, h64, gt_iff_lt, hu0]; refine k' _ _ ?_; clear k' K')
      all_goals iterate 2 (first | (refine S.y rfl rfl rfl rfl fun K' k' => ?_; simp only [zz, reduceIte, Nat.reduceEqDiff, Nat.reduceAdd, e0, e4, h64, gt_iff_lt, hu0]; refine k' _ _ ?_; clear k' K') | ((first | refine S.x rfl rfl rfl rfl fun K' k' => ?_ | refine S.u rfl rfl rfl rfl fun K' k' => ?_); simp only [ze, reduceIte, Nat.reduceEqDiff]; refine k' _ _ ?_; clear k' K'))
      all_goals (refine S.g rfl rfl fun K' k' => ?_; simp only [zz, reduceIte, Nat.reduceEqDiff, Nat.reduceAdd, e0, e4, h64, gt_iff_lt, hu0]; refine k' _ _ ?_; clear k' K')
      all_goals refine S.nil ?_
      all_goals simp only [ze, reduceIte, Nat.reduceEqDiff, Nat.reduceLT, Nat.reduceLeDiff, Nat.reduceAdd, reduceCtorEq, Nat.reduceMul, e0, e4, h64, gt_iff_lt, hu0]
      all_goals exact ⟨rfl, by simp [h6]⟩
  clear e0 e4
  rintro s2 σ2 ⟨rfl, e0, e4, e5, e56⟩
  refine AW.cond (b := decide (k = 64 ∧ 0 < u)) e56 (fun hf => ?_) (fun hf => ?_)
  · have hf := of_decide_eq_true hf
    refine AW.seq_k fun K12 h12 => ?_
    all_goals refine AW.reg0 ?_
    all_goals iterate 2 (refine S.g rfl rfl fun K' k' => ?_; simp only [zz, reduceIte, Nat.reduceEqDiff, Nat.reduceAdd]; refine k' _ _ ?_; clear k' K')
    all_goals refine S.nil ?_
    all_goals simp only [ze, reduceIte, Nat.reduceEqDiff, Nat.reduceLT, Nat.reduceLeDiff, Nat.reduceAdd, reduceCtorEq, Nat.reduceMul]
    all_goals apply_assumption
    refine AW.ret ?_
    all_goals simp only [zs, reduceIte, Nat.reduceEqDiff, Nat.reduceLT, Nat.reduceLeDiff, Nat.reduceAdd, reduceCtorEq, Nat.reduceMul]
    rw [if_neg hc, if_neg hd, if_pos hf.1, if_neg (by omega)]
    simp [wk, wk1]
  have hf := of_decide_eq_false hf
  unfold ptrV at e0
  refine AW.skip ?_
  all_goals simp only [zs, reduceIte, Nat.reduceEqDiff, Nat.reduceLT, Nat.reduceLeDiff, Nat.reduceAdd, reduceCtorEq, Nat.reduceMul]
  all_goals apply_assumption
  refine AW.seq_k fun K13 h13 => ?_
  all_goals refine AW.reg0 ?_
  all_goals iterate 8 (refine S.g rfl rfl fun K' k' => ?_; simp only [zz, reduceIte, Nat.reduceEqDiff, Nat.reduceLT, Nat.reduceLeDiff, Nat.reduceAdd, reduceCtorEq, Nat.reduceMul, of89_0, ok56, sz56, ag56, e0, e4, ho', map1s, hw1, hw2, List.getD_cons_zero]; refine k' _ _ ?_; clear k' K')
  all_goals (refine S.g rfl rfl fun K' k' => ?_; simp only [zz, reduceIte, Nat.reduceEqDiff, Nat.reduceLT, Nat.reduceLeDiff, Nat.reduceAdd, reduceCtorEq, Nat.reduceMul, sl56, el56, ok4, sz4, ag4, e0, e4, ho', map1s, hw1, hw2, List.getD_cons_zero]; refine ⟨by omega, encT_len, ?_⟩; simp only [Int.toNat_natCast, ← List.map_drop, rest_map] <;> (refine k' _ _ ?_; clear k' K'))
  all_goals iterate 3 (refine S.g rfl rfl fun K' k' => ?_; simp only [zz, reduceIte, Nat.reduceEqDiff, Nat.reduceLT, Nat.reduceLeDiff, Nat.reduceAdd, reduceCtorEq, Nat.reduceMul, of89_0, ok56, sz56, ag56, e0, e4, ho', map1s, hw1, hw2, List.getD_cons_zero]; refine k' _ _ ?_; clear k' K')
  all_goals refine S.nil ?_
  all_goals simp only [ze, reduceIte, Nat.reduceEqDiff, Nat.reduceLT, Nat.reduceLeDiff, Nat.reduceAdd, reduceCtorEq, Nat.reduceMul, e0, e4, ho', map1s, hw1, hw2, List.getD_cons_zero]
  all_goals apply_assumption
  refine AW.seq_k fun K14 h14 => ?_
  refine AW.seq_k fun K15 h15 => ?_
  all_goals refine AW.reg0 ?_
  all_goals iterate 2 (refine S.g rfl rfl fun K' k' => ?_; simp only [zz, reduceIte, Nat.reduceEqDiff, Nat.reduceAdd, e4, h64]; refine k' _ _ ?_; clear k' K')
  all_goals refine S.nil ?_
  all_goals simp only [ze, reduceIte, Nat.reduceEqDiff, Nat.reduceLT, Nat.reduceLeDiff, Nat.reduceAdd, reduceCtorEq, Nat.reduceMul, e4, h64]
  all_goals apply_assumption
  refine AW.cond (b := decide (k = 64)) (by simp [ev]) (fun hx => ?_) (fun hx => ?_)
  · have hx := of_decide_eq_true hx
    refine AW.seq_k fun K16 h16 => ?_
    all_goals refine AW.reg0 ?_
    all_goals iterate 2 (refine S.g rfl rfl fun K' k' => ?_; simp only [zz, reduceIte, Nat.reduceEqDiff, Nat.reduceAdd]; refine k' _ _ ?_; clear k' K')
    all_goals refine S.nil ?_
    all_goals simp only [ze, reduceIte, Nat.reduceEqDiff, Nat.reduceLT, Nat.reduceLeDiff, Nat.reduceAdd, reduceCtorEq, Nat.reduceMul]
    all_goals apply_assumption
    refine AW.ret ?_
    all_goals simp only [zs, reduceIte, Nat.reduceEqDiff, Nat.reduceLT, Nat.reduceLeDiff, Nat.reduceAdd, reduceCtorEq, Nat.reduceMul]
    rw [if_neg hc, if_neg hd, if_pos hx, if_pos (by omega)]
    exact ⟨by simp [wk, wk1], rfl⟩
  have hx := of_decide_eq_false hx
  have hk2 : (2 : Nat) ^ k ≤ 9223372036854775808 := by rw [show 9223372036854775808 = 2 ^ 63 from rfl]; exact Nat.pow_le_pow_right (by omega) (by omega)
  have hp0 : 0 < (2 : Nat) ^ k := Nat.two_pow_pos k
  have hm : min k IntKind.u64.bits = k := Nat.min_eq_left (show k ≤ 64 by omega)
  have hwa : IntKind.u64.wrap (1 * (2 : Int) ^ min k IntKind.u64.bits) = ((2 ^ k : Nat) : Int) := by rw [hm, show (1 : Int) * 2 ^ k = ((2 ^ k : Nat) : Int) by simp, wrap_u64 (by omega)]
  have hwb : IntKind.u64.wrap (((2 ^ k : Nat) : Int) + (u : Int)) = ((2 ^ k + u : Nat) : Int) := by rw [← Int.natCast_add, wrap_u64 (by omega)]
  have hwc : IntKind.u64.wrap (((2 ^ k + u : Nat) : Int) - 1) = ((2 ^ k + u - 1 : Nat) : Int) := by rw [show ((2 ^ k + u : Nat) : Int) - 1 = ((2 ^ k + u - 1 : Nat) : Int) by omega, wrap_u64 (by omega)]
  refine AW.skip ?_
  all_goals simp only [zs, reduceIte, Nat.reduceEqDiff, Nat.reduceLT, Nat.reduceLeDiff, Nat.reduceAdd, reduceCtorEq, Nat.reduceMul]
  all_goals apply_assumption
  refine AW.seq_k fun K17 h17 => ?_
  all_goals refine AW.reg0 ?_
  all_goals iterate 7 (refine S.g rfl rfl fun K' k' => ?_; simp only [zz, reduceIte, Nat.reduceEqDiff, Nat.reduceAdd, e4, e5, hwa, hwb, hwc]; refine k' _ _ ?_; clear k' K')
  all_goals refine S.nil ?_
  all_goals simp only [ze, reduceIte, Nat.reduceEqDiff, Nat.reduceLT, Nat.reduceLeDiff, Nat.reduceAdd, reduceCtorEq, Nat.reduceMul, e4, e5, hwa, hwb, hwc]
  all_goals apply_assumption
  refine AW.ret ?_
  all_goals simp only [zs, reduceIte, Nat.reduceEqDiff, Nat.reduceLT, Nat.reduceLeDiff, Nat.reduceAdd, reduceCtorEq, Nat.reduceMul]
  rw [if_neg hc, if_neg hd, if_neg hx]
  exact ⟨by simp [wk, wk1], rfl⟩
end Go.Abs.M
namespace Go.Abs.M
open Go Go.Abs Go.Proofs
set_option maxRecDepth 20000
set_option linter.unusedSimpArgs false
set_option linter.unusedVariables false
theorem rNum_spec (g : Nat) (l : List Bool) (σ : Hp) (ho : σ.obj g = some (rsC l)) (hl : l.length < 1099511627776) :
    ACalls Try.prog 161 [ptrV g] σ (fun v σ' => match numP l with
      | .ok (n, c) => v = .tup [.c (.int .i64 n), .c (.int .i64 0)] ∧ σ' = σ.setObj g (some (rsC (l.drop c)))
      | .error e => v = .tup [.c (.int .i64 0), .c (.int .i64 e)] ∧ σ' = σ) := by
  refine ACalls.intro Try.call161 Try.func161 rfl Try.ntmps161 Try.results161 (by simp) ?_
  unfold numP
  rcases hN : natP l with e | ⟨u, c⟩
  · have he := natP_err hN
    refine AW.seq_k fun K1 h1 => ?_
    all_goals refine AW.reg0 ?_
    all_goals iterate 2 (refine S.g rfl rfl fun K' k' => ?_; simp only [zz, reduceIte, Nat.reduceEqDiff, Nat.reduceAdd]; refine k' _ _ ?_; clear k' K')
    all_goals refine S.nil ?_
    all_goals simp only [ze, reduceIte, Nat.reduceEqDiff, Nat.reduceLT, Nat.reduceLeDiff, Nat.reduceAdd, reduceCtorEq, Nat.reduceMul]
    all_goals apply_assumption
    refine AW.seq_k fun K2 h2 => ?_
    all_goals refine AW.reg0 ?_
    all_goals (refine S.g rfl rfl fun K' k' => ?_; simp only [zz, reduceIte, Nat.reduceEqDiff, Nat.reduceAdd, pw, Nat.reduceLT, Nat.reduceLeDiff]; refine k' _ _ ?_; clear k' K')
    all_goals (refine S.g rfl rfl fun K' k' => ?_; simp only [zz, reduceIte, Nat.reduceEqDiff, Nat.reduceLT, Nat.reduceLeDiff, Nat.reduceAdd, reduceCtorEq, Nat.reduceMul, pw, Nat.reduceLT, Nat.reduceLeDiff]; refine (rNat_spec g l _ ho hl).to fun v σ2 hv => ?_; simp only [hN] at hv; obtain ⟨rfl, hσ⟩ := hv <;> (refine k' _ _ ?_; clear k' K'))
    all_goals iterate 5 (refine S.g rfl rfl fun K' k' => ?_; simp only [zz, reduceIte, Nat.reduceEqDiff, Nat.reduceLT, Nat.reduceLeDiff, Nat.reduceAdd, reduceCtorEq, Nat.reduceMul, pw, Nat.reduceLT, Nat.reduceLeDiff]; refine k' _ _ ?_; clear k' K')
    all_goals refine S.nil ?_
    all_goals simp only [ze, reduceIte, Nat.reduceEqDiff, Nat.reduceLT, Nat.reduceLeDiff, Nat.reduceAdd, reduceCtorEq, Nat.reduceMul, pw, Nat.reduceLT, Nat.reduceLeDiff]
    all_goals apply_assumption
    refine AW.seq_k fun K3 h3 => ?_
    refine AW.seq_k fun K4 h4 => ?_
    all_goals refine AW.reg0 ?_
    all_goals iterate 2 (refine S.g rfl rfl fun K' k' => ?_; simp only [zz, reduceIte, Nat.reduceEqDiff, Nat.reduceAdd]; refine k' _ _ ?_; clear k' K')
    all_goals refine S.nil ?_
    all_goals simp only [ze, reduceIte, Nat.reduceEqDiff, Nat.reduceLT, Nat.reduceLeDiff, Nat.reduceAdd, reduceCtorEq, Nat.reduceMul]
    all_goals apply_assumption
    refine AW.cond (b := decide (e ≠ 0)) (by simp [ev]; try rfl) (fun hc => ?_) (fun hc => absurd he (by simpa using of_decide_eq_false hc))
    refine AW.seq_k fun K5 h5 => ?_
    all_goals refine AW.reg0 ?_
    all_goals iterate 3 (refine S.g rfl rfl fun K' k' => ?_; simp only [zz, reduceIte, Nat.reduceEqDiff, Nat.reduceAdd]; refine k' _ _ ?_; clear k' K')
    all_goals refine S.nil ?_
    all_goals simp only [ze, reduceIte, Nat.reduceEqDiff, Nat.reduceLT, Nat.reduceLeDiff, Nat.reduceAdd, reduceCtorEq, Nat.reduceMul]
    all_goals apply_assumption
    refine AW.ret ?_
    all_goals simp only [zs, reduceIte, Nat.reduceEqDiff, Nat.reduceLT, Nat.reduceLeDiff, Nat.reduceAdd, reduceCtorEq, Nat.reduceMul]
    exact ⟨by simp [wk, wk1], hσ⟩
  · obtain ⟨hu, _⟩ := natP_ok hN
    have hr2 : (u : Int).tmod 2 = ((u % 2 : Nat) : Int) := rfl
    have hq2 : (u : Int).tdiv 2 = ((u / 2 : Nat) : Int) := rfl
    have he1 := eq1 u
    have hwq : IntKind.u64.wrap ((u / 2 : Nat) : Int) = ((u / 2 : Nat) : Int) := wrap_u64 (by omega)
    have hw0 : IntKind.i64.wrap ((u / 2 : Nat) : Int) = ((u / 2 : Nat) : Int) := wrapI _ (by omega) (by omega)
    have hw1 : IntKind.i64.wrap (0 - ((u / 2 : Nat) : Int)) = -((u / 2 : Nat) : Int) := by rw [wrapI _ (by omega) (by omega)]; omega
    have hw2 : IntKind.i64.wrap (-((u / 2 : Nat) : Int) - 1) = -((u / 2 : Nat) : Int) - 1 := wrapI _ (by omega) (by omega)
    refine AW.seq_k fun K6 h6 => ?_
    all_goals refine AW.reg0 ?_
    all_goals iterate 2 (refine S.g rfl rfl fun K' k' => ?_; simp only [zz, reduceIte, Nat.reduceEqDiff, Nat.reduceAdd]; refine k' _ _ ?_; clear k' K')
    all_goals refine S.nil ?_
    all_goals simp only [ze, reduceIte, Nat.reduceEqDiff, Nat.reduceLT, Nat.reduceLeDiff, Nat.reduceAdd, reduceCtorEq, Nat.reduceMul]
    all_goals apply_assumption
    refine AW.seq_k fun K7 h7 => ?_
    all_goals refine AW.reg0 ?_
    all_goals (refine S.g rfl rfl fun K' k' => ?_; simp only [zz, reduceIte, Nat.reduceEqDiff, Nat.reduceAdd, pw, Nat.reduceLT, Nat.reduceLeDiff]; refine k' _ _ ?_; clear k' K')
    all_goals (refine S.g rfl rfl fun K' k' => ?_; simp only [zz, reduceIte, Nat.reduceEqDiff, Nat.reduceLT, Nat.reduceLeDiff, Nat.reduceAdd, reduceCtorEq, Nat.reduceMul, pw, Nat.reduceLT, Nat.reduceLeDiff]; refine (rNat_spec g l _ ho hl).to fun v σ2 hv => ?_; simp only [hN] at hv; obtain ⟨rfl, hσ⟩ := hv <;> (refine k' _ _ ?_; clear k' K'))
    all_goals iterate 5 (refine S.g rfl rfl fun K' k' => ?_; simp only [zz, reduceIte, Nat.reduceEqDiff, Nat.reduceLT, Nat.reduceLeDiff, Nat.reduceAdd, reduceCtorEq, Nat.reduceMul, pw, Nat.reduceLT, Nat.reduceLeDiff]; refine k' _ _ ?_; clear k' K')
    all_goals refine S.nil ?_
    all_goals simp only [ze, reduceIte, Nat.reduceEqDiff, Nat.reduceLT, Nat.reduceLeDiff, Nat.reduceAdd, reduceCtorEq, Nat.reduceMul, pw, Nat.reduceLT, Nat.reduceLeDiff]
    all_goals apply_assumption
    refine AW.seq_k fun K8 h8 => ?_
    refine AW.seq_k fun K9 h9 => ?_
    all_goals refine AW.reg0 ?_
    all_goals iterate 2 (refine S.g rfl rfl fun K' k' => ?_; simp only [zz, reduceIte, Nat.reduceEqDiff, Nat.reduceAdd]; refine k' _ _ ?_; clear k' K')
    all_goals refine S.nil ?_
    all_goals simp only [ze, reduceIte, Nat.reduceEqDiff, Nat.reduceLT, Nat.reduceLeDiff, Nat.reduceAdd, reduceCtorEq, Nat.reduceMul]
    all_goals apply_assumption
    refine AW.cond (b := false) (by simp [ev]) (fun hc => by cases hc) (fun hc => ?_)
    refine AW.skip ?_
    all_goals simp only [zs, reduceIte, Nat.reduceEqDiff, Nat.reduceLT, Nat.reduceLeDiff, Nat.reduceAdd, reduceCtorEq, Nat.reduceMul]
    all_goals apply_assumption
    refine AW.seq_k fun K10 h10 => ?_
    refine AW.seq_k fun K11 h11 => ?_
    all_goals refine AW.reg0 ?_
    all_goals iterate 3 (refine S.g rfl rfl fun K' k' => ?_; simp only [zz, reduceIte, Nat.reduceEqDiff, Nat.reduceAdd, Int.reduceEq, hr2, he1]; refine k' _ _ ?_; clear k' K')
    all_goals refine S.nil ?_
    all_goals simp only [ze, reduceIte, Nat.reduceEqDiff, Nat.reduceLT, Nat.reduceLeDiff, Nat.reduceAdd, reduceCtorEq, Nat.reduceMul, Int.reduceEq, hr2, he1]
    all_goals apply_assumption
    refine AW.cond (b := (u % 2 == 1)) (by simp [ev]) (fun hc => ?_) (fun hc => ?_)
    · refine AW.seq_k fun K12 h12 => ?_
      all_goals refine AW.reg0 ?_
      all_goals iterate 7 (refine S.g rfl rfl fun K' k' => ?_; simp only [zz, reduceIte, Nat.reduceEqDiff, Nat.reduceAdd, cv54_2, Int.reduceEq, hq2, hwq, hw0, hw1, hw2]; refine k' _ _ ?_; clear k' K')
      all_goals refine S.nil ?_
      all_goals simp only [ze, reduceIte, Nat.reduceEqDiff, Nat.reduceLT, Nat.reduceLeDiff, Nat.reduceAdd, reduceCtorEq, Nat.reduceMul, Int.reduceEq, hq2, hwq, hw0, hw1, hw2]
      all_goals apply_assumption
      refine AW.ret ?_
      all_goals simp only [zs, reduceIte, Nat.reduceEqDiff, Nat.reduceLT, Nat.reduceLeDiff, Nat.reduceAdd, reduceCtorEq, Nat.reduceMul]
      have h1 : ¬ u % 2 = 0 := by have : u % 2 = 1 := by simpa using hc
                                  omega
      exact ⟨by simp [wk, wk1, zagB, h1], hσ⟩
    · refine AW.skip ?_
      all_goals simp only [zs, reduceIte, Nat.reduceEqDiff, Nat.reduceLT, Nat.reduceLeDiff, Nat.reduceAdd, reduceCtorEq, Nat.reduceMul]
      all_goals apply_assumption
      refine AW.seq_k fun K13 h13 => ?_
      all_goals refine AW.reg0 ?_
      all_goals iterate 5 (refine S.g rfl rfl fun K' k' => ?_; simp only [zz, reduceIte, Nat.reduceEqDiff, Nat.reduceAdd, cv54_2, Int.reduceEq, hq2, hwq, hw0]; refine k' _ _ ?_; clear k' K')
      all_goals refine S.nil ?_
      all_goals simp only [ze, reduceIte, Nat.reduceEqDiff, Nat.reduceLT, Nat.reduceLeDiff, Nat.reduceAdd, reduceCtorEq, Nat.reduceMul, Int.reduceEq, hq2, hwq, hw0]
      all_goals apply_assumption
      refine AW.ret ?_
      all_goals simp only [zs, reduceIte, Nat.reduceEqDiff, Nat.reduceLT, Nat.reduceLeDiff, Nat.reduceAdd, reduceCtorEq, Nat.reduceMul]
      have h1 : u % 2 = 0 := by have : ¬ u % 2 = 1 := by simpa using hc
                                omega
      exact ⟨by simp [wk, wk1, zagB, h1], hσ⟩
end Go.Abs.M
namespace Go.Abs.M
open Go Go.Abs Go.Proofs
set_option maxRecDepth 20000
set_option linter.unusedSimpArgs false
set_option linter.unusedVariables false
theorem rEnd_spec (g : Nat) (l : List Bool) (σ : Hp) (ho : σ.obj g = some (rsC l)) (hl : l.length < 1099511627776) :
    ACalls Try.prog 99 [ptrV g] σ (fun v σ' => v = .c (.int .i64 (endP l)) ∧ σ' = σ) := by
  refine ACalls.intro Try.call99 Try.func99 rfl Try.ntmps99 Try.results99 (by simp) ?_
  have ho' : σ.obj g = some [.sl (l.map encT)] := ho
  refine AW.seq_k fun K1 h1 => ?_
  all_goals refine AW.reg0 ?_
  all_goals (refine S.g rfl rfl fun K' k' => ?_; simp only [zz, reduceIte, Nat.reduceEqDiff, Nat.reduceAdd]; refine k' _ _ ?_; clear k' K')
  all_goals refine S.nil ?_
  all_goals simp only [ze, reduceIte, Nat.reduceEqDiff, Nat.reduceLT, Nat.reduceLeDiff, Nat.reduceAdd, reduceCtorEq, Nat.reduceMul]
  all_goals apply_assumption
  refine AW.seq_k fun K2 h2 => ?_
  refine AW.seq_k fun K3 h3 => ?_
  all_goals refine AW.reg0 ?_
  all_goals iterate 6 (refine S.g rfl rfl fun K' k' => ?_; simp only [zz, reduceIte, Nat.reduceEqDiff, Nat.reduceLT, Nat.reduceLeDiff, Nat.reduceAdd, reduceCtorEq, Nat.reduceMul, of89_0, ok56, sz56, ag56, sl56, el56, ok4, sz4, ag4, ptrV, ho', map1s, gt_iff_lt, List.getD_cons_zero]; refine k' _ _ ?_; clear k' K')
  all_goals refine S.nil ?_
  all_goals simp only [ze, reduceIte, Nat.reduceEqDiff, Nat.reduceLT, Nat.reduceLeDiff, Nat.reduceAdd, reduceCtorEq, Nat.reduceMul, ptrV, ho', map1s, gt_iff_lt, List.getD_cons_zero]
  all_goals apply_assumption
  refine AW.cond (b := decide (7 < l.length)) (by simp [ev]; try omega) (fun hc => ?_) (fun hc => ?_)
  · have hc := of_decide_eq_true hc
    refine AW.seq_k fun K4 h4 => ?_
    all_goals refine AW.reg0 ?_
    all_goals (refine S.g rfl rfl fun K' k' => ?_; simp only [zz, reduceIte, Nat.reduceEqDiff, Nat.reduceAdd]; refine k' _ _ ?_; clear k' K')
    all_goals refine S.nil ?_
    all_goals simp only [ze, reduceIte, Nat.reduceEqDiff, Nat.reduceLT, Nat.reduceLeDiff, Nat.reduceAdd, reduceCtorEq, Nat.reduceMul]
    all_goals apply_assumption
    refine AW.ret ?_
    all_goals simp only [zs, reduceIte, Nat.reduceEqDiff, Nat.reduceLT, Nat.reduceLeDiff, Nat.reduceAdd, reduceCtorEq, Nat.reduceMul]
    rw [endP, if_pos (by omega)]
  have hc := of_decide_eq_false hc
  refine AW.skip ?_
  all_goals simp only [zs, reduceIte, Nat.reduceEqDiff, Nat.reduceLT, Nat.reduceLeDiff, Nat.reduceAdd, reduceCtorEq, Nat.reduceMul]
  all_goals apply_assumption
  refine AW.seq_k fun K5 h5 => ?_
  refine AW.seq_k fun K6 h6 => ?_
  all_goals refine AW.reg0 ?_
  all_goals (refine S.g rfl rfl fun K' k' => ?_; simp only [zz, reduceIte, Nat.reduceEqDiff, Nat.reduceAdd]; refine k' _ _ ?_; clear k' K')
  all_goals refine S.nil ?_
  all_goals simp only [ze, reduceIte, Nat.reduceEqDiff, Nat.reduceLT, Nat.reduceLeDiff, Nat.reduceAdd, reduceCtorEq, Nat.reduceMul]
  all_goals apply_assumption
  refine AW.block ?_   -- 0
  refine AW.loop (fun m s σ2 => ∃ i, m = l.length - i ∧ i ≤ l.length ∧ σ2 = σ ∧ s.t 0 = ptrV g ∧ s.t 3 = .c (.int .i64 (i : Nat)) ∧ (true ∈ l ↔ true ∈ l.drop i)) l.length ?_ ?_
  · refine ⟨0, rfl, Nat.zero_le _, rfl, ?_⟩
    all_goals simp only [zs, reduceIte, Nat.reduceEqDiff, Nat.reduceLT, Nat.reduceLeDiff, Nat.reduceAdd, reduceCtorEq, Nat.reduceMul]
    simp [ptrV]
  rintro m s σ2 ⟨i, hm, hi, rfl, e0, e3, hmem⟩
  unfold ptrV at e0
  refine AW.seq_k fun K7 h7 => ?_
  refine AW.seq_k fun K8 h8 => ?_
  all_goals refine AW.reg0 ?_
  all_goals iterate 7 (refine S.g rfl rfl fun K' k' => ?_; simp only [zz, reduceIte, Nat.reduceEqDiff, Nat.reduceLT, Nat.reduceLeDiff, Nat.reduceAdd, reduceCtorEq, Nat.reduceMul, of89_0, ok56, sz56, ag56, sl56, el56, ok4, sz4, ag4, e0, e3, ho', map1s, List.getD_cons_zero]; refine k' _ _ ?_; clear k' K')
  all_goals refine S.nil ?_
  all_goals simp only [ze, reduceIte, Nat.reduceEqDiff, Nat.reduceLT, Nat.reduceLeDiff, Nat.reduceAdd, reduceCtorEq, Nat.reduceMul, e0, e3, ho', map1s, List.getD_cons_zero]
  all_goals apply_assumption
  refine AW.cond (b := decide (i < l.length)) (by simp [ev]; try omega) (fun hd => ?_) (fun hd => ?_)
  · have hd := of_decide_eq_true hd
    refine AW.skip ?_
    all_goals simp only [zs, reduceIte, Nat.reduceEqDiff, Nat.reduceLT, Nat.reduceLeDiff, Nat.reduceAdd, reduceCtorEq, Nat.reduceMul]
    all_goals apply_assumption
    obtain ⟨x, hx⟩ : ∃ x, l[i]? = some x := ⟨_, List.getElem?_eq_getElem hd⟩
    have hxe := encT_at hx
    have hcons : l.drop i = x :: l.drop (i + 1) := by
      rw [List.drop_eq_getElem_cons hd]
      rw [List.getElem?_eq_getElem hd] at hx
      injection hx with hx
      rw [hx]
    have hwi : IntKind.i64.wrap ((i : Int) + 1) = ((i + 1 : Nat) : Int) := by rw [wrap_small _ (by omega) (by omega)]; rfl
    refine AW.seq_k fun K9 h9 => ?_
    refine AW.block ?_   -- 1
    refine AW.seq_k fun K10 h10 => ?_
    all_goals refine AW.reg0 ?_
    all_goals iterate 7 (refine S.g rfl rfl fun K' k' => ?_; simp only [zz, reduceIte, Nat.reduceEqDiff, Nat.reduceLT, Nat.reduceLeDiff, Nat.reduceAdd, reduceCtorEq, Nat.reduceMul, of89_0, ok56, sz56, ag56, sl56, el56, ok4, sz4, ag4, e0, e3, ho', map1s, hd, hxe, encT, List.length_singleton, List.getD_cons_zero]; refine k' _ _ ?_; clear k' K')
    all_goals refine S.nil ?_
    all_goals simp only [ze, reduceIte, Nat.reduceEqDiff, Nat.reduceLT, Nat.reduceLeDiff, Nat.reduceAdd, reduceCtorEq, Nat.reduceMul, e0, e3, ho', map1s, hd, hxe, encT, List.length_singleton, List.getD_cons_zero]
    all_goals apply_assumption
    refine AW.cond (b := x) (by simp [ev]) (fun hf => ?_) (fun hf => ?_)
    · refine AW.seq_k fun K11 h11 => ?_
      all_goals refine AW.reg0 ?_
      all_goals (refine S.g rfl rfl fun K' k' => ?_; simp only [zz, reduceIte, Nat.reduceEqDiff, Nat.reduceAdd]; refine k' _ _ ?_; clear k' K')
      all_goals refine S.nil ?_
      all_goals simp only [ze, reduceIte, Nat.reduceEqDiff, Nat.reduceLT, Nat.reduceLeDiff, Nat.reduceAdd, reduceCtorEq, Nat.reduceMul]
      all_goals apply_assumption
      refine AW.ret ?_
      all_goals simp only [zs, reduceIte, Nat.reduceEqDiff, Nat.reduceLT, Nat.reduceLeDiff, Nat.reduceAdd, reduceCtorEq, Nat.reduceMul]
      have : true ∈ l := by rw [hmem, hcons, hf]; exact List.mem_cons_self
      rw [endP, if_neg (by omega), if_pos this]
    · refine AW.skip ?_
      all_goals simp only [zs, reduceIte, Nat.reduceEqDiff, Nat.reduceLT, Nat.reduceLeDiff, Nat.reduceAdd, reduceCtorEq, Nat.reduceMul]
      all_goals apply_assumption
      all_goals refine AW.reg0 ?_
      all_goals iterate 3 (refine S.g rfl rfl fun K' k' => ?_; simp only [zz, reduceIte, Nat.reduceEqDiff, Nat.reduceAdd, e0, e3, hwi]; refine k' _ _ ?_; clear k' K')
      all_goals refine S.nil ?_
      all_goals simp only [ze, reduceIte, Nat.reduceEqDiff, Nat.reduceLT, Nat.reduceLeDiff, Nat.reduceAdd, reduceCtorEq, Nat.reduceMul, e0, e3, hwi]
      refine ⟨l.length - (i + 1), by omega, i + 1, rfl, by omega, rfl, rfl, ?_⟩
      rw [hmem, hcons, hf]; simp
  · have hd := of_decide_eq_false hd
    refine AW.exit ?_
    all_goals simp only [zs, reduceIte, Nat.reduceEqDiff, Nat.reduceLT, Nat.reduceLeDiff, Nat.reduceAdd, reduceCtorEq, Nat.reduceMul]
    all_goals apply_assumption
    refine AW.seq_k fun K12 h12 => ?_
    all_goals refine AW.reg0 ?_
    all_goals (refine S.g rfl rfl fun K' k' => ?_; simp only [zz, reduceIte, Nat.reduceEqDiff, Nat.reduceAdd]; refine k' _ _ ?_; clear k' K')
    all_goals refine S.nil ?_
    all_goals simp only [ze, reduceIte, Nat.reduceEqDiff, Nat.reduceLT, Nat.reduceLeDiff, Nat.reduceAdd, reduceCtorEq, Nat.reduceMul]
    all_goals apply_assumption
    refine AW.ret ?_
    all_goals simp only [zs, reduceIte, Nat.reduceEqDiff, Nat.reduceLT, Nat.reduceLeDiff, Nat.reduceAdd, reduceCtorEq, Nat.reduceMul]
    have : ¬ true ∈ l := by rw [hmem, List.drop_eq_nil_of_le (by omega)]; simp
    rw [endP, if_neg (by omega), if_neg this]
end Go.Abs.M
namespace Go.Abs.M
open Go Go.Abs Go.Proofs
set_option maxRecDepth 20000
set_option linter.unusedSimpArgs false
set_option linter.unusedVariables false
theorem Fr.rs {g : Nat} {l l' : List Bool} {σ : Hp} (ho : σ.obj g = some (rsC l)) : Fr g σ (σ.setObj g (some (rsC l'))) :=
  ⟨fun x c hx hc => by simp [hx, hc], fun k x hk _ => ⟨by simp [hk], by simp [skN, rsC]⟩⟩
theorem rText_spec (g : Nat) (l : List Bool) (σ : Hp) (ho : σ.obj g = some (rsC l)) (hl : l.length < 1099511627776) :
    ACalls Try.prog 126 [ptrV g] σ (fun v σ' => match textP l with
      | .ok (t, c) => v = .tup [.c (.string (strOf t)), .c (.int .i64 0)] ∧ σ'.obj g = some (rsC (l.drop c)) ∧ Fr g σ σ'
      | .error e => v = .tup [.c (.string ⟨#[]⟩), .c (.int .i64 e)] ∧ σ'.obj g = some (rsC l) ∧ Fr g σ σ') := by
  refine ACalls.intro Try.call126 Try.func126 rfl Try.ntmps126 Try.results126 (by simp) ?_
  have ho' : σ.obj g = some [.sl (l.map encT)] := ho
  refine AW.seq_k fun K1 h1 => ?_
  all_goals refine AW.reg0 ?_
  all_goals iterate 2 (refine S.g rfl rfl fun K' k' => ?_; simp only [zz, reduceIte, Nat.reduceEqDiff, Nat.reduceAdd]; refine k' _ _ ?_; clear k' K')
  all_goals refine S.nil ?_
  all_goals simp only [ze, reduceIte, Nat.reduceEqDiff, Nat.reduceLT, Nat.reduceLeDiff, Nat.reduceAdd, reduceCtorEq, Nat.reduceMul]
  all_goals apply_assumption
  refine AW.seq_k fun K2 h2 => ?_
  all_goals refine AW.reg0 ?_
  all_goals iterate 5 (refine S.g rfl rfl fun K' k' => ?_; simp only [zz, reduceIte, Nat.reduceEqDiff, Nat.reduceLT, Nat.reduceLeDiff, Nat.reduceAdd, reduceCtorEq, Nat.reduceMul, of89_0, ok56, sz56, ag56, ptrV, ho', map1s, List.getD_cons_zero]; refine k' _ _ ?_; clear k' K')
  all_goals refine S.nil ?_
  all_goals simp only [ze, reduceIte, Nat.reduceEqDiff, Nat.reduceLT, Nat.reduceLeDiff, Nat.reduceAdd, reduceCtorEq, Nat.reduceMul, ptrV, ho', map1s, List.getD_cons_zero]
  all_goals apply_assumption
  unfold textP
  rcases hN : natP l with e | ⟨u, c⟩
  · have he := natP_err hN
    refine AW.seq_k fun K3 h3 => ?_
    all_goals refine AW.reg0 ?_
    all_goals (refine S.g rfl rfl fun K' k' => ?_; simp only [zz, reduceIte, Nat.reduceEqDiff, Nat.reduceAdd, Nat.reduceLT, Nat.reduceLeDiff]; refine k' _ _ ?_; clear k' K')
    all_goals (refine S.g rfl rfl fun K' k' => ?_; simp only [zz, reduceIte, Nat.reduceEqDiff, Nat.reduceLT, Nat.reduceLeDiff, Nat.reduceAdd, reduceCtorEq, Nat.reduceMul, Nat.reduceLT, Nat.reduceLeDiff]; refine (rNat_spec g l _ ho hl).to fun v σ2 hv => ?_; simp only [hN] at hv; obtain ⟨rfl, hσ⟩ := hv <;> (refine k' _ _ ?_; clear k' K'))
    all_goals iterate 5 (refine S.g rfl rfl fun K' k' => ?_; simp only [zz, reduceIte, Nat.reduceEqDiff, Nat.reduceLT, Nat.reduceLeDiff, Nat.reduceAdd, reduceCtorEq, Nat.reduceMul, Nat.reduceLT, Nat.reduceLeDiff]; refine k' _ _ ?_; clear k' K')
    all_goals refine S.nil ?_
    all_goals simp only [ze, reduceIte, Nat.reduceEqDiff, Nat.reduceLT, Nat.reduceLeDiff, Nat.reduceAdd, reduceCtorEq, Nat.reduceMul, Nat.reduceLT, Nat.reduceLeDiff]
    all_goals apply_assumption
    subst hσ
    refine AW.seq_k fun K4 h4 => ?_
    refine AW.seq_k fun K5 h5 => ?_
    all_goals refine AW.reg0 ?_
    all_goals iterate 2 (refine S.g rfl rfl fun K' k' => ?_; simp only [zz, reduceIte, Nat.reduceEqDiff, Nat.reduceAdd]; refine k' _ _ ?_; clear k' K')
    all_goals refine S.nil ?_
    all_goals simp only [ze, reduceIte, Nat.reduceEqDiff, Nat.reduceLT, Nat.reduceLeDiff, Nat.reduceAdd, reduceCtorEq, Nat.reduceMul]
    all_goals apply_assumption
    refine AW.cond (b := decide (e ≠ 0)) (by simp [ev]; try rfl) (fun hc => ?_) (fun hc => absurd he (by simpa using of_decide_eq_false hc))
    refine AW.seq_k fun K6 h6 => ?_
    all_goals refine AW.reg0 ?_
    all_goals iterate 3 (refine S.g rfl rfl fun K' k' => ?_; simp only [zz, reduceIte, Nat.reduceEqDiff, Nat.reduceAdd]; refine k' _ _ ?_; clear k' K')
    all_goals refine S.nil ?_
    all_goals simp only [ze, reduceIte, Nat.reduceEqDiff, Nat.reduceLT, Nat.reduceLeDiff, Nat.reduceAdd, reduceCtorEq, Nat.reduceMul]
    all_goals apply_assumption
    refine AW.ret ?_
    all_goals simp only [zs, reduceIte, Nat.reduceEqDiff, Nat.reduceLT, Nat.reduceLeDiff, Nat.reduceAdd, reduceCtorEq, Nat.reduceMul]
    exact ⟨by simp [wk, wk1], ho, Fr.refl _ _⟩
  · obtain ⟨hu, hcl⟩ := natP_ok hN
    refine AW.seq_k fun K7 h7 => ?_
    all_goals refine AW.reg0 ?_
    all_goals (refine S.g rfl rfl fun K' k' => ?_; simp only [zz, reduceIte, Nat.reduceEqDiff, Nat.reduceAdd, Nat.reduceLT, Nat.reduceLeDiff]; refine k' _ _ ?_; clear k' K')
    all_goals (refine S.g rfl rfl fun K' k' => ?_; simp only [zz, reduceIte, Nat.reduceEqDiff, Nat.reduceLT, Nat.reduceLeDiff, Nat.reduceAdd, reduceCtorEq, Nat.reduceMul, Nat.reduceLT, Nat.reduceLeDiff]; refine (rNat_spec g l _ ho hl).to fun v σ2 hv => ?_; simp only [hN] at hv; obtain ⟨rfl, hσ⟩ := hv <;> (refine k' _ _ ?_; clear k' K'))
    all_goals iterate 5 (refine S.g rfl rfl fun K' k' => ?_; simp only [zz, reduceIte, Nat.reduceEqDiff, Nat.reduceLT, Nat.reduceLeDiff, Nat.reduceAdd, reduceCtorEq, Nat.reduceMul, Nat.reduceLT, Nat.reduceLeDiff]; refine k' _ _ ?_; clear k' K')
    all_goals refine S.nil ?_
    all_goals simp only [ze, reduceIte, Nat.reduceEqDiff, Nat.reduceLT, Nat.reduceLeDiff, Nat.reduceAdd, reduceCtorEq, Nat.reduceMul, Nat.reduceLT, Nat.reduceLeDiff]
    all_goals apply_assumption
    have ho2 : σ2.obj g = some (rsC (l.drop c)) := by rw [hσ]; simp
    have ho3 : σ2.obj g = some [.sl ((l.drop c).map encT)] := ho2
    have hfr : Fr g σ σ2 := by rw [hσ]; exact Fr.rs ho
    have hlen : (l.drop c).length = l.length - c := List.length_drop
    have hq8 : ((l.length - c : Nat) : Int).tdiv 8 = (((l.length - c) / 8 : Nat) : Int) := rfl
    have hwq : IntKind.i64.wrap (((l.length - c) / 8 : Nat) : Int) = (((l.length - c) / 8 : Nat) : Int) := wrap_small _ (by omega) (by omega)
    have hwu : IntKind.u64.wrap (((l.length - c) / 8 : Nat) : Int) = (((l.length - c) / 8 : Nat) : Int) := wrap_u64 (by omega)
    refine AW.seq_k fun K8 h8 => ?_
    refine AW.seq_k fun K9 h9 => ?_
    all_goals refine AW.reg0 ?_
    all_goals iterate 2 (refine S.g rfl rfl fun K' k' => ?_; simp only [zz, reduceIte, Nat.reduceEqDiff, Nat.reduceAdd]; refine k' _ _ ?_; clear k' K')
    all_goals refine S.nil ?_
    all_goals simp only [ze, reduceIte, Nat.reduceEqDiff, Nat.reduceLT, Nat.reduceLeDiff, Nat.reduceAdd, reduceCtorEq, Nat.reduceMul]
    all_goals apply_assumption
    refine AW.cond (b := false) (by simp [ev]) (fun hc => by cases hc) (fun hc => ?_)
    refine AW.skip ?_
    all_goals simp only [zs, reduceIte, Nat.reduceEqDiff, Nat.reduceLT, Nat.reduceLeDiff, Nat.reduceAdd, reduceCtorEq, Nat.reduceMul]
    all_goals apply_assumption
    refine AW.seq_k fun K10 h10 => ?_
    refine AW.seq_k fun K11 h11 => ?_
    all_goals refine AW.reg0 ?_
    all_goals iterate 9 (refine S.g rfl rfl fun K' k' => ?_; simp only [zz, reduceIte, Nat.reduceEqDiff, Nat.reduceLT, Nat.reduceLeDiff, Nat.reduceAdd, reduceCtorEq, Nat.reduceMul, of89_0, ok56, sz56, ag56, sl56, el56, ok4, sz4, ag4, cv3_54, ho3, map1s, hlen, Int.reduceEq, hq8, hwq, hwu, gt_iff_lt, List.getD_cons_zero]; refine k' _ _ ?_; clear k' K')
    all_goals refine S.nil ?_
    all_goals simp only [ze, reduceIte, Nat.reduceEqDiff, Nat.reduceLT, Nat.reduceLeDiff, Nat.reduceAdd, reduceCtorEq, Nat.reduceMul, ho3, map1s, hlen, Int.reduceEq, hq8, hwq, hwu, gt_iff_lt, List.getD_cons_zero]
    all_goals apply_assumption
    refine AW.cond (b := decide ((l.length - c) / 8 < u)) (by simp [ev]) (fun hd => ?_) (fun hd => ?_)
    · have hd := of_decide_eq_true hd
      refine AW.seq_k fun K12 h12 => ?_
      all_goals refine AW.reg0 ?_
      all_goals iterate 5 (refine S.g rfl rfl fun K' k' => ?_; simp only [zz, reduceIte, Nat.reduceEqDiff, Nat.reduceLT, Nat.reduceLeDiff, Nat.reduceAdd, reduceCtorEq, Nat.reduceMul, of89_0, ok56, sz56, ag56, ho3, map1s]; refine k' _ _ ?_; clear k' K')
      all_goals refine S.nil ?_
      all_goals simp only [ze, reduceIte, Nat.reduceEqDiff, Nat.reduceLT, Nat.reduceLeDiff, Nat.reduceAdd, reduceCtorEq, Nat.reduceMul, ho3, map1s]
      all_goals apply_assumption
      refine AW.seq_k fun K13 h13 => ?_
      all_goals refine AW.reg0 ?_
      all_goals iterate 2 (refine S.g rfl rfl fun K' k' => ?_; simp only [zz, reduceIte, Nat.reduceEqDiff, Nat.reduceAdd]; refine k' _ _ ?_; clear k' K')
      all_goals refine S.nil ?_
      all_goals simp only [ze, reduceIte, Nat.reduceEqDiff, Nat.reduceLT, Nat.reduceLeDiff, Nat.reduceAdd, reduceCtorEq, Nat.reduceMul]
      all_goals apply_assumption
      refine AW.ret ?_
      all_goals simp only [zs, reduceIte, Nat.reduceEqDiff, Nat.reduceLT, Nat.reduceLeDiff, Nat.reduceAdd, reduceCtorEq, Nat.reduceMul]
      rw [if_pos hd]
      exact ⟨by simp [wk, wk1], by simp [rsC], hfr.trans (Fr.rs ho2)⟩
    have hd := of_decide_eq_false hd
    refine AW.skip ?_
    all_goals simp only [zs, reduceIte, Nat.reduceEqDiff, Nat.reduceLT, Nat.reduceLeDiff, Nat.reduceAdd, reduceCtorEq, Nat.reduceMul]
    all_goals apply_assumption
    refine AW.seq_k fun K14 h14 => ?_
    all_goals refine AW.reg0 ?_
    all_goals (refine S.g rfl rfl fun K' k' => ?_; simp only [zz, reduceIte, Nat.reduceEqDiff, Nat.reduceAdd]; refine k' _ _ ?_; clear k' K')
    all_goals refine S.nil ?_
    all_goals simp only [ze, reduceIte, Nat.reduceEqDiff, Nat.reduceLT, Nat.reduceLeDiff, Nat.reduceAdd, reduceCtorEq, Nat.reduceMul]
    all_goals apply_assumption
    refine AW.seq_k fun K15 h15 => ?_
    refine AW.seq_k fun K16 h16 => ?_
    all_goals refine AW.reg0 ?_
    all_goals (refine S.g rfl rfl fun K' k' => ?_; simp only [zz, reduceIte, Nat.reduceEqDiff, Nat.reduceAdd]; refine k' _ _ ?_; clear k' K')
    all_goals refine S.nil ?_
    all_goals simp only [ze, reduceIte, Nat.reduceEqDiff, Nat.reduceLT, Nat.reduceLeDiff, Nat.reduceAdd, reduceCtorEq, Nat.reduceMul]
    all_goals apply_assumption
    have hS0 : σ2.setObj g (some (rsC (l.drop (c + 8 * 0)))) = σ2 := by rw [Nat.mul_zero, Nat.add_zero]; exact setObj_id ho2
    refine AW.block ?_   -- 0
    refine AW.loop (fun m s σ' => ∃ i, m = u - i ∧ i ≤ u ∧ s.t 0 = ptrV g ∧ s.t 5 = .c (.int .u64 u) ∧ s.t 8 = .c (.int .u64 (i : Nat)) ∧
      ((i = 0 ∧ s.t 7 = .c (.slice none 0 0) ∧ σ' = σ2) ∨ (0 < i ∧ ∃ k, s.t 7 = .gl k ∧ σ2.gr k = none ∧
        σ' = (σ2.setObj g (some (rsC (l.drop (c + 8 * i))))).setGr k (some ((5, 1), ((List.range i).map fun i => valN ((l.drop (c + 8 * i)).take 8)).map encB))))) u ?_ ?_
    · refine ⟨0, rfl, Nat.zero_le _, ?_⟩
      all_goals simp only [zs, reduceIte, Nat.reduceEqDiff, Nat.reduceLT, Nat.reduceLeDiff, Nat.reduceAdd, reduceCtorEq, Nat.reduceMul]
      simp [ptrV]
    rintro m s σ' ⟨i, hm, hi, e0, e5, e8, hst⟩
    refine AW.seq_k fun K17 h17 => ?_
    refine AW.seq_k fun K18 h18 => ?_
    all_goals refine AW.reg0 ?_
    all_goals iterate 3 (refine S.g rfl rfl fun K' k' => ?_; simp only [zz, reduceIte, Nat.reduceEqDiff, Nat.reduceAdd, e5, e8]; refine k' _ _ ?_; clear k' K')
    all_goals refine S.nil ?_
    all_goals simp only [ze, reduceIte, Nat.reduceEqDiff, Nat.reduceLT, Nat.reduceLeDiff, Nat.reduceAdd, reduceCtorEq, Nat.reduceMul, e5, e8]
    all_goals apply_assumption
    refine AW.cond (b := decide (i < u)) (by simp [ev]) (fun hc => ?_) (fun hc => ?_)
    · refine AW.skip ?_
      all_goals simp only [zs, reduceIte, Nat.reduceEqDiff, Nat.reduceLT, Nat.reduceLeDiff, Nat.reduceAdd, reduceCtorEq, Nat.reduceMul]
      all_goals apply_assumption
      have hin := of_decide_eq_true hc
      have hv8 : valN ((l.drop (c + 8 * i)).take 8) < 256 := Nat.lt_of_lt_of_le (valN_lt _) (by rw [show 256 = 2 ^ 8 from rfl]; exact Nat.pow_le_pow_right (by omega) (by rw [List.length_take]; omega))
      have hw8 := wrap_u8 hv8
      have hwi : IntKind.u64.wrap ((i : Int) + 1) = ((i + 1 : Nat) : Int) := by rw [← wrap_u64 (n := i + 1) (by omega)]; rfl
      have hs4 : σ'.obj g = some (rsC (l.drop (c + 8 * i))) := by
        rcases hst with ⟨rfl, _, hσ'⟩ | ⟨_, k, _, _, hσ'⟩
        · rw [hσ']; exact ho2
        · rw [hσ']; simp
      refine AW.seq_k fun K19 h19 => ?_
      refine AW.block ?_   -- 1
      refine AW.seq_k fun K20 h20 => ?_
      all_goals refine AW.reg0 ?_
      all_goals (refine S.g rfl rfl fun K' k' => ?_; simp only [zz, reduceIte, Nat.reduceEqDiff, Nat.reduceAdd, e0, pw, Nat.reduceLT, Nat.reduceLeDiff]; refine k' _ _ ?_; clear k' K')
      all_goals (refine S.g rfl rfl fun K' k' => ?_; simp only [zz, reduceIte, Nat.reduceEqDiff, Nat.reduceLT, Nat.reduceLeDiff, Nat.reduceAdd, reduceCtorEq, Nat.reduceMul, e0, pw, Nat.reduceLT, Nat.reduceLeDiff]; refine (rBits_spec g (l.drop (c + 8 * i)) 8 _ hs4 (by rw [List.length_drop]; omega) (by omega)).to fun v σ5 hv => ?_; rw [if_pos (by rw [List.length_drop]; omega)] at hv; obtain ⟨rfl, hσ5⟩ := hv <;> (refine k' _ _ ?_; clear k' K'))
      all_goals iterate 5 (refine S.g rfl rfl fun K' k' => ?_; simp only [zz, reduceIte, Nat.reduceEqDiff, Nat.reduceLT, Nat.reduceLeDiff, Nat.reduceAdd, reduceCtorEq, Nat.reduceMul, e0, pw, Nat.reduceLT, Nat.reduceLeDiff]; refine k' _ _ ?_; clear k' K')
      all_goals refine S.nil ?_
      all_goals simp only [ze, reduceIte, Nat.reduceEqDiff, Nat.reduceLT, Nat.reduceLeDiff, Nat.reduceAdd, reduceCtorEq, Nat.reduceMul, e0, pw, Nat.reduceLT, Nat.reduceLeDiff]
      all_goals apply_assumption
      have hnx : l.drop (c + 8 * (i + 1)) = (l.drop (c + 8 * i)).drop 8 := by rw [List.drop_drop]; congr 1
      rcases hst with ⟨rfl, e7, hσ'⟩ | ⟨hi0, k, e7, hk, hσ'⟩
      · skip
        all_goals refine AW.reg0 ?_
        all_goals iterate 3 (refine S.g rfl rfl fun K' k' => ?_; simp only [zz, reduceIte, Nat.reduceEqDiff, Nat.reduceAdd, cv54_5, e7, hw8]; refine k' _ _ ?_; clear k' K')
        all_goals (refine S.g rfl rfl fun K' k' => ?_; simp only [zb, reduceIte, Nat.reduceEqDiff, Nat.reduceLT, Nat.reduceLeDiff, Nat.reduceAdd, reduceCtorEq, Nat.reduceMul, sl48, el48, ok5, sz5, ag5, zt5, by5, e7, hw8]; refine k' _ _ ?_; clear k' K')
        all_goals (refine S.g rfl rfl fun K' k' => ?_; simp only [zz, reduceIte, Nat.reduceEqDiff, Nat.reduceLT, Nat.reduceLeDiff, Nat.reduceAdd, reduceCtorEq, Nat.reduceMul, sl48, el48, ok5, sz5, ag5, zt5, by5, e7, hw8]; refine ⟨by simp, by unfold maxLen; (try simp only [List.length_map, List.length_range, List.length_cons, List.length_nil]); omega, by unfold reach; (try simp only [List.length_map, List.length_range, List.length_cons, List.length_nil]); omega, fun k2 hk2 => ?_⟩ <;> (refine k' _ _ ?_; clear k' K'))
        all_goals (refine S.g rfl rfl fun K' k' => ?_; simp only [zz, reduceIte, Nat.reduceEqDiff, Nat.reduceAdd, e7, hw8]; refine k' _ _ ?_; clear k' K')
        all_goals refine S.nil ?_
        all_goals simp only [ze, reduceIte, Nat.reduceEqDiff, Nat.reduceLT, Nat.reduceLeDiff, Nat.reduceAdd, reduceCtorEq, Nat.reduceMul, e7, hw8]
        all_goals apply_assumption
        all_goals refine AW.reg0 ?_
        all_goals iterate 3 (refine S.g rfl rfl fun K' k' => ?_; simp only [zz, reduceIte, Nat.reduceEqDiff, Nat.reduceAdd, e0, e5, e8, hwi, pw]; refine k' _ _ ?_; clear k' K')
        all_goals refine S.nil ?_
        all_goals simp only [ze, reduceIte, Nat.reduceEqDiff, Nat.reduceLT, Nat.reduceLeDiff, Nat.reduceAdd, reduceCtorEq, Nat.reduceMul, e0, e5, e8, hwi, pw]
        refine ⟨u - 1, by omega, 1, rfl, by omega, rfl, .inr ⟨by omega, k2, rfl, by rw [hσ5, hσ'] at hk2; simpa using hk2, ?_⟩⟩
        rw [hσ5, hσ', hnx]; rfl
      · have hgk : σ5.gr k = some ((5, 1), ((List.range i).map fun i => valN ((l.drop (c + 8 * i)).take 8)).map encB) := by rw [hσ5, hσ']; simp
        all_goals refine AW.reg0 ?_
        all_goals iterate 3 (refine S.g rfl rfl fun K' k' => ?_; simp only [zz, reduceIte, Nat.reduceEqDiff, Nat.reduceAdd, cv54_5, e7, hw8, hgk]; refine k' _ _ ?_; clear k' K')
        all_goals (refine S.g rfl rfl fun K' k' => ?_; simp only [zb, reduceIte, Nat.reduceEqDiff, Nat.reduceLT, Nat.reduceLeDiff, Nat.reduceAdd, reduceCtorEq, Nat.reduceMul, sl48, el48, ok5, sz5, ag5, zt5, by5, e7, hw8, hgk]; refine k' _ _ ?_; clear k' K')
        all_goals (refine S.g rfl rfl fun K' k' => ?_; simp only [zz, reduceIte, Nat.reduceEqDiff, Nat.reduceLT, Nat.reduceLeDiff, Nat.reduceAdd, reduceCtorEq, Nat.reduceMul, sl48, el48, ok5, sz5, ag5, zt5, by5, e7, hw8, hgk]; refine ⟨by simp, by unfold maxLen; (try simp only [List.length_map, List.length_range, List.length_cons, List.length_nil]); omega, by unfold reach; (try simp only [List.length_map, List.length_range, List.length_cons, List.length_nil]); omega, fun k2 hk2 => ?_⟩ <;> (refine k' _ _ ?_; clear k' K'))
        all_goals (refine S.g rfl rfl fun K' k' => ?_; simp only [zz, reduceIte, Nat.reduceEqDiff, Nat.reduceAdd, e7, hw8, hgk]; refine k' _ _ ?_; clear k' K')
        all_goals refine S.nil ?_
        all_goals simp only [ze, reduceIte, Nat.reduceEqDiff, Nat.reduceLT, Nat.reduceLeDiff, Nat.reduceAdd, reduceCtorEq, Nat.reduceMul, e7, hw8, hgk]
        all_goals apply_assumption
        all_goals refine AW.reg0 ?_
        all_goals iterate 3 (refine S.g rfl rfl fun K' k' => ?_; simp only [zz, reduceIte, Nat.reduceEqDiff, Nat.reduceAdd, e0, e5, e8, hwi, pw]; refine k' _ _ ?_; clear k' K')
        all_goals refine S.nil ?_
        all_goals simp only [ze, reduceIte, Nat.reduceEqDiff, Nat.reduceLT, Nat.reduceLeDiff, Nat.reduceAdd, reduceCtorEq, Nat.reduceMul, e0, e5, e8, hwi, pw]
        have hk3 : σ2.gr k2 = none := by
          by_cases e : k2 = k
          · rw [e]; exact hk
          · rw [hσ5, hσ'] at hk2; simpa [e] using hk2
        refine ⟨u - (i + 1), by omega, i + 1, rfl, by omega, rfl, .inr ⟨by omega, k2, rfl, hk3, ?_⟩⟩
        rw [hσ5, hσ', hnx, List.range_succ]
        simp only [Hp.setGr, Hp.setObj, Hp.mk.injEq]
        refine ⟨?_, ?_⟩ <;> funext x
        · by_cases hx : x = g
          · simp only [hx, if_true]
          · simp only [hx, if_false]
        · by_cases hy : x = k2
          · simp [hy, encB]
          · by_cases hz : x = k
            · simp only [hz, if_true]; rw [if_neg (by rw [← hz]; exact hy), if_neg (by rw [← hz]; exact hy)]; exact hk.symm
            · simp [hy, hz]
    · refine AW.exit ?_
      all_goals simp only [zs, reduceIte, Nat.reduceEqDiff, Nat.reduceLT, Nat.reduceLeDiff, Nat.reduceAdd, reduceCtorEq, Nat.reduceMul]
      all_goals apply_assumption
      have hin := of_decide_eq_false hc
      have hi2 : i = u := by omega
      subst hi2
      have hall : ∀ x ∈ (List.range i).map (fun i => valN ((l.drop (c + 8 * i)).take 8)), x < 256 := fun x hx => by
        obtain ⟨j, _, rfl⟩ := List.mem_map.1 hx
        exact Nat.lt_of_lt_of_le (valN_lt _) (by rw [show 256 = 2 ^ 8 from rfl]; exact Nat.pow_le_pow_right (by omega) (by rw [List.length_take]; omega))
      rcases hst with ⟨rfl, e7, hσ'⟩ | ⟨hi0, k, e7, hk, hσ'⟩
      · refine AW.seq_k fun K21 h21 => ?_
        all_goals refine AW.reg0 ?_
        all_goals (refine S.g rfl rfl fun K' k' => ?_; simp only [zz, reduceIte, Nat.reduceEqDiff, Nat.reduceAdd, e7]; refine k' _ _ ?_; clear k' K')
        all_goals (refine S.g rfl rfl fun K' k' => ?_; simp only [zz, reduceIte, Nat.reduceEqDiff, Nat.reduceLT, Nat.reduceLeDiff, Nat.reduceAdd, reduceCtorEq, Nat.reduceMul, cv48_9, e7]; (first | refine ⟨_, encB_u8 hall, ?_⟩ | refine ⟨[], rfl, ?_⟩) <;> (refine k' _ _ ?_; clear k' K'))
        all_goals iterate 2 (refine S.g rfl rfl fun K' k' => ?_; simp only [zz, reduceIte, Nat.reduceEqDiff, Nat.reduceAdd, e7]; refine k' _ _ ?_; clear k' K')
        all_goals refine S.nil ?_
        all_goals simp only [ze, reduceIte, Nat.reduceEqDiff, Nat.reduceLT, Nat.reduceLeDiff, Nat.reduceAdd, reduceCtorEq, Nat.reduceMul, e7]
        all_goals apply_assumption
        refine AW.ret ?_
        all_goals simp only [zs, reduceIte, Nat.reduceEqDiff, Nat.reduceLT, Nat.reduceLeDiff, Nat.reduceAdd, reduceCtorEq, Nat.reduceMul]
        rw [if_neg hd]
        refine ⟨by simp [wk, wk1, strOf], by rw [hσ']; exact ho2, by rw [hσ']; exact hfr⟩
      · have hgk : σ'.gr k = some ((5, 1), ((List.range i).map fun i => valN ((l.drop (c + 8 * i)).take 8)).map encB) := by rw [hσ']; simp
        refine AW.seq_k fun K22 h22 => ?_
        all_goals refine AW.reg0 ?_
        all_goals (refine S.g rfl rfl fun K' k' => ?_; simp only [zz, reduceIte, Nat.reduceEqDiff, Nat.reduceAdd, e7, hgk]; refine k' _ _ ?_; clear k' K')
        all_goals (refine S.g rfl rfl fun K' k' => ?_; simp only [zz, reduceIte, Nat.reduceEqDiff, Nat.reduceLT, Nat.reduceLeDiff, Nat.reduceAdd, reduceCtorEq, Nat.reduceMul, cv48_9, e7, hgk]; (first | refine ⟨_, encB_u8 hall, ?_⟩ | refine ⟨[], rfl, ?_⟩) <;> (refine k' _ _ ?_; clear k' K'))
        all_goals iterate 2 (refine S.g rfl rfl fun K' k' => ?_; simp only [zz, reduceIte, Nat.reduceEqDiff, Nat.reduceAdd, e7, hgk]; refine k' _ _ ?_; clear k' K')
        all_goals refine S.nil ?_
        all_goals simp only [ze, reduceIte, Nat.reduceEqDiff, Nat.reduceLT, Nat.reduceLeDiff, Nat.reduceAdd, reduceCtorEq, Nat.reduceMul, e7, hgk]
        all_goals apply_assumption
        refine AW.ret ?_
        all_goals simp only [zs, reduceIte, Nat.reduceEqDiff, Nat.reduceLT, Nat.reduceLeDiff, Nat.reduceAdd, reduceCtorEq, Nat.reduceMul]
        rw [if_neg hd]
        refine ⟨by simp only [wk, wk1, List.map]; rfl, by rw [hσ']; simp, hfr.trans ⟨fun x d hx hd => by rw [hσ']; simp [hx, hd], fun j x hj hn => ?_⟩⟩
        have hjk : j ≠ k := fun e => by rw [e, hk] at hj; cases hj
        exact ⟨by rw [hσ']; simp [hjk, hj], by rw [hσ']; simp [skN, rsC]⟩
end Go.Abs.M
namespace Go.Abs.M
open Go Go.Abs Go.Proofs
abbrev Prs (α : Type) := List Bool → Except Int (α × Nat)
def Prs.ret {α : Type} (a : α) : Prs α := fun _ => .ok (a, 0)
def Prs.err {α : Type} (e : Int) : Prs α := fun _ => .error e
def Prs.bind {α β : Type} (p : Prs α) (f : α → Prs β) : Prs β := fun l => match p l with
  | .error e => .error e
  | .ok (a, c) => match f a (l.drop c) with
    | .error e => .error e
    | .ok (b, c2) => .ok (b, c + c2)
def Prs.rep {α : Type} (p : Prs α) : Nat → Prs (List α)
  | 0 => Prs.ret []
  | n + 1 => Prs.bind p fun a => Prs.bind (Prs.rep p n) fun r => Prs.ret (a :: r)
def bitsP (n : Nat) : Prs Nat := fun l => if n ≤ l.length then .ok (valN (l.take n), n) else .error 10
def valP : Prs Val := Prs.bind (bitsP 2) fun k => if k = 1 then Prs.bind numP fun n => Prs.ret ⟨1, n, ⟨#[]⟩⟩ else if k = 2 then Prs.bind textP fun t => Prs.ret ⟨2, 0, strOf t⟩ else Prs.err 40
def attrP : Prs Attr := Prs.bind textP fun t => Prs.bind valP fun v => Prs.ret ⟨strOf t, v⟩
end Go.Abs.M
