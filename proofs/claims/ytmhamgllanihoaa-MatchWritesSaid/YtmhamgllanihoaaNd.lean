import Derived.Test.YtmhamgllanihoaaNc
namespace Go.Abs.M
open Go Go.Abs Go.Proofs
set_option maxRecDepth 20000
set_option linter.unusedSimpArgs false
set_option linter.unusedVariables false

def vbB (v : Val) : List Bool := lowB v.kind.toNat 2 ++ (if v.kind = 1 then numB v.n else textB v.s)
def attrB (a : Attr) : List Bool := textB a.name ++ vbB a.v
def evB (e : Ev) : List Bool := lowB e.src.toNat 4 ++ (natB e.seq.toNat ++ (natB e.time.toNat ++ (textB e.type ++ (lowB e.attrs.length 4 ++ e.attrs.flatMap attrB))))
structure goodE (e : Ev) : Prop where
  src : 0 ≤ e.src ∧ e.src < 16
  seq : 0 ≤ e.seq ∧ e.seq ≤ 1099511627776
  time : 0 ≤ e.time ∧ e.time ≤ 1099511627776
  type : e.type.size ≤ 32
  len : e.attrs.length ≤ 8
  attrs : ∀ a ∈ e.attrs, a.name.size ≤ 32 ∧ (a.v.kind = 1 ∨ a.v.kind = 2) ∧ a.v.s.size ≤ 64 ∧ inI64 a.v.n
theorem Snk.other {g o : Nat} {bs : List Bool} {σ : Hp} {x : Option (List V)} (h : Snk g bs σ) (ho : σ.obj o = none) : Snk g bs (σ.setObj o x) := by
  have hne : g ≠ o := fun e => by
    obtain ⟨v, hv⟩ := h.obj
    rw [e, ho] at hv; cases hv
  rcases h with ⟨h1, h2⟩ | ⟨k, h1, h2⟩
  · exact .inl ⟨h1, by simp [hne, h2]⟩
  · exact .inr ⟨k, by simp [hne, h1], by simp [h2]⟩
theorem Fr.other {g o : Nat} {σ : Hp} {x : Option (List V)} (ho : σ.obj o = none) (hg : g ≠ o) : Fr g σ (σ.setObj o x) := by
  refine ⟨fun y c hy hc => ?_, fun k y hk hn => ⟨by simp [hk], ?_⟩⟩
  · have : y ≠ o := fun e => by rw [e, ho] at hc; cases hc
    simp [this, hc]
  · unfold skN at hn ⊢
    simpa [hg] using hn
theorem setObj_id {σ : Hp} {g : Nat} {x : List V} (h : σ.obj g = some x) : σ.setObj g (some x) = σ := by
  cases σ with
  | mk o r =>
    simp only [Hp.setObj, Hp.mk.injEq, and_true]
    funext j
    by_cases e : j = g
    · simp only [e, if_true]; exact h.symm
    · simp only [e, if_false]
theorem map1 (a : Value) : isMap [.c a] = false := rfl
/-- The closure that gathers errors: none. -/
theorem keep_ok (ob : Nat) (σ : Hp) (h : σ.obj ob = some [.c (.bool true)]) : ACalls Try.prog 149 [.c (.int .i64 0), ptrV ob] σ (fun v σ' => v = .tup [] ∧ σ' = σ) := by
  refine ACalls.intro Try.call149 Try.func149 rfl Try.ntmps149 Try.results149 (by simp) ?_
  all_goals refine AW.reg0 ?_
  all_goals iterate 2 (refine S.g rfl rfl fun K' k' => ?_; simp only [zz, reduceIte, Nat.reduceEqDiff, Nat.reduceLT, Nat.reduceLeDiff, Nat.reduceAdd, reduceCtorEq, Nat.reduceMul, ok4, sz4, ag4, ptrV, h, map1]; refine k' _ _ ?_; clear k' K')
  all_goals iterate 2 (first | (refine S.y rfl rfl rfl rfl fun K' k' => ?_; simp only [zz, reduceIte, Nat.reduceEqDiff, Nat.reduceAdd, ptrV, h, map1]; refine k' _ _ ?_; clear k' K') | ((first | refine S.x rfl rfl rfl rfl fun K' k' => ?_ | refine S.u rfl rfl rfl rfl fun K' k' => ?_); simp only [ze, reduceIte, Nat.reduceEqDiff]; refine k' _ _ ?_; clear k' K'))
  all_goals iterate 2 (refine S.g rfl rfl fun K' k' => ?_; simp only [zz, reduceIte, Nat.reduceEqDiff, Nat.reduceLT, Nat.reduceLeDiff, Nat.reduceAdd, reduceCtorEq, Nat.reduceMul, ok4, sz4, ag4, ptrV, h, map1]; refine k' _ _ ?_; clear k' K')
  all_goals refine S.nil ?_
  all_goals simp only [ze, reduceIte, Nat.reduceEqDiff, Nat.reduceLT, Nat.reduceLeDiff, Nat.reduceAdd, reduceCtorEq, Nat.reduceMul, ptrV, h, map1]
  exact ⟨rfl, setObj_id h⟩
end Go.Abs.M
namespace Go.Abs.M
open Go Go.Abs Go.Proofs
set_option maxRecDepth 20000
set_option linter.unusedSimpArgs false
set_option linter.unusedVariables false

theorem killPt (g d : Nat) : kill d (ptrV g) = ptrV g := rfl
theorem pw : (∀ g, okV (ptrV g) = true) ∧ (∀ g, wk (ptrV g) = ptrV g) ∧ (∀ g d, kill d (ptrV g) = ptrV g) := ⟨okPt, wkPt, killPt⟩
theorem Fr.at {g o : Nat} {σ σ' : Hp} {c : List V} (h : Fr g σ σ') (hne : o ≠ g) (hc : σ.obj o = some c) : σ'.obj o = some c := h.obj o c hne hc
theorem evform_spec (g : Nat) (bs : List Bool) (e : Ev) (σ : Hp) (hs : Snk g bs σ) (he : goodE e) (hf : bs.length + (evB e).length ≤ 1048576) :
    ACalls Try.prog 137 [ptrV g, .agg (encEv e)] σ (fun v σ' => v = .c (.bool true) ∧ Snk g (bs ++ evB e) σ' ∧ Fr g σ σ') := by
  refine ACalls.intro Try.call137 Try.func137 rfl Try.ntmps137 Try.results137 (by simp) ?_
  obtain ⟨hsrc, hseq, htime, htype, hlen, hat⟩ := he
  have hw1 : IntKind.u64.wrap e.src = ((e.src.toNat : Nat) : Int) := by rw [show e.src = ((e.src.toNat : Nat) : Int) by omega, wrap_u64 (by omega)]; simp
  have hw2 : IntKind.u64.wrap e.seq = ((e.seq.toNat : Nat) : Int) := by rw [show e.seq = ((e.seq.toNat : Nat) : Int) by omega, wrap_u64 (by omega)]; simp
  have hw3 : IntKind.u64.wrap e.time = ((e.time.toNat : Nat) : Int) := by rw [show e.time = ((e.time.toNat : Nat) : Int) by omega, wrap_u64 (by omega)]; simp
  have hw4 : IntKind.u64.wrap (e.attrs.length : Int) = (e.attrs.length : Int) := wrap_u64 (by omega)
  have hfl : (evB e).length = 4 + ((natB e.seq.toNat).length + ((natB e.time.toNat).length + ((textB e.type).length + (4 + (e.attrs.flatMap attrB).length)))) := by simp only [evB, List.length_append, lowB_len]
  refine AW.seq_k fun K1 h1 => ?_
  all_goals refine AW.reg0 ?_
  all_goals iterate 2 (refine S.g rfl rfl fun K' k' => ?_; simp only [zz, reduceIte, Nat.reduceEqDiff, Nat.reduceLT, Nat.reduceLeDiff, Nat.reduceAdd, reduceCtorEq, Nat.reduceMul, ok36, sz36, ag36, encEv]; refine k' _ _ ?_; clear k' K')
  all_goals refine S.nil ?_
  all_goals simp only [ze, reduceIte, Nat.reduceEqDiff, Nat.reduceLT, Nat.reduceLeDiff, Nat.reduceAdd, reduceCtorEq, Nat.reduceMul, encEv]
  all_goals first | refine h1 _ _ ?_
  refine AW.seq_k fun K2 h2 => ?_
  all_goals refine AW.region (T := { hp := fun d => d == 5 }) (fun _ _ h => by cases h) rfl ?_
  all_goals (refine S.g rfl rfl fun K' k' => ?_; simp only [zz, reduceIte, Nat.reduceEqDiff, Nat.reduceLT, Nat.reduceLeDiff, Nat.reduceAdd, reduceCtorEq, Nat.reduceMul, zt4, encEv, map1]; intro ob hob <;> (refine k' _ _ ?_; clear k' K'))
  all_goals (refine S.g rfl rfl fun K' k' => ?_; simp only [zz, reduceIte, Nat.reduceEqDiff, Nat.reduceLT, Nat.reduceLeDiff, Nat.reduceAdd, reduceCtorEq, Nat.reduceMul, ok4, sz4, ag4, encEv, map1]; refine k' _ _ ?_; clear k' K')
  all_goals refine S.nil ?_
  all_goals simp only [ze, reduceIte, Nat.reduceEqDiff, Nat.reduceLT, Nat.reduceLeDiff, Nat.reduceAdd, reduceCtorEq, Nat.reduceMul, encEv, map1]
  all_goals first | refine h2 _ _ ?_ | refine h1 _ _ ?_
  obtain ⟨vg, hvg⟩ := hs.obj
  have hbg : ob ≠ g := fun e => by rw [e, hvg] at hob; cases hob
  have hs1 : Snk g bs (σ.setObj ob (some [.c (.bool true)])) := hs.other hob
  have hf1 : Fr g σ (σ.setObj ob (some [.c (.bool true)])) := Fr.other hob (fun e => hbg e.symm)
  have ho1 : (σ.setObj ob (some [.c (.bool true)])).obj ob = some [.c (.bool true)] := by simp
  generalize σ.setObj ob (some [.c (.bool true)]) = σ1 at *
  refine AW.seq_k fun K3 h3 => ?_
  all_goals refine AW.reg0 ?_
  all_goals iterate 2 (refine S.g rfl rfl fun K' k' => ?_; simp only [zz, reduceIte, Nat.reduceEqDiff, Nat.reduceAdd, pw]; refine k' _ _ ?_; clear k' K')
  all_goals refine S.nil ?_
  all_goals simp only [ze, reduceIte, Nat.reduceEqDiff, Nat.reduceLT, Nat.reduceLeDiff, Nat.reduceAdd, reduceCtorEq, Nat.reduceMul, pw]
  all_goals first | refine h3 _ _ ?_ | refine h2 _ _ ?_ | refine h1 _ _ ?_
  refine AW.seq_k fun K4 h4 => ?_
  all_goals refine AW.reg0 ?_
  all_goals iterate 6 (refine S.g rfl rfl fun K' k' => ?_; simp only [zz, reduceIte, Nat.reduceEqDiff, Nat.reduceLT, Nat.reduceLeDiff, Nat.reduceAdd, reduceCtorEq, Nat.reduceMul, of36_0, of33_0, ok3, sz3, ag3, cv3_54, pw, hw1]; refine k' _ _ ?_; clear k' K')
  all_goals (refine S.g rfl rfl fun K' k' => ?_; simp only [zz, reduceIte, Nat.reduceEqDiff, Nat.reduceLT, Nat.reduceLeDiff, Nat.reduceAdd, reduceCtorEq, Nat.reduceMul, pw, hw1]; refine (Bits_spec g bs e.src.toNat 4 _ hs1 (by omega) (by omega) (by omega)).to fun v σ2 hv => ?_; obtain ⟨rfl, hs2, hf2⟩ := hv <;> (refine k' _ _ ?_; clear k' K'))
  all_goals (refine S.g rfl rfl fun K' k' => ?_; simp only [zz, reduceIte, Nat.reduceEqDiff, Nat.reduceLT, Nat.reduceLeDiff, Nat.reduceAdd, reduceCtorEq, Nat.reduceMul, pw, hw1]; refine (keep_ok ob _ (hf2.at hbg ho1)).to fun v σ3 hv => ?_; obtain ⟨rfl, rfl⟩ := hv <;> (refine k' _ _ ?_; clear k' K'))
  all_goals refine S.nil ?_
  all_goals simp only [ze, reduceIte, Nat.reduceEqDiff, Nat.reduceLT, Nat.reduceLeDiff, Nat.reduceAdd, reduceCtorEq, Nat.reduceMul, pw, hw1]
  all_goals first | refine h4 _ _ ?_ | refine h3 _ _ ?_ | refine h2 _ _ ?_ | refine h1 _ _ ?_
  refine AW.seq_k fun K5 h5 => ?_
  all_goals refine AW.reg0 ?_
  all_goals iterate 6 (refine S.g rfl rfl fun K' k' => ?_; simp only [zz, reduceIte, Nat.reduceEqDiff, Nat.reduceLT, Nat.reduceLeDiff, Nat.reduceAdd, reduceCtorEq, Nat.reduceMul, of36_0, of33_1, ok2, sz2, ag2, cv2_54, pw, hw2]; refine k' _ _ ?_; clear k' K')
  all_goals (refine S.g rfl rfl fun K' k' => ?_; simp only [zz, reduceIte, Nat.reduceEqDiff, Nat.reduceLT, Nat.reduceLeDiff, Nat.reduceAdd, reduceCtorEq, Nat.reduceMul, pw, hw2]; refine (Nat_spec g _ e.seq.toNat _ hs2 (by omega) (by simp only [List.length_append, lowB_len]; omega)).to fun v σ4 hv => ?_; obtain ⟨rfl, hs3, hf3⟩ := hv <;> (refine k' _ _ ?_; clear k' K'))
  all_goals (refine S.g rfl rfl fun K' k' => ?_; simp only [zz, reduceIte, Nat.reduceEqDiff, Nat.reduceLT, Nat.reduceLeDiff, Nat.reduceAdd, reduceCtorEq, Nat.reduceMul, pw, hw2]; refine (keep_ok ob _ (hf3.at hbg (hf2.at hbg ho1))).to fun v σ3 hv => ?_; obtain ⟨rfl, rfl⟩ := hv <;> (refine k' _ _ ?_; clear k' K'))
  all_goals refine S.nil ?_
  all_goals simp only [ze, reduceIte, Nat.reduceEqDiff, Nat.reduceLT, Nat.reduceLeDiff, Nat.reduceAdd, reduceCtorEq, Nat.reduceMul, pw, hw2]
  all_goals first | refine h5 _ _ ?_ | refine h4 _ _ ?_ | refine h3 _ _ ?_ | refine h2 _ _ ?_ | refine h1 _ _ ?_
  refine AW.seq_k fun K6 h6 => ?_
  all_goals refine AW.reg0 ?_
  all_goals iterate 5 (refine S.g rfl rfl fun K' k' => ?_; simp only [zz, reduceIte, Nat.reduceEqDiff, Nat.reduceLT, Nat.reduceLeDiff, Nat.reduceAdd, reduceCtorEq, Nat.reduceMul, of36_1, ok2, sz2, ag2, cv2_54, pw, hw3]; refine k' _ _ ?_; clear k' K')
  all_goals (refine S.g rfl rfl fun K' k' => ?_; simp only [zz, reduceIte, Nat.reduceEqDiff, Nat.reduceLT, Nat.reduceLeDiff, Nat.reduceAdd, reduceCtorEq, Nat.reduceMul, pw, hw3]; refine (Nat_spec g _ e.time.toNat _ hs3 (by omega) (by simp only [List.length_append, lowB_len]; omega)).to fun v σ4 hv => ?_; obtain ⟨rfl, hs4, hf4⟩ := hv <;> (refine k' _ _ ?_; clear k' K'))
  all_goals (refine S.g rfl rfl fun K' k' => ?_; simp only [zz, reduceIte, Nat.reduceEqDiff, Nat.reduceLT, Nat.reduceLeDiff, Nat.reduceAdd, reduceCtorEq, Nat.reduceMul, pw, hw3]; refine (keep_ok ob _ (hf4.at hbg (hf3.at hbg (hf2.at hbg ho1)))).to fun v σ3 hv => ?_; obtain ⟨rfl, rfl⟩ := hv <;> (refine k' _ _ ?_; clear k' K'))
  all_goals refine S.nil ?_
  all_goals simp only [ze, reduceIte, Nat.reduceEqDiff, Nat.reduceLT, Nat.reduceLeDiff, Nat.reduceAdd, reduceCtorEq, Nat.reduceMul, pw, hw3]
  all_goals first | refine h6 _ _ ?_ | refine h5 _ _ ?_ | refine h4 _ _ ?_ | refine h3 _ _ ?_ | refine h2 _ _ ?_ | refine h1 _ _ ?_
  refine AW.seq_k fun K7 h7 => ?_
  all_goals refine AW.reg0 ?_
  all_goals iterate 4 (refine S.g rfl rfl fun K' k' => ?_; simp only [zz, reduceIte, Nat.reduceEqDiff, Nat.reduceLT, Nat.reduceLeDiff, Nat.reduceAdd, reduceCtorEq, Nat.reduceMul, of36_2, ok9, sz9, ag9, pw]; refine k' _ _ ?_; clear k' K')
  all_goals (refine S.g rfl rfl fun K' k' => ?_; simp only [zz, reduceIte, Nat.reduceEqDiff, Nat.reduceLT, Nat.reduceLeDiff, Nat.reduceAdd, reduceCtorEq, Nat.reduceMul, pw]; refine (Text_spec g _ e.type _ hs4 (by simp only [List.length_append, lowB_len]; omega)).to fun v σ4 hv => ?_; obtain ⟨rfl, hs5, hf5⟩ := hv <;> (refine k' _ _ ?_; clear k' K'))
  all_goals (refine S.g rfl rfl fun K' k' => ?_; simp only [zz, reduceIte, Nat.reduceEqDiff, Nat.reduceLT, Nat.reduceLeDiff, Nat.reduceAdd, reduceCtorEq, Nat.reduceMul, pw]; refine (keep_ok ob _ (hf5.at hbg (hf4.at hbg (hf3.at hbg (hf2.at hbg ho1))))).to fun v σ3 hv => ?_; obtain ⟨rfl, rfl⟩ := hv <;> (refine k' _ _ ?_; clear k' K'))
  all_goals refine S.nil ?_
  all_goals simp only [ze, reduceIte, Nat.reduceEqDiff, Nat.reduceLT, Nat.reduceLeDiff, Nat.reduceAdd, reduceCtorEq, Nat.reduceMul, pw]
  all_goals first | refine h7 _ _ ?_ | refine h6 _ _ ?_ | refine h5 _ _ ?_ | refine h4 _ _ ?_ | refine h3 _ _ ?_ | refine h2 _ _ ?_ | refine h1 _ _ ?_
  refine AW.seq_k fun K8 h8 => ?_
  all_goals refine AW.reg0 ?_
  all_goals iterate 6 (refine S.g rfl rfl fun K' k' => ?_; simp only [zz, reduceIte, Nat.reduceEqDiff, Nat.reduceLT, Nat.reduceLeDiff, Nat.reduceAdd, reduceCtorEq, Nat.reduceMul, of36_3, ok34, sz34, ag34, sl34, el34, ok143, sz143, ag143, cv3_54, pw, hw4]; refine k' _ _ ?_; clear k' K')
  all_goals (refine S.g rfl rfl fun K' k' => ?_; simp only [zz, reduceIte, Nat.reduceEqDiff, Nat.reduceLT, Nat.reduceLeDiff, Nat.reduceAdd, reduceCtorEq, Nat.reduceMul, pw, hw4]; refine (Bits_spec g _ e.attrs.length 4 _ hs5 (by omega) (by omega) (by simp only [List.length_append, lowB_len]; omega)).to fun v σ2 hv => ?_; obtain ⟨rfl, hs6, hf6⟩ := hv <;> (refine k' _ _ ?_; clear k' K'))
  all_goals (refine S.g rfl rfl fun K' k' => ?_; simp only [zz, reduceIte, Nat.reduceEqDiff, Nat.reduceLT, Nat.reduceLeDiff, Nat.reduceAdd, reduceCtorEq, Nat.reduceMul, pw, hw4]; refine (keep_ok ob _ (hf6.at hbg (hf5.at hbg (hf4.at hbg (hf3.at hbg (hf2.at hbg ho1)))))).to fun v σ3 hv => ?_; obtain ⟨rfl, rfl⟩ := hv <;> (refine k' _ _ ?_; clear k' K'))
  all_goals refine S.nil ?_
  all_goals simp only [ze, reduceIte, Nat.reduceEqDiff, Nat.reduceLT, Nat.reduceLeDiff, Nat.reduceAdd, reduceCtorEq, Nat.reduceMul, pw, hw4]
  all_goals first | refine h8 _ _ ?_ | refine h7 _ _ ?_ | refine h6 _ _ ?_ | refine h5 _ _ ?_ | refine h4 _ _ ?_ | refine h3 _ _ ?_ | refine h2 _ _ ?_ | refine h1 _ _ ?_
  have hfa := ((((hf1.trans hf2).trans hf3).trans hf4).trans hf5).trans hf6
  have ho2 := hf6.at hbg (hf5.at hbg (hf4.at hbg (hf3.at hbg (hf2.at hbg ho1))))
  clear hf1 hf2 hf3 hf4 hf5 hf6 hs1 hs2 hs3 hs4 hs5 ho1
  refine AW.seq_k fun K9 h9 => ?_
  refine AW.seq_k fun K10 h10 => ?_
  all_goals refine AW.reg0 ?_
  all_goals iterate 4 (refine S.g rfl rfl fun K' k' => ?_; simp only [zz, reduceIte, Nat.reduceEqDiff, Nat.reduceLT, Nat.reduceLeDiff, Nat.reduceAdd, reduceCtorEq, Nat.reduceMul, of36_3, ok34, sz34, ag34, sl34, el34, ok143, sz143, ag143]; refine k' _ _ ?_; clear k' K')
  all_goals refine S.nil ?_
  all_goals simp only [ze, reduceIte, Nat.reduceEqDiff, Nat.reduceLT, Nat.reduceLeDiff, Nat.reduceAdd, reduceCtorEq, Nat.reduceMul]
  all_goals first | refine h10 _ _ ?_ | refine h9 _ _ ?_ | refine h8 _ _ ?_ | refine h7 _ _ ?_ | refine h6 _ _ ?_ | refine h5 _ _ ?_ | refine h4 _ _ ?_ | refine h3 _ _ ?_ | refine h2 _ _ ?_ | refine h1 _ _ ?_
  refine AW.block ?_   -- 0
  refine AW.loop (fun m s σ' => ∃ i, m = e.attrs.length - i ∧ i ≤ e.attrs.length ∧ s.t 0 = ptrV g ∧ s.t 5 = ptrV ob ∧ s.t 6 = .fn (.func 149) [] [ptrV ob] ∧ s.t 48 = .sl (e.attrs.map encAttr) ∧ s.t 49 = .c (.int .i64 e.attrs.length) ∧ s.t 50 = .c (.int .i64 (i : Nat)) ∧
    Snk g (bs ++ lowB e.src.toNat 4 ++ natB e.seq.toNat ++ natB e.time.toNat ++ textB e.type ++ lowB e.attrs.length 4 ++ (e.attrs.take i).flatMap attrB) σ' ∧ σ'.obj ob = some [.c (.bool true)] ∧ Fr g σ σ') e.attrs.length ?_ ?_
  · refine ⟨0, rfl, Nat.zero_le _, ?_⟩
    all_goals simp only [zs, reduceIte, Nat.reduceEqDiff, Nat.reduceLT, Nat.reduceLeDiff, Nat.reduceAdd, reduceCtorEq, Nat.reduceMul]
    exact ⟨rfl, rfl, rfl, rfl, by simpa using hs6, ho2, hfa⟩
  clear hfa ho2 hs6
  rintro m s σ2 ⟨i, hm, hi, e0, e5, e6, e48, e49, e50, hsn, ho, hfr⟩
  refine AW.seq_k fun K11 h11 => ?_
  all_goals refine AW.reg0 ?_
  all_goals (refine S.g rfl rfl fun K' k' => ?_; simp only [zz, reduceIte, Nat.reduceEqDiff, Nat.reduceAdd, e49, e50]; refine k' _ _ ?_; clear k' K')
  all_goals refine S.nil ?_
  all_goals simp only [ze, reduceIte, Nat.reduceEqDiff, Nat.reduceLT, Nat.reduceLeDiff, Nat.reduceAdd, reduceCtorEq, Nat.reduceMul, e49, e50]
  all_goals first | refine h11 _ _ ?_ | refine h10 _ _ ?_ | refine h9 _ _ ?_ | refine h8 _ _ ?_ | refine h7 _ _ ?_ | refine h6 _ _ ?_ | refine h5 _ _ ?_ | refine h4 _ _ ?_ | refine h3 _ _ ?_ | refine h2 _ _ ?_ | refine h1 _ _ ?_
  refine AW.seq_k fun K12 h12 => ?_
  refine AW.cond (b := decide (i < e.attrs.length)) (by simp [ev]) (fun hc => ?_) (fun hc => ?_)
  · refine AW.skip ?_
    all_goals simp only [zs, reduceIte, Nat.reduceEqDiff, Nat.reduceLT, Nat.reduceLeDiff, Nat.reduceAdd, reduceCtorEq, Nat.reduceMul]
    all_goals first | refine h12 _ _ ?_ | refine h11 _ _ ?_ | refine h10 _ _ ?_ | refine h9 _ _ ?_ | refine h8 _ _ ?_ | refine h7 _ _ ?_ | refine h6 _ _ ?_ | refine h5 _ _ ?_ | refine h4 _ _ ?_ | refine h3 _ _ ?_ | refine h2 _ _ ?_ | refine h1 _ _ ?_
    have hin := of_decide_eq_true hc
    obtain ⟨a, ha⟩ : ∃ a, e.attrs[i]? = some a := ⟨_, List.getElem?_eq_getElem hin⟩
    have hae : (e.attrs.map encAttr).getD i [] = encAttr a := by simp [List.getD, ha]
    have htk : e.attrs.take (i + 1) = e.attrs.take i ++ [a] := by rw [List.take_add_one, ha]; rfl
    have hle : ((e.attrs.take (i + 1)).flatMap attrB).length ≤ (e.attrs.flatMap attrB).length := by
      conv => rhs; rw [← List.take_append_drop (i + 1) e.attrs]
      rw [List.flatMap_append, List.length_append]; omega
    rw [htk, List.flatMap_append, List.length_append] at hle
    have hat1 : ([a].flatMap attrB).length = (textB a.name).length + (2 + (if a.v.kind = 1 then numB a.v.n else textB a.v.s).length) := by simp [attrB, vbB, lowB_len]
    rw [hat1] at hle
    have hbl : (bs ++ lowB e.src.toNat 4 ++ natB e.seq.toNat ++ natB e.time.toNat ++ textB e.type ++ lowB e.attrs.length 4 ++ (e.attrs.take i).flatMap attrB).length = bs.length + 4 + (natB e.seq.toNat).length + (natB e.time.toNat).length + (textB e.type).length + 4 + ((e.attrs.take i).flatMap attrB).length := by simp only [List.length_append, lowB_len]
    have hgoal : bs ++ lowB e.src.toNat 4 ++ natB e.seq.toNat ++ natB e.time.toNat ++ textB e.type ++ lowB e.attrs.length 4 ++ (e.attrs.take (i + 1)).flatMap attrB = (bs ++ lowB e.src.toNat 4 ++ natB e.seq.toNat ++ natB e.time.toNat ++ textB e.type ++ lowB e.attrs.length 4 ++ (e.attrs.take i).flatMap attrB) ++ textB a.name ++ lowB a.v.kind.toNat 2 ++ (if a.v.kind = 1 then numB a.v.n else textB a.v.s) := by
      rw [htk, List.flatMap_append]; simp [attrB, vbB]
    generalize bs ++ lowB e.src.toNat 4 ++ natB e.seq.toNat ++ natB e.time.toNat ++ textB e.type ++ lowB e.attrs.length 4 ++ (e.attrs.take i).flatMap attrB = bs2 at *
    obtain ⟨ha1, ha2, ha3, ha4⟩ := hat a (List.mem_of_getElem? ha)
    have hwk : IntKind.u64.wrap a.v.kind = ((a.v.kind.toNat : Nat) : Int) := by rw [show a.v.kind = ((a.v.kind.toNat : Nat) : Int) by omega, wrap_u64 (by omega)]; simp
    have hwi : IntKind.i64.wrap ((i : Int) + 1) = ((i + 1 : Nat) : Int) := by rw [wrap_small _ (by omega) (by omega)]; rfl
    have hel : (encAttr a).length = 4 := rfl
    refine AW.seq_k fun K13 h13 => ?_
    refine AW.block ?_   -- 1
    refine AW.seq_k fun K14 h14 => ?_
    all_goals refine AW.reg0 ?_
    all_goals iterate 4 (refine S.g rfl rfl fun K' k' => ?_; simp only [zz, reduceIte, Nat.reduceEqDiff, Nat.reduceLT, Nat.reduceLeDiff, Nat.reduceAdd, reduceCtorEq, Nat.reduceMul, sl34, el34, ok143, sz143, ag143, zt143, e48, e50, hin, hae, encAttr, List.length_singleton, List.getD_cons_zero]; refine k' _ _ ?_; clear k' K')
    all_goals refine S.nil ?_
    all_goals simp only [ze, reduceIte, Nat.reduceEqDiff, Nat.reduceLT, Nat.reduceLeDiff, Nat.reduceAdd, reduceCtorEq, Nat.reduceMul, e48, e50, hin, hae, encAttr, List.length_singleton, List.getD_cons_zero]
    all_goals first | refine h14 _ _ ?_ | refine h13 _ _ ?_ | refine h12 _ _ ?_ | refine h11 _ _ ?_ | refine h10 _ _ ?_ | refine h9 _ _ ?_ | refine h8 _ _ ?_ | refine h7 _ _ ?_ | refine h6 _ _ ?_ | refine h5 _ _ ?_ | refine h4 _ _ ?_ | refine h3 _ _ ?_ | refine h2 _ _ ?_ | refine h1 _ _ ?_
    refine AW.seq_k fun K15 h15 => ?_
    all_goals refine AW.reg0 ?_
    all_goals iterate 4 (refine S.g rfl rfl fun K' k' => ?_; simp only [zz, reduceIte, Nat.reduceEqDiff, Nat.reduceLT, Nat.reduceLeDiff, Nat.reduceAdd, reduceCtorEq, Nat.reduceMul, of143_0, ok9, sz9, ag9, e0, e6, pw]; refine k' _ _ ?_; clear k' K')
    all_goals (refine S.g rfl rfl fun K' k' => ?_; simp only [zz, reduceIte, Nat.reduceEqDiff, Nat.reduceLT, Nat.reduceLeDiff, Nat.reduceAdd, reduceCtorEq, Nat.reduceMul, e0, e6, pw]; refine (Text_spec g _ a.name _ hsn (by omega)).to fun v σ4 hv => ?_; obtain ⟨rfl, hs7, hf7⟩ := hv <;> (refine k' _ _ ?_; clear k' K'))
    all_goals (refine S.g rfl rfl fun K' k' => ?_; simp only [zz, reduceIte, Nat.reduceEqDiff, Nat.reduceLT, Nat.reduceLeDiff, Nat.reduceAdd, reduceCtorEq, Nat.reduceMul, e0, e6, pw]; refine (keep_ok ob _ (hf7.at hbg ho)).to fun v σ3 hv => ?_; obtain ⟨rfl, rfl⟩ := hv <;> (refine k' _ _ ?_; clear k' K'))
    all_goals refine S.nil ?_
    all_goals simp only [ze, reduceIte, Nat.reduceEqDiff, Nat.reduceLT, Nat.reduceLeDiff, Nat.reduceAdd, reduceCtorEq, Nat.reduceMul, e0, e6, pw]
    all_goals first | refine h15 _ _ ?_ | refine h14 _ _ ?_ | refine h13 _ _ ?_ | refine h12 _ _ ?_ | refine h11 _ _ ?_ | refine h10 _ _ ?_ | refine h9 _ _ ?_ | refine h8 _ _ ?_ | refine h7 _ _ ?_ | refine h6 _ _ ?_ | refine h5 _ _ ?_ | refine h4 _ _ ?_ | refine h3 _ _ ?_ | refine h2 _ _ ?_ | refine h1 _ _ ?_
    refine AW.seq_k fun K16 h16 => ?_
    all_goals refine AW.reg0 ?_
    all_goals iterate 6 (refine S.g rfl rfl fun K' k' => ?_; simp only [zz, reduceIte, Nat.reduceEqDiff, Nat.reduceLT, Nat.reduceLeDiff, Nat.reduceAdd, reduceCtorEq, Nat.reduceMul, of143_1, of141_0, ok3, sz3, ag3, cv3_54, e0, e6, pw, hwk]; refine k' _ _ ?_; clear k' K')
    all_goals (refine S.g rfl rfl fun K' k' => ?_; simp only [zz, reduceIte, Nat.reduceEqDiff, Nat.reduceLT, Nat.reduceLeDiff, Nat.reduceAdd, reduceCtorEq, Nat.reduceMul, e0, e6, pw, hwk]; refine (Bits_spec g _ a.v.kind.toNat 2 _ hs7 (by omega) (by omega) (by simp only [List.length_append, lowB_len]; omega)).to fun v σ2 hv => ?_; obtain ⟨rfl, hs8, hf8⟩ := hv <;> (refine k' _ _ ?_; clear k' K'))
    all_goals (refine S.g rfl rfl fun K' k' => ?_; simp only [zz, reduceIte, Nat.reduceEqDiff, Nat.reduceLT, Nat.reduceLeDiff, Nat.reduceAdd, reduceCtorEq, Nat.reduceMul, e0, e6, pw, hwk]; refine (keep_ok ob _ (hf8.at hbg (hf7.at hbg ho))).to fun v σ3 hv => ?_; obtain ⟨rfl, rfl⟩ := hv <;> (refine k' _ _ ?_; clear k' K'))
    all_goals refine S.nil ?_
    all_goals simp only [ze, reduceIte, Nat.reduceEqDiff, Nat.reduceLT, Nat.reduceLeDiff, Nat.reduceAdd, reduceCtorEq, Nat.reduceMul, e0, e6, pw, hwk]
    all_goals first | refine h16 _ _ ?_ | refine h15 _ _ ?_ | refine h14 _ _ ?_ | refine h13 _ _ ?_ | refine h12 _ _ ?_ | refine h11 _ _ ?_ | refine h10 _ _ ?_ | refine h9 _ _ ?_ | refine h8 _ _ ?_ | refine h7 _ _ ?_ | refine h6 _ _ ?_ | refine h5 _ _ ?_ | refine h4 _ _ ?_ | refine h3 _ _ ?_ | refine h2 _ _ ?_ | refine h1 _ _ ?_
    have hkd : (a.v.kind == 1) = decide (a.v.kind = 1) := by rw [Bool.eq_iff_iff]; simp
    refine AW.seq_k fun K17 h17 => ?_
    all_goals refine AW.reg0 ?_
    all_goals iterate 4 (refine S.g rfl rfl fun K' k' => ?_; simp only [zz, reduceIte, Nat.reduceEqDiff, Nat.reduceLT, Nat.reduceLeDiff, Nat.reduceAdd, reduceCtorEq, Nat.reduceMul, of143_1, of141_0, ok3, sz3, ag3, hkd]; refine k' _ _ ?_; clear k' K')
    all_goals refine S.nil ?_
    all_goals simp only [ze, reduceIte, Nat.reduceEqDiff, Nat.reduceLT, Nat.reduceLeDiff, Nat.reduceAdd, reduceCtorEq, Nat.reduceMul, hkd]
    all_goals first | refine h17 _ _ ?_ | refine h16 _ _ ?_ | refine h15 _ _ ?_ | refine h14 _ _ ?_ | refine h13 _ _ ?_ | refine h12 _ _ ?_ | refine h11 _ _ ?_ | refine h10 _ _ ?_ | refine h9 _ _ ?_ | refine h8 _ _ ?_ | refine h7 _ _ ?_ | refine h6 _ _ ?_ | refine h5 _ _ ?_ | refine h4 _ _ ?_ | refine h3 _ _ ?_ | refine h2 _ _ ?_ | refine h1 _ _ ?_
    refine AW.cond (b := decide (a.v.kind = 1)) (by simp [ev]) (fun hc => ?_) (fun hc => ?_)
    · have hk1 := of_decide_eq_true hc
      rw [if_pos hk1] at hle hgoal
      all_goals refine AW.reg0 ?_
      all_goals iterate 5 (refine S.g rfl rfl fun K' k' => ?_; simp only [zz, reduceIte, Nat.reduceEqDiff, Nat.reduceLT, Nat.reduceLeDiff, Nat.reduceAdd, reduceCtorEq, Nat.reduceMul, of143_1, of141_1, ok2, sz2, ag2, e0, e6, pw]; refine k' _ _ ?_; clear k' K')
      all_goals (refine S.g rfl rfl fun K' k' => ?_; simp only [zz, reduceIte, Nat.reduceEqDiff, Nat.reduceLT, Nat.reduceLeDiff, Nat.reduceAdd, reduceCtorEq, Nat.reduceMul, e0, e6, pw]; refine (Num_spec g _ a.v.n _ hs8 ha4 (by simp only [List.length_append, lowB_len]; omega)).to fun v σ2 hv => ?_; obtain ⟨rfl, hs9, hf9⟩ := hv <;> (refine k' _ _ ?_; clear k' K'))
      all_goals (refine S.g rfl rfl fun K' k' => ?_; simp only [zz, reduceIte, Nat.reduceEqDiff, Nat.reduceLT, Nat.reduceLeDiff, Nat.reduceAdd, reduceCtorEq, Nat.reduceMul, e0, e6, pw]; refine (keep_ok ob _ (hf9.at hbg (hf8.at hbg (hf7.at hbg ho)))).to fun v σ3 hv => ?_; obtain ⟨rfl, rfl⟩ := hv <;> (refine k' _ _ ?_; clear k' K'))
      all_goals refine S.nil ?_
      all_goals simp only [ze, reduceIte, Nat.reduceEqDiff, Nat.reduceLT, Nat.reduceLeDiff, Nat.reduceAdd, reduceCtorEq, Nat.reduceMul, e0, e6, pw]
      all_goals first | refine h17 _ _ ?_ | refine h16 _ _ ?_ | refine h15 _ _ ?_ | refine h14 _ _ ?_ | refine h13 _ _ ?_ | refine h12 _ _ ?_ | refine h11 _ _ ?_ | refine h10 _ _ ?_ | refine h9 _ _ ?_ | refine h8 _ _ ?_ | refine h7 _ _ ?_ | refine h6 _ _ ?_ | refine h5 _ _ ?_ | refine h4 _ _ ?_ | refine h3 _ _ ?_ | refine h2 _ _ ?_ | refine h1 _ _ ?_
      all_goals refine AW.reg0 ?_
      all_goals iterate 2 (refine S.g rfl rfl fun K' k' => ?_; simp only [zz, reduceIte, Nat.reduceEqDiff, Nat.reduceAdd, e0, e5, e6, e48, e49, e50, hwi, pw]; refine k' _ _ ?_; clear k' K')
      all_goals refine S.nil ?_
      all_goals simp only [ze, reduceIte, Nat.reduceEqDiff, Nat.reduceLT, Nat.reduceLeDiff, Nat.reduceAdd, reduceCtorEq, Nat.reduceMul, e0, e5, e6, e48, e49, e50, hwi, pw]
      refine ⟨e.attrs.length - (i + 1), by omega, i + 1, rfl, by omega, rfl, ?_, hf9.at hbg (hf8.at hbg (hf7.at hbg ho)), ((hfr.trans hf7).trans hf8).trans hf9⟩
      rw [hgoal]; exact hs9
    · have hk1 := of_decide_eq_false hc
      rw [if_neg hk1] at hle hgoal
      all_goals refine AW.reg0 ?_
      all_goals iterate 5 (refine S.g rfl rfl fun K' k' => ?_; simp only [zz, reduceIte, Nat.reduceEqDiff, Nat.reduceLT, Nat.reduceLeDiff, Nat.reduceAdd, reduceCtorEq, Nat.reduceMul, of143_1, of141_2, ok9, sz9, ag9, e0, e6, pw]; refine k' _ _ ?_; clear k' K')
      all_goals (refine S.g rfl rfl fun K' k' => ?_; simp only [zz, reduceIte, Nat.reduceEqDiff, Nat.reduceLT, Nat.reduceLeDiff, Nat.reduceAdd, reduceCtorEq, Nat.reduceMul, e0, e6, pw]; refine (Text_spec g _ a.v.s _ hs8 (by simp only [List.length_append, lowB_len]; omega)).to fun v σ2 hv => ?_; obtain ⟨rfl, hs9, hf9⟩ := hv <;> (refine k' _ _ ?_; clear k' K'))
      all_goals (refine S.g rfl rfl fun K' k' => ?_; simp only [zz, reduceIte, Nat.reduceEqDiff, Nat.reduceLT, Nat.reduceLeDiff, Nat.reduceAdd, reduceCtorEq, Nat.reduceMul, e0, e6, pw]; refine (keep_ok ob _ (hf9.at hbg (hf8.at hbg (hf7.at hbg ho)))).to fun v σ3 hv => ?_; obtain ⟨rfl, rfl⟩ := hv <;> (refine k' _ _ ?_; clear k' K'))
      all_goals refine S.nil ?_
      all_goals simp only [ze, reduceIte, Nat.reduceEqDiff, Nat.reduceLT, Nat.reduceLeDiff, Nat.reduceAdd, reduceCtorEq, Nat.reduceMul, e0, e6, pw]
      all_goals first | refine h17 _ _ ?_ | refine h16 _ _ ?_ | refine h15 _ _ ?_ | refine h14 _ _ ?_ | refine h13 _ _ ?_ | refine h12 _ _ ?_ | refine h11 _ _ ?_ | refine h10 _ _ ?_ | refine h9 _ _ ?_ | refine h8 _ _ ?_ | refine h7 _ _ ?_ | refine h6 _ _ ?_ | refine h5 _ _ ?_ | refine h4 _ _ ?_ | refine h3 _ _ ?_ | refine h2 _ _ ?_ | refine h1 _ _ ?_
      all_goals refine AW.reg0 ?_
      all_goals iterate 2 (refine S.g rfl rfl fun K' k' => ?_; simp only [zz, reduceIte, Nat.reduceEqDiff, Nat.reduceAdd, e0, e5, e6, e48, e49, e50, hwi, pw]; refine k' _ _ ?_; clear k' K')
      all_goals refine S.nil ?_
      all_goals simp only [ze, reduceIte, Nat.reduceEqDiff, Nat.reduceLT, Nat.reduceLeDiff, Nat.reduceAdd, reduceCtorEq, Nat.reduceMul, e0, e5, e6, e48, e49, e50, hwi, pw]
      refine ⟨e.attrs.length - (i + 1), by omega, i + 1, rfl, by omega, rfl, ?_, hf9.at hbg (hf8.at hbg (hf7.at hbg ho)), ((hfr.trans hf7).trans hf8).trans hf9⟩
      rw [hgoal]; exact hs9
  · refine AW.exit ?_
    all_goals simp only [zs, reduceIte, Nat.reduceEqDiff, Nat.reduceLT, Nat.reduceLeDiff, Nat.reduceAdd, reduceCtorEq, Nat.reduceMul]
    all_goals first | refine h17 _ _ ?_ | refine h16 _ _ ?_ | refine h15 _ _ ?_ | refine h14 _ _ ?_ | refine h13 _ _ ?_ | refine h12 _ _ ?_ | refine h11 _ _ ?_ | refine h10 _ _ ?_ | refine h9 _ _ ?_ | refine h8 _ _ ?_ | refine h7 _ _ ?_ | refine h6 _ _ ?_ | refine h5 _ _ ?_ | refine h4 _ _ ?_ | refine h3 _ _ ?_ | refine h2 _ _ ?_ | refine h1 _ _ ?_
    have hin := of_decide_eq_false hc
    have hi2 : i = e.attrs.length := by omega
    subst hi2
    rw [List.take_of_length_le (by omega)] at hsn
    refine AW.seq_k fun K18 h18 => ?_
    all_goals refine AW.reg0 ?_
    all_goals iterate 2 (refine S.g rfl rfl fun K' k' => ?_; simp only [zz, reduceIte, Nat.reduceEqDiff, Nat.reduceLT, Nat.reduceLeDiff, Nat.reduceAdd, reduceCtorEq, Nat.reduceMul, ok4, sz4, ag4, e5, ptrV, ho, map1]; refine k' _ _ ?_; clear k' K')
    all_goals refine S.nil ?_
    all_goals simp only [ze, reduceIte, Nat.reduceEqDiff, Nat.reduceLT, Nat.reduceLeDiff, Nat.reduceAdd, reduceCtorEq, Nat.reduceMul, e5, ptrV, ho, map1]
    all_goals first | refine h18 _ _ ?_ | refine h17 _ _ ?_ | refine h16 _ _ ?_ | refine h15 _ _ ?_ | refine h14 _ _ ?_ | refine h13 _ _ ?_ | refine h12 _ _ ?_ | refine h11 _ _ ?_ | refine h10 _ _ ?_ | refine h9 _ _ ?_ | refine h8 _ _ ?_ | refine h7 _ _ ?_ | refine h6 _ _ ?_ | refine h5 _ _ ?_ | refine h4 _ _ ?_ | refine h3 _ _ ?_ | refine h2 _ _ ?_ | refine h1 _ _ ?_
    refine AW.ret ?_
    all_goals simp only [zs, reduceIte, Nat.reduceEqDiff, Nat.reduceLT, Nat.reduceLeDiff, Nat.reduceAdd, reduceCtorEq, Nat.reduceMul]
    refine ⟨?_, hfr⟩
    rw [evB]
    simpa using hsn
end Go.Abs.M
namespace Go.Abs.M
open Go Go.Abs Go.Proofs
set_option maxRecDepth 20000
set_option linter.unusedSimpArgs false
set_option linter.unusedVariables false

theorem Snk.sep {g o : Nat} {bs : List Bool} {σ σ' : Hp} (h : Snk g bs σ) (hf : Fr o σ σ') (hne : g ≠ o) (hn : skN o σ = none) : Snk g bs σ' := by
  rcases h with ⟨h1, h2⟩ | ⟨k, h1, h2⟩
  · exact .inl ⟨h1, hf.obj g _ hne h2⟩
  · exact .inr ⟨k, hf.obj g _ hne h1, (hf.gr k _ h2 (by rw [hn]; exact fun e => by cases e)).1⟩
theorem Fr.new {g o : Nat} {σ σ3 : Hp} {x : Option (List V)} (ho : σ.obj o = none) (hg : g ≠ o) (hgo : ∃ c, σ.obj g = some c) (hn : skN o (σ.setObj o x) = none) (hf : Fr o (σ.setObj o x) σ3) : Fr g σ σ3 := by
  refine ⟨fun y c hy hc => ?_, fun k y hk hnk => ?_⟩
  · have hyo : y ≠ o := fun e => by rw [e, ho] at hc; cases hc
    exact hf.obj y c hyo (by simp [hyo, hc])
  · obtain ⟨h1, h2⟩ := hf.gr k y (by simp [hk]) (by rw [hn]; exact fun e => by cases e)
    refine ⟨h1, ?_⟩
    obtain ⟨c, hc⟩ := hgo
    have : σ3.obj g = some c := hf.obj g c hg (by simp [hg, hc])
    unfold skN at hnk ⊢
    rw [hc] at hnk
    rw [this]; exact hnk
theorem skN_new {o : Nat} {σ : Hp} : skN o (σ.setObj o (some (skC 0 (.c (.slice none 0 0))))) = none := by simp [skN, skC]
theorem Snk.ne {g o : Nat} {bs : List Bool} {σ : Hp} (h : Snk g bs σ) (ho : σ.obj o = none) : g ≠ o := fun e => by
  obtain ⟨v, hv⟩ := h.obj
  rw [e, ho] at hv; cases hv
theorem evPut_spec (g : Nat) (bs : List Bool) (e : Ev) (σ : Hp) (hs : Snk g bs σ) (he : goodE e) (hok : okE e) (hev : evErr e = 0) (hf : bs.length + (evB e).length ≤ 1048576) :
    ACalls Try.prog 118 [ptrV g, .agg (encEv e)] σ (fun v σ' => v = .c (.int .i64 0) ∧ Snk g (bs ++ evB e) σ' ∧ Fr g σ σ') := by
  refine ACalls.intro Try.call118 Try.func118 rfl Try.ntmps118 Try.results118 (by simp) ?_
  have hw1 : IntKind.i64.wrap (1048576 - (bs.length : Int)) = 1048576 - (bs.length : Int) := by unfold IntKind.wrap; simp [IntKind.signed, IntKind.bits]; omega
  have hd : decide (1048576 - (bs.length : Int) < (([] ++ evB e).length : Int)) = false := by simp only [List.nil_append, decide_eq_false_iff_not]; omega
  have hgo : ∃ c, σ.obj g = some c := by obtain ⟨v, hv⟩ := hs.obj; exact ⟨_, hv⟩
  refine AW.seq_k fun K1 h1 => ?_
  all_goals refine AW.reg0 ?_
  all_goals iterate 2 (refine S.g rfl rfl fun K' k' => ?_; simp only [zz, reduceIte, Nat.reduceEqDiff, Nat.reduceLT, Nat.reduceLeDiff, Nat.reduceAdd, reduceCtorEq, Nat.reduceMul, ok36, sz36, ag36, encEv]; refine k' _ _ ?_; clear k' K')
  all_goals refine S.nil ?_
  all_goals simp only [ze, reduceIte, Nat.reduceEqDiff, Nat.reduceLT, Nat.reduceLeDiff, Nat.reduceAdd, reduceCtorEq, Nat.reduceMul, encEv]
  all_goals first | refine h1 _ _ ?_
  refine AW.seq_k fun K2 h2 => ?_
  refine AW.seq_k fun K3 h3 => ?_
  all_goals refine AW.reg0 ?_
  all_goals (refine S.g rfl rfl fun K' k' => ?_; simp only [zz, reduceIte, Nat.reduceEqDiff, Nat.reduceAdd, pw]; refine k' _ _ ?_; clear k' K')
  all_goals (refine S.g rfl rfl fun K' k' => ?_; simp only [zz, reduceIte, Nat.reduceEqDiff, Nat.reduceLT, Nat.reduceLeDiff, Nat.reduceAdd, reduceCtorEq, Nat.reduceMul, pw]; refine (Flags_spec g bs σ hs (by omega)).to fun v σ1 hv => ?_; obtain ⟨rfl, rfl⟩ := hv <;> (refine k' _ _ ?_; clear k' K'))
  all_goals (refine S.g rfl rfl fun K' k' => ?_; simp only [zz, reduceIte, Nat.reduceEqDiff, Nat.reduceAdd, pw]; refine k' _ _ ?_; clear k' K')
  all_goals refine S.nil ?_
  all_goals simp only [ze, reduceIte, Nat.reduceEqDiff, Nat.reduceLT, Nat.reduceLeDiff, Nat.reduceAdd, reduceCtorEq, Nat.reduceMul, pw]
  all_goals first | refine h3 _ _ ?_ | refine h2 _ _ ?_ | refine h1 _ _ ?_
  refine AW.cond (b := false) (by simp [ev]) (fun hc => by cases hc) (fun hc => ?_)
  refine AW.skip ?_
  all_goals simp only [zs, reduceIte, Nat.reduceEqDiff, Nat.reduceLT, Nat.reduceLeDiff, Nat.reduceAdd, reduceCtorEq, Nat.reduceMul]
  all_goals first | refine h3 _ _ ?_ | refine h2 _ _ ?_ | refine h1 _ _ ?_
  refine AW.seq_k fun K4 h4 => ?_
  refine AW.seq_k fun K5 h5 => ?_
  all_goals refine AW.reg0 ?_
  all_goals (refine S.g rfl rfl fun K' k' => ?_; simp only [zz, reduceIte, Nat.reduceEqDiff, Nat.reduceLT, Nat.reduceLeDiff, Nat.reduceAdd, reduceCtorEq, Nat.reduceMul, ok36, sz36, ag36, hev]; refine k' _ _ ?_; clear k' K')
  all_goals (refine S.g rfl rfl fun K' k' => ?_; simp only [zz, reduceIte, Nat.reduceEqDiff, Nat.reduceLT, Nat.reduceLeDiff, Nat.reduceAdd, reduceCtorEq, Nat.reduceMul, hev]; refine PCalls.eqto (check_ev e hok) ?_ <;> (refine k' _ _ ?_; clear k' K'))
  all_goals (refine S.g rfl rfl fun K' k' => ?_; simp only [zz, reduceIte, Nat.reduceEqDiff, Nat.reduceAdd, hev]; refine k' _ _ ?_; clear k' K')
  all_goals refine S.nil ?_
  all_goals simp only [ze, reduceIte, Nat.reduceEqDiff, Nat.reduceLT, Nat.reduceLeDiff, Nat.reduceAdd, reduceCtorEq, Nat.reduceMul, hev]
  all_goals first | refine h5 _ _ ?_ | refine h4 _ _ ?_ | refine h3 _ _ ?_ | refine h2 _ _ ?_ | refine h1 _ _ ?_
  refine AW.seq_k fun K6 h6 => ?_
  all_goals refine AW.reg0 ?_
  all_goals iterate 2 (refine S.g rfl rfl fun K' k' => ?_; simp only [zz, reduceIte, Nat.reduceEqDiff, Nat.reduceAdd]; refine k' _ _ ?_; clear k' K')
  all_goals refine S.nil ?_
  all_goals simp only [ze, reduceIte, Nat.reduceEqDiff, Nat.reduceLT, Nat.reduceLeDiff, Nat.reduceAdd, reduceCtorEq, Nat.reduceMul]
  all_goals first | refine h6 _ _ ?_ | refine h5 _ _ ?_ | refine h4 _ _ ?_ | refine h3 _ _ ?_ | refine h2 _ _ ?_ | refine h1 _ _ ?_
  refine AW.cond (b := false) (by simp [ev]) (fun hc => by cases hc) (fun hc => ?_)
  refine AW.skip ?_
  all_goals simp only [zs, reduceIte, Nat.reduceEqDiff, Nat.reduceLT, Nat.reduceLeDiff, Nat.reduceAdd, reduceCtorEq, Nat.reduceMul]
  all_goals first | refine h6 _ _ ?_ | refine h5 _ _ ?_ | refine h4 _ _ ?_ | refine h3 _ _ ?_ | refine h2 _ _ ?_ | refine h1 _ _ ?_
  refine AW.seq_k fun K7 h7 => ?_
  all_goals refine AW.reg0 ?_
  all_goals (refine S.g rfl rfl fun K' k' => ?_; simp only [zz, reduceIte, Nat.reduceEqDiff, Nat.reduceLT, Nat.reduceLeDiff, Nat.reduceAdd, reduceCtorEq, Nat.reduceMul]; refine (NewSink_spec _).to fun v σ2 hv => ?_; obtain ⟨o, rfl, hno, hso, rfl⟩ := hv <;> (refine k' _ _ ?_; clear k' K'))
  all_goals (refine S.g rfl rfl fun K' k' => ?_; simp only [zz, reduceIte, Nat.reduceEqDiff, Nat.reduceAdd]; refine k' _ _ ?_; clear k' K')
  all_goals refine S.nil ?_
  all_goals simp only [ze, reduceIte, Nat.reduceEqDiff, Nat.reduceLT, Nat.reduceLeDiff, Nat.reduceAdd, reduceCtorEq, Nat.reduceMul]
  all_goals first | refine h7 _ _ ?_ | refine h6 _ _ ?_ | refine h5 _ _ ?_ | refine h4 _ _ ?_ | refine h3 _ _ ?_ | refine h2 _ _ ?_ | refine h1 _ _ ?_
  refine AW.seq_k fun K8 h8 => ?_
  all_goals refine AW.reg0 ?_
  all_goals iterate 2 (refine S.g rfl rfl fun K' k' => ?_; simp only [zz, reduceIte, Nat.reduceEqDiff, Nat.reduceLT, Nat.reduceLeDiff, Nat.reduceAdd, reduceCtorEq, Nat.reduceMul, ok36, sz36, ag36, pw]; refine k' _ _ ?_; clear k' K')
  all_goals (refine S.g rfl rfl fun K' k' => ?_; simp only [zz, reduceIte, Nat.reduceEqDiff, Nat.reduceLT, Nat.reduceLeDiff, Nat.reduceAdd, reduceCtorEq, Nat.reduceMul, pw]; refine (evform_spec o [] e _ hso he (by simp only [List.length_nil]; omega)).to fun v σ3 hv => ?_; obtain ⟨rfl, hso2, hfo⟩ := hv <;> (refine k' _ _ ?_; clear k' K'))
  all_goals refine S.nil ?_
  all_goals simp only [ze, reduceIte, Nat.reduceEqDiff, Nat.reduceLT, Nat.reduceLeDiff, Nat.reduceAdd, reduceCtorEq, Nat.reduceMul, pw]
  all_goals first | refine h8 _ _ ?_ | refine h7 _ _ ?_ | refine h6 _ _ ?_ | refine h5 _ _ ?_ | refine h4 _ _ ?_ | refine h3 _ _ ?_ | refine h2 _ _ ?_ | refine h1 _ _ ?_
  refine AW.seq_k fun K9 h9 => ?_
  refine AW.seq_k fun K10 h10 => ?_
  all_goals refine AW.reg0 ?_
  all_goals (refine S.g rfl rfl fun K' k' => ?_; simp only [zz, reduceIte, Nat.reduceEqDiff, Nat.reduceAdd, pw, hw1, hd, gt_iff_lt]; refine k' _ _ ?_; clear k' K')
  all_goals (refine S.g rfl rfl fun K' k' => ?_; simp only [zz, reduceIte, Nat.reduceEqDiff, Nat.reduceLT, Nat.reduceLeDiff, Nat.reduceAdd, reduceCtorEq, Nat.reduceMul, pw, hw1, hd, gt_iff_lt]; refine (Len_spec o _ _ hso2).to fun v σ5 hv => ?_; obtain ⟨rfl, rfl⟩ := hv <;> (refine k' _ _ ?_; clear k' K'))
  all_goals (refine S.g rfl rfl fun K' k' => ?_; simp only [zz, reduceIte, Nat.reduceEqDiff, Nat.reduceAdd, pw, hw1, hd, gt_iff_lt]; refine k' _ _ ?_; clear k' K')
  all_goals (refine S.g rfl rfl fun K' k' => ?_; simp only [zz, reduceIte, Nat.reduceEqDiff, Nat.reduceLT, Nat.reduceLeDiff, Nat.reduceAdd, reduceCtorEq, Nat.reduceMul, pw, hw1, hd, gt_iff_lt]; refine (Len_spec g _ _ (hs.other hno |>.sep hfo (hs.ne hno) skN_new)).to fun v σ6 hv => ?_; obtain ⟨rfl, rfl⟩ := hv <;> (refine k' _ _ ?_; clear k' K'))
  all_goals iterate 2 (refine S.g rfl rfl fun K' k' => ?_; simp only [zz, reduceIte, Nat.reduceEqDiff, Nat.reduceAdd, pw, hw1, hd, gt_iff_lt]; refine k' _ _ ?_; clear k' K')
  all_goals refine S.nil ?_
  all_goals simp only [ze, reduceIte, Nat.reduceEqDiff, Nat.reduceLT, Nat.reduceLeDiff, Nat.reduceAdd, reduceCtorEq, Nat.reduceMul, pw, hw1, hd, gt_iff_lt]
  all_goals first | refine h10 _ _ ?_ | refine h9 _ _ ?_ | refine h8 _ _ ?_ | refine h7 _ _ ?_ | refine h6 _ _ ?_ | refine h5 _ _ ?_ | refine h4 _ _ ?_ | refine h3 _ _ ?_ | refine h2 _ _ ?_ | refine h1 _ _ ?_
  refine AW.cond (b := false) (by simp [ev]; omega) (fun hc => by cases hc) (fun hc => ?_)
  refine AW.skip ?_
  all_goals simp only [zs, reduceIte, Nat.reduceEqDiff, Nat.reduceLT, Nat.reduceLeDiff, Nat.reduceAdd, reduceCtorEq, Nat.reduceMul]
  all_goals first | refine h10 _ _ ?_ | refine h9 _ _ ?_ | refine h8 _ _ ?_ | refine h7 _ _ ?_ | refine h6 _ _ ?_ | refine h5 _ _ ?_ | refine h4 _ _ ?_ | refine h3 _ _ ?_ | refine h2 _ _ ?_ | refine h1 _ _ ?_
  refine AW.seq_k fun K11 h11 => ?_
  all_goals refine AW.reg0 ?_
  all_goals iterate 2 (refine S.g rfl rfl fun K' k' => ?_; simp only [zz, reduceIte, Nat.reduceEqDiff, Nat.reduceLT, Nat.reduceLeDiff, Nat.reduceAdd, reduceCtorEq, Nat.reduceMul, ok36, sz36, ag36, pw]; refine k' _ _ ?_; clear k' K')
  all_goals (refine S.g rfl rfl fun K' k' => ?_; simp only [zz, reduceIte, Nat.reduceEqDiff, Nat.reduceLT, Nat.reduceLeDiff, Nat.reduceAdd, reduceCtorEq, Nat.reduceMul, pw]; refine (evform_spec g bs e _ (hs.other hno |>.sep hfo (hs.ne hno) skN_new) he hf).to fun v σ7 hv => ?_; obtain ⟨rfl, hsg, hfg⟩ := hv <;> (refine k' _ _ ?_; clear k' K'))
  all_goals refine S.nil ?_
  all_goals simp only [ze, reduceIte, Nat.reduceEqDiff, Nat.reduceLT, Nat.reduceLeDiff, Nat.reduceAdd, reduceCtorEq, Nat.reduceMul, pw]
  all_goals first | refine h11 _ _ ?_ | refine h10 _ _ ?_ | refine h9 _ _ ?_ | refine h8 _ _ ?_ | refine h7 _ _ ?_ | refine h6 _ _ ?_ | refine h5 _ _ ?_ | refine h4 _ _ ?_ | refine h3 _ _ ?_ | refine h2 _ _ ?_ | refine h1 _ _ ?_
  refine AW.seq_k fun K12 h12 => ?_
  all_goals refine AW.reg0 ?_
  all_goals (refine S.g rfl rfl fun K' k' => ?_; simp only [zz, reduceIte, Nat.reduceEqDiff, Nat.reduceAdd]; refine k' _ _ ?_; clear k' K')
  all_goals refine S.nil ?_
  all_goals simp only [ze, reduceIte, Nat.reduceEqDiff, Nat.reduceLT, Nat.reduceLeDiff, Nat.reduceAdd, reduceCtorEq, Nat.reduceMul]
  all_goals first | refine h12 _ _ ?_ | refine h11 _ _ ?_ | refine h10 _ _ ?_ | refine h9 _ _ ?_ | refine h8 _ _ ?_ | refine h7 _ _ ?_ | refine h6 _ _ ?_ | refine h5 _ _ ?_ | refine h4 _ _ ?_ | refine h3 _ _ ?_ | refine h2 _ _ ?_ | refine h1 _ _ ?_
  refine AW.ret ?_
  all_goals simp only [zs, reduceIte, Nat.reduceEqDiff, Nat.reduceLT, Nat.reduceLeDiff, Nat.reduceAdd, reduceCtorEq, Nat.reduceMul]
  exact ⟨hsg, (Fr.new hno (hs.ne hno) hgo skN_new hfo).trans hfg⟩
end Go.Abs.M
namespace Go.Abs.M
open Go Go.Abs Go.Proofs
set_option maxRecDepth 20000
set_option linter.unusedSimpArgs false
set_option linter.unusedVariables false

def bdB (b : Bd) : List Bool := textB b.var ++ evB b.ev
def partB (l : List Bd) : List Bool := lowB l.length 4 ++ l.flatMap bdB
structure goodB (b : Bd) : Prop where
  var : b.var.size ≤ 32
  ev : goodE b.ev
  ok : okE b.ev
  err : evErr b.ev = 0
structure goodP (l : List Bd) : Prop where
  len : l.length ≤ 12
  bds : ∀ b ∈ l, goodB b
theorem sz_bits {s : ByteArray} (h : s.size ≤ 64) : (textB s).length ≤ 641 := by
  rw [textB_len]; have := sizeB_le (u := s.size) (by omega); omega
theorem vb_bits {v : Val} (hs : v.s.size ≤ 64) (hn : inI64 v.n) : (vbB v).length ≤ 643 := by
  unfold vbB
  rw [List.length_append, lowB_len]
  split
  · have := sizeB_le (zig_bits v.n hn).2
    rw [numB, natB_len]; omega
  · have := sz_bits hs; omega
theorem flat_bits {α : Type} {f : α → List Bool} {c : Nat} : ∀ {l : List α}, (∀ a ∈ l, (f a).length ≤ c) → (l.flatMap f).length ≤ l.length * c
  | [], _ => by simp
  | a :: l, h => by
    have h1 := h a List.mem_cons_self
    have h2 := flat_bits (l := l) fun b hb => h b (List.mem_cons_of_mem _ hb)
    rw [List.flatMap_cons, List.length_append, List.length_cons, Nat.succ_mul]; omega
theorem ev_bits {e : Ev} (h : goodE e) : (evB e).length ≤ 11179 := by
  obtain ⟨hsrc, hseq, htime, htype, hlen, hat⟩ := h
  have h1 := sizeB_le (u := e.seq.toNat) (by omega)
  have h2 := sizeB_le (u := e.time.toNat) (by omega)
  have h3 := sz_bits (s := e.type) (by omega)
  have h4 : (e.attrs.flatMap attrB).length ≤ e.attrs.length * 1284 := flat_bits fun a ha => by
    obtain ⟨k1, k2, k3, k4⟩ := hat a ha
    have := sz_bits (s := a.name) (by omega)
    have := vb_bits k3 k4
    rw [attrB, List.length_append]; omega
  simp only [evB, List.length_append, lowB_len, natB_len]
  omega
theorem part_bits {l : List Bd} (h : goodP l) : (partB l).length ≤ 150000 := by
  have h1 : (l.flatMap bdB).length ≤ l.length * 11820 := flat_bits fun b hb => by
    obtain ⟨k1, k2, _⟩ := h.bds b hb
    have := sz_bits (s := b.var) (by omega)
    have := ev_bits k2
    rw [bdB, List.length_append]; omega
  have := h.len
  rw [partB, List.length_append, lowB_len]; omega
theorem form_spec (g : Nat) (bs : List Bool) (l : List Bd) (σ : Hp) (hs : Snk g bs σ) (hg : goodP l) (hf : bs.length + (partB l).length ≤ 1048576) :
    ACalls Try.prog 90 [ptrV g, .agg [.sl (l.map encBd)]] σ (fun v σ' => v = .tup [] ∧ Snk g (bs ++ partB l) σ' ∧ Fr g σ σ') := by
  refine ACalls.intro Try.call90 Try.func90 rfl Try.ntmps90 Try.results90 (by simp) ?_
  have hlen := hg.len
  have hw4 : IntKind.u64.wrap (l.length : Int) = (l.length : Int) := wrap_u64 (by omega)
  have hfl : (partB l).length = 4 + (l.flatMap bdB).length := by simp only [partB, List.length_append, lowB_len]
  refine AW.seq_k fun K1 h1 => ?_
  all_goals refine AW.reg0 ?_
  all_goals (refine S.g rfl rfl fun K' k' => ?_; simp only [zz, reduceIte, Nat.reduceEqDiff, Nat.reduceLT, Nat.reduceLeDiff, Nat.reduceAdd, reduceCtorEq, Nat.reduceMul, ok24, sz24, ag24]; refine k' _ _ ?_; clear k' K')
  all_goals refine S.nil ?_
  all_goals simp only [ze, reduceIte, Nat.reduceEqDiff, Nat.reduceLT, Nat.reduceLeDiff, Nat.reduceAdd, reduceCtorEq, Nat.reduceMul]
  all_goals first | refine h1 _ _ ?_
  refine AW.seq_k fun K2 h2 => ?_
  all_goals refine AW.reg0 ?_
  all_goals iterate 5 (refine S.g rfl rfl fun K' k' => ?_; simp only [zz, reduceIte, Nat.reduceEqDiff, Nat.reduceLT, Nat.reduceLeDiff, Nat.reduceAdd, reduceCtorEq, Nat.reduceMul, of24_0, ok22, sz22, ag22, sl22, el22, ok42, sz42, ag42, cv3_54, pw, hw4]; refine k' _ _ ?_; clear k' K')
  all_goals (refine S.g rfl rfl fun K' k' => ?_; simp only [zz, reduceIte, Nat.reduceEqDiff, Nat.reduceLT, Nat.reduceLeDiff, Nat.reduceAdd, reduceCtorEq, Nat.reduceMul, pw, hw4]; refine (Bits_spec g bs l.length 4 _ hs (by omega) (by omega) (by omega)).to fun v σ2 hv => ?_; obtain ⟨rfl, hs2, hf2⟩ := hv <;> (refine k' _ _ ?_; clear k' K'))
  all_goals refine S.nil ?_
  all_goals simp only [ze, reduceIte, Nat.reduceEqDiff, Nat.reduceLT, Nat.reduceLeDiff, Nat.reduceAdd, reduceCtorEq, Nat.reduceMul, pw, hw4]
  all_goals first | refine h2 _ _ ?_ | refine h1 _ _ ?_
  refine AW.seq_k fun K3 h3 => ?_
  all_goals refine AW.reg0 ?_
  all_goals iterate 4 (refine S.g rfl rfl fun K' k' => ?_; simp only [zz, reduceIte, Nat.reduceEqDiff, Nat.reduceLT, Nat.reduceLeDiff, Nat.reduceAdd, reduceCtorEq, Nat.reduceMul, of24_0, ok22, sz22, ag22, sl22, el22, ok42, sz42, ag42]; refine k' _ _ ?_; clear k' K')
  all_goals refine S.nil ?_
  all_goals simp only [ze, reduceIte, Nat.reduceEqDiff, Nat.reduceLT, Nat.reduceLeDiff, Nat.reduceAdd, reduceCtorEq, Nat.reduceMul]
  all_goals first | refine h3 _ _ ?_ | refine h2 _ _ ?_ | refine h1 _ _ ?_
  refine AW.block ?_   -- 0
  refine AW.loop (fun m s σ' => ∃ i, m = l.length - i ∧ i ≤ l.length ∧ s.t 0 = ptrV g ∧ s.t 13 = .sl (l.map encBd) ∧ s.t 14 = .c (.int .i64 l.length) ∧ s.t 15 = .c (.int .i64 (i : Nat)) ∧
    Snk g (bs ++ lowB l.length 4 ++ (l.take i).flatMap bdB) σ' ∧ Fr g σ σ') l.length ?_ ?_
  · refine ⟨0, rfl, Nat.zero_le _, ?_⟩
    all_goals simp only [zs, reduceIte, Nat.reduceEqDiff, Nat.reduceLT, Nat.reduceLeDiff, Nat.reduceAdd, reduceCtorEq, Nat.reduceMul, pw]
    exact ⟨rfl, by simpa using hs2, hf2⟩
  clear hs2 hf2
  rintro m s σ2 ⟨i, hm, hi, e0, e13, e14, e15, hsn, hfr⟩
  refine AW.seq_k fun K4 h4 => ?_
  all_goals refine AW.reg0 ?_
  all_goals (refine S.g rfl rfl fun K' k' => ?_; simp only [zz, reduceIte, Nat.reduceEqDiff, Nat.reduceAdd, e14, e15]; refine k' _ _ ?_; clear k' K')
  all_goals refine S.nil ?_
  all_goals simp only [ze, reduceIte, Nat.reduceEqDiff, Nat.reduceLT, Nat.reduceLeDiff, Nat.reduceAdd, reduceCtorEq, Nat.reduceMul, e14, e15]
  all_goals first | refine h4 _ _ ?_ | refine h3 _ _ ?_ | refine h2 _ _ ?_ | refine h1 _ _ ?_
  refine AW.seq_k fun K5 h5 => ?_
  refine AW.cond (b := decide (i < l.length)) (by simp [ev]) (fun hc => ?_) (fun hc => ?_)
  · refine AW.skip ?_
    all_goals simp only [zs, reduceIte, Nat.reduceEqDiff, Nat.reduceLT, Nat.reduceLeDiff, Nat.reduceAdd, reduceCtorEq, Nat.reduceMul]
    all_goals first | refine h5 _ _ ?_ | refine h4 _ _ ?_ | refine h3 _ _ ?_ | refine h2 _ _ ?_ | refine h1 _ _ ?_
    have hin := of_decide_eq_true hc
    obtain ⟨b, hb⟩ : ∃ b, l[i]? = some b := ⟨_, List.getElem?_eq_getElem hin⟩
    have hbe : (l.map encBd).getD i [] = encBd b := by simp [List.getD, hb]
    have htk : l.take (i + 1) = l.take i ++ [b] := by rw [List.take_add_one, hb]; rfl
    have hle : ((l.take (i + 1)).flatMap bdB).length ≤ (l.flatMap bdB).length := by
      conv => rhs; rw [← List.take_append_drop (i + 1) l]
      rw [List.flatMap_append, List.length_append]; omega
    rw [htk, List.flatMap_append, List.length_append] at hle
    have hat1 : ([b].flatMap bdB).length = (textB b.var).length + (evB b.ev).length := by simp [bdB]
    rw [hat1] at hle
    have hbl : (bs ++ lowB l.length 4 ++ (l.take i).flatMap bdB).length = bs.length + 4 + ((l.take i).flatMap bdB).length := by simp only [List.length_append, lowB_len]
    have hgoal : bs ++ lowB l.length 4 ++ (l.take (i + 1)).flatMap bdB = (bs ++ lowB l.length 4 ++ (l.take i).flatMap bdB) ++ textB b.var ++ evB b.ev := by
      rw [htk, List.flatMap_append]; simp [bdB]
    generalize bs ++ lowB l.length 4 ++ (l.take i).flatMap bdB = bs2 at *
    obtain ⟨hb1, hb2, hb3, hb4⟩ := hg.bds b (List.mem_of_getElem? hb)
    have hwi : IntKind.i64.wrap ((i : Int) + 1) = ((i + 1 : Nat) : Int) := by rw [wrap_small _ (by omega) (by omega)]; rfl
    refine AW.seq_k fun K6 h6 => ?_
    refine AW.block ?_   -- 1
    refine AW.seq_k fun K7 h7 => ?_
    all_goals refine AW.reg0 ?_
    all_goals iterate 4 (refine S.g rfl rfl fun K' k' => ?_; simp only [zz, reduceIte, Nat.reduceEqDiff, Nat.reduceLT, Nat.reduceLeDiff, Nat.reduceAdd, reduceCtorEq, Nat.reduceMul, sl22, el22, ok42, sz42, ag42, zt42, e13, e15, hin, hbe, encBd, List.length_singleton, List.getD_cons_zero]; refine k' _ _ ?_; clear k' K')
    all_goals refine S.nil ?_
    all_goals simp only [ze, reduceIte, Nat.reduceEqDiff, Nat.reduceLT, Nat.reduceLeDiff, Nat.reduceAdd, reduceCtorEq, Nat.reduceMul, e13, e15, hin, hbe, encBd, List.length_singleton, List.getD_cons_zero]
    all_goals first | refine h7 _ _ ?_ | refine h6 _ _ ?_ | refine h5 _ _ ?_ | refine h4 _ _ ?_ | refine h3 _ _ ?_ | refine h2 _ _ ?_ | refine h1 _ _ ?_
    refine AW.seq_k fun K8 h8 => ?_
    all_goals refine AW.reg0 ?_
    all_goals iterate 3 (refine S.g rfl rfl fun K' k' => ?_; simp only [zz, reduceIte, Nat.reduceEqDiff, Nat.reduceLT, Nat.reduceLeDiff, Nat.reduceAdd, reduceCtorEq, Nat.reduceMul, of42_0, ok9, sz9, ag9, e0, pw]; refine k' _ _ ?_; clear k' K')
    all_goals (refine S.g rfl rfl fun K' k' => ?_; simp only [zz, reduceIte, Nat.reduceEqDiff, Nat.reduceLT, Nat.reduceLeDiff, Nat.reduceAdd, reduceCtorEq, Nat.reduceMul, e0, pw]; refine (Text_spec g _ b.var _ hsn (by omega)).to fun v σ4 hv => ?_; obtain ⟨rfl, hs3, hf3⟩ := hv <;> (refine k' _ _ ?_; clear k' K'))
    all_goals refine S.nil ?_
    all_goals simp only [ze, reduceIte, Nat.reduceEqDiff, Nat.reduceLT, Nat.reduceLeDiff, Nat.reduceAdd, reduceCtorEq, Nat.reduceMul, e0, pw]
    all_goals first | refine h8 _ _ ?_ | refine h7 _ _ ?_ | refine h6 _ _ ?_ | refine h5 _ _ ?_ | refine h4 _ _ ?_ | refine h3 _ _ ?_ | refine h2 _ _ ?_ | refine h1 _ _ ?_
    all_goals refine AW.reg0 ?_
    all_goals iterate 3 (refine S.g rfl rfl fun K' k' => ?_; simp only [zz, reduceIte, Nat.reduceEqDiff, Nat.reduceLT, Nat.reduceLeDiff, Nat.reduceAdd, reduceCtorEq, Nat.reduceMul, of42_1, ok36, sz36, ag36, e0, pw, encEv]; refine k' _ _ ?_; clear k' K')
    all_goals (refine S.g rfl rfl fun K' k' => ?_; simp only [zz, reduceIte, Nat.reduceEqDiff, Nat.reduceLT, Nat.reduceLeDiff, Nat.reduceAdd, reduceCtorEq, Nat.reduceMul, e0, pw, encEv]; refine (evPut_spec g _ b.ev _ hs3 hb2 hb3 hb4 (by simp only [List.length_append]; omega)).to fun v σ4 hv => ?_; obtain ⟨rfl, hs4, hf4⟩ := hv <;> (refine k' _ _ ?_; clear k' K'))
    all_goals refine S.nil ?_
    all_goals simp only [ze, reduceIte, Nat.reduceEqDiff, Nat.reduceLT, Nat.reduceLeDiff, Nat.reduceAdd, reduceCtorEq, Nat.reduceMul, e0, pw, encEv]
    all_goals first | refine h8 _ _ ?_ | refine h7 _ _ ?_ | refine h6 _ _ ?_ | refine h5 _ _ ?_ | refine h4 _ _ ?_ | refine h3 _ _ ?_ | refine h2 _ _ ?_ | refine h1 _ _ ?_
    all_goals refine AW.reg0 ?_
    all_goals iterate 2 (refine S.g rfl rfl fun K' k' => ?_; simp only [zz, reduceIte, Nat.reduceEqDiff, Nat.reduceAdd, e0, e13, e14, e15, hwi, pw]; refine k' _ _ ?_; clear k' K')
    all_goals refine S.nil ?_
    all_goals simp only [ze, reduceIte, Nat.reduceEqDiff, Nat.reduceLT, Nat.reduceLeDiff, Nat.reduceAdd, reduceCtorEq, Nat.reduceMul, e0, e13, e14, e15, hwi, pw]
    refine ⟨l.length - (i + 1), by omega, i + 1, rfl, by omega, rfl, ?_, (hfr.trans hf3).trans hf4⟩
    rw [hgoal]; exact hs4
  · refine AW.exit ?_
    all_goals simp only [zs, reduceIte, Nat.reduceEqDiff, Nat.reduceLT, Nat.reduceLeDiff, Nat.reduceAdd, reduceCtorEq, Nat.reduceMul]
    have hin := of_decide_eq_false hc
    have hi2 : i = l.length := by omega
    subst hi2
    rw [List.take_of_length_le (by omega)] at hsn
    refine ⟨rfl, ?_, hfr⟩
    rw [partB]
    simpa using hsn
end Go.Abs.M
namespace Go.Abs.M
open Go Go.Abs Go.Proofs
set_option maxRecDepth 20000
set_option linter.unusedSimpArgs false
set_option linter.unusedVariables false

theorem attrs_good : ∀ {l : List Attr} {p : Option ByteArray}, attrsFrom p l = 0 → ∀ a ∈ l, a.name.size ≤ 32 ∧ (a.v.kind = 1 ∨ a.v.kind = 2) ∧ a.v.s.size ≤ 64
  | a :: l, p, h, b, hb => by
    simp only [attrsFrom] at h
    split at h
    · cases h
    rename_i h1
    split at h
    · rename_i h2; exact absurd h h2
    rename_i h2
    split at h
    · cases h
    rcases List.mem_cons.1 hb with rfl | hb
    · have hn : isName b.name = true := by simpa using h1
      have hv : valOk b.v = true := by
        have : valErr b.v = 0 := by simpa using h2
        unfold valErr at this
        split at this
        · assumption
        · cases this
      simp only [isName, Bool.and_eq_true, decide_eq_true_eq] at hn
      simp only [valOk, decide_eq_true_eq] at hv
      exact ⟨hn.2, by omega, by omega⟩
    · exact attrs_good h b hb
def inA (l : List Bd) : Prop := ∀ b ∈ l, ∀ a ∈ b.ev.attrs, inI64 a.v.n
theorem ev_good {e : Ev} (h : evErr e = 0) (hn : ∀ a ∈ e.attrs, inI64 a.v.n) : goodE e := by
  unfold evErr at h
  split at h
  · cases h
  rename_i h1
  simp only [not_or, Bool.not_eq_false] at h1
  obtain ⟨k1, k2, k3, k4, k5⟩ := h1
  simp only [timeOk, decide_eq_true_eq] at k3 k4
  simp only [isName, Bool.and_eq_true, decide_eq_true_eq] at k5
  unfold attrsErr at h
  split at h
  · cases h
  refine ⟨⟨by omega, by omega⟩, k3, k4, k5.2, by omega, fun a ha => ?_⟩
  obtain ⟨h1, h2, h3⟩ := attrs_good h a ha
  exact ⟨h1, h2, h3, hn a ha⟩
theorem part_good0 {n : Nat} : ∀ {l : List Bd} {p : Option ByteArray} {sn : List (Int × Int)}, partFrom n p sn l = 0 → ∀ b ∈ l, b.var.size ≤ 32 ∧ evErr b.ev = 0
  | a :: l, p, sn, h, b, hb => by
    simp only [partFrom] at h
    split at h
    · cases h
    rename_i h1
    split at h
    · rename_i h2; exact absurd h h2
    rename_i h2
    rcases List.mem_cons.1 hb with rfl | hb
    · simp only [not_or, Bool.not_eq_false] at h1
      have hn := h1.1
      simp only [named, Bool.or_eq_true, decide_eq_true_eq, isName, Bool.and_eq_true] at hn
      exact ⟨by rcases hn with hn | hn <;> omega, by simpa using h2⟩
    · exact part_good0 h b hb
theorem part_good {l : List Bd} (h : partErr l = 0) (hok : okP l) (hn : inA l) : goodP l := by
  unfold partErr at h
  split at h
  · cases h
  refine ⟨by omega, fun b hb => ?_⟩
  obtain ⟨h1, h2⟩ := part_good0 h b hb
  exact ⟨h1, ev_good h2 (hn b hb), (hok b hb).ev, h2⟩
/-- The bits of a partial match, or none if something is wrong with it. -/
def putP (l : List Bd) : List Bool := if partErr l = 0 then partB l else []
theorem Put_spec (g : Nat) (bs : List Bool) (l : List Bd) (σ : Hp) (hs : Snk g bs σ) (hok : okP l) (hn : inA l) (hf : bs.length ≤ 1024) :
    ACalls Try.prog 35 [ptrV g, .agg [.sl (l.map encBd)]] σ (fun v σ' => v = .c (.int .i64 (partErr l)) ∧ Snk g (bs ++ putP l) σ' ∧ Fr g σ σ') := by
  refine ACalls.intro Try.call35 Try.func35 rfl Try.ntmps35 Try.results35 (by simp) ?_
  have hgo : ∃ c, σ.obj g = some c := by obtain ⟨v, hv⟩ := hs.obj; exact ⟨_, hv⟩
  refine AW.seq_k fun K1 h1 => ?_
  all_goals refine AW.reg0 ?_
  all_goals iterate 2 (refine S.g rfl rfl fun K' k' => ?_; simp only [zz, reduceIte, Nat.reduceEqDiff, Nat.reduceLT, Nat.reduceLeDiff, Nat.reduceAdd, reduceCtorEq, Nat.reduceMul, ok24, sz24, ag24]; refine k' _ _ ?_; clear k' K')
  all_goals refine S.nil ?_
  all_goals simp only [ze, reduceIte, Nat.reduceEqDiff, Nat.reduceLT, Nat.reduceLeDiff, Nat.reduceAdd, reduceCtorEq, Nat.reduceMul]
  all_goals first | refine h1 _ _ ?_
  refine AW.seq_k fun K2 h2 => ?_
  refine AW.seq_k fun K3 h3 => ?_
  all_goals refine AW.reg0 ?_
  all_goals (refine S.g rfl rfl fun K' k' => ?_; simp only [zz, reduceIte, Nat.reduceEqDiff, Nat.reduceAdd, pw]; refine k' _ _ ?_; clear k' K')
  all_goals (refine S.g rfl rfl fun K' k' => ?_; simp only [zz, reduceIte, Nat.reduceEqDiff, Nat.reduceLT, Nat.reduceLeDiff, Nat.reduceAdd, reduceCtorEq, Nat.reduceMul, pw]; refine (Flags_spec g bs σ hs (by omega)).to fun v σ1 hv => ?_; obtain ⟨rfl, rfl⟩ := hv <;> (refine k' _ _ ?_; clear k' K'))
  all_goals (refine S.g rfl rfl fun K' k' => ?_; simp only [zz, reduceIte, Nat.reduceEqDiff, Nat.reduceAdd, pw]; refine k' _ _ ?_; clear k' K')
  all_goals refine S.nil ?_
  all_goals simp only [ze, reduceIte, Nat.reduceEqDiff, Nat.reduceLT, Nat.reduceLeDiff, Nat.reduceAdd, reduceCtorEq, Nat.reduceMul, pw]
  all_goals first | refine h3 _ _ ?_ | refine h2 _ _ ?_ | refine h1 _ _ ?_
  refine AW.cond (b := false) (by simp [ev]) (fun hc => by cases hc) (fun hc => ?_)
  refine AW.skip ?_
  all_goals simp only [zs, reduceIte, Nat.reduceEqDiff, Nat.reduceLT, Nat.reduceLeDiff, Nat.reduceAdd, reduceCtorEq, Nat.reduceMul]
  all_goals first | refine h3 _ _ ?_ | refine h2 _ _ ?_ | refine h1 _ _ ?_
  refine AW.seq_k fun K4 h4 => ?_
  refine AW.seq_k fun K5 h5 => ?_
  all_goals refine AW.reg0 ?_
  all_goals (refine S.g rfl rfl fun K' k' => ?_; simp only [zz, reduceIte, Nat.reduceEqDiff, Nat.reduceLT, Nat.reduceLeDiff, Nat.reduceAdd, reduceCtorEq, Nat.reduceMul, ok24, sz24, ag24]; refine k' _ _ ?_; clear k' K')
  all_goals (refine S.g rfl rfl fun K' k' => ?_; simp only [zz, reduceIte, Nat.reduceEqDiff, Nat.reduceLT, Nat.reduceLeDiff, Nat.reduceAdd, reduceCtorEq, Nat.reduceMul]; refine PCalls.eqto (check_part l hok) ?_ <;> (refine k' _ _ ?_; clear k' K'))
  all_goals (refine S.g rfl rfl fun K' k' => ?_; simp only [zz, reduceIte, Nat.reduceEqDiff, Nat.reduceAdd]; refine k' _ _ ?_; clear k' K')
  all_goals refine S.nil ?_
  all_goals simp only [ze, reduceIte, Nat.reduceEqDiff, Nat.reduceLT, Nat.reduceLeDiff, Nat.reduceAdd, reduceCtorEq, Nat.reduceMul]
  all_goals first | refine h5 _ _ ?_ | refine h4 _ _ ?_ | refine h3 _ _ ?_ | refine h2 _ _ ?_ | refine h1 _ _ ?_
  refine AW.seq_k fun K6 h6 => ?_
  all_goals refine AW.reg0 ?_
  all_goals iterate 2 (refine S.g rfl rfl fun K' k' => ?_; simp only [zz, reduceIte, Nat.reduceEqDiff, Nat.reduceAdd]; refine k' _ _ ?_; clear k' K')
  all_goals refine S.nil ?_
  all_goals simp only [ze, reduceIte, Nat.reduceEqDiff, Nat.reduceLT, Nat.reduceLeDiff, Nat.reduceAdd, reduceCtorEq, Nat.reduceMul]
  all_goals first | refine h6 _ _ ?_ | refine h5 _ _ ?_ | refine h4 _ _ ?_ | refine h3 _ _ ?_ | refine h2 _ _ ?_ | refine h1 _ _ ?_
  refine AW.cond (b := decide (partErr l ≠ 0)) (by simp [ev]; try rfl) (fun hc => ?_) (fun hc => ?_)
  · have hc := of_decide_eq_true hc
    refine AW.seq_k fun K7 h7 => ?_
    all_goals refine AW.reg0 ?_
    all_goals iterate 2 (refine S.g rfl rfl fun K' k' => ?_; simp only [zz, reduceIte, Nat.reduceEqDiff, Nat.reduceAdd]; refine k' _ _ ?_; clear k' K')
    all_goals refine S.nil ?_
    all_goals simp only [ze, reduceIte, Nat.reduceEqDiff, Nat.reduceLT, Nat.reduceLeDiff, Nat.reduceAdd, reduceCtorEq, Nat.reduceMul]
    all_goals first | refine h7 _ _ ?_ | refine h6 _ _ ?_ | refine h5 _ _ ?_ | refine h4 _ _ ?_ | refine h3 _ _ ?_ | refine h2 _ _ ?_ | refine h1 _ _ ?_
    refine AW.ret ?_
    all_goals simp only [zs, reduceIte, Nat.reduceEqDiff, Nat.reduceLT, Nat.reduceLeDiff, Nat.reduceAdd, reduceCtorEq, Nat.reduceMul]
    refine ⟨?_, Fr.refl _ _⟩
    rw [putP, if_neg hc, List.append_nil]; exact hs
  have hpe : partErr l = 0 := by simpa using of_decide_eq_false hc
  have hg := part_good hpe hok hn
  have hpb := part_bits hg
  have hw1 : IntKind.i64.wrap (1048576 - (bs.length : Int)) = 1048576 - (bs.length : Int) := by unfold IntKind.wrap; simp [IntKind.signed, IntKind.bits]; omega
  refine AW.skip ?_
  all_goals simp only [zs, reduceIte, Nat.reduceEqDiff, Nat.reduceLT, Nat.reduceLeDiff, Nat.reduceAdd, reduceCtorEq, Nat.reduceMul]
  all_goals first | refine h7 _ _ ?_ | refine h6 _ _ ?_ | refine h5 _ _ ?_ | refine h4 _ _ ?_ | refine h3 _ _ ?_ | refine h2 _ _ ?_ | refine h1 _ _ ?_
  refine AW.seq_k fun K8 h8 => ?_
  all_goals refine AW.reg0 ?_
  all_goals (refine S.g rfl rfl fun K' k' => ?_; simp only [zz, reduceIte, Nat.reduceEqDiff, Nat.reduceLT, Nat.reduceLeDiff, Nat.reduceAdd, reduceCtorEq, Nat.reduceMul]; refine (NewSink_spec _).to fun v σ2 hv => ?_; obtain ⟨o, rfl, hno, hso, rfl⟩ := hv <;> (refine k' _ _ ?_; clear k' K'))
  all_goals (refine S.g rfl rfl fun K' k' => ?_; simp only [zz, reduceIte, Nat.reduceEqDiff, Nat.reduceAdd]; refine k' _ _ ?_; clear k' K')
  all_goals refine S.nil ?_
  all_goals simp only [ze, reduceIte, Nat.reduceEqDiff, Nat.reduceLT, Nat.reduceLeDiff, Nat.reduceAdd, reduceCtorEq, Nat.reduceMul]
  all_goals first | refine h8 _ _ ?_ | refine h7 _ _ ?_ | refine h6 _ _ ?_ | refine h5 _ _ ?_ | refine h4 _ _ ?_ | refine h3 _ _ ?_ | refine h2 _ _ ?_ | refine h1 _ _ ?_
  refine AW.seq_k fun K9 h9 => ?_
  all_goals refine AW.reg0 ?_
  all_goals iterate 2 (refine S.g rfl rfl fun K' k' => ?_; simp only [zz, reduceIte, Nat.reduceEqDiff, Nat.reduceLT, Nat.reduceLeDiff, Nat.reduceAdd, reduceCtorEq, Nat.reduceMul, ok24, sz24, ag24, pw]; refine k' _ _ ?_; clear k' K')
  all_goals (refine S.g rfl rfl fun K' k' => ?_; simp only [zz, reduceIte, Nat.reduceEqDiff, Nat.reduceLT, Nat.reduceLeDiff, Nat.reduceAdd, reduceCtorEq, Nat.reduceMul, pw]; refine (form_spec o [] l _ hso hg (by simp only [List.length_nil]; omega)).to fun v σ3 hv => ?_; obtain ⟨rfl, hso2, hfo⟩ := hv <;> (refine k' _ _ ?_; clear k' K'))
  all_goals refine S.nil ?_
  all_goals simp only [ze, reduceIte, Nat.reduceEqDiff, Nat.reduceLT, Nat.reduceLeDiff, Nat.reduceAdd, reduceCtorEq, Nat.reduceMul, pw]
  all_goals first | refine h9 _ _ ?_ | refine h8 _ _ ?_ | refine h7 _ _ ?_ | refine h6 _ _ ?_ | refine h5 _ _ ?_ | refine h4 _ _ ?_ | refine h3 _ _ ?_ | refine h2 _ _ ?_ | refine h1 _ _ ?_
  refine AW.seq_k fun K10 h10 => ?_
  refine AW.seq_k fun K11 h11 => ?_
  all_goals refine AW.reg0 ?_
  all_goals (refine S.g rfl rfl fun K' k' => ?_; simp only [zz, reduceIte, Nat.reduceEqDiff, Nat.reduceAdd, pw, hw1, gt_iff_lt]; refine k' _ _ ?_; clear k' K')
  all_goals (refine S.g rfl rfl fun K' k' => ?_; simp only [zz, reduceIte, Nat.reduceEqDiff, Nat.reduceLT, Nat.reduceLeDiff, Nat.reduceAdd, reduceCtorEq, Nat.reduceMul, pw, hw1, gt_iff_lt]; refine (Len_spec o _ _ hso2).to fun v σ5 hv => ?_; obtain ⟨rfl, rfl⟩ := hv <;> (refine k' _ _ ?_; clear k' K'))
  all_goals (refine S.g rfl rfl fun K' k' => ?_; simp only [zz, reduceIte, Nat.reduceEqDiff, Nat.reduceAdd, pw, hw1, gt_iff_lt]; refine k' _ _ ?_; clear k' K')
  all_goals (refine S.g rfl rfl fun K' k' => ?_; simp only [zz, reduceIte, Nat.reduceEqDiff, Nat.reduceLT, Nat.reduceLeDiff, Nat.reduceAdd, reduceCtorEq, Nat.reduceMul, pw, hw1, gt_iff_lt]; refine (Len_spec g _ _ (hs.other hno |>.sep hfo (hs.ne hno) skN_new)).to fun v σ6 hv => ?_; obtain ⟨rfl, rfl⟩ := hv <;> (refine k' _ _ ?_; clear k' K'))
  all_goals iterate 2 (refine S.g rfl rfl fun K' k' => ?_; simp only [zz, reduceIte, Nat.reduceEqDiff, Nat.reduceAdd, pw, hw1, gt_iff_lt]; refine k' _ _ ?_; clear k' K')
  all_goals refine S.nil ?_
  all_goals simp only [ze, reduceIte, Nat.reduceEqDiff, Nat.reduceLT, Nat.reduceLeDiff, Nat.reduceAdd, reduceCtorEq, Nat.reduceMul, pw, hw1, gt_iff_lt]
  all_goals first | refine h11 _ _ ?_ | refine h10 _ _ ?_ | refine h9 _ _ ?_ | refine h8 _ _ ?_ | refine h7 _ _ ?_ | refine h6 _ _ ?_ | refine h5 _ _ ?_ | refine h4 _ _ ?_ | refine h3 _ _ ?_ | refine h2 _ _ ?_ | refine h1 _ _ ?_
  refine AW.cond (b := false) (by simp [ev]; omega) (fun hc => by cases hc) (fun hc => ?_)
  refine AW.skip ?_
  all_goals simp only [zs, reduceIte, Nat.reduceEqDiff, Nat.reduceLT, Nat.reduceLeDiff, Nat.reduceAdd, reduceCtorEq, Nat.reduceMul]
  all_goals first | refine h11 _ _ ?_ | refine h10 _ _ ?_ | refine h9 _ _ ?_ | refine h8 _ _ ?_ | refine h7 _ _ ?_ | refine h6 _ _ ?_ | refine h5 _ _ ?_ | refine h4 _ _ ?_ | refine h3 _ _ ?_ | refine h2 _ _ ?_ | refine h1 _ _ ?_
  refine AW.seq_k fun K12 h12 => ?_
  all_goals refine AW.reg0 ?_
  all_goals iterate 2 (refine S.g rfl rfl fun K' k' => ?_; simp only [zz, reduceIte, Nat.reduceEqDiff, Nat.reduceLT, Nat.reduceLeDiff, Nat.reduceAdd, reduceCtorEq, Nat.reduceMul, ok24, sz24, ag24, pw]; refine k' _ _ ?_; clear k' K')
  all_goals (refine S.g rfl rfl fun K' k' => ?_; simp only [zz, reduceIte, Nat.reduceEqDiff, Nat.reduceLT, Nat.reduceLeDiff, Nat.reduceAdd, reduceCtorEq, Nat.reduceMul, pw]; refine (form_spec g bs l _ (hs.other hno |>.sep hfo (hs.ne hno) skN_new) hg (by omega)).to fun v σ7 hv => ?_; obtain ⟨rfl, hsg, hfg⟩ := hv <;> (refine k' _ _ ?_; clear k' K'))
  all_goals refine S.nil ?_
  all_goals simp only [ze, reduceIte, Nat.reduceEqDiff, Nat.reduceLT, Nat.reduceLeDiff, Nat.reduceAdd, reduceCtorEq, Nat.reduceMul, pw]
  all_goals first | refine h12 _ _ ?_ | refine h11 _ _ ?_ | refine h10 _ _ ?_ | refine h9 _ _ ?_ | refine h8 _ _ ?_ | refine h7 _ _ ?_ | refine h6 _ _ ?_ | refine h5 _ _ ?_ | refine h4 _ _ ?_ | refine h3 _ _ ?_ | refine h2 _ _ ?_ | refine h1 _ _ ?_
  refine AW.seq_k fun K13 h13 => ?_
  all_goals refine AW.reg0 ?_
  all_goals (refine S.g rfl rfl fun K' k' => ?_; simp only [zz, reduceIte, Nat.reduceEqDiff, Nat.reduceAdd]; refine k' _ _ ?_; clear k' K')
  all_goals refine S.nil ?_
  all_goals simp only [ze, reduceIte, Nat.reduceEqDiff, Nat.reduceLT, Nat.reduceLeDiff, Nat.reduceAdd, reduceCtorEq, Nat.reduceMul]
  all_goals first | refine h13 _ _ ?_ | refine h12 _ _ ?_ | refine h11 _ _ ?_ | refine h10 _ _ ?_ | refine h9 _ _ ?_ | refine h8 _ _ ?_ | refine h7 _ _ ?_ | refine h6 _ _ ?_ | refine h5 _ _ ?_ | refine h4 _ _ ?_ | refine h3 _ _ ?_ | refine h2 _ _ ?_ | refine h1 _ _ ?_
  refine AW.ret ?_
  all_goals simp only [zs, reduceIte, Nat.reduceEqDiff, Nat.reduceLT, Nat.reduceLeDiff, Nat.reduceAdd, reduceCtorEq, Nat.reduceMul]
  refine ⟨by rw [hpe], ?_, (Fr.new hno (hs.ne hno) hgo skN_new hfo).trans hfg⟩
  rw [putP, if_pos hpe]; exact hsg
end Go.Abs.M
namespace Go.Abs.M
open Go Go.Abs Go.Proofs
set_option maxRecDepth 20000
set_option linter.unusedSimpArgs false
set_option linter.unusedVariables false

theorem packB_lt (bs : List Bool) : ∀ x ∈ packB bs, x < 256 := fun x hx => by
  obtain ⟨i, hi⟩ := List.getElem?_of_mem hx
  exact (packB_inv bs i x hi).1
theorem partB_ne (l : List Bd) : partB l ≠ [] := fun e => by
  have := congrArg List.length e
  simp [partB, lowB_len] at this
def bytesP (l : List Bd) : List Nat := if partErr l = 0 then packB (partB l) else []
theorem Bytes_spec (l : List Bd) (hok : okP l) (hn : inA l) : PCalls Try.prog 31 [.agg [.sl (l.map encBd)]] (fun v => v = .tup [.sl ((bytesP l).map encB), .c (.int .i64 (partErr l))]) := by
  refine PCalls.intro Try.call31 Try.func31 rfl Try.ntmps31 Try.results31 (by simp) ?_
  refine AW.seq_k fun K1 h1 => ?_
  all_goals refine AW.reg0 ?_
  all_goals iterate 3 (refine S.g rfl rfl fun K' k' => ?_; simp only [zz, reduceIte, Nat.reduceEqDiff, Nat.reduceLT, Nat.reduceLeDiff, Nat.reduceAdd, reduceCtorEq, Nat.reduceMul, ok24, sz24, ag24]; refine k' _ _ ?_; clear k' K')
  all_goals refine S.nil ?_
  all_goals simp only [ze, reduceIte, Nat.reduceEqDiff, Nat.reduceLT, Nat.reduceLeDiff, Nat.reduceAdd, reduceCtorEq, Nat.reduceMul]
  all_goals first | refine h1 _ _ ?_
  refine AW.seq_k fun K2 h2 => ?_
  all_goals refine AW.reg0 ?_
  all_goals (refine S.g rfl rfl fun K' k' => ?_; simp only [zz, reduceIte, Nat.reduceEqDiff, Nat.reduceLT, Nat.reduceLeDiff, Nat.reduceAdd, reduceCtorEq, Nat.reduceMul]; refine (NewSink_spec _).to fun v σ2 hv => ?_; obtain ⟨o, rfl, hno, hso, rfl⟩ := hv <;> (refine k' _ _ ?_; clear k' K'))
  all_goals (refine S.g rfl rfl fun K' k' => ?_; simp only [zz, reduceIte, Nat.reduceEqDiff, Nat.reduceAdd]; refine k' _ _ ?_; clear k' K')
  all_goals refine S.nil ?_
  all_goals simp only [ze, reduceIte, Nat.reduceEqDiff, Nat.reduceLT, Nat.reduceLeDiff, Nat.reduceAdd, reduceCtorEq, Nat.reduceMul]
  all_goals first | refine h2 _ _ ?_ | refine h1 _ _ ?_
  refine AW.seq_k fun K3 h3 => ?_
  refine AW.seq_k fun K4 h4 => ?_
  all_goals refine AW.reg0 ?_
  all_goals iterate 2 (refine S.g rfl rfl fun K' k' => ?_; simp only [zz, reduceIte, Nat.reduceEqDiff, Nat.reduceLT, Nat.reduceLeDiff, Nat.reduceAdd, reduceCtorEq, Nat.reduceMul, ok24, sz24, ag24, pw]; refine k' _ _ ?_; clear k' K')
  all_goals (refine S.g rfl rfl fun K' k' => ?_; simp only [zz, reduceIte, Nat.reduceEqDiff, Nat.reduceLT, Nat.reduceLeDiff, Nat.reduceAdd, reduceCtorEq, Nat.reduceMul, pw]; refine (Put_spec o [] l _ hso hok hn (by simp)).to fun v σ3 hv => ?_; obtain ⟨rfl, hs2, hf2⟩ := hv <;> (refine k' _ _ ?_; clear k' K'))
  all_goals (refine S.g rfl rfl fun K' k' => ?_; simp only [zz, reduceIte, Nat.reduceEqDiff, Nat.reduceAdd, pw]; refine k' _ _ ?_; clear k' K')
  all_goals refine S.nil ?_
  all_goals simp only [ze, reduceIte, Nat.reduceEqDiff, Nat.reduceLT, Nat.reduceLeDiff, Nat.reduceAdd, reduceCtorEq, Nat.reduceMul, pw]
  all_goals first | refine h4 _ _ ?_ | refine h3 _ _ ?_ | refine h2 _ _ ?_ | refine h1 _ _ ?_
  refine AW.seq_k fun K5 h5 => ?_
  all_goals refine AW.reg0 ?_
  all_goals iterate 2 (refine S.g rfl rfl fun K' k' => ?_; simp only [zz, reduceIte, Nat.reduceEqDiff, Nat.reduceAdd]; refine k' _ _ ?_; clear k' K')
  all_goals refine S.nil ?_
  all_goals simp only [ze, reduceIte, Nat.reduceEqDiff, Nat.reduceLT, Nat.reduceLeDiff, Nat.reduceAdd, reduceCtorEq, Nat.reduceMul]
  all_goals first | refine h5 _ _ ?_ | refine h4 _ _ ?_ | refine h3 _ _ ?_ | refine h2 _ _ ?_ | refine h1 _ _ ?_
  refine AW.cond (b := decide (partErr l ≠ 0)) (by simp [ev]; try rfl) (fun hc => ?_) (fun hc => ?_)
  · have hc := of_decide_eq_true hc
    refine AW.seq_k fun K6 h6 => ?_
    all_goals refine AW.reg0 ?_
    all_goals iterate 3 (refine S.g rfl rfl fun K' k' => ?_; simp only [zz, reduceIte, Nat.reduceEqDiff, Nat.reduceAdd]; refine k' _ _ ?_; clear k' K')
    all_goals refine S.nil ?_
    all_goals simp only [ze, reduceIte, Nat.reduceEqDiff, Nat.reduceLT, Nat.reduceLeDiff, Nat.reduceAdd, reduceCtorEq, Nat.reduceMul]
    all_goals first | refine h6 _ _ ?_ | refine h5 _ _ ?_ | refine h4 _ _ ?_ | refine h3 _ _ ?_ | refine h2 _ _ ?_ | refine h1 _ _ ?_
    refine AW.bare (AW.ret ?_)
    all_goals simp only [zs, reduceIte, Nat.reduceEqDiff, Nat.reduceLT, Nat.reduceLeDiff, Nat.reduceAdd, reduceCtorEq, Nat.reduceMul]
    rw [bytesP, if_neg hc]; rfl
  have hpe : partErr l = 0 := by simpa using of_decide_eq_false hc
  have hpb := part_bits (part_good hpe hok hn)
  have hs3 := hs2
  rw [List.nil_append, putP, if_pos hpe] at hs3
  refine AW.skip ?_
  all_goals simp only [zs, reduceIte, Nat.reduceEqDiff, Nat.reduceLT, Nat.reduceLeDiff, Nat.reduceAdd, reduceCtorEq, Nat.reduceMul]
  all_goals first | refine h6 _ _ ?_ | refine h5 _ _ ?_ | refine h4 _ _ ?_ | refine h3 _ _ ?_ | refine h2 _ _ ?_ | refine h1 _ _ ?_
  refine AW.seq_k fun K7 h7 => ?_
  all_goals refine AW.reg0 ?_
  all_goals (refine S.g rfl rfl fun K' k' => ?_; simp only [zz, reduceIte, Nat.reduceEqDiff, Nat.reduceAdd, pw]; refine k' _ _ ?_; clear k' K')
  all_goals (refine S.g rfl rfl fun K' k' => ?_; simp only [zz, reduceIte, Nat.reduceEqDiff, Nat.reduceLT, Nat.reduceLeDiff, Nat.reduceAdd, reduceCtorEq, Nat.reduceMul, pw]; refine (Out_spec o _ _ hs3 (partB_ne l) (by omega)).to fun v σ4 hv => ?_; obtain ⟨rfl, rfl⟩ := hv <;> (refine k' _ _ ?_; clear k' K'))
  all_goals iterate 2 (refine S.g rfl rfl fun K' k' => ?_; simp only [zz, reduceIte, Nat.reduceEqDiff, Nat.reduceAdd, pw]; refine k' _ _ ?_; clear k' K')
  all_goals refine S.nil ?_
  all_goals simp only [ze, reduceIte, Nat.reduceEqDiff, Nat.reduceLT, Nat.reduceLeDiff, Nat.reduceAdd, reduceCtorEq, Nat.reduceMul, pw]
  all_goals first | refine h7 _ _ ?_ | refine h6 _ _ ?_ | refine h5 _ _ ?_ | refine h4 _ _ ?_ | refine h3 _ _ ?_ | refine h2 _ _ ?_ | refine h1 _ _ ?_
  refine AW.bare (AW.ret ?_)
  all_goals simp only [zs, reduceIte, Nat.reduceEqDiff, Nat.reduceLT, Nat.reduceLeDiff, Nat.reduceAdd, reduceCtorEq, Nat.reduceMul]
  rw [bytesP, if_pos hpe, hpe]; rfl
end Go.Abs.M
