import Derived.Test.YtmhamgllanihoaaBkd
import Derived.Laws.Append
namespace Go.Abs.M
open Go Go.Abs Go.Proofs
set_option maxRecDepth 20000
set_option linter.unusedSimpArgs false
set_option linter.unusedVariables false
theorem killPt (g d : Nat) : kill d (ptrV g) = ptrV g := rfl
theorem pw : (∀ g, okV (ptrV g) = true) ∧ (∀ g, wk (ptrV g) = ptrV g) ∧ (∀ g d, kill d (ptrV g) = ptrV g) := ⟨okPt, wkPt, killPt⟩
theorem Fr.at {g o : Nat} {σ σ' : Hp} {c : List V} (h : Fr g σ σ') (hne : o ≠ g) (hc : σ.obj o = some c) : σ'.obj o = some c := h.obj o c hne hc
theorem evform_spec (g : Nat) (bs : List Bool) (e : Ev) (σ : Hp) (hs : Snk g bs σ) (he : goodE e) (hf : bs.length + (evB e).length ≤ 1048576) :
    ACalls Try.prog 137 [ptrV g, .agg (encEv e)] σ (fun v σ' => v = .c (.bool true) ∧ Snk g (bs ++ evB e) σ' ∧ Fr g σ σ') := by
  refine ACalls.intro Try.call137 Try.func137 rfl Try.ntmps137 Try.results137 (by simp) ?_
  obtain ⟨hsrc, hseq, htime, htype, hlen, hat⟩ := he
  have hw1 : IntKind.u64.wrap e.src = ((e.src.toNat : Nat) : Int) := by rw [show e.src = ((e.src.toNat : Nat) : Int) by omega, wrap_u64 (by omega)]; simp
  have hw2 : IntKind.u64.wrap e.seq = ((e.seq.toNat : Nat) : Int) := by rw [show e.seq = ((e.seq.toNat : Nat) : Int) by omega, wrap_u64 (by omega)]; simp
  have hw3 : IntKind.u64.wrap e.time = ((e.time.toNat : Nat) : Int) := by rw [show e.time = ((e.time.toNat : Nat) : Int) by omega, wrap_u64 (by omega)]; simp
  have hw4 : IntKind.u64.wrap (e.attrs.length : Int) = (e.attrs.length : Int) := wrap_u64 (by omega)
  have hfl : (evB e).length = 4 + ((natB e.seq.toNat).length + ((natB e.time.toNat).length + ((textB e.type).length + (4 + (e.attrs.flatMap attrB).length)))) := by simp only [evB, List.length_append, lowB_len]
  refine AW.seq_k fun K1 h1 => ?_
  all_goals refine AW.reg0 ?_
  all_goals iterate 2 (refine S.g rfl rfl fun K' k' => ?_; simp only [zz, reduceIte, Nat.reduceEqDiff, Nat.reduceLT, Nat.reduceLeDiff, Nat.reduceAdd, reduceCtorEq, Nat.reduceMul, ok36, sz36, ag36, encEv]; refine k' _ _ ?_; clear k' K')
  all_goals refine S.nil ?_
  all_goals simp only [ze, reduceIte, Nat.reduceEqDiff, Nat.reduceLT, Nat.reduceLeDiff, Nat.reduceAdd, reduceCtorEq, Nat.reduceMul, encEv]
  all_goals apply_assumption
  refine AW.seq_k fun K2 h2 => ?_
  all_goals refine AW.region (T := { hp := fun d => d == 5 }) (fun _ _ h => by cases h) rfl ?_
  all_goals (refine S.g rfl rfl fun K' k' => ?_; simp only [zz, reduceIte, Nat.reduceEqDiff, Nat.reduceLT, Nat.reduceLeDiff, Nat.reduceAdd, reduceCtorEq, Nat.reduceMul, zt4, encEv, map1]; intro ob hob <;> (refine k' _ _ ?_; clear k' K'))
  all_goals (refine S.g rfl rfl fun K' k' => ?_; simp only [zz, reduceIte, Nat.reduceEqDiff, Nat.reduceLT, Nat.reduceLeDiff, Nat.reduceAdd, reduceCtorEq, Nat.reduceMul, ok4, sz4, ag4, encEv, map1]; refine k' _ _ ?_; clear k' K')
  all_goals refine S.nil ?_
  all_goals simp only [ze, reduceIte, Nat.reduceEqDiff, Nat.reduceLT, Nat.reduceLeDiff, Nat.reduceAdd, reduceCtorEq, Nat.reduceMul, encEv, map1]
  all_goals apply_assumption
  obtain ⟨vg, hvg⟩ := hs.obj
  have hbg : ob ≠ g := fun e => by rw [e, hvg] at hob; cases hob
  have hs1 : Snk g bs (σ.setObj ob (some [.c (.bool true)])) := hs.other hob
  have hf1 : Fr g σ (σ.setObj ob (some [.c (.bool true)])) := Fr.other hob (fun e => hbg e.symm)
  have ho1 : (σ.setObj ob (some [.c (.bool true)])).obj ob = some [.c (.bool true)] := by simp
  generalize σ.setObj ob (some [.c (.bool true)]) = σ1 at *
  refine AW.seq_k fun K3 h3 => ?_
  all_goals refine AW.reg0 ?_
  all_goals iterate 2 (refine S.g rfl rfl fun K' k' => ?_; simp only [zz, reduceIte, Nat.reduceEqDiff, Nat.reduceAdd, pw]; refine k' _ _ ?_; clear k' K')
  all_goals refine S.nil ?_
  all_goals simp only [ze, reduceIte, Nat.reduceEqDiff, Nat.reduceLT, Nat.reduceLeDiff, Nat.reduceAdd, reduceCtorEq, Nat.reduceMul, pw]
  all_goals apply_assumption
  refine AW.seq_k fun K4 h4 => ?_
  all_goals refine AW.reg0 ?_
  all_goals iterate 6 (refine S.g rfl rfl fun K' k' => ?_; simp only [zz, reduceIte, Nat.reduceEqDiff, Nat.reduceLT, Nat.reduceLeDiff, Nat.reduceAdd, reduceCtorEq, Nat.reduceMul, of36_0, of33_0, ok3, sz3, ag3, cv3_54, pw, hw1]; refine k' _ _ ?_; clear k' K')
  all_goals (refine S.g rfl rfl fun K' k' => ?_; simp only [zz, reduceIte, Nat.reduceEqDiff, Nat.reduceLT, Nat.reduceLeDiff, Nat.reduceAdd, reduceCtorEq, Nat.reduceMul, pw, hw1]; refine (Bits_spec g bs e.src.toNat 4 _ hs1 (by omega) (by omega) (by omega)).to fun v σ2 hv => ?_; obtain ⟨rfl, hs2, hf2⟩ := hv <;> (refine k' _ _ ?_; clear k' K'))
  all_goals (refine S.g rfl rfl fun K' k' => ?_; simp only [zz, reduceIte, Nat.reduceEqDiff, Nat.reduceLT, Nat.reduceLeDiff, Nat.reduceAdd, reduceCtorEq, Nat.reduceMul, pw, hw1]; refine (keep_ok ob _ (hf2.at hbg ho1)).to fun v σ3 hv => ?_; obtain ⟨rfl, rfl⟩ := hv <;> (refine k' _ _ ?_; clear k' K'))
  all_goals refine S.nil ?_
  all_goals simp only [ze, reduceIte, Nat.reduceEqDiff, Nat.reduceLT, Nat.reduceLeDiff, Nat.reduceAdd, reduceCtorEq, Nat.reduceMul, pw, hw1]
  all_goals apply_assumption
  refine AW.seq_k fun K5 h5 => ?_
  all_goals refine AW.reg0 ?_
  all_goals iterate 6 (refine S.g rfl rfl fun K' k' => ?_; simp only [zz, reduceIte, Nat.reduceEqDiff, Nat.reduceLT, Nat.reduceLeDiff, Nat.reduceAdd, reduceCtorEq, Nat.reduceMul, of36_0, of33_1, ok2, sz2, ag2, cv2_54, pw, hw2]; refine k' _ _ ?_; clear k' K')
  all_goals (refine S.g rfl rfl fun K' k' => ?_; simp only [zz, reduceIte, Nat.reduceEqDiff, Nat.reduceLT, Nat.reduceLeDiff, Nat.reduceAdd, reduceCtorEq, Nat.reduceMul, pw, hw2]; refine (Nat_spec g _ e.seq.toNat _ hs2 (by omega) (by simp only [List.length_append, lowB_len]; omega)).to fun v σ4 hv => ?_; obtain ⟨rfl, hs3, hf3⟩ := hv <;> (refine k' _ _ ?_; clear k' K'))
  all_goals (refine S.g rfl rfl fun K' k' => ?_; simp only [zz, reduceIte, Nat.reduceEqDiff, Nat.reduceLT, Nat.reduceLeDiff, Nat.reduceAdd, reduceCtorEq, Nat.reduceMul, pw, hw2]; refine (keep_ok ob _ (hf3.at hbg (hf2.at hbg ho1))).to fun v σ3 hv => ?_; obtain ⟨rfl, rfl⟩ := hv <;> (refine k' _ _ ?_; clear k' K'))
  all_goals refine S.nil ?_
  all_goals simp only [ze, reduceIte, Nat.reduceEqDiff, Nat.reduceLT, Nat.reduceLeDiff, Nat.reduceAdd, reduceCtorEq, Nat.reduceMul, pw, hw2]
  all_goals apply_assumption
  refine AW.seq_k fun K6 h6 => ?_
  all_goals refine AW.reg0 ?_
  all_goals iterate 5 (refine S.g rfl rfl fun K' k' => ?_; simp only [zz, reduceIte, Nat.reduceEqDiff, Nat.reduceLT, Nat.reduceLeDiff, Nat.reduceAdd, reduceCtorEq, Nat.reduceMul, of36_1, ok2, sz2, ag2, cv2_54, pw, hw3]; refine k' _ _ ?_; clear k' K')
  all_goals (refine S.g rfl rfl fun K' k' => ?_; simp only [zz, reduceIte, Nat.reduceEqDiff, Nat.reduceLT, Nat.reduceLeDiff, Nat.reduceAdd, reduceCtorEq, Nat.reduceMul, pw, hw3]; refine (Nat_spec g _ e.time.toNat _ hs3 (by omega) (by simp only [List.length_append, lowB_len]; omega)).to fun v σ4 hv => ?_; obtain ⟨rfl, hs4, hf4⟩ := hv <;> (refine k' _ _ ?_; clear k' K'))
  all_goals (refine S.g rfl rfl fun K' k' => ?_; simp only [zz, reduceIte, Nat.reduceEqDiff, Nat.reduceLT, Nat.reduceLeDiff, Nat.reduceAdd, reduceCtorEq, Nat.reduceMul, pw, hw3]; refine (keep_ok ob _ (hf4.at hbg (hf3.at hbg (hf2.at hbg ho1)))).to fun v σ3 hv => ?_; obtain ⟨rfl, rfl⟩ := hv <;> (refine k' _ _ ?_; clear k' K'))
  all_goals refine S.nil ?_
  all_goals simp only [ze, reduceIte, Nat.reduceEqDiff, Nat.reduceLT, Nat.reduceLeDiff, Nat.reduceAdd, reduceCtorEq, Nat.reduceMul, pw, hw3]
  all_goals apply_assumption
  refine AW.seq_k fun K7 h7 => ?_
  all_goals refine AW.reg0 ?_
  all_goals iterate 4 (refine S.g rfl rfl fun K' k' => ?_; simp only [zz, reduceIte, Nat.reduceEqDiff, Nat.reduceLT, Nat.reduceLeDiff, Nat.reduceAdd, reduceCtorEq, Nat.reduceMul, of36_2, ok9, sz9, ag9, pw]; refine k' _ _ ?_; clear k' K')
  all_goals (refine S.g rfl rfl fun K' k' => ?_; simp only [zz, reduceIte, Nat.reduceEqDiff, Nat.reduceLT, Nat.reduceLeDiff, Nat.reduceAdd, reduceCtorEq, Nat.reduceMul, pw]; refine (Text_spec g _ e.type _ hs4 (by simp only [List.length_append, lowB_len]; omega)).to fun v σ4 hv => ?_; obtain ⟨rfl, hs5, hf5⟩ := hv <;> (refine k' _ _ ?_; clear k' K'))
  all_goals (refine S.g rfl rfl fun K' k' => ?_; simp only [zz, reduceIte, Nat.reduceEqDiff, Nat.reduceLT, Nat.reduceLeDiff, Nat.reduceAdd, reduceCtorEq, Nat.reduceMul, pw]; refine (keep_ok ob _ (hf5.at hbg (hf4.at hbg (hf3.at hbg (hf2.at hbg ho1))))).to fun v σ3 hv => ?_; obtain ⟨rfl, rfl⟩ := hv <;> (refine k' _ _ ?_; clear k' K'))
  all_goals refine S.nil ?_
  all_goals simp only [ze, reduceIte, Nat.reduceEqDiff, Nat.reduceLT, Nat.reduceLeDiff, Nat.reduceAdd, reduceCtorEq, Nat.reduceMul, pw]
  all_goals apply_assumption
  refine AW.seq_k fun K8 h8 => ?_
  all_goals refine AW.reg0 ?_
  all_goals iterate 6 (refine S.g rfl rfl fun K' k' => ?_; simp only [zz, reduceIte, Nat.reduceEqDiff, Nat.reduceLT, Nat.reduceLeDiff, Nat.reduceAdd, reduceCtorEq, Nat.reduceMul, of36_3, ok34, sz34, ag34, sl34, el34, ok143, sz143, ag143, cv3_54, pw, hw4]; refine k' _ _ ?_; clear k' K')
  all_goals (refine S.g rfl rfl fun K' k' => ?_; simp only [zz, reduceIte, Nat.reduceEqDiff, Nat.reduceLT, Nat.reduceLeDiff, Nat.reduceAdd, reduceCtorEq, Nat.reduceMul, pw, hw4]; refine (Bits_spec g _ e.attrs.length 4 _ hs5 (by omega) (by omega) (by simp only [List.length_append, lowB_len]; omega)).to fun v σ2 hv => ?_; obtain ⟨rfl, hs6, hf6⟩ := hv <;> (refine k' _ _ ?_; clear k' K'))
  all_goals (refine S.g rfl rfl fun K' k' => ?_; simp only [zz, reduceIte, Nat.reduceEqDiff, Nat.reduceLT, Nat.reduceLeDiff, Nat.reduceAdd, reduceCtorEq, Nat.reduceMul, pw, hw4]; refine (keep_ok ob _ (hf6.at hbg (hf5.at hbg (hf4.at hbg (hf3.at hbg (hf2.at hbg ho1)))))).to fun v σ3 hv => ?_; obtain ⟨rfl, rfl⟩ := hv <;> (refine k' _ _ ?_; clear k' K'))
  all_goals refine S.nil ?_
  all_goals simp only [ze, reduceIte, Nat.reduceEqDiff, Nat.reduceLT, Nat.reduceLeDiff, Nat.reduceAdd, reduceCtorEq, Nat.reduceMul, pw, hw4]
  all_goals apply_assumption
  have hfa := ((((hf1.trans hf2).trans hf3).trans hf4).trans hf5).trans hf6
  have ho2 := hf6.at hbg (hf5.at hbg (hf4.at hbg (hf3.at hbg (hf2.at hbg ho1))))
  clear hf1 hf2 hf3 hf4 hf5 hf6 hs1 hs2 hs3 hs4 hs5 ho1
  refine AW.seq_k fun K9 h9 => ?_
  refine AW.seq_k fun K10 h10 => ?_
  all_goals refine AW.reg0 ?_
  all_goals iterate 4 (refine S.g rfl rfl fun K' k' => ?_; simp only [zz, reduceIte, Nat.reduceEqDiff, Nat.reduceLT, Nat.reduceLeDiff, Nat.reduceAdd, reduceCtorEq, Nat.reduceMul, of36_3, ok34, sz34, ag34, sl34, el34, ok143, sz143, ag143]; refine k' _ _ ?_; clear k' K')
  all_goals refine S.nil ?_
  all_goals simp only [ze, reduceIte, Nat.reduceEqDiff, Nat.reduceLT, Nat.reduceLeDiff, Nat.reduceAdd, reduceCtorEq, Nat.reduceMul]
  all_goals apply_assumption
  refine AW.block ?_   -- 0
  refine AW.loop (fun m s σ' => ∃ i, m = e.attrs.length - i ∧ i ≤ e.attrs.length ∧ s.t 0 = ptrV g ∧ s.t 5 = ptrV ob ∧ s.t 6 = .fn (.func 149) [] [ptrV ob] ∧ s.t 48 = .sl (e.attrs.map encAttr) ∧ s.t 49 = .c (.int .i64 e.attrs.length) ∧ s.t 50 = .c (.int .i64 (i : Nat)) ∧
    Snk g (bs ++ lowB e.src.toNat 4 ++ natB e.seq.toNat ++ natB e.time.toNat ++ textB e.type ++ lowB e.attrs.length 4 ++ (e.attrs.take i).flatMap attrB) σ' ∧ σ'.obj ob = some [.c (.bool true)] ∧ Fr g σ σ') e.attrs.length ?_ ?_
  · refine ⟨0, rfl, Nat.zero_le _, ?_⟩
    all_goals simp only [zs, reduceIte, Nat.reduceEqDiff, Nat.reduceLT, Nat.reduceLeDiff, Nat.reduceAdd, reduceCtorEq, Nat.reduceMul]
    exact ⟨rfl, rfl, rfl, rfl, by simpa using hs6, ho2, hfa⟩
  clear hfa ho2 hs6
  rintro m s σ2 ⟨i, hm, hi, e0, e5, e6, e48, e49, e50, hsn, ho, hfr⟩
  refine AW.seq_k fun K11 h11 => ?_
  all_goals refine AW.reg0 ?_
  all_goals (refine S.g rfl rfl fun K' k' => ?_; simp only [zz, reduceIte, Nat.reduceEqDiff, Nat.reduceAdd, e49, e50]; refine k' _ _ ?_; clear k' K')
  all_goals refine S.nil ?_
  all_goals simp only [ze, reduceIte, Nat.reduceEqDiff, Nat.reduceLT, Nat.reduceLeDiff, Nat.reduceAdd, reduceCtorEq, Nat.reduceMul, e49, e50]
  all_goals apply_assumption
  refine AW.seq_k fun K12 h12 => ?_
  refine AW.cond (b := decide (i < e.attrs.length)) (by simp [ev]) (fun hc => ?_) (fun hc => ?_)
  · refine AW.skip ?_
    all_goals simp only [zs, reduceIte, Nat.reduceEqDiff, Nat.reduceLT, Nat.reduceLeDiff, Nat.reduceAdd, reduceCtorEq, Nat.reduceMul]
    all_goals apply_assumption
    have hin := of_decide_eq_true hc
    obtain ⟨a, ha⟩ : ∃ a, e.attrs[i]? = some a := ⟨_, List.getElem?_eq_getElem hin⟩
    have hae : (e.attrs.map encAttr).getD i [] = encAttr a := by simp [List.getD, ha]
    have htk : e.attrs.take (i + 1) = e.attrs.take i ++ [a] := by rw [List.take_add_one, ha]; rfl
    have hle : ((e.attrs.take (i + 1)).flatMap attrB).length ≤ (e.attrs.flatMap attrB).length := by
      conv => rhs; rw [← List.take_append_drop (i + 1) e.attrs]
      rw [List.flatMap_append, List.length_append]; omega
    rw [htk, List.flatMap_append, List.length_append] at hle
    have hat1 : ([a].flatMap attrB).length = (textB a.name).length + (2 + (if a.v.kind = 1 then numB a.v.n else textB a.v.s).length) := by simp [attrB, vbB, lowB_len]
    rw [hat1] at hle
    have hbl : (bs ++ lowB e.src.toNat 4 ++ natB e.seq.toNat ++ natB e.time.toNat ++ textB e.type ++ lowB e.attrs.length 4 ++ (e.attrs.take i).flatMap attrB).length = bs.length + 4 + (natB e.seq.toNat).length + (natB e.time.toNat).length + (textB e.type).length + 4 + ((e.attrs.take i).flatMap attrB).length := by simp only [List.length_append, lowB_len]
    have hgoal : bs ++ lowB e.src.toNat 4 ++ natB e.seq.toNat ++ natB e.time.toNat ++ textB e.type ++ lowB e.attrs.length 4 ++ (e.attrs.take (i + 1)).flatMap attrB = (bs ++ lowB e.src.toNat 4 ++ natB e.seq.toNat ++ natB e.time.toNat ++ textB e.type ++ lowB e.attrs.length 4 ++ (e.attrs.take i).flatMap attrB) ++ textB a.name ++ lowB a.v.kind.toNat 2 ++ (if a.v.kind = 1 then numB a.v.n else textB a.v.s) := by
      rw [htk, List.flatMap_append]; simp [attrB, vbB]
    generalize bs ++ lowB e.src.toNat 4 ++ natB e.seq.toNat ++ natB e.time.toNat ++ textB e.type ++ lowB e.attrs.length 4 ++ (e.attrs.take i).flatMap attrB = bs2 at *
    obtain ⟨ha1, ha2, ha3, ha4⟩ := hat a (List.mem_of_getElem? ha)
    have hwk : IntKind.u64.wrap a.v.kind = ((a.v.kind.toNat : Nat) : Int) := by rw [show a.v.kind = ((a.v.kind.toNat : Nat) : Int) by omega, wrap_u64 (by omega)]; simp
    have hwi : IntKind.i64.wrap ((i : Int) + 1) = ((i + 1 : Nat) : Int) := by rw [wrap_small _ (by omega) (by omega)]; rfl
    have hel : (encAttr a).length = 4 := rfl
    refine AW.seq_k fun K13 h13 => ?_
    refine AW.block ?_   -- 1
    refine AW.seq_k fun K14 h14 => ?_
    all_goals refine AW.reg0 ?_
    all_goals iterate 4 (refine S.g rfl rfl fun K' k' => ?_; simp only [zz, reduceIte, Nat.reduceEqDiff, Nat.reduceLT, Nat.reduceLeDiff, Nat.reduceAdd, reduceCtorEq, Nat.reduceMul, sl34, el34, ok143, sz143, ag143, zt143, e48, e50, hin, hae, encAttr, List.length_singleton, List.getD_cons_zero]; refine k' _ _ ?_; clear k' K')
    all_goals refine S.nil ?_
    all_goals simp only [ze, reduceIte, Nat.reduceEqDiff, Nat.reduceLT, Nat.reduceLeDiff, Nat.reduceAdd, reduceCtorEq, Nat.reduceMul, e48, e50, hin, hae, encAttr, List.length_singleton, List.getD_cons_zero]
    all_goals apply_assumption
    refine AW.seq_k fun K15 h15 => ?_
    all_goals refine AW.reg0 ?_
    all_goals iterate 4 (refine S.g rfl rfl fun K' k' => ?_; simp only [zz, reduceIte, Nat.reduceEqDiff, Nat.reduceLT, Nat.reduceLeDiff, Nat.reduceAdd, reduceCtorEq, Nat.reduceMul, of143_0, ok9, sz9, ag9, e0, e6, pw]; refine k' _ _ ?_; clear k' K')
    all_goals (refine S.g rfl rfl fun K' k' => ?_; simp only [zz, reduceIte, Nat.reduceEqDiff, Nat.reduceLT, Nat.reduceLeDiff, Nat.reduceAdd, reduceCtorEq, Nat.reduceMul, e0, e6, pw]; refine (Text_spec g _ a.name _ hsn (by omega)).to fun v σ4 hv => ?_; obtain ⟨rfl, hs7, hf7⟩ := hv <;> (refine k' _ _ ?_; clear k' K'))
    all_goals (refine S.g rfl rfl fun K' k' => ?_; simp only [zz, reduceIte, Nat.reduceEqDiff, Nat.reduceLT, Nat.reduceLeDiff, Nat.reduceAdd, reduceCtorEq, Nat.reduceMul, e0, e6, pw]; refine (keep_ok ob _ (hf7.at hbg ho)).to fun v σ3 hv => ?_; obtain ⟨rfl, rfl⟩ := hv <;> (refine k' _ _ ?_; clear k' K'))
    all_goals refine S.nil ?_
    all_goals simp only [ze, reduceIte, Nat.reduceEqDiff, Nat.reduceLT, Nat.reduceLeDiff, Nat.reduceAdd, reduceCtorEq, Nat.reduceMul, e0, e6, pw]
    all_goals apply_assumption
    refine AW.seq_k fun K16 h16 => ?_
    all_goals refine AW.reg0 ?_
    all_goals iterate 6 (refine S.g rfl rfl fun K' k' => ?_; simp only [zz, reduceIte, Nat.reduceEqDiff, Nat.reduceLT, Nat.reduceLeDiff, Nat.reduceAdd, reduceCtorEq, Nat.reduceMul, of143_1, of141_0, ok3, sz3, ag3, cv3_54, e0, e6, pw, hwk]; refine k' _ _ ?_; clear k' K')
    all_goals (refine S.g rfl rfl fun K' k' => ?_; simp only [zz, reduceIte, Nat.reduceEqDiff, Nat.reduceLT, Nat.reduceLeDiff, Nat.reduceAdd, reduceCtorEq, Nat.reduceMul, e0, e6, pw, hwk]; refine (Bits_spec g _ a.v.kind.toNat 2 _ hs7 (by omega) (by omega) (by simp only [List.length_append, lowB_len]; omega)).to fun v σ2 hv => ?_; obtain ⟨rfl, hs8, hf8⟩ := hv <;> (refine k' _ _ ?_; clear k' K'))
    all_goals (refine S.g rfl rfl fun K' k' => ?_; simp only [zz, reduceIte, Nat.reduceEqDiff, Nat.reduceLT, Nat.reduceLeDiff, Nat.reduceAdd, reduceCtorEq, Nat.reduceMul, e0, e6, pw, hwk]; refine (keep_ok ob _ (hf8.at hbg (hf7.at hbg ho))).to fun v σ3 hv => ?_; obtain ⟨rfl, rfl⟩ := hv <;> (refine k' _ _ ?_; clear k' K'))
    all_goals refine S.nil ?_
    all_goals simp only [ze, reduceIte, Nat.reduceEqDiff, Nat.reduceLT, Nat.reduceLeDiff, Nat.reduceAdd, reduceCtorEq, Nat.reduceMul, e0, e6, pw, hwk]
    all_goals apply_assumption
    have hkd : (a.v.kind == 1) = decide (a.v.kind = 1) := by rw [Bool.eq_iff_iff]; simp
    refine AW.seq_k fun K17 h17 => ?_
    all_goals refine AW.reg0 ?_
    all_goals iterate 4 (refine S.g rfl rfl fun K' k' => ?_; simp only [zz, reduceIte, Nat.reduceEqDiff, Nat.reduceLT, Nat.reduceLeDiff, Nat.reduceAdd, reduceCtorEq, Nat.reduceMul, of143_1, of141_0, ok3, sz3, ag3, hkd]; refine k' _ _ ?_; clear k' K')
    all_goals refine S.nil ?_
    all_goals simp only [ze, reduceIte, Nat.reduceEqDiff, Nat.reduceLT, Nat.reduceLeDiff, Nat.reduceAdd, reduceCtorEq, Nat.reduceMul, hkd]
    all_goals apply_assumption
    refine AW.cond (b := decide (a.v.kind = 1)) (by simp [ev]) (fun hc => ?_) (fun hc => ?_)
    · have hk1 := of_decide_eq_true hc
      rw [if_pos hk1] at hle hgoal
      all_goals refine AW.reg0 ?_
      all_goals iterate 5 (refine S.g rfl rfl fun K' k' => ?_; simp only [zz, reduceIte, Nat.reduceEqDiff, Nat.reduceLT, Nat.reduceLeDiff, Nat.reduceAdd, reduceCtorEq, Nat.reduceMul, of143_1, of141_1, ok2, sz2, ag2, e0, e6, pw]; refine k' _ _ ?_; clear k' K')
      all_goals (refine S.g rfl rfl fun K' k' => ?_; simp only [zz, reduceIte, Nat.reduceEqDiff, Nat.reduceLT, Nat.reduceLeDiff, Nat.reduceAdd, reduceCtorEq, Nat.reduceMul, e0, e6, pw]; refine (Num_spec g _ a.v.n _ hs8 ha4 (by simp only [List.length_append, lowB_len]; omega)).to fun v σ2 hv => ?_; obtain ⟨rfl, hs9, hf9⟩ := hv <;> (refine k' _ _ ?_; clear k' K'))
      all_goals (refine S.g rfl rfl fun K' k' => ?_; simp only [zz, reduceIte, Nat.reduceEqDiff, Nat.reduceLT, Nat.reduceLeDiff, Nat.reduceAdd, reduceCtorEq, Nat.reduceMul, e0, e6, pw]; refine (keep_ok ob _ (hf9.at hbg (hf8.at hbg (hf7.at hbg ho)))).to fun v σ3 hv => ?_; obtain ⟨rfl, rfl⟩ := hv <;> (refine k' _ _ ?_; clear k' K'))
      all_goals refine S.nil ?_
      all_goals simp only [ze, reduceIte, Nat.reduceEqDiff, Nat.reduceLT, Nat.reduceLeDiff, Nat.reduceAdd, reduceCtorEq, Nat.reduceMul, e0, e6, pw]
      all_goals apply_assumption
      all_goals refine AW.reg0 ?_
      all_goals iterate 2 (refine S.g rfl rfl fun K' k' => ?_; simp only [zz, reduceIte, Nat.reduceEqDiff, Nat.reduceAdd, e0, e5, e6, e48, e49, e50, hwi, pw]; refine k' _ _ ?_; clear k' K')
      all_goals refine S.nil ?_
      all_goals simp only [ze, reduceIte, Nat.reduceEqDiff, Nat.reduceLT, Nat.reduceLeDiff, Nat.reduceAdd, reduceCtorEq, Nat.reduceMul, e0, e5, e6, e48, e49, e50, hwi, pw]
      refine ⟨e.attrs.length - (i + 1), by omega, i + 1, rfl, by omega, rfl, ?_, hf9.at hbg (hf8.at hbg (hf7.at hbg ho)), ((hfr.trans hf7).trans hf8).trans hf9⟩
      rw [hgoal]; exact hs9
    · have hk1 := of_decide_eq_false hc
      rw [if_neg hk1] at hle hgoal
      all_goals refine AW.reg0 ?_
      all_goals iterate 5 (refine S.g rfl rfl fun K' k' => ?_; simp only [zz, reduceIte, Nat.reduceEqDiff, Nat.reduceLT, Nat.reduceLeDiff, Nat.reduceAdd, reduceCtorEq, Nat.reduceMul, of143_1, of141_2, ok9, sz9, ag9, e0, e6, pw]; refine k' _ _ ?_; clear k' K')
      all_goals (refine S.g rfl rfl fun K' k' => ?_; simp only [zz, reduceIte, Nat.reduceEqDiff, Nat.reduceLT, Nat.reduceLeDiff, Nat.reduceAdd, reduceCtorEq, Nat.reduceMul, e0, e6, pw]; refine (Text_spec g _ a.v.s _ hs8 (by simp only [List.length_append, lowB_len]; omega)).to fun v σ2 hv => ?_; obtain ⟨rfl, hs9, hf9⟩ := hv <;> (refine k' _ _ ?_; clear k' K'))
      all_goals (refine S.g rfl rfl fun K' k' => ?_; simp only [zz, reduceIte, Nat.reduceEqDiff, Nat.reduceLT, Nat.reduceLeDiff, Nat.reduceAdd, reduceCtorEq, Nat.reduceMul, e0, e6, pw]; refine (keep_ok ob _ (hf9.at hbg (hf8.at hbg (hf7.at hbg ho)))).to fun v σ3 hv => ?_; obtain ⟨rfl, rfl⟩ := hv <;> (refine k' _ _ ?_; clear k' K'))
      all_goals refine S.nil ?_
      all_goals simp only [ze, reduceIte, Nat.reduceEqDiff, Nat.reduceLT, Nat.reduceLeDiff, Nat.reduceAdd, reduceCtorEq, Nat.reduceMul, e0, e6, pw]
      all_goals apply_assumption
      all_goals refine AW.reg0 ?_
      all_goals iterate 2 (refine S.g rfl rfl fun K' k' => ?_; simp only [zz, reduceIte, Nat.reduceEqDiff, Nat.reduceAdd, e0, e5, e6, e48, e49, e50, hwi, pw]; refine k' _ _ ?_; clear k' K')
      all_goals refine S.nil ?_
      all_goals simp only [ze, reduceIte, Nat.reduceEqDiff, Nat.reduceLT, Nat.reduceLeDiff, Nat.reduceAdd, reduceCtorEq, Nat.reduceMul, e0, e5, e6, e48, e49, e50, hwi, pw]
      refine ⟨e.attrs.length - (i + 1), by omega, i + 1, rfl, by omega, rfl, ?_, hf9.at hbg (hf8.at hbg (hf7.at hbg ho)), ((hfr.trans hf7).trans hf8).trans hf9⟩
      rw [hgoal]; exact hs9
  · refine AW.exit ?_
    all_goals simp only [zs, reduceIte, Nat.reduceEqDiff, Nat.reduceLT, Nat.reduceLeDiff, Nat.reduceAdd, reduceCtorEq, Nat.reduceMul]
    all_goals apply_assumption
    have hin := of_decide_eq_false hc
    have hi2 : i = e.attrs.length := by omega
    subst hi2
    rw [List.take_of_length_le (by omega)] at hsn
    refine AW.seq_k fun K18 h18 => ?_
    all_goals refine AW.reg0 ?_
    all_goals iterate 2 (refine S.g rfl rfl fun K' k' => ?_; simp only [zz, reduceIte, Nat.reduceEqDiff, Nat.reduceLT, Nat.reduceLeDiff, Nat.reduceAdd, reduceCtorEq, Nat.reduceMul, ok4, sz4, ag4, e5, ptrV, ho, map1]; refine k' _ _ ?_; clear k' K')
    all_goals refine S.nil ?_
    all_goals simp only [ze, reduceIte, Nat.reduceEqDiff, Nat.reduceLT, Nat.reduceLeDiff, Nat.reduceAdd, reduceCtorEq, Nat.reduceMul, e5, ptrV, ho, map1]
    all_goals apply_assumption
    refine AW.ret ?_
    all_goals simp only [zs, reduceIte, Nat.reduceEqDiff, Nat.reduceLT, Nat.reduceLeDiff, Nat.reduceAdd, reduceCtorEq, Nat.reduceMul]
    refine ⟨?_, hfr⟩
    rw [evB]
    simpa using hsn
end Go.Abs.M
namespace Go.Abs.M
open Go Go.Abs Go.Proofs
set_option maxRecDepth 20000
set_option linter.unusedSimpArgs false
set_option linter.unusedVariables false
theorem Snk.sep {g o : Nat} {bs : List Bool} {σ σ' : Hp} (h : Snk g bs σ) (hf : Fr o σ σ') (hne : g ≠ o) (hn : skN o σ = none) : Snk g bs σ' := by
  rcases h with ⟨h1, h2⟩ | ⟨k, h1, h2⟩
  · exact .inl ⟨h1, hf.obj g _ hne h2⟩
  · exact .inr ⟨k, hf.obj g _ hne h1, (hf.gr k _ h2 (by rw [hn]; exact fun e => by cases e)).1⟩
theorem Fr.new {g o : Nat} {σ σ3 : Hp} {x : Option (List V)} (ho : σ.obj o = none) (hg : g ≠ o) (hgo : ∃ c, σ.obj g = some c) (hn : skN o (σ.setObj o x) = none) (hf : Fr o (σ.setObj o x) σ3) : Fr g σ σ3 := by
  refine ⟨fun y c hy hc => ?_, fun k y hk hnk => ?_⟩
  · have hyo : y ≠ o := fun e => by rw [e, ho] at hc; cases hc
    exact hf.obj y c hyo (by simp [hyo, hc])
  · obtain ⟨h1, h2⟩ := hf.gr k y (by simp [hk]) (by rw [hn]; exact fun e => by cases e)
    refine ⟨h1, ?_⟩
    obtain ⟨c, hc⟩ := hgo
    have : σ3.obj g = some c := hf.obj g c hg (by simp [hg, hc])
    unfold skN at hnk ⊢
    rw [hc] at hnk
    rw [this]; exact hnk
theorem skN_new {o : Nat} {σ : Hp} : skN o (σ.setObj o (some (skC 0 (.c (.slice none 0 0))))) = none := by simp [skN, skC]
theorem Snk.ne {g o : Nat} {bs : List Bool} {σ : Hp} (h : Snk g bs σ) (ho : σ.obj o = none) : g ≠ o := fun e => by
  obtain ⟨v, hv⟩ := h.obj
  rw [e, ho] at hv; cases hv
theorem evPut_spec (g : Nat) (bs : List Bool) (e : Ev) (σ : Hp) (hs : Snk g bs σ) (he : goodE e) (hok : okE e) (hev : evErr e = 0) (hf : bs.length + (evB e).length ≤ 1048576) :
    ACalls Try.prog 118 [ptrV g, .agg (encEv e)] σ (fun v σ' => v = .c (.int .i64 0) ∧ Snk g (bs ++ evB e) σ' ∧ Fr g σ σ') := by
  refine ACalls.intro Try.call118 Try.func118 rfl Try.ntmps118 Try.results118 (by simp) ?_
  have hw1 : IntKind.i64.wrap (1048576 - (bs.length : Int)) = 1048576 - (bs.length : Int) := by unfold IntKind.wrap; simp [IntKind.signed, IntKind.bits]; omega
  have hd : decide (1048576 - (bs.length : Int) < (([] ++ evB e).length : Int)) = false := by simp only [List.nil_append, decide_eq_false_iff_not]; omega
  have hgo : ∃ c, σ.obj g = some c := by obtain ⟨v, hv⟩ := hs.obj; exact ⟨_, hv⟩
  refine AW.seq_k fun K1 h1 => ?_
  all_goals refine AW.reg0 ?_
  all_goals iterate 2 (refine S.g rfl rfl fun K' k' => ?_; simp only [zz, reduceIte, Nat.reduceEqDiff, Nat.reduceLT, Nat.reduceLeDiff, Nat.reduceAdd, reduceCtorEq, Nat.reduceMul, ok36, sz36, ag36, encEv]; refine k' _ _ ?_; clear k' K')
  all_goals refine S.nil ?_
  all_goals simp only [ze, reduceIte, Nat.reduceEqDiff, Nat.reduceLT, Nat.reduceLeDiff, Nat.reduceAdd, reduceCtorEq, Nat.reduceMul, encEv]
  all_goals apply_assumption
  refine AW.seq_k fun K2 h2 => ?_
  refine AW.seq_k fun K3 h3 => ?_
  all_goals refine AW.reg0 ?_
  all_goals (refine S.g rfl rfl fun K' k' => ?_; simp only [zz, reduceIte, Nat.reduceEqDiff, Nat.reduceAdd, pw]; refine k' _ _ ?_; clear k' K')
  all_goals (refine S.g rfl rfl fun K' k' => ?_; simp only [zz, reduceIte, Nat.reduceEqDiff, Nat.reduceLT, Nat.reduceLeDiff, Nat.reduceAdd, reduceCtorEq, Nat.reduceMul, pw]; refine (Flags_spec g bs σ hs (by omega)).to fun v σ1 hv => ?_; obtain ⟨rfl, rfl⟩ := hv <;> (refine k' _ _ ?_; clear k' K'))
  all_goals (refine S.g rfl rfl fun K' k' => ?_; simp only [zz, reduceIte, Nat.reduceEqDiff, Nat.reduceAdd, pw]; refine k' _ _ ?_; clear k' K')
  all_goals refine S.nil ?_
  all_goals simp only [ze, reduceIte, Nat.reduceEqDiff, Nat.reduceLT, Nat.reduceLeDiff, Nat.reduceAdd, reduceCtorEq, Nat.reduceMul, pw]
  all_goals apply_assumption
  refine AW.cond (b := false) (by simp [ev]) (fun hc => by cases hc) (fun hc => ?_)
  refine AW.skip ?_
  all_goals simp only [zs, reduceIte, Nat.reduceEqDiff, Nat.reduceLT, Nat.reduceLeDiff, Nat.reduceAdd, reduceCtorEq, Nat.reduceMul]
  all_goals apply_assumption
  refine AW.seq_k fun K4 h4 => ?_
  refine AW.seq_k fun K5 h5 => ?_
  all_goals refine AW.reg0 ?_
  all_goals (refine S.g rfl rfl fun K' k' => ?_; simp only [zz, reduceIte, Nat.reduceEqDiff, Nat.reduceLT, Nat.reduceLeDiff, Nat.reduceAdd, reduceCtorEq, Nat.reduceMul, ok36, sz36, ag36, hev]; refine k' _ _ ?_; clear k' K')
  all_goals (refine S.g rfl rfl fun K' k' => ?_; simp only [zz, reduceIte, Nat.reduceEqDiff, Nat.reduceLT, Nat.reduceLeDiff, Nat.reduceAdd, reduceCtorEq, Nat.reduceMul, hev]; refine PCalls.eqto (check_ev e hok) ?_ <;> (refine k' _ _ ?_; clear k' K'))
  all_goals (refine S.g rfl rfl fun K' k' => ?_; simp only [zz, reduceIte, Nat.reduceEqDiff, Nat.reduceAdd, hev]; refine k' _ _ ?_; clear k' K')
  all_goals refine S.nil ?_
  all_goals simp only [ze, reduceIte, Nat.reduceEqDiff, Nat.reduceLT, Nat.reduceLeDiff, Nat.reduceAdd, reduceCtorEq, Nat.reduceMul, hev]
  all_goals apply_assumption
  refine AW.seq_k fun K6 h6 => ?_
  all_goals refine AW.reg0 ?_
  all_goals iterate 2 (refine S.g rfl rfl fun K' k' => ?_; simp only [zz, reduceIte, Nat.reduceEqDiff, Nat.reduceAdd]; refine k' _ _ ?_; clear k' K')
  all_goals refine S.nil ?_
  all_goals simp only [ze, reduceIte, Nat.reduceEqDiff, Nat.reduceLT, Nat.reduceLeDiff, Nat.reduceAdd, reduceCtorEq, Nat.reduceMul]
  all_goals apply_assumption
  refine AW.cond (b := false) (by simp [ev]) (fun hc => by cases hc) (fun hc => ?_)
  refine AW.skip ?_
  all_goals simp only [zs, reduceIte, Nat.reduceEqDiff, Nat.reduceLT, Nat.reduceLeDiff, Nat.reduceAdd, reduceCtorEq, Nat.reduceMul]
  all_goals apply_assumption
  refine AW.seq_k fun K7 h7 => ?_
  all_goals refine AW.reg0 ?_
  all_goals (refine S.g rfl rfl fun K' k' => ?_; simp only [zz, reduceIte, Nat.reduceEqDiff, Nat.reduceLT, Nat.reduceLeDiff, Nat.reduceAdd, reduceCtorEq, Nat.reduceMul]; refine (NewSink_spec _).to fun v σ2 hv => ?_; obtain ⟨o, rfl, hno, hso, rfl⟩ := hv <;> (refine k' _ _ ?_; clear k' K'))
  all_goals (refine S.g rfl rfl fun K' k' => ?_; simp only [zz, reduceIte, Nat.reduceEqDiff, Nat.reduceAdd]; refine k' _ _ ?_; clear k' K')
  all_goals refine S.nil ?_
  all_goals simp only [ze, reduceIte, Nat.reduceEqDiff, Nat.reduceLT, Nat.reduceLeDiff, Nat.reduceAdd, reduceCtorEq, Nat.reduceMul]
  all_goals apply_assumption
  refine AW.seq_k fun K8 h8 => ?_
  all_goals refine AW.reg0 ?_
  all_goals iterate 2 (refine S.g rfl rfl fun K' k' => ?_; simp only [zz, reduceIte, Nat.reduceEqDiff, Nat.reduceLT, Nat.reduceLeDiff, Nat.reduceAdd, reduceCtorEq, Nat.reduceMul, ok36, sz36, ag36, pw]; refine k' _ _ ?_; clear k' K')
  all_goals (refine S.g rfl rfl fun K' k' => ?_; simp only [zz, reduceIte, Nat.reduceEqDiff, Nat.reduceLT, Nat.reduceLeDiff, Nat.reduceAdd, reduceCtorEq, Nat.reduceMul, pw]; refine (evform_spec o [] e _ hso he (by simp only [List.length_nil]; omega)).to fun v σ3 hv => ?_; obtain ⟨rfl, hso2, hfo⟩ := hv <;> (refine k' _ _ ?_; clear k' K'))
  all_goals refine S.nil ?_
  all_goals simp only [ze, reduceIte, Nat.reduceEqDiff, Nat.reduceLT, Nat.reduceLeDiff, Nat.reduceAdd, reduceCtorEq, Nat.reduceMul, pw]
  all_goals apply_assumption
  refine AW.seq_k fun K9 h9 => ?_
  refine AW.seq_k fun K10 h10 => ?_
  all_goals refine AW.reg0 ?_
  all_goals (refine S.g rfl rfl fun K' k' => ?_; simp only [zz, reduceIte, Nat.reduceEqDiff, Nat.reduceAdd, pw, hw1, hd, gt_iff_lt]; refine k' _ _ ?_; clear k' K')
  all_goals (refine S.g rfl rfl fun K' k' => ?_; simp only [zz, reduceIte, Nat.reduceEqDiff, Nat.reduceLT, Nat.reduceLeDiff, Nat.reduceAdd, reduceCtorEq, Nat.reduceMul, pw, hw1, hd, gt_iff_lt]; refine (Len_spec o _ _ hso2).to fun v σ5 hv => ?_; obtain ⟨rfl, rfl⟩ := hv <;> (refine k' _ _ ?_; clear k' K'))
  all_goals (refine S.g rfl rfl fun K' k' => ?_; simp only [zz, reduceIte, Nat.reduceEqDiff, Nat.reduceAdd, pw, hw1, hd, gt_iff_lt]; refine k' _ _ ?_; clear k' K')
  all_goals (refine S.g rfl rfl fun K' k' => ?_; simp only [zz, reduceIte, Nat.reduceEqDiff, Nat.reduceLT, Nat.reduceLeDiff, Nat.reduceAdd, reduceCtorEq, Nat.reduceMul, pw, hw1, hd, gt_iff_lt]; refine (Len_spec g _ _ (hs.other hno |>.sep hfo (hs.ne hno) skN_new)).to fun v σ6 hv => ?_; obtain ⟨rfl, rfl⟩ := hv <;> (refine k' _ _ ?_; clear k' K'))
  all_goals iterate 2 (refine S.g rfl rfl fun K' k' => ?_; simp only [zz, reduceIte, Nat.reduceEqDiff, Nat.reduceAdd, pw, hw1, hd, gt_iff_lt]; refine k' _ _ ?_; clear k' K')
  all_goals refine S.nil ?_
  all_goals simp only [ze, reduceIte, Nat.reduceEqDiff, Nat.reduceLT, Nat.reduceLeDiff, Nat.reduceAdd, reduceCtorEq, Nat.reduceMul, pw, hw1, hd, gt_iff_lt]
  all_goals apply_assumption
  refine AW.cond (b := false) (by simp [ev]; omega) (fun hc => by cases hc) (fun hc => ?_)
  refine AW.skip ?_
  all_goals simp only [zs, reduceIte, Nat.reduceEqDiff, Nat.reduceLT, Nat.reduceLeDiff, Nat.reduceAdd, reduceCtorEq, Nat.reduceMul]
  all_goals apply_assumption
  refine AW.seq_k fun K11 h11 => ?_
  all_goals refine AW.reg0 ?_
  all_goals iterate 2 (refine S.g rfl rfl fun K' k' => ?_; simp only [zz, reduceIte, Nat.reduceEqDiff, Nat.reduceLT, Nat.reduceLeDiff, Nat.reduceAdd, reduceCtorEq, Nat.reduceMul, ok36, sz36, ag36, pw]; refine k' _ _ ?_; clear k' K')
  all_goals (refine S.g rfl rfl fun K' k' => ?_; simp only [zz, reduceIte, Nat.reduceEqDiff, Nat.reduceLT, Nat.reduceLeDiff, Nat.reduceAdd, reduceCtorEq, Nat.reduceMul, pw]; refine (evform_spec g bs e _ (hs.other hno |>.sep hfo (hs.ne hno) skN_new) he hf).to fun v σ7 hv => ?_; obtain ⟨rfl, hsg, hfg⟩ := hv <;> (refine k' _ _ ?_; clear k' K'))
  all_goals refine S.nil ?_
  all_goals simp only [ze, reduceIte, Nat.reduceEqDiff, Nat.reduceLT, Nat.reduceLeDiff, Nat.reduceAdd, reduceCtorEq, Nat.reduceMul, pw]
  all_goals apply_assumption
  refine AW.seq_k fun K12 h12 => ?_
  all_goals refine AW.reg0 ?_
  all_goals (refine S.g rfl rfl fun K' k' => ?_; simp only [zz, reduceIte, Nat.reduceEqDiff, Nat.reduceAdd]; refine k' _ _ ?_; clear k' K')
  all_goals refine S.nil ?_
  all_goals simp only [ze, reduceIte, Nat.reduceEqDiff, Nat.reduceLT, Nat.reduceLeDiff, Nat.reduceAdd, reduceCtorEq, Nat.reduceMul]
  all_goals apply_assumption
  refine AW.ret ?_
  all_goals simp only [zs, reduceIte, Nat.reduceEqDiff, Nat.reduceLT, Nat.reduceLeDiff, Nat.reduceAdd, reduceCtorEq, Nat.reduceMul]
  exact ⟨hsg, (Fr.new hno (hs.ne hno) hgo skN_new hfo).trans hfg⟩
end Go.Abs.M
namespace Go.Abs.M
open Go Go.Abs Go.Proofs
set_option maxRecDepth 20000
set_option linter.unusedSimpArgs false
set_option linter.unusedVariables false
def bdB (b : Bd) : List Bool := textB b.var ++ evB b.ev
def partB (l : List Bd) : List Bool := lowB l.length 4 ++ l.flatMap bdB
structure goodB (b : Bd) : Prop where
  var : b.var.size ≤ 32
  ev : goodE b.ev
  ok : okE b.ev
  err : evErr b.ev = 0
structure goodP (l : List Bd) : Prop where
  len : l.length ≤ 12
  bds : ∀ b ∈ l, goodB b
theorem sz_bits {s : ByteArray} (h : s.size ≤ 64) : (textB s).length ≤ 641 := by
  rw [textB_len]; have := sizeB_le (u := s.size) (by omega); omega
theorem vb_bits {v : Val} (hs : v.s.size ≤ 64) (hn : inI64 v.n) : (vbB v).length ≤ 643 := by
  unfold vbB
  rw [List.length_append, lowB_len]
  split
  · have := sizeB_le (zig_bits v.n hn).2
    rw [numB, natB_len]; omega
  · have := sz_bits hs; omega
theorem flat_bits {α : Type} {f : α → List Bool} {c : Nat} : ∀ {l : List α}, (∀ a ∈ l, (f a).length ≤ c) → (l.flatMap f).length ≤ l.length * c
  | [], _ => by simp
  | a :: l, h => by
    have h1 := h a List.mem_cons_self
    have h2 := flat_bits (l := l) fun b hb => h b (List.mem_cons_of_mem _ hb)
    rw [List.flatMap_cons, List.length_append, List.length_cons, Nat.succ_mul]; omega
theorem ev_bits {e : Ev} (h : goodE e) : (evB e).length ≤ 11179 := by
  obtain ⟨hsrc, hseq, htime, htype, hlen, hat⟩ := h
  have h1 := sizeB_le (u := e.seq.toNat) (by omega)
  have h2 := sizeB_le (u := e.time.toNat) (by omega)
  have h3 := sz_bits (s := e.type) (by omega)
  have h4 : (e.attrs.flatMap attrB).length ≤ e.attrs.length * 1284 := flat_bits fun a ha => by
    obtain ⟨k1, k2, k3, k4⟩ := hat a ha
    have := sz_bits (s := a.name) (by omega)
    have := vb_bits k3 k4
    rw [attrB, List.length_append]; omega
  simp only [evB, List.length_append, lowB_len, natB_len]
  omega
theorem part_bits {l : List Bd} (h : goodP l) : (partB l).length ≤ 150000 := by
  have h1 : (l.flatMap bdB).length ≤ l.length * 11820 := flat_bits fun b hb => by
    obtain ⟨k1, k2, _⟩ := h.bds b hb
    have := sz_bits (s := b.var) (by omega)
    have := ev_bits k2
    rw [bdB, List.length_append]; omega
  have := h.len
  rw [partB, List.length_append, lowB_len]; omega
theorem form_spec (g : Nat) (bs : List Bool) (l : List Bd) (σ : Hp) (hs : Snk g bs σ) (hg : goodP l) (hf : bs.length + (partB l).length ≤ 1048576) :
    ACalls Try.prog 90 [ptrV g, .agg [.sl (l.map encBd)]] σ (fun v σ' => v = .tup [] ∧ Snk g (bs ++ partB l) σ' ∧ Fr g σ σ') := by
  refine ACalls.intro Try.call90 Try.func90 rfl Try.ntmps90 Try.results90 (by simp) ?_
  have hlen := hg.len
  have hw4 : IntKind.u64.wrap (l.length : Int) = (l.length : Int) := wrap_u64 (by omega)
  have hfl : (partB l).length = 4 + (l.flatMap bdB).length := by simp only [partB, List.length_append, lowB_len]
  refine AW.seq_k fun K1 h1 => ?_
  all_goals refine AW.reg0 ?_
  all_goals (refine S.g rfl rfl fun K' k' => ?_; simp only [zz, reduceIte, Nat.reduceEqDiff, Nat.reduceLT, Nat.reduceLeDiff, Nat.reduceAdd, reduceCtorEq, Nat.reduceMul, ok24, sz24, ag24]; refine k' _ _ ?_; clear k' K')
  all_goals refine S.nil ?_
  all_goals simp only [ze, reduceIte, Nat.reduceEqDiff, Nat.reduceLT, Nat.reduceLeDiff, Nat.reduceAdd, reduceCtorEq, Nat.reduceMul]
  all_goals apply_assumption
  refine AW.seq_k fun K2 h2 => ?_
  all_goals refine AW.reg0 ?_
  all_goals iterate 5 (refine S.g rfl rfl fun K' k' => ?_; simp only [zz, reduceIte, Nat.reduceEqDiff, Nat.reduceLT, Nat.reduceLeDiff, Nat.reduceAdd, reduceCtorEq, Nat.reduceMul, of24_0, ok22, sz22, ag22, sl22, el22, ok42, sz42, ag42, cv3_54, pw, hw4]; refine k' _ _ ?_; clear k' K')
  all_goals (refine S.g rfl rfl fun K' k' => ?_; simp only [zz, reduceIte, Nat.reduceEqDiff, Nat.reduceLT, Nat.reduceLeDiff, Nat.reduceAdd, reduceCtorEq, Nat.reduceMul, pw, hw4]; refine (Bits_spec g bs l.length 4 _ hs (by omega) (by omega) (by omega)).to fun v σ2 hv => ?_; obtain ⟨rfl, hs2, hf2⟩ := hv <;> (refine k' _ _ ?_; clear k' K'))
  all_goals refine S.nil ?_
  all_goals simp only [ze, reduceIte, Nat.reduceEqDiff, Nat.reduceLT, Nat.reduceLeDiff, Nat.reduceAdd, reduceCtorEq, Nat.reduceMul, pw, hw4]
  all_goals apply_assumption
  refine AW.seq_k fun K3 h3 => ?_
  all_goals refine AW.reg0 ?_
  all_goals iterate 4 (refine S.g rfl rfl fun K' k' => ?_; simp only [zz, reduceIte, Nat.reduceEqDiff, Nat.reduceLT, Nat.reduceLeDiff, Nat.reduceAdd, reduceCtorEq, Nat.reduceMul, of24_0, ok22, sz22, ag22, sl22, el22, ok42, sz42, ag42]; refine k' _ _ ?_; clear k' K')
  all_goals refine S.nil ?_
  all_goals simp only [ze, reduceIte, Nat.reduceEqDiff, Nat.reduceLT, Nat.reduceLeDiff, Nat.reduceAdd, reduceCtorEq, Nat.reduceMul]
  all_goals apply_assumption
  refine AW.block ?_   -- 0
  refine AW.loop (fun m s σ' => ∃ i, m = l.length - i ∧ i ≤ l.length ∧ s.t 0 = ptrV g ∧ s.t 13 = .sl (l.map encBd) ∧ s.t 14 = .c (.int .i64 l.length) ∧ s.t 15 = .c (.int .i64 (i : Nat)) ∧
    Snk g (bs ++ lowB l.length 4 ++ (l.take i).flatMap bdB) σ' ∧ Fr g σ σ') l.length ?_ ?_
  · refine ⟨0, rfl, Nat.zero_le _, ?_⟩
    all_goals simp only [zs, reduceIte, Nat.reduceEqDiff, Nat.reduceLT, Nat.reduceLeDiff, Nat.reduceAdd, reduceCtorEq, Nat.reduceMul, pw]
    exact ⟨rfl, by simpa using hs2, hf2⟩
  clear hs2 hf2
  rintro m s σ2 ⟨i, hm, hi, e0, e13, e14, e15, hsn, hfr⟩
  refine AW.seq_k fun K4 h4 => ?_
  all_goals refine AW.reg0 ?_
  all_goals (refine S.g rfl rfl fun K' k' => ?_; simp only [zz, reduceIte, Nat.reduceEqDiff, Nat.reduceAdd, e14, e15]; refine k' _ _ ?_; clear k' K')
  all_goals refine S.nil ?_
  all_goals simp only [ze, reduceIte, Nat.reduceEqDiff, Nat.reduceLT, Nat.reduceLeDiff, Nat.reduceAdd, reduceCtorEq, Nat.reduceMul, e14, e15]
  all_goals apply_assumption
  refine AW.seq_k fun K5 h5 => ?_
  refine AW.cond (b := decide (i < l.length)) (by simp [ev]) (fun hc => ?_) (fun hc => ?_)
  · refine AW.skip ?_
    all_goals simp only [zs, reduceIte, Nat.reduceEqDiff, Nat.reduceLT, Nat.reduceLeDiff, Nat.reduceAdd, reduceCtorEq, Nat.reduceMul]
    all_goals apply_assumption
    have hin := of_decide_eq_true hc
    obtain ⟨b, hb⟩ : ∃ b, l[i]? = some b := ⟨_, List.getElem?_eq_getElem hin⟩
    have hbe : (l.map encBd).getD i [] = encBd b := by simp [List.getD, hb]
    have htk : l.take (i + 1) = l.take i ++ [b] := by rw [List.take_add_one, hb]; rfl
    have hle : ((l.take (i + 1)).flatMap bdB).length ≤ (l.flatMap bdB).length := by
      conv => rhs; rw [← List.take_append_drop (i + 1) l]
      rw [List.flatMap_append, List.length_append]; omega
    rw [htk, List.flatMap_append, List.length_append] at hle
    have hat1 : ([b].flatMap bdB).length = (textB b.var).length + (evB b.ev).length := by simp [bdB]
    rw [hat1] at hle
    have hbl : (bs ++ lowB l.length 4 ++ (l.take i).flatMap bdB).length = bs.length + 4 + ((l.take i).flatMap bdB).length := by simp only [List.length_append, lowB_len]
    have hgoal : bs ++ lowB l.length 4 ++ (l.take (i + 1)).flatMap bdB = (bs ++ lowB l.length 4 ++ (l.take i).flatMap bdB) ++ textB b.var ++ evB b.ev := by
      rw [htk, List.flatMap_append]; simp [bdB]
    generalize bs ++ lowB l.length 4 ++ (l.take i).flatMap bdB = bs2 at *
    obtain ⟨hb1, hb2, hb3, hb4⟩ := hg.bds b (List.mem_of_getElem? hb)
    have hwi : IntKind.i64.wrap ((i : Int) + 1) = ((i + 1 : Nat) : Int) := by rw [wrap_small _ (by omega) (by omega)]; rfl
    refine AW.seq_k fun K6 h6 => ?_
    refine AW.block ?_   -- 1
    refine AW.seq_k fun K7 h7 => ?_
    all_goals refine AW.reg0 ?_
    all_goals iterate 4 (refine S.g rfl rfl fun K' k' => ?_; simp only [zz, reduceIte, Nat.reduceEqDiff, Nat.reduceLT, Nat.reduceLeDiff, Nat.reduceAdd, reduceCtorEq, Nat.reduceMul, sl22, el22, ok42, sz42, ag42, zt42, e13, e15, hin, hbe, encBd, List.length_singleton, List.getD_cons_zero]; refine k' _ _ ?_; clear k' K')
    all_goals refine S.nil ?_
    all_goals simp only [ze, reduceIte, Nat.reduceEqDiff, Nat.reduceLT, Nat.reduceLeDiff, Nat.reduceAdd, reduceCtorEq, Nat.reduceMul, e13, e15, hin, hbe, encBd, List.length_singleton, List.getD_cons_zero]
    all_goals apply_assumption
    refine AW.seq_k fun K8 h8 => ?_
    all_goals refine AW.reg0 ?_
    all_goals iterate 3 (refine S.g rfl rfl fun K' k' => ?_; simp only [zz, reduceIte, Nat.reduceEqDiff, Nat.reduceLT, Nat.reduceLeDiff, Nat.reduceAdd, reduceCtorEq, Nat.reduceMul, of42_0, ok9, sz9, ag9, e0, pw]; refine k' _ _ ?_; clear k' K')
    all_goals (refine S.g rfl rfl fun K' k' => ?_; simp only [zz, reduceIte, Nat.reduceEqDiff, Nat.reduceLT, Nat.reduceLeDiff, Nat.reduceAdd, reduceCtorEq, Nat.reduceMul, e0, pw]; refine (Text_spec g _ b.var _ hsn (by omega)).to fun v σ4 hv => ?_; obtain ⟨rfl, hs3, hf3⟩ := hv <;> (refine k' _ _ ?_; clear k' K'))
    all_goals refine S.nil ?_
    all_goals simp only [ze, reduceIte, Nat.reduceEqDiff, Nat.reduceLT, Nat.reduceLeDiff, Nat.reduceAdd, reduceCtorEq, Nat.reduceMul, e0, pw]
    all_goals apply_assumption
    all_goals refine AW.reg0 ?_
    all_goals iterate 3 (refine S.g rfl rfl fun K' k' => ?_; simp only [zz, reduceIte, Nat.reduceEqDiff, Nat.reduceLT, Nat.reduceLeDiff, Nat.reduceAdd, reduceCtorEq, Nat.reduceMul, of42_1, ok36, sz36, ag36, e0, pw, encEv]; refine k' _ _ ?_; clear k' K')
    all_goals (refine S.g rfl rfl fun K' k' => ?_; simp only [zz, reduceIte, Nat.reduceEqDiff, Nat.reduceLT, Nat.reduceLeDiff, Nat.reduceAdd, reduceCtorEq, Nat.reduceMul, e0, pw, encEv]; refine (evPut_spec g _ b.ev _ hs3 hb2 hb3 hb4 (by simp only [List.length_append]; omega)).to fun v σ4 hv => ?_; obtain ⟨rfl, hs4, hf4⟩ := hv <;> (refine k' _ _ ?_; clear k' K'))
    all_goals refine S.nil ?_
    all_goals simp only [ze, reduceIte, Nat.reduceEqDiff, Nat.reduceLT, Nat.reduceLeDiff, Nat.reduceAdd, reduceCtorEq, Nat.reduceMul, e0, pw, encEv]
    all_goals apply_assumption
    all_goals refine AW.reg0 ?_
    all_goals iterate 2 (refine S.g rfl rfl fun K' k' => ?_; simp only [zz, reduceIte, Nat.reduceEqDiff, Nat.reduceAdd, e0, e13, e14, e15, hwi, pw]; refine k' _ _ ?_; clear k' K')
    all_goals refine S.nil ?_
    all_goals simp only [ze, reduceIte, Nat.reduceEqDiff, Nat.reduceLT, Nat.reduceLeDiff, Nat.reduceAdd, reduceCtorEq, Nat.reduceMul, e0, e13, e14, e15, hwi, pw]
    refine ⟨l.length - (i + 1), by omega, i + 1, rfl, by omega, rfl, ?_, (hfr.trans hf3).trans hf4⟩
    rw [hgoal]; exact hs4
  · refine AW.exit ?_
    all_goals simp only [zs, reduceIte, Nat.reduceEqDiff, Nat.reduceLT, Nat.reduceLeDiff, Nat.reduceAdd, reduceCtorEq, Nat.reduceMul]
    have hin := of_decide_eq_false hc
    have hi2 : i = l.length := by omega
    subst hi2
    rw [List.take_of_length_le (by omega)] at hsn
    refine ⟨rfl, ?_, hfr⟩
    rw [partB]
    simpa using hsn
end Go.Abs.M
namespace Go.Abs.M
open Go Go.Abs Go.Proofs
set_option maxRecDepth 20000
set_option linter.unusedSimpArgs false
set_option linter.unusedVariables false
theorem attrs_good : ∀ {l : List Attr} {p : Option ByteArray}, attrsFrom p l = 0 → ∀ a ∈ l, a.name.size ≤ 32 ∧ (a.v.kind = 1 ∨ a.v.kind = 2) ∧ a.v.s.size ≤ 64
  | a :: l, p, h, b, hb => by
    simp only [attrsFrom] at h
    split at h
    · cases h
    rename_i h1
    split at h
    · rename_i h2; exact absurd h h2
    rename_i h2
    split at h
    · cases h
    rcases List.mem_cons.1 hb with rfl | hb
    · have hn : isName b.name = true := by simpa using h1
      have hv : valOk b.v = true := by
        have : valErr b.v = 0 := by simpa using h2
        unfold valErr at this
        split at this
        · assumption
        · cases this
      simp only [isName, Bool.and_eq_true, decide_eq_true_eq] at hn
      simp only [valOk, decide_eq_true_eq] at hv
      exact ⟨hn.2, by omega, by omega⟩
    · exact attrs_good h b hb
def inA (l : List Bd) : Prop := ∀ b ∈ l, ∀ a ∈ b.ev.attrs, inI64 a.v.n
theorem ev_good {e : Ev} (h : evErr e = 0) (hn : ∀ a ∈ e.attrs, inI64 a.v.n) : goodE e := by
  unfold evErr at h
  split at h
  · cases h
  rename_i h1
  simp only [not_or, Bool.not_eq_false] at h1
  obtain ⟨k1, k2, k3, k4, k5⟩ := h1
  simp only [timeOk, decide_eq_true_eq] at k3 k4
  simp only [isName, Bool.and_eq_true, decide_eq_true_eq] at k5
  unfold attrsErr at h
  split at h
  · cases h
  refine ⟨⟨by omega, by omega⟩, k3, k4, k5.2, by omega, fun a ha => ?_⟩
  obtain ⟨h1, h2, h3⟩ := attrs_good h a ha
  exact ⟨h1, h2, h3, hn a ha⟩
theorem part_good0 {n : Nat} : ∀ {l : List Bd} {p : Option ByteArray} {sn : List (Int × Int)}, partFrom n p sn l = 0 → ∀ b ∈ l, b.var.size ≤ 32 ∧ evErr b.ev = 0
  | a :: l, p, sn, h, b, hb => by
    simp only [partFrom] at h
    split at h
    · cases h
    rename_i h1
    split at h
    · rename_i h2; exact absurd h h2
    rename_i h2
    rcases List.mem_cons.1 hb with rfl | hb
    · simp only [not_or, Bool.not_eq_false] at h1
      have hn := h1.1
      simp only [named, Bool.or_eq_true, decide_eq_true_eq, isName, Bool.and_eq_true] at hn
      exact ⟨by rcases hn with hn | hn <;> omega, by simpa using h2⟩
    · exact part_good0 h b hb
theorem part_good {l : List Bd} (h : partErr l = 0) (hok : okP l) (hn : inA l) : goodP l := by
  unfold partErr at h
  split at h
  · cases h
  refine ⟨by omega, fun b hb => ?_⟩
  obtain ⟨h1, h2⟩ := part_good0 h b hb
  exact ⟨h1, ev_good h2 (hn b hb), (hok b hb).ev, h2⟩
/-- The bits of a partial match, or none if something is wrong with it. -/
def putP (l : List Bd) : List Bool := if partErr l = 0 then partB l else []
theorem Put_spec (g : Nat) (bs : List Bool) (l : List Bd) (σ : Hp) (hs : Snk g bs σ) (hok : okP l) (hn : inA l) (hf : bs.length ≤ 1024) :
    ACalls Try.prog 35 [ptrV g, .agg [.sl (l.map encBd)]] σ (fun v σ' => v = .c (.int .i64 (partErr l)) ∧ Snk g (bs ++ putP l) σ' ∧ Fr g σ σ') := by
  refine ACalls.intro Try.call35 Try.func35 rfl Try.ntmps35 Try.results35 (by simp) ?_
  have hgo : ∃ c, σ.obj g = some c := by obtain ⟨v, hv⟩ := hs.obj; exact ⟨_, hv⟩
  refine AW.seq_k fun K1 h1 => ?_
  all_goals refine AW.reg0 ?_
  all_goals iterate 2 (refine S.g rfl rfl fun K' k' => ?_; simp only [zz, reduceIte, Nat.reduceEqDiff, Nat.reduceLT, Nat.reduceLeDiff, Nat.reduceAdd, reduceCtorEq, Nat.reduceMul, ok24, sz24, ag24]; refine k' _ _ ?_; clear k' K')
  all_goals refine S.nil ?_
  all_goals simp only [ze, reduceIte, Nat.reduceEqDiff, Nat.reduceLT, Nat.reduceLeDiff, Nat.reduceAdd, reduceCtorEq, Nat.reduceMul]
  all_goals apply_assumption
  refine AW.seq_k fun K2 h2 => ?_
  refine AW.seq_k fun K3 h3 => ?_
  all_goals refine AW.reg0 ?_
  all_goals (refine S.g rfl rfl fun K' k' => ?_; simp only [zz, reduceIte, Nat.reduceEqDiff, Nat.reduceAdd, pw]; refine k' _ _ ?_; clear k' K')
  all_goals (refine S.g rfl rfl fun K' k' => ?_; simp only [zz, reduceIte, Nat.reduceEqDiff, Nat.reduceLT, Nat.reduceLeDiff, Nat.reduceAdd, reduceCtorEq, Nat.reduceMul, pw]; refine (Flags_spec g bs σ hs (by omega)).to fun v σ1 hv => ?_; obtain ⟨rfl, rfl⟩ := hv <;> (refine k' _ _ ?_; clear k' K'))
  all_goals (refine S.g rfl rfl fun K' k' => ?_; simp only [zz, reduceIte, Nat.reduceEqDiff, Nat.reduceAdd, pw]; refine k' _ _ ?_; clear k' K')
  all_goals refine S.nil ?_
  all_goals simp only [ze, reduceIte, Nat.reduceEqDiff, Nat.reduceLT, Nat.reduceLeDiff, Nat.reduceAdd, reduceCtorEq, Nat.reduceMul, pw]
  all_goals apply_assumption
  refine AW.cond (b := false) (by simp [ev]) (fun hc => by cases hc) (fun hc => ?_)
  refine AW.skip ?_
  all_goals simp only [zs, reduceIte, Nat.reduceEqDiff, Nat.reduceLT, Nat.reduceLeDiff, Nat.reduceAdd, reduceCtorEq, Nat.reduceMul]
  all_goals apply_assumption
  refine AW.seq_k fun K4 h4 => ?_
  refine AW.seq_k fun K5 h5 => ?_
  all_goals refine AW.reg0 ?_
  all_goals (refine S.g rfl rfl fun K' k' => ?_; simp only [zz, reduceIte, Nat.reduceEqDiff, Nat.reduceLT, Nat.reduceLeDiff, Nat.reduceAdd, reduceCtorEq, Nat.reduceMul, ok24, sz24, ag24]; refine k' _ _ ?_; clear k' K')
  all_goals (refine S.g rfl rfl fun K' k' => ?_; simp only [zz, reduceIte, Nat.reduceEqDiff, Nat.reduceLT, Nat.reduceLeDiff, Nat.reduceAdd, reduceCtorEq, Nat.reduceMul]; refine PCalls.eqto (check_part l hok) ?_ <;> (refine k' _ _ ?_; clear k' K'))
  all_goals (refine S.g rfl rfl fun K' k' => ?_; simp only [zz, reduceIte, Nat.reduceEqDiff, Nat.reduceAdd]; refine k' _ _ ?_; clear k' K')
  all_goals refine S.nil ?_
  all_goals simp only [ze, reduceIte, Nat.reduceEqDiff, Nat.reduceLT, Nat.reduceLeDiff, Nat.reduceAdd, reduceCtorEq, Nat.reduceMul]
  all_goals apply_assumption
  refine AW.seq_k fun K6 h6 => ?_
  all_goals refine AW.reg0 ?_
  all_goals iterate 2 (refine S.g rfl rfl fun K' k' => ?_; simp only [zz, reduceIte, Nat.reduceEqDiff, Nat.reduceAdd]; refine k' _ _ ?_; clear k' K')
  all_goals refine S.nil ?_
  all_goals simp only [ze, reduceIte, Nat.reduceEqDiff, Nat.reduceLT, Nat.reduceLeDiff, Nat.reduceAdd, reduceCtorEq, Nat.reduceMul]
  all_goals apply_assumption
  refine AW.cond (b := decide (partErr l ≠ 0)) (by simp [ev]; try rfl) (fun hc => ?_) (fun hc => ?_)
  · have hc := of_decide_eq_true hc
    refine AW.seq_k fun K7 h7 => ?_
    all_goals refine AW.reg0 ?_
    all_goals iterate 2 (refine S.g rfl rfl fun K' k' => ?_; simp only [zz, reduceIte, Nat.reduceEqDiff, Nat.reduceAdd]; refine k' _ _ ?_; clear k' K')
    all_goals refine S.nil ?_
    all_goals simp only [ze, reduceIte, Nat.reduceEqDiff, Nat.reduceLT, Nat.reduceLeDiff, Nat.reduceAdd, reduceCtorEq, Nat.reduceMul]
    all_goals apply_assumption
    refine AW.ret ?_
    all_goals simp only [zs, reduceIte, Nat.reduceEqDiff, Nat.reduceLT, Nat.reduceLeDiff, Nat.reduceAdd, reduceCtorEq, Nat.reduceMul]
    refine ⟨?_, Fr.refl _ _⟩
    rw [putP, if_neg hc, List.append_nil]; exact hs
  have hpe : partErr l = 0 := by simpa using of_decide_eq_false hc
  have hg := part_good hpe hok hn
  have hpb := part_bits hg
  have hw1 : IntKind.i64.wrap (1048576 - (bs.length : Int)) = 1048576 - (bs.length : Int) := by unfold IntKind.wrap; simp [IntKind.signed, IntKind.bits]; omega
  refine AW.skip ?_
  all_goals simp only [zs, reduceIte, Nat.reduceEqDiff, Nat.reduceLT, Nat.reduceLeDiff, Nat.reduceAdd, reduceCtorEq, Nat.reduceMul]
  all_goals apply_assumption
  refine AW.seq_k fun K8 h8 => ?_
  all_goals refine AW.reg0 ?_
  all_goals (refine S.g rfl rfl fun K' k' => ?_; simp only [zz, reduceIte, Nat.reduceEqDiff, Nat.reduceLT, Nat.reduceLeDiff, Nat.reduceAdd, reduceCtorEq, Nat.reduceMul]; refine (NewSink_spec _).to fun v σ2 hv => ?_; obtain ⟨o, rfl, hno, hso, rfl⟩ := hv <;> (refine k' _ _ ?_; clear k' K'))
  all_goals (refine S.g rfl rfl fun K' k' => ?_; simp only [zz, reduceIte, Nat.reduceEqDiff, Nat.reduceAdd]; refine k' _ _ ?_; clear k' K')
  all_goals refine S.nil ?_
  all_goals simp only [ze, reduceIte, Nat.reduceEqDiff, Nat.reduceLT, Nat.reduceLeDiff, Nat.reduceAdd, reduceCtorEq, Nat.reduceMul]
  all_goals apply_assumption
  refine AW.seq_k fun K9 h9 => ?_
  all_goals refine AW.reg0 ?_
  all_goals iterate 2 (refine S.g rfl rfl fun K' k' => ?_; simp only [zz, reduceIte, Nat.reduceEqDiff, Nat.reduceLT, Nat.reduceLeDiff, Nat.reduceAdd, reduceCtorEq, Nat.reduceMul, ok24, sz24, ag24, pw]; refine k' _ _ ?_; clear k' K')
  all_goals (refine S.g rfl rfl fun K' k' => ?_; simp only [zz, reduceIte, Nat.reduceEqDiff, Nat.reduceLT, Nat.reduceLeDiff, Nat.reduceAdd, reduceCtorEq, Nat.reduceMul, pw]; refine (form_spec o [] l _ hso hg (by simp only [List.length_nil]; omega)).to fun v σ3 hv => ?_; obtain ⟨rfl, hso2, hfo⟩ := hv <;> (refine k' _ _ ?_; clear k' K'))
  all_goals refine S.nil ?_
  all_goals simp only [ze, reduceIte, Nat.reduceEqDiff, Nat.reduceLT, Nat.reduceLeDiff, Nat.reduceAdd, reduceCtorEq, Nat.reduceMul, pw]
  all_goals apply_assumption
  refine AW.seq_k fun K10 h10 => ?_
  refine AW.seq_k fun K11 h11 => ?_
  all_goals refine AW.reg0 ?_
  all_goals (refine S.g rfl rfl fun K' k' => ?_; simp only [zz, reduceIte, Nat.reduceEqDiff, Nat.reduceAdd, pw, hw1, gt_iff_lt]; refine k' _ _ ?_; clear k' K')
  all_goals (refine S.g rfl rfl fun K' k' => ?_; simp only [zz, reduceIte, Nat.reduceEqDiff, Nat.reduceLT, Nat.reduceLeDiff, Nat.reduceAdd, reduceCtorEq, Nat.reduceMul, pw, hw1, gt_iff_lt]; refine (Len_spec o _ _ hso2).to fun v σ5 hv => ?_; obtain ⟨rfl, rfl⟩ := hv <;> (refine k' _ _ ?_; clear k' K'))
  all_goals (refine S.g rfl rfl fun K' k' => ?_; simp only [zz, reduceIte, Nat.reduceEqDiff, Nat.reduceAdd, pw, hw1, gt_iff_lt]; refine k' _ _ ?_; clear k' K')
  all_goals (refine S.g rfl rfl fun K' k' => ?_; simp only [zz, reduceIte, Nat.reduceEqDiff, Nat.reduceLT, Nat.reduceLeDiff, Nat.reduceAdd, reduceCtorEq, Nat.reduceMul, pw, hw1, gt_iff_lt]; refine (Len_spec g _ _ (hs.other hno |>.sep hfo (hs.ne hno) skN_new)).to fun v σ6 hv => ?_; obtain ⟨rfl, rfl⟩ := hv <;> (refine k' _ _ ?_; clear k' K'))
  all_goals iterate 2 (refine S.g rfl rfl fun K' k' => ?_; simp only [zz, reduceIte, Nat.reduceEqDiff, Nat.reduceAdd, pw, hw1, gt_iff_lt]; refine k' _ _ ?_; clear k' K')
  all_goals refine S.nil ?_
  all_goals simp only [ze, reduceIte, Nat.reduceEqDiff, Nat.reduceLT, Nat.reduceLeDiff, Nat.reduceAdd, reduceCtorEq, Nat.reduceMul, pw, hw1, gt_iff_lt]
  all_goals apply_assumption
  refine AW.cond (b := false) (by simp [ev]; omega) (fun hc => by cases hc) (fun hc => ?_)
  refine AW.skip ?_
  all_goals simp only [zs, reduceIte, Nat.reduceEqDiff, Nat.reduceLT, Nat.reduceLeDiff, Nat.reduceAdd, reduceCtorEq, Nat.reduceMul]
  all_goals apply_assumption
  refine AW.seq_k fun K12 h12 => ?_
  all_goals refine AW.reg0 ?_
  all_goals iterate 2 (refine S.g rfl rfl fun K' k' => ?_; simp only [zz, reduceIte, Nat.reduceEqDiff, Nat.reduceLT, Nat.reduceLeDiff, Nat.reduceAdd, reduceCtorEq, Nat.reduceMul, ok24, sz24, ag24, pw]; refine k' _ _ ?_; clear k' K')
  all_goals (refine S.g rfl rfl fun K' k' => ?_; simp only [zz, reduceIte, Nat.reduceEqDiff, Nat.reduceLT, Nat.reduceLeDiff, Nat.reduceAdd, reduceCtorEq, Nat.reduceMul, pw]; refine (form_spec g bs l _ (hs.other hno |>.sep hfo (hs.ne hno) skN_new) hg (by omega)).to fun v σ7 hv => ?_; obtain ⟨rfl, hsg, hfg⟩ := hv <;> (refine k' _ _ ?_; clear k' K'))
  all_goals refine S.nil ?_
  all_goals simp only [ze, reduceIte, Nat.reduceEqDiff, Nat.reduceLT, Nat.reduceLeDiff, Nat.reduceAdd, reduceCtorEq, Nat.reduceMul, pw]
  all_goals apply_assumption
  refine AW.seq_k fun K13 h13 => ?_
  all_goals refine AW.reg0 ?_
  all_goals (refine S.g rfl rfl fun K' k' => ?_; simp only [zz, reduceIte, Nat.reduceEqDiff, Nat.reduceAdd]; refine k' _ _ ?_; clear k' K')
  all_goals refine S.nil ?_
  all_goals simp only [ze, reduceIte, Nat.reduceEqDiff, Nat.reduceLT, Nat.reduceLeDiff, Nat.reduceAdd, reduceCtorEq, Nat.reduceMul]
  all_goals apply_assumption
  refine AW.ret ?_
  all_goals simp only [zs, reduceIte, Nat.reduceEqDiff, Nat.reduceLT, Nat.reduceLeDiff, Nat.reduceAdd, reduceCtorEq, Nat.reduceMul]
  refine ⟨by rw [hpe], ?_, (Fr.new hno (hs.ne hno) hgo skN_new hfo).trans hfg⟩
  rw [putP, if_pos hpe]; exact hsg
end Go.Abs.M
namespace Go.Abs.M
open Go Go.Abs Go.Proofs
set_option maxRecDepth 20000
set_option linter.unusedSimpArgs false
set_option linter.unusedVariables false
theorem packB_lt (bs : List Bool) : ∀ x ∈ packB bs, x < 256 := fun x hx => by
  obtain ⟨i, hi⟩ := List.getElem?_of_mem hx
  exact (packB_inv bs i x hi).1
theorem partB_ne (l : List Bd) : partB l ≠ [] := fun e => by
  have := congrArg List.length e
  simp [partB, lowB_len] at this
def bytesP (l : List Bd) : List Nat := if partErr l = 0 then packB (partB l) else []
theorem Bytes_spec (l : List Bd) (hok : okP l) (hn : inA l) : PCalls Try.prog 31 [.agg [.sl (l.map encBd)]] (fun v => v = .tup [.sl ((bytesP l).map encB), .c (.int .i64 (partErr l))]) := by
  refine PCalls.intro Try.call31 Try.func31 rfl Try.ntmps31 Try.results31 (by simp) ?_
  refine AW.seq_k fun K1 h1 => ?_
  all_goals refine AW.reg0 ?_
  all_goals iterate 3 (refine S.g rfl rfl fun K' k' => ?_; simp only [zz, reduceIte, Nat.reduceEqDiff, Nat.reduceLT, Nat.reduceLeDiff, Nat.reduceAdd, reduceCtorEq, Nat.reduceMul, ok24, sz24, ag24]; refine k' _ _ ?_; clear k' K')
  all_goals refine S.nil ?_
  all_goals simp only [ze, reduceIte, Nat.reduceEqDiff, Nat.reduceLT, Nat.reduceLeDiff, Nat.reduceAdd, reduceCtorEq, Nat.reduceMul]
  all_goals apply_assumption
  refine AW.seq_k fun K2 h2 => ?_
  all_goals refine AW.reg0 ?_
  all_goals (refine S.g rfl rfl fun K' k' => ?_; simp only [zz, reduceIte, Nat.reduceEqDiff, Nat.reduceLT, Nat.reduceLeDiff, Nat.reduceAdd, reduceCtorEq, Nat.reduceMul]; refine (NewSink_spec _).to fun v σ2 hv => ?_; obtain ⟨o, rfl, hno, hso, rfl⟩ := hv <;> (refine k' _ _ ?_; clear k' K'))
  all_goals (refine S.g rfl rfl fun K' k' => ?_; simp only [zz, reduceIte, Nat.reduceEqDiff, Nat.reduceAdd]; refine k' _ _ ?_; clear k' K')
  all_goals refine S.nil ?_
  all_goals simp only [ze, reduceIte, Nat.reduceEqDiff, Nat.reduceLT, Nat.reduceLeDiff, Nat.reduceAdd, reduceCtorEq, Nat.reduceMul]
  all_goals apply_assumption
  refine AW.seq_k fun K3 h3 => ?_
  refine AW.seq_k fun K4 h4 => ?_
  all_goals refine AW.reg0 ?_
  all_goals iterate 2 (refine S.g rfl rfl fun K' k' => ?_; simp only [zz, reduceIte, Nat.reduceEqDiff, Nat.reduceLT, Nat.reduceLeDiff, Nat.reduceAdd, reduceCtorEq, Nat.reduceMul, ok24, sz24, ag24, pw]; refine k' _ _ ?_; clear k' K')
  all_goals (refine S.g rfl rfl fun K' k' => ?_; simp only [zz, reduceIte, Nat.reduceEqDiff, Nat.reduceLT, Nat.reduceLeDiff, Nat.reduceAdd, reduceCtorEq, Nat.reduceMul, pw]; refine (Put_spec o [] l _ hso hok hn (by simp)).to fun v σ3 hv => ?_; obtain ⟨rfl, hs2, hf2⟩ := hv <;> (refine k' _ _ ?_; clear k' K'))
  all_goals (refine S.g rfl rfl fun K' k' => ?_; simp only [zz, reduceIte, Nat.reduceEqDiff, Nat.reduceAdd, pw]; refine k' _ _ ?_; clear k' K')
  all_goals refine S.nil ?_
  all_goals simp only [ze, reduceIte, Nat.reduceEqDiff, Nat.reduceLT, Nat.reduceLeDiff, Nat.reduceAdd, reduceCtorEq, Nat.reduceMul, pw]
  all_goals apply_assumption
  refine AW.seq_k fun K5 h5 => ?_
  all_goals refine AW.reg0 ?_
  all_goals iterate 2 (refine S.g rfl rfl fun K' k' => ?_; simp only [zz, reduceIte, Nat.reduceEqDiff, Nat.reduceAdd]; refine k' _ _ ?_; clear k' K')
  all_goals refine S.nil ?_
  all_goals simp only [ze, reduceIte, Nat.reduceEqDiff, Nat.reduceLT, Nat.reduceLeDiff, Nat.reduceAdd, reduceCtorEq, Nat.reduceMul]
  all_goals apply_assumption
  refine AW.cond (b := decide (partErr l ≠ 0)) (by simp [ev]; try rfl) (fun hc => ?_) (fun hc => ?_)
  · have hc := of_decide_eq_true hc
    refine AW.seq_k fun K6 h6 => ?_
    all_goals refine AW.reg0 ?_
    all_goals iterate 3 (refine S.g rfl rfl fun K' k' => ?_; simp only [zz, reduceIte, Nat.reduceEqDiff, Nat.reduceAdd]; refine k' _ _ ?_; clear k' K')
    all_goals refine S.nil ?_
    all_goals simp only [ze, reduceIte, Nat.reduceEqDiff, Nat.reduceLT, Nat.reduceLeDiff, Nat.reduceAdd, reduceCtorEq, Nat.reduceMul]
    all_goals apply_assumption
    refine AW.bare (AW.ret ?_)
    all_goals simp only [zs, reduceIte, Nat.reduceEqDiff, Nat.reduceLT, Nat.reduceLeDiff, Nat.reduceAdd, reduceCtorEq, Nat.reduceMul]
    rw [bytesP, if_neg hc]; rfl
  have hpe : partErr l = 0 := by simpa using of_decide_eq_false hc
  have hpb := part_bits (part_good hpe hok hn)
  have hs3 := hs2
  rw [List.nil_append, putP, if_pos hpe] at hs3
  refine AW.skip ?_
  all_goals simp only [zs, reduceIte, Nat.reduceEqDiff, Nat.reduceLT, Nat.reduceLeDiff, Nat.reduceAdd, reduceCtorEq, Nat.reduceMul]
  all_goals apply_assumption
  refine AW.seq_k fun K7 h7 => ?_
  all_goals refine AW.reg0 ?_
  all_goals (refine S.g rfl rfl fun K' k' => ?_; simp only [zz, reduceIte, Nat.reduceEqDiff, Nat.reduceAdd, pw]; refine k' _ _ ?_; clear k' K')
  all_goals (refine S.g rfl rfl fun K' k' => ?_; simp only [zz, reduceIte, Nat.reduceEqDiff, Nat.reduceLT, Nat.reduceLeDiff, Nat.reduceAdd, reduceCtorEq, Nat.reduceMul, pw]; refine (Out_spec o _ _ hs3 (partB_ne l) (by omega)).to fun v σ4 hv => ?_; obtain ⟨rfl, rfl⟩ := hv <;> (refine k' _ _ ?_; clear k' K'))
  all_goals iterate 2 (refine S.g rfl rfl fun K' k' => ?_; simp only [zz, reduceIte, Nat.reduceEqDiff, Nat.reduceAdd, pw]; refine k' _ _ ?_; clear k' K')
  all_goals refine S.nil ?_
  all_goals simp only [ze, reduceIte, Nat.reduceEqDiff, Nat.reduceLT, Nat.reduceLeDiff, Nat.reduceAdd, reduceCtorEq, Nat.reduceMul, pw]
  all_goals apply_assumption
  refine AW.bare (AW.ret ?_)
  all_goals simp only [zs, reduceIte, Nat.reduceEqDiff, Nat.reduceLT, Nat.reduceLeDiff, Nat.reduceAdd, reduceCtorEq, Nat.reduceMul]
  rw [bytesP, if_pos hpe, hpe]; rfl
end Go.Abs.M
namespace Go.Abs
open Go
section
variable {P : Program} {σ : Hp}
/-- A call whose result is a list that grows: the result, frozen. -/
theorem ACalls.freeze {f : FuncId} {args : List V} {R R' : V → Hp → Prop} (h : ACalls P f args σ R)
    (hr : ∀ v σ', R v σ' → ∃ k T es, v = .gl k ∧ σ'.gr k = some (T, es) ∧ R' (.sl es) (σ'.setGr k none)) : ACalls P f args σ R' := by
  refine ⟨h.1, fun cx w xs hH ha => (h.2 cx w xs hH ha).mono fun e w' ⟨v, r, cx', σ', h1, h2, h3, h4⟩ => ?_⟩
  obtain ⟨k, T, es, rfl, hk, hR⟩ := hr v σ' h4
  obtain ⟨cx2, hle, hL, hI, hH2, hv⟩ := h3.heap.freeze hk
  have hsub : ∀ g, (σ'.setGr k none).own cx2 g → σ'.own cx' g := fun g hg => by
    rcases hg with ⟨c, hc⟩ | ⟨j, x, hj, hb⟩
    · exact .inl ⟨c, hc⟩
    · by_cases ej : j = k
      · simp [Hp.setGr, ej] at hj
      · simp only [Hp.setGr, ej, if_false] at hj
        have hjn := (h3.heap.gr j x.1 x.2 hj).1
        rw [hle.M j hjn] at hb
        exact .inr ⟨j, x, hj, hb⟩
  have hcx : r = cx'.M k := by cases h2; rfl
  refine ⟨.sl es, r, cx2, σ'.setGr k none, h1, hcx ▸ hv, ⟨hH2, ⟨h3.ext.os, h3.ext.tape, h3.ext.output, h3.ext.size, h3.ext.block, h3.ext.le.trans hle, fun g hg => ?_, fun g hg => h3.ext.fnew g (hsub g hg)⟩, fun j x hj => ?_, fun g x hg => h3.onew g x hg⟩, hR⟩
  · rcases hI g hg with hg | hg
    · exact h3.ext.inew g hg
    · rcases h3.ext.fnew g (.inr ⟨k, _, hk, hg⟩) with h | h
      · exact .inr (.inl h)
      · exact .inr (.inr h)
  · by_cases ej : j = k
    · simp [Hp.setGr, ej] at hj
    · simp only [Hp.setGr, ej, if_false] at hj
      exact h3.gnew j x hj
end
end Go.Abs
namespace Go.Abs.M
open Go Go.Abs Go.Proofs
set_option maxRecDepth 20000
set_option linter.unusedSimpArgs false
set_option linter.unusedVariables false
def encT (b : Bool) : List V := [.c (.bool b)]
end Go.Abs.M
namespace Go.Abs
open Go
section
variable {P : Program}
end
section
variable {P : Program} {T : Tab} {B : Base} {n : Nat} {cx cx' : Cx} {s : St} {σ σ' : Hp} {a : Act} {w w' : World} {K : St → Hp → Prop}
/-- append of a make, to a list of the call's own. -/
def semAppendG (P : Program) (t : TypeId) (x y : V) (d : Option Nat) (K : St → Hp → Prop) (s : St) (σ : Hp) : Prop :=
  match dstE σ (P.elem t) (szT P (P.elem t)) x, y with
  | some (ok, es), .c (.int _ c) => ∃ z, zeroT P (P.elem t) = some z ∧ slT P t = true ∧ szT P (P.elem t) ≠ 0 ∧ z.cells.size = szT P (P.elem t) ∧ oneAll z.cells.toList = true ∧ 0 < c ∧ es.length + c.toNat ≤ maxLen ∧
      (es.length + c.toNat) * P.bytesOf (P.elem t) ≤ reach ∧
      ∀ k', (σ.delO ok).gr k' = none → K (s.putO d (.gl k')) ((σ.delO ok).setGr k' (some ((P.elem t, szT P (P.elem t)), es ++ List.replicate c.toNat (z.cells.toList.map .c))))
  | _, _ => False
/-- A region in order, where an append of a make may stand. -/
def semX (P : Program) (T : Tab) (o : Oper) (K : St → Hp → Prop) (s : St) (σ : Hp) : Prop :=
  semOp P T o K s σ ∨ ∃ t t' x y ki, P.underlying t' = some (.int ki) ∧ o.op = .call { callee := .builtin .append, args := #[x, y], argTypes := #[t, t'] } ∧ semAppendG P t (ev s x) (ev s y) o.dst K s σ
def semLX (P : Program) (T : Tab) (n : Nat) : List Oper → (St → Hp → Prop) → St → Hp → Prop
  | [], K, s, σ => K s σ
  | o :: r, K, s, σ => dOK n o.dst ∧ o.guard = none ∧ semX P T o (semLX P T n r K) s σ
theorem XS.g {o : Oper} {r : List Oper} (hd : okd n o.dst = true) (hg : o.guard = none) (h : semOp P T o (semLX P T n r K) s σ) : semLX P T n (o :: r) K s σ := ⟨okd_ok hd, hg, .inl h⟩
theorem XS.mk {o : Oper} {r : List Oper} {t t' : TypeId} {x y : Operand} {ki : IntKind} (hd : okd n o.dst = true) (hg : o.guard = none) (h1 : P.underlying t' = some (.int ki)) (h2 : o.op = .call { callee := .builtin .append, args := #[x, y], argTypes := #[t, t'] })
    (h : semAppendG P t (ev s x) (ev s y) o.dst (semLX P T n r K) s σ) : semLX P T n (o :: r) K s σ := ⟨okd_ok hd, hg, .inr ⟨t, t', x, y, ki, h1, h2, h⟩⟩
end
end Go.Abs
namespace Go.Abs.M
open Go Go.Abs Go.Proofs
set_option maxRecDepth 20000
set_option linter.unusedSimpArgs false
set_option linter.unusedVariables false
def unB (b : List Nat) : List Bool := b.flatMap fun x => lowB x 8
def srcC (b : List Nat) (at' : Nat) : List V := [.c (.bool true), .sl (b.map encB), .c (.int .i64 at')]
theorem unB_len (b : List Nat) : (unB b).length = 8 * b.length := by
  unfold unB
  induction b with
  | nil => rfl
  | cons x b ih => rw [List.flatMap_cons, List.length_append, ih, lowB_len, List.length_cons]; omega
theorem unB_get : ∀ (b : List Nat) (i x : Nat), b[i / 8]? = some x → (unB b)[i]? = some (x / 2 ^ (7 - i % 8) % 2 == 1)
  | [], i, x, h => by simp at h
  | y :: b, i, x, h => by
    unfold unB
    rw [List.flatMap_cons]
    by_cases hi : i < 8
    · rw [List.getElem?_append_left (by rw [lowB_len]; exact hi)]
      have h0 : i / 8 = 0 := by omega
      rw [h0] at h
      simp at h
      subst h
      rw [lowB_get y 8 i hi, show 8 - 1 - i = 7 - i % 8 by omega]
    · rw [List.getElem?_append_right (by rw [lowB_len]; omega), lowB_len]
      have h1 : i / 8 = (i - 8) / 8 + 1 := by omega
      rw [h1, List.getElem?_cons_succ] at h
      have := unB_get b (i - 8) x h
      unfold unB at this
      rw [this, show (i - 8) % 8 = i % 8 by omega]
def valN (l : List Bool) : Nat := l.foldl (fun u x => 2 * u + x.toNat) 0
theorem valN_snoc (l : List Bool) (x : Bool) : valN (l ++ [x]) = 2 * valN l + x.toNat := by simp [valN]
theorem valN_lt (l : List Bool) : valN l < 2 ^ l.length := by
  rw [← List.reverse_reverse l]
  induction l.reverse with
  | nil => simp [valN]
  | cons x r ih =>
    rw [List.reverse_cons, valN_snoc, List.length_append, List.length_singleton, Nat.pow_succ]
    have : x.toNat ≤ 1 := by cases x <;> simp
    omega
theorem and1u8 : ∀ y : Nat, y < 256 → IntKind.u8.wrap ((BitVec.ofInt IntKind.u8.bits (y : Int) &&& BitVec.ofInt IntKind.u8.bits 1).toNat : Int) = ((y % 2 : Nat) : Int) := by decide +kernel
theorem shr8 : ∀ k : Nat, k < 8 → ∀ x : Nat, x < 256 → Int.fdiv (x : Int) ((2 : Int) ^ min k IntKind.u8.bits) = ((x / 2 ^ k : Nat) : Int) := by decide +kernel
theorem left_spec (g : Nat) (b : List Nat) (q : Nat) (σ : Hp) (ho : σ.obj g = some (srcC b q)) (hb : b.length < 140737488355329) (hq : q ≤ 8 * b.length) :
    ACalls Try.prog 61 [ptrV g] σ (fun v σ' => v = .c (.int .i64 (8 * b.length - q : Nat)) ∧ σ' = σ) := by
  unfold srcC at ho
  refine ACalls.intro Try.call61 Try.func61 rfl Try.ntmps61 Try.results61 (by simp) ?_
  have hw1 : IntKind.i64.wrap (8 * (b.length : Int)) = ((8 * b.length : Nat) : Int) := by rw [wrap_small _ (by omega) (by omega)]; simp
  have hw2 : IntKind.i64.wrap (((8 * b.length : Nat) : Int) - (q : Int)) = ((8 * b.length - q : Nat) : Int) := by rw [wrap_small _ (by omega) (by omega)]; omega
  refine AW.seq_k fun K1 h1 => ?_
  all_goals refine AW.reg0 ?_
  all_goals (refine S.g rfl rfl fun K' k' => ?_; simp only [zz, reduceIte, Nat.reduceEqDiff, Nat.reduceAdd]; refine k' _ _ ?_; clear k' K')
  all_goals refine S.nil ?_
  all_goals simp only [ze, reduceIte, Nat.reduceEqDiff, Nat.reduceLT, Nat.reduceLeDiff, Nat.reduceAdd, reduceCtorEq, Nat.reduceMul]
  all_goals apply_assumption
  refine AW.seq_k fun K2 h2 => ?_
  refine AW.seq_k fun K3 h3 => ?_
  all_goals refine AW.reg0 ?_
  all_goals iterate 2 (refine S.g rfl rfl fun K' k' => ?_; simp only [zz, reduceIte, Nat.reduceEqDiff, Nat.reduceAdd, un82, ptrV, un82, TypeDesc.pointer.injEq]; refine k' _ _ ?_; clear k' K')
  all_goals refine S.nil ?_
  all_goals simp only [ze, reduceIte, Nat.reduceEqDiff, Nat.reduceLT, Nat.reduceLeDiff, Nat.reduceAdd, reduceCtorEq, Nat.reduceMul, ptrV, un82, TypeDesc.pointer.injEq]
  all_goals apply_assumption
  refine AW.cond (b := false) (by simp [ev]) (fun hc => by cases hc) (fun hc => ?_)
  refine AW.skip ?_
  all_goals simp only [zs, reduceIte, Nat.reduceEqDiff, Nat.reduceLT, Nat.reduceLeDiff, Nat.reduceAdd, reduceCtorEq, Nat.reduceMul]
  all_goals apply_assumption
  refine AW.seq_k fun K4 h4 => ?_
  all_goals refine AW.drawF (T := { sd := fun _ => false }) (fun _ _ h => by cases h) mixedO (.st 0 0 (.st 1 0 (.st 2 0 (.st 6 0 (.st 7 0 (.st 8 0 (.fork 3 (.st 4 0 (.st 5 0 (.st 9 2 (.st 10 0 (.st 11 0 .nil))))) 9 (.st 3 2 (.st 4 0 (.st 5 0 (.st 10 0 (.st 11 0 .nil)))))))))))) rfl (by kernel_rfl) (by kernel_rfl) ?_
  all_goals iterate 6 (refine F.g rfl trivial rfl rfl fun K' k' => ?_; simp only [zz, reduceIte, Nat.reduceEqDiff, Nat.reduceLT, Nat.reduceLeDiff, Nat.reduceAdd, reduceCtorEq, Nat.reduceMul, of129_1, of129_2, ho, map3, hw1, hw2, List.getD_cons_succ, List.getD_cons_zero]; refine k' _ _ ?_; clear k' K')
  all_goals (try first | refine F.fork ?_ ?_ | refine F.fork3 ?_ ?_ ?_)
  all_goals first | (refine F.g rfl trivial rfl rfl fun K' k' => ?_; simp only [zz, reduceIte, Nat.reduceEqDiff, Nat.reduceLT, Nat.reduceLeDiff, Nat.reduceAdd, reduceCtorEq, Nat.reduceMul, ok48, sz48, ag48, ho, map3, hw1, hw2, List.getD_cons_succ, List.getD_cons_zero]; refine k' _ _ ?_; clear k' K') | (refine F.g rfl trivial rfl rfl fun K' k' => ?_; simp only [zz, reduceIte, Nat.reduceEqDiff, Nat.reduceLT, Nat.reduceLeDiff, Nat.reduceAdd, reduceCtorEq, Nat.reduceMul, ok3, sz3, ag3, ho, map3, hw1, hw2, List.getD_cons_succ, List.getD_cons_zero]; refine k' _ _ ?_; clear k' K')
  all_goals first | (refine F.g rfl trivial rfl rfl fun K' k' => ?_; simp only [zz, reduceIte, Nat.reduceEqDiff, Nat.reduceLT, Nat.reduceLeDiff, Nat.reduceAdd, reduceCtorEq, Nat.reduceMul, sl48, el48, ok5, sz5, ag5, ho, map3, hw1, hw2, List.getD_cons_succ, List.getD_cons_zero]; refine k' _ _ ?_; clear k' K') | (refine F.g rfl trivial rfl rfl fun K' k' => ?_; simp only [zz, reduceIte, Nat.reduceEqDiff, Nat.reduceLT, Nat.reduceLeDiff, Nat.reduceAdd, reduceCtorEq, Nat.reduceMul, ok48, sz48, ag48, ho, map3, hw1, hw2, List.getD_cons_succ, List.getD_cons_zero]; refine k' _ _ ?_; clear k' K')
  all_goals first | (refine F.g rfl trivial rfl rfl fun K' k' => ?_; simp only [zz, reduceIte, Nat.reduceEqDiff, Nat.reduceLT, Nat.reduceLeDiff, Nat.reduceAdd, reduceCtorEq, Nat.reduceMul, ho, map3, hw1, hw2, List.getD_cons_succ, List.getD_cons_zero]; refine k' _ _ ?_; clear k' K') | (refine F.g rfl trivial rfl rfl fun K' k' => ?_; simp only [zz, reduceIte, Nat.reduceEqDiff, Nat.reduceLT, Nat.reduceLeDiff, Nat.reduceAdd, reduceCtorEq, Nat.reduceMul, sl48, el48, ok5, sz5, ag5, ho, map3, hw1, hw2, List.getD_cons_succ, List.getD_cons_zero]; refine k' _ _ ?_; clear k' K')
  all_goals first | (refine F.g rfl trivial rfl rfl fun K' k' => ?_; simp only [zz, reduceIte, Nat.reduceEqDiff, Nat.reduceLT, Nat.reduceLeDiff, Nat.reduceAdd, reduceCtorEq, Nat.reduceMul, ok3, sz3, ag3, ho, map3, hw1, hw2, List.getD_cons_succ, List.getD_cons_zero]; refine k' _ _ ?_; clear k' K') | (refine F.g rfl trivial rfl rfl fun K' k' => ?_; simp only [zz, reduceIte, Nat.reduceEqDiff, Nat.reduceLT, Nat.reduceLeDiff, Nat.reduceAdd, reduceCtorEq, Nat.reduceMul, ho, map3, hw1, hw2, List.getD_cons_succ, List.getD_cons_zero]; refine k' _ _ ?_; clear k' K')
  all_goals iterate 2 (refine F.g rfl trivial rfl rfl fun K' k' => ?_; simp only [zz, reduceIte, Nat.reduceEqDiff, Nat.reduceAdd, ho, map3, hw1, hw2, List.getD_cons_succ, List.getD_cons_zero]; refine k' _ _ ?_; clear k' K')
  all_goals refine F.nil ?_
  all_goals simp only [ze, reduceIte, Nat.reduceEqDiff, Nat.reduceLT, Nat.reduceLeDiff, Nat.reduceAdd, reduceCtorEq, Nat.reduceMul, ho, map3, hw1, hw2, List.getD_cons_succ, List.getD_cons_zero]
  all_goals apply_assumption
  all_goals refine AW.ret ?_
  all_goals simp only [zs, reduceIte, Nat.reduceEqDiff, Nat.reduceLT, Nat.reduceLeDiff, Nat.reduceAdd, reduceCtorEq, Nat.reduceMul]
theorem bit_spec (g : Nat) (b : List Nat) (q i : Nat) (σ : Hp) (ho : σ.obj g = some (srcC b q)) (x : Nat) (hx : b[i / 8]? = some x) (h256 : x < 256) (hi : i < 2251799813685248) :
    ACalls Try.prog 100 [ptrV g, .c (.int .i64 i)] σ (fun v σ' => v = .c (.int .u64 (x / 2 ^ (7 - i % 8) % 2 : Nat)) ∧ σ' = σ) := by
  unfold srcC at ho
  refine ACalls.intro Try.call100 Try.func100 rfl Try.ntmps100 Try.results100 (by simp) ?_
  have hq8 : (i : Int).tdiv 8 = ((i / 8 : Nat) : Int) := rfl
  have hr8 : (i : Int).tmod 8 = ((i % 8 : Nat) : Int) := rfl
  have hwq : IntKind.i64.wrap ((i / 8 : Nat) : Int) = ((i / 8 : Nat) : Int) := wrap_small _ (by omega) (by omega)
  have hw7 : IntKind.i64.wrap (7 - ((i % 8 : Nat) : Int)) = ((7 - i % 8 : Nat) : Int) := by rw [wrap_small _ (by omega) (by omega)]; omega
  have hlt : i / 8 < b.length := (List.getElem?_eq_some_iff.1 hx).1
  have hxe := encB_at hx
  have hsh := shr8 (7 - i % 8) (by omega) x h256
  have han := and1u8 (x / 2 ^ (7 - i % 8)) (Nat.lt_of_le_of_lt (Nat.div_le_self _ _) h256)
  have hwu : IntKind.u64.wrap ((x / 2 ^ (7 - i % 8) % 2 : Nat) : Int) = ((x / 2 ^ (7 - i % 8) % 2 : Nat) : Int) := wrap_u64 (by omega)
  refine AW.seq_k fun K1 h1 => ?_
  all_goals refine AW.reg0 ?_
  all_goals (refine S.g rfl rfl fun K' k' => ?_; simp only [zz, reduceIte, Nat.reduceEqDiff, Nat.reduceAdd]; refine k' _ _ ?_; clear k' K')
  all_goals refine S.nil ?_
  all_goals simp only [ze, reduceIte, Nat.reduceEqDiff, Nat.reduceLT, Nat.reduceLeDiff, Nat.reduceAdd, reduceCtorEq, Nat.reduceMul]
  all_goals apply_assumption
  refine AW.seq_k fun K2 h2 => ?_
  all_goals refine AW.reg0 ?_
  all_goals iterate 15 (refine S.g rfl rfl fun K' k' => ?_; simp only [zz, reduceIte, Nat.reduceEqDiff, Nat.reduceLT, Nat.reduceLeDiff, Nat.reduceAdd, reduceCtorEq, Nat.reduceMul, of129_1, ok48, sz48, ag48, sl48, el48, ok5, sz5, ag5, cv5_54, ptrV, ho, map3, Int.reduceEq, hq8, hwq, hr8, hw7, hlt, hxe, hsh, han, hwu, encB, List.length_singleton, List.getD_cons_succ, List.getD_cons_zero]; refine k' _ _ ?_; clear k' K')
  all_goals refine S.nil ?_
  all_goals simp only [ze, reduceIte, Nat.reduceEqDiff, Nat.reduceLT, Nat.reduceLeDiff, Nat.reduceAdd, reduceCtorEq, Nat.reduceMul, ptrV, ho, map3, Int.reduceEq, hq8, hwq, hr8, hw7, hlt, hxe, hsh, han, hwu, encB, List.length_singleton, List.getD_cons_succ, List.getD_cons_zero]
  all_goals apply_assumption
  refine AW.ret ?_
  all_goals simp only [zs, reduceIte, Nat.reduceEqDiff, Nat.reduceLT, Nat.reduceLeDiff, Nat.reduceAdd, reduceCtorEq, Nat.reduceMul]
end Go.Abs.M
namespace Go.Abs.M
open Go Go.Abs Go.Proofs
set_option maxRecDepth 20000
set_option linter.unusedSimpArgs false
set_option linter.unusedVariables false
theorem or_bit {u k : Nat} (hu : u < 9223372036854775808) (hk : k < 2) : IntKind.u64.wrap ((BitVec.ofInt IntKind.u64.bits ((u * 2 : Nat) : Int) ||| BitVec.ofInt IntKind.u64.bits (k : Int)).toNat : Int) = ((2 * u + k : Nat) : Int) := by
  have h : (BitVec.ofInt IntKind.u64.bits ((u * 2 : Nat) : Int) ||| BitVec.ofInt IntKind.u64.bits (k : Int)).toNat = 2 * u + k := by
    rw [BitVec.toNat_or]
    have h1 : (BitVec.ofInt IntKind.u64.bits ((u * 2 : Nat) : Int)).toNat = u * 2 := by
      rw [BitVec.ofInt_natCast, BitVec.toNat_ofNat]; exact Nat.mod_eq_of_lt (show u * 2 < 18446744073709551616 by omega)
    have h2 : (BitVec.ofInt IntKind.u64.bits (k : Int)).toNat = k := by
      rw [BitVec.ofInt_natCast, BitVec.toNat_ofNat]; exact Nat.mod_eq_of_lt (show k < 18446744073709551616 by omega)
    rw [h1, h2]
    have := Nat.two_pow_add_eq_or_of_lt (i := 1) (b := k) (by omega) u
    rw [Nat.pow_one] at this
    rw [Nat.mul_comm u 2]; exact this.symm
  rw [h, wrap_u64 (by omega)]
/-- The number of the next bits. -/
def bitsV (b : List Nat) (q n : Nat) : Nat := valN (((unB b).drop q).take n)
theorem bitsV_succ (b : List Nat) (q i x : Nat) (h : b[(q + i) / 8]? = some x) : bitsV b q (i + 1) = 2 * bitsV b q i + x / 2 ^ (7 - (q + i) % 8) % 2 := by
  unfold bitsV
  rw [List.take_add_one, List.getElem?_drop, unB_get b (q + i) x h]
  simp only [Option.toList_some]
  rw [valN_snoc]
  congr 1
  have : x / 2 ^ (7 - (q + i) % 8) % 2 < 2 := Nat.mod_lt _ (by omega)
  generalize x / 2 ^ (7 - (q + i) % 8) % 2 = y at *
  have hy : y = 0 ∨ y = 1 := by omega
  rcases hy with rfl | rfl <;> rfl
theorem bitsV_lt (b : List Nat) (q n : Nat) : bitsV b q n < 2 ^ n :=
  Nat.lt_of_lt_of_le (valN_lt _) (Nat.pow_le_pow_right (by omega) (by rw [List.length_take]; omega))
theorem sBits_spec (g : Nat) (b : List Nat) (q n : Nat) (σ : Hp) (ho : σ.obj g = some (srcC b q)) (hb : b.length < 140737488355329) (hb256 : ∀ x ∈ b, x < 256) (hq : q ≤ 8 * b.length) (hn : n ≤ 64) :
    ACalls Try.prog 58 [ptrV g, .c (.int .i64 n)] σ (fun v σ' => if q + n ≤ 8 * b.length then v = .tup [.c (.int .u64 (bitsV b q n : Nat)), .c (.int .i64 0)] ∧ σ' = σ.setObj g (some (srcC b (q + n)))
      else v = .tup [.c (.int .u64 0), .c (.int .i64 10)] ∧ σ' = σ) := by
  refine ACalls.intro Try.call58 Try.func58 rfl Try.ntmps58 Try.results58 (by simp) ?_
  have ho' : σ.obj g = some [.c (.bool true), .sl (b.map encB), .c (.int .i64 (q : Nat))] := ho
  have hl0 : decide ((n : Int) < 0) = false := by simp
  have hl1 : decide ((64 : Int) < n) = false := by simp; omega
  refine AW.seq_k fun K1 h1 => ?_
  all_goals refine AW.reg0 ?_
  all_goals iterate 2 (refine S.g rfl rfl fun K' k' => ?_; simp only [zz, reduceIte, Nat.reduceEqDiff, Nat.reduceAdd]; refine k' _ _ ?_; clear k' K')
  all_goals refine S.nil ?_
  all_goals simp only [ze, reduceIte, Nat.reduceEqDiff, Nat.reduceLT, Nat.reduceLeDiff, Nat.reduceAdd, reduceCtorEq, Nat.reduceMul]
  all_goals apply_assumption
  refine AW.seq_k fun K2 h2 => ?_
  refine AW.block ?_   -- 0
  refine AW.seq_k fun K3 h3 => ?_
  all_goals refine AW.reg0 ?_
  all_goals (refine S.g rfl rfl fun K' k' => ?_; simp only [zz, reduceIte, Nat.reduceEqDiff, Nat.reduceAdd, ptrV, ho', map3, un4, un82, TypeDesc.pointer.injEq, Bool.not_true, List.getD_cons_succ, List.getD_cons_zero]; refine k' _ _ ?_; clear k' K')
  all_goals (refine S.g rfl rfl fun K' k' => ?_; simp only [zz, reduceIte, Nat.reduceEqDiff, Nat.reduceLT, Nat.reduceLeDiff, Nat.reduceAdd, reduceCtorEq, Nat.reduceMul, un82, ptrV, ho', map3, un4, un82, TypeDesc.pointer.injEq, Bool.not_true, List.getD_cons_succ, List.getD_cons_zero]; refine S.bool fun b a9 => ?_; cases b <;> (try (exfalso; first | exact Bool.noConfusion a9 | (have h := of_decide_eq_true a9; omega) | (have h := of_decide_eq_false a9; omega))) <;> (refine k' _ _ ?_; clear k' K'))
  all_goals (refine S.g rfl rfl fun K' k' => ?_; simp only [zz, reduceIte, Nat.reduceEqDiff, Nat.reduceAdd, ptrV, ho', map3, un4, un82, TypeDesc.pointer.injEq, Bool.not_true, List.getD_cons_succ, List.getD_cons_zero]; refine k' _ _ ?_; clear k' K')
  all_goals iterate 5 (first | (refine S.y rfl rfl rfl rfl fun K' k' => ?_; simp only [zz, reduceIte, Nat.reduceEqDiff, Nat.reduceLT, Nat.reduceLeDiff, Nat.reduceAdd, reduceCtorEq, Nat.reduceMul, of129_0, ok4, sz4, ag4, ptrV, ho', map3, un4, un82, TypeDesc.pointer.injEq, Bool.not_true, List.getD_cons_succ, List.getD_cons_zero]; refine k' _ _ ?_; clear k' K') | ((first | refine S.x rfl rfl rfl rfl fun K' k' => ?_ | refine S.u rfl rfl rfl rfl fun K' k' => ?_); simp only [ze, reduceIte, Nat.reduceEqDiff]; refine k' _ _ ?_; clear k' K'))
  all_goals iterate 2 (refine S.g rfl rfl fun K' k' => ?_; simp only [zz, reduceIte, Nat.reduceEqDiff, Nat.reduceAdd, ptrV, ho', map3, un4, un82, TypeDesc.pointer.injEq, Bool.not_true, List.getD_cons_succ, List.getD_cons_zero]; refine k' _ _ ?_; clear k' K')
  all_goals refine S.nil ?_
  all_goals simp only [ze, reduceIte, Nat.reduceEqDiff, Nat.reduceLT, Nat.reduceLeDiff, Nat.reduceAdd, reduceCtorEq, Nat.reduceMul, ptrV, ho', map3, un4, un82, TypeDesc.pointer.injEq, Bool.not_true, List.getD_cons_succ, List.getD_cons_zero]
  all_goals apply_assumption
  refine AW.cond (b := false) (by simp [ev]) (fun hc => by cases hc) (fun hc => ?_)
  refine AW.seq_k fun K4 h4 => ?_
  all_goals refine AW.reg0 ?_
  all_goals (refine S.g rfl rfl fun K' k' => ?_; simp only [zz, reduceIte, Nat.reduceEqDiff, Nat.reduceAdd, hl0, hl1, gt_iff_lt]; refine k' _ _ ?_; clear k' K')
  all_goals (refine S.g rfl rfl fun K' k' => ?_; simp only [zz, reduceIte, Nat.reduceEqDiff, Nat.reduceLT, Nat.reduceLeDiff, Nat.reduceAdd, reduceCtorEq, Nat.reduceMul, hl0, hl1, gt_iff_lt]; refine S.bool fun b a19 => ?_; cases b <;> (try (exfalso; first | exact Bool.noConfusion a19 | (have h := of_decide_eq_true a19; omega) | (have h := of_decide_eq_false a19; omega))) <;> (refine k' _ _ ?_; clear k' K'))
  all_goals (refine S.g rfl rfl fun K' k' => ?_; simp only [zz, reduceIte, Nat.reduceEqDiff, Nat.reduceAdd, hl0, hl1, gt_iff_lt]; refine k' _ _ ?_; clear k' K')
  all_goals iterate 2 (first | (refine S.y rfl rfl rfl rfl fun K' k' => ?_; simp only [zz, reduceIte, Nat.reduceEqDiff, Nat.reduceAdd, hl0, hl1, gt_iff_lt]; refine k' _ _ ?_; clear k' K') | ((first | refine S.x rfl rfl rfl rfl fun K' k' => ?_ | refine S.u rfl rfl rfl rfl fun K' k' => ?_); simp only [ze, reduceIte, Nat.reduceEqDiff]; refine k' _ _ ?_; clear k' K'))
  all_goals iterate 2 (refine S.g rfl rfl fun K' k' => ?_; simp only [zz, reduceIte, Nat.reduceEqDiff, Nat.reduceAdd, hl0, hl1, gt_iff_lt]; refine k' _ _ ?_; clear k' K')
  all_goals refine S.nil ?_
  all_goals simp only [ze, reduceIte, Nat.reduceEqDiff, Nat.reduceLT, Nat.reduceLeDiff, Nat.reduceAdd, reduceCtorEq, Nat.reduceMul, hl0, hl1, gt_iff_lt]
  all_goals apply_assumption
  refine AW.cond (b := false) (by simp [ev]) (fun hc => by cases hc) (fun hc => ?_)
  refine AW.seq_k fun K5 h5 => ?_
  all_goals refine AW.reg0 ?_
  all_goals iterate 2 (refine S.g rfl rfl fun K' k' => ?_; simp only [zz, reduceIte, Nat.reduceEqDiff, Nat.reduceAdd, gt_iff_lt]; refine k' _ _ ?_; clear k' K')
  all_goals (refine S.g rfl rfl fun K' k' => ?_; simp only [zz, reduceIte, Nat.reduceEqDiff, Nat.reduceLT, Nat.reduceLeDiff, Nat.reduceAdd, reduceCtorEq, Nat.reduceMul, gt_iff_lt]; refine (left_spec g b q σ ho hb hq).to fun v σ1 hv => ?_; obtain ⟨rfl, rfl⟩ := hv <;> (refine k' _ _ ?_; clear k' K'))
  all_goals iterate 2 (refine S.g rfl rfl fun K' k' => ?_; simp only [zz, reduceIte, Nat.reduceEqDiff, Nat.reduceAdd, gt_iff_lt]; refine k' _ _ ?_; clear k' K')
  all_goals refine S.nil ?_
  all_goals simp only [ze, reduceIte, Nat.reduceEqDiff, Nat.reduceLT, Nat.reduceLeDiff, Nat.reduceAdd, reduceCtorEq, Nat.reduceMul, gt_iff_lt]
  all_goals apply_assumption
  refine AW.cond (b := decide (8 * b.length - q < n)) (by simp [ev]) (fun hc => ?_) (fun hc => ?_)
  · have hlt := of_decide_eq_true hc
    refine AW.seq_k fun K6 h6 => ?_
    all_goals refine AW.reg0 ?_
    all_goals iterate 2 (refine S.g rfl rfl fun K' k' => ?_; simp only [zz, reduceIte, Nat.reduceEqDiff, Nat.reduceAdd]; refine k' _ _ ?_; clear k' K')
    all_goals refine S.nil ?_
    all_goals simp only [ze, reduceIte, Nat.reduceEqDiff, Nat.reduceLT, Nat.reduceLeDiff, Nat.reduceAdd, reduceCtorEq, Nat.reduceMul]
    all_goals apply_assumption
    refine AW.ret ?_
    all_goals simp only [zs, reduceIte, Nat.reduceEqDiff, Nat.reduceLT, Nat.reduceLeDiff, Nat.reduceAdd, reduceCtorEq, Nat.reduceMul]
    rw [if_neg (by omega)]
    simp [wk, wk1]
  have hge := of_decide_eq_false hc
  refine AW.skip ?_
  all_goals simp only [zs, reduceIte, Nat.reduceEqDiff, Nat.reduceLT, Nat.reduceLeDiff, Nat.reduceAdd, reduceCtorEq, Nat.reduceMul]
  all_goals apply_assumption
  refine AW.seq_k fun K7 h7 => ?_
  all_goals refine AW.reg0 ?_
  all_goals (refine S.g rfl rfl fun K' k' => ?_; simp only [zz, reduceIte, Nat.reduceEqDiff, Nat.reduceAdd]; refine k' _ _ ?_; clear k' K')
  all_goals refine S.nil ?_
  all_goals simp only [ze, reduceIte, Nat.reduceEqDiff, Nat.reduceLT, Nat.reduceLeDiff, Nat.reduceAdd, reduceCtorEq, Nat.reduceMul]
  all_goals apply_assumption
  refine AW.seq_k fun K8 h8 => ?_
  refine AW.seq_k fun K9 h9 => ?_
  all_goals refine AW.reg0 ?_
  all_goals iterate 2 (refine S.g rfl rfl fun K' k' => ?_; simp only [zz, reduceIte, Nat.reduceEqDiff, Nat.reduceAdd]; refine k' _ _ ?_; clear k' K')
  all_goals refine S.nil ?_
  all_goals simp only [ze, reduceIte, Nat.reduceEqDiff, Nat.reduceLT, Nat.reduceLeDiff, Nat.reduceAdd, reduceCtorEq, Nat.reduceMul]
  all_goals apply_assumption
  clear ho'
  refine AW.block ?_   -- 1
  refine AW.loop (fun m s σ2 => ∃ i, m = n - i ∧ i ≤ n ∧ s.t 0 = ptrV g ∧ s.t 29 = .c (.int .i64 n) ∧ s.t 30 = .c (.int .i64 (i : Nat)) ∧ s.t 6 = .c (.int .u64 (bitsV b q i : Nat)) ∧ σ2 = σ1.setObj g (some (srcC b (q + i)))) n ?_ ?_
  · refine ⟨0, rfl, Nat.zero_le _, ?_⟩
    all_goals simp only [zs, reduceIte, Nat.reduceEqDiff, Nat.reduceLT, Nat.reduceLeDiff, Nat.reduceAdd, reduceCtorEq, Nat.reduceMul]
    refine ⟨rfl, rfl, ?_⟩
    exact ⟨rfl, (setObj_id ho).symm⟩
  rintro m s σ2 ⟨i, hm, hi, e0, e29, e30, e6, rfl⟩
  refine AW.seq_k fun K10 h10 => ?_
  all_goals refine AW.reg0 ?_
  all_goals (refine S.g rfl rfl fun K' k' => ?_; simp only [zz, reduceIte, Nat.reduceEqDiff, Nat.reduceAdd, e29, e30]; refine k' _ _ ?_; clear k' K')
  all_goals refine S.nil ?_
  all_goals simp only [ze, reduceIte, Nat.reduceEqDiff, Nat.reduceLT, Nat.reduceLeDiff, Nat.reduceAdd, reduceCtorEq, Nat.reduceMul, e29, e30]
  all_goals apply_assumption
  refine AW.seq_k fun K11 h11 => ?_
  refine AW.cond (b := decide (i < n)) (by simp [ev]) (fun hc => ?_) (fun hc => ?_)
  · refine AW.skip ?_
    all_goals simp only [zs, reduceIte, Nat.reduceEqDiff, Nat.reduceLT, Nat.reduceLeDiff, Nat.reduceAdd, reduceCtorEq, Nat.reduceMul]
    all_goals apply_assumption
    have hin := of_decide_eq_true hc
    have ho3 : (σ1.setObj g (some (srcC b (q + i)))).obj g = some (srcC b (q + i)) := by simp
    have ho4 : (σ1.setObj g (some (srcC b (q + i)))).obj g = some [.c (.bool true), .sl (b.map encB), .c (.int .i64 (q + i : Nat))] := ho3
    obtain ⟨x, hx⟩ : ∃ x, b[(q + i) / 8]? = some x := ⟨_, List.getElem?_eq_getElem (by omega)⟩
    have hx256 := hb256 x (List.mem_of_getElem? hx)
    have hv := bitsV_lt b q i
    have hv63 : bitsV b q i < 9223372036854775808 := Nat.lt_of_lt_of_le hv (by rw [show 9223372036854775808 = 2 ^ 63 from rfl]; exact Nat.pow_le_pow_right (by omega) (by omega))
    have hp1 : (2 : Int) ^ min 1 IntKind.u64.bits = 2 := rfl
    have hws : IntKind.u64.wrap ((bitsV b q i : Int) * 2) = ((bitsV b q i * 2 : Nat) : Int) := by rw [show (bitsV b q i : Int) * 2 = ((bitsV b q i * 2 : Nat) : Int) by simp, wrap_u64 (by omega)]
    have hor := or_bit (k := x / 2 ^ (7 - (q + i) % 8) % 2) hv63 (Nat.mod_lt _ (by omega))
    have hsucc := bitsV_succ b q i x hx
    have hw1 : IntKind.i64.wrap (((q + i : Nat) : Int) + 1) = ((q + (i + 1) : Nat) : Int) := by rw [wrap_small _ (by omega) (by omega)]; rfl
    have hwi : IntKind.i64.wrap ((i : Int) + 1) = ((i + 1 : Nat) : Int) := by rw [wrap_small _ (by omega) (by omega)]; rfl
    generalize hG : σ1.setObj g (some (srcC b (q + i))) = σ3 at *
    refine AW.seq_k fun K12 h12 => ?_
    refine AW.block ?_   -- 2
    refine AW.seq_k fun K13 h13 => ?_
    all_goals refine AW.reg0 ?_
    all_goals iterate 7 (refine S.g rfl rfl fun K' k' => ?_; simp only [zz, reduceIte, Nat.reduceEqDiff, Nat.reduceLT, Nat.reduceLeDiff, Nat.reduceAdd, reduceCtorEq, Nat.reduceMul, of129_2, ok3, sz3, ag3, e0, e6, ptrV, ho4, map3, Int.reduceLE, Int.reduceToNat, hp1, hws, hor, List.getD_cons_succ, List.getD_cons_zero]; refine k' _ _ ?_; clear k' K')
    all_goals (refine S.g rfl rfl fun K' k' => ?_; simp only [zz, reduceIte, Nat.reduceEqDiff, Nat.reduceLT, Nat.reduceLeDiff, Nat.reduceAdd, reduceCtorEq, Nat.reduceMul, e0, e6, ptrV, ho4, map3, Int.reduceLE, Int.reduceToNat, hp1, hws, hor, List.getD_cons_succ, List.getD_cons_zero]; refine (bit_spec g b (q + i) (q + i) _ ho3 x hx hx256 (by omega)).to fun v σ1 hv => ?_; obtain ⟨rfl, hσ⟩ := hv; subst hσ <;> (refine k' _ _ ?_; clear k' K'))
    all_goals iterate 2 (refine S.g rfl rfl fun K' k' => ?_; simp only [zz, reduceIte, Nat.reduceEqDiff, Nat.reduceAdd, e0, e6, ptrV, ho4, map3, Int.reduceLE, Int.reduceToNat, hp1, hws, hor, List.getD_cons_succ, List.getD_cons_zero]; refine k' _ _ ?_; clear k' K')
    all_goals refine S.nil ?_
    all_goals simp only [ze, reduceIte, Nat.reduceEqDiff, Nat.reduceLT, Nat.reduceLeDiff, Nat.reduceAdd, reduceCtorEq, Nat.reduceMul, e0, e6, ptrV, ho4, map3, Int.reduceLE, Int.reduceToNat, hp1, hws, hor, List.getD_cons_succ, List.getD_cons_zero]
    all_goals apply_assumption
    all_goals refine AW.reg0 ?_
    all_goals iterate 8 (refine S.g rfl rfl fun K' k' => ?_; simp only [zz, reduceIte, Nat.reduceEqDiff, Nat.reduceLT, Nat.reduceLeDiff, Nat.reduceAdd, reduceCtorEq, Nat.reduceMul, of129_2, ok3, sz3, ag3, e0, ptrV, ho4, map3, hw1, List.getD_cons_succ, List.getD_cons_zero]; refine k' _ _ ?_; clear k' K')
    all_goals refine S.nil ?_
    all_goals simp only [ze, reduceIte, Nat.reduceEqDiff, Nat.reduceLT, Nat.reduceLeDiff, Nat.reduceAdd, reduceCtorEq, Nat.reduceMul, e0, ptrV, ho4, map3, hw1, List.getD_cons_succ, List.getD_cons_zero]
    all_goals apply_assumption
    all_goals refine AW.reg0 ?_
    all_goals iterate 2 (refine S.g rfl rfl fun K' k' => ?_; simp only [zz, reduceIte, Nat.reduceEqDiff, Nat.reduceAdd, e0, e29, e30, hwi]; refine k' _ _ ?_; clear k' K')
    all_goals refine S.nil ?_
    all_goals simp only [ze, reduceIte, Nat.reduceEqDiff, Nat.reduceLT, Nat.reduceLeDiff, Nat.reduceAdd, reduceCtorEq, Nat.reduceMul, e0, e29, e30, hwi]
    refine ⟨n - (i + 1), by omega, i + 1, rfl, by omega, rfl, by rw [hsucc], ?_⟩
    rw [← hG, Hp.setObj_setObj]; rfl
  · refine AW.exit ?_
    all_goals simp only [zs, reduceIte, Nat.reduceEqDiff, Nat.reduceLT, Nat.reduceLeDiff, Nat.reduceAdd, reduceCtorEq, Nat.reduceMul]
    all_goals apply_assumption
    have hin := of_decide_eq_false hc
    have hi2 : i = n := by omega
    subst hi2
    refine AW.seq_k fun K14 h14 => ?_
    all_goals refine AW.reg0 ?_
    all_goals iterate 3 (refine S.g rfl rfl fun K' k' => ?_; simp only [zz, reduceIte, Nat.reduceEqDiff, Nat.reduceAdd, e6]; refine k' _ _ ?_; clear k' K')
    all_goals refine S.nil ?_
    all_goals simp only [ze, reduceIte, Nat.reduceEqDiff, Nat.reduceLT, Nat.reduceLeDiff, Nat.reduceAdd, reduceCtorEq, Nat.reduceMul, e6]
    all_goals apply_assumption
    refine AW.ret ?_
    all_goals simp only [zs, reduceIte, Nat.reduceEqDiff, Nat.reduceLT, Nat.reduceLeDiff, Nat.reduceAdd, reduceCtorEq, Nat.reduceMul]
    rw [if_pos (by omega)]
    simp [wk, wk1]
end Go.Abs.M
namespace Go.Abs.M
open Go Go.Abs Go.Proofs
set_option maxRecDepth 20000
set_option linter.unusedSimpArgs false
set_option linter.unusedVariables false
/-- How many flags at the head are down, at most m. -/
def zr : List Bool → Nat → Nat
  | _, 0 => 0
  | [], _ => 0
  | b :: l, m + 1 => if b then 0 else zr l m + 1
theorem zr_le : ∀ (l : List Bool) (m : Nat), zr l m ≤ m ∧ zr l m ≤ l.length
  | _, 0 => by simp [zr]
  | [], m + 1 => by simp [zr]
  | b :: l, m + 1 => by
    have := zr_le l m
    cases b <;> simp [zr] <;> omega
theorem zr_step {l : List Bool} {k m : Nat} (h : l[k]? = some false) (hm : 0 < m) : zr (l.drop k) m = 1 + zr (l.drop (k + 1)) (m - 1) := by
  obtain ⟨m, rfl⟩ : ∃ j, m = j + 1 := ⟨m - 1, by omega⟩
  have hlt := (List.getElem?_eq_some_iff.1 h).1
  rw [List.drop_eq_getElem_cons hlt]
  have : l[k] = false := (List.getElem?_eq_some_iff.1 h).2
  rw [this]
  simp [zr]; omega
theorem zr_stop {l : List Bool} {k m : Nat} (h : m = 0 ∨ l.length ≤ k ∨ l[k]? = some true) : zr (l.drop k) m = 0 := by
  rcases h with rfl | h | h
  · cases l.drop k <;> rfl
  · rw [List.drop_eq_nil_of_le h]; cases m <;> rfl
  · have hlt := (List.getElem?_eq_some_iff.1 h).1
    rw [List.drop_eq_getElem_cons hlt, (List.getElem?_eq_some_iff.1 h).2]
    cases m <;> rfl
/-- The next natural number: it and how many flags it has, or what is wrong. -/
def natP (l : List Bool) : Except Int (Nat × Nat) :=
  let k := zr l 65
  if k = 65 then .error 11 else if l.length < 2 * k + 1 then .error 10 else
    if k = 64 then (if valN ((l.drop (k + 1)).take k) = 0 then .ok (18446744073709551615, 2 * k + 1) else .error 11) else .ok (2 ^ k + valN ((l.drop (k + 1)).take k) - 1, 2 * k + 1)
theorem bitsV_at (b : List Nat) (q k n : Nat) : bitsV b (q + k) n = valN ((((unB b).drop q).drop k).take n) := by rw [bitsV, List.drop_drop]
theorem back_spec (g : Nat) (b : List Nat) (q q' : Nat) (e : Int) (σ : Hp) (ho : σ.obj g = some (srcC b q)) :
    ACalls Try.prog 142 [ptrV g, .c (.int .i64 q'), .c (.int .i64 e)] σ (fun v σ' => v = .c (.int .i64 e) ∧ σ' = if e = 0 then σ else σ.setObj g (some (srcC b q'))) := by
  unfold srcC at ho
  refine ACalls.intro Try.call142 Try.func142 rfl Try.ntmps142 Try.results142 (by simp) ?_
  refine AW.seq_k fun K1 h1 => ?_
  all_goals refine AW.reg0 ?_
  all_goals (refine S.g rfl rfl fun K' k' => ?_; simp only [zz, reduceIte, Nat.reduceEqDiff, Nat.reduceAdd]; refine k' _ _ ?_; clear k' K')
  all_goals refine S.nil ?_
  all_goals simp only [ze, reduceIte, Nat.reduceEqDiff, Nat.reduceLT, Nat.reduceLeDiff, Nat.reduceAdd, reduceCtorEq, Nat.reduceMul]
  all_goals apply_assumption
  refine AW.seq_k fun K2 h2 => ?_
  refine AW.seq_k fun K3 h3 => ?_
  all_goals refine AW.reg0 ?_
  all_goals iterate 2 (refine S.g rfl rfl fun K' k' => ?_; simp only [zz, reduceIte, Nat.reduceEqDiff, Nat.reduceAdd]; refine k' _ _ ?_; clear k' K')
  all_goals refine S.nil ?_
  all_goals simp only [ze, reduceIte, Nat.reduceEqDiff, Nat.reduceLT, Nat.reduceLeDiff, Nat.reduceAdd, reduceCtorEq, Nat.reduceMul]
  all_goals apply_assumption
  refine AW.cond (b := decide (e ≠ 0)) (by simp [ev]; try rfl) (fun hc => ?_) (fun hc => ?_)
  · have hc := of_decide_eq_true hc
    all_goals refine AW.reg0 ?_
    all_goals iterate 5 (refine S.g rfl rfl fun K' k' => ?_; simp only [zz, reduceIte, Nat.reduceEqDiff, Nat.reduceLT, Nat.reduceLeDiff, Nat.reduceAdd, reduceCtorEq, Nat.reduceMul, of129_2, ok3, sz3, ag3, ptrV, ho, map3]; refine k' _ _ ?_; clear k' K')
    all_goals refine S.nil ?_
    all_goals simp only [ze, reduceIte, Nat.reduceEqDiff, Nat.reduceLT, Nat.reduceLeDiff, Nat.reduceAdd, reduceCtorEq, Nat.reduceMul, ptrV, ho, map3]
    all_goals apply_assumption
    refine AW.seq_k fun K4 h4 => ?_
    all_goals refine AW.reg0 ?_
    all_goals iterate 2 (refine S.g rfl rfl fun K' k' => ?_; simp only [zz, reduceIte, Nat.reduceEqDiff, Nat.reduceAdd]; refine k' _ _ ?_; clear k' K')
    all_goals refine S.nil ?_
    all_goals simp only [ze, reduceIte, Nat.reduceEqDiff, Nat.reduceLT, Nat.reduceLeDiff, Nat.reduceAdd, reduceCtorEq, Nat.reduceMul]
    all_goals apply_assumption
    refine AW.ret ?_
    all_goals simp only [zs, reduceIte, Nat.reduceEqDiff, Nat.reduceLT, Nat.reduceLeDiff, Nat.reduceAdd, reduceCtorEq, Nat.reduceMul]
    rw [if_neg hc]; rfl
  · have hc : e = 0 := by simpa using of_decide_eq_false hc
    refine AW.skip ?_
    all_goals simp only [zs, reduceIte, Nat.reduceEqDiff, Nat.reduceLT, Nat.reduceLeDiff, Nat.reduceAdd, reduceCtorEq, Nat.reduceMul]
    all_goals apply_assumption
    refine AW.seq_k fun K5 h5 => ?_
    all_goals refine AW.reg0 ?_
    all_goals iterate 2 (refine S.g rfl rfl fun K' k' => ?_; simp only [zz, reduceIte, Nat.reduceEqDiff, Nat.reduceAdd]; refine k' _ _ ?_; clear k' K')
    all_goals refine S.nil ?_
    all_goals simp only [ze, reduceIte, Nat.reduceEqDiff, Nat.reduceLT, Nat.reduceLeDiff, Nat.reduceAdd, reduceCtorEq, Nat.reduceMul]
    all_goals apply_assumption
    refine AW.ret ?_
    all_goals simp only [zs, reduceIte, Nat.reduceEqDiff, Nat.reduceLT, Nat.reduceLeDiff, Nat.reduceAdd, reduceCtorEq, Nat.reduceMul]
    rw [if_pos hc]
theorem sNat_spec (g : Nat) (b : List Nat) (q : Nat) (σ : Hp) (ho : σ.obj g = some (srcC b q)) (hb : b.length < 140737488355329) (hb256 : ∀ x ∈ b, x < 256) (hq : q ≤ 8 * b.length) :
    ACalls Try.prog 141 [ptrV g] σ (fun v σ' => match natP ((unB b).drop q) with
      | .ok (u, c) => v = .tup [.c (.int .u64 u), .c (.int .i64 0)] ∧ σ' = σ.setObj g (some (srcC b (q + c)))
      | .error e => v = .tup [.c (.int .u64 0), .c (.int .i64 e)] ∧ σ' = σ) := by
  refine ACalls.intro Try.call141 Try.func141 rfl Try.ntmps141 Try.results141 (by simp) ?_
  have ho' : σ.obj g = some [.c (.bool true), .sl (b.map encB), .c (.int .i64 (q : Nat))] := ho
  have hlen : ((unB b).drop q).length = 8 * b.length - q := by rw [List.length_drop, unB_len]
  refine AW.seq_k fun K1 h1 => ?_
  all_goals refine AW.reg0 ?_
  all_goals iterate 2 (refine S.g rfl rfl fun K' k' => ?_; simp only [zz, reduceIte, Nat.reduceEqDiff, Nat.reduceAdd]; refine k' _ _ ?_; clear k' K')
  all_goals refine S.nil ?_
  all_goals simp only [ze, reduceIte, Nat.reduceEqDiff, Nat.reduceLT, Nat.reduceLeDiff, Nat.reduceAdd, reduceCtorEq, Nat.reduceMul]
  all_goals apply_assumption
  refine AW.seq_k fun K2 h2 => ?_
  refine AW.seq_k fun K3 h3 => ?_
  all_goals refine AW.reg0 ?_
  all_goals (refine S.g rfl rfl fun K' k' => ?_; simp only [zz, reduceIte, Nat.reduceEqDiff, Nat.reduceAdd, ptrV, ho', map3, un4, un82, TypeDesc.pointer.injEq, Bool.not_true, List.getD_cons_succ, List.getD_cons_zero]; refine k' _ _ ?_; clear k' K')
  all_goals (refine S.g rfl rfl fun K' k' => ?_; simp only [zz, reduceIte, Nat.reduceEqDiff, Nat.reduceLT, Nat.reduceLeDiff, Nat.reduceAdd, reduceCtorEq, Nat.reduceMul, un82, ptrV, ho', map3, un4, un82, TypeDesc.pointer.injEq, Bool.not_true, List.getD_cons_succ, List.getD_cons_zero]; refine S.bool fun b a9 => ?_; cases b <;> (try (exfalso; first | exact Bool.noConfusion a9 | (have h := of_decide_eq_true a9; omega) | (have h := of_decide_eq_false a9; omega))) <;> (refine k' _ _ ?_; clear k' K'))
  all_goals (refine S.g rfl rfl fun K' k' => ?_; simp only [zz, reduceIte, Nat.reduceEqDiff, Nat.reduceAdd, ptrV, ho', map3, un4, un82, TypeDesc.pointer.injEq, Bool.not_true, List.getD_cons_succ, List.getD_cons_zero]; refine k' _ _ ?_; clear k' K')
  all_goals iterate 5 (first | (refine S.y rfl rfl rfl rfl fun K' k' => ?_; simp only [zz, reduceIte, Nat.reduceEqDiff, Nat.reduceLT, Nat.reduceLeDiff, Nat.reduceAdd, reduceCtorEq, Nat.reduceMul, of129_0, ok4, sz4, ag4, ptrV, ho', map3, un4, un82, TypeDesc.pointer.injEq, Bool.not_true, List.getD_cons_succ, List.getD_cons_zero]; refine k' _ _ ?_; clear k' K') | ((first | refine S.x rfl rfl rfl rfl fun K' k' => ?_ | refine S.u rfl rfl rfl rfl fun K' k' => ?_); simp only [ze, reduceIte, Nat.reduceEqDiff]; refine k' _ _ ?_; clear k' K'))
  all_goals (refine S.g rfl rfl fun K' k' => ?_; simp only [zz, reduceIte, Nat.reduceEqDiff, Nat.reduceAdd, ptrV, ho', map3, un4, un82, TypeDesc.pointer.injEq, Bool.not_true, List.getD_cons_succ, List.getD_cons_zero]; refine k' _ _ ?_; clear k' K')
  all_goals refine S.nil ?_
  all_goals simp only [ze, reduceIte, Nat.reduceEqDiff, Nat.reduceLT, Nat.reduceLeDiff, Nat.reduceAdd, reduceCtorEq, Nat.reduceMul, ptrV, ho', map3, un4, un82, TypeDesc.pointer.injEq, Bool.not_true, List.getD_cons_succ, List.getD_cons_zero]
  all_goals apply_assumption
  refine AW.cond (b := false) (by simp [ev]) (fun hc => by cases hc) (fun hc => ?_)
  refine AW.skip ?_
  all_goals simp only [zs, reduceIte, Nat.reduceEqDiff, Nat.reduceLT, Nat.reduceLeDiff, Nat.reduceAdd, reduceCtorEq, Nat.reduceMul]
  all_goals apply_assumption
  refine AW.seq_k fun K4 h4 => ?_
  all_goals refine AW.reg0 ?_
  all_goals iterate 5 (refine S.g rfl rfl fun K' k' => ?_; simp only [zz, reduceIte, Nat.reduceEqDiff, Nat.reduceLT, Nat.reduceLeDiff, Nat.reduceAdd, reduceCtorEq, Nat.reduceMul, of129_2, ok3, sz3, ag3, ho', map3, List.getD_cons_succ, List.getD_cons_zero]; refine k' _ _ ?_; clear k' K')
  all_goals refine S.nil ?_
  all_goals simp only [ze, reduceIte, Nat.reduceEqDiff, Nat.reduceLT, Nat.reduceLeDiff, Nat.reduceAdd, reduceCtorEq, Nat.reduceMul, ho', map3, List.getD_cons_succ, List.getD_cons_zero]
  all_goals apply_assumption
  refine AW.seq_k fun K5 h5 => ?_
  all_goals refine AW.reg0 ?_
  all_goals (refine S.g rfl rfl fun K' k' => ?_; simp only [zz, reduceIte, Nat.reduceEqDiff, Nat.reduceAdd]; refine k' _ _ ?_; clear k' K')
  all_goals refine S.nil ?_
  all_goals simp only [ze, reduceIte, Nat.reduceEqDiff, Nat.reduceLT, Nat.reduceLeDiff, Nat.reduceAdd, reduceCtorEq, Nat.reduceMul]
  all_goals apply_assumption
  refine AW.seq_j (fun s σ' => σ' = σ ∧ s.t 0 = ptrV g ∧ s.t 4 = .c (.int .i64 q) ∧ s.t 5 = .c (.int .i64 (zr ((unB b).drop q) 65 : Nat))) ?_ ?_
  · refine AW.block ?_   -- 0
    refine AW.loop (fun m s σ' => ∃ k, m = 65 - k ∧ k ≤ 65 ∧ k ≤ 8 * b.length - q ∧ σ' = σ ∧ s.t 0 = ptrV g ∧ s.t 4 = .c (.int .i64 q) ∧ s.t 5 = .c (.int .i64 (k : Nat)) ∧ zr ((unB b).drop q) 65 = k + zr (((unB b).drop q).drop k) (65 - k)) 65 ?_ ?_
    · refine ⟨0, rfl, by omega, by omega, rfl, ?_⟩
      all_goals simp only [zs, reduceIte, Nat.reduceEqDiff, Nat.reduceLT, Nat.reduceLeDiff, Nat.reduceAdd, reduceCtorEq, Nat.reduceMul]
      simp [ptrV]
    rintro m s σ' ⟨k, hm, hk, hkl, rfl, e0, e4, e5, hz⟩
    have hw1 : IntKind.i64.wrap ((q : Int) + k) = ((q + k : Nat) : Int) := by rw [wrap_small _ (by omega) (by omega)]; rfl
    have hw2 : IntKind.i64.wrap ((k : Int) + 1) = ((k + 1 : Nat) : Int) := by rw [wrap_small _ (by omega) (by omega)]; rfl
    refine AW.seq_k fun K6 h6 => ?_
    refine AW.seq_j (fun s2 σ2 => σ2 = σ' ∧ s2.t 0 = ptrV g ∧ s2.t 4 = .c (.int .i64 q) ∧ s2.t 5 = .c (.int .i64 (k : Nat)) ∧ ∃ y, s2.t 36 = .c (.bool y) ∧ (y = true → k < 65 ∧ k < 8 * b.length - q ∧ ((unB b).drop q)[k]? = some false) ∧ (y = false → 65 - k = 0 ∨ ((unB b).drop q).length ≤ k ∨ ((unB b).drop q)[k]? = some true)) ?_ ?_
    · skip
      all_goals refine AW.reg0 ?_
      all_goals (refine S.g rfl rfl fun K' k' => ?_; simp only [zz, reduceIte, Nat.reduceEqDiff, Nat.reduceAdd, e0, e4, e5, hw1, pw]; refine k' _ _ ?_; clear k' K')
      all_goals (refine S.g rfl rfl fun K' k' => ?_; simp only [zz, reduceIte, Nat.reduceEqDiff, Nat.reduceLT, Nat.reduceLeDiff, Nat.reduceAdd, reduceCtorEq, Nat.reduceMul, e0, e4, e5, hw1, pw]; refine S.bool fun b a22 => ?_; cases b <;> (try (exfalso; first | exact Bool.noConfusion a22 | (have h := of_decide_eq_true a22; omega) | (have h := of_decide_eq_false a22; omega))) <;> (refine k' _ _ ?_; clear k' K'))
      all_goals (refine S.g rfl rfl fun K' k' => ?_; simp only [zz, reduceIte, Nat.reduceEqDiff, Nat.reduceAdd, e0, e4, e5, hw1, pw]; refine k' _ _ ?_; clear k' K')
      all_goals iterate 2 (first | (refine S.y rfl rfl rfl rfl fun K' k' => ?_; simp only [zz, reduceIte, Nat.reduceEqDiff, Nat.reduceAdd, e0, e4, e5, hw1, pw]; refine k' _ _ ?_; clear k' K') | ((first | refine S.x rfl rfl rfl rfl fun K' k' => ?_ | refine S.u rfl rfl rfl rfl fun K' k' => ?_); simp only [ze, reduceIte, Nat.reduceEqDiff]; refine k' _ _ ?_; clear k' K'))
      all_goals (first | (refine S.y rfl rfl rfl rfl fun K' k' => ?_; simp only [zz, reduceIte, Nat.reduceEqDiff, Nat.reduceLT, Nat.reduceLeDiff, Nat.reduceAdd, reduceCtorEq, Nat.reduceMul, e0, e4, e5, hw1, pw]; refine (left_spec g b q _ ho hb hq).to fun v σ2 hv => ?_; obtain ⟨rfl, hσ⟩ := hv; subst hσ <;> (refine k' _ _ ?_; clear k' K')) | ((first | refine S.x rfl rfl rfl rfl fun K' k' => ?_ | refine S.u rfl rfl rfl rfl fun K' k' => ?_); simp only [ze, reduceIte, Nat.reduceEqDiff]; refine k' _ _ ?_; clear k' K'))
      all_goals (first | (refine S.y rfl rfl rfl rfl fun K' k' => ?_; simp only [zz, reduceIte, Nat.reduceEqDiff, Nat.reduceLT, Nat.reduceLeDiff, Nat.reduceAdd, reduceCtorEq, Nat.reduceMul, e0, e4, e5, hw1, pw]; refine S.bool fun b a27 => ?_; cases b <;> (try (exfalso; first | exact Bool.noConfusion a27 | (have h := of_decide_eq_true a27; omega) | (have h := of_decide_eq_false a27; omega))) <;> (refine k' _ _ ?_; clear k' K')) | ((first | refine S.x rfl rfl rfl rfl fun K' k' => ?_ | refine S.u rfl rfl rfl rfl fun K' k' => ?_); simp only [ze, reduceIte, Nat.reduceEqDiff]; refine k' _ _ ?_; clear k' K'))
      all_goals iterate 2 (refine S.g rfl rfl fun K' k' => ?_; simp only [zz, reduceIte, Nat.reduceEqDiff, Nat.reduceAdd, e0, e4, e5, hw1, pw]; refine k' _ _ ?_; clear k' K')
      all_goals iterate 4 (first | (refine S.y rfl rfl rfl rfl fun K' k' => ?_; simp only [zz, reduceIte, Nat.reduceEqDiff, Nat.reduceAdd, e0, e4, e5, hw1, pw]; refine k' _ _ ?_; clear k' K') | ((first | refine S.x rfl rfl rfl rfl fun K' k' => ?_ | refine S.u rfl rfl rfl rfl fun K' k' => ?_); simp only [ze, reduceIte, Nat.reduceEqDiff]; refine k' _ _ ?_; clear k' K'))
      all_goals (first | (refine S.y rfl rfl rfl rfl fun K' k' => ?_; simp only [zz, reduceIte, Nat.reduceEqDiff, Nat.reduceLT, Nat.reduceLeDiff, Nat.reduceAdd, reduceCtorEq, Nat.reduceMul, e0, e4, e5, hw1, pw]; obtain ⟨x, hx⟩ : ∃ x, b[(q + k) / 8]? = some x := ⟨_, List.getElem?_eq_getElem (by have := of_decide_eq_true a27; omega)⟩; refine (bit_spec g b q (q + k) _ ho x hx (hb256 x (List.mem_of_getElem? hx)) (by omega)).to fun v σ2 hv => ?_; obtain ⟨rfl, hσ⟩ := hv; subst hσ <;> (refine k' _ _ ?_; clear k' K')) | ((first | refine S.x rfl rfl rfl rfl fun K' k' => ?_ | refine S.u rfl rfl rfl rfl fun K' k' => ?_); simp only [ze, reduceIte, Nat.reduceEqDiff]; refine k' _ _ ?_; clear k' K'))
      all_goals (first | (refine S.y rfl rfl rfl rfl fun K' k' => ?_; simp only [zz, reduceIte, Nat.reduceEqDiff, Nat.reduceAdd, e0, e4, e5, hw1, pw]; refine k' _ _ ?_; clear k' K') | ((first | refine S.x rfl rfl rfl rfl fun K' k' => ?_ | refine S.u rfl rfl rfl rfl fun K' k' => ?_); simp only [ze, reduceIte, Nat.reduceEqDiff]; refine k' _ _ ?_; clear k' K'))
      all_goals (refine S.g rfl rfl fun K' k' => ?_; simp only [zz, reduceIte, Nat.reduceEqDiff, Nat.reduceAdd, e0, e4, e5, hw1, pw]; refine k' _ _ ?_; clear k' K')
      all_goals refine S.nil ?_
      all_goals simp only [ze, reduceIte, Nat.reduceEqDiff, Nat.reduceLT, Nat.reduceLeDiff, Nat.reduceAdd, reduceCtorEq, Nat.reduceMul, e0, e4, e5, hw1, pw]
      · exact ⟨false, rfl, (fun h => by cases h), fun _ => .inl (by have := of_decide_eq_false a22; omega)⟩
      · exact ⟨false, rfl, (fun h => by cases h), fun _ => .inr (.inl (by have := of_decide_eq_false a27; rw [hlen]; omega))⟩
      · have hget : ((unB b).drop q)[k]? = some (x / 2 ^ (7 - (q + k) % 8) % 2 == 1) := by rw [List.getElem?_drop]; exact unB_get b (q + k) x hx
        have hy2 : x / 2 ^ (7 - (q + k) % 8) % 2 < 2 := Nat.mod_lt _ (by omega)
        generalize x / 2 ^ (7 - (q + k) % 8) % 2 = y at *
        refine ⟨_, rfl, fun h => ⟨by have := of_decide_eq_true a22; omega, by have := of_decide_eq_true a27; omega, ?_⟩, fun h => .inr (.inr ?_)⟩
        · have h0 : y = 0 := by simpa using h
          rw [hget, h0]; rfl
        · have h0 : y ≠ 0 := by simpa using h
          rw [hget, show y = 1 by omega]; rfl
    rintro s2 σ2 ⟨rfl, f0, f4, f5, y, f36, hy1, hy0⟩
    refine AW.cond (b := y) f36 (fun hc => ?_) (fun hc => ?_)
    · refine AW.skip ?_
      all_goals apply_assumption
      obtain ⟨k1, k2, k3⟩ := hy1 hc
      refine AW.block ?_   -- 1
      all_goals refine AW.reg0 ?_
      all_goals iterate 3 (refine S.g rfl rfl fun K' k' => ?_; simp only [zz, reduceIte, Nat.reduceEqDiff, Nat.reduceAdd, f5, hw2]; refine k' _ _ ?_; clear k' K')
      all_goals refine S.nil ?_
      all_goals simp only [ze, reduceIte, Nat.reduceEqDiff, Nat.reduceLT, Nat.reduceLeDiff, Nat.reduceAdd, reduceCtorEq, Nat.reduceMul, f5, hw2]
      refine ⟨65 - (k + 1), by omega, k + 1, rfl, by omega, by omega, f0, f4, rfl, ?_⟩
      rw [hz, zr_step k3 (by omega), show 65 - (k + 1) = 65 - k - 1 by omega]; omega
    · refine AW.exit ?_
      all_goals simp only [zs, reduceIte, Nat.reduceEqDiff, Nat.reduceLT, Nat.reduceLeDiff, Nat.reduceAdd, reduceCtorEq, Nat.reduceMul]
      refine ⟨f0, f4, ?_⟩
      rw [f5, hz, zr_stop (hy0 hc)]; rfl
  rintro s σ' ⟨rfl, e0, e4, e5⟩
  have hzl := zr_le ((unB b).drop q) 65
  rw [hlen] at hzl
  unfold natP
  simp only []
  generalize hk : zr ((unB b).drop q) 65 = k at *
  have hk65 : ((k : Int) == 65) = decide (k = 65) := by rw [Bool.eq_iff_iff]; simp; omega
  refine AW.seq_j (fun s σ2 => σ2 = σ' ∧ s.t 0 = ptrV g ∧ s.t 4 = .c (.int .i64 q) ∧ s.t 5 = .c (.int .i64 (k : Nat)) ∧ k < 65 ∧ 2 * k + 1 ≤ 8 * b.length - q) ?_ ?_
  · refine AW.block ?_   -- 2
    refine AW.seq_k fun K7 h7 => ?_
    all_goals refine AW.reg0 ?_
    all_goals iterate 3 (refine S.g rfl rfl fun K' k' => ?_; simp only [zz, reduceIte, Nat.reduceEqDiff, Nat.reduceAdd, e5, hk65]; refine k' _ _ ?_; clear k' K')
    all_goals refine S.nil ?_
    all_goals simp only [ze, reduceIte, Nat.reduceEqDiff, Nat.reduceLT, Nat.reduceLeDiff, Nat.reduceAdd, reduceCtorEq, Nat.reduceMul, e5, hk65]
    all_goals apply_assumption
    refine AW.cond (b := decide (k = 65)) (by simp [ev]) (fun hc => ?_) (fun hc => ?_)
    · have hc := of_decide_eq_true hc
      refine AW.seq_k fun K8 h8 => ?_
      all_goals refine AW.reg0 ?_
      all_goals iterate 2 (refine S.g rfl rfl fun K' k' => ?_; simp only [zz, reduceIte, Nat.reduceEqDiff, Nat.reduceAdd]; refine k' _ _ ?_; clear k' K')
      all_goals refine S.nil ?_
      all_goals simp only [ze, reduceIte, Nat.reduceEqDiff, Nat.reduceLT, Nat.reduceLeDiff, Nat.reduceAdd, reduceCtorEq, Nat.reduceMul]
      all_goals apply_assumption
      refine AW.ret ?_
      all_goals simp only [zs, reduceIte, Nat.reduceEqDiff, Nat.reduceLT, Nat.reduceLeDiff, Nat.reduceAdd, reduceCtorEq, Nat.reduceMul]
      rw [if_pos hc]
      simp [wk, wk1]
    have hc := of_decide_eq_false hc
    have hw1 : IntKind.i64.wrap (2 * (k : Int)) = ((2 * k : Nat) : Int) := by rw [wrap_small _ (by omega) (by omega)]; simp
    have hw2 : IntKind.i64.wrap (((2 * k : Nat) : Int) + 1) = ((2 * k + 1 : Nat) : Int) := by rw [wrap_small _ (by omega) (by omega)]; rfl
    refine AW.seq_k fun K9 h9 => ?_
    all_goals refine AW.reg0 ?_
    all_goals (refine S.g rfl rfl fun K' k' => ?_; simp only [zz, reduceIte, Nat.reduceEqDiff, Nat.reduceAdd, e0, e5, hw1, hw2, pw]; refine k' _ _ ?_; clear k' K')
    all_goals (refine S.g rfl rfl fun K' k' => ?_; simp only [zz, reduceIte, Nat.reduceEqDiff, Nat.reduceLT, Nat.reduceLeDiff, Nat.reduceAdd, reduceCtorEq, Nat.reduceMul, e0, e5, hw1, hw2, pw]; refine (left_spec g b q _ ho hb hq).to fun v σ3 hv => ?_; obtain ⟨rfl, hσ⟩ := hv; subst hσ <;> (refine k' _ _ ?_; clear k' K'))
    all_goals iterate 5 (refine S.g rfl rfl fun K' k' => ?_; simp only [zz, reduceIte, Nat.reduceEqDiff, Nat.reduceAdd, e0, e5, hw1, hw2, pw]; refine k' _ _ ?_; clear k' K')
    all_goals refine S.nil ?_
    all_goals simp only [ze, reduceIte, Nat.reduceEqDiff, Nat.reduceLT, Nat.reduceLeDiff, Nat.reduceAdd, reduceCtorEq, Nat.reduceMul, e0, e5, hw1, hw2, pw]
    all_goals apply_assumption
    refine AW.cond (b := decide (8 * b.length - q < 2 * k + 1)) (by simp [ev]) (fun hd => ?_) (fun hd => ?_)
    · have hd := of_decide_eq_true hd
      refine AW.seq_k fun K10 h10 => ?_
      all_goals refine AW.reg0 ?_
      all_goals iterate 2 (refine S.g rfl rfl fun K' k' => ?_; simp only [zz, reduceIte, Nat.reduceEqDiff, Nat.reduceAdd]; refine k' _ _ ?_; clear k' K')
      all_goals refine S.nil ?_
      all_goals simp only [ze, reduceIte, Nat.reduceEqDiff, Nat.reduceLT, Nat.reduceLeDiff, Nat.reduceAdd, reduceCtorEq, Nat.reduceMul]
      all_goals apply_assumption
      refine AW.ret ?_
      all_goals simp only [zs, reduceIte, Nat.reduceEqDiff, Nat.reduceLT, Nat.reduceLeDiff, Nat.reduceAdd, reduceCtorEq, Nat.reduceMul]
      rw [if_neg hc, if_pos (by rw [hlen]; omega)]
      simp [wk, wk1]
    · have hd := of_decide_eq_false hd
      refine AW.skip ?_
      all_goals simp only [zs, reduceIte, Nat.reduceEqDiff, Nat.reduceLT, Nat.reduceLeDiff, Nat.reduceAdd, reduceCtorEq, Nat.reduceMul]
      exact ⟨e0, e4, e5, by omega, by omega⟩
  clear e0 e4 e5
  rintro s σ2 ⟨rfl, e0, e4, e5, hk64, hk2⟩
  rw [if_neg (by omega), if_neg (by rw [hlen]; omega)]
  have hw1 : IntKind.i64.wrap ((k : Int) + 1) = ((k + 1 : Nat) : Int) := by rw [wrap_small _ (by omega) (by omega)]; rfl
  have hw2 : IntKind.i64.wrap ((q : Int) + ((k + 1 : Nat) : Int)) = ((q + (k + 1) : Nat) : Int) := by rw [wrap_small _ (by omega) (by omega)]; rfl
  have hval := bitsV_at b q (k + 1) k
  have hlt := bitsV_lt b (q + (k + 1)) k
  have h64 : ((k : Int) == 64) = decide (k = 64) := by rw [Bool.eq_iff_iff]; simp; omega
  unfold ptrV at e0
  refine AW.seq_k fun K11 h11 => ?_
  all_goals refine AW.reg0 ?_
  all_goals iterate 10 (refine S.g rfl rfl fun K' k' => ?_; simp only [zz, reduceIte, Nat.reduceEqDiff, Nat.reduceLT, Nat.reduceLeDiff, Nat.reduceAdd, reduceCtorEq, Nat.reduceMul, of129_2, ok3, sz3, ag3, e0, e5, ho', map3, hw1, hw2, List.getD_cons_succ, List.getD_cons_zero]; refine k' _ _ ?_; clear k' K')
  all_goals refine S.nil ?_
  all_goals simp only [ze, reduceIte, Nat.reduceEqDiff, Nat.reduceLT, Nat.reduceLeDiff, Nat.reduceAdd, reduceCtorEq, Nat.reduceMul, e0, e5, ho', map3, hw1, hw2, List.getD_cons_succ, List.getD_cons_zero]
  all_goals apply_assumption
  have hs3 : (σ2.setObj g (some (srcC b (q + (k + 1))))).obj g = some (srcC b (q + (k + 1))) := by simp
  refine AW.seq_k fun K12 h12 => ?_
  all_goals refine AW.reg0 ?_
  all_goals iterate 2 (refine S.g rfl rfl fun K' k' => ?_; simp only [zz, reduceIte, Nat.reduceEqDiff, Nat.reduceAdd, e0, e5, Nat.reduceLT, Nat.reduceLeDiff]; refine k' _ _ ?_; clear k' K')
  all_goals (refine S.g rfl rfl fun K' k' => ?_; simp only [zz, reduceIte, Nat.reduceEqDiff, Nat.reduceLT, Nat.reduceLeDiff, Nat.reduceAdd, reduceCtorEq, Nat.reduceMul, e0, e5, Nat.reduceLT, Nat.reduceLeDiff]; refine (sBits_spec g b (q + (k + 1)) k _ hs3 hb hb256 (by omega) (by omega)).to fun v σ3 hv => ?_; rw [if_pos (by omega)] at hv; obtain ⟨rfl, hσ3⟩ := hv <;> (refine k' _ _ ?_; clear k' K'))
  all_goals iterate 5 (refine S.g rfl rfl fun K' k' => ?_; simp only [zz, reduceIte, Nat.reduceEqDiff, Nat.reduceLT, Nat.reduceLeDiff, Nat.reduceAdd, reduceCtorEq, Nat.reduceMul, e0, e5, Nat.reduceLT, Nat.reduceLeDiff]; refine k' _ _ ?_; clear k' K')
  all_goals refine S.nil ?_
  all_goals simp only [ze, reduceIte, Nat.reduceEqDiff, Nat.reduceLT, Nat.reduceLeDiff, Nat.reduceAdd, reduceCtorEq, Nat.reduceMul, e0, e5, Nat.reduceLT, Nat.reduceLeDiff]
  all_goals apply_assumption
  have hs4 : σ3.obj g = some (srcC b (q + (k + 1) + k)) := by rw [hσ3]; simp
  have hend : ∀ r, σ3.setObj g (some (srcC b r)) = σ2.setObj g (some (srcC b r)) := fun r => by rw [hσ3, Hp.setObj_setObj, Hp.setObj_setObj]
  have hfin : σ3 = σ2.setObj g (some (srcC b (q + (2 * k + 1)))) := by rw [hσ3, Hp.setObj_setObj, show q + (k + 1) + k = q + (2 * k + 1) by omega]
  rw [← hval]
  generalize bitsV b (q + (k + 1)) k = u at *
  clear hσ3 hval ho'
  refine AW.seq_k fun K13 h13 => ?_
  refine AW.seq_k fun K14 h14 => ?_
  all_goals refine AW.reg0 ?_
  all_goals iterate 3 (refine S.g rfl rfl fun K' k' => ?_; simp only [zz, reduceIte, Nat.reduceEqDiff, Nat.reduceAdd, e0, e4]; refine k' _ _ ?_; clear k' K')
  all_goals (refine S.g rfl rfl fun K' k' => ?_; simp only [zz, reduceIte, Nat.reduceEqDiff, Nat.reduceLT, Nat.reduceLeDiff, Nat.reduceAdd, reduceCtorEq, Nat.reduceMul, e0, e4]; refine (back_spec g b _ q 0 _ hs4).to fun v σ4 hv => ?_; obtain ⟨rfl, hσ4⟩ := hv; rw [if_pos rfl] at hσ4; subst hσ4 <;> (refine k' _ _ ?_; clear k' K'))
  all_goals (refine S.g rfl rfl fun K' k' => ?_; simp only [zz, reduceIte, Nat.reduceEqDiff, Nat.reduceAdd, e0, e4]; refine k' _ _ ?_; clear k' K')
  all_goals refine S.nil ?_
  all_goals simp only [ze, reduceIte, Nat.reduceEqDiff, Nat.reduceLT, Nat.reduceLeDiff, Nat.reduceAdd, reduceCtorEq, Nat.reduceMul, e0, e4]
  all_goals apply_assumption
  refine AW.cond (b := false) (by simp [ev]) (fun hc => by cases hc) (fun hc => ?_)
  refine AW.skip ?_
  all_goals simp only [zs, reduceIte, Nat.reduceEqDiff, Nat.reduceLT, Nat.reduceLeDiff, Nat.reduceAdd, reduceCtorEq, Nat.reduceMul]
  all_goals apply_assumption
  refine AW.seq_j (fun s σ5 => σ5 = σ4 ∧ s.t 5 = .c (.int .i64 (k : Nat)) ∧ s.t 6 = .c (.int .u64 (u : Nat)) ∧ k ≠ 64) ?_ ?_
  · refine AW.seq_k fun K15 h15 => ?_
    all_goals refine AW.reg0 ?_
    all_goals iterate 2 (refine S.g rfl rfl fun K' k' => ?_; simp only [zz, reduceIte, Nat.reduceEqDiff, Nat.reduceAdd, e5, h64]; refine k' _ _ ?_; clear k' K')
    all_goals refine S.nil ?_
    all_goals simp only [ze, reduceIte, Nat.reduceEqDiff, Nat.reduceLT, Nat.reduceLeDiff, Nat.reduceAdd, reduceCtorEq, Nat.reduceMul, e5, h64]
    all_goals apply_assumption
    refine AW.cond (b := decide (k = 64)) (by simp [ev]) (fun hc => ?_) (fun hc => ?_)
    · have hc := of_decide_eq_true hc
      have hu0 : ((u : Int) != 0) = decide (u ≠ 0) := by rw [Bool.eq_iff_iff]; simp
      refine AW.seq_k fun K16 h16 => ?_
      refine AW.seq_k fun K17 h17 => ?_
      all_goals refine AW.reg0 ?_
      all_goals iterate 2 (refine S.g rfl rfl fun K' k' => ?_; simp only [zz, reduceIte, Nat.reduceEqDiff, Nat.reduceAdd, hu0]; refine k' _ _ ?_; clear k' K')
      all_goals refine S.nil ?_
      all_goals simp only [ze, reduceIte, Nat.reduceEqDiff, Nat.reduceLT, Nat.reduceLeDiff, Nat.reduceAdd, reduceCtorEq, Nat.reduceMul, hu0]
      all_goals apply_assumption
      refine AW.cond (b := decide (u ≠ 0)) (by simp [ev]) (fun hd => ?_) (fun hd => ?_)
      · have hd := of_decide_eq_true hd
        refine AW.seq_k fun K18 h18 => ?_
        all_goals refine AW.reg0 ?_
        all_goals iterate 2 (refine S.g rfl rfl fun K' k' => ?_; simp only [zz, reduceIte, Nat.reduceEqDiff, Nat.reduceAdd, e0, e4]; refine k' _ _ ?_; clear k' K')
        all_goals (refine S.g rfl rfl fun K' k' => ?_; simp only [zz, reduceIte, Nat.reduceEqDiff, Nat.reduceLT, Nat.reduceLeDiff, Nat.reduceAdd, reduceCtorEq, Nat.reduceMul, e0, e4]; refine (back_spec g b _ q 11 _ hs4).to fun v σ5 hv => ?_; obtain ⟨rfl, hσ5⟩ := hv; rw [if_neg (by decide)] at hσ5 <;> (refine k' _ _ ?_; clear k' K'))
        all_goals iterate 2 (refine S.g rfl rfl fun K' k' => ?_; simp only [zz, reduceIte, Nat.reduceEqDiff, Nat.reduceAdd, e0, e4]; refine k' _ _ ?_; clear k' K')
        all_goals refine S.nil ?_
        all_goals simp only [ze, reduceIte, Nat.reduceEqDiff, Nat.reduceLT, Nat.reduceLeDiff, Nat.reduceAdd, reduceCtorEq, Nat.reduceMul, e0, e4]
        all_goals apply_assumption
        refine AW.ret ?_
        all_goals simp only [zs, reduceIte, Nat.reduceEqDiff, Nat.reduceLT, Nat.reduceLeDiff, Nat.reduceAdd, reduceCtorEq, Nat.reduceMul]
        rw [if_pos hc, if_neg hd]
        refine ⟨by simp [wk, wk1], ?_⟩
        rw [hσ5, hend q, setObj_id ho]
      · have hd : u = 0 := by simpa using of_decide_eq_false hd
        refine AW.skip ?_
        all_goals simp only [zs, reduceIte, Nat.reduceEqDiff, Nat.reduceLT, Nat.reduceLeDiff, Nat.reduceAdd, reduceCtorEq, Nat.reduceMul]
        all_goals apply_assumption
        refine AW.seq_k fun K19 h19 => ?_
        all_goals refine AW.reg0 ?_
        all_goals iterate 2 (refine S.g rfl rfl fun K' k' => ?_; simp only [zz, reduceIte, Nat.reduceEqDiff, Nat.reduceAdd]; refine k' _ _ ?_; clear k' K')
        all_goals refine S.nil ?_
        all_goals simp only [ze, reduceIte, Nat.reduceEqDiff, Nat.reduceLT, Nat.reduceLeDiff, Nat.reduceAdd, reduceCtorEq, Nat.reduceMul]
        all_goals apply_assumption
        refine AW.ret ?_
        all_goals simp only [zs, reduceIte, Nat.reduceEqDiff, Nat.reduceLT, Nat.reduceLeDiff, Nat.reduceAdd, reduceCtorEq, Nat.reduceMul]
        rw [if_pos hc, if_pos hd]
        exact ⟨by simp [wk, wk1], hfin⟩
    · have hc := of_decide_eq_false hc
      refine AW.skip ?_
      all_goals simp only [zs, reduceIte, Nat.reduceEqDiff, Nat.reduceLT, Nat.reduceLeDiff, Nat.reduceAdd, reduceCtorEq, Nat.reduceMul]
      exact ⟨e5, hc⟩
  clear e0 e4 e5
  rintro s σ5 ⟨rfl, e5, e6, hk63⟩
  rw [if_neg hk63]
  have hk2 : (2 : Nat) ^ k ≤ 9223372036854775808 := by rw [show 9223372036854775808 = 2 ^ 63 from rfl]; exact Nat.pow_le_pow_right (by omega) (by omega)
  have hp0 : 0 < (2 : Nat) ^ k := Nat.two_pow_pos k
  have hm : min k IntKind.u64.bits = k := Nat.min_eq_left (show k ≤ 64 by omega)
  have hwa : IntKind.u64.wrap (1 * (2 : Int) ^ min k IntKind.u64.bits) = ((2 ^ k : Nat) : Int) := by rw [hm, show (1 : Int) * 2 ^ k = ((2 ^ k : Nat) : Int) by simp, wrap_u64 (by omega)]
  have hwb : IntKind.u64.wrap ((u : Int) + ((2 ^ k : Nat) : Int)) = ((2 ^ k + u : Nat) : Int) := by rw [show (u : Int) + ((2 ^ k : Nat) : Int) = ((2 ^ k + u : Nat) : Int) by rw [Int.natCast_add]; omega, wrap_u64 (by omega)]
  have hwc : IntKind.u64.wrap (((2 ^ k + u : Nat) : Int) - 1) = ((2 ^ k + u - 1 : Nat) : Int) := by rw [show ((2 ^ k + u : Nat) : Int) - 1 = ((2 ^ k + u - 1 : Nat) : Int) by omega, wrap_u64 (by omega)]
  refine AW.seq_k fun K20 h20 => ?_
  all_goals refine AW.reg0 ?_
  all_goals iterate 7 (refine S.g rfl rfl fun K' k' => ?_; simp only [zz, reduceIte, Nat.reduceEqDiff, Nat.reduceAdd, e5, e6, hwa, hwb, hwc]; refine k' _ _ ?_; clear k' K')
  all_goals refine S.nil ?_
  all_goals simp only [ze, reduceIte, Nat.reduceEqDiff, Nat.reduceLT, Nat.reduceLeDiff, Nat.reduceAdd, reduceCtorEq, Nat.reduceMul, e5, e6, hwa, hwb, hwc]
  all_goals apply_assumption
  refine AW.ret ?_
  all_goals simp only [zs, reduceIte, Nat.reduceEqDiff, Nat.reduceLT, Nat.reduceLeDiff, Nat.reduceAdd, reduceCtorEq, Nat.reduceMul]
  exact ⟨by simp [wk, wk1], hfin⟩
end Go.Abs.M
namespace Go.Abs.M
open Go Go.Abs Go.Proofs
set_option maxRecDepth 20000
set_option linter.unusedSimpArgs false
set_option linter.unusedVariables false
theorem natP_ok {l : List Bool} {u c : Nat} (h : natP l = .ok (u, c)) : u < 18446744073709551616 ∧ c ≤ l.length := by
  unfold natP at h
  simp only [] at h
  have hz := zr_le l 65
  generalize zr l 65 = k at *
  split at h
  · cases h
  split at h
  · cases h
  split at h
  · split at h
    · injection h with h; injection h with h1 h2; omega
    · cases h
  · injection h with h
    injection h with h1 h2
    have hv := valN_lt ((l.drop (k + 1)).take k)
    have h3 : 2 ^ ((l.drop (k + 1)).take k).length ≤ 2 ^ k := Nat.pow_le_pow_right (by omega) (by rw [List.length_take]; omega)
    have h4 : (2 : Nat) ^ k ≤ 9223372036854775808 := by rw [show 9223372036854775808 = 2 ^ 63 from rfl]; exact Nat.pow_le_pow_right (by omega) (by omega)
    omega
def zagB (u : Nat) : Int := if u % 2 = 0 then (u / 2 : Nat) else -((u / 2 : Nat) : Int) - 1
def numP (l : List Bool) : Except Int (Int × Nat) := match natP l with
  | .ok (u, c) => .ok (zagB u, c)
  | .error e => .error e
theorem zag_bits (u : Nat) (h : u < 18446744073709551616) : IntKind.i64.wrap ((BitVec.ofInt IntKind.i64.bits ((u / 2 : Nat) : Int) ^^^ BitVec.ofInt IntKind.i64.bits (IntKind.i64.wrap (0 - ((u % 2 : Nat) : Int)))).toNat : Int) = zagB u := by
  unfold zagB
  have hx : (BitVec.ofInt IntKind.i64.bits ((u / 2 : Nat) : Int)).toNat = u / 2 := by
    rw [BitVec.ofInt_natCast, BitVec.toNat_ofNat]; exact Nat.mod_eq_of_lt (show u / 2 < 18446744073709551616 by omega)
  by_cases h0 : u % 2 = 0
  · rw [if_pos h0, h0]
    have : BitVec.ofInt IntKind.i64.bits (IntKind.i64.wrap (0 - ((0 : Nat) : Int))) = 0#IntKind.i64.bits := by decide
    rw [this, BitVec.xor_zero, hx, wrapI _ (by omega) (by omega)]
  · rw [if_neg h0, show u % 2 = 1 by omega]
    have : BitVec.ofInt IntKind.i64.bits (IntKind.i64.wrap (0 - ((1 : Nat) : Int))) = BitVec.allOnes IntKind.i64.bits := by decide
    rw [this, BitVec.xor_allOnes, BitVec.toNat_not, hx]
    unfold IntKind.wrap
    simp [IntKind.signed, IntKind.bits]
    omega
theorem sNum_spec (g : Nat) (b : List Nat) (q : Nat) (σ : Hp) (ho : σ.obj g = some (srcC b q)) (hb : b.length < 140737488355329) (hb256 : ∀ x ∈ b, x < 256) (hq : q ≤ 8 * b.length) :
    ACalls Try.prog 162 [ptrV g] σ (fun v σ' => match numP ((unB b).drop q) with
      | .ok (n, c) => v = .tup [.c (.int .i64 n), .c (.int .i64 0)] ∧ σ' = σ.setObj g (some (srcC b (q + c)))
      | .error e => v = .tup [.c (.int .i64 0), .c (.int .i64 e)] ∧ σ' = σ) := by
  refine ACalls.intro Try.call162 Try.func162 rfl Try.ntmps162 Try.results162 (by simp) ?_
  have hp1 : (2 : Int) ^ min 1 IntKind.u64.bits = 2 := rfl
  unfold numP
  rcases hN : natP ((unB b).drop q) with e | ⟨u, c⟩
  · have hsh : Int.fdiv 0 2 = 0 := rfl
    have han : IntKind.u64.wrap ((BitVec.ofInt IntKind.u64.bits 0 &&& BitVec.ofInt IntKind.u64.bits 1).toNat : Int) = 0 := by decide
    have hw0 : IntKind.i64.wrap 0 = 0 := rfl
    have hw1 : IntKind.i64.wrap (0 - 0) = 0 := rfl
    have hxo : IntKind.i64.wrap ((BitVec.ofInt IntKind.i64.bits 0 ^^^ BitVec.ofInt IntKind.i64.bits 0).toNat : Int) = 0 := by decide
    refine AW.seq_k fun K1 h1 => ?_
    all_goals refine AW.reg0 ?_
    all_goals iterate 2 (refine S.g rfl rfl fun K' k' => ?_; simp only [zz, reduceIte, Nat.reduceEqDiff, Nat.reduceAdd]; refine k' _ _ ?_; clear k' K')
    all_goals refine S.nil ?_
    all_goals simp only [ze, reduceIte, Nat.reduceEqDiff, Nat.reduceLT, Nat.reduceLeDiff, Nat.reduceAdd, reduceCtorEq, Nat.reduceMul]
    all_goals apply_assumption
    refine AW.seq_k fun K2 h2 => ?_
    all_goals refine AW.reg0 ?_
    all_goals (refine S.g rfl rfl fun K' k' => ?_; simp only [zz, reduceIte, Nat.reduceEqDiff, Nat.reduceAdd, pw, Nat.reduceLT, Nat.reduceLeDiff]; refine k' _ _ ?_; clear k' K')
    all_goals (refine S.g rfl rfl fun K' k' => ?_; simp only [zz, reduceIte, Nat.reduceEqDiff, Nat.reduceLT, Nat.reduceLeDiff, Nat.reduceAdd, reduceCtorEq, Nat.reduceMul, pw, Nat.reduceLT, Nat.reduceLeDiff]; refine (sNat_spec g b q _ ho hb hb256 hq).to fun v σ2 hv => ?_; simp only [hN] at hv; obtain ⟨rfl, hσ⟩ := hv <;> (refine k' _ _ ?_; clear k' K'))
    all_goals iterate 5 (refine S.g rfl rfl fun K' k' => ?_; simp only [zz, reduceIte, Nat.reduceEqDiff, Nat.reduceLT, Nat.reduceLeDiff, Nat.reduceAdd, reduceCtorEq, Nat.reduceMul, pw, Nat.reduceLT, Nat.reduceLeDiff]; refine k' _ _ ?_; clear k' K')
    all_goals refine S.nil ?_
    all_goals simp only [ze, reduceIte, Nat.reduceEqDiff, Nat.reduceLT, Nat.reduceLeDiff, Nat.reduceAdd, reduceCtorEq, Nat.reduceMul, pw, Nat.reduceLT, Nat.reduceLeDiff]
    all_goals apply_assumption
    refine AW.seq_k fun K3 h3 => ?_
    all_goals refine AW.reg0 ?_
    all_goals iterate 11 (refine S.g rfl rfl fun K' k' => ?_; simp only [zz, reduceIte, Nat.reduceEqDiff, Nat.reduceAdd, cv54_2, Int.reduceLE, Int.reduceToNat, hp1, hsh, han, hw0, hw1, hxo]; refine k' _ _ ?_; clear k' K')
    all_goals refine S.nil ?_
    all_goals simp only [ze, reduceIte, Nat.reduceEqDiff, Nat.reduceLT, Nat.reduceLeDiff, Nat.reduceAdd, reduceCtorEq, Nat.reduceMul, Int.reduceLE, Int.reduceToNat, hp1, hsh, han, hw0, hw1, hxo]
    all_goals apply_assumption
    refine AW.ret ?_
    all_goals simp only [zs, reduceIte, Nat.reduceEqDiff, Nat.reduceLT, Nat.reduceLeDiff, Nat.reduceAdd, reduceCtorEq, Nat.reduceMul]
    exact ⟨by simp [wk, wk1], hσ⟩
  · obtain ⟨hu, _⟩ := natP_ok hN
    have hsh : Int.fdiv (u : Int) 2 = ((u / 2 : Nat) : Int) := (Int.ofNat_fdiv u 2).symm
    have han := and1 hu
    have hw0 : IntKind.i64.wrap ((u / 2 : Nat) : Int) = ((u / 2 : Nat) : Int) := wrapI _ (by omega) (by omega)
    have hw1 : IntKind.i64.wrap ((u % 2 : Nat) : Int) = ((u % 2 : Nat) : Int) := wrapI _ (by omega) (by omega)
    have hz := zag_bits u hu
    refine AW.seq_k fun K4 h4 => ?_
    all_goals refine AW.reg0 ?_
    all_goals iterate 2 (refine S.g rfl rfl fun K' k' => ?_; simp only [zz, reduceIte, Nat.reduceEqDiff, Nat.reduceAdd]; refine k' _ _ ?_; clear k' K')
    all_goals refine S.nil ?_
    all_goals simp only [ze, reduceIte, Nat.reduceEqDiff, Nat.reduceLT, Nat.reduceLeDiff, Nat.reduceAdd, reduceCtorEq, Nat.reduceMul]
    all_goals apply_assumption
    refine AW.seq_k fun K5 h5 => ?_
    all_goals refine AW.reg0 ?_
    all_goals (refine S.g rfl rfl fun K' k' => ?_; simp only [zz, reduceIte, Nat.reduceEqDiff, Nat.reduceAdd, pw, Nat.reduceLT, Nat.reduceLeDiff]; refine k' _ _ ?_; clear k' K')
    all_goals (refine S.g rfl rfl fun K' k' => ?_; simp only [zz, reduceIte, Nat.reduceEqDiff, Nat.reduceLT, Nat.reduceLeDiff, Nat.reduceAdd, reduceCtorEq, Nat.reduceMul, pw, Nat.reduceLT, Nat.reduceLeDiff]; refine (sNat_spec g b q _ ho hb hb256 hq).to fun v σ2 hv => ?_; simp only [hN] at hv; obtain ⟨rfl, hσ⟩ := hv <;> (refine k' _ _ ?_; clear k' K'))
    all_goals iterate 5 (refine S.g rfl rfl fun K' k' => ?_; simp only [zz, reduceIte, Nat.reduceEqDiff, Nat.reduceLT, Nat.reduceLeDiff, Nat.reduceAdd, reduceCtorEq, Nat.reduceMul, pw, Nat.reduceLT, Nat.reduceLeDiff]; refine k' _ _ ?_; clear k' K')
    all_goals refine S.nil ?_
    all_goals simp only [ze, reduceIte, Nat.reduceEqDiff, Nat.reduceLT, Nat.reduceLeDiff, Nat.reduceAdd, reduceCtorEq, Nat.reduceMul, pw, Nat.reduceLT, Nat.reduceLeDiff]
    all_goals apply_assumption
    refine AW.seq_k fun K6 h6 => ?_
    all_goals refine AW.reg0 ?_
    all_goals iterate 11 (refine S.g rfl rfl fun K' k' => ?_; simp only [zz, reduceIte, Nat.reduceEqDiff, Nat.reduceAdd, cv54_2, Int.reduceLE, Int.reduceToNat, hp1, hsh, han, hw0, hw1, hz]; refine k' _ _ ?_; clear k' K')
    all_goals refine S.nil ?_
    all_goals simp only [ze, reduceIte, Nat.reduceEqDiff, Nat.reduceLT, Nat.reduceLeDiff, Nat.reduceAdd, reduceCtorEq, Nat.reduceMul, Int.reduceLE, Int.reduceToNat, hp1, hsh, han, hw0, hw1, hz]
    all_goals apply_assumption
    refine AW.ret ?_
    all_goals simp only [zs, reduceIte, Nat.reduceEqDiff, Nat.reduceLT, Nat.reduceLeDiff, Nat.reduceAdd, reduceCtorEq, Nat.reduceMul]
    exact ⟨by simp [wk, wk1], hσ⟩
end Go.Abs.M
namespace Go.Abs.M
open Go Go.Abs Go.Proofs
set_option maxRecDepth 20000
set_option linter.unusedSimpArgs false
set_option linter.unusedVariables false
/-- The next text: its bytes and how many flags it has, or what is wrong. -/
def textP (l : List Bool) : Except Int (List Nat × Nat) := match natP l with
  | .error e => .error e
  | .ok (u, c) => if (l.length - c) / 8 < u then .error 10 else .ok ((List.range u).map fun i => valN ((l.drop (c + 8 * i)).take 8), c + 8 * u)
def strOf (l : List Nat) : ByteArray := ⟨(l.map UInt8.ofNat).toArray⟩
def fillP (f : Nat → Nat) (u i : Nat) : List Nat := (List.range u).map fun j => if j < i then f j else 0
theorem fillP_set (f : Nat → Nat) (u i : Nat) : (fillP f u i).set i (f i) = fillP f u (i + 1) := by
  unfold fillP
  refine List.ext_getElem (by simp) fun j h1 h2 => ?_
  simp only [List.getElem_set, List.getElem_map, List.getElem_range]
  by_cases h : i = j
  · subst h; simp
  · rw [if_neg h]
    by_cases hj : j < i
    · rw [if_pos hj, if_pos (by omega)]
    · rw [if_neg hj, if_neg (by omega)]
theorem fillP_len (f : Nat → Nat) (u i : Nat) : (fillP f u i).length = u := by simp [fillP]
theorem fillP_zero (f : Nat → Nat) (u : Nat) : fillP f u 0 = List.replicate u 0 := by
  unfold fillP
  refine List.ext_getElem (by simp) fun j h1 h2 => ?_
  simp
theorem fillP_all (f : Nat → Nat) (u : Nat) : fillP f u u = (List.range u).map f := by
  unfold fillP
  refine List.map_congr_left fun j hj => ?_
  rw [if_pos (List.mem_range.1 hj)]
theorem natP_err {l : List Bool} {e : Int} (h : natP l = .error e) : e ≠ 0 := by
  unfold natP at h
  simp only [] at h
  split at h
  · injection h with h; omega
  split at h
  · injection h with h; omega
  split at h
  · split at h
    · cases h
    · injection h with h; omega
  · cases h
theorem Fr.src {g q r : Nat} {b : List Nat} {σ : Hp} (ho : σ.obj g = some (srcC b q)) : Fr g σ (σ.setObj g (some (srcC b r))) :=
  ⟨fun x c hx hc => by simp [hx, hc], fun k x hk _ => ⟨by simp [hk], by simp [skN, srcC]⟩⟩
theorem sText_spec (g : Nat) (b : List Nat) (q : Nat) (σ : Hp) (ho : σ.obj g = some (srcC b q)) (hb : b.length < 140737488355329) (hb256 : ∀ x ∈ b, x < 256) (hq : q ≤ 8 * b.length) :
    ACalls Try.prog 123 [ptrV g] σ (fun v σ' => match textP ((unB b).drop q) with
      | .ok (t, c) => v = .tup [.c (.string (strOf t)), .c (.int .i64 0)] ∧ σ'.obj g = some (srcC b (q + c)) ∧ Fr g σ σ'
      | .error e => v = .tup [.c (.string ⟨#[]⟩), .c (.int .i64 e)] ∧ σ'.obj g = some (srcC b q) ∧ Fr g σ σ') := by
  refine ACalls.intro Try.call123 Try.func123 rfl Try.ntmps123 Try.results123 (by simp) ?_
  have ho' : σ.obj g = some [.c (.bool true), .sl (b.map encB), .c (.int .i64 (q : Nat))] := ho
  have hlen : ((unB b).drop q).length = 8 * b.length - q := by rw [List.length_drop, unB_len]
  refine AW.seq_k fun K1 h1 => ?_
  all_goals refine AW.reg0 ?_
  all_goals iterate 2 (refine S.g rfl rfl fun K' k' => ?_; simp only [zz, reduceIte, Nat.reduceEqDiff, Nat.reduceAdd]; refine k' _ _ ?_; clear k' K')
  all_goals refine S.nil ?_
  all_goals simp only [ze, reduceIte, Nat.reduceEqDiff, Nat.reduceLT, Nat.reduceLeDiff, Nat.reduceAdd, reduceCtorEq, Nat.reduceMul]
  all_goals apply_assumption
  refine AW.seq_k fun K2 h2 => ?_
  refine AW.seq_k fun K3 h3 => ?_
  all_goals refine AW.reg0 ?_
  all_goals (refine S.g rfl rfl fun K' k' => ?_; simp only [zz, reduceIte, Nat.reduceEqDiff, Nat.reduceAdd, ptrV, ho', map3, un4, un82, TypeDesc.pointer.injEq, Bool.not_true, List.getD_cons_succ, List.getD_cons_zero]; refine k' _ _ ?_; clear k' K')
  all_goals (refine S.g rfl rfl fun K' k' => ?_; simp only [zz, reduceIte, Nat.reduceEqDiff, Nat.reduceLT, Nat.reduceLeDiff, Nat.reduceAdd, reduceCtorEq, Nat.reduceMul, un82, ptrV, ho', map3, un4, un82, TypeDesc.pointer.injEq, Bool.not_true, List.getD_cons_succ, List.getD_cons_zero]; refine S.bool fun b a12 => ?_; cases b <;> (try (exfalso; first | exact Bool.noConfusion a12 | (have h := of_decide_eq_true a12; omega) | (have h := of_decide_eq_false a12; omega))) <;> (refine k' _ _ ?_; clear k' K'))
  all_goals (refine S.g rfl rfl fun K' k' => ?_; simp only [zz, reduceIte, Nat.reduceEqDiff, Nat.reduceAdd, ptrV, ho', map3, un4, un82, TypeDesc.pointer.injEq, Bool.not_true, List.getD_cons_succ, List.getD_cons_zero]; refine k' _ _ ?_; clear k' K')
  all_goals iterate 5 (first | (refine S.y rfl rfl rfl rfl fun K' k' => ?_; simp only [zz, reduceIte, Nat.reduceEqDiff, Nat.reduceLT, Nat.reduceLeDiff, Nat.reduceAdd, reduceCtorEq, Nat.reduceMul, of129_0, ok4, sz4, ag4, ptrV, ho', map3, un4, un82, TypeDesc.pointer.injEq, Bool.not_true, List.getD_cons_succ, List.getD_cons_zero]; refine k' _ _ ?_; clear k' K') | ((first | refine S.x rfl rfl rfl rfl fun K' k' => ?_ | refine S.u rfl rfl rfl rfl fun K' k' => ?_); simp only [ze, reduceIte, Nat.reduceEqDiff]; refine k' _ _ ?_; clear k' K'))
  all_goals (refine S.g rfl rfl fun K' k' => ?_; simp only [zz, reduceIte, Nat.reduceEqDiff, Nat.reduceAdd, ptrV, ho', map3, un4, un82, TypeDesc.pointer.injEq, Bool.not_true, List.getD_cons_succ, List.getD_cons_zero]; refine k' _ _ ?_; clear k' K')
  all_goals refine S.nil ?_
  all_goals simp only [ze, reduceIte, Nat.reduceEqDiff, Nat.reduceLT, Nat.reduceLeDiff, Nat.reduceAdd, reduceCtorEq, Nat.reduceMul, ptrV, ho', map3, un4, un82, TypeDesc.pointer.injEq, Bool.not_true, List.getD_cons_succ, List.getD_cons_zero]
  all_goals apply_assumption
  refine AW.cond (b := false) (by simp [ev]) (fun hc => by cases hc) (fun hc => ?_)
  refine AW.skip ?_
  all_goals simp only [zs, reduceIte, Nat.reduceEqDiff, Nat.reduceLT, Nat.reduceLeDiff, Nat.reduceAdd, reduceCtorEq, Nat.reduceMul]
  all_goals apply_assumption
  refine AW.seq_k fun K4 h4 => ?_
  all_goals refine AW.reg0 ?_
  all_goals iterate 5 (refine S.g rfl rfl fun K' k' => ?_; simp only [zz, reduceIte, Nat.reduceEqDiff, Nat.reduceLT, Nat.reduceLeDiff, Nat.reduceAdd, reduceCtorEq, Nat.reduceMul, of129_2, ok3, sz3, ag3, ho', map3, List.getD_cons_succ, List.getD_cons_zero]; refine k' _ _ ?_; clear k' K')
  all_goals refine S.nil ?_
  all_goals simp only [ze, reduceIte, Nat.reduceEqDiff, Nat.reduceLT, Nat.reduceLeDiff, Nat.reduceAdd, reduceCtorEq, Nat.reduceMul, ho', map3, List.getD_cons_succ, List.getD_cons_zero]
  all_goals apply_assumption
  unfold textP
  rcases hN : natP ((unB b).drop q) with e | ⟨u, c⟩
  · refine AW.seq_k fun K5 h5 => ?_
    all_goals refine AW.reg0 ?_
    all_goals (refine S.g rfl rfl fun K' k' => ?_; simp only [zz, reduceIte, Nat.reduceEqDiff, Nat.reduceAdd, Nat.reduceLT, Nat.reduceLeDiff]; refine k' _ _ ?_; clear k' K')
    all_goals (refine S.g rfl rfl fun K' k' => ?_; simp only [zz, reduceIte, Nat.reduceEqDiff, Nat.reduceLT, Nat.reduceLeDiff, Nat.reduceAdd, reduceCtorEq, Nat.reduceMul, Nat.reduceLT, Nat.reduceLeDiff]; refine (sNat_spec g b q _ ho hb hb256 hq).to fun v σ2 hv => ?_; simp only [hN] at hv; obtain ⟨rfl, hσ⟩ := hv <;> (refine k' _ _ ?_; clear k' K'))
    all_goals iterate 5 (refine S.g rfl rfl fun K' k' => ?_; simp only [zz, reduceIte, Nat.reduceEqDiff, Nat.reduceLT, Nat.reduceLeDiff, Nat.reduceAdd, reduceCtorEq, Nat.reduceMul, Nat.reduceLT, Nat.reduceLeDiff]; refine k' _ _ ?_; clear k' K')
    all_goals refine S.nil ?_
    all_goals simp only [ze, reduceIte, Nat.reduceEqDiff, Nat.reduceLT, Nat.reduceLeDiff, Nat.reduceAdd, reduceCtorEq, Nat.reduceMul, Nat.reduceLT, Nat.reduceLeDiff]
    all_goals apply_assumption
    have he := natP_err hN
    subst hσ
    refine AW.seq_k fun K6 h6 => ?_
    refine AW.seq_k fun K7 h7 => ?_
    all_goals refine AW.reg0 ?_
    all_goals iterate 2 (refine S.g rfl rfl fun K' k' => ?_; simp only [zz, reduceIte, Nat.reduceEqDiff, Nat.reduceAdd]; refine k' _ _ ?_; clear k' K')
    all_goals refine S.nil ?_
    all_goals simp only [ze, reduceIte, Nat.reduceEqDiff, Nat.reduceLT, Nat.reduceLeDiff, Nat.reduceAdd, reduceCtorEq, Nat.reduceMul]
    all_goals apply_assumption
    refine AW.cond (b := decide (e ≠ 0)) (by simp [ev]; try rfl) (fun hc => ?_) (fun hc => absurd he (by simpa using of_decide_eq_false hc))
    refine AW.seq_k fun K8 h8 => ?_
    all_goals refine AW.reg0 ?_
    all_goals iterate 3 (refine S.g rfl rfl fun K' k' => ?_; simp only [zz, reduceIte, Nat.reduceEqDiff, Nat.reduceAdd]; refine k' _ _ ?_; clear k' K')
    all_goals refine S.nil ?_
    all_goals simp only [ze, reduceIte, Nat.reduceEqDiff, Nat.reduceLT, Nat.reduceLeDiff, Nat.reduceAdd, reduceCtorEq, Nat.reduceMul]
    all_goals apply_assumption
    refine AW.ret ?_
    all_goals simp only [zs, reduceIte, Nat.reduceEqDiff, Nat.reduceLT, Nat.reduceLeDiff, Nat.reduceAdd, reduceCtorEq, Nat.reduceMul]
    exact ⟨by simp [wk, wk1], ho, Fr.refl _ _⟩
  · obtain ⟨hu, hcl⟩ := natP_ok hN
    rw [hlen] at hcl
    refine AW.seq_k fun K9 h9 => ?_
    all_goals refine AW.reg0 ?_
    all_goals (refine S.g rfl rfl fun K' k' => ?_; simp only [zz, reduceIte, Nat.reduceEqDiff, Nat.reduceAdd, Nat.reduceLT, Nat.reduceLeDiff]; refine k' _ _ ?_; clear k' K')
    all_goals (refine S.g rfl rfl fun K' k' => ?_; simp only [zz, reduceIte, Nat.reduceEqDiff, Nat.reduceLT, Nat.reduceLeDiff, Nat.reduceAdd, reduceCtorEq, Nat.reduceMul, Nat.reduceLT, Nat.reduceLeDiff]; refine (sNat_spec g b q _ ho hb hb256 hq).to fun v σ2 hv => ?_; simp only [hN] at hv; obtain ⟨rfl, hσ⟩ := hv <;> (refine k' _ _ ?_; clear k' K'))
    all_goals iterate 5 (refine S.g rfl rfl fun K' k' => ?_; simp only [zz, reduceIte, Nat.reduceEqDiff, Nat.reduceLT, Nat.reduceLeDiff, Nat.reduceAdd, reduceCtorEq, Nat.reduceMul, Nat.reduceLT, Nat.reduceLeDiff]; refine k' _ _ ?_; clear k' K')
    all_goals refine S.nil ?_
    all_goals simp only [ze, reduceIte, Nat.reduceEqDiff, Nat.reduceLT, Nat.reduceLeDiff, Nat.reduceAdd, reduceCtorEq, Nat.reduceMul, Nat.reduceLT, Nat.reduceLeDiff]
    all_goals apply_assumption
    have ho2 : σ2.obj g = some (srcC b (q + c)) := by rw [hσ]; simp
    have hfr : Fr g σ σ2 := by rw [hσ]; exact Fr.src ho
    have hq8 : ((8 * b.length - (q + c) : Nat) : Int).tdiv 8 = (((8 * b.length - (q + c)) / 8 : Nat) : Int) := rfl
    have hwq : IntKind.i64.wrap (((8 * b.length - (q + c)) / 8 : Nat) : Int) = (((8 * b.length - (q + c)) / 8 : Nat) : Int) := wrap_small _ (by omega) (by omega)
    have hwu : IntKind.u64.wrap (((8 * b.length - (q + c)) / 8 : Nat) : Int) = (((8 * b.length - (q + c)) / 8 : Nat) : Int) := wrap_u64 (by omega)
    refine AW.seq_k fun K10 h10 => ?_
    refine AW.seq_k fun K11 h11 => ?_
    all_goals refine AW.reg0 ?_
    all_goals iterate 2 (refine S.g rfl rfl fun K' k' => ?_; simp only [zz, reduceIte, Nat.reduceEqDiff, Nat.reduceAdd]; refine k' _ _ ?_; clear k' K')
    all_goals refine S.nil ?_
    all_goals simp only [ze, reduceIte, Nat.reduceEqDiff, Nat.reduceLT, Nat.reduceLeDiff, Nat.reduceAdd, reduceCtorEq, Nat.reduceMul]
    all_goals apply_assumption
    refine AW.cond (b := false) (by simp [ev]) (fun hc => by cases hc) (fun hc => ?_)
    refine AW.skip ?_
    all_goals simp only [zs, reduceIte, Nat.reduceEqDiff, Nat.reduceLT, Nat.reduceLeDiff, Nat.reduceAdd, reduceCtorEq, Nat.reduceMul]
    all_goals apply_assumption
    refine AW.seq_k fun K12 h12 => ?_
    refine AW.seq_k fun K13 h13 => ?_
    all_goals refine AW.reg0 ?_
    all_goals iterate 2 (refine S.g rfl rfl fun K' k' => ?_; simp only [zz, reduceIte, Nat.reduceEqDiff, Nat.reduceAdd, Int.reduceEq, hq8, hwq, hwu, gt_iff_lt]; refine k' _ _ ?_; clear k' K')
    all_goals (refine S.g rfl rfl fun K' k' => ?_; simp only [zz, reduceIte, Nat.reduceEqDiff, Nat.reduceLT, Nat.reduceLeDiff, Nat.reduceAdd, reduceCtorEq, Nat.reduceMul, Int.reduceEq, hq8, hwq, hwu, gt_iff_lt]; refine (left_spec g b (q + c) _ ho2 hb (by omega)).to fun v σ3 hv => ?_; obtain ⟨rfl, hσ3⟩ := hv; subst hσ3 <;> (refine k' _ _ ?_; clear k' K'))
    all_goals iterate 3 (refine S.g rfl rfl fun K' k' => ?_; simp only [zz, reduceIte, Nat.reduceEqDiff, Nat.reduceAdd, cv3_54, Int.reduceEq, hq8, hwq, hwu, gt_iff_lt]; refine k' _ _ ?_; clear k' K')
    all_goals refine S.nil ?_
    all_goals simp only [ze, reduceIte, Nat.reduceEqDiff, Nat.reduceLT, Nat.reduceLeDiff, Nat.reduceAdd, reduceCtorEq, Nat.reduceMul, Int.reduceEq, hq8, hwq, hwu, gt_iff_lt]
    all_goals apply_assumption
    refine AW.cond (b := decide ((8 * b.length - (q + c)) / 8 < u)) (by simp [ev]) (fun hd => ?_) (fun hd => ?_)
    · have hd := of_decide_eq_true hd
      refine AW.seq_k fun K14 h14 => ?_
      all_goals refine AW.reg0 ?_
      all_goals iterate 2 (refine S.g rfl rfl fun K' k' => ?_; simp only [zz, reduceIte, Nat.reduceEqDiff, Nat.reduceAdd]; refine k' _ _ ?_; clear k' K')
      all_goals (refine S.g rfl rfl fun K' k' => ?_; simp only [zz, reduceIte, Nat.reduceEqDiff, Nat.reduceLT, Nat.reduceLeDiff, Nat.reduceAdd, reduceCtorEq, Nat.reduceMul]; refine (back_spec g b (q + c) q 10 _ ho2).to fun v σ4 hv => ?_; obtain ⟨rfl, hσ4⟩ := hv; rw [if_neg (by decide)] at hσ4 <;> (refine k' _ _ ?_; clear k' K'))
      all_goals iterate 2 (refine S.g rfl rfl fun K' k' => ?_; simp only [zz, reduceIte, Nat.reduceEqDiff, Nat.reduceAdd]; refine k' _ _ ?_; clear k' K')
      all_goals refine S.nil ?_
      all_goals simp only [ze, reduceIte, Nat.reduceEqDiff, Nat.reduceLT, Nat.reduceLeDiff, Nat.reduceAdd, reduceCtorEq, Nat.reduceMul]
      all_goals apply_assumption
      refine AW.ret ?_
      all_goals simp only [zs, reduceIte, Nat.reduceEqDiff, Nat.reduceLT, Nat.reduceLeDiff, Nat.reduceAdd, reduceCtorEq, Nat.reduceMul]
      rw [if_pos (by rw [hlen]; omega)]
      refine ⟨by simp [wk, wk1], by rw [hσ4]; simp, hfr.trans (by rw [hσ4]; exact Fr.src ho2)⟩
    have hd := of_decide_eq_false hd
    refine AW.skip ?_
    all_goals simp only [zs, reduceIte, Nat.reduceEqDiff, Nat.reduceLT, Nat.reduceLeDiff, Nat.reduceAdd, reduceCtorEq, Nat.reduceMul]
    all_goals apply_assumption
    refine AW.seq_k fun K15 h15 => ?_
    all_goals refine AW.reg0 ?_
    all_goals (refine S.g rfl rfl fun K' k' => ?_; simp only [zz, reduceIte, Nat.reduceEqDiff, Nat.reduceAdd]; refine k' _ _ ?_; clear k' K')
    all_goals (refine S.g rfl rfl fun K' k' => ?_; simp only [zz, reduceIte, Nat.reduceEqDiff, Nat.reduceLT, Nat.reduceLeDiff, Nat.reduceAdd, reduceCtorEq, Nat.reduceMul, sl48, el48, ok5, sz5, ag5, zt5, by5]; refine ⟨by omega, by omega, fun k hk => ?_⟩ <;> (refine k' _ _ ?_; clear k' K'))
    all_goals (refine S.g rfl rfl fun K' k' => ?_; simp only [zz, reduceIte, Nat.reduceEqDiff, Nat.reduceAdd]; refine k' _ _ ?_; clear k' K')
    all_goals refine S.nil ?_
    all_goals simp only [ze, reduceIte, Nat.reduceEqDiff, Nat.reduceLT, Nat.reduceLeDiff, Nat.reduceAdd, reduceCtorEq, Nat.reduceMul]
    all_goals apply_assumption
    have hfe : ∀ i, valN ((((unB b).drop q).drop (c + 8 * i)).take 8) = bitsV b (q + c + 8 * i) 8 := fun i => by rw [← bitsV_at, show q + (c + 8 * i) = q + c + 8 * i by omega]
    simp only [hfe]
    rw [if_neg (by rw [hlen]; omega)]
    refine AW.seq_k fun K16 h16 => ?_
    refine AW.seq_k fun K17 h17 => ?_
    all_goals refine AW.reg0 ?_
    all_goals iterate 3 (refine S.g rfl rfl fun K' k' => ?_; simp only [zz, reduceIte, Nat.reduceEqDiff, Nat.reduceLT, Nat.reduceLeDiff, Nat.reduceAdd, reduceCtorEq, Nat.reduceMul, sl48, el48, ok5, sz5, ag5, Hp.setGr_gr, List.length_replicate]; refine k' _ _ ?_; clear k' K')
    all_goals refine S.nil ?_
    all_goals simp only [ze, reduceIte, Nat.reduceEqDiff, Nat.reduceLT, Nat.reduceLeDiff, Nat.reduceAdd, reduceCtorEq, Nat.reduceMul, Hp.setGr_gr, List.length_replicate]
    all_goals apply_assumption
    refine AW.block ?_   -- 0
    refine AW.loop (fun m s σ' => ∃ i, m = u - i ∧ i ≤ u ∧ s.t 0 = ptrV g ∧ s.t 7 = .gl k ∧ s.t 44 = .c (.int .i64 u) ∧ s.t 45 = .c (.int .i64 (i : Nat)) ∧
      σ' = (σ3.setObj g (some (srcC b (q + c + 8 * i)))).setGr k (some ((5, 1), (fillP (fun i => bitsV b (q + c + 8 * i) 8) u i).map encB))) u ?_ ?_
    · refine ⟨0, rfl, Nat.zero_le _, ?_⟩
      all_goals simp only [zs, reduceIte, Nat.reduceEqDiff, Nat.reduceLT, Nat.reduceLeDiff, Nat.reduceAdd, reduceCtorEq, Nat.reduceMul]
      refine ⟨rfl, rfl, ?_⟩
      rw [fillP_zero]
      have h0 : σ3.setObj g (some (srcC b (q + c))) = σ3 := setObj_id ho2
      rw [h0]
      simp [encB]
    rintro m s σ' ⟨i, hm, hi, e0, e7, e44, e45, rfl⟩
    refine AW.seq_k fun K18 h18 => ?_
    all_goals refine AW.reg0 ?_
    all_goals (refine S.g rfl rfl fun K' k' => ?_; simp only [zz, reduceIte, Nat.reduceEqDiff, Nat.reduceAdd, e44, e45]; refine k' _ _ ?_; clear k' K')
    all_goals refine S.nil ?_
    all_goals simp only [ze, reduceIte, Nat.reduceEqDiff, Nat.reduceLT, Nat.reduceLeDiff, Nat.reduceAdd, reduceCtorEq, Nat.reduceMul, e44, e45]
    all_goals apply_assumption
    refine AW.seq_k fun K19 h19 => ?_
    refine AW.cond (b := decide (i < u)) (by simp [ev]) (fun hc => ?_) (fun hc => ?_)
    · refine AW.skip ?_
      all_goals simp only [zs, reduceIte, Nat.reduceEqDiff, Nat.reduceLT, Nat.reduceLeDiff, Nat.reduceAdd, reduceCtorEq, Nat.reduceMul]
      all_goals apply_assumption
      have hin := of_decide_eq_true hc
      have hs4 : ((σ3.setObj g (some (srcC b (q + c + 8 * i)))).setGr k (some ((5, 1), (fillP (fun i => bitsV b (q + c + 8 * i) 8) u i).map encB))).obj g = some (srcC b (q + c + 8 * i)) := by simp
      have hwi : IntKind.i64.wrap ((i : Int) + 1) = ((i + 1 : Nat) : Int) := by rw [wrap_small _ (by omega) (by omega)]; rfl
      have hv8 : bitsV b (q + c + 8 * i) 8 < 256 := bitsV_lt b (q + c + 8 * i) 8
      have hw8 := wrap_u8 hv8
      have hset := fillP_set (fun i => bitsV b (q + c + 8 * i) 8) u i
      have hfl := fillP_len (fun i => bitsV b (q + c + 8 * i) 8) u i
      refine AW.seq_k fun K20 h20 => ?_
      refine AW.block ?_   -- 1
      refine AW.seq_k fun K21 h21 => ?_
      all_goals refine AW.reg0 ?_
      all_goals iterate 2 (refine S.g rfl rfl fun K' k' => ?_; simp only [zz, reduceIte, Nat.reduceEqDiff, Nat.reduceAdd, e45]; refine k' _ _ ?_; clear k' K')
      all_goals refine S.nil ?_
      all_goals simp only [ze, reduceIte, Nat.reduceEqDiff, Nat.reduceLT, Nat.reduceLeDiff, Nat.reduceAdd, reduceCtorEq, Nat.reduceMul, e45]
      all_goals apply_assumption
      refine AW.seq_k fun K22 h22 => ?_
      all_goals refine AW.reg0 ?_
      all_goals (refine S.g rfl rfl fun K' k' => ?_; simp only [zz, reduceIte, Nat.reduceEqDiff, Nat.reduceAdd, e0, pw, Nat.reduceLT, Nat.reduceLeDiff]; refine k' _ _ ?_; clear k' K')
      all_goals (refine S.g rfl rfl fun K' k' => ?_; simp only [zz, reduceIte, Nat.reduceEqDiff, Nat.reduceLT, Nat.reduceLeDiff, Nat.reduceAdd, reduceCtorEq, Nat.reduceMul, e0, pw, Nat.reduceLT, Nat.reduceLeDiff]; refine (sBits_spec g b (q + c + 8 * i) 8 _ hs4 hb hb256 (by omega) (by omega)).to fun v σ5 hv => ?_; rw [if_pos (by omega)] at hv; obtain ⟨rfl, hσ5⟩ := hv <;> (refine k' _ _ ?_; clear k' K'))
      all_goals iterate 5 (refine S.g rfl rfl fun K' k' => ?_; simp only [zz, reduceIte, Nat.reduceEqDiff, Nat.reduceLT, Nat.reduceLeDiff, Nat.reduceAdd, reduceCtorEq, Nat.reduceMul, e0, pw, Nat.reduceLT, Nat.reduceLeDiff]; refine k' _ _ ?_; clear k' K')
      all_goals refine S.nil ?_
      all_goals simp only [ze, reduceIte, Nat.reduceEqDiff, Nat.reduceLT, Nat.reduceLeDiff, Nat.reduceAdd, reduceCtorEq, Nat.reduceMul, e0, pw, Nat.reduceLT, Nat.reduceLeDiff]
      all_goals apply_assumption
      have hgk : σ5.gr k = some ((5, 1), (fillP (fun i => bitsV b (q + c + 8 * i) 8) u i).map encB) := by rw [hσ5]; simp
      have hel : ((fillP (fun i => bitsV b (q + c + 8 * i) 8) u i).map encB).getD i [] = encB 0 := encB_at (by simp [fillP, hin])
      have hend : ∀ X, σ5.setGr k X = (σ3.setObj g (some (srcC b (q + c + 8 * (i + 1))))).setGr k X := fun X => by
        rw [hσ5, show q + c + 8 * (i + 1) = q + c + 8 * i + 8 by omega]
        simp only [Hp.setGr, Hp.setObj, Hp.mk.injEq]
        refine ⟨?_, ?_⟩ <;> funext x
        · by_cases hx : x = g
          · simp only [hx, if_true]
          · simp only [hx, if_false]
        · by_cases hy : x = k
          · simp only [hy, if_true]
          · simp only [hy, if_false]
      all_goals refine AW.reg0 ?_
      all_goals iterate 6 (refine S.g rfl rfl fun K' k' => ?_; simp only [zz, reduceIte, Nat.reduceEqDiff, Nat.reduceLT, Nat.reduceLeDiff, Nat.reduceAdd, reduceCtorEq, Nat.reduceMul, cv54_5, sl48, el48, ok5, sz5, ag5, e7, hgk, hfl, hin, hel, hw8, encB, List.length_singleton]; refine k' _ _ ?_; clear k' K')
      all_goals refine S.nil ?_
      all_goals simp only [ze, reduceIte, Nat.reduceEqDiff, Nat.reduceLT, Nat.reduceLeDiff, Nat.reduceAdd, reduceCtorEq, Nat.reduceMul, e7, hgk, hfl, hin, hel, hw8, encB, List.length_singleton]
      all_goals apply_assumption
      all_goals refine AW.reg0 ?_
      all_goals iterate 2 (refine S.g rfl rfl fun K' k' => ?_; simp only [zz, reduceIte, Nat.reduceEqDiff, Nat.reduceAdd, e0, e7, e44, e45, hwi, pw]; refine k' _ _ ?_; clear k' K')
      all_goals refine S.nil ?_
      all_goals simp only [ze, reduceIte, Nat.reduceEqDiff, Nat.reduceLT, Nat.reduceLeDiff, Nat.reduceAdd, reduceCtorEq, Nat.reduceMul, e0, e7, e44, e45, hwi, pw]
      refine ⟨u - (i + 1), by omega, i + 1, rfl, by omega, rfl, ?_⟩
      rw [hend, ← hset]; simp [List.map_set, encB]
    · refine AW.exit ?_
      all_goals simp only [zs, reduceIte, Nat.reduceEqDiff, Nat.reduceLT, Nat.reduceLeDiff, Nat.reduceAdd, reduceCtorEq, Nat.reduceMul]
      all_goals apply_assumption
      have hin := of_decide_eq_false hc
      have hi2 : i = u := by omega
      subst hi2
      rw [fillP_all]
      have hall : ∀ x ∈ (List.range i).map (fun i => bitsV b (q + c + 8 * i) 8), x < 256 := fun x hx => by
        obtain ⟨j, _, rfl⟩ := List.mem_map.1 hx
        exact bitsV_lt b (q + c + 8 * j) 8
      refine AW.seq_k fun K23 h23 => ?_
      all_goals refine AW.reg0 ?_
      all_goals (refine S.g rfl rfl fun K' k' => ?_; simp only [zz, reduceIte, Nat.reduceEqDiff, Nat.reduceAdd, e7, Hp.setGr_gr]; refine k' _ _ ?_; clear k' K')
      all_goals (refine S.g rfl rfl fun K' k' => ?_; simp only [zz, reduceIte, Nat.reduceEqDiff, Nat.reduceLT, Nat.reduceLeDiff, Nat.reduceAdd, reduceCtorEq, Nat.reduceMul, cv48_9, e7, Hp.setGr_gr]; refine ⟨_, encB_u8 hall, ?_⟩ <;> (refine k' _ _ ?_; clear k' K'))
      all_goals iterate 2 (refine S.g rfl rfl fun K' k' => ?_; simp only [zz, reduceIte, Nat.reduceEqDiff, Nat.reduceAdd, e7, Hp.setGr_gr]; refine k' _ _ ?_; clear k' K')
      all_goals refine S.nil ?_
      all_goals simp only [ze, reduceIte, Nat.reduceEqDiff, Nat.reduceLT, Nat.reduceLeDiff, Nat.reduceAdd, reduceCtorEq, Nat.reduceMul, e7, Hp.setGr_gr]
      all_goals apply_assumption
      refine AW.ret ?_
      all_goals simp only [zs, reduceIte, Nat.reduceEqDiff, Nat.reduceLT, Nat.reduceLeDiff, Nat.reduceAdd, reduceCtorEq, Nat.reduceMul]
      refine ⟨?_, ?_, ?_⟩
      · simp only [wk, wk1, List.map]; rfl
      · simp [Nat.add_assoc]
      · refine hfr.trans ⟨fun x d hx hd => by simp [hx, hd], fun j x hj hn => ?_⟩
        have hjk : j ≠ k := fun e => by rw [e, hk] at hj; cases hj
        exact ⟨by simp [hjk, hj], by simp [skN, srcC]⟩
end Go.Abs.M
namespace Go.Abs.M
open Go Go.Abs Go.Proofs
set_option maxRecDepth 20000
set_option linter.unusedSimpArgs false
set_option linter.unusedVariables false
/-- What is wrong at the end. -/
def endP (l : List Bool) : Int := if 8 ≤ l.length then 12 else if true ∈ l then 12 else 0
theorem sEnd_spec (g : Nat) (b : List Nat) (q : Nat) (σ : Hp) (ho : σ.obj g = some (srcC b q)) (hb : b.length < 140737488355329) (hb256 : ∀ x ∈ b, x < 256) (hq : q ≤ 8 * b.length) :
    ACalls Try.prog 98 [ptrV g] σ (fun v σ' => v = .c (.int .i64 (endP ((unB b).drop q))) ∧ σ' = σ) := by
  refine ACalls.intro Try.call98 Try.func98 rfl Try.ntmps98 Try.results98 (by simp) ?_
  have ho' : σ.obj g = some [.c (.bool true), .sl (b.map encB), .c (.int .i64 (q : Nat))] := ho
  have hlen : ((unB b).drop q).length = 8 * b.length - q := by rw [List.length_drop, unB_len]
  have hw8 : IntKind.i64.wrap (8 * (b.length : Int)) = ((8 * b.length : Nat) : Int) := by rw [wrap_small _ (by omega) (by omega)]; simp
  refine AW.seq_k fun K1 h1 => ?_
  all_goals refine AW.reg0 ?_
  all_goals (refine S.g rfl rfl fun K' k' => ?_; simp only [zz, reduceIte, Nat.reduceEqDiff, Nat.reduceAdd]; refine k' _ _ ?_; clear k' K')
  all_goals refine S.nil ?_
  all_goals simp only [ze, reduceIte, Nat.reduceEqDiff, Nat.reduceLT, Nat.reduceLeDiff, Nat.reduceAdd, reduceCtorEq, Nat.reduceMul]
  all_goals apply_assumption
  refine AW.seq_k fun K2 h2 => ?_
  refine AW.seq_k fun K3 h3 => ?_
  all_goals refine AW.reg0 ?_
  all_goals (refine S.g rfl rfl fun K' k' => ?_; simp only [zz, reduceIte, Nat.reduceEqDiff, Nat.reduceAdd, ptrV, ho', map3, un4, un82, TypeDesc.pointer.injEq, Bool.not_true, List.getD_cons_succ, List.getD_cons_zero]; refine k' _ _ ?_; clear k' K')
  all_goals (refine S.g rfl rfl fun K' k' => ?_; simp only [zz, reduceIte, Nat.reduceEqDiff, Nat.reduceLT, Nat.reduceLeDiff, Nat.reduceAdd, reduceCtorEq, Nat.reduceMul, un82, ptrV, ho', map3, un4, un82, TypeDesc.pointer.injEq, Bool.not_true, List.getD_cons_succ, List.getD_cons_zero]; refine S.bool fun b a5 => ?_; cases b <;> (try (exfalso; first | exact Bool.noConfusion a5 | (have h := of_decide_eq_true a5; omega) | (have h := of_decide_eq_false a5; omega))) <;> (refine k' _ _ ?_; clear k' K'))
  all_goals (refine S.g rfl rfl fun K' k' => ?_; simp only [zz, reduceIte, Nat.reduceEqDiff, Nat.reduceAdd, ptrV, ho', map3, un4, un82, TypeDesc.pointer.injEq, Bool.not_true, List.getD_cons_succ, List.getD_cons_zero]; refine k' _ _ ?_; clear k' K')
  all_goals iterate 5 (first | (refine S.y rfl rfl rfl rfl fun K' k' => ?_; simp only [zz, reduceIte, Nat.reduceEqDiff, Nat.reduceLT, Nat.reduceLeDiff, Nat.reduceAdd, reduceCtorEq, Nat.reduceMul, of129_0, ok4, sz4, ag4, ptrV, ho', map3, un4, un82, TypeDesc.pointer.injEq, Bool.not_true, List.getD_cons_succ, List.getD_cons_zero]; refine k' _ _ ?_; clear k' K') | ((first | refine S.x rfl rfl rfl rfl fun K' k' => ?_ | refine S.u rfl rfl rfl rfl fun K' k' => ?_); simp only [ze, reduceIte, Nat.reduceEqDiff]; refine k' _ _ ?_; clear k' K'))
  all_goals (refine S.g rfl rfl fun K' k' => ?_; simp only [zz, reduceIte, Nat.reduceEqDiff, Nat.reduceAdd, ptrV, ho', map3, un4, un82, TypeDesc.pointer.injEq, Bool.not_true, List.getD_cons_succ, List.getD_cons_zero]; refine k' _ _ ?_; clear k' K')
  all_goals refine S.nil ?_
  all_goals simp only [ze, reduceIte, Nat.reduceEqDiff, Nat.reduceLT, Nat.reduceLeDiff, Nat.reduceAdd, reduceCtorEq, Nat.reduceMul, ptrV, ho', map3, un4, un82, TypeDesc.pointer.injEq, Bool.not_true, List.getD_cons_succ, List.getD_cons_zero]
  all_goals apply_assumption
  refine AW.cond (b := false) (by simp [ev]) (fun hc => by cases hc) (fun hc => ?_)
  refine AW.skip ?_
  all_goals simp only [zs, reduceIte, Nat.reduceEqDiff, Nat.reduceLT, Nat.reduceLeDiff, Nat.reduceAdd, reduceCtorEq, Nat.reduceMul]
  all_goals apply_assumption
  refine AW.seq_k fun K4 h4 => ?_
  refine AW.seq_k fun K5 h5 => ?_
  all_goals refine AW.reg0 ?_
  all_goals (refine S.g rfl rfl fun K' k' => ?_; simp only [zz, reduceIte, Nat.reduceEqDiff, Nat.reduceAdd, ge_iff_le]; refine k' _ _ ?_; clear k' K')
  all_goals (refine S.g rfl rfl fun K' k' => ?_; simp only [zz, reduceIte, Nat.reduceEqDiff, Nat.reduceLT, Nat.reduceLeDiff, Nat.reduceAdd, reduceCtorEq, Nat.reduceMul, ge_iff_le]; refine (left_spec g b q _ ho hb hq).to fun v σ1 hv => ?_; obtain ⟨rfl, hσ⟩ := hv; subst hσ <;> (refine k' _ _ ?_; clear k' K'))
  all_goals (refine S.g rfl rfl fun K' k' => ?_; simp only [zz, reduceIte, Nat.reduceEqDiff, Nat.reduceAdd, ge_iff_le]; refine k' _ _ ?_; clear k' K')
  all_goals refine S.nil ?_
  all_goals simp only [ze, reduceIte, Nat.reduceEqDiff, Nat.reduceLT, Nat.reduceLeDiff, Nat.reduceAdd, reduceCtorEq, Nat.reduceMul, ge_iff_le]
  all_goals apply_assumption
  refine AW.cond (b := decide (8 ≤ 8 * b.length - q)) (by simp [ev]; try omega) (fun hc => ?_) (fun hc => ?_)
  · have hc := of_decide_eq_true hc
    refine AW.seq_k fun K6 h6 => ?_
    all_goals refine AW.reg0 ?_
    all_goals (refine S.g rfl rfl fun K' k' => ?_; simp only [zz, reduceIte, Nat.reduceEqDiff, Nat.reduceAdd]; refine k' _ _ ?_; clear k' K')
    all_goals refine S.nil ?_
    all_goals simp only [ze, reduceIte, Nat.reduceEqDiff, Nat.reduceLT, Nat.reduceLeDiff, Nat.reduceAdd, reduceCtorEq, Nat.reduceMul]
    all_goals apply_assumption
    refine AW.ret ?_
    all_goals simp only [zs, reduceIte, Nat.reduceEqDiff, Nat.reduceLT, Nat.reduceLeDiff, Nat.reduceAdd, reduceCtorEq, Nat.reduceMul]
    rw [endP, if_pos (by rw [hlen]; exact hc)]
  have hc := of_decide_eq_false hc
  refine AW.skip ?_
  all_goals simp only [zs, reduceIte, Nat.reduceEqDiff, Nat.reduceLT, Nat.reduceLeDiff, Nat.reduceAdd, reduceCtorEq, Nat.reduceMul]
  all_goals apply_assumption
  refine AW.seq_k fun K7 h7 => ?_
  refine AW.seq_k fun K8 h8 => ?_
  all_goals refine AW.reg0 ?_
  all_goals iterate 5 (refine S.g rfl rfl fun K' k' => ?_; simp only [zz, reduceIte, Nat.reduceEqDiff, Nat.reduceLT, Nat.reduceLeDiff, Nat.reduceAdd, reduceCtorEq, Nat.reduceMul, of129_2, ok3, sz3, ag3, ho', map3, List.getD_cons_succ, List.getD_cons_zero]; refine k' _ _ ?_; clear k' K')
  all_goals refine S.nil ?_
  all_goals simp only [ze, reduceIte, Nat.reduceEqDiff, Nat.reduceLT, Nat.reduceLeDiff, Nat.reduceAdd, reduceCtorEq, Nat.reduceMul, ho', map3, List.getD_cons_succ, List.getD_cons_zero]
  all_goals apply_assumption
  refine AW.block ?_   -- 0
  refine AW.loop (fun m s σ2 => ∃ i, m = 8 * b.length - i ∧ q ≤ i ∧ i ≤ 8 * b.length ∧ σ2 = σ1 ∧ s.t 0 = ptrV g ∧ s.t 3 = .c (.int .i64 (i : Nat)) ∧ (true ∈ (unB b).drop q ↔ true ∈ (unB b).drop i)) (8 * b.length - q) ?_ ?_
  · refine ⟨q, rfl, Nat.le_refl _, hq, rfl, ?_⟩
    all_goals simp only [zs, reduceIte, Nat.reduceEqDiff, Nat.reduceLT, Nat.reduceLeDiff, Nat.reduceAdd, reduceCtorEq, Nat.reduceMul]
    simp [ptrV]
  rintro m s σ2 ⟨i, hm, hi, hi2, rfl, e0, e3, hmem⟩
  unfold ptrV at e0
  refine AW.seq_k fun K9 h9 => ?_
  refine AW.seq_k fun K10 h10 => ?_
  all_goals refine AW.reg0 ?_
  all_goals iterate 8 (refine S.g rfl rfl fun K' k' => ?_; simp only [zz, reduceIte, Nat.reduceEqDiff, Nat.reduceLT, Nat.reduceLeDiff, Nat.reduceAdd, reduceCtorEq, Nat.reduceMul, of129_1, ok48, sz48, ag48, sl48, el48, ok5, sz5, ag5, e0, e3, ho', map3, hw8, List.getD_cons_succ, List.getD_cons_zero]; refine k' _ _ ?_; clear k' K')
  all_goals refine S.nil ?_
  all_goals simp only [ze, reduceIte, Nat.reduceEqDiff, Nat.reduceLT, Nat.reduceLeDiff, Nat.reduceAdd, reduceCtorEq, Nat.reduceMul, e0, e3, ho', map3, hw8, List.getD_cons_succ, List.getD_cons_zero]
  all_goals apply_assumption
  refine AW.cond (b := decide (i < 8 * b.length)) (by simp [ev]; try omega) (fun hd => ?_) (fun hd => ?_)
  · have hd := of_decide_eq_true hd
    refine AW.skip ?_
    all_goals simp only [zs, reduceIte, Nat.reduceEqDiff, Nat.reduceLT, Nat.reduceLeDiff, Nat.reduceAdd, reduceCtorEq, Nat.reduceMul]
    all_goals apply_assumption
    obtain ⟨x, hx⟩ : ∃ x, b[i / 8]? = some x := ⟨_, List.getElem?_eq_getElem (by omega)⟩
    have hx256 := hb256 x (List.mem_of_getElem? hx)
    have hget := unB_get b i x hx
    have hy2 : x / 2 ^ (7 - i % 8) % 2 < 2 := Nat.mod_lt _ (by omega)
    have hlt : i < (unB b).length := by rw [unB_len]; exact hd
    have hcons : (unB b).drop i = (x / 2 ^ (7 - i % 8) % 2 == 1) :: (unB b).drop (i + 1) := by
      rw [List.drop_eq_getElem_cons hlt]
      rw [List.getElem?_eq_getElem hlt] at hget
      injection hget with hget
      rw [hget]
    have hwi : IntKind.i64.wrap ((i : Int) + 1) = ((i + 1 : Nat) : Int) := by rw [wrap_small _ (by omega) (by omega)]; rfl
    have he1 : (((x / 2 ^ (7 - i % 8) % 2 : Nat) : Int) == 1) = (x / 2 ^ (7 - i % 8) % 2 == 1) := by generalize x / 2 ^ (7 - i % 8) % 2 = y; rw [Bool.eq_iff_iff]; simp; try omega
    refine AW.seq_k fun K11 h11 => ?_
    refine AW.block ?_   -- 1
    refine AW.seq_k fun K12 h12 => ?_
    all_goals refine AW.reg0 ?_
    all_goals iterate 2 (refine S.g rfl rfl fun K' k' => ?_; simp only [zz, reduceIte, Nat.reduceEqDiff, Nat.reduceAdd, e0, e3, he1]; refine k' _ _ ?_; clear k' K')
    all_goals (refine S.g rfl rfl fun K' k' => ?_; simp only [zz, reduceIte, Nat.reduceEqDiff, Nat.reduceLT, Nat.reduceLeDiff, Nat.reduceAdd, reduceCtorEq, Nat.reduceMul, e0, e3, he1]; refine (bit_spec g b q i _ ho x hx hx256 (by omega)).to fun v σ2 hv => ?_; obtain ⟨rfl, hσ2⟩ := hv; subst hσ2 <;> (refine k' _ _ ?_; clear k' K'))
    all_goals (refine S.g rfl rfl fun K' k' => ?_; simp only [zz, reduceIte, Nat.reduceEqDiff, Nat.reduceAdd, e0, e3, he1]; refine k' _ _ ?_; clear k' K')
    all_goals refine S.nil ?_
    all_goals simp only [ze, reduceIte, Nat.reduceEqDiff, Nat.reduceLT, Nat.reduceLeDiff, Nat.reduceAdd, reduceCtorEq, Nat.reduceMul, e0, e3, he1]
    all_goals apply_assumption
    refine AW.cond (b := (x / 2 ^ (7 - i % 8) % 2 == 1)) (by simp [ev]) (fun hf => ?_) (fun hf => ?_)
    · refine AW.seq_k fun K13 h13 => ?_
      all_goals refine AW.reg0 ?_
      all_goals (refine S.g rfl rfl fun K' k' => ?_; simp only [zz, reduceIte, Nat.reduceEqDiff, Nat.reduceAdd]; refine k' _ _ ?_; clear k' K')
      all_goals refine S.nil ?_
      all_goals simp only [ze, reduceIte, Nat.reduceEqDiff, Nat.reduceLT, Nat.reduceLeDiff, Nat.reduceAdd, reduceCtorEq, Nat.reduceMul]
      all_goals apply_assumption
      refine AW.ret ?_
      all_goals simp only [zs, reduceIte, Nat.reduceEqDiff, Nat.reduceLT, Nat.reduceLeDiff, Nat.reduceAdd, reduceCtorEq, Nat.reduceMul]
      have : true ∈ (unB b).drop q := by rw [hmem, hcons, hf]; exact List.mem_cons_self
      rw [endP, if_neg (by rw [hlen]; exact hc), if_pos this]
    · refine AW.skip ?_
      all_goals simp only [zs, reduceIte, Nat.reduceEqDiff, Nat.reduceLT, Nat.reduceLeDiff, Nat.reduceAdd, reduceCtorEq, Nat.reduceMul]
      all_goals apply_assumption
      all_goals refine AW.reg0 ?_
      all_goals iterate 3 (refine S.g rfl rfl fun K' k' => ?_; simp only [zz, reduceIte, Nat.reduceEqDiff, Nat.reduceAdd, e0, e3, hwi]; refine k' _ _ ?_; clear k' K')
      all_goals refine S.nil ?_
      all_goals simp only [ze, reduceIte, Nat.reduceEqDiff, Nat.reduceLT, Nat.reduceLeDiff, Nat.reduceAdd, reduceCtorEq, Nat.reduceMul, e0, e3, hwi]
      refine ⟨8 * b.length - (i + 1), by omega, i + 1, rfl, by omega, by omega, rfl, rfl, ?_⟩
      rw [hmem, hcons, hf]; simp
  · have hd := of_decide_eq_false hd
    refine AW.exit ?_
    all_goals simp only [zs, reduceIte, Nat.reduceEqDiff, Nat.reduceLT, Nat.reduceLeDiff, Nat.reduceAdd, reduceCtorEq, Nat.reduceMul]
    all_goals apply_assumption
    refine AW.seq_k fun K14 h14 => ?_
    all_goals refine AW.reg0 ?_
    all_goals (refine S.g rfl rfl fun K' k' => ?_; simp only [zz, reduceIte, Nat.reduceEqDiff, Nat.reduceAdd]; refine k' _ _ ?_; clear k' K')
    all_goals refine S.nil ?_
    all_goals simp only [ze, reduceIte, Nat.reduceEqDiff, Nat.reduceLT, Nat.reduceLeDiff, Nat.reduceAdd, reduceCtorEq, Nat.reduceMul]
    all_goals apply_assumption
    refine AW.ret ?_
    all_goals simp only [zs, reduceIte, Nat.reduceEqDiff, Nat.reduceLT, Nat.reduceLeDiff, Nat.reduceAdd, reduceCtorEq, Nat.reduceMul]
    have : ¬ true ∈ (unB b).drop q := by rw [hmem, List.drop_eq_nil_of_le (by rw [unB_len]; omega)]; simp
    rw [endP, if_neg (by rw [hlen]; exact hc), if_neg this]
end Go.Abs.M
namespace Go.Abs.M
open Go Go.Abs Go.Proofs
set_option maxRecDepth 20000
set_option linter.unusedSimpArgs false
set_option linter.unusedVariables false
theorem clone_sl (l : List Nat) (hm : l.length < 140737488355329) : PCalls Try.prog 93 [.sl (l.map encB)] (fun v => v = .sl (l.map encB)) := by
  refine PCalls.intro Try.call93 Try.func93 rfl Try.ntmps93 Try.results93 (by simp) ?_
  refine AW.seq_k fun K1 h1 => ?_
  all_goals refine AW.reg0 ?_
  all_goals (refine S.g rfl rfl fun K' k' => ?_; simp only [zz, reduceIte, Nat.reduceEqDiff, Nat.reduceAdd]; refine k' _ _ ?_; clear k' K')
  all_goals refine S.nil ?_
  all_goals simp only [ze, reduceIte, Nat.reduceEqDiff, Nat.reduceLT, Nat.reduceLeDiff, Nat.reduceAdd, reduceCtorEq, Nat.reduceMul]
  all_goals apply_assumption
  refine AW.seq_j (fun s' σ' => σ' = Hp.empty ∧ s'.t 0 = .sl (l.map encB)) ?_ ?_
  · refine AW.seq_j (fun s' σ' => σ' = Hp.empty ∧ s'.t 0 = .sl (l.map encB) ∧ ∃ b, s'.t 4 = .c (.bool b) ∧ (b = true → l = [])) ?_ ?_
    · skip
      all_goals refine AW.reg0 ?_
      all_goals (refine S.g rfl rfl fun K' k' => ?_; simp only [zz, reduceIte, Nat.reduceEqDiff, Nat.reduceAdd]; refine k' _ _ ?_; clear k' K')
      all_goals (refine S.g rfl rfl fun K' k' => ?_; simp only [zz, reduceIte, Nat.reduceEqDiff, Nat.reduceLT, Nat.reduceLeDiff, Nat.reduceAdd, reduceCtorEq, Nat.reduceMul, sl48]; refine ⟨fun _ => ?_, fun hz b => ?_⟩ <;> (refine k' _ _ ?_; clear k' K'))
      all_goals refine S.nil ?_
      all_goals simp only [ze, reduceIte, Nat.reduceEqDiff, Nat.reduceLT, Nat.reduceLeDiff, Nat.reduceAdd, reduceCtorEq, Nat.reduceMul]
      · exact ⟨_, rfl, fun h => by cases h⟩
      · exact ⟨_, rfl, fun _ => by simpa using hz⟩
    rintro s σ ⟨rfl, e0, b, e4, hb⟩
    refine AW.cond (b := b) e4 (fun hc => ?_) (fun hc => AW.skip ?_)
    · refine AW.seq_k fun K2 h2 => ?_
      all_goals refine AW.reg0 ?_
      all_goals (refine S.g rfl rfl fun K' k' => ?_; simp only [zz, reduceIte, Nat.reduceEqDiff, Nat.reduceAdd]; refine k' _ _ ?_; clear k' K')
      all_goals refine S.nil ?_
      all_goals simp only [ze, reduceIte, Nat.reduceEqDiff, Nat.reduceLT, Nat.reduceLeDiff, Nat.reduceAdd, reduceCtorEq, Nat.reduceMul]
      all_goals apply_assumption
      refine AW.ret ?_
      all_goals simp only [zs, reduceIte, Nat.reduceEqDiff, Nat.reduceLT, Nat.reduceLeDiff, Nat.reduceAdd, reduceCtorEq, Nat.reduceMul]
      rw [hb hc]; rfl
    · all_goals simp only [zs, reduceIte, Nat.reduceEqDiff, Nat.reduceLT, Nat.reduceLeDiff, Nat.reduceAdd, reduceCtorEq, Nat.reduceMul]
      exact e0
  rintro s σ ⟨rfl, e0⟩
  refine AW.seq_k fun K3 h3 => ?_
  all_goals refine AW.region (T := { own := fun d => d == 5 }) (fun _ _ h => by cases h) rfl ?_
  all_goals (refine S.g rfl rfl fun K' k' => ?_; simp only [zb, reduceIte, Nat.reduceEqDiff, Nat.reduceLT, Nat.reduceLeDiff, Nat.reduceAdd, reduceCtorEq, Nat.reduceMul, sl48, el48, ok5, sz5, ag5, zt5, by5, e0]; intro k0 hk0 <;> (refine k' _ _ ?_; clear k' K'))
  all_goals (refine S.g rfl rfl fun K' k' => ?_; simp only [zz, reduceIte, Nat.reduceEqDiff, Nat.reduceAdd, e0]; refine k' _ _ ?_; clear k' K')
  all_goals (refine S.g rfl rfl fun K' k' => ?_; simp only [zz, reduceIte, Nat.reduceEqDiff, Nat.reduceLT, Nat.reduceLeDiff, Nat.reduceAdd, reduceCtorEq, Nat.reduceMul, sl48, el48, ok5, sz5, ag5, zt5, by5, e0]; refine ⟨fun e he => by obtain ⟨x, _, rfl⟩ := List.mem_map.1 he; rfl, by unfold maxLen; omega, by unfold reach; omega, fun k2 hk2 => ?_⟩ <;> (refine k' _ _ ?_; clear k' K'))
  all_goals (refine S.g rfl rfl fun K' k' => ?_; simp only [zz, reduceIte, Nat.reduceEqDiff, Nat.reduceAdd, e0]; refine k' _ _ ?_; clear k' K')
  all_goals refine S.nil ?_
  all_goals simp only [ze, reduceIte, Nat.reduceEqDiff, Nat.reduceLT, Nat.reduceLeDiff, Nat.reduceAdd, reduceCtorEq, Nat.reduceMul, e0]
  all_goals apply_assumption
  refine AW.freeze (k := k2) (T := (5, 1)) (es := l.map encB) (by simp only [Hp.setGr_gr, if_true]) (AW.bare (AW.ret ?_))
  all_goals simp only [zs, reduceIte, Nat.reduceEqDiff, Nat.reduceLT, Nat.reduceLeDiff, Nat.reduceAdd, reduceCtorEq, Nat.reduceMul, fzV, fz1, St.fz_t, St.fz_l]
theorem NewSource_spec (b : List Nat) (hb : b.length < 140737488355329) (σ : Hp) : ACalls Try.prog 56 [.sl (b.map encB)] σ (fun v σ' => ∃ g, v = ptrV g ∧ σ.obj g = none ∧ σ' = σ.setObj g (some (srcC b 0))) := by
  refine ACalls.intro Try.call56 Try.func56 rfl Try.ntmps56 Try.results56 (by simp) ?_
  refine AW.seq_k fun K1 h1 => ?_
  all_goals refine AW.reg0 ?_
  all_goals (refine S.g rfl rfl fun K' k' => ?_; simp only [zz, reduceIte, Nat.reduceEqDiff, Nat.reduceAdd]; refine k' _ _ ?_; clear k' K')
  all_goals refine S.nil ?_
  all_goals simp only [ze, reduceIte, Nat.reduceEqDiff, Nat.reduceLT, Nat.reduceLeDiff, Nat.reduceAdd, reduceCtorEq, Nat.reduceMul]
  all_goals apply_assumption
  refine AW.seq_k fun K2 h2 => ?_
  all_goals refine AW.region (T := { hp := fun d => d == 6 }) (fun _ _ h => by cases h) rfl ?_
  all_goals (refine S.g rfl rfl fun K' k' => ?_; simp only [zz, reduceIte, Nat.reduceEqDiff, Nat.reduceAdd]; refine k' _ _ ?_; clear k' K')
  all_goals (refine S.g rfl rfl fun K' k' => ?_; simp only [zz, reduceIte, Nat.reduceEqDiff, Nat.reduceLT, Nat.reduceLeDiff, Nat.reduceAdd, reduceCtorEq, Nat.reduceMul]; refine PCalls.eqto (clone_sl b hb) ?_ <;> (refine k' _ _ ?_; clear k' K'))
  all_goals (refine S.g rfl rfl fun K' k' => ?_; simp only [zz, reduceIte, Nat.reduceEqDiff, Nat.reduceLT, Nat.reduceLeDiff, Nat.reduceAdd, reduceCtorEq, Nat.reduceMul, zt129, pl129]; refine k' _ _ ?_; clear k' K')
  all_goals (refine S.g rfl rfl fun K' k' => ?_; simp only [zz, reduceIte, Nat.reduceEqDiff, Nat.reduceLT, Nat.reduceLeDiff, Nat.reduceAdd, reduceCtorEq, Nat.reduceMul, ok129, sz129, ag129]; intro g hg <;> (refine k' _ _ ?_; clear k' K'))
  all_goals (refine S.g rfl rfl fun K' k' => ?_; simp only [zz, reduceIte, Nat.reduceEqDiff, Nat.reduceAdd]; refine k' _ _ ?_; clear k' K')
  all_goals refine S.nil ?_
  all_goals simp only [ze, reduceIte, Nat.reduceEqDiff, Nat.reduceLT, Nat.reduceLeDiff, Nat.reduceAdd, reduceCtorEq, Nat.reduceMul]
  all_goals apply_assumption
  refine AW.ret ?_
  all_goals simp only [zs, reduceIte, Nat.reduceEqDiff, Nat.reduceLT, Nat.reduceLeDiff, Nat.reduceAdd, reduceCtorEq, Nat.reduceMul]
  exact ⟨g, rfl, hg, rfl⟩
end Go.Abs.M
namespace Go.Abs.M
open Go Go.Abs Go.Proofs
set_option maxRecDepth 20000
set_option linter.unusedSimpArgs false
set_option linter.unusedVariables false
/-- The reference's source: the flags that are left. -/
def rsC (l : List Bool) : List V := [.sl (l.map encT)]
end Go.Abs.M
namespace Go.Abs.M
open Go Go.Abs Go.Proofs
set_option maxRecDepth 20000
set_option linter.unusedSimpArgs false
set_option linter.unusedVariables false
theorem Fr.rs {g : Nat} {l l' : List Bool} {σ : Hp} (ho : σ.obj g = some (rsC l)) : Fr g σ (σ.setObj g (some (rsC l'))) :=
  ⟨fun x c hx hc => by simp [hx, hc], fun k x hk _ => ⟨by simp [hk], by simp [skN, rsC]⟩⟩
end Go.Abs.M
namespace Go.Abs.M
open Go Go.Abs Go.Proofs
abbrev Prs (α : Type) := List Bool → Except Int (α × Nat)
def Prs.ret {α : Type} (a : α) : Prs α := fun _ => .ok (a, 0)
def Prs.err {α : Type} (e : Int) : Prs α := fun _ => .error e
def Prs.bind {α β : Type} (p : Prs α) (f : α → Prs β) : Prs β := fun l => match p l with
  | .error e => .error e
  | .ok (a, c) => match f a (l.drop c) with
    | .error e => .error e
    | .ok (b, c2) => .ok (b, c + c2)
def Prs.rep {α : Type} (p : Prs α) : Nat → Prs (List α)
  | 0 => Prs.ret []
  | n + 1 => Prs.bind p fun a => Prs.bind (Prs.rep p n) fun r => Prs.ret (a :: r)
def bitsP (n : Nat) : Prs Nat := fun l => if n ≤ l.length then .ok (valN (l.take n), n) else .error 10
def valP : Prs Val := Prs.bind (bitsP 2) fun k => if k = 1 then Prs.bind numP fun n => Prs.ret ⟨1, n, ⟨#[]⟩⟩ else if k = 2 then Prs.bind textP fun t => Prs.ret ⟨2, 0, strOf t⟩ else Prs.err 40
def attrP : Prs Attr := Prs.bind textP fun t => Prs.bind valP fun v => Prs.ret ⟨strOf t, v⟩
end Go.Abs.M
namespace Go.Abs.M
open Go Go.Abs Go.Proofs
set_option maxRecDepth 20000
set_option linter.unusedSimpArgs false
set_option linter.unusedVariables false
/-- What a reading leaves: the thing, or what is wrong and anything. -/
def Rd {α : Type} (g : Nat) (l : List Bool) (σ : Hp) (enc : α → V) (p : Except Int (α × Nat)) (v : V) (σ' : Hp) : Prop :=
  match p with
  | .ok (a, c) => v = .tup [enc a, .c (.int .i64 0)] ∧ σ'.obj g = some (rsC (l.drop c)) ∧ Fr g σ σ'
  | .error e => ∃ a l', v = .tup [enc a, .c (.int .i64 e)] ∧ e ≠ 0 ∧ σ'.obj g = some (rsC l') ∧ Fr g σ σ'
theorem Rd.err {α : Type} {g : Nat} {l l' : List Bool} {σ σ' : Hp} {enc : α → V} {p : Except Int (α × Nat)} {v : V} {e : Int} (a : α) (hp : p = .error e) (hv : v = .tup [enc a, .c (.int .i64 e)]) (he : e ≠ 0) (ho : σ'.obj g = some (rsC l')) (hf : Fr g σ σ') : Rd g l σ enc p v σ' := by
  subst hp; exact ⟨a, l', hv, he, ho, hf⟩
theorem Rd.okk {α : Type} {g : Nat} {l : List Bool} {σ σ' : Hp} {enc : α → V} {p : Except Int (α × Nat)} {v : V} (a : α) (c : Nat) (hp : p = .ok (a, c)) (hv : v = .tup [enc a, .c (.int .i64 0)]) (ho : σ'.obj g = some (rsC (l.drop c))) (hf : Fr g σ σ') : Rd g l σ enc p v σ' := by
  subst hp; exact ⟨hv, ho, hf⟩
theorem textP_err {l : List Bool} {e : Int} (h : textP l = .error e) : e ≠ 0 := by
  unfold textP at h
  cases hN : natP l with
  | error d => rw [hN] at h; injection h with h; subst h; exact natP_err hN
  | ok x =>
    obtain ⟨u, c⟩ := x
    rw [hN] at h
    simp only [] at h
    split at h
    · injection h with h; omega
    · cases h
theorem numP_err {l : List Bool} {e : Int} (h : numP l = .error e) : e ≠ 0 := by
  unfold numP at h
  cases hN : natP l with
  | error d => rw [hN] at h; injection h with h; subst h; exact natP_err hN
  | ok x => obtain ⟨u, c⟩ := x; rw [hN] at h; cases h
theorem eqI (u : Nat) (k : Nat) : ((u : Int) == (k : Int)) = decide (u = k) := by rw [Bool.eq_iff_iff]; simp; omega
theorem tk2 (l : List Bool) (n : Nat) : valN (l.take n) < 2 ^ n := Nat.lt_of_lt_of_le (valN_lt _) (Nat.pow_le_pow_right (by omega) (by rw [List.length_take]; omega))
end Go.Abs.M
namespace Go.Abs.M
open Go Go.Abs Go.Proofs
set_option maxRecDepth 20000
set_option linter.unusedSimpArgs false
set_option linter.unusedVariables false
def At {β : Type} (b : List Nat) (q : Nat) (e : Int) (p : Prs β) : Except Int (β × Nat) :=
  if e = 0 then (match p ((unB b).drop q) with | .ok (x, c) => .ok (x, q + c) | .error d => .error d) else .error e
def Lnk {α : Type} (b : List Nat) (q : Nat) (e : Int) (p : Prs α) (a : α) (q' : Nat) (e' : Int) : Prop := (e' = 0 ∧ At b q e p = .ok (a, q')) ∨ (e' ≠ 0 ∧ At b q e p = .error e')
theorem At_err {β : Type} {b : List Nat} {q : Nat} {e : Int} {p : Prs β} (h : e ≠ 0) : At b q e p = .error e := if_neg h
theorem At_bind {α β : Type} {b : List Nat} {q : Nat} {e : Int} {p : Prs α} {f : α → Prs β} : At b q e (Prs.bind p f) = match At b q e p with | .ok (a, q') => At b q' 0 (f a) | .error d => .error d := by
  unfold At
  by_cases he : e = 0
  · rw [if_pos he, if_pos he]
    unfold Prs.bind
    cases p ((unB b).drop q) with
    | error d => rfl
    | ok x =>
      obtain ⟨a, c⟩ := x
      simp only [if_true, List.drop_drop]
      cases f a ((unB b).drop (q + c)) with
      | error d => rfl
      | ok y => simp only [Nat.add_assoc]
  · rw [if_neg he, if_neg he]
theorem Lnk.next {α β : Type} {b : List Nat} {q q' : Nat} {e e' : Int} {p : Prs α} {a : α} (h : Lnk b q e p a q' e') (f : α → Prs β) : At b q e (Prs.bind p f) = At b q' e' (f a) := by
  rw [At_bind]
  rcases h with ⟨h1, h2⟩ | ⟨h1, h2⟩
  · rw [h2, h1]
  · rw [h2, At_err h1]
theorem At_ret {α : Type} {b : List Nat} {q : Nat} {e : Int} {a : α} : At b q e (Prs.ret a) = if e = 0 then .ok (a, q) else .error e := rfl
theorem Lnk.of {α : Type} {b : List Nat} {q q' : Nat} {e e' : Int} {p : Prs α} {a : α} (h : At b q e p = At b q' e' (Prs.ret a)) : Lnk b q e p a q' e' := by
  unfold Lnk
  rw [h, At_ret]
  by_cases he : e' = 0
  · exact .inl ⟨he, if_pos he⟩
  · exact .inr ⟨he, if_neg he⟩
theorem Lnk.no {α : Type} {b : List Nat} {q q' : Nat} {e e' : Int} {p : Prs α} (a : α) (he : e' ≠ 0) (h : At b q e p = .error e') : Lnk b q e p a q' e' := .inr ⟨he, h⟩
theorem bind_assoc {α β γ : Type} (p : Prs α) (f : α → Prs β) (h : β → Prs γ) : Prs.bind (Prs.bind p f) h = Prs.bind p fun a => Prs.bind (f a) h := by
  funext l
  unfold Prs.bind
  cases p l with
  | error d => rfl
  | ok x =>
    obtain ⟨a, c⟩ := x
    simp only []
    cases f a (l.drop c) with
    | error d => rfl
    | ok y =>
      obtain ⟨y, c2⟩ := y
      simp only [List.drop_drop]
      cases h y (l.drop (c + c2)) with
      | error d => rfl
      | ok z => simp only [Nat.add_assoc]
theorem ret_bind {α β : Type} (a : α) (f : α → Prs β) : Prs.bind (Prs.ret a) f = f a := by
  funext l
  unfold Prs.bind Prs.ret
  simp only [List.drop_zero, Nat.zero_add]
  cases f a l with
  | error d => rfl
  | ok z => rfl
theorem err_bind {α β : Type} (e : Int) (f : α → Prs β) : Prs.bind (Prs.err e) f = Prs.err e := by
  funext l; rfl
/-- Where the reader stands. -/
structure RS (g r : Nat) (b : List Nat) (q : Nat) (e : Int) (σ : Hp) : Prop where
  ne : g ≠ r
  src : σ.obj g = some (srcC b q)
  rd : σ.obj r = some [ptrV g, .c (.int .i64 e)]
  le : q ≤ 8 * b.length
/-- What else there is stays. -/
structure Fr2 (g r : Nat) (σ σ' : Hp) : Prop where
  obj : ∀ x c, x ≠ g → x ≠ r → σ.obj x = some c → σ'.obj x = some c
  gr : ∀ k x, σ.gr k = some x → σ'.gr k = some x
theorem Fr2.refl (g r : Nat) (σ : Hp) : Fr2 g r σ σ := ⟨fun _ _ _ _ h => h, fun _ _ h => h⟩
theorem Fr2.trans {g r : Nat} {a b c : Hp} (h : Fr2 g r a b) (k : Fr2 g r b c) : Fr2 g r a c :=
  ⟨fun x d hx hy hd => k.obj x d hx hy (h.obj x d hx hy hd), fun n x hx => k.gr n x (h.gr n x hx)⟩
theorem skN_src {g q : Nat} {b : List Nat} {σ : Hp} (h : σ.obj g = some (srcC b q)) : skN g σ = none := by unfold skN; rw [h]; rfl
theorem Fr.two {g r q : Nat} {b : List Nat} {σ σ' : Hp} (h : Fr g σ σ') (hs : σ.obj g = some (srcC b q)) : Fr2 g r σ σ' :=
  ⟨fun x c hx _ hc => h.obj x c hx hc, fun k x hk => (h.gr k x hk (by rw [skN_src hs]; simp)).1⟩
theorem Fr2.set {g r : Nat} {σ : Hp} {x : Option (List V)} : Fr2 g r σ (σ.setObj r x) :=
  ⟨fun y c hx hy hc => by simp [hy, hc], fun k x hk => by simp [hk]⟩
theorem Fr2.setg {g r : Nat} {σ : Hp} {x : Option (List V)} : Fr2 g r σ (σ.setObj g x) :=
  ⟨fun y c hx hy hc => by simp [hx, hc], fun k x hk => by simp [hk]⟩
theorem RS.set {g r q : Nat} {b : List Nat} {e : Int} {σ : Hp} (h : RS g r b q e σ) (e' : Int) : RS g r b q e' (σ.setObj r (some [ptrV g, .c (.int .i64 e')])) :=
  ⟨h.ne, by simp [h.ne, h.src], by simp, h.le⟩
theorem RS.setg {g r q q' : Nat} {b : List Nat} {e : Int} {σ : Hp} (h : RS g r b q e σ) (hq : q' ≤ 8 * b.length) : RS g r b q' e (σ.setObj g (some (srcC b q'))) :=
  ⟨h.ne, by simp, by simp [h.ne.symm, h.rd], hq⟩
/-- What a reading does. -/
def Stp {α : Type} (g r : Nat) (b : List Nat) (q : Nat) (e : Int) (p : Prs α) (enc : α → V) (good : α → Prop) (σ : Hp) (v : V) (σ' : Hp) : Prop :=
  ∃ a q' e', v = enc a ∧ good a ∧ RS g r b q' e' σ' ∧ Fr2 g r σ σ' ∧ Lnk b q e p a q' e'
theorem map2 (a b : V) : isMap [a, b] = false := by cases a <;> rfl
theorem keep_spec (g r : Nat) (b : List Nat) (q : Nat) (e e2 : Int) (σ : Hp) (hs : RS g r b q e σ) :
    ACalls Try.prog 156 [ptrV r, .c (.int .i64 e2)] σ (fun v σ' => v = .tup [] ∧ RS g r b q (if e = 0 then e2 else e) σ' ∧ Fr2 g r σ σ') := by
  refine ACalls.intro Try.call156 Try.func156 rfl Try.ntmps156 Try.results156 (by simp) ?_
  have hr := hs.rd
  have he : (e == 0) = decide (e = 0) := by rw [Bool.eq_iff_iff]; simp
  refine AW.seq_k fun K1 h1 => ?_
  all_goals refine AW.reg0 ?_
  all_goals iterate 5 (refine S.g rfl rfl fun K' k' => ?_; simp only [zz, reduceIte, Nat.reduceEqDiff, Nat.reduceLT, Nat.reduceLeDiff, Nat.reduceAdd, reduceCtorEq, Nat.reduceMul, of170_1, ok29, sz29, ag29, ptrV, hr, map2, he, List.getD_cons_succ, List.getD_cons_zero]; refine k' _ _ ?_; clear k' K')
  all_goals refine S.nil ?_
  all_goals simp only [ze, reduceIte, Nat.reduceEqDiff, Nat.reduceLT, Nat.reduceLeDiff, Nat.reduceAdd, reduceCtorEq, Nat.reduceMul, ptrV, hr, map2, he, List.getD_cons_succ, List.getD_cons_zero]
  all_goals apply_assumption
  refine AW.cond (b := decide (e = 0)) (by simp [ev]) (fun hc => ?_) (fun hc => ?_)
  · have hc := of_decide_eq_true hc
    all_goals refine AW.reg0 ?_
    all_goals iterate 5 (refine S.g rfl rfl fun K' k' => ?_; simp only [zz, reduceIte, Nat.reduceEqDiff, Nat.reduceLT, Nat.reduceLeDiff, Nat.reduceAdd, reduceCtorEq, Nat.reduceMul, of170_1, ok29, sz29, ag29, ptrV, hr, map2, List.getD_cons_succ, List.getD_cons_zero]; refine k' _ _ ?_; clear k' K')
    all_goals refine S.nil ?_
    all_goals simp only [ze, reduceIte, Nat.reduceEqDiff, Nat.reduceLT, Nat.reduceLeDiff, Nat.reduceAdd, reduceCtorEq, Nat.reduceMul, ptrV, hr, map2, List.getD_cons_succ, List.getD_cons_zero]
    rw [if_pos hc]
    exact ⟨rfl, hs.set e2, Fr2.set⟩
  · have hc := of_decide_eq_false hc
    refine AW.skip ?_
    all_goals simp only [zs, reduceIte, Nat.reduceEqDiff, Nat.reduceLT, Nat.reduceLeDiff, Nat.reduceAdd, reduceCtorEq, Nat.reduceMul]
    rw [if_neg hc]
    exact ⟨rfl, hs, Fr2.refl _ _ _⟩
theorem At_bits {b : List Nat} {q n : Nat} (hq : q ≤ 8 * b.length) : At b q 0 (bitsP n) = if q + n ≤ 8 * b.length then .ok (bitsV b q n, q + n) else .error 10 := by
  unfold At bitsP
  rw [if_pos rfl, List.length_drop, unB_len]
  by_cases h : q + n ≤ 8 * b.length
  · rw [if_pos h, if_pos (by omega)]; rfl
  · rw [if_neg h, if_neg (by omega)]
theorem rdBits_spec (g r : Nat) (b : List Nat) (q n : Nat) (e : Int) (σ : Hp) (hs : RS g r b q e σ) (hb : b.length < 140737488355329) (hb256 : ∀ x ∈ b, x < 256) (hn : n ≤ 8) :
    ACalls Try.prog 153 [ptrV r, .c (.int .i64 n)] σ (Stp g r b q e (bitsP n) (fun a => .c (.int .i64 (a : Nat))) (· < 2 ^ n) σ) := by
  refine ACalls.intro Try.call153 Try.func153 rfl Try.ntmps153 Try.results153 (by simp) ?_
  have hr := hs.rd
  refine AW.seq_k fun K1 h1 => ?_
  all_goals refine AW.reg0 ?_
  all_goals (refine S.g rfl rfl fun K' k' => ?_; simp only [zz, reduceIte, Nat.reduceEqDiff, Nat.reduceAdd]; refine k' _ _ ?_; clear k' K')
  all_goals refine S.nil ?_
  all_goals simp only [ze, reduceIte, Nat.reduceEqDiff, Nat.reduceLT, Nat.reduceLeDiff, Nat.reduceAdd, reduceCtorEq, Nat.reduceMul]
  all_goals apply_assumption
  refine AW.seq_k fun K2 h2 => ?_
  refine AW.seq_k fun K3 h3 => ?_
  all_goals refine AW.reg0 ?_
  all_goals iterate 5 (refine S.g rfl rfl fun K' k' => ?_; simp only [zz, reduceIte, Nat.reduceEqDiff, Nat.reduceLT, Nat.reduceLeDiff, Nat.reduceAdd, reduceCtorEq, Nat.reduceMul, of170_1, ok29, sz29, ag29, ptrV, hr, map2, List.getD_cons_succ, List.getD_cons_zero]; refine k' _ _ ?_; clear k' K')
  all_goals refine S.nil ?_
  all_goals simp only [ze, reduceIte, Nat.reduceEqDiff, Nat.reduceLT, Nat.reduceLeDiff, Nat.reduceAdd, reduceCtorEq, Nat.reduceMul, ptrV, hr, map2, List.getD_cons_succ, List.getD_cons_zero]
  all_goals apply_assumption
  refine AW.cond (b := decide (e ≠ 0)) (by simp [ev]; try rfl) (fun hc => ?_) (fun hc => ?_)
  · have hc := of_decide_eq_true hc
    refine AW.seq_k fun K4 h4 => ?_
    all_goals refine AW.reg0 ?_
    all_goals (refine S.g rfl rfl fun K' k' => ?_; simp only [zz, reduceIte, Nat.reduceEqDiff, Nat.reduceAdd]; refine k' _ _ ?_; clear k' K')
    all_goals refine S.nil ?_
    all_goals simp only [ze, reduceIte, Nat.reduceEqDiff, Nat.reduceLT, Nat.reduceLeDiff, Nat.reduceAdd, reduceCtorEq, Nat.reduceMul]
    all_goals apply_assumption
    refine AW.ret ?_
    all_goals simp only [zs, reduceIte, Nat.reduceEqDiff, Nat.reduceLT, Nat.reduceLeDiff, Nat.reduceAdd, reduceCtorEq, Nat.reduceMul]
    exact ⟨0, q, e, rfl, Nat.two_pow_pos n, hs, Fr2.refl _ _ _, .inr ⟨hc, At_err hc⟩⟩
  · have hc : e = 0 := by simpa using of_decide_eq_false hc
    subst hc
    have hA := At_bits (n := n) hs.le
    refine AW.skip ?_
    all_goals simp only [zs, reduceIte, Nat.reduceEqDiff, Nat.reduceLT, Nat.reduceLeDiff, Nat.reduceAdd, reduceCtorEq, Nat.reduceMul]
    all_goals apply_assumption
    by_cases hin : q + n ≤ 8 * b.length
    · rw [if_pos hin] at hA
      have hlt := bitsV_lt b q n
      have h28 : (2 : Nat) ^ n ≤ 256 := by rw [show 256 = 2 ^ 8 from rfl]; exact Nat.pow_le_pow_right (by omega) hn
      have hw : IntKind.i64.wrap (bitsV b q n : Int) = (bitsV b q n : Int) := wrapI _ (by omega) (by omega)
      refine AW.seq_k fun K5 h5 => ?_
      all_goals refine AW.reg0 ?_
      all_goals iterate 5 (refine S.g rfl rfl fun K' k' => ?_; simp only [zz, reduceIte, Nat.reduceEqDiff, Nat.reduceLT, Nat.reduceLeDiff, Nat.reduceAdd, reduceCtorEq, Nat.reduceMul, of170_0, ok82, sz82, ag82, ptrV, hr, map2, List.getD_cons_succ, List.getD_cons_zero]; refine k' _ _ ?_; clear k' K')
      all_goals (refine S.g rfl rfl fun K' k' => ?_; simp only [zz, reduceIte, Nat.reduceEqDiff, Nat.reduceLT, Nat.reduceLeDiff, Nat.reduceAdd, reduceCtorEq, Nat.reduceMul, ptrV, hr, map2, List.getD_cons_succ, List.getD_cons_zero]; refine (sBits_spec g b q n _ hs.src hb hb256 hs.le (by omega)).to fun v σ2 hv => ?_; (first | rw [if_pos hin] at hv | rw [if_neg hin] at hv); obtain ⟨rfl, hσ⟩ := hv <;> (refine k' _ _ ?_; clear k' K'))
      all_goals iterate 5 (refine S.g rfl rfl fun K' k' => ?_; simp only [zz, reduceIte, Nat.reduceEqDiff, Nat.reduceLT, Nat.reduceLeDiff, Nat.reduceAdd, reduceCtorEq, Nat.reduceMul, ptrV, hr, map2, List.getD_cons_succ, List.getD_cons_zero]; refine k' _ _ ?_; clear k' K')
      all_goals refine S.nil ?_
      all_goals simp only [ze, reduceIte, Nat.reduceEqDiff, Nat.reduceLT, Nat.reduceLeDiff, Nat.reduceAdd, reduceCtorEq, Nat.reduceMul, ptrV, hr, map2, List.getD_cons_succ, List.getD_cons_zero]
      all_goals apply_assumption
      have hs2 : RS g r b (q + n) 0 σ2 := by rw [hσ]; exact hs.setg hin
      have hf2 : Fr2 g r σ σ2 := by rw [hσ]; exact Fr2.setg
      refine AW.seq_k fun K6 h6 => ?_
      all_goals refine AW.reg0 ?_
      all_goals iterate 2 (refine S.g rfl rfl fun K' k' => ?_; simp only [zz, reduceIte, Nat.reduceEqDiff, Nat.reduceAdd, pw]; refine k' _ _ ?_; clear k' K')
      all_goals (refine S.g rfl rfl fun K' k' => ?_; simp only [zz, reduceIte, Nat.reduceEqDiff, Nat.reduceLT, Nat.reduceLeDiff, Nat.reduceAdd, reduceCtorEq, Nat.reduceMul, pw]; refine (keep_spec g r b _ 0 _ _ hs2).to fun v σ3 hv => ?_; obtain ⟨rfl, hs3, hf3⟩ := hv <;> (refine k' _ _ ?_; clear k' K'))
      all_goals refine S.nil ?_
      all_goals simp only [ze, reduceIte, Nat.reduceEqDiff, Nat.reduceLT, Nat.reduceLeDiff, Nat.reduceAdd, reduceCtorEq, Nat.reduceMul, pw]
      all_goals apply_assumption
      refine AW.seq_k fun K7 h7 => ?_
      all_goals refine AW.reg0 ?_
      all_goals iterate 3 (refine S.g rfl rfl fun K' k' => ?_; simp only [zz, reduceIte, Nat.reduceEqDiff, Nat.reduceAdd, cv54_3, hw]; refine k' _ _ ?_; clear k' K')
      all_goals refine S.nil ?_
      all_goals simp only [ze, reduceIte, Nat.reduceEqDiff, Nat.reduceLT, Nat.reduceLeDiff, Nat.reduceAdd, reduceCtorEq, Nat.reduceMul, hw]
      all_goals apply_assumption
      refine AW.ret ?_
      all_goals simp only [zs, reduceIte, Nat.reduceEqDiff, Nat.reduceLT, Nat.reduceLeDiff, Nat.reduceAdd, reduceCtorEq, Nat.reduceMul]
      exact ⟨bitsV b q n, _, _, rfl, hlt, hs3, hf2.trans hf3, .inl ⟨rfl, hA⟩⟩
    · rw [if_neg hin] at hA
      refine AW.seq_k fun K8 h8 => ?_
      all_goals refine AW.reg0 ?_
      all_goals iterate 5 (refine S.g rfl rfl fun K' k' => ?_; simp only [zz, reduceIte, Nat.reduceEqDiff, Nat.reduceLT, Nat.reduceLeDiff, Nat.reduceAdd, reduceCtorEq, Nat.reduceMul, of170_0, ok82, sz82, ag82, ptrV, hr, map2, List.getD_cons_succ, List.getD_cons_zero]; refine k' _ _ ?_; clear k' K')
      all_goals (refine S.g rfl rfl fun K' k' => ?_; simp only [zz, reduceIte, Nat.reduceEqDiff, Nat.reduceLT, Nat.reduceLeDiff, Nat.reduceAdd, reduceCtorEq, Nat.reduceMul, ptrV, hr, map2, List.getD_cons_succ, List.getD_cons_zero]; refine (sBits_spec g b q n _ hs.src hb hb256 hs.le (by omega)).to fun v σ2 hv => ?_; (first | rw [if_pos hin] at hv | rw [if_neg hin] at hv); obtain ⟨rfl, hσ⟩ := hv <;> (refine k' _ _ ?_; clear k' K'))
      all_goals iterate 5 (refine S.g rfl rfl fun K' k' => ?_; simp only [zz, reduceIte, Nat.reduceEqDiff, Nat.reduceLT, Nat.reduceLeDiff, Nat.reduceAdd, reduceCtorEq, Nat.reduceMul, ptrV, hr, map2, List.getD_cons_succ, List.getD_cons_zero]; refine k' _ _ ?_; clear k' K')
      all_goals refine S.nil ?_
      all_goals simp only [ze, reduceIte, Nat.reduceEqDiff, Nat.reduceLT, Nat.reduceLeDiff, Nat.reduceAdd, reduceCtorEq, Nat.reduceMul, ptrV, hr, map2, List.getD_cons_succ, List.getD_cons_zero]
      all_goals apply_assumption
      have hs2 : RS g r b q 0 σ2 := by rw [hσ]; exact hs
      have hf2 : Fr2 g r σ σ2 := by rw [hσ]; exact Fr2.refl _ _ _
      have hw : IntKind.i64.wrap 0 = 0 := rfl
      refine AW.seq_k fun K9 h9 => ?_
      all_goals refine AW.reg0 ?_
      all_goals iterate 2 (refine S.g rfl rfl fun K' k' => ?_; simp only [zz, reduceIte, Nat.reduceEqDiff, Nat.reduceAdd, pw]; refine k' _ _ ?_; clear k' K')
      all_goals (refine S.g rfl rfl fun K' k' => ?_; simp only [zz, reduceIte, Nat.reduceEqDiff, Nat.reduceLT, Nat.reduceLeDiff, Nat.reduceAdd, reduceCtorEq, Nat.reduceMul, pw]; refine (keep_spec g r b _ 0 _ _ hs2).to fun v σ3 hv => ?_; obtain ⟨rfl, hs3, hf3⟩ := hv <;> (refine k' _ _ ?_; clear k' K'))
      all_goals refine S.nil ?_
      all_goals simp only [ze, reduceIte, Nat.reduceEqDiff, Nat.reduceLT, Nat.reduceLeDiff, Nat.reduceAdd, reduceCtorEq, Nat.reduceMul, pw]
      all_goals apply_assumption
      refine AW.seq_k fun K10 h10 => ?_
      all_goals refine AW.reg0 ?_
      all_goals iterate 3 (refine S.g rfl rfl fun K' k' => ?_; simp only [zz, reduceIte, Nat.reduceEqDiff, Nat.reduceAdd, cv54_3, hw]; refine k' _ _ ?_; clear k' K')
      all_goals refine S.nil ?_
      all_goals simp only [ze, reduceIte, Nat.reduceEqDiff, Nat.reduceLT, Nat.reduceLeDiff, Nat.reduceAdd, reduceCtorEq, Nat.reduceMul, hw]
      all_goals apply_assumption
      refine AW.ret ?_
      all_goals simp only [zs, reduceIte, Nat.reduceEqDiff, Nat.reduceLT, Nat.reduceLeDiff, Nat.reduceAdd, reduceCtorEq, Nat.reduceMul]
      exact ⟨0, _, _, rfl, Nat.two_pow_pos n, hs3, hf2.trans hf3, .inr ⟨by decide, hA⟩⟩
end Go.Abs.M
namespace Go.Abs.M
open Go Go.Abs Go.Proofs
set_option maxRecDepth 20000
set_option linter.unusedSimpArgs false
set_option linter.unusedVariables false
def natV (u : Nat) : Int := if 1099511627776 < u then -1 else u
theorem numP_ok {l : List Bool} {n : Int} {c : Nat} (h : numP l = .ok (n, c)) : c ≤ l.length := by
  unfold numP at h
  cases hN : natP l with
  | error d => rw [hN] at h; cases h
  | ok x => obtain ⟨u, c2⟩ := x; rw [hN] at h; injection h with h; injection h with h1 h2; have := natP_ok hN; omega
theorem textP_ok {l : List Bool} {t : List Nat} {c : Nat} (h : textP l = .ok (t, c)) : c ≤ l.length ∧ t.length ≤ l.length ∧ (∀ x ∈ t, x < 256) := by
  unfold textP at h
  cases hN : natP l with
  | error d => rw [hN] at h; cases h
  | ok x =>
    obtain ⟨u, c2⟩ := x
    rw [hN] at h
    simp only [] at h
    obtain ⟨h1, h2⟩ := natP_ok hN
    split at h
    · cases h
    · injection h with h; injection h with h3 h4
      have hd := Nat.div_mul_le_self (l.length - c2) 8
      refine ⟨by omega, by rw [← h3]; simp; omega, fun x hx => ?_⟩
      rw [← h3] at hx
      obtain ⟨i, _, rfl⟩ := List.mem_map.1 hx
      exact Nat.lt_of_lt_of_le (valN_lt _) (by rw [show 256 = 2 ^ 8 from rfl]; exact Nat.pow_le_pow_right (by omega) (by rw [List.length_take]; omega))
theorem At_ok {α : Type} {b : List Nat} {q : Nat} {p : Prs α} {a : α} {c : Nat} (h : p ((unB b).drop q) = .ok (a, c)) : At b q 0 p = .ok (a, q + c) := by unfold At; rw [if_pos rfl, h]
theorem At_er {α : Type} {b : List Nat} {q : Nat} {p : Prs α} {e : Int} (h : p ((unB b).drop q) = .error e) : At b q 0 p = .error e := by unfold At; rw [if_pos rfl, h]
theorem rdNat_spec (g r : Nat) (b : List Nat) (q : Nat) (e : Int) (σ : Hp) (hs : RS g r b q e σ) (hb : b.length < 140737488355329) (hb256 : ∀ x ∈ b, x < 256) :
    ACalls Try.prog 154 [ptrV r] σ (Stp g r b q e natP (fun a => .c (.int .i64 (natV a))) (· < 18446744073709551616) σ) := by
  refine ACalls.intro Try.call154 Try.func154 rfl Try.ntmps154 Try.results154 (by simp) ?_
  have hr := hs.rd
  refine AW.seq_k fun K1 h1 => ?_
  all_goals refine AW.reg0 ?_
  all_goals (refine S.g rfl rfl fun K' k' => ?_; simp only [zz, reduceIte, Nat.reduceEqDiff, Nat.reduceAdd]; refine k' _ _ ?_; clear k' K')
  all_goals refine S.nil ?_
  all_goals simp only [ze, reduceIte, Nat.reduceEqDiff, Nat.reduceLT, Nat.reduceLeDiff, Nat.reduceAdd, reduceCtorEq, Nat.reduceMul]
  all_goals apply_assumption
  refine AW.seq_k fun K2 h2 => ?_
  refine AW.seq_k fun K3 h3 => ?_
  all_goals refine AW.reg0 ?_
  all_goals iterate 5 (refine S.g rfl rfl fun K' k' => ?_; simp only [zz, reduceIte, Nat.reduceEqDiff, Nat.reduceLT, Nat.reduceLeDiff, Nat.reduceAdd, reduceCtorEq, Nat.reduceMul, of170_1, ok29, sz29, ag29, ptrV, hr, map2, List.getD_cons_succ, List.getD_cons_zero]; refine k' _ _ ?_; clear k' K')
  all_goals refine S.nil ?_
  all_goals simp only [ze, reduceIte, Nat.reduceEqDiff, Nat.reduceLT, Nat.reduceLeDiff, Nat.reduceAdd, reduceCtorEq, Nat.reduceMul, ptrV, hr, map2, List.getD_cons_succ, List.getD_cons_zero]
  all_goals apply_assumption
  refine AW.cond (b := decide (e ≠ 0)) (by simp [ev]; try rfl) (fun hc => ?_) (fun hc => ?_)
  · have hc := of_decide_eq_true hc
    refine AW.seq_k fun K4 h4 => ?_
    all_goals refine AW.reg0 ?_
    all_goals (refine S.g rfl rfl fun K' k' => ?_; simp only [zz, reduceIte, Nat.reduceEqDiff, Nat.reduceAdd]; refine k' _ _ ?_; clear k' K')
    all_goals refine S.nil ?_
    all_goals simp only [ze, reduceIte, Nat.reduceEqDiff, Nat.reduceLT, Nat.reduceLeDiff, Nat.reduceAdd, reduceCtorEq, Nat.reduceMul]
    all_goals apply_assumption
    refine AW.ret ?_
    all_goals simp only [zs, reduceIte, Nat.reduceEqDiff, Nat.reduceLT, Nat.reduceLeDiff, Nat.reduceAdd, reduceCtorEq, Nat.reduceMul]
    exact ⟨0, q, e, rfl, by decide, hs, Fr2.refl _ _ _, .inr ⟨hc, At_err hc⟩⟩
  · have hc : e = 0 := by simpa using of_decide_eq_false hc
    subst hc
    have hlen : ((unB b).drop q).length = 8 * b.length - q := by rw [List.length_drop, unB_len]
    have hqle := hs.le
    refine AW.skip ?_
    all_goals simp only [zs, reduceIte, Nat.reduceEqDiff, Nat.reduceLT, Nat.reduceLeDiff, Nat.reduceAdd, reduceCtorEq, Nat.reduceMul]
    all_goals apply_assumption
    rcases hN : natP ((unB b).drop q) with d | ⟨u, c⟩
    · have hd := natP_err hN
      refine AW.seq_k fun K5 h5 => ?_
      all_goals refine AW.reg0 ?_
      all_goals iterate 4 (refine S.g rfl rfl fun K' k' => ?_; simp only [zz, reduceIte, Nat.reduceEqDiff, Nat.reduceLT, Nat.reduceLeDiff, Nat.reduceAdd, reduceCtorEq, Nat.reduceMul, of170_0, ok82, sz82, ag82, ptrV, hr, map2, List.getD_cons_succ, List.getD_cons_zero]; refine k' _ _ ?_; clear k' K')
      all_goals (refine S.g rfl rfl fun K' k' => ?_; simp only [zz, reduceIte, Nat.reduceEqDiff, Nat.reduceLT, Nat.reduceLeDiff, Nat.reduceAdd, reduceCtorEq, Nat.reduceMul, ptrV, hr, map2, List.getD_cons_succ, List.getD_cons_zero]; refine (sNat_spec g b q _ hs.src hb hb256 hs.le).to fun v σ2 hv => ?_; simp only [hN] at hv; obtain ⟨rfl, hσ⟩ := hv <;> (refine k' _ _ ?_; clear k' K'))
      all_goals iterate 5 (refine S.g rfl rfl fun K' k' => ?_; simp only [zz, reduceIte, Nat.reduceEqDiff, Nat.reduceLT, Nat.reduceLeDiff, Nat.reduceAdd, reduceCtorEq, Nat.reduceMul, ptrV, hr, map2, List.getD_cons_succ, List.getD_cons_zero]; refine k' _ _ ?_; clear k' K')
      all_goals refine S.nil ?_
      all_goals simp only [ze, reduceIte, Nat.reduceEqDiff, Nat.reduceLT, Nat.reduceLeDiff, Nat.reduceAdd, reduceCtorEq, Nat.reduceMul, ptrV, hr, map2, List.getD_cons_succ, List.getD_cons_zero]
      all_goals apply_assumption
      have hs2 : RS g r b q 0 σ2 := by rw [hσ]; exact hs
      have hf2 : Fr2 g r σ σ2 := by rw [hσ]; exact Fr2.refl _ _ _
      refine AW.seq_k fun K6 h6 => ?_
      all_goals refine AW.reg0 ?_
      all_goals iterate 2 (refine S.g rfl rfl fun K' k' => ?_; simp only [zz, reduceIte, Nat.reduceEqDiff, Nat.reduceAdd, pw]; refine k' _ _ ?_; clear k' K')
      all_goals (refine S.g rfl rfl fun K' k' => ?_; simp only [zz, reduceIte, Nat.reduceEqDiff, Nat.reduceLT, Nat.reduceLeDiff, Nat.reduceAdd, reduceCtorEq, Nat.reduceMul, pw]; refine (keep_spec g r b _ 0 _ _ hs2).to fun v σ3 hv => ?_; obtain ⟨rfl, hs3, hf3⟩ := hv <;> (refine k' _ _ ?_; clear k' K'))
      all_goals refine S.nil ?_
      all_goals simp only [ze, reduceIte, Nat.reduceEqDiff, Nat.reduceLT, Nat.reduceLeDiff, Nat.reduceAdd, reduceCtorEq, Nat.reduceMul, pw]
      all_goals apply_assumption
      refine AW.seq_k fun K7 h7 => ?_
      refine AW.seq_k fun K8 h8 => ?_
      all_goals refine AW.reg0 ?_
      all_goals iterate 2 (refine S.g rfl rfl fun K' k' => ?_; simp only [zz, reduceIte, Nat.reduceEqDiff, Nat.reduceAdd]; refine k' _ _ ?_; clear k' K')
      all_goals refine S.nil ?_
      all_goals simp only [ze, reduceIte, Nat.reduceEqDiff, Nat.reduceLT, Nat.reduceLeDiff, Nat.reduceAdd, reduceCtorEq, Nat.reduceMul]
      all_goals apply_assumption
      refine AW.cond (b := false) (by simp [ev]) (fun hc => by cases hc) (fun hc => ?_)
      refine AW.skip ?_
      all_goals simp only [zs, reduceIte, Nat.reduceEqDiff, Nat.reduceLT, Nat.reduceLeDiff, Nat.reduceAdd, reduceCtorEq, Nat.reduceMul]
      all_goals apply_assumption
      have hw : IntKind.i64.wrap 0 = 0 := rfl
      refine AW.seq_k fun K9 h9 => ?_
      all_goals refine AW.reg0 ?_
      all_goals iterate 3 (refine S.g rfl rfl fun K' k' => ?_; simp only [zz, reduceIte, Nat.reduceEqDiff, Nat.reduceAdd, cv54_2, hw]; refine k' _ _ ?_; clear k' K')
      all_goals refine S.nil ?_
      all_goals simp only [ze, reduceIte, Nat.reduceEqDiff, Nat.reduceLT, Nat.reduceLeDiff, Nat.reduceAdd, reduceCtorEq, Nat.reduceMul, hw]
      all_goals apply_assumption
      refine AW.ret ?_
      all_goals simp only [zs, reduceIte, Nat.reduceEqDiff, Nat.reduceLT, Nat.reduceLeDiff, Nat.reduceAdd, reduceCtorEq, Nat.reduceMul]
      exact ⟨0, _, _, rfl, by decide, hs3, hf2.trans hf3, .inr ⟨hd, At_er hN⟩⟩
    · obtain ⟨hu, hcl⟩ := natP_ok hN
      refine AW.seq_k fun K10 h10 => ?_
      all_goals refine AW.reg0 ?_
      all_goals iterate 4 (refine S.g rfl rfl fun K' k' => ?_; simp only [zz, reduceIte, Nat.reduceEqDiff, Nat.reduceLT, Nat.reduceLeDiff, Nat.reduceAdd, reduceCtorEq, Nat.reduceMul, of170_0, ok82, sz82, ag82, ptrV, hr, map2, List.getD_cons_succ, List.getD_cons_zero]; refine k' _ _ ?_; clear k' K')
      all_goals (refine S.g rfl rfl fun K' k' => ?_; simp only [zz, reduceIte, Nat.reduceEqDiff, Nat.reduceLT, Nat.reduceLeDiff, Nat.reduceAdd, reduceCtorEq, Nat.reduceMul, ptrV, hr, map2, List.getD_cons_succ, List.getD_cons_zero]; refine (sNat_spec g b q _ hs.src hb hb256 hs.le).to fun v σ2 hv => ?_; simp only [hN] at hv; obtain ⟨rfl, hσ⟩ := hv <;> (refine k' _ _ ?_; clear k' K'))
      all_goals iterate 5 (refine S.g rfl rfl fun K' k' => ?_; simp only [zz, reduceIte, Nat.reduceEqDiff, Nat.reduceLT, Nat.reduceLeDiff, Nat.reduceAdd, reduceCtorEq, Nat.reduceMul, ptrV, hr, map2, List.getD_cons_succ, List.getD_cons_zero]; refine k' _ _ ?_; clear k' K')
      all_goals refine S.nil ?_
      all_goals simp only [ze, reduceIte, Nat.reduceEqDiff, Nat.reduceLT, Nat.reduceLeDiff, Nat.reduceAdd, reduceCtorEq, Nat.reduceMul, ptrV, hr, map2, List.getD_cons_succ, List.getD_cons_zero]
      all_goals apply_assumption
      have hs2 : RS g r b (q + c) 0 σ2 := by rw [hσ]; exact hs.setg (by omega)
      have hf2 : Fr2 g r σ σ2 := by rw [hσ]; exact Fr2.setg
      refine AW.seq_k fun K11 h11 => ?_
      all_goals refine AW.reg0 ?_
      all_goals iterate 2 (refine S.g rfl rfl fun K' k' => ?_; simp only [zz, reduceIte, Nat.reduceEqDiff, Nat.reduceAdd, pw]; refine k' _ _ ?_; clear k' K')
      all_goals (refine S.g rfl rfl fun K' k' => ?_; simp only [zz, reduceIte, Nat.reduceEqDiff, Nat.reduceLT, Nat.reduceLeDiff, Nat.reduceAdd, reduceCtorEq, Nat.reduceMul, pw]; refine (keep_spec g r b _ 0 _ _ hs2).to fun v σ3 hv => ?_; obtain ⟨rfl, hs3, hf3⟩ := hv <;> (refine k' _ _ ?_; clear k' K'))
      all_goals refine S.nil ?_
      all_goals simp only [ze, reduceIte, Nat.reduceEqDiff, Nat.reduceLT, Nat.reduceLeDiff, Nat.reduceAdd, reduceCtorEq, Nat.reduceMul, pw]
      all_goals apply_assumption
      refine AW.seq_k fun K12 h12 => ?_
      refine AW.seq_k fun K13 h13 => ?_
      all_goals refine AW.reg0 ?_
      all_goals iterate 2 (refine S.g rfl rfl fun K' k' => ?_; simp only [zz, reduceIte, Nat.reduceEqDiff, Nat.reduceAdd, gt_iff_lt]; refine k' _ _ ?_; clear k' K')
      all_goals refine S.nil ?_
      all_goals simp only [ze, reduceIte, Nat.reduceEqDiff, Nat.reduceLT, Nat.reduceLeDiff, Nat.reduceAdd, reduceCtorEq, Nat.reduceMul, gt_iff_lt]
      all_goals apply_assumption
      refine AW.cond (b := decide (1099511627776 < u)) (by simp [ev]; try omega) (fun hc => ?_) (fun hc => ?_)
      · have hc := of_decide_eq_true hc
        refine AW.seq_k fun K14 h14 => ?_
        all_goals refine AW.reg0 ?_
        all_goals (refine S.g rfl rfl fun K' k' => ?_; simp only [zz, reduceIte, Nat.reduceEqDiff, Nat.reduceAdd]; refine k' _ _ ?_; clear k' K')
        all_goals refine S.nil ?_
        all_goals simp only [ze, reduceIte, Nat.reduceEqDiff, Nat.reduceLT, Nat.reduceLeDiff, Nat.reduceAdd, reduceCtorEq, Nat.reduceMul]
        all_goals apply_assumption
        refine AW.ret ?_
        all_goals simp only [zs, reduceIte, Nat.reduceEqDiff, Nat.reduceLT, Nat.reduceLeDiff, Nat.reduceAdd, reduceCtorEq, Nat.reduceMul]
        exact ⟨u, _, _, by simp [natV, hc], hu, hs3, hf2.trans hf3, .inl ⟨rfl, At_ok hN⟩⟩
      · have hc := of_decide_eq_false hc
        have hw : IntKind.i64.wrap (u : Int) = (u : Int) := wrapI _ (by omega) (by omega)
        refine AW.skip ?_
        all_goals simp only [zs, reduceIte, Nat.reduceEqDiff, Nat.reduceLT, Nat.reduceLeDiff, Nat.reduceAdd, reduceCtorEq, Nat.reduceMul]
        all_goals apply_assumption
        refine AW.seq_k fun K15 h15 => ?_
        all_goals refine AW.reg0 ?_
        all_goals iterate 3 (refine S.g rfl rfl fun K' k' => ?_; simp only [zz, reduceIte, Nat.reduceEqDiff, Nat.reduceAdd, cv54_2, hw]; refine k' _ _ ?_; clear k' K')
        all_goals refine S.nil ?_
        all_goals simp only [ze, reduceIte, Nat.reduceEqDiff, Nat.reduceLT, Nat.reduceLeDiff, Nat.reduceAdd, reduceCtorEq, Nat.reduceMul, hw]
        all_goals apply_assumption
        refine AW.ret ?_
        all_goals simp only [zs, reduceIte, Nat.reduceEqDiff, Nat.reduceLT, Nat.reduceLeDiff, Nat.reduceAdd, reduceCtorEq, Nat.reduceMul]
        exact ⟨u, _, _, by simp [natV, hc], hu, hs3, hf2.trans hf3, .inl ⟨rfl, At_ok hN⟩⟩
theorem rdText_spec (g r : Nat) (b : List Nat) (q : Nat) (e : Int) (σ : Hp) (hs : RS g r b q e σ) (hb : b.length < 140737488355329) (hb256 : ∀ x ∈ b, x < 256) :
    ACalls Try.prog 155 [ptrV r] σ (Stp g r b q e textP (fun a => .c (.string (strOf a))) (fun a => a.length ≤ 2251799813685248) σ) := by
  refine ACalls.intro Try.call155 Try.func155 rfl Try.ntmps155 Try.results155 (by simp) ?_
  have hr := hs.rd
  refine AW.seq_k fun K1 h1 => ?_
  all_goals refine AW.reg0 ?_
  all_goals (refine S.g rfl rfl fun K' k' => ?_; simp only [zz, reduceIte, Nat.reduceEqDiff, Nat.reduceAdd]; refine k' _ _ ?_; clear k' K')
  all_goals refine S.nil ?_
  all_goals simp only [ze, reduceIte, Nat.reduceEqDiff, Nat.reduceLT, Nat.reduceLeDiff, Nat.reduceAdd, reduceCtorEq, Nat.reduceMul]
  all_goals apply_assumption
  refine AW.seq_k fun K2 h2 => ?_
  refine AW.seq_k fun K3 h3 => ?_
  all_goals refine AW.reg0 ?_
  all_goals iterate 5 (refine S.g rfl rfl fun K' k' => ?_; simp only [zz, reduceIte, Nat.reduceEqDiff, Nat.reduceLT, Nat.reduceLeDiff, Nat.reduceAdd, reduceCtorEq, Nat.reduceMul, of170_1, ok29, sz29, ag29, ptrV, hr, map2, List.getD_cons_succ, List.getD_cons_zero]; refine k' _ _ ?_; clear k' K')
  all_goals refine S.nil ?_
  all_goals simp only [ze, reduceIte, Nat.reduceEqDiff, Nat.reduceLT, Nat.reduceLeDiff, Nat.reduceAdd, reduceCtorEq, Nat.reduceMul, ptrV, hr, map2, List.getD_cons_succ, List.getD_cons_zero]
  all_goals apply_assumption
  refine AW.cond (b := decide (e ≠ 0)) (by simp [ev]; try rfl) (fun hc => ?_) (fun hc => ?_)
  · have hc := of_decide_eq_true hc
    refine AW.seq_k fun K4 h4 => ?_
    all_goals refine AW.reg0 ?_
    all_goals (refine S.g rfl rfl fun K' k' => ?_; simp only [zz, reduceIte, Nat.reduceEqDiff, Nat.reduceAdd]; refine k' _ _ ?_; clear k' K')
    all_goals refine S.nil ?_
    all_goals simp only [ze, reduceIte, Nat.reduceEqDiff, Nat.reduceLT, Nat.reduceLeDiff, Nat.reduceAdd, reduceCtorEq, Nat.reduceMul]
    all_goals apply_assumption
    refine AW.ret ?_
    all_goals simp only [zs, reduceIte, Nat.reduceEqDiff, Nat.reduceLT, Nat.reduceLeDiff, Nat.reduceAdd, reduceCtorEq, Nat.reduceMul]
    exact ⟨[], q, e, rfl, by simp, hs, Fr2.refl _ _ _, .inr ⟨hc, At_err hc⟩⟩
  · have hc : e = 0 := by simpa using of_decide_eq_false hc
    subst hc
    have hlen : ((unB b).drop q).length = 8 * b.length - q := by rw [List.length_drop, unB_len]
    have hqle := hs.le
    refine AW.skip ?_
    all_goals simp only [zs, reduceIte, Nat.reduceEqDiff, Nat.reduceLT, Nat.reduceLeDiff, Nat.reduceAdd, reduceCtorEq, Nat.reduceMul]
    all_goals apply_assumption
    rcases hN : textP ((unB b).drop q) with d | ⟨u, c⟩
    · have hd := textP_err hN
      refine AW.seq_k fun K5 h5 => ?_
      all_goals refine AW.reg0 ?_
      all_goals iterate 4 (refine S.g rfl rfl fun K' k' => ?_; simp only [zz, reduceIte, Nat.reduceEqDiff, Nat.reduceLT, Nat.reduceLeDiff, Nat.reduceAdd, reduceCtorEq, Nat.reduceMul, of170_0, ok82, sz82, ag82, ptrV, hr, map2, List.getD_cons_succ, List.getD_cons_zero]; refine k' _ _ ?_; clear k' K')
      all_goals (refine S.g rfl rfl fun K' k' => ?_; simp only [zz, reduceIte, Nat.reduceEqDiff, Nat.reduceLT, Nat.reduceLeDiff, Nat.reduceAdd, reduceCtorEq, Nat.reduceMul, ptrV, hr, map2, List.getD_cons_succ, List.getD_cons_zero]; refine (sText_spec g b q _ hs.src hb hb256 hs.le).to fun v σ2 hv => ?_; simp only [hN] at hv; obtain ⟨rfl, hσ⟩ := hv <;> (refine k' _ _ ?_; clear k' K'))
      all_goals iterate 5 (refine S.g rfl rfl fun K' k' => ?_; simp only [zz, reduceIte, Nat.reduceEqDiff, Nat.reduceLT, Nat.reduceLeDiff, Nat.reduceAdd, reduceCtorEq, Nat.reduceMul, ptrV, hr, map2, List.getD_cons_succ, List.getD_cons_zero]; refine k' _ _ ?_; clear k' K')
      all_goals refine S.nil ?_
      all_goals simp only [ze, reduceIte, Nat.reduceEqDiff, Nat.reduceLT, Nat.reduceLeDiff, Nat.reduceAdd, reduceCtorEq, Nat.reduceMul, ptrV, hr, map2, List.getD_cons_succ, List.getD_cons_zero]
      all_goals apply_assumption
      have hs2 : RS g r b q 0 σ2 := ⟨hs.ne, hσ.1, hσ.2.obj _ _ hs.ne.symm hs.rd, hs.le⟩
      have hf2 : Fr2 g r σ σ2 := hσ.2.two hs.src
      refine AW.seq_k fun K6 h6 => ?_
      all_goals refine AW.reg0 ?_
      all_goals iterate 2 (refine S.g rfl rfl fun K' k' => ?_; simp only [zz, reduceIte, Nat.reduceEqDiff, Nat.reduceAdd, pw]; refine k' _ _ ?_; clear k' K')
      all_goals (refine S.g rfl rfl fun K' k' => ?_; simp only [zz, reduceIte, Nat.reduceEqDiff, Nat.reduceLT, Nat.reduceLeDiff, Nat.reduceAdd, reduceCtorEq, Nat.reduceMul, pw]; refine (keep_spec g r b _ 0 _ _ hs2).to fun v σ3 hv => ?_; obtain ⟨rfl, hs3, hf3⟩ := hv <;> (refine k' _ _ ?_; clear k' K'))
      all_goals refine S.nil ?_
      all_goals simp only [ze, reduceIte, Nat.reduceEqDiff, Nat.reduceLT, Nat.reduceLeDiff, Nat.reduceAdd, reduceCtorEq, Nat.reduceMul, pw]
      all_goals apply_assumption
      refine AW.seq_k fun K7 h7 => ?_
      all_goals refine AW.reg0 ?_
      all_goals iterate 2 (refine S.g rfl rfl fun K' k' => ?_; simp only [zz, reduceIte, Nat.reduceEqDiff, Nat.reduceAdd]; refine k' _ _ ?_; clear k' K')
      all_goals refine S.nil ?_
      all_goals simp only [ze, reduceIte, Nat.reduceEqDiff, Nat.reduceLT, Nat.reduceLeDiff, Nat.reduceAdd, reduceCtorEq, Nat.reduceMul]
      all_goals apply_assumption
      refine AW.ret ?_
      all_goals simp only [zs, reduceIte, Nat.reduceEqDiff, Nat.reduceLT, Nat.reduceLeDiff, Nat.reduceAdd, reduceCtorEq, Nat.reduceMul]
      exact ⟨[], _, _, rfl, by simp, hs3, hf2.trans hf3, .inr ⟨hd, At_er hN⟩⟩
    · obtain ⟨hcl, hul, _⟩ := textP_ok hN
      refine AW.seq_k fun K8 h8 => ?_
      all_goals refine AW.reg0 ?_
      all_goals iterate 4 (refine S.g rfl rfl fun K' k' => ?_; simp only [zz, reduceIte, Nat.reduceEqDiff, Nat.reduceLT, Nat.reduceLeDiff, Nat.reduceAdd, reduceCtorEq, Nat.reduceMul, of170_0, ok82, sz82, ag82, ptrV, hr, map2, List.getD_cons_succ, List.getD_cons_zero]; refine k' _ _ ?_; clear k' K')
      all_goals (refine S.g rfl rfl fun K' k' => ?_; simp only [zz, reduceIte, Nat.reduceEqDiff, Nat.reduceLT, Nat.reduceLeDiff, Nat.reduceAdd, reduceCtorEq, Nat.reduceMul, ptrV, hr, map2, List.getD_cons_succ, List.getD_cons_zero]; refine (sText_spec g b q _ hs.src hb hb256 hs.le).to fun v σ2 hv => ?_; simp only [hN] at hv; obtain ⟨rfl, hσ⟩ := hv <;> (refine k' _ _ ?_; clear k' K'))
      all_goals iterate 5 (refine S.g rfl rfl fun K' k' => ?_; simp only [zz, reduceIte, Nat.reduceEqDiff, Nat.reduceLT, Nat.reduceLeDiff, Nat.reduceAdd, reduceCtorEq, Nat.reduceMul, ptrV, hr, map2, List.getD_cons_succ, List.getD_cons_zero]; refine k' _ _ ?_; clear k' K')
      all_goals refine S.nil ?_
      all_goals simp only [ze, reduceIte, Nat.reduceEqDiff, Nat.reduceLT, Nat.reduceLeDiff, Nat.reduceAdd, reduceCtorEq, Nat.reduceMul, ptrV, hr, map2, List.getD_cons_succ, List.getD_cons_zero]
      all_goals apply_assumption
      have hs2 : RS g r b (q + c) 0 σ2 := ⟨hs.ne, hσ.1, hσ.2.obj _ _ hs.ne.symm hs.rd, by omega⟩
      have hf2 : Fr2 g r σ σ2 := hσ.2.two hs.src
      refine AW.seq_k fun K9 h9 => ?_
      all_goals refine AW.reg0 ?_
      all_goals iterate 2 (refine S.g rfl rfl fun K' k' => ?_; simp only [zz, reduceIte, Nat.reduceEqDiff, Nat.reduceAdd, pw]; refine k' _ _ ?_; clear k' K')
      all_goals (refine S.g rfl rfl fun K' k' => ?_; simp only [zz, reduceIte, Nat.reduceEqDiff, Nat.reduceLT, Nat.reduceLeDiff, Nat.reduceAdd, reduceCtorEq, Nat.reduceMul, pw]; refine (keep_spec g r b _ 0 _ _ hs2).to fun v σ3 hv => ?_; obtain ⟨rfl, hs3, hf3⟩ := hv <;> (refine k' _ _ ?_; clear k' K'))
      all_goals refine S.nil ?_
      all_goals simp only [ze, reduceIte, Nat.reduceEqDiff, Nat.reduceLT, Nat.reduceLeDiff, Nat.reduceAdd, reduceCtorEq, Nat.reduceMul, pw]
      all_goals apply_assumption
      refine AW.seq_k fun K10 h10 => ?_
      all_goals refine AW.reg0 ?_
      all_goals iterate 2 (refine S.g rfl rfl fun K' k' => ?_; simp only [zz, reduceIte, Nat.reduceEqDiff, Nat.reduceAdd]; refine k' _ _ ?_; clear k' K')
      all_goals refine S.nil ?_
      all_goals simp only [ze, reduceIte, Nat.reduceEqDiff, Nat.reduceLT, Nat.reduceLeDiff, Nat.reduceAdd, reduceCtorEq, Nat.reduceMul]
      all_goals apply_assumption
      refine AW.ret ?_
      all_goals simp only [zs, reduceIte, Nat.reduceEqDiff, Nat.reduceLT, Nat.reduceLeDiff, Nat.reduceAdd, reduceCtorEq, Nat.reduceMul]
      exact ⟨u, _, _, rfl, by omega, hs3, hf2.trans hf3, .inl ⟨rfl, At_ok hN⟩⟩
theorem rdNum_spec (g r : Nat) (b : List Nat) (q : Nat) (e : Int) (σ : Hp) (hs : RS g r b q e σ) (hb : b.length < 140737488355329) (hb256 : ∀ x ∈ b, x < 256) :
    ACalls Try.prog 160 [ptrV r] σ (Stp g r b q e numP (fun a => .c (.int .i64 a)) (fun _ => True) σ) := by
  refine ACalls.intro Try.call160 Try.func160 rfl Try.ntmps160 Try.results160 (by simp) ?_
  have hr := hs.rd
  refine AW.seq_k fun K1 h1 => ?_
  all_goals refine AW.reg0 ?_
  all_goals (refine S.g rfl rfl fun K' k' => ?_; simp only [zz, reduceIte, Nat.reduceEqDiff, Nat.reduceAdd]; refine k' _ _ ?_; clear k' K')
  all_goals refine S.nil ?_
  all_goals simp only [ze, reduceIte, Nat.reduceEqDiff, Nat.reduceLT, Nat.reduceLeDiff, Nat.reduceAdd, reduceCtorEq, Nat.reduceMul]
  all_goals apply_assumption
  refine AW.seq_k fun K2 h2 => ?_
  refine AW.seq_k fun K3 h3 => ?_
  all_goals refine AW.reg0 ?_
  all_goals iterate 5 (refine S.g rfl rfl fun K' k' => ?_; simp only [zz, reduceIte, Nat.reduceEqDiff, Nat.reduceLT, Nat.reduceLeDiff, Nat.reduceAdd, reduceCtorEq, Nat.reduceMul, of170_1, ok29, sz29, ag29, ptrV, hr, map2, List.getD_cons_succ, List.getD_cons_zero]; refine k' _ _ ?_; clear k' K')
  all_goals refine S.nil ?_
  all_goals simp only [ze, reduceIte, Nat.reduceEqDiff, Nat.reduceLT, Nat.reduceLeDiff, Nat.reduceAdd, reduceCtorEq, Nat.reduceMul, ptrV, hr, map2, List.getD_cons_succ, List.getD_cons_zero]
  all_goals apply_assumption
  refine AW.cond (b := decide (e ≠ 0)) (by simp [ev]; try rfl) (fun hc => ?_) (fun hc => ?_)
  · have hc := of_decide_eq_true hc
    refine AW.seq_k fun K4 h4 => ?_
    all_goals refine AW.reg0 ?_
    all_goals (refine S.g rfl rfl fun K' k' => ?_; simp only [zz, reduceIte, Nat.reduceEqDiff, Nat.reduceAdd]; refine k' _ _ ?_; clear k' K')
    all_goals refine S.nil ?_
    all_goals simp only [ze, reduceIte, Nat.reduceEqDiff, Nat.reduceLT, Nat.reduceLeDiff, Nat.reduceAdd, reduceCtorEq, Nat.reduceMul]
    all_goals apply_assumption
    refine AW.ret ?_
    all_goals simp only [zs, reduceIte, Nat.reduceEqDiff, Nat.reduceLT, Nat.reduceLeDiff, Nat.reduceAdd, reduceCtorEq, Nat.reduceMul]
    exact ⟨0, q, e, rfl, trivial, hs, Fr2.refl _ _ _, .inr ⟨hc, At_err hc⟩⟩
  · have hc : e = 0 := by simpa using of_decide_eq_false hc
    subst hc
    have hlen : ((unB b).drop q).length = 8 * b.length - q := by rw [List.length_drop, unB_len]
    have hqle := hs.le
    refine AW.skip ?_
    all_goals simp only [zs, reduceIte, Nat.reduceEqDiff, Nat.reduceLT, Nat.reduceLeDiff, Nat.reduceAdd, reduceCtorEq, Nat.reduceMul]
    all_goals apply_assumption
    rcases hN : numP ((unB b).drop q) with d | ⟨u, c⟩
    · have hd := numP_err hN
      refine AW.seq_k fun K5 h5 => ?_
      all_goals refine AW.reg0 ?_
      all_goals iterate 4 (refine S.g rfl rfl fun K' k' => ?_; simp only [zz, reduceIte, Nat.reduceEqDiff, Nat.reduceLT, Nat.reduceLeDiff, Nat.reduceAdd, reduceCtorEq, Nat.reduceMul, of170_0, ok82, sz82, ag82, ptrV, hr, map2, List.getD_cons_succ, List.getD_cons_zero]; refine k' _ _ ?_; clear k' K')
      all_goals (refine S.g rfl rfl fun K' k' => ?_; simp only [zz, reduceIte, Nat.reduceEqDiff, Nat.reduceLT, Nat.reduceLeDiff, Nat.reduceAdd, reduceCtorEq, Nat.reduceMul, ptrV, hr, map2, List.getD_cons_succ, List.getD_cons_zero]; refine (sNum_spec g b q _ hs.src hb hb256 hs.le).to fun v σ2 hv => ?_; simp only [hN] at hv; obtain ⟨rfl, hσ⟩ := hv <;> (refine k' _ _ ?_; clear k' K'))
      all_goals iterate 5 (refine S.g rfl rfl fun K' k' => ?_; simp only [zz, reduceIte, Nat.reduceEqDiff, Nat.reduceLT, Nat.reduceLeDiff, Nat.reduceAdd, reduceCtorEq, Nat.reduceMul, ptrV, hr, map2, List.getD_cons_succ, List.getD_cons_zero]; refine k' _ _ ?_; clear k' K')
      all_goals refine S.nil ?_
      all_goals simp only [ze, reduceIte, Nat.reduceEqDiff, Nat.reduceLT, Nat.reduceLeDiff, Nat.reduceAdd, reduceCtorEq, Nat.reduceMul, ptrV, hr, map2, List.getD_cons_succ, List.getD_cons_zero]
      all_goals apply_assumption
      have hs2 : RS g r b q 0 σ2 := by rw [hσ]; exact hs
      have hf2 : Fr2 g r σ σ2 := by rw [hσ]; exact Fr2.refl _ _ _
      refine AW.seq_k fun K6 h6 => ?_
      all_goals refine AW.reg0 ?_
      all_goals iterate 2 (refine S.g rfl rfl fun K' k' => ?_; simp only [zz, reduceIte, Nat.reduceEqDiff, Nat.reduceAdd, pw]; refine k' _ _ ?_; clear k' K')
      all_goals (refine S.g rfl rfl fun K' k' => ?_; simp only [zz, reduceIte, Nat.reduceEqDiff, Nat.reduceLT, Nat.reduceLeDiff, Nat.reduceAdd, reduceCtorEq, Nat.reduceMul, pw]; refine (keep_spec g r b _ 0 _ _ hs2).to fun v σ3 hv => ?_; obtain ⟨rfl, hs3, hf3⟩ := hv <;> (refine k' _ _ ?_; clear k' K'))
      all_goals refine S.nil ?_
      all_goals simp only [ze, reduceIte, Nat.reduceEqDiff, Nat.reduceLT, Nat.reduceLeDiff, Nat.reduceAdd, reduceCtorEq, Nat.reduceMul, pw]
      all_goals apply_assumption
      refine AW.seq_k fun K7 h7 => ?_
      all_goals refine AW.reg0 ?_
      all_goals iterate 2 (refine S.g rfl rfl fun K' k' => ?_; simp only [zz, reduceIte, Nat.reduceEqDiff, Nat.reduceAdd]; refine k' _ _ ?_; clear k' K')
      all_goals refine S.nil ?_
      all_goals simp only [ze, reduceIte, Nat.reduceEqDiff, Nat.reduceLT, Nat.reduceLeDiff, Nat.reduceAdd, reduceCtorEq, Nat.reduceMul]
      all_goals apply_assumption
      refine AW.ret ?_
      all_goals simp only [zs, reduceIte, Nat.reduceEqDiff, Nat.reduceLT, Nat.reduceLeDiff, Nat.reduceAdd, reduceCtorEq, Nat.reduceMul]
      exact ⟨0, _, _, rfl, trivial, hs3, hf2.trans hf3, .inr ⟨hd, At_er hN⟩⟩
    · have hcl := numP_ok hN
      refine AW.seq_k fun K8 h8 => ?_
      all_goals refine AW.reg0 ?_
      all_goals iterate 4 (refine S.g rfl rfl fun K' k' => ?_; simp only [zz, reduceIte, Nat.reduceEqDiff, Nat.reduceLT, Nat.reduceLeDiff, Nat.reduceAdd, reduceCtorEq, Nat.reduceMul, of170_0, ok82, sz82, ag82, ptrV, hr, map2, List.getD_cons_succ, List.getD_cons_zero]; refine k' _ _ ?_; clear k' K')
      all_goals (refine S.g rfl rfl fun K' k' => ?_; simp only [zz, reduceIte, Nat.reduceEqDiff, Nat.reduceLT, Nat.reduceLeDiff, Nat.reduceAdd, reduceCtorEq, Nat.reduceMul, ptrV, hr, map2, List.getD_cons_succ, List.getD_cons_zero]; refine (sNum_spec g b q _ hs.src hb hb256 hs.le).to fun v σ2 hv => ?_; simp only [hN] at hv; obtain ⟨rfl, hσ⟩ := hv <;> (refine k' _ _ ?_; clear k' K'))
      all_goals iterate 5 (refine S.g rfl rfl fun K' k' => ?_; simp only [zz, reduceIte, Nat.reduceEqDiff, Nat.reduceLT, Nat.reduceLeDiff, Nat.reduceAdd, reduceCtorEq, Nat.reduceMul, ptrV, hr, map2, List.getD_cons_succ, List.getD_cons_zero]; refine k' _ _ ?_; clear k' K')
      all_goals refine S.nil ?_
      all_goals simp only [ze, reduceIte, Nat.reduceEqDiff, Nat.reduceLT, Nat.reduceLeDiff, Nat.reduceAdd, reduceCtorEq, Nat.reduceMul, ptrV, hr, map2, List.getD_cons_succ, List.getD_cons_zero]
      all_goals apply_assumption
      have hs2 : RS g r b (q + c) 0 σ2 := by rw [hσ]; exact hs.setg (by omega)
      have hf2 : Fr2 g r σ σ2 := by rw [hσ]; exact Fr2.setg
      refine AW.seq_k fun K9 h9 => ?_
      all_goals refine AW.reg0 ?_
      all_goals iterate 2 (refine S.g rfl rfl fun K' k' => ?_; simp only [zz, reduceIte, Nat.reduceEqDiff, Nat.reduceAdd, pw]; refine k' _ _ ?_; clear k' K')
      all_goals (refine S.g rfl rfl fun K' k' => ?_; simp only [zz, reduceIte, Nat.reduceEqDiff, Nat.reduceLT, Nat.reduceLeDiff, Nat.reduceAdd, reduceCtorEq, Nat.reduceMul, pw]; refine (keep_spec g r b _ 0 _ _ hs2).to fun v σ3 hv => ?_; obtain ⟨rfl, hs3, hf3⟩ := hv <;> (refine k' _ _ ?_; clear k' K'))
      all_goals refine S.nil ?_
      all_goals simp only [ze, reduceIte, Nat.reduceEqDiff, Nat.reduceLT, Nat.reduceLeDiff, Nat.reduceAdd, reduceCtorEq, Nat.reduceMul, pw]
      all_goals apply_assumption
      refine AW.seq_k fun K10 h10 => ?_
      all_goals refine AW.reg0 ?_
      all_goals iterate 2 (refine S.g rfl rfl fun K' k' => ?_; simp only [zz, reduceIte, Nat.reduceEqDiff, Nat.reduceAdd]; refine k' _ _ ?_; clear k' K')
      all_goals refine S.nil ?_
      all_goals simp only [ze, reduceIte, Nat.reduceEqDiff, Nat.reduceLT, Nat.reduceLeDiff, Nat.reduceAdd, reduceCtorEq, Nat.reduceMul]
      all_goals apply_assumption
      refine AW.ret ?_
      all_goals simp only [zs, reduceIte, Nat.reduceEqDiff, Nat.reduceLT, Nat.reduceLeDiff, Nat.reduceAdd, reduceCtorEq, Nat.reduceMul]
      exact ⟨u, _, _, rfl, trivial, hs3, hf2.trans hf3, .inl ⟨rfl, At_ok hN⟩⟩
end Go.Abs.M
