import Derived.Test.YtmhamgllanihoaaNe
namespace Go.Abs.M
open Go Go.Abs Go.Proofs
set_option maxRecDepth 20000
set_option linter.unusedSimpArgs false
set_option linter.unusedVariables false

theorem and7 : ∀ c : Nat, c < 256 → IntKind.u8.wrap ((BitVec.ofInt IntKind.u8.bits (c : Int) &&& BitVec.ofInt IntKind.u8.bits 7).toNat : Int) = ((c % 8 : Nat) : Int) := by decide +kernel
theorem law_writes (l : List Bd) (c : Nat) (hc : c < 256) (hok : okP l) (hn : inA l) : PCalls Try.prog 6 [.agg [.sl (l.map encBd)], .c (.int .u8 c)] (fun v => v = .c (.bool true)) := by
  have hbl : ∀ x ∈ bytesP l, x < 256 := fun x hx => by
    unfold bytesP at hx
    split at hx
    · exact packB_lt _ x hx
    · cases hx
  have hpl : (putP l).length ≤ 150000 := by
    unfold putP
    split
    · rename_i h; exact part_bits (part_good h hok hn)
    · simp
  refine PCalls.intro Try.call6 Try.func6 rfl Try.ntmps6 Try.results6 (by simp) ?_
  have ha7 := and7 c hc
  have hwu : IntKind.u64.wrap ((c % 8 : Nat) : Int) = ((c % 8 : Nat) : Int) := wrap_u64 (by omega)
  refine AW.seq_k fun K1 h1 => ?_
  all_goals refine AW.reg0 ?_
  all_goals iterate 2 (refine S.g rfl rfl fun K' k' => ?_; simp only [zz, reduceIte, Nat.reduceEqDiff, Nat.reduceLT, Nat.reduceLeDiff, Nat.reduceAdd, reduceCtorEq, Nat.reduceMul, ok24, sz24, ag24]; refine k' _ _ ?_; clear k' K')
  all_goals refine S.nil ?_
  all_goals simp only [ze, reduceIte, Nat.reduceEqDiff, Nat.reduceLT, Nat.reduceLeDiff, Nat.reduceAdd, reduceCtorEq, Nat.reduceMul]
  all_goals first | refine h1 _ _ ?_
  refine AW.seq_k fun K2 h2 => ?_
  all_goals refine AW.reg0 ?_
  all_goals (refine S.g rfl rfl fun K' k' => ?_; simp only [zz, reduceIte, Nat.reduceEqDiff, Nat.reduceLT, Nat.reduceLeDiff, Nat.reduceAdd, reduceCtorEq, Nat.reduceMul, ok24, sz24, ag24, Nat.reduceLT, Nat.reduceLeDiff]; refine k' _ _ ?_; clear k' K')
  all_goals (refine S.g rfl rfl fun K' k' => ?_; simp only [zz, reduceIte, Nat.reduceEqDiff, Nat.reduceLT, Nat.reduceLeDiff, Nat.reduceAdd, reduceCtorEq, Nat.reduceMul, Nat.reduceLT, Nat.reduceLeDiff]; refine PCalls.eqto (Bytes_spec l hok hn) ?_ <;> (refine k' _ _ ?_; clear k' K'))
  all_goals iterate 5 (refine S.g rfl rfl fun K' k' => ?_; simp only [zz, reduceIte, Nat.reduceEqDiff, Nat.reduceAdd, Nat.reduceLT, Nat.reduceLeDiff]; refine k' _ _ ?_; clear k' K')
  all_goals refine S.nil ?_
  all_goals simp only [ze, reduceIte, Nat.reduceEqDiff, Nat.reduceLT, Nat.reduceLeDiff, Nat.reduceAdd, reduceCtorEq, Nat.reduceMul, Nat.reduceLT, Nat.reduceLeDiff]
  all_goals first | refine h2 _ _ ?_ | refine h1 _ _ ?_
  refine AW.seq_k fun K3 h3 => ?_
  all_goals refine AW.reg0 ?_
  all_goals (refine S.g rfl rfl fun K' k' => ?_; simp only [zz, reduceIte, Nat.reduceEqDiff, Nat.reduceLT, Nat.reduceLeDiff, Nat.reduceAdd, reduceCtorEq, Nat.reduceMul, ok24, sz24, ag24, Nat.reduceLT, Nat.reduceLeDiff]; refine k' _ _ ?_; clear k' K')
  all_goals (refine S.g rfl rfl fun K' k' => ?_; simp only [zz, reduceIte, Nat.reduceEqDiff, Nat.reduceLT, Nat.reduceLeDiff, Nat.reduceAdd, reduceCtorEq, Nat.reduceMul, Nat.reduceLT, Nat.reduceLeDiff]; refine PCalls.eqto (rBytes_spec l hok hn) ?_ <;> (refine k' _ _ ?_; clear k' K'))
  all_goals iterate 5 (refine S.g rfl rfl fun K' k' => ?_; simp only [zz, reduceIte, Nat.reduceEqDiff, Nat.reduceAdd, Nat.reduceLT, Nat.reduceLeDiff]; refine k' _ _ ?_; clear k' K')
  all_goals refine S.nil ?_
  all_goals simp only [ze, reduceIte, Nat.reduceEqDiff, Nat.reduceLT, Nat.reduceLeDiff, Nat.reduceAdd, reduceCtorEq, Nat.reduceMul, Nat.reduceLT, Nat.reduceLeDiff]
  all_goals first | refine h3 _ _ ?_ | refine h2 _ _ ?_ | refine h1 _ _ ?_
  refine AW.seq_k fun K4 h4 => ?_
  all_goals refine AW.reg0 ?_
  all_goals (refine S.g rfl rfl fun K' k' => ?_; simp only [zz, reduceIte, Nat.reduceEqDiff, Nat.reduceLT, Nat.reduceLeDiff, Nat.reduceAdd, reduceCtorEq, Nat.reduceMul]; refine (NewSink_spec _).to fun v σ2 hv => ?_; obtain ⟨o, rfl, hno, hso, rfl⟩ := hv <;> (refine k' _ _ ?_; clear k' K'))
  all_goals (refine S.g rfl rfl fun K' k' => ?_; simp only [zz, reduceIte, Nat.reduceEqDiff, Nat.reduceAdd]; refine k' _ _ ?_; clear k' K')
  all_goals refine S.nil ?_
  all_goals simp only [ze, reduceIte, Nat.reduceEqDiff, Nat.reduceLT, Nat.reduceLeDiff, Nat.reduceAdd, reduceCtorEq, Nat.reduceMul]
  all_goals first | refine h4 _ _ ?_ | refine h3 _ _ ?_ | refine h2 _ _ ?_ | refine h1 _ _ ?_
  refine AW.seq_k fun K5 h5 => ?_
  refine AW.seq_k fun K6 h6 => ?_
  all_goals refine AW.reg0 ?_
  all_goals (refine S.g rfl rfl fun K' k' => ?_; simp only [zz, reduceIte, Nat.reduceEqDiff, Nat.reduceLT, Nat.reduceLeDiff, Nat.reduceAdd, reduceCtorEq, Nat.reduceMul, pw, ptrV, un51, un4, TypeDesc.pointer.injEq, ha7, hwu]; refine PCalls.eqto begun_spec ?_; refine S.bool fun b a23 => ?_; cases b <;> (try (exfalso; first | exact Bool.noConfusion a23 | (have h := of_decide_eq_true a23; omega) | (have h := of_decide_eq_false a23; omega))) <;> (refine k' _ _ ?_; clear k' K'))
  all_goals iterate 2 (refine S.g rfl rfl fun K' k' => ?_; simp only [zz, reduceIte, Nat.reduceEqDiff, Nat.reduceAdd, pw, ptrV, un51, un4, TypeDesc.pointer.injEq, ha7, hwu]; refine k' _ _ ?_; clear k' K')
  all_goals (first | (refine S.y rfl rfl rfl rfl fun K' k' => ?_; simp only [zz, reduceIte, Nat.reduceEqDiff, Nat.reduceAdd, pw, ptrV, un51, un4, TypeDesc.pointer.injEq, ha7, hwu]; refine k' _ _ ?_; clear k' K') | ((first | refine S.x rfl rfl rfl rfl fun K' k' => ?_ | refine S.u rfl rfl rfl rfl fun K' k' => ?_); simp only [ze, reduceIte, Nat.reduceEqDiff]; refine k' _ _ ?_; clear k' K'))
  all_goals (first | (refine S.y rfl rfl rfl rfl fun K' k' => ?_; simp only [zz, reduceIte, Nat.reduceEqDiff, Nat.reduceLT, Nat.reduceLeDiff, Nat.reduceAdd, reduceCtorEq, Nat.reduceMul, un51, pw, ptrV, un51, un4, TypeDesc.pointer.injEq, ha7, hwu]; refine S.bool fun b a27 => ?_; cases b <;> (try (exfalso; first | exact Bool.noConfusion a27 | (have h := of_decide_eq_true a27; omega) | (have h := of_decide_eq_false a27; omega))) <;> (refine k' _ _ ?_; clear k' K')) | ((first | refine S.x rfl rfl rfl rfl fun K' k' => ?_ | refine S.u rfl rfl rfl rfl fun K' k' => ?_); simp only [ze, reduceIte, Nat.reduceEqDiff]; refine k' _ _ ?_; clear k' K'))
  all_goals iterate 2 (refine S.g rfl rfl fun K' k' => ?_; simp only [zz, reduceIte, Nat.reduceEqDiff, Nat.reduceAdd, pw, ptrV, un51, un4, TypeDesc.pointer.injEq, ha7, hwu]; refine k' _ _ ?_; clear k' K')
  all_goals iterate 4 (first | (refine S.y rfl rfl rfl rfl fun K' k' => ?_; simp only [zz, reduceIte, Nat.reduceEqDiff, Nat.reduceAdd, cv5_54, pw, ptrV, un51, un4, TypeDesc.pointer.injEq, ha7, hwu]; refine k' _ _ ?_; clear k' K') | ((first | refine S.x rfl rfl rfl rfl fun K' k' => ?_ | refine S.u rfl rfl rfl rfl fun K' k' => ?_); simp only [ze, reduceIte, Nat.reduceEqDiff]; refine k' _ _ ?_; clear k' K'))
  all_goals (first | (refine S.y rfl rfl rfl rfl fun K' k' => ?_; simp only [zz, reduceIte, Nat.reduceEqDiff, Nat.reduceLT, Nat.reduceLeDiff, Nat.reduceAdd, reduceCtorEq, Nat.reduceMul, pw, ptrV, un51, un4, TypeDesc.pointer.injEq, ha7, hwu]; refine (Bits_spec o [] (c % 8) 3 _ hso (by omega) (by omega) (by simp)).to fun v σ3 hv => ?_; obtain ⟨rfl, hs2, hf2⟩ := hv <;> (refine k' _ _ ?_; clear k' K')) | ((first | refine S.x rfl rfl rfl rfl fun K' k' => ?_ | refine S.u rfl rfl rfl rfl fun K' k' => ?_); simp only [ze, reduceIte, Nat.reduceEqDiff]; refine k' _ _ ?_; clear k' K'))
  all_goals (first | (refine S.y rfl rfl rfl rfl fun K' k' => ?_; simp only [zz, reduceIte, Nat.reduceEqDiff, Nat.reduceAdd, pw, ptrV, un51, un4, TypeDesc.pointer.injEq, ha7, hwu]; refine k' _ _ ?_; clear k' K') | ((first | refine S.x rfl rfl rfl rfl fun K' k' => ?_ | refine S.u rfl rfl rfl rfl fun K' k' => ?_); simp only [ze, reduceIte, Nat.reduceEqDiff]; refine k' _ _ ?_; clear k' K'))
  all_goals (refine S.g rfl rfl fun K' k' => ?_; simp only [zz, reduceIte, Nat.reduceEqDiff, Nat.reduceAdd, pw, ptrV, un51, un4, TypeDesc.pointer.injEq, ha7, hwu]; refine k' _ _ ?_; clear k' K')
  all_goals refine S.nil ?_
  all_goals simp only [ze, reduceIte, Nat.reduceEqDiff, Nat.reduceLT, Nat.reduceLeDiff, Nat.reduceAdd, reduceCtorEq, Nat.reduceMul, pw, ptrV, un51, un4, TypeDesc.pointer.injEq, ha7, hwu]
  all_goals first | refine h6 _ _ ?_ | refine h5 _ _ ?_ | refine h4 _ _ ?_ | refine h3 _ _ ?_ | refine h2 _ _ ?_ | refine h1 _ _ ?_
  refine AW.cond (b := false) (by simp [ev]) (fun hc => by cases hc) (fun hc => ?_)
  refine AW.skip ?_
  all_goals simp only [zs, reduceIte, Nat.reduceEqDiff, Nat.reduceLT, Nat.reduceLeDiff, Nat.reduceAdd, reduceCtorEq, Nat.reduceMul]
  all_goals first | refine h6 _ _ ?_ | refine h5 _ _ ?_ | refine h4 _ _ ?_ | refine h3 _ _ ?_ | refine h2 _ _ ?_ | refine h1 _ _ ?_
  refine AW.seq_k fun K7 h7 => ?_
  all_goals refine AW.reg0 ?_
  all_goals iterate 2 (refine S.g rfl rfl fun K' k' => ?_; simp only [zz, reduceIte, Nat.reduceEqDiff, Nat.reduceLT, Nat.reduceLeDiff, Nat.reduceAdd, reduceCtorEq, Nat.reduceMul, ok24, sz24, ag24]; refine k' _ _ ?_; clear k' K')
  all_goals (refine S.g rfl rfl fun K' k' => ?_; simp only [zz, reduceIte, Nat.reduceEqDiff, Nat.reduceLT, Nat.reduceLeDiff, Nat.reduceAdd, reduceCtorEq, Nat.reduceMul]; refine (Put_spec o _ l _ hs2 hok hn (by simp [lowB_len])).to fun v σ4 hv => ?_; obtain ⟨rfl, hs3, hf3⟩ := hv <;> (refine k' _ _ ?_; clear k' K'))
  all_goals (refine S.g rfl rfl fun K' k' => ?_; simp only [zz, reduceIte, Nat.reduceEqDiff, Nat.reduceAdd]; refine k' _ _ ?_; clear k' K')
  all_goals refine S.nil ?_
  all_goals simp only [ze, reduceIte, Nat.reduceEqDiff, Nat.reduceLT, Nat.reduceLeDiff, Nat.reduceAdd, reduceCtorEq, Nat.reduceMul]
  all_goals first | refine h7 _ _ ?_ | refine h6 _ _ ?_ | refine h5 _ _ ?_ | refine h4 _ _ ?_ | refine h3 _ _ ?_ | refine h2 _ _ ?_ | refine h1 _ _ ?_
  refine AW.seq_k fun K8 h8 => ?_
  all_goals refine AW.reg0 ?_
  all_goals iterate 3 (refine S.g rfl rfl fun K' k' => ?_; simp only [zz, reduceIte, Nat.reduceEqDiff, Nat.reduceAdd, cv5_54, ha7, hwu]; refine k' _ _ ?_; clear k' K')
  all_goals (refine S.g rfl rfl fun K' k' => ?_; simp only [zz, reduceIte, Nat.reduceEqDiff, Nat.reduceLT, Nat.reduceLeDiff, Nat.reduceAdd, reduceCtorEq, Nat.reduceMul, ha7, hwu]; refine (Low_grow (c % 8) 3 _ (by omega) (by omega)).to fun v σ5 hv => ?_; obtain ⟨k, rfl, hk, rfl⟩ := hv <;> (refine k' _ _ ?_; clear k' K'))
  all_goals (refine S.g rfl rfl fun K' k' => ?_; simp only [zz, reduceIte, Nat.reduceEqDiff, Nat.reduceAdd, ha7, hwu]; refine k' _ _ ?_; clear k' K')
  all_goals refine S.nil ?_
  all_goals simp only [ze, reduceIte, Nat.reduceEqDiff, Nat.reduceLT, Nat.reduceLeDiff, Nat.reduceAdd, reduceCtorEq, Nat.reduceMul, ha7, hwu]
  all_goals first | refine h8 _ _ ?_ | refine h7 _ _ ?_ | refine h6 _ _ ?_ | refine h5 _ _ ?_ | refine h4 _ _ ?_ | refine h3 _ _ ?_ | refine h2 _ _ ?_ | refine h1 _ _ ?_
  refine AW.seq_j (fun s σ' => s.t 5 = .sl ((bytesP l).map encB) ∧ s.t 7 = .sl ((bytesP l).map encB) ∧ s.t 6 = .c (.int .i64 (partErr l)) ∧ s.t 8 = .c (.int .i64 (partErr l)) ∧ s.t 10 = .c (.int .i64 (partErr l)) ∧ s.t 9 = ptrV o ∧
    ∃ k σ4, s.t 11 = .gl k ∧ σ4.gr k = none ∧ σ' = σ4.setGr k (some ((4, 1), (lowB (c % 8) 3 ++ putP l).map encT)) ∧ Snk o (lowB (c % 8) 3 ++ putP l) σ4) ?_ ?_
  · refine AW.seq_k fun K9 h9 => ?_
    all_goals refine AW.reg0 ?_
    all_goals iterate 2 (refine S.g rfl rfl fun K' k' => ?_; simp only [zz, reduceIte, Nat.reduceEqDiff, Nat.reduceAdd]; refine k' _ _ ?_; clear k' K')
    all_goals refine S.nil ?_
    all_goals simp only [ze, reduceIte, Nat.reduceEqDiff, Nat.reduceLT, Nat.reduceLeDiff, Nat.reduceAdd, reduceCtorEq, Nat.reduceMul]
    all_goals first | refine h9 _ _ ?_ | refine h8 _ _ ?_ | refine h7 _ _ ?_ | refine h6 _ _ ?_ | refine h5 _ _ ?_ | refine h4 _ _ ?_ | refine h3 _ _ ?_ | refine h2 _ _ ?_ | refine h1 _ _ ?_
    refine AW.cond (b := decide (partErr l = 0)) (by simp [ev]; try rfl) (fun hc => ?_) (fun hc => ?_)
    · have hpe := of_decide_eq_true hc
      have hpb := part_bits (part_good hpe hok hn)
      all_goals refine AW.reg0 ?_
      all_goals iterate 2 (refine S.g rfl rfl fun K' k' => ?_; simp only [zz, reduceIte, Nat.reduceEqDiff, Nat.reduceLT, Nat.reduceLeDiff, Nat.reduceAdd, reduceCtorEq, Nat.reduceMul, ok24, sz24, ag24]; refine k' _ _ ?_; clear k' K')
      all_goals (refine S.g rfl rfl fun K' k' => ?_; simp only [zz, reduceIte, Nat.reduceEqDiff, Nat.reduceLT, Nat.reduceLeDiff, Nat.reduceAdd, reduceCtorEq, Nat.reduceMul]; refine (Own.frz (partForm_grow l _ (part_good hpe hok hn))).to fun v σ1 hv => ?_; obtain ⟨rfl, rfl⟩ := hv <;> (refine k' _ _ ?_; clear k' K'))
      all_goals (refine S.g rfl rfl fun K' k' => ?_; simp only [zz, reduceIte, Nat.reduceEqDiff, Nat.reduceLT, Nat.reduceLeDiff, Nat.reduceAdd, reduceCtorEq, Nat.reduceMul, sl56, el56, ok4, sz4, ag4, zt4, by4]; refine ⟨encT_len, by unfold maxLen; simp only [lowB_len]; omega, by unfold reach; simp only [lowB_len]; omega, fun k2 hk2 => ?_⟩; have hk2 := gr_del hk hk2; simp only [Hp.setGr_none hk] <;> (refine k' _ _ ?_; clear k' K'))
      all_goals (refine S.g rfl rfl fun K' k' => ?_; simp only [zz, reduceIte, Nat.reduceEqDiff, Nat.reduceAdd]; refine k' _ _ ?_; clear k' K')
      all_goals refine S.nil ?_
      all_goals simp only [ze, reduceIte, Nat.reduceEqDiff, Nat.reduceLT, Nat.reduceLeDiff, Nat.reduceAdd, reduceCtorEq, Nat.reduceMul]
      exact ⟨rfl, k2, _, rfl, hk2, by rw [putP, if_pos hpe, List.map_append], by simpa using hs3⟩
    · have hpe := of_decide_eq_false hc
      refine AW.skip ?_
      all_goals simp only [zs, reduceIte, Nat.reduceEqDiff, Nat.reduceLT, Nat.reduceLeDiff, Nat.reduceAdd, reduceCtorEq, Nat.reduceMul]
      exact ⟨rfl, k, _, rfl, hk, by rw [putP, if_neg hpe, List.append_nil], by simpa using hs3⟩
  clear hs2 hf2 hs3 hf3 hk hso hno
  rintro s σ' ⟨e5, e7, e6, e8, e10, e9, k, σ4, e11, hk, rfl, hs3⟩
  have hne : lowB (c % 8) 3 ++ putP l ≠ [] := fun e => by have := congrArg List.length e; simp [lowB_len] at this
  have hlen : (lowB (c % 8) 3 ++ putP l).length ≤ 150003 := by rw [List.length_append, lowB_len]; omega
  generalize lowB (c % 8) 3 ++ putP l = bits at *
  refine AW.freeze (k := k) (T := (4, 1)) (es := bits.map encT) (by simp only [Hp.setGr_gr, if_true]) ?_
  rw [Hp.setGr_setGr, Hp.setGr_none hk]
  unfold ptrV at e9
  refine AW.seq_k fun K10 h10 => ?_
  all_goals refine AW.reg0 ?_
  all_goals iterate 2 (refine S.g rfl rfl fun K' k' => ?_; simp only [zz, reduceIte, Nat.reduceEqDiff, Nat.reduceAdd, e5, e6, e7, e8, e9, e10, e11, fzV, fz1, St.fz_t, St.fz_l, beq_self_eq_true]; refine k' _ _ ?_; clear k' K')
  all_goals (refine S.g rfl rfl fun K' k' => ?_; simp only [zz, reduceIte, Nat.reduceEqDiff, Nat.reduceLT, Nat.reduceLeDiff, Nat.reduceAdd, reduceCtorEq, Nat.reduceMul, e5, e6, e7, e8, e9, e10, e11, fzV, fz1, St.fz_t, St.fz_l, beq_self_eq_true]; refine PCalls.eqto (equal_b (bytesP l) hbl) ?_; refine S.bool fun b a52 => ?_; cases b <;> (try (exfalso; first | exact Bool.noConfusion a52 | (have h := of_decide_eq_true a52; omega) | (have h := of_decide_eq_false a52; omega))) <;> (refine k' _ _ ?_; clear k' K'))
  all_goals (refine S.g rfl rfl fun K' k' => ?_; simp only [zz, reduceIte, Nat.reduceEqDiff, Nat.reduceAdd, e5, e6, e7, e8, e9, e10, e11, fzV, fz1, St.fz_t, St.fz_l, beq_self_eq_true]; refine k' _ _ ?_; clear k' K')
  all_goals iterate 2 (first | (refine S.y rfl rfl rfl rfl fun K' k' => ?_; simp only [zz, reduceIte, Nat.reduceEqDiff, Nat.reduceAdd, e5, e6, e7, e8, e9, e10, e11, fzV, fz1, St.fz_t, St.fz_l, beq_self_eq_true]; refine k' _ _ ?_; clear k' K') | ((first | refine S.x rfl rfl rfl rfl fun K' k' => ?_ | refine S.u rfl rfl rfl rfl fun K' k' => ?_); simp only [ze, reduceIte, Nat.reduceEqDiff]; refine k' _ _ ?_; clear k' K'))
  all_goals (first | (refine S.y rfl rfl rfl rfl fun K' k' => ?_; simp only [zz, reduceIte, Nat.reduceEqDiff, Nat.reduceLT, Nat.reduceLeDiff, Nat.reduceAdd, reduceCtorEq, Nat.reduceMul, e5, e6, e7, e8, e9, e10, e11, fzV, fz1, St.fz_t, St.fz_l, beq_self_eq_true]; refine S.bool fun b a56 => ?_; cases b <;> (try (exfalso; first | exact Bool.noConfusion a56 | (have h := of_decide_eq_true a56; omega) | (have h := of_decide_eq_false a56; omega))) <;> (refine k' _ _ ?_; clear k' K')) | ((first | refine S.x rfl rfl rfl rfl fun K' k' => ?_ | refine S.u rfl rfl rfl rfl fun K' k' => ?_); simp only [ze, reduceIte, Nat.reduceEqDiff]; refine k' _ _ ?_; clear k' K'))
  all_goals iterate 2 (refine S.g rfl rfl fun K' k' => ?_; simp only [zz, reduceIte, Nat.reduceEqDiff, Nat.reduceAdd, e5, e6, e7, e8, e9, e10, e11, fzV, fz1, St.fz_t, St.fz_l, beq_self_eq_true]; refine k' _ _ ?_; clear k' K')
  all_goals iterate 2 (first | (refine S.y rfl rfl rfl rfl fun K' k' => ?_; simp only [zz, reduceIte, Nat.reduceEqDiff, Nat.reduceAdd, e5, e6, e7, e8, e9, e10, e11, fzV, fz1, St.fz_t, St.fz_l, beq_self_eq_true]; refine k' _ _ ?_; clear k' K') | ((first | refine S.x rfl rfl rfl rfl fun K' k' => ?_ | refine S.u rfl rfl rfl rfl fun K' k' => ?_); simp only [ze, reduceIte, Nat.reduceEqDiff]; refine k' _ _ ?_; clear k' K'))
  all_goals (first | (refine S.y rfl rfl rfl rfl fun K' k' => ?_; simp only [zz, reduceIte, Nat.reduceEqDiff, Nat.reduceLT, Nat.reduceLeDiff, Nat.reduceAdd, reduceCtorEq, Nat.reduceMul, e5, e6, e7, e8, e9, e10, e11, fzV, fz1, St.fz_t, St.fz_l, beq_self_eq_true]; refine S.bool fun b a61 => ?_; cases b <;> (try (exfalso; first | exact Bool.noConfusion a61 | (have h := of_decide_eq_true a61; omega) | (have h := of_decide_eq_false a61; omega))) <;> (refine k' _ _ ?_; clear k' K')) | ((first | refine S.x rfl rfl rfl rfl fun K' k' => ?_ | refine S.u rfl rfl rfl rfl fun K' k' => ?_); simp only [ze, reduceIte, Nat.reduceEqDiff]; refine k' _ _ ?_; clear k' K'))
  all_goals iterate 2 (refine S.g rfl rfl fun K' k' => ?_; simp only [zz, reduceIte, Nat.reduceEqDiff, Nat.reduceAdd, e5, e6, e7, e8, e9, e10, e11, fzV, fz1, St.fz_t, St.fz_l, beq_self_eq_true]; refine k' _ _ ?_; clear k' K')
  all_goals (first | (refine S.y rfl rfl rfl rfl fun K' k' => ?_; simp only [zz, reduceIte, Nat.reduceEqDiff, Nat.reduceAdd, e5, e6, e7, e8, e9, e10, e11, fzV, fz1, St.fz_t, St.fz_l, beq_self_eq_true]; refine k' _ _ ?_; clear k' K') | ((first | refine S.x rfl rfl rfl rfl fun K' k' => ?_ | refine S.u rfl rfl rfl rfl fun K' k' => ?_); simp only [ze, reduceIte, Nat.reduceEqDiff]; refine k' _ _ ?_; clear k' K'))
  all_goals (first | (refine S.y rfl rfl rfl rfl fun K' k' => ?_; simp only [zz, reduceIte, Nat.reduceEqDiff, Nat.reduceLT, Nat.reduceLeDiff, Nat.reduceAdd, reduceCtorEq, Nat.reduceMul, e5, e6, e7, e8, e9, e10, e11, fzV, fz1, St.fz_t, St.fz_l, beq_self_eq_true]; refine (Len_spec o _ _ hs3).to fun v σ5 hv => ?_; obtain ⟨rfl, rfl⟩ := hv <;> (refine k' _ _ ?_; clear k' K')) | ((first | refine S.x rfl rfl rfl rfl fun K' k' => ?_ | refine S.u rfl rfl rfl rfl fun K' k' => ?_); simp only [ze, reduceIte, Nat.reduceEqDiff]; refine k' _ _ ?_; clear k' K'))
  all_goals iterate 2 (first | (refine S.y rfl rfl rfl rfl fun K' k' => ?_; simp only [zz, reduceIte, Nat.reduceEqDiff, Nat.reduceLT, Nat.reduceLeDiff, Nat.reduceAdd, reduceCtorEq, Nat.reduceMul, sl56, el56, ok4, sz4, ag4, e5, e6, e7, e8, e9, e10, e11, fzV, fz1, St.fz_t, St.fz_l, beq_self_eq_true]; refine k' _ _ ?_; clear k' K') | ((first | refine S.x rfl rfl rfl rfl fun K' k' => ?_ | refine S.u rfl rfl rfl rfl fun K' k' => ?_); simp only [ze, reduceIte, Nat.reduceEqDiff]; refine k' _ _ ?_; clear k' K'))
  all_goals (first | (refine S.y rfl rfl rfl rfl fun K' k' => ?_; simp only [zz, reduceIte, Nat.reduceEqDiff, Nat.reduceLT, Nat.reduceLeDiff, Nat.reduceAdd, reduceCtorEq, Nat.reduceMul, e5, e6, e7, e8, e9, e10, e11, fzV, fz1, St.fz_t, St.fz_l, beq_self_eq_true]; refine S.bool fun b a68 => ?_; cases b <;> (try (exfalso; first | exact Bool.noConfusion a68 | (have h := of_decide_eq_true a68; omega) | (have h := of_decide_eq_false a68; omega))) <;> (refine k' _ _ ?_; clear k' K')) | ((first | refine S.x rfl rfl rfl rfl fun K' k' => ?_ | refine S.u rfl rfl rfl rfl fun K' k' => ?_); simp only [ze, reduceIte, Nat.reduceEqDiff]; refine k' _ _ ?_; clear k' K'))
  all_goals iterate 2 (refine S.g rfl rfl fun K' k' => ?_; simp only [zz, reduceIte, Nat.reduceEqDiff, Nat.reduceAdd, e5, e6, e7, e8, e9, e10, e11, fzV, fz1, St.fz_t, St.fz_l, beq_self_eq_true]; refine k' _ _ ?_; clear k' K')
  all_goals (first | (refine S.y rfl rfl rfl rfl fun K' k' => ?_; simp only [zz, reduceIte, Nat.reduceEqDiff, Nat.reduceAdd, e5, e6, e7, e8, e9, e10, e11, fzV, fz1, St.fz_t, St.fz_l, beq_self_eq_true]; refine k' _ _ ?_; clear k' K') | ((first | refine S.x rfl rfl rfl rfl fun K' k' => ?_ | refine S.u rfl rfl rfl rfl fun K' k' => ?_); simp only [ze, reduceIte, Nat.reduceEqDiff]; refine k' _ _ ?_; clear k' K'))
  all_goals (first | (refine S.y rfl rfl rfl rfl fun K' k' => ?_; simp only [zz, reduceIte, Nat.reduceEqDiff, Nat.reduceLT, Nat.reduceLeDiff, Nat.reduceAdd, reduceCtorEq, Nat.reduceMul, e5, e6, e7, e8, e9, e10, e11, fzV, fz1, St.fz_t, St.fz_l, beq_self_eq_true]; refine (Out_spec o _ _ hs3 hne (by omega)).to fun v σ4 hv => ?_; obtain ⟨rfl, rfl⟩ := hv <;> (refine k' _ _ ?_; clear k' K')) | ((first | refine S.x rfl rfl rfl rfl fun K' k' => ?_ | refine S.u rfl rfl rfl rfl fun K' k' => ?_); simp only [ze, reduceIte, Nat.reduceEqDiff]; refine k' _ _ ?_; clear k' K'))
  all_goals (first | (refine S.y rfl rfl rfl rfl fun K' k' => ?_; simp only [zz, reduceIte, Nat.reduceEqDiff, Nat.reduceAdd, e5, e6, e7, e8, e9, e10, e11, fzV, fz1, St.fz_t, St.fz_l, beq_self_eq_true]; refine k' _ _ ?_; clear k' K') | ((first | refine S.x rfl rfl rfl rfl fun K' k' => ?_ | refine S.u rfl rfl rfl rfl fun K' k' => ?_); simp only [ze, reduceIte, Nat.reduceEqDiff]; refine k' _ _ ?_; clear k' K'))
  all_goals (first | (refine S.y rfl rfl rfl rfl fun K' k' => ?_; simp only [zz, reduceIte, Nat.reduceEqDiff, Nat.reduceLT, Nat.reduceLeDiff, Nat.reduceAdd, reduceCtorEq, Nat.reduceMul, e5, e6, e7, e8, e9, e10, e11, fzV, fz1, St.fz_t, St.fz_l, beq_self_eq_true]; refine (pack_frz _ _ (by omega)).to fun v σ1 hv => ?_; obtain ⟨rfl, rfl⟩ := hv <;> (refine k' _ _ ?_; clear k' K')) | ((first | refine S.x rfl rfl rfl rfl fun K' k' => ?_ | refine S.u rfl rfl rfl rfl fun K' k' => ?_); simp only [ze, reduceIte, Nat.reduceEqDiff]; refine k' _ _ ?_; clear k' K'))
  all_goals (first | (refine S.y rfl rfl rfl rfl fun K' k' => ?_; simp only [zz, reduceIte, Nat.reduceEqDiff, Nat.reduceLT, Nat.reduceLeDiff, Nat.reduceAdd, reduceCtorEq, Nat.reduceMul, e5, e6, e7, e8, e9, e10, e11, fzV, fz1, St.fz_t, St.fz_l, beq_self_eq_true]; refine PCalls.eqto (equal_b _ (packB_lt _)) ?_ <;> (refine k' _ _ ?_; clear k' K')) | ((first | refine S.x rfl rfl rfl rfl fun K' k' => ?_ | refine S.u rfl rfl rfl rfl fun K' k' => ?_); simp only [ze, reduceIte, Nat.reduceEqDiff]; refine k' _ _ ?_; clear k' K'))
  all_goals iterate 2 (refine S.g rfl rfl fun K' k' => ?_; simp only [zz, reduceIte, Nat.reduceEqDiff, Nat.reduceAdd, e5, e6, e7, e8, e9, e10, e11, fzV, fz1, St.fz_t, St.fz_l, beq_self_eq_true]; refine k' _ _ ?_; clear k' K')
  all_goals refine S.nil ?_
  all_goals simp only [ze, reduceIte, Nat.reduceEqDiff, Nat.reduceLT, Nat.reduceLeDiff, Nat.reduceAdd, reduceCtorEq, Nat.reduceMul, e5, e6, e7, e8, e9, e10, e11, fzV, fz1, St.fz_t, St.fz_l, beq_self_eq_true]
  all_goals first | refine h10 _ _ ?_ | refine h9 _ _ ?_ | refine h8 _ _ ?_ | refine h7 _ _ ?_ | refine h6 _ _ ?_ | refine h5 _ _ ?_ | refine h4 _ _ ?_ | refine h3 _ _ ?_ | refine h2 _ _ ?_ | refine h1 _ _ ?_
  refine AW.bare (AW.ret ?_)
  all_goals simp only [zs, reduceIte, Nat.reduceEqDiff, Nat.reduceLT, Nat.reduceLeDiff, Nat.reduceAdd, reduceCtorEq, Nat.reduceMul]
end Go.Abs.M
namespace Go.Abs.M
open Go Go.Abs Go.Proofs
set_option linter.unusedSimpArgs false
set_option maxRecDepth 20000
theorem attr_num {n : Nat} {a : Attr} (h : Fit Try.prog n 143 (encAttr a)) : inI64 a.v.n := by
  obtain ⟨_, m, _, hf⟩ := h.st Try.underlying143
  have h1 : Fit Try.prog m 141 (((encAttr a).drop 1).take (Try.prog.cellsOf 141)) := hf 1 _ rfl
  rw [co141] at h1
  obtain ⟨_, m', _, hg⟩ := h1.st Try.underlying141
  have h2 : Fit Try.prog m' 2 (((((encAttr a).drop 1).take 3).drop 1).take (Try.prog.cellsOf 2)) := hg 1 _ rfl
  rw [co2] at h2
  obtain ⟨x, hx, hw⟩ := h2.int Try.underlying2
  simp [encAttr] at hx
  rw [hx]; exact inI64_of hw
theorem bd_num {n : Nat} {b : Bd} (h : Fit Try.prog n 42 (encBd b)) : ∀ a ∈ b.ev.attrs, inI64 a.v.n := by
  obtain ⟨_, m, _, hf⟩ := h.st Try.underlying42
  have h1 : Fit Try.prog m 36 (((encBd b).drop 1).take (Try.prog.cellsOf 36)) := hf 1 _ rfl
  have h2 : ((encBd b).drop 1).take (Try.prog.cellsOf 36) = encEv b.ev := by rw [co36]; rfl
  rw [h2] at h1
  obtain ⟨_, m', _, hg⟩ := h1.st Try.underlying36
  have h3 : Fit Try.prog m' 34 (((encEv b.ev).drop 4).take (Try.prog.cellsOf 34)) := hg 3 _ rfl
  have h4 : ((encEv b.ev).drop 4).take (Try.prog.cellsOf 34) = [.sl (b.ev.attrs.map encAttr)] := by rw [co34]; rfl
  rw [h4] at h3
  obtain ⟨es, e4, hes, k, _, hk⟩ := h3.sl Try.underlying34
  simp only [List.cons.injEq, V.sl.injEq, and_true] at e4
  subst e4
  exact fun a ha => attr_num (hk _ (List.mem_map.2 ⟨a, ha, rfl⟩)).2
theorem part_num {n : Nat} {l : List Bd} (h : Fit Try.prog n 24 [.sl (l.map encBd)]) : inA l := by
  obtain ⟨_, m, _, hf⟩ := h.st Try.underlying24
  have h0 : Fit Try.prog m 22 (([V.sl (l.map encBd)].drop 0).take (Try.prog.cellsOf 22)) := hf 0 _ rfl
  simp only [co22, List.drop_zero, List.take_succ_cons, List.take_zero, List.drop_succ_cons] at h0
  obtain ⟨es, e4, hes, k, _, hk⟩ := h0.sl Try.underlying22
  simp only [List.cons.injEq, V.sl.injEq, and_true] at e4
  subst e4
  exact fun b hb => bd_num (hk _ (List.mem_map.2 ⟨b, hb, rfl⟩)).2
structure okN (l : List Bd) : Prop where
  i : okI l
  n : inA l
theorem arg_partN {H : Type} {enc : TypeId × Value → H} {W : World} {base : Nat} {v : Value} {d : DataW H} {ps : List MemPlace} (hval : Value.okWide Try.prog W .any base 24 v)
    (h : DataW.Trod enc Try.prog W 0 (fun _ => true) true 24 v d ps) (hw : ∀ n ∈ d.weights Try.prog 24, n ≤ reachBytes) : ∃ l : List Bd, VR W (cx0 W) (.agg [.sl (l.map encBd)]) v ∧ okN l := by
  have hm : (24 : TypeId) ∈ plainTs := by unfold plainTs; exact List.mem_cons_self
  obtain ⟨n, us, h1, h2⟩ := open_arg (P := Try.prog) (t := 24) plainTs plain_ok hm h hw
  have hsh : ∃ cs, v = .agg cs ∧ cs.size = 1 := by
    obtain ⟨cs, h3, h4⟩ := okWide_agg Try.underlying24 hval
    exact ⟨cs, h3, by rw [h4]; exact co24⟩
  obtain ⟨cs, rfl, hcs⟩ := hsh
  have hl : us.length = 1 := by rw [h1.1]; simpa [Value.cells] using hcs
  obtain ⟨l, rfl, hok⟩ := open_part hl h2
  exact ⟨l, VR.of_row h1, hok, part_num h2⟩
theorem law_writesN (l : List Bd) (c : Nat) (hl : okN l) (hc : c < 256) : PCalls Try.prog 6 [.agg [.sl (l.map encBd)], .c (.int .u8 c)] (fun v => v = .c (.bool true)) :=
  law_writes l c hc hl.i.ok hl.n
end Go.Abs.M
