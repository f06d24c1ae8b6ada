import Derived.Test.YtmhamgllanihoaaMg
import Derived.Test.YtmhamgllanihoaaMd
namespace Go.Abs.M
open Go Go.Abs Go.Proofs
def tN : ByteArray := ⟨#[116]⟩
def bA : Bd := ⟨⟨#[97]⟩, ⟨0, 1, 5, tN, []⟩⟩
def bB : Bd := ⟨⟨#[98]⟩, ⟨1, 0, 7, tN, []⟩⟩
def bC : Bd := ⟨⟨#[99]⟩, ⟨0, 1, 5, tN, []⟩⟩
theorem ba_list (x : UInt8) : (ByteArray.mk #[x]).toList = [x] := by simp
theorem leS_one (x y : UInt8) : leS ⟨#[x]⟩ ⟨#[y]⟩ = (decide (x < y) || x == y) := by
  simp only [leS, ba_list, Op.bytesLess]
  by_cases h : x < y <;> by_cases k : x = y <;> simp [h, k]
theorem named_A (n : Nat) : named n bA = true := by simp [named, bA, isName, nameL, nameC, letter, ByteArray.size]
theorem named_B (n : Nat) : named n bB = true := by simp [named, bB, isName, nameL, nameC, letter, ByteArray.size]
theorem named_C (n : Nat) : named n bC = true := by simp [named, bC, isName, nameL, nameC, letter, ByteArray.size]
theorem err_A : evErr bA.ev = 0 := by simp [evErr, bA, isName, nameL, nameC, letter, ByteArray.size, timeOk, attrsErr, attrsFrom, tN]
theorem err_B : evErr bB.ev = 0 := by simp [evErr, bB, isName, nameL, nameC, letter, ByteArray.size, timeOk, attrsErr, attrsFrom, tN]
theorem err_C : evErr bC.ev = 0 := by simp [evErr, bC, isName, nameL, nameC, letter, ByteArray.size, timeOk, attrsErr, attrsFrom, tN]
theorem part_A : partErr [bA] = 0 := by simp [partErr, partFrom, named_A, err_A]
theorem part_B : partErr [bB] = 0 := by simp [partErr, partFrom, named_B, err_B]
theorem part_C : partErr [bC] = 0 := by simp [partErr, partFrom, named_C, err_C]
theorem mrg_BA : mrg [bB] [bA] = [bA, bB] := by
  rw [mrg, if_neg (by simp [bA, bB, leS_one]), mrg_nil]
theorem mrg_AC : mrg [bA] [bC] = [bA, bC] := by
  rw [mrg, if_pos (by simp [bA, bC, leS_one]), mrg]
theorem part_AB : partErr [bA, bB] = 0 := by
  simp [partErr, partFrom, named_A, named_B, err_A, err_B]
  simp [bA, bB, leS_one]
theorem part_AC : partErr [bA, bC] ≠ 0 := by
  simp [partErr, partFrom, named_A, err_A]
  simp [bA, bC]
theorem ok_one' {b : Bd} (h1 : b.var.size < 4611686018427387904) (h2 : b.ev.type.size < 4611686018427387904) (h3 : b.ev.attrs = []) : okP [b] := by
  intro x hx
  simp at hx
  subst hx
  exact ⟨h1, ⟨h2, by rw [h3]; decide, by rw [h3]; intro a ha; cases ha⟩⟩
theorem ok_A : okP [bA] := ok_one' (by decide) (by decide) rfl
theorem ok_B : okP [bB] := ok_one' (by decide) (by decide) rfl
theorem ok_C : okP [bC] := ok_one' (by decide) (by decide) rfl
end Go.Abs.M
namespace Go.Abs.M
open Go Go.Abs Go.Proofs
set_option maxRecDepth 20000
set_option linter.unusedSimpArgs false
set_option linter.unusedVariables false

def partV (l : List Bd) : V := .tup [.agg [.sl (l.map encBd)], .c (.int .i64 0)]
theorem of_ok (b : Bd) (h : partErr [b] = 0) (ho : okP [b]) (hl : b.ev.attrs = []) : PCalls Try.prog 19 [.c (.string b.var), .agg (encEv b.ev)] (fun v => v = partV [b]) :=
  (of_spec b.var b.ev ho (by simp [hl])).mono fun v hv => by rw [hv]; exact if_neg (by rw [show (⟨b.var, b.ev⟩ : Bd) = b from rfl, h]; simp)
theorem merge_BA : PCalls Try.prog 11 [.agg [.sl ([bB].map encBd)], .agg [.sl ([bA].map encBd)]] (fun v => v = .tup [.agg [.sl ([bA, bB].map encBd)], .c (.bool true)]) :=
  (merge_spec [bB] [bA] ok_B ok_A (by simp [bA, bB])).mono fun v hv => by
    rw [hv, mrg_BA, mergeV, if_neg (by rw [part_A, part_B]; simp), if_neg (by rw [part_AB]; simp)]
theorem merge_AC : PCalls Try.prog 11 [.agg [.sl ([bA].map encBd)], .agg [.sl ([bC].map encBd)]] (fun v => v = noPart) :=
  (merge_spec [bA] [bC] ok_A ok_C (by simp [bA, bC])).mono fun v hv => by
    rw [hv, mrg_AC, mergeV, if_neg (by rw [part_A, part_C]; simp), if_pos part_AC]
theorem begun_spec : PCalls Try.prog 13 [] (fun v => v = .c (.bool true)) := by
  refine PCalls.intro Try.call13 Try.func13 rfl Try.ntmps13 Try.results13 (by simp) ?_
  have hbeg : beginOf [bA, bB] = 5 := by decide
  have hend : endOf [bA, bB] = 7 := by decide
  refine AW.seq_k fun K1 h1 => ?_
  all_goals refine AW.reg0 ?_
  all_goals (refine S.g rfl rfl fun K' k' => ?_; simp only [zz, reduceIte, Nat.reduceEqDiff, Nat.reduceAdd]; refine k' _ _ ?_; clear k' K')
  all_goals refine S.nil ?_
  all_goals simp only [ze, reduceIte, Nat.reduceEqDiff, Nat.reduceLT, Nat.reduceLeDiff, Nat.reduceAdd, reduceCtorEq, Nat.reduceMul]
  all_goals first | refine h1 _ _ ?_
  refine AW.seq_k fun K2 h2 => ?_
  all_goals refine AW.reg0 ?_
  all_goals (refine S.g rfl rfl fun K' k' => ?_; simp only [zz, reduceIte, Nat.reduceEqDiff, Nat.reduceLT, Nat.reduceLeDiff, Nat.reduceAdd, reduceCtorEq, Nat.reduceMul, zt33, pl33, partV]; refine k' _ _ ?_; clear k' K')
  all_goals (refine S.g rfl rfl fun K' k' => ?_; simp only [zz, reduceIte, Nat.reduceEqDiff, Nat.reduceLT, Nat.reduceLeDiff, Nat.reduceAdd, reduceCtorEq, Nat.reduceMul, zt36, pl36, partV]; refine k' _ _ ?_; clear k' K')
  all_goals (refine S.g rfl rfl fun K' k' => ?_; simp only [zz, reduceIte, Nat.reduceEqDiff, Nat.reduceLT, Nat.reduceLeDiff, Nat.reduceAdd, reduceCtorEq, Nat.reduceMul, partV]; refine PCalls.eqto (of_ok bA part_A ok_A rfl) ?_ <;> (refine k' _ _ ?_; clear k' K'))
  all_goals iterate 6 (refine S.g rfl rfl fun K' k' => ?_; simp only [zz, reduceIte, Nat.reduceEqDiff, Nat.reduceLT, Nat.reduceLeDiff, Nat.reduceAdd, reduceCtorEq, Nat.reduceMul, zt24, ok24, sz24, ag24, partV]; refine k' _ _ ?_; clear k' K')
  all_goals refine S.nil ?_
  all_goals simp only [ze, reduceIte, Nat.reduceEqDiff, Nat.reduceLT, Nat.reduceLeDiff, Nat.reduceAdd, reduceCtorEq, Nat.reduceMul, partV]
  all_goals first | refine h2 _ _ ?_ | refine h1 _ _ ?_
  refine AW.seq_k fun K3 h3 => ?_
  all_goals refine AW.reg0 ?_
  all_goals (refine S.g rfl rfl fun K' k' => ?_; simp only [zz, reduceIte, Nat.reduceEqDiff, Nat.reduceLT, Nat.reduceLeDiff, Nat.reduceAdd, reduceCtorEq, Nat.reduceMul, zt33, pl33, partV]; refine k' _ _ ?_; clear k' K')
  all_goals (refine S.g rfl rfl fun K' k' => ?_; simp only [zz, reduceIte, Nat.reduceEqDiff, Nat.reduceLT, Nat.reduceLeDiff, Nat.reduceAdd, reduceCtorEq, Nat.reduceMul, zt36, pl36, partV]; refine k' _ _ ?_; clear k' K')
  all_goals (refine S.g rfl rfl fun K' k' => ?_; simp only [zz, reduceIte, Nat.reduceEqDiff, Nat.reduceLT, Nat.reduceLeDiff, Nat.reduceAdd, reduceCtorEq, Nat.reduceMul, partV]; refine PCalls.eqto (of_ok bB part_B ok_B rfl) ?_ <;> (refine k' _ _ ?_; clear k' K'))
  all_goals iterate 6 (refine S.g rfl rfl fun K' k' => ?_; simp only [zz, reduceIte, Nat.reduceEqDiff, Nat.reduceLT, Nat.reduceLeDiff, Nat.reduceAdd, reduceCtorEq, Nat.reduceMul, zt24, ok24, sz24, ag24, partV]; refine k' _ _ ?_; clear k' K')
  all_goals refine S.nil ?_
  all_goals simp only [ze, reduceIte, Nat.reduceEqDiff, Nat.reduceLT, Nat.reduceLeDiff, Nat.reduceAdd, reduceCtorEq, Nat.reduceMul, partV]
  all_goals first | refine h3 _ _ ?_ | refine h2 _ _ ?_ | refine h1 _ _ ?_
  refine AW.seq_k fun K4 h4 => ?_
  all_goals refine AW.reg0 ?_
  all_goals (refine S.g rfl rfl fun K' k' => ?_; simp only [zz, reduceIte, Nat.reduceEqDiff, Nat.reduceLT, Nat.reduceLeDiff, Nat.reduceAdd, reduceCtorEq, Nat.reduceMul, zt33, pl33, partV]; refine k' _ _ ?_; clear k' K')
  all_goals (refine S.g rfl rfl fun K' k' => ?_; simp only [zz, reduceIte, Nat.reduceEqDiff, Nat.reduceLT, Nat.reduceLeDiff, Nat.reduceAdd, reduceCtorEq, Nat.reduceMul, zt36, pl36, partV]; refine k' _ _ ?_; clear k' K')
  all_goals (refine S.g rfl rfl fun K' k' => ?_; simp only [zz, reduceIte, Nat.reduceEqDiff, Nat.reduceLT, Nat.reduceLeDiff, Nat.reduceAdd, reduceCtorEq, Nat.reduceMul, partV]; refine PCalls.eqto (of_ok bC part_C ok_C rfl) ?_ <;> (refine k' _ _ ?_; clear k' K'))
  all_goals iterate 6 (refine S.g rfl rfl fun K' k' => ?_; simp only [zz, reduceIte, Nat.reduceEqDiff, Nat.reduceLT, Nat.reduceLeDiff, Nat.reduceAdd, reduceCtorEq, Nat.reduceMul, zt24, ok24, sz24, ag24, partV]; refine k' _ _ ?_; clear k' K')
  all_goals refine S.nil ?_
  all_goals simp only [ze, reduceIte, Nat.reduceEqDiff, Nat.reduceLT, Nat.reduceLeDiff, Nat.reduceAdd, reduceCtorEq, Nat.reduceMul, partV]
  all_goals first | refine h4 _ _ ?_ | refine h3 _ _ ?_ | refine h2 _ _ ?_ | refine h1 _ _ ?_
  refine AW.seq_k fun K5 h5 => ?_
  all_goals refine AW.reg0 ?_
  all_goals iterate 2 (refine S.g rfl rfl fun K' k' => ?_; simp only [zz, reduceIte, Nat.reduceEqDiff, Nat.reduceLT, Nat.reduceLeDiff, Nat.reduceAdd, reduceCtorEq, Nat.reduceMul, ok24, sz24, ag24, partV]; refine k' _ _ ?_; clear k' K')
  all_goals (refine S.g rfl rfl fun K' k' => ?_; simp only [zz, reduceIte, Nat.reduceEqDiff, Nat.reduceLT, Nat.reduceLeDiff, Nat.reduceAdd, reduceCtorEq, Nat.reduceMul, partV]; refine PCalls.eqto merge_BA ?_ <;> (refine k' _ _ ?_; clear k' K'))
  all_goals iterate 6 (refine S.g rfl rfl fun K' k' => ?_; simp only [zz, reduceIte, Nat.reduceEqDiff, Nat.reduceLT, Nat.reduceLeDiff, Nat.reduceAdd, reduceCtorEq, Nat.reduceMul, zt24, ok24, sz24, ag24, partV]; refine k' _ _ ?_; clear k' K')
  all_goals refine S.nil ?_
  all_goals simp only [ze, reduceIte, Nat.reduceEqDiff, Nat.reduceLT, Nat.reduceLeDiff, Nat.reduceAdd, reduceCtorEq, Nat.reduceMul, partV]
  all_goals first | refine h5 _ _ ?_ | refine h4 _ _ ?_ | refine h3 _ _ ?_ | refine h2 _ _ ?_ | refine h1 _ _ ?_
  refine AW.seq_k fun K6 h6 => ?_
  all_goals refine AW.reg0 ?_
  all_goals iterate 2 (refine S.g rfl rfl fun K' k' => ?_; simp only [zz, reduceIte, Nat.reduceEqDiff, Nat.reduceLT, Nat.reduceLeDiff, Nat.reduceAdd, reduceCtorEq, Nat.reduceMul, ok24, sz24, ag24, partV, noPart]; refine k' _ _ ?_; clear k' K')
  all_goals (refine S.g rfl rfl fun K' k' => ?_; simp only [zz, reduceIte, Nat.reduceEqDiff, Nat.reduceLT, Nat.reduceLeDiff, Nat.reduceAdd, reduceCtorEq, Nat.reduceMul, partV, noPart]; refine PCalls.eqto merge_AC ?_ <;> (refine k' _ _ ?_; clear k' K'))
  all_goals iterate 6 (refine S.g rfl rfl fun K' k' => ?_; simp only [zz, reduceIte, Nat.reduceEqDiff, Nat.reduceLT, Nat.reduceLeDiff, Nat.reduceAdd, reduceCtorEq, Nat.reduceMul, zt24, ok24, sz24, ag24, partV, noPart]; refine k' _ _ ?_; clear k' K')
  all_goals refine S.nil ?_
  all_goals simp only [ze, reduceIte, Nat.reduceEqDiff, Nat.reduceLT, Nat.reduceLeDiff, Nat.reduceAdd, reduceCtorEq, Nat.reduceMul, partV, noPart]
  all_goals first | refine h6 _ _ ?_ | refine h5 _ _ ?_ | refine h4 _ _ ?_ | refine h3 _ _ ?_ | refine h2 _ _ ?_ | refine h1 _ _ ?_
  refine AW.seq_k fun K7 h7 => ?_
  all_goals refine AW.reg0 ?_
  all_goals (refine S.g rfl rfl fun K' k' => ?_; simp only [zz, reduceIte, Nat.reduceEqDiff, Nat.reduceAdd, hbeg, hend, List.length_map]; refine k' _ _ ?_; clear k' K')
  all_goals (refine S.g rfl rfl fun K' k' => ?_; simp only [zz, reduceIte, Nat.reduceEqDiff, Nat.reduceLT, Nat.reduceLeDiff, Nat.reduceAdd, reduceCtorEq, Nat.reduceMul, hbeg, hend, List.length_map]; refine S.bool fun b a42 => ?_; cases b <;> (try (exfalso; first | exact Bool.noConfusion a42 | (have h := of_decide_eq_true a42; omega) | (have h := of_decide_eq_false a42; omega))) <;> (refine k' _ _ ?_; clear k' K'))
  all_goals (refine S.g rfl rfl fun K' k' => ?_; simp only [zz, reduceIte, Nat.reduceEqDiff, Nat.reduceAdd, hbeg, hend, List.length_map]; refine k' _ _ ?_; clear k' K')
  all_goals (first | (refine S.y rfl rfl rfl rfl fun K' k' => ?_; simp only [zz, reduceIte, Nat.reduceEqDiff, Nat.reduceAdd, hbeg, hend, List.length_map]; refine k' _ _ ?_; clear k' K') | ((first | refine S.x rfl rfl rfl rfl fun K' k' => ?_ | refine S.u rfl rfl rfl rfl fun K' k' => ?_); simp only [ze, reduceIte, Nat.reduceEqDiff]; refine k' _ _ ?_; clear k' K'))
  all_goals first | (refine S.y rfl rfl rfl rfl fun K' k' => ?_; simp only [zz, reduceIte, Nat.reduceEqDiff, Nat.reduceLT, Nat.reduceLeDiff, Nat.reduceAdd, reduceCtorEq, Nat.reduceMul, hbeg, hend, List.length_map]; refine S.bool fun b a45 => ?_; cases b <;> (try (exfalso; first | exact Bool.noConfusion a45 | (have h := of_decide_eq_true a45; omega) | (have h := of_decide_eq_false a45; omega))) <;> (refine k' _ _ ?_; clear k' K')) | ((first | refine S.x rfl rfl rfl rfl fun K' k' => ?_ | refine S.u rfl rfl rfl rfl fun K' k' => ?_); simp only [ze, reduceIte, Nat.reduceEqDiff]; (refine k' _ _ ?_; clear k' K'))
  all_goals iterate 2 (refine S.g rfl rfl fun K' k' => ?_; simp only [zz, reduceIte, Nat.reduceEqDiff, Nat.reduceAdd, hbeg, hend, List.length_map]; refine k' _ _ ?_; clear k' K')
  all_goals (first | (refine S.y rfl rfl rfl rfl fun K' k' => ?_; simp only [zz, reduceIte, Nat.reduceEqDiff, Nat.reduceAdd, hbeg, hend, List.length_map]; refine k' _ _ ?_; clear k' K') | ((first | refine S.x rfl rfl rfl rfl fun K' k' => ?_ | refine S.u rfl rfl rfl rfl fun K' k' => ?_); simp only [ze, reduceIte, Nat.reduceEqDiff]; refine k' _ _ ?_; clear k' K'))
  all_goals first | (refine S.y rfl rfl rfl rfl fun K' k' => ?_; simp only [zz, reduceIte, Nat.reduceEqDiff, Nat.reduceLT, Nat.reduceLeDiff, Nat.reduceAdd, reduceCtorEq, Nat.reduceMul, hbeg, hend, List.length_map]; refine S.bool fun b a49 => ?_; cases b <;> (try (exfalso; first | exact Bool.noConfusion a49 | (have h := of_decide_eq_true a49; omega) | (have h := of_decide_eq_false a49; omega))) <;> (refine k' _ _ ?_; clear k' K')) | ((first | refine S.x rfl rfl rfl rfl fun K' k' => ?_ | refine S.u rfl rfl rfl rfl fun K' k' => ?_); simp only [ze, reduceIte, Nat.reduceEqDiff]; (refine k' _ _ ?_; clear k' K'))
  all_goals iterate 2 (refine S.g rfl rfl fun K' k' => ?_; simp only [zz, reduceIte, Nat.reduceEqDiff, Nat.reduceAdd, hbeg, hend, List.length_map]; refine k' _ _ ?_; clear k' K')
  all_goals (first | (refine S.y rfl rfl rfl rfl fun K' k' => ?_; simp only [zz, reduceIte, Nat.reduceEqDiff, Nat.reduceAdd, hbeg, hend, List.length_map]; refine k' _ _ ?_; clear k' K') | ((first | refine S.x rfl rfl rfl rfl fun K' k' => ?_ | refine S.u rfl rfl rfl rfl fun K' k' => ?_); simp only [ze, reduceIte, Nat.reduceEqDiff]; refine k' _ _ ?_; clear k' K'))
  all_goals iterate 2 (refine S.g rfl rfl fun K' k' => ?_; simp only [zz, reduceIte, Nat.reduceEqDiff, Nat.reduceAdd, hbeg, hend, List.length_map]; refine k' _ _ ?_; clear k' K')
  all_goals iterate 2 (first | (refine S.y rfl rfl rfl rfl fun K' k' => ?_; simp only [zz, reduceIte, Nat.reduceEqDiff, Nat.reduceAdd, hbeg, hend, List.length_map]; refine k' _ _ ?_; clear k' K') | ((first | refine S.x rfl rfl rfl rfl fun K' k' => ?_ | refine S.u rfl rfl rfl rfl fun K' k' => ?_); simp only [ze, reduceIte, Nat.reduceEqDiff]; refine k' _ _ ?_; clear k' K'))
  all_goals iterate 2 (refine S.g rfl rfl fun K' k' => ?_; simp only [zz, reduceIte, Nat.reduceEqDiff, Nat.reduceAdd, hbeg, hend, List.length_map]; refine k' _ _ ?_; clear k' K')
  all_goals (first | (refine S.y rfl rfl rfl rfl fun K' k' => ?_; simp only [zz, reduceIte, Nat.reduceEqDiff, Nat.reduceLT, Nat.reduceLeDiff, Nat.reduceAdd, reduceCtorEq, Nat.reduceMul, ok24, sz24, ag24, hbeg, hend, List.length_map]; refine k' _ _ ?_; clear k' K') | ((first | refine S.x rfl rfl rfl rfl fun K' k' => ?_ | refine S.u rfl rfl rfl rfl fun K' k' => ?_); simp only [ze, reduceIte, Nat.reduceEqDiff]; refine k' _ _ ?_; clear k' K'))
  all_goals first | (refine S.y rfl rfl rfl rfl fun K' k' => ?_; simp only [zz, reduceIte, Nat.reduceEqDiff, Nat.reduceLT, Nat.reduceLeDiff, Nat.reduceAdd, reduceCtorEq, Nat.reduceMul, hbeg, hend, List.length_map]; refine PCalls.eqto (begin_spec [bA, bB] (by simp)) ?_ <;> (refine k' _ _ ?_; clear k' K')) | ((first | refine S.x rfl rfl rfl rfl fun K' k' => ?_ | refine S.u rfl rfl rfl rfl fun K' k' => ?_); simp only [ze, reduceIte, Nat.reduceEqDiff]; (refine k' _ _ ?_; clear k' K'))
  all_goals first | (refine S.y rfl rfl rfl rfl fun K' k' => ?_; simp only [zz, reduceIte, Nat.reduceEqDiff, Nat.reduceLT, Nat.reduceLeDiff, Nat.reduceAdd, reduceCtorEq, Nat.reduceMul, hbeg, hend, List.length_map]; refine S.bool fun b a61 => ?_; cases b <;> (try (exfalso; first | exact Bool.noConfusion a61 | (have h := of_decide_eq_true a61; omega) | (have h := of_decide_eq_false a61; omega))) <;> (refine k' _ _ ?_; clear k' K')) | ((first | refine S.x rfl rfl rfl rfl fun K' k' => ?_ | refine S.u rfl rfl rfl rfl fun K' k' => ?_); simp only [ze, reduceIte, Nat.reduceEqDiff]; (refine k' _ _ ?_; clear k' K'))
  all_goals iterate 2 (refine S.g rfl rfl fun K' k' => ?_; simp only [zz, reduceIte, Nat.reduceEqDiff, Nat.reduceAdd, hbeg, hend, List.length_map]; refine k' _ _ ?_; clear k' K')
  all_goals (first | (refine S.y rfl rfl rfl rfl fun K' k' => ?_; simp only [zz, reduceIte, Nat.reduceEqDiff, Nat.reduceLT, Nat.reduceLeDiff, Nat.reduceAdd, reduceCtorEq, Nat.reduceMul, ok24, sz24, ag24, hbeg, hend, List.length_map]; refine k' _ _ ?_; clear k' K') | ((first | refine S.x rfl rfl rfl rfl fun K' k' => ?_ | refine S.u rfl rfl rfl rfl fun K' k' => ?_); simp only [ze, reduceIte, Nat.reduceEqDiff]; refine k' _ _ ?_; clear k' K'))
  all_goals first | (refine S.y rfl rfl rfl rfl fun K' k' => ?_; simp only [zz, reduceIte, Nat.reduceEqDiff, Nat.reduceLT, Nat.reduceLeDiff, Nat.reduceAdd, reduceCtorEq, Nat.reduceMul, hbeg, hend, List.length_map]; refine PCalls.eqto (end_spec [bA, bB] (by simp)) ?_ <;> (refine k' _ _ ?_; clear k' K')) | ((first | refine S.x rfl rfl rfl rfl fun K' k' => ?_ | refine S.u rfl rfl rfl rfl fun K' k' => ?_); simp only [ze, reduceIte, Nat.reduceEqDiff]; (refine k' _ _ ?_; clear k' K'))
  all_goals first | (refine S.y rfl rfl rfl rfl fun K' k' => ?_; simp only [zz, reduceIte, Nat.reduceEqDiff, Nat.reduceLT, Nat.reduceLeDiff, Nat.reduceAdd, reduceCtorEq, Nat.reduceMul, hbeg, hend, List.length_map]; refine S.bool fun b a66 => ?_; cases b <;> (try (exfalso; first | exact Bool.noConfusion a66 | (have h := of_decide_eq_true a66; omega) | (have h := of_decide_eq_false a66; omega))) <;> (refine k' _ _ ?_; clear k' K')) | ((first | refine S.x rfl rfl rfl rfl fun K' k' => ?_ | refine S.u rfl rfl rfl rfl fun K' k' => ?_); simp only [ze, reduceIte, Nat.reduceEqDiff]; (refine k' _ _ ?_; clear k' K'))
  all_goals iterate 2 (refine S.g rfl rfl fun K' k' => ?_; simp only [zz, reduceIte, Nat.reduceEqDiff, Nat.reduceAdd, hbeg, hend, List.length_map]; refine k' _ _ ?_; clear k' K')
  all_goals iterate 4 (first | (refine S.y rfl rfl rfl rfl fun K' k' => ?_; simp only [zz, reduceIte, Nat.reduceEqDiff, Nat.reduceLT, Nat.reduceLeDiff, Nat.reduceAdd, reduceCtorEq, Nat.reduceMul, of24_0, ok22, sz22, ag22, sl22, el22, ok42, sz42, ag42, hbeg, hend, List.length_map]; refine k' _ _ ?_; clear k' K') | ((first | refine S.x rfl rfl rfl rfl fun K' k' => ?_ | refine S.u rfl rfl rfl rfl fun K' k' => ?_); simp only [ze, reduceIte, Nat.reduceEqDiff]; refine k' _ _ ?_; clear k' K'))
  all_goals iterate 2 (refine S.g rfl rfl fun K' k' => ?_; simp only [zz, reduceIte, Nat.reduceEqDiff, Nat.reduceAdd, hbeg, hend, List.length_map]; refine k' _ _ ?_; clear k' K')
  all_goals refine S.nil ?_
  all_goals simp only [ze, reduceIte, Nat.reduceEqDiff, Nat.reduceLT, Nat.reduceLeDiff, Nat.reduceAdd, reduceCtorEq, Nat.reduceMul, hbeg, hend, List.length_map]
  all_goals first | refine h7 _ _ ?_ | refine h6 _ _ ?_ | refine h5 _ _ ?_ | refine h4 _ _ ?_ | refine h3 _ _ ?_ | refine h2 _ _ ?_ | refine h1 _ _ ?_
  refine AW.ret ?_
  all_goals simp only [zs, reduceIte, Nat.reduceEqDiff, Nat.reduceLT, Nat.reduceLeDiff, Nat.reduceAdd, reduceCtorEq, Nat.reduceMul]
  all_goals rfl
end Go.Abs.M
namespace Go.Abs.M
open Go Go.Abs Go.Proofs
set_option maxRecDepth 20000
set_option linter.unusedSimpArgs false
set_option linter.unusedVariables false

theorem allEq_refl {α : Type} {f : α → α → Bool} (h : ∀ x, f x x = true) : ∀ l : List α, allEq f l l = true
  | [] => rfl
  | x :: l => by simp [allEq, h, allEq_refl h l]
theorem eqAttr_refl (a : Attr) : eqAttr a a = true := by simp [eqAttr]
theorem eqEv_refl (a : Ev) : eqEv a a = true := by simp [eqEv, allEq_refl eqAttr_refl]
theorem eqBd_refl (a : Bd) : eqBd a a = true := by simp [eqBd, eqEv_refl]

/-- What a given part must be, for the contracts. -/
structure okI (l : List Bd) : Prop where
  ok : okP l
  attrs : ∀ x ∈ l, x.ev.attrs.length * 48 ≤ 140737488355328
  len : l.length * 80 ≤ 140737488355328

theorem law_merges (a b : List Bd) (ha : okI a) (hb : okI b) : PCalls Try.prog 3 [.agg [.sl (a.map encBd)], .agg [.sl (b.map encBd)]] (fun v => v = .c (.bool true)) := by
  have hat : ∀ x ∈ a ++ b, x.ev.attrs.length * 48 ≤ 140737488355328 := fun x hx => by
    rcases List.mem_append.1 hx with h | h
    · exact ha.attrs x h
    · exact hb.attrs x h
  have hm1 := merge_spec a b ha.ok hb.ok hat
  have hm2 := rmerge_spec a b ha.ok hb.ok hat
  have hr : ∃ (q : List Bd) (y : Bool), mergeV a b (mrg a b) = .tup [.agg [.sl (q.map encBd)], .c (.bool y)] ∧ q.length < 4611686018427387904 ∧ (∀ x ∈ q, x.ev.attrs.length < 4611686018427387904) := by
    unfold mergeV
    split
    · exact ⟨[], false, rfl, by simp, by simp⟩
    · split
      · exact ⟨[], false, rfl, by simp, by simp⟩
      · refine ⟨mrg a b, true, rfl, ?_, fun x hx => ?_⟩
        · rw [mrg_len]; have := ha.len; have := hb.len; omega
        · have := hat x (mrg_mem a b x hx); omega
  obtain ⟨q, y, hv, hq1, hq2⟩ := hr
  rw [rmergeV, hv] at hm2
  rw [hv] at hm1
  have hsm : allEq eqBd q q = true := allEq_refl eqBd_refl q
  refine PCalls.intro Try.call3 Try.func3 rfl Try.ntmps3 Try.results3 (by simp) ?_
  refine AW.seq_k fun K1 h1 => ?_
  all_goals refine AW.reg0 ?_
  all_goals iterate 3 (refine S.g rfl rfl fun K' k' => ?_; simp only [zz, reduceIte, Nat.reduceEqDiff, Nat.reduceLT, Nat.reduceLeDiff, Nat.reduceAdd, reduceCtorEq, Nat.reduceMul, ok24, sz24, ag24]; refine k' _ _ ?_; clear k' K')
  all_goals refine S.nil ?_
  all_goals simp only [ze, reduceIte, Nat.reduceEqDiff, Nat.reduceLT, Nat.reduceLeDiff, Nat.reduceAdd, reduceCtorEq, Nat.reduceMul]
  all_goals first | refine h1 _ _ ?_
  refine AW.seq_k fun K2 h2 => ?_
  all_goals refine AW.reg0 ?_
  all_goals iterate 2 (refine S.g rfl rfl fun K' k' => ?_; simp only [zz, reduceIte, Nat.reduceEqDiff, Nat.reduceLT, Nat.reduceLeDiff, Nat.reduceAdd, reduceCtorEq, Nat.reduceMul, ok24, sz24, ag24]; refine k' _ _ ?_; clear k' K')
  all_goals (refine S.g rfl rfl fun K' k' => ?_; simp only [zz, reduceIte, Nat.reduceEqDiff, Nat.reduceLT, Nat.reduceLeDiff, Nat.reduceAdd, reduceCtorEq, Nat.reduceMul]; refine PCalls.eqto hm1 ?_ <;> (refine k' _ _ ?_; clear k' K'))
  all_goals iterate 6 (refine S.g rfl rfl fun K' k' => ?_; simp only [zz, reduceIte, Nat.reduceEqDiff, Nat.reduceLT, Nat.reduceLeDiff, Nat.reduceAdd, reduceCtorEq, Nat.reduceMul, zt24, ok24, sz24, ag24]; refine k' _ _ ?_; clear k' K')
  all_goals refine S.nil ?_
  all_goals simp only [ze, reduceIte, Nat.reduceEqDiff, Nat.reduceLT, Nat.reduceLeDiff, Nat.reduceAdd, reduceCtorEq, Nat.reduceMul]
  all_goals first | refine h2 _ _ ?_ | refine h1 _ _ ?_
  refine AW.seq_k fun K3 h3 => ?_
  all_goals refine AW.reg0 ?_
  all_goals iterate 2 (refine S.g rfl rfl fun K' k' => ?_; simp only [zz, reduceIte, Nat.reduceEqDiff, Nat.reduceLT, Nat.reduceLeDiff, Nat.reduceAdd, reduceCtorEq, Nat.reduceMul, ok24, sz24, ag24]; refine k' _ _ ?_; clear k' K')
  all_goals (refine S.g rfl rfl fun K' k' => ?_; simp only [zz, reduceIte, Nat.reduceEqDiff, Nat.reduceLT, Nat.reduceLeDiff, Nat.reduceAdd, reduceCtorEq, Nat.reduceMul]; refine PCalls.eqto hm2 ?_ <;> (refine k' _ _ ?_; clear k' K'))
  all_goals iterate 6 (refine S.g rfl rfl fun K' k' => ?_; simp only [zz, reduceIte, Nat.reduceEqDiff, Nat.reduceLT, Nat.reduceLeDiff, Nat.reduceAdd, reduceCtorEq, Nat.reduceMul, zt24, ok24, sz24, ag24]; refine k' _ _ ?_; clear k' K')
  all_goals refine S.nil ?_
  all_goals simp only [ze, reduceIte, Nat.reduceEqDiff, Nat.reduceLT, Nat.reduceLeDiff, Nat.reduceAdd, reduceCtorEq, Nat.reduceMul]
  all_goals first | refine h3 _ _ ?_ | refine h2 _ _ ?_ | refine h1 _ _ ?_
  refine AW.seq_k fun K4 h4 => ?_
  all_goals refine AW.reg0 ?_
  all_goals (refine S.g rfl rfl fun K' k' => ?_; simp only [zz, reduceIte, Nat.reduceEqDiff, Nat.reduceLT, Nat.reduceLeDiff, Nat.reduceAdd, reduceCtorEq, Nat.reduceMul, un4, hsm, beq_self_eq_true]; refine PCalls.eqto begun_spec ?_; refine S.bool fun b a21 => ?_; cases b <;> (try (exfalso; first | exact Bool.noConfusion a21 | (have h := of_decide_eq_true a21; omega) | (have h := of_decide_eq_false a21; omega))) <;> (refine k' _ _ ?_; clear k' K'))
  all_goals (refine S.g rfl rfl fun K' k' => ?_; simp only [zz, reduceIte, Nat.reduceEqDiff, Nat.reduceAdd, un4, hsm, beq_self_eq_true]; refine k' _ _ ?_; clear k' K')
  all_goals iterate 2 (first | (refine S.y rfl rfl rfl rfl fun K' k' => ?_; simp only [zz, reduceIte, Nat.reduceEqDiff, Nat.reduceAdd, un4, hsm, beq_self_eq_true]; refine k' _ _ ?_; clear k' K') | ((first | refine S.x rfl rfl rfl rfl fun K' k' => ?_ | refine S.u rfl rfl rfl rfl fun K' k' => ?_); simp only [ze, reduceIte, Nat.reduceEqDiff]; refine k' _ _ ?_; clear k' K'))
  all_goals first | (refine S.y rfl rfl rfl rfl fun K' k' => ?_; simp only [zz, reduceIte, Nat.reduceEqDiff, Nat.reduceLT, Nat.reduceLeDiff, Nat.reduceAdd, reduceCtorEq, Nat.reduceMul, un4, un4, hsm, beq_self_eq_true]; refine S.bool fun b a25 => ?_; cases b <;> (try (exfalso; first | exact Bool.noConfusion a25 | (have h := of_decide_eq_true a25; omega) | (have h := of_decide_eq_false a25; omega))) <;> (refine k' _ _ ?_; clear k' K')) | ((first | refine S.x rfl rfl rfl rfl fun K' k' => ?_ | refine S.u rfl rfl rfl rfl fun K' k' => ?_); simp only [ze, reduceIte, Nat.reduceEqDiff]; (refine k' _ _ ?_; clear k' K'))
  all_goals iterate 2 (refine S.g rfl rfl fun K' k' => ?_; simp only [zz, reduceIte, Nat.reduceEqDiff, Nat.reduceAdd, un4, hsm, beq_self_eq_true]; refine k' _ _ ?_; clear k' K')
  all_goals iterate 2 (first | (refine S.y rfl rfl rfl rfl fun K' k' => ?_; simp only [zz, reduceIte, Nat.reduceEqDiff, Nat.reduceLT, Nat.reduceLeDiff, Nat.reduceAdd, reduceCtorEq, Nat.reduceMul, ok24, sz24, ag24, un4, hsm, beq_self_eq_true]; refine k' _ _ ?_; clear k' K') | ((first | refine S.x rfl rfl rfl rfl fun K' k' => ?_ | refine S.u rfl rfl rfl rfl fun K' k' => ?_); simp only [ze, reduceIte, Nat.reduceEqDiff]; refine k' _ _ ?_; clear k' K'))
  all_goals first | (refine S.y rfl rfl rfl rfl fun K' k' => ?_; simp only [zz, reduceIte, Nat.reduceEqDiff, Nat.reduceLT, Nat.reduceLeDiff, Nat.reduceAdd, reduceCtorEq, Nat.reduceMul, un4, hsm, beq_self_eq_true]; refine PCalls.eqto (rsame_part q q hq1 hq2) ?_ <;> (refine k' _ _ ?_; clear k' K')) | ((first | refine S.x rfl rfl rfl rfl fun K' k' => ?_ | refine S.u rfl rfl rfl rfl fun K' k' => ?_); simp only [ze, reduceIte, Nat.reduceEqDiff]; (refine k' _ _ ?_; clear k' K'))
  all_goals iterate 2 (refine S.g rfl rfl fun K' k' => ?_; simp only [zz, reduceIte, Nat.reduceEqDiff, Nat.reduceAdd, un4, hsm, beq_self_eq_true]; refine k' _ _ ?_; clear k' K')
  all_goals refine S.nil ?_
  all_goals simp only [ze, reduceIte, Nat.reduceEqDiff, Nat.reduceLT, Nat.reduceLeDiff, Nat.reduceAdd, reduceCtorEq, Nat.reduceMul, un4, hsm, beq_self_eq_true]
  all_goals first | refine h4 _ _ ?_ | refine h3 _ _ ?_ | refine h2 _ _ ?_ | refine h1 _ _ ?_
  refine AW.ret ?_
  all_goals simp only [zs, reduceIte, Nat.reduceEqDiff, Nat.reduceLT, Nat.reduceLeDiff, Nat.reduceAdd, reduceCtorEq, Nat.reduceMul]
end Go.Abs.M
